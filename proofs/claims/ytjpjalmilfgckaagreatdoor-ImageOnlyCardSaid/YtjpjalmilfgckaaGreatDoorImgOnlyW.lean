/- The law ImageOnly, walked. Conditions: none of its own; each lemma states what it asks. -/
import Derived.Test.YtjpjalmilfgckaaGreatDoorIm31
set_option maxRecDepth 100000
set_option linter.unusedVariables false
set_option linter.unusedSimpArgs false
namespace Go.Proofs.YtjpjalmilfgckaaGreatDoor
open Go.RowKit
theorem StOk.chk {s:Sc} {st:St} (h:StOk s st) (hq:st.2.1<=9223372036854775807) {w:World} {MA RA LA:Option Addr} {mn rn ln:Nat} (hst:StAt w MA mn RA rn LA ln st.2.2.1 st.2.2.2.1 st.2.2.2.2) (hs:ScOk s) {n1 n2:Nat} (h1:n1<=1000000) (h2:n2<=1000000):ChkOk n1 n2 mn rn ln s st:=by
 have e1:=mks_len hst.marks
 have e2:=hst.rows.len
 have e3:=reads_len hst.last
 have e4:=h.many
 have e5:=h.last
 have e6:=(h.baok hq)
 have e7:=h.fits.rows
 refine ⟨h1,h2,by simp only [maxLen];omega,?_,by simp only [maxLen];omega,hs,fun m hm=>?_,h.fits.itOk e6⟩
 ·have:st.2.2.2.1.length<=1048576:=e7
  simp only [maxLen]
  omega
 have:=h.mkk m hm
 exact ⟨by simp only [maxLen];omega,by omega,by omega⟩
set_option maxHeartbeats 8000000 in
theorem imageOnly_walk (A:Option Addr) (n c:Nat) (l:List (Sh×Sc)) (B:Option Addr) (m cb:Nat) (xs:List UInt8) (w:World) (hl:Reads w w.heap.size 2 A n (l.flatMap fun q=>scV q.1)) (hn:n<=c) (hc:c<=maxLen) (hq:∀ q∈l,SchIn w w.heap.size q.1 q.2)
  (hx:Reads w w.heap.size 1 B m (u8s xs)) (hm:m<=cb) (hcb:cb<=maxLen) (hT:Tab2 w.heap.size w) (hE:ErrT w) :
  Calls Tryz.prog 6 #[.slice A n c,.slice B m cb] w fun e w'=>e=.returned (.bool true)/\Below w.heap.size w w':=by
 obtain ⟨s0,hs0,hs1,hs2,hs3⟩:=info_parts schema_info
 have Ht9:=Lib.hid (show ∀ w',Below w.heap.size w w'->Tab2 w'.heap.size w'/\ErrT w' from fun w' h=>⟨hT.on h,hE.on h⟩)
 have Hl:=Lib.hid hl
 have Hq:=Lib.hid hq
 have HKon:=Lib.hid (show ∀ (w1 w2:World),True->Below w1.heap.size w1 w2->True from fun _ _ h _=>h)
 have HKap:=Lib.hid (show ∀ (w1 w2:World) (n:Nat) (v:Value) (ys:List Value) (b:Nat),True->w1.ownsRow b 48 2 v n ys->w1.grownBy w2 v.ownBlock->True from fun _ _ _ _ _ _ h _ _=>h)
 obtain ⟨mn,hmn⟩:∃ mn:Nat,mn=min m 2000:=⟨_,rfl⟩
 have hmi:min (m:Int) 2000=(mn:Int):=by omega
 have h1m:mn<=m:=by omega
 have h2m:mn<=2000:=by omega
 have h3m:mn<=cb:=by omega
 have h4m:(mn:Int)<=(cb:Int):=by omega
 have hcb63:cb<=9223372036854775807:=by simp only [maxLen] at hcb;omega
 have hn63:n<=9223372036854775807:=by simp only [maxLen] at hc;omega
 have HX0:=Lib.hid (show Reads w w.heap.size 1 B mn (u8s (xs.take mn)) by have:=hx.head h1m;rwa [Nat.mul_one,u8s_take] at this)
 clear hl hq hx hT hE hmn
 go_enter Tryz.func6,Tryz.ntmps6
 go_wp2_with fail
 with_reducible refine (iworks_yes w (Ht9.out _ (Below.refl _ _)).1 (Ht9.out _ (Below.refl _ _)).2).mono ?_
 rintro e w1 ⟨rfl,hb⟩
 have HB:=Lib.hid hb
 clear hb
 go_wp2
 go_loopw [5,6] (fun u ix wr=>∃ (i:Nat) (A5:Option Addr) (c5:Nat),i<=n/\i<=8/\u=.slice A5 i c5/\ix=.int .i64 (i:Int)/\Hid (SchsOwn wr w.heap.size A5 i c5 (cutL l i))/\Hid True/\Hid (Below w.heap.size w wr)) (fun _ ix _=>n-(intOf ix).toNat)
 case atStart=>exact ⟨0,none,0,Nat.zero_le _,by omega,rfl,rfl,Lib.hid SchsOwn.nil,Lib.hid trivial,HB⟩
 case round=>
  clear HB
  obtain ⟨i,A5,c5,hin,hi8,rfl,rfl,HLs,HK,HB⟩:=hrel
  by_cases hlt:i<n/\i<8
  ·obtain ⟨hlt1,hlt2⟩:=hlt
   have d1:decide ((i:Int)<(n:Int))=true:=by simp;omega
   have d2:decide ((i:Int)<8)=true:=by simp;omega
   have hii:(i:Int)<(n:Int):=by omega
   have hi1':i+1<=n:=hlt1
   have hi2':i+1<=8:=hlt2
   have hsa:i+1<=maxLen:=by simp only [maxLen];omega
   have hsb:(i+1)*48<=70368744177664:=by omega
   obtain ⟨ad,qq,rfl,hbk,hqj,c0,c1⟩:=scs_at (Hl.out.below HB.out) hlt1
   have Hcs:=Lib.hid (cutL_succ hqj)
   have Hqi:=Lib.hid (Hq.out qq (List.mem_of_getElem? hqj))
   clear hqj hbk
   go_wp2_with fail
   with_reducible refine (columns28_any qq.1.1.1 qq.1.1.2.1 qq.1.1.2.2 qq.1.2.1 qq.1.2.2.1 qq.1.2.2.2 qq.2 _ ((ScAt.of_in Hqi.out).on HB.out) Hqi.out.c1 Hqi.out.c2 Hqi.out.k1 Hqi.out.k2 Hqi.out.ok).mono ?_
   rintro e w3 ⟨D1,n1,e1,D2,n2,e2,rfl,hn1,hn2,o1,o2,hb⟩
   have hal:=bal (Below.refl w3.heap.size w3) (.cells #[.slice D1 n1 e1,.slice D2 n2 e2] 48)
   have HRS:=Lib.hid (RowsS.on (RowsS.mk (own_mono o1 HB.out.size) (own_mono o2 HB.out.size)) hal)
   have HRl:=Lib.hid ((Blk.new w3 48 #[.slice D1 n1 e1,.slice D2 n2 e2]).readsN 2 1 (scV ((D1,n1,e1),(D2,n2,e2))) rfl rfl)
   obtain ⟨hs,g1,g2⟩:=(HLs.out.on hb).on hal
   have G1:=Lib.hid g1
   have G2:=Lib.hid g2
   have HKa:=Lib.hid (HKon.out _ _ (HKon.out _ _ HK.out hb) hal)
   have HBa:=Lib.hid (bon (bon HB.out hb) hal)
   have Hnn:=Lib.hid (And.intro hn1 hn2)
   clear o1 o2 hb hal g1 g2 hn1 hn2 c0 c1
   go_wp2_with (at_builtin
                refine wpList_append_any _ rfl (.tmp 24) (.tmp 30) 59 rfl w.heap.size 48 s0 (.agg #[.slice none 0 0,.slice none 0 0]) 2 48 Tryz.underlying59 hs0 hs1 hs2 hs3 rfl (by decide) A5 i c5 _ rfl G1.out (some ⟨_,0,none⟩) 1 1 (scV ((D1,n1,e1),(D2,n2,e2))) rfl HRl.out (fun u hu=>by simp [scV] at hu;rcases hu with rfl | rfl<;>rfl) hsa hsb HBa.out.size ?_
                intro A8 c8 w8 r1 r2 r3 r4 r5
                have R1:=Lib.hid (schs_app (h:=((D1,n1,e1),(D2,n2,e2))) (s:=cutsc qq.2) G1.out G2.out HRS.out Hnn.out r3 r1)
                have R2:=Lib.hid (HKap.out _ _ _ _ _ _ HKa.out G1.out r3)
                have R3:=Lib.hid (HBa.out.trans r2)
                clear r1 r2 r3 r4 r5)
   rw [<-Hcs.out] at R1
   go_roundw
   case rel=>exact ⟨i+1,A8,c8,hi1',hi2',rfl,by go_num,R1,R2,R3⟩
   case measure=>simp [intOf];omega
  have Hi8:=Lib.hid hi8
  have Hin:=Lib.hid hin
  skip
  by_cases hlt1:i<n
  ·have d1:decide ((i:Int)<(n:Int))=true:=by simp;omega
   have d2:decide ((i:Int)<8)=false:=by simp;omega
   go_wp2_with fail
   clear hlt hlt1
   have HL:=Lib.hid HLs.out
   have HlenL:=Lib.hid (cutL_len (l:=l) (i:=i) (by rw [scs_len Hl.out];exact Hin.out))
   have Hoks:=Lib.hid (cutL_ok (l:=l) (i:=i) (fun q h=>(Hq.out q h).ok))
   clear HLs HK
   generalize cutL l i=ls at *
   with_reducible refine (copyBytes_any B mn cb (xs.take mn) _ (HX0.out.on HB.out) (by omega)).mono ?_
   rintro e w3 ⟨A7,c7,rfl,q1,q2,ho,hb⟩
   have Hc7:=Lib.hid (And.intro q1 q2)
   have HX:=Lib.hid (own_reads ho)
   replace HL:=Lib.hid (HL.out.on hb)
   replace HB:=Lib.hid (bon HB.out hb)
   clear ho hb q1 q2
   generalize xs.take mn=ys at *
   go_wp2_with fail
   with_reducible refine (iparse_any A5 i c5 ls A7 mn c7 ys _ HL.out.at_ HL.out.caps.1 HL.out.caps.2 Hoks.out HX.out Hc7.out.1 Hc7.out.2 (by omega) (Ht9.out _ HB.out).1 (Ht9.out _ HB.out).2).mono ?_
   rintro e w4 ⟨hb,hp⟩
   replace HL:=Lib.hid (HL.out.on hb)
   replace HX:=Lib.hid (HX.out.on hb)
   replace HB:=Lib.hid (bon HB.out hb)
   clear hb
   obtain ⟨R,hR⟩:∃ R,parseA ls ys=R:=⟨_,rfl⟩
   rw [hR] at hp
   cases R with
   | error er=>
    obtain ⟨rfl,hne⟩:=hp
    have e1:((er:Int) != 0)=true:=by simp;omega
    have hal:=bal (Below.refl w4.heap.size w4) (.cells #[.int .i64 0,.int .i64 0,.slice none 0 0,.slice none 0 0,.slice none 0 0] 51)
    replace HB:=Lib.hid (bon HB.out hal)
    clear hal hR hne
    go_wp2_with fail
    with_reducible refine (iSame_any 0 0 none 0 0 none 0 0 none 0 0 [] [] [] 0 0 none 0 0 none 0 0 none 0 0 [] [] [] _ (StAt.nil _) (StAt.nil _) (by decide) (by decide)).mono ?_
    rintro e w5 ⟨rfl,hb⟩
    replace HB:=Lib.hid (bon HB.out hb)
    clear hb
    rw [sameSt_self]
    go_wp2
    go_ret
    exact ⟨rfl,HB.out⟩
   | ok st=>
    obtain ⟨sv,sq,sm,sr,sl⟩:=st
    obtain ⟨MA,mk,mc,RA,rk,rc,LA,lk,lc,rfl,hst,-⟩:=hp
    obtain ⟨s,hv1,hv2,hsj,hsb,hq9,himg⟩:=parseA_only hR
    simp only at hst hv1 hv2 hsj hsb hq9 himg
    obtain ⟨j,hj⟩:∃ j:Nat,sv=(j:Int)+1:=⟨(sv-1).toNat,by omega⟩
    have hj0:(sv-1).toNat=j:=by omega
    rw [hj0] at hsj
    have hji:j<i:=by have:=HlenL.out;omega
    have hal:=bal (Below.refl w4.heap.size w4) (.cells #[.int .i64 sv,.int .i64 sq,.slice MA mk mc,.slice RA rk rc,.slice LA lk lc] 51)
    have HZ:=Lib.hid (Blk.new w4 51 #[.int .i64 sv,.int .i64 sq,.slice MA mk mc,.slice RA rk rc,.slice LA lk lc])
    have HSt:=Lib.hid (hst.on hal)
    replace HL:=Lib.hid (HL.out.on hal)
    replace HX:=Lib.hid (HX.out.on hal)
    replace HB:=Lib.hid (bon HB.out hal)
    have Hsb:=Lib.hid hsb
    have Himg:=Lib.hid himg
    have Hsj:=Lib.hid hsj
    have d3:decide (sv<1)=false:=by simp;omega
    have d4:decide ((i:Int)<sv)=false:=by simp;omega
    have d3':¬sv<1:=by omega
    have d4':¬(i:Int)<sv:=by omega
    have Hj:=Lib.hid hj
    clear hal hst hR hsb himg hsj hj hj0
    obtain ⟨z,hz⟩:∃ z,z=w4.heap.size:=⟨_,rfl⟩
    rw [<-hz] at HZ
    go_wp2
    rw [<-hz]
    clear hz
    generalize w4.alloc (.cells #[.int .i64 sv,.int .i64 sq,.slice MA mk mc,.slice RA rk rc,.slice LA lk lc] 51)=w5 at *
    obtain ⟨ad,g,s2,rfl,hbk,hs2,c0,c1,hsc,hg1,hg2⟩:=HL.out.at_.at_ hji
    obtain rfl:s2=s:=Option.some.inj (hs2.symm.trans Hsj.out)
    have hjii:(j:Int)<(i:Int):=by omega
    have Hw:=Lib.hid (show IntKind.i64.wrap (sv-1)=(j:Int) by have:=Hj.out;rw [i64_wrap _ (by omega) (by omega)];omega)
    have Hsc:=Lib.hid hsc
    have C0:=Lib.hid (show ∀ w',Below w5.heap.size w5 w'->w'.cell? (ad.add (j*2))=some (.slice g.1.1 g.1.2.1 g.1.2.2) from fun w' h=>(h.cell (World.block_lt_of_cell? _ _ c0)).trans c0)
    have C1:=Lib.hid (show ∀ w',Below w5.heap.size w5 w'->w'.cell? ⟨(ad.add (j*2)).block,(ad.add (j*2)).off+1,none⟩=some (.slice g.2.1 g.2.2.1 g.2.2.2) from fun w' h=>(h.cell (World.block_lt_of_cell? _ _ c1)).trans c1)
    have Z0:=Lib.hid (show ∀ w',Below w5.heap.size w5 w'->w'.cell? ⟨z,0,none⟩=some (.int .i64 sv) from fun w' h=>(HZ.out.on h).cell 0)
    have Z1:=Lib.hid (show ∀ w',Below w5.heap.size w5 w'->w'.cell? ⟨z,1,none⟩=some (.int .i64 sq) from fun w' h=>(HZ.out.on h).cell 1)
    have Z2:=Lib.hid (show ∀ w',Below w5.heap.size w5 w'->w'.cell? ⟨z,2,none⟩=some (.slice MA mk mc) from fun w' h=>(HZ.out.on h).cell 2)
    have Z3:=Lib.hid (show ∀ w',Below w5.heap.size w5 w'->w'.cell? ⟨z,3,none⟩=some (.slice RA rk rc) from fun w' h=>(HZ.out.on h).cell 3)
    have Z4:=Lib.hid (show ∀ w',Below w5.heap.size w5 w'->w'.cell? ⟨z,4,none⟩=some (.slice LA lk lc) from fun w' h=>(HZ.out.on h).cell 4)
    have HCk:=Lib.hid (StOk.chk (stOk_of Hsb.out) hq9 HSt.out (Hoks.out s2 (List.mem_of_getElem? Hsj.out)) hg1 hg2)
    clear hbk hs2 c0 c1 hsc d3 d4 d3' d4' hv1 hv2
    have hS:Below w5.heap.size w5 w5.drew:=(Below.refl _ _).drew
    refine hR (fun w'=>Below w5.heap.size w5 w') [ff 0,ff 1,ff 2,ff 3,ff 4,ff 5,ff 6,tt 7,ff 8,ff 9,ff 10,ff 11,ff 12] ?_
    refine hP hS ?_
    refine hP hS ?_
    refine hP1 hS Z0.out ?_
    refine hP hS ?_
    rw [Hw.out]
    refine hP hS ?_
    refine hP2 hS C0.out C1.out ?_
    refine hP5 hS Z0.out Z1.out Z2.out Z3.out Z4.out ?_
    clear Z0 Z1 Z2 Z3 Z4 C0 C1
    refine hE fun K hK=>?_
    go_simp
    with_reducible refine (show Calls _ _ _ _ (EncP (imgE s2 (sv,sq,sm,sr,sl)) (imgA s2 (sv,sq,sm,sr,sl)) _) from ibytes_any g.1.1 g.1.2.1 g.1.2.2 g.2.1 g.2.2.1 g.2.2.2 s2 MA mk mc RA rk rc LA lk lc (sv,sq,sm,sr,sl) _ ⟨Hsc.out.on hS,HSt.out.on hS,(Ht9.out _ (bon HB.out hS)).1.tabs⟩ HCk.out hq9 (Ht9.out _ (bon HB.out hS)).1 (Ht9.out _ (bon HB.out hS)).2).mono ?_
    rintro e w6 ⟨hb,⟨-,A9,c9,rfl,ho⟩ | ⟨h0,-⟩⟩
    case inr=>exact absurd (imgE_zero.2 Hsb.out) h0
    rw [Himg.out] at ho ⊢
    have HY:=Lib.hid (own_reads ho)
    have HZ9:=Lib.hid (bon hS hb)
    clear ho hb
    refine held_go hK (by exact HZ9.out) fun hS=>?_
    clear hK K
    try simp only [zp]
    clear HZ9
    iterate 5
     refine hP hS ?_
    refine held_end ?_
    have HXf:=Lib.hid (HX.out.on hS)
    have HBf:=Lib.hid (bon HB.out hS)
    go_wp2_with fail
    with_reducible refine (eq_yes A9 A7 ys.length c9 mn c7 ys ys _ HY.out HXf.out rfl).mono ?_
    rintro e w7 ⟨rfl,rfl⟩
    go_wp2
    go_ret
    exact ⟨rfl,HBf.out⟩
  have d1:decide ((i:Int)<(n:Int))=false:=by simp;omega
  go_wp2_with fail
  clear hlt hlt1
  have HL:=Lib.hid HLs.out
  have HlenL:=Lib.hid (cutL_len (l:=l) (i:=i) (by rw [scs_len Hl.out];exact Hin.out))
  have Hoks:=Lib.hid (cutL_ok (l:=l) (i:=i) (fun q h=>(Hq.out q h).ok))
  clear HLs HK
  generalize cutL l i=ls at *
  with_reducible refine (copyBytes_any B mn cb (xs.take mn) _ (HX0.out.on HB.out) (by omega)).mono ?_
  rintro e w3 ⟨A7,c7,rfl,q1,q2,ho,hb⟩
  have Hc7:=Lib.hid (And.intro q1 q2)
  have HX:=Lib.hid (own_reads ho)
  replace HL:=Lib.hid (HL.out.on hb)
  replace HB:=Lib.hid (bon HB.out hb)
  clear ho hb q1 q2
  generalize xs.take mn=ys at *
  go_wp2_with fail
  with_reducible refine (iparse_any A5 i c5 ls A7 mn c7 ys _ HL.out.at_ HL.out.caps.1 HL.out.caps.2 Hoks.out HX.out Hc7.out.1 Hc7.out.2 (by omega) (Ht9.out _ HB.out).1 (Ht9.out _ HB.out).2).mono ?_
  rintro e w4 ⟨hb,hp⟩
  replace HL:=Lib.hid (HL.out.on hb)
  replace HX:=Lib.hid (HX.out.on hb)
  replace HB:=Lib.hid (bon HB.out hb)
  clear hb
  obtain ⟨R,hR⟩:∃ R,parseA ls ys=R:=⟨_,rfl⟩
  rw [hR] at hp
  cases R with
  | error er=>
   obtain ⟨rfl,hne⟩:=hp
   have e1:((er:Int) != 0)=true:=by simp;omega
   have hal:=bal (Below.refl w4.heap.size w4) (.cells #[.int .i64 0,.int .i64 0,.slice none 0 0,.slice none 0 0,.slice none 0 0] 51)
   replace HB:=Lib.hid (bon HB.out hal)
   clear hal hR hne
   go_wp2_with fail
   with_reducible refine (iSame_any 0 0 none 0 0 none 0 0 none 0 0 [] [] [] 0 0 none 0 0 none 0 0 none 0 0 [] [] [] _ (StAt.nil _) (StAt.nil _) (by decide) (by decide)).mono ?_
   rintro e w5 ⟨rfl,hb⟩
   replace HB:=Lib.hid (bon HB.out hb)
   clear hb
   rw [sameSt_self]
   go_wp2
   go_ret
   exact ⟨rfl,HB.out⟩
  | ok st=>
   obtain ⟨sv,sq,sm,sr,sl⟩:=st
   obtain ⟨MA,mk,mc,RA,rk,rc,LA,lk,lc,rfl,hst,-⟩:=hp
   obtain ⟨s,hv1,hv2,hsj,hsb,hq9,himg⟩:=parseA_only hR
   simp only at hst hv1 hv2 hsj hsb hq9 himg
   obtain ⟨j,hj⟩:∃ j:Nat,sv=(j:Int)+1:=⟨(sv-1).toNat,by omega⟩
   have hj0:(sv-1).toNat=j:=by omega
   rw [hj0] at hsj
   have hji:j<i:=by have:=HlenL.out;omega
   have hal:=bal (Below.refl w4.heap.size w4) (.cells #[.int .i64 sv,.int .i64 sq,.slice MA mk mc,.slice RA rk rc,.slice LA lk lc] 51)
   have HZ:=Lib.hid (Blk.new w4 51 #[.int .i64 sv,.int .i64 sq,.slice MA mk mc,.slice RA rk rc,.slice LA lk lc])
   have HSt:=Lib.hid (hst.on hal)
   replace HL:=Lib.hid (HL.out.on hal)
   replace HX:=Lib.hid (HX.out.on hal)
   replace HB:=Lib.hid (bon HB.out hal)
   have Hsb:=Lib.hid hsb
   have Himg:=Lib.hid himg
   have Hsj:=Lib.hid hsj
   have d3:decide (sv<1)=false:=by simp;omega
   have d4:decide ((i:Int)<sv)=false:=by simp;omega
   have d3':¬sv<1:=by omega
   have d4':¬(i:Int)<sv:=by omega
   have Hj:=Lib.hid hj
   clear hal hst hR hsb himg hsj hj hj0
   obtain ⟨z,hz⟩:∃ z,z=w4.heap.size:=⟨_,rfl⟩
   rw [<-hz] at HZ
   go_wp2
   rw [<-hz]
   clear hz
   generalize w4.alloc (.cells #[.int .i64 sv,.int .i64 sq,.slice MA mk mc,.slice RA rk rc,.slice LA lk lc] 51)=w5 at *
   obtain ⟨ad,g,s2,rfl,hbk,hs2,c0,c1,hsc,hg1,hg2⟩:=HL.out.at_.at_ hji
   obtain rfl:s2=s:=Option.some.inj (hs2.symm.trans Hsj.out)
   have hjii:(j:Int)<(i:Int):=by omega
   have Hw:=Lib.hid (show IntKind.i64.wrap (sv-1)=(j:Int) by have:=Hj.out;rw [i64_wrap _ (by omega) (by omega)];omega)
   have Hsc:=Lib.hid hsc
   have C0:=Lib.hid (show ∀ w',Below w5.heap.size w5 w'->w'.cell? (ad.add (j*2))=some (.slice g.1.1 g.1.2.1 g.1.2.2) from fun w' h=>(h.cell (World.block_lt_of_cell? _ _ c0)).trans c0)
   have C1:=Lib.hid (show ∀ w',Below w5.heap.size w5 w'->w'.cell? ⟨(ad.add (j*2)).block,(ad.add (j*2)).off+1,none⟩=some (.slice g.2.1 g.2.2.1 g.2.2.2) from fun w' h=>(h.cell (World.block_lt_of_cell? _ _ c1)).trans c1)
   have Z0:=Lib.hid (show ∀ w',Below w5.heap.size w5 w'->w'.cell? ⟨z,0,none⟩=some (.int .i64 sv) from fun w' h=>(HZ.out.on h).cell 0)
   have Z1:=Lib.hid (show ∀ w',Below w5.heap.size w5 w'->w'.cell? ⟨z,1,none⟩=some (.int .i64 sq) from fun w' h=>(HZ.out.on h).cell 1)
   have Z2:=Lib.hid (show ∀ w',Below w5.heap.size w5 w'->w'.cell? ⟨z,2,none⟩=some (.slice MA mk mc) from fun w' h=>(HZ.out.on h).cell 2)
   have Z3:=Lib.hid (show ∀ w',Below w5.heap.size w5 w'->w'.cell? ⟨z,3,none⟩=some (.slice RA rk rc) from fun w' h=>(HZ.out.on h).cell 3)
   have Z4:=Lib.hid (show ∀ w',Below w5.heap.size w5 w'->w'.cell? ⟨z,4,none⟩=some (.slice LA lk lc) from fun w' h=>(HZ.out.on h).cell 4)
   have HCk:=Lib.hid (StOk.chk (stOk_of Hsb.out) hq9 HSt.out (Hoks.out s2 (List.mem_of_getElem? Hsj.out)) hg1 hg2)
   clear hbk hs2 c0 c1 hsc d3 d4 d3' d4' hv1 hv2
   have hS:Below w5.heap.size w5 w5.drew:=(Below.refl _ _).drew
   refine hR (fun w'=>Below w5.heap.size w5 w') [ff 0,ff 1,ff 2,ff 3,ff 4,ff 5,ff 6,tt 7,ff 8,ff 9,ff 10,ff 11,ff 12] ?_
   refine hP hS ?_
   refine hP hS ?_
   refine hP1 hS Z0.out ?_
   refine hP hS ?_
   rw [Hw.out]
   refine hP hS ?_
   refine hP2 hS C0.out C1.out ?_
   refine hP5 hS Z0.out Z1.out Z2.out Z3.out Z4.out ?_
   clear Z0 Z1 Z2 Z3 Z4 C0 C1
   refine hE fun K hK=>?_
   go_simp
   with_reducible refine (show Calls _ _ _ _ (EncP (imgE s2 (sv,sq,sm,sr,sl)) (imgA s2 (sv,sq,sm,sr,sl)) _) from ibytes_any g.1.1 g.1.2.1 g.1.2.2 g.2.1 g.2.2.1 g.2.2.2 s2 MA mk mc RA rk rc LA lk lc (sv,sq,sm,sr,sl) _ ⟨Hsc.out.on hS,HSt.out.on hS,(Ht9.out _ (bon HB.out hS)).1.tabs⟩ HCk.out hq9 (Ht9.out _ (bon HB.out hS)).1 (Ht9.out _ (bon HB.out hS)).2).mono ?_
   rintro e w6 ⟨hb,⟨-,A9,c9,rfl,ho⟩ | ⟨h0,-⟩⟩
   case inr=>exact absurd (imgE_zero.2 Hsb.out) h0
   rw [Himg.out] at ho ⊢
   have HY:=Lib.hid (own_reads ho)
   have HZ9:=Lib.hid (bon hS hb)
   clear ho hb
   refine held_go hK (by exact HZ9.out) fun hS=>?_
   clear hK K
   try simp only [zp]
   clear HZ9
   iterate 5
    refine hP hS ?_
   refine held_end ?_
   have HXf:=Lib.hid (HX.out.on hS)
   have HBf:=Lib.hid (bon HB.out hS)
   go_wp2_with fail
   with_reducible refine (eq_yes A9 A7 ys.length c9 mn c7 ys ys _ HY.out HXf.out rfl).mono ?_
   rintro e w7 ⟨rfl,rfl⟩
   go_wp2
   go_ret
   exact ⟨rfl,HBf.out⟩
end Go.Proofs.YtjpjalmilfgckaaGreatDoor
