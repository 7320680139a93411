/- The law ImageBack, walked. Conditions: none of its own; each lemma states what it asks. -/
import Derived.Test.YtjpjalmilfgckaaGreatDoorIm31
set_option maxRecDepth 100000
set_option linter.unusedVariables false
set_option linter.unusedSimpArgs false
namespace Go.Proofs.YtjpjalmilfgckaaGreatDoor
open Go.RowKit
set_option maxHeartbeats 8000000 in
theorem imageBack_walk (A:Option Addr) (n c:Nat) (l:List (Sh×Sc)) (v q:Int) (MA:Option Addr) (mn mc:Nat) (RA:Option Addr) (rn rc:Nat) (LA:Option Addr) (ln lc:Nat) (ms:List Mk) (lt:List It) (la:List UInt8) (w:World) (hl:Reads w w.heap.size 2 A n (l.flatMap fun q=>scV q.1)) (hn:n<=c) (hc:c<=maxLen) (hq:∀ q∈l,SchIn w w.heap.size q.1 q.2)
  (h1:StIn w w.heap.size v q MA mn mc RA rn rc LA ln lc ms lt la) (hT:Tab2 w.heap.size w) (hE:ErrT w) :
  Calls Tryz.prog 5 #[.slice A n c,.agg #[.int .i64 v,.int .i64 q,.slice MA mn mc,.slice RA rn rc,.slice LA ln lc]] w fun e w'=>e=.returned (.bool true)/\Below w.heap.size w w':=by
 obtain ⟨s0,hs0,hs1,hs2,hs3⟩:=info_parts schema_info
 have hv9:=h1.v9
 have Hx1:=Lib.hid (StAt.mk (h1).marks (h1).rows (h1).last)
 have Hbx1:=Lib.hid (And.intro (Nat.le_trans (h1).m1 (h1).m2) (And.intro (Nat.le_trans (h1).r1 (h1).r2) (And.intro (h1).l1 (h1).l2)))
 have Hmx1:=Lib.hid (h1).mok
 have Hix1:=Lib.hid (h1).rok
 have Hqx1:=Lib.hid (h1).q9.2
 clear h1
 have Ht9:=Lib.hid (show ∀ w',Below w.heap.size w w'->Tab2 w'.heap.size w'/\ErrT w' from fun w' h=>⟨hT.on h,hE.on h⟩)
 have Hl:=Lib.hid hl
 have Hq:=Lib.hid hq
 have HKon:=Lib.hid (show ∀ (w1 w2:World),Blk w1 w.heap.size 51 #[.int .i64 v,.int .i64 q,.slice MA mn mc,.slice RA rn rc,.slice LA ln lc]->Below w1.heap.size w1 w2->Blk w2 w.heap.size 51 #[.int .i64 v,.int .i64 q,.slice MA mn mc,.slice RA rn rc,.slice LA ln lc] from fun _ _ h hb=>h.on hb)
 have HKap:=Lib.hid (show ∀ (w1 w2:World) (n:Nat) (u:Value) (ys:List Value) (b:Nat),Blk w1 w.heap.size 51 #[.int .i64 v,.int .i64 q,.slice MA mn mc,.slice RA rn rc,.slice LA ln lc]->w1.ownsRow b 48 2 u n ys->w1.grownBy w2 u.ownBlock->Blk w2 w.heap.size 51 #[.int .i64 v,.int .i64 q,.slice MA mn mc,.slice RA rn rc,.slice LA ln lc] from fun _ _ _ _ _ _ h h2 hg=>h.apart h2 (by decide) hg)
 have hn63:n<=9223372036854775807:=by simp only [maxLen] at hc;omega
 have HB:=Lib.hid (bal (Below.refl w.heap.size w) (.cells #[.int .i64 v,.int .i64 q,.slice MA mn mc,.slice RA rn rc,.slice LA ln lc] 51))
 have HK:=Lib.hid (Blk.new w 51 #[.int .i64 v,.int .i64 q,.slice MA mn mc,.slice RA rn rc,.slice LA ln lc])
 clear hl hq hT hE
 go_enter Tryz.func5,Tryz.ntmps5
 go_wp2
 generalize w.alloc (.cells #[.int .i64 v,.int .i64 q,.slice MA mn mc,.slice RA rn rc,.slice LA ln lc] 51)=w1 at *
 go_loopw [5,6] (fun u ix wr=>∃ (i:Nat) (A5:Option Addr) (c5:Nat),i<=n/\i<=8/\u=.slice A5 i c5/\ix=.int .i64 (i:Int)/\Hid (SchsOwn wr w.heap.size A5 i c5 (cutL l i))/\Hid (Blk wr w.heap.size 51 #[.int .i64 v,.int .i64 q,.slice MA mn mc,.slice RA rn rc,.slice LA ln lc])/\Hid (Below w.heap.size w wr)) (fun _ ix _=>n-(intOf ix).toNat)
 case atStart=>exact ⟨0,none,0,Nat.zero_le _,by omega,rfl,rfl,Lib.hid SchsOwn.nil,HK,HB⟩
 case round=>
  clear HB HK
  obtain ⟨i,A5,c5,hin,hi8,rfl,rfl,HLs,HK,HB⟩:=hrel
  by_cases hlt:i<n/\i<8
  ·obtain ⟨hlt1,hlt2⟩:=hlt
   have d1:decide ((i:Int)<(n:Int))=true:=by simp;omega
   have d2:decide ((i:Int)<8)=true:=by simp;omega
   have hii:(i:Int)<(n:Int):=by omega
   have hi1':i+1<=n:=hlt1
   have hi2':i+1<=8:=hlt2
   have hsa:i+1<=maxLen:=by simp only [maxLen];omega
   have hsb:(i+1)*48<=70368744177664:=by omega
   obtain ⟨ad,qq,rfl,hbk,hqj,c0,c1⟩:=scs_at (Hl.out.below HB.out) hlt1
   have Hcs:=Lib.hid (cutL_succ hqj)
   have Hqi:=Lib.hid (Hq.out qq (List.mem_of_getElem? hqj))
   clear hqj hbk
   go_wp2_with fail
   with_reducible refine (columns28_any qq.1.1.1 qq.1.1.2.1 qq.1.1.2.2 qq.1.2.1 qq.1.2.2.1 qq.1.2.2.2 qq.2 _ ((ScAt.of_in Hqi.out).on HB.out) Hqi.out.c1 Hqi.out.c2 Hqi.out.k1 Hqi.out.k2 Hqi.out.ok).mono ?_
   rintro e w3 ⟨D1,n1,e1,D2,n2,e2,rfl,hn1,hn2,o1,o2,hb⟩
   have hal:=bal (Below.refl w3.heap.size w3) (.cells #[.slice D1 n1 e1,.slice D2 n2 e2] 48)
   have HRS:=Lib.hid (RowsS.on (RowsS.mk (own_mono o1 HB.out.size) (own_mono o2 HB.out.size)) hal)
   have HRl:=Lib.hid ((Blk.new w3 48 #[.slice D1 n1 e1,.slice D2 n2 e2]).readsN 2 1 (scV ((D1,n1,e1),(D2,n2,e2))) rfl rfl)
   obtain ⟨hs,g1,g2⟩:=(HLs.out.on hb).on hal
   have G1:=Lib.hid g1
   have G2:=Lib.hid g2
   have HKa:=Lib.hid (HKon.out _ _ (HKon.out _ _ HK.out hb) hal)
   have HBa:=Lib.hid (bon (bon HB.out hb) hal)
   have Hnn:=Lib.hid (And.intro hn1 hn2)
   clear o1 o2 hb hal g1 g2 hn1 hn2 c0 c1
   go_wp2_with (at_builtin
                refine wpList_append_any _ rfl (.tmp 21) (.tmp 27) 59 rfl w.heap.size 48 s0 (.agg #[.slice none 0 0,.slice none 0 0]) 2 48 Tryz.underlying59 hs0 hs1 hs2 hs3 rfl (by decide) A5 i c5 _ rfl G1.out (some ⟨_,0,none⟩) 1 1 (scV ((D1,n1,e1),(D2,n2,e2))) rfl HRl.out (fun u hu=>by simp [scV] at hu;rcases hu with rfl | rfl<;>rfl) hsa hsb HBa.out.size ?_
                intro A8 c8 w8 r1 r2 r3 r4 r5
                have R1:=Lib.hid (schs_app (h:=((D1,n1,e1),(D2,n2,e2))) (s:=cutsc qq.2) G1.out G2.out HRS.out Hnn.out r3 r1)
                have R2:=Lib.hid (HKap.out _ _ _ _ _ _ HKa.out G1.out r3)
                have R3:=Lib.hid (HBa.out.trans r2)
                clear r1 r2 r3 r4 r5)
   rw [<-Hcs.out] at R1
   go_roundw
   case rel=>exact ⟨i+1,A8,c8,hi1',hi2',rfl,by go_num,R1,R2,R3⟩
   case measure=>simp [intOf];omega
  have Hi8:=Lib.hid hi8
  have Hin:=Lib.hid hin
  have z0:=HK.out.cell 0
  have z1:=HK.out.cell 1
  have z2:=HK.out.cell 2
  have z3:=HK.out.cell 3
  have z4:=HK.out.cell 4
  by_cases hlt1:i<n
  ·have d1:decide ((i:Int)<(n:Int))=true:=by simp;omega
   have d2:decide ((i:Int)<8)=false:=by simp;omega
   go_wp2_with fail
   clear hlt hlt1
   clear z0 z1 z2 z3 z4
   have HL:=Lib.hid HLs.out
   have HlenL:=Lib.hid (cutL_len (l:=l) (i:=i) (by rw [scs_len Hl.out];exact Hin.out))
   have Hoks:=Lib.hid (cutL_ok (l:=l) (i:=i) (fun q h=>(Hq.out q h).ok))
   have HBx:=Lib.hid HK.out
   clear HLs HK
   generalize cutL l i=ls at *
   with_reducible refine (cut28_any v q MA mn mc RA rn rc LA ln lc ms lt la _ (Hx1.out.on HB.out) Hbx1.out.1 Hbx1.out.2.1 Hbx1.out.2.2.1 Hbx1.out.2.2.2 Hmx1.out Hix1.out).mono ?_
   rintro e w3 ⟨M1,mn1,mc1,R1,rn1,rc1,L1,ln1,lc1,rfl,hn1,hn2,hn3,o1,o2,o3,hb⟩
   have HRA:=Lib.hid (RowsT.mk (own_mono o1 HB.out.size) (o2.mono HB.out.size) (own_mono o3 HB.out.size))
   replace HL:=Lib.hid (HL.out.on hb)
   replace HBx:=Lib.hid (HBx.out.on hb)
   replace HB:=Lib.hid (bon HB.out hb)
   have Hn3:=Lib.hid (And.intro hn1 (And.intro hn2 hn3))
   clear o1 o2 o3 hb hn1 hn2 hn3
   have a0:=HBx.out.cell 0
   have a1:=HBx.out.cell 1
   have a2:=HBx.out.cell 2
   have a3:=HBx.out.cell 3
   have a4:=HBx.out.cell 4
   have f0:=HBx.out.frozen 0
   have f1:=HBx.out.frozen 1
   have f2:=HBx.out.frozen 2
   have f3:=HBx.out.frozen 3
   have f4:=HBx.out.frozen 4
   go_wp2_with fail
   clear a0 a1 a2 a3 a4 f0 f1 f2 f3 f4
   replace HL:=Lib.hid (HL.out.far5 (a:=.int .i64 v) (b:=.int .i64 q) (c':=.slice M1 mn1 mc1) (d:=.slice R1 rn1 rc1) (e:=.slice L1 ln1 lc1) HBx.out)
   replace HRA:=Lib.hid (HRA.out.far5 (a:=.int .i64 v) (b:=.int .i64 q) (c:=.slice M1 mn1 mc1) (d:=.slice R1 rn1 rc1) (e:=.slice L1 ln1 lc1) HBx.out)
   replace HB:=Lib.hid (below_far5 (a:=.int .i64 v) (b:=.int .i64 q) (c:=.slice M1 mn1 mc1) (d:=.slice R1 rn1 rc1) (e:=.slice L1 ln1 lc1) (g:=w.heap.size) HB.out (Nat.le_refl _))
   replace HBx:=Lib.hid (HBx.out.set5 (a:=.int .i64 v) (b:=.int .i64 q) (c:=.slice M1 mn1 mc1) (d:=.slice R1 rn1 rc1) (e:=.slice L1 ln1 lc1))
   generalize ((((w3.setCell ⟨w.heap.size,0,none⟩ (.int .i64 v)).setCell ⟨w.heap.size,1,none⟩ (.int .i64 q)).setCell ⟨w.heap.size,2,none⟩ (.slice M1 mn1 mc1)).setCell ⟨w.heap.size,3,none⟩ (.slice R1 rn1 rc1)).setCell ⟨w.heap.size,4,none⟩ (.slice L1 ln1 lc1)=w4 at *
   have HA:=Lib.hid (LawT.mk HBx.out HRA.out.at_ Hn3.out.1 Hn3.out.2.1 Hn3.out.2.2 (cutms_ok Hmx1.out) (cutis_ok Hix1.out) Hqx1.out)
   clear HBx HRA Hn3
   generalize cutms ms=ma at *
   generalize cutis lt=lA at *
   generalize la.take 300=aA at *
   with_reducible refine (chain_any A5 i c5 ls _ HL.out.at_ HL.out.caps.1 HL.out.caps.2 Hoks.out (Ht9.out _ HB.out).1.tabs).mono ?_
   rintro e w5 ⟨rfl,hb⟩
   replace HL:=Lib.hid (HL.out.on hb)
   replace HA:=Lib.hid (HA.out.on hb)
   replace HB:=Lib.hid (bon HB.out hb)
   clear hb
   have y0:=HA.out.box.cell 0
   by_cases hch:chainE ls=0
   case neg=>
    have e1:(chainE ls != 0)=true:=by simpa using hch
    clear hch
    go_wp2_with fail
    with_reducible refine (iworks_yes _ (Ht9.out _ HB.out).1 (Ht9.out _ HB.out).2).mono ?_
    rintro e w12 ⟨rfl,hb⟩
    have HF:=Lib.hid (bon HB.out hb)
    clear hb
    go_wp2
    go_ret
    exact ⟨rfl,HF.out⟩
   have e1:(chainE ls != 0)=false:=by simpa using hch
   have Hch:=Lib.hid hch
   clear hch
   by_cases hv1:v<1
   ·have d3:decide (v<1)=true:=by simpa using hv1
    go_wp2_with fail
    with_reducible refine (iworks_yes _ (Ht9.out _ HB.out).1 (Ht9.out _ HB.out).2).mono ?_
    rintro e w12 ⟨rfl,hb⟩
    have HF:=Lib.hid (bon HB.out hb)
    clear hb
    go_wp2
    go_ret
    exact ⟨rfl,HF.out⟩
   have d3:decide (v<1)=false:=by simpa using hv1
   by_cases hvi:(i:Int)<v
   ·have d4:decide ((i:Int)<v)=true:=by simpa using hvi
    go_wp2_with fail
    with_reducible refine (iworks_yes _ (Ht9.out _ HB.out).1 (Ht9.out _ HB.out).2).mono ?_
    rintro e w12 ⟨rfl,hb⟩
    have HF:=Lib.hid (bon HB.out hb)
    clear hb
    go_wp2
    go_ret
    exact ⟨rfl,HF.out⟩
   have d4:decide ((i:Int)<v)=false:=by simpa using hvi
   obtain ⟨j,hj⟩:∃ j:Nat,v=(j:Int)+1:=⟨(v-1).toNat,by omega⟩
   have hji:j<i:=by omega
   have hjii:(j:Int)<(i:Int):=by omega
   have Hw:=Lib.hid (show IntKind.i64.wrap (v-1)=(j:Int) by rw [i64_wrap _ (by omega) (by omega)];omega)
   have Hj0:=Lib.hid (show (v-1).toNat=j by omega)
   obtain ⟨ad,g,s,rfl,hbk,hs2,c0,c1,hsc,hg1,hg2⟩:=HL.out.at_.at_ hji
   have Hsj:=Lib.hid hs2
   have Hsc:=Lib.hid hsc
   have Hg:=Lib.hid (And.intro hg1 hg2)
   have C0:=Lib.hid (show ∀ w',Below w5.heap.size w5 w'->w'.cell? (ad.add (j*2))=some (.slice g.1.1 g.1.2.1 g.1.2.2) from fun w' h=>(h.cell (World.block_lt_of_cell? _ _ c0)).trans c0)
   have C1:=Lib.hid (show ∀ w',Below w5.heap.size w5 w'->w'.cell? ⟨(ad.add (j*2)).block,(ad.add (j*2)).off+1,none⟩=some (.slice g.2.1 g.2.2.1 g.2.2.2) from fun w' h=>(h.cell (World.block_lt_of_cell? _ _ c1)).trans c1)
   have Z0:=Lib.hid (show ∀ w',Below w5.heap.size w5 w'->w'.cell? ⟨w.heap.size,0,none⟩=some (.int .i64 v) from fun w' h=>(HA.out.box.on h).cell 0)
   have Z1:=Lib.hid (show ∀ w',Below w5.heap.size w5 w'->w'.cell? ⟨w.heap.size,1,none⟩=some (.int .i64 q) from fun w' h=>(HA.out.box.on h).cell 1)
   have Z2:=Lib.hid (show ∀ w',Below w5.heap.size w5 w'->w'.cell? ⟨w.heap.size,2,none⟩=some (.slice M1 mn1 mc1) from fun w' h=>(HA.out.box.on h).cell 2)
   have Z3:=Lib.hid (show ∀ w',Below w5.heap.size w5 w'->w'.cell? ⟨w.heap.size,3,none⟩=some (.slice R1 rn1 rc1) from fun w' h=>(HA.out.box.on h).cell 3)
   have Z4:=Lib.hid (show ∀ w',Below w5.heap.size w5 w'->w'.cell? ⟨w.heap.size,4,none⟩=some (.slice L1 ln1 lc1) from fun w' h=>(HA.out.box.on h).cell 4)
   have HCk:=Lib.hid (show ChkOk g.1.2.1 g.2.2.1 mn1 rn1 ln1 s (v,q,ma,lA,aA) from ⟨hg1,hg2,by have:=HA.out.m20;simp only [maxLen];omega,by have:=HA.out.r20;simp only [maxLen];omega,by have:=HA.out.l300;simp only [maxLen];omega,Hoks.out s (List.mem_of_getElem? hs2),HA.out.mok,HA.out.iok⟩)
   have Hjh:=Lib.hid hj
   clear hbk hs2 hsc hg1 hg2 hj
   have hS:Below w5.heap.size w5 w5.drew:=(Below.refl _ _).drew
   go_wp2
   clear c0 c1 d3 d4 hv1 hvi e1
   refine hR (fun w'=>Below w5.heap.size w5 w') [ff 0,ff 1,ff 2,ff 3,ff 4,ff 5,ff 6,tt 7,ff 8,ff 9,ff 10,ff 11,ff 12] ?_
   refine hP hS ?_
   refine hP hS ?_
   refine hP1 hS Z0.out ?_
   refine hP hS ?_
   rw [Hw.out]
   refine hP hS ?_
   refine hP2 hS C0.out C1.out ?_
   refine hP5 hS Z0.out Z1.out Z2.out Z3.out Z4.out ?_
   clear Z0 Z1 Z2 Z3 Z4 C0 C1 y0
   refine hE fun K hK=>?_
   go_simp
   with_reducible refine (show Calls _ _ _ _ (EncP (imgE s (v,q,ma,lA,aA)) (imgA s (v,q,ma,lA,aA)) _) from ibytes_any g.1.1 g.1.2.1 g.1.2.2 g.2.1 g.2.2.1 g.2.2.2 s M1 mn1 mc1 R1 rn1 rc1 L1 ln1 lc1 (v,q,ma,lA,aA) _ ⟨Hsc.out.on hS,(HA.out.on hS).at_,(Ht9.out _ (bon HB.out hS)).1.tabs⟩ HCk.out HA.out.q9 (Ht9.out _ (bon HB.out hS)).1 (Ht9.out _ (bon HB.out hS)).2).mono ?_
   rintro e w6 ⟨hb,⟨hE0,A9,c9,rfl,ho⟩ | ⟨hE0,rfl⟩⟩
   ·have hst:=imgE_zero.1 hE0
    have Hback:=Lib.hid (parseA_back Hch.out hst HA.out.q9 (by show ls[(v-1).toNat]? = some s;rw [Hj0.out];exact Hsj.out))
    have hle:=imgA_le (stOk_of hst)
    generalize imgA s (v,q,ma,lA,aA)=xs at *
    generalize hxl:xs.length=xl at *
    have HX:=Lib.hid (own_reads ho)
    have Hxc:=Lib.hid (own_caps2 ho)
    have HZ9:=Lib.hid (bon hS hb)
    clear ho hb hst hE0 hxl
    refine held_go hK (by exact HZ9.out) fun hS=>?_
    clear hK K
    try simp only [zp]
    clear HZ9
    iterate 5
     refine hP hS ?_
    refine held_end ?_
    replace HL:=Lib.hid (HL.out.on hS)
    replace HA:=Lib.hid (HA.out.on hS)
    replace HB:=Lib.hid (bon HB.out hS)
    clear hS
    go_wp2_with fail
    with_reducible refine (iparse_any (some ad) i c5 ls A9 xl c9 xs _ HL.out.at_ HL.out.caps.1 HL.out.caps.2 Hoks.out HX.out Hxc.out.1 Hxc.out.2 hle (Ht9.out _ HB.out).1 (Ht9.out _ HB.out).2).mono ?_
    rintro e w7 ⟨hb,hp⟩
    rw [Hback.out] at hp
    obtain ⟨M2,mk,mc2,R2,rk,rc2,L2,lk,lc2,he,hst,-⟩:=hp
    have he2:e=.returned (.tuple #[.agg #[.int .i64 v,.int .i64 q,.slice M2 mk mc2,.slice R2 rk rc2,.slice L2 lk lc2],.int .i64 0]):=he
    clear he
    subst he2
    have hal:=bal (Below.refl w7.heap.size w7) (.cells #[.int .i64 v,.int .i64 q,.slice M2 mk mc2,.slice R2 rk rc2,.slice L2 lk lc2] 51)
    have HSt:=Lib.hid (show StAt _ M2 mk R2 rk L2 lk ma lA aA from hst.on hal)
    replace HA:=Lib.hid ((HA.out.on hb).on hal)
    replace HB:=Lib.hid (bon (bon HB.out hb) hal)
    clear hal hb hst HL HX
    have y0:=HA.out.box.cell 0
    have y1:=HA.out.box.cell 1
    have y2:=HA.out.box.cell 2
    have y3:=HA.out.box.cell 3
    have y4:=HA.out.box.cell 4
    go_wp2_with fail
    clear y0 y1 y2 y3 y4
    generalize w7.alloc (.cells #[.int .i64 v,.int .i64 q,.slice M2 mk mc2,.slice R2 rk rc2,.slice L2 lk lc2] 51)=w8 at *
    with_reducible refine (lsame_any HA.out HSt.out).mono ?_
    rintro e w9 ⟨rfl,hb⟩
    replace HB:=Lib.hid (bon HB.out hb)
    clear hb
    rw [sameSt_self]
    go_wp2_with fail
    with_reducible refine (iworks_yes _ (Ht9.out _ HB.out).1 (Ht9.out _ HB.out).2).mono ?_
    rintro e w12 ⟨rfl,hb⟩
    have HF:=Lib.hid (bon HB.out hb)
    clear hb
    go_wp2
    go_ret
    exact ⟨rfl,HF.out⟩
   have e2:(imgE s (v,q,ma,lA,aA) != 0)=true:=by simpa using hE0
   have HZ9:=Lib.hid (bon hS hb)
   clear hb hE0
   refine held_go hK (by exact HZ9.out) fun hS=>?_
   clear hK K
   try simp only [zp]
   clear HZ9
   iterate 5
    refine hP hS ?_
   refine held_end ?_
   replace HB:=Lib.hid (bon HB.out hS)
   clear hS
   go_wp2_with fail
   with_reducible refine (iworks_yes _ (Ht9.out _ HB.out).1 (Ht9.out _ HB.out).2).mono ?_
   rintro e w12 ⟨rfl,hb⟩
   have HF:=Lib.hid (bon HB.out hb)
   clear hb
   go_wp2
   go_ret
   exact ⟨rfl,HF.out⟩
  have d1:decide ((i:Int)<(n:Int))=false:=by simp;omega
  go_wp2_with fail
  clear hlt hlt1
  clear z0 z1 z2 z3 z4
  have HL:=Lib.hid HLs.out
  have HlenL:=Lib.hid (cutL_len (l:=l) (i:=i) (by rw [scs_len Hl.out];exact Hin.out))
  have Hoks:=Lib.hid (cutL_ok (l:=l) (i:=i) (fun q h=>(Hq.out q h).ok))
  have HBx:=Lib.hid HK.out
  clear HLs HK
  generalize cutL l i=ls at *
  with_reducible refine (cut28_any v q MA mn mc RA rn rc LA ln lc ms lt la _ (Hx1.out.on HB.out) Hbx1.out.1 Hbx1.out.2.1 Hbx1.out.2.2.1 Hbx1.out.2.2.2 Hmx1.out Hix1.out).mono ?_
  rintro e w3 ⟨M1,mn1,mc1,R1,rn1,rc1,L1,ln1,lc1,rfl,hn1,hn2,hn3,o1,o2,o3,hb⟩
  have HRA:=Lib.hid (RowsT.mk (own_mono o1 HB.out.size) (o2.mono HB.out.size) (own_mono o3 HB.out.size))
  replace HL:=Lib.hid (HL.out.on hb)
  replace HBx:=Lib.hid (HBx.out.on hb)
  replace HB:=Lib.hid (bon HB.out hb)
  have Hn3:=Lib.hid (And.intro hn1 (And.intro hn2 hn3))
  clear o1 o2 o3 hb hn1 hn2 hn3
  have a0:=HBx.out.cell 0
  have a1:=HBx.out.cell 1
  have a2:=HBx.out.cell 2
  have a3:=HBx.out.cell 3
  have a4:=HBx.out.cell 4
  have f0:=HBx.out.frozen 0
  have f1:=HBx.out.frozen 1
  have f2:=HBx.out.frozen 2
  have f3:=HBx.out.frozen 3
  have f4:=HBx.out.frozen 4
  go_wp2_with fail
  clear a0 a1 a2 a3 a4 f0 f1 f2 f3 f4
  replace HL:=Lib.hid (HL.out.far5 (a:=.int .i64 v) (b:=.int .i64 q) (c':=.slice M1 mn1 mc1) (d:=.slice R1 rn1 rc1) (e:=.slice L1 ln1 lc1) HBx.out)
  replace HRA:=Lib.hid (HRA.out.far5 (a:=.int .i64 v) (b:=.int .i64 q) (c:=.slice M1 mn1 mc1) (d:=.slice R1 rn1 rc1) (e:=.slice L1 ln1 lc1) HBx.out)
  replace HB:=Lib.hid (below_far5 (a:=.int .i64 v) (b:=.int .i64 q) (c:=.slice M1 mn1 mc1) (d:=.slice R1 rn1 rc1) (e:=.slice L1 ln1 lc1) (g:=w.heap.size) HB.out (Nat.le_refl _))
  replace HBx:=Lib.hid (HBx.out.set5 (a:=.int .i64 v) (b:=.int .i64 q) (c:=.slice M1 mn1 mc1) (d:=.slice R1 rn1 rc1) (e:=.slice L1 ln1 lc1))
  generalize ((((w3.setCell ⟨w.heap.size,0,none⟩ (.int .i64 v)).setCell ⟨w.heap.size,1,none⟩ (.int .i64 q)).setCell ⟨w.heap.size,2,none⟩ (.slice M1 mn1 mc1)).setCell ⟨w.heap.size,3,none⟩ (.slice R1 rn1 rc1)).setCell ⟨w.heap.size,4,none⟩ (.slice L1 ln1 lc1)=w4 at *
  have HA:=Lib.hid (LawT.mk HBx.out HRA.out.at_ Hn3.out.1 Hn3.out.2.1 Hn3.out.2.2 (cutms_ok Hmx1.out) (cutis_ok Hix1.out) Hqx1.out)
  clear HBx HRA Hn3
  generalize cutms ms=ma at *
  generalize cutis lt=lA at *
  generalize la.take 300=aA at *
  with_reducible refine (chain_any A5 i c5 ls _ HL.out.at_ HL.out.caps.1 HL.out.caps.2 Hoks.out (Ht9.out _ HB.out).1.tabs).mono ?_
  rintro e w5 ⟨rfl,hb⟩
  replace HL:=Lib.hid (HL.out.on hb)
  replace HA:=Lib.hid (HA.out.on hb)
  replace HB:=Lib.hid (bon HB.out hb)
  clear hb
  have y0:=HA.out.box.cell 0
  by_cases hch:chainE ls=0
  case neg=>
   have e1:(chainE ls != 0)=true:=by simpa using hch
   clear hch
   go_wp2_with fail
   with_reducible refine (iworks_yes _ (Ht9.out _ HB.out).1 (Ht9.out _ HB.out).2).mono ?_
   rintro e w12 ⟨rfl,hb⟩
   have HF:=Lib.hid (bon HB.out hb)
   clear hb
   go_wp2
   go_ret
   exact ⟨rfl,HF.out⟩
  have e1:(chainE ls != 0)=false:=by simpa using hch
  have Hch:=Lib.hid hch
  clear hch
  by_cases hv1:v<1
  ·have d3:decide (v<1)=true:=by simpa using hv1
   go_wp2_with fail
   with_reducible refine (iworks_yes _ (Ht9.out _ HB.out).1 (Ht9.out _ HB.out).2).mono ?_
   rintro e w12 ⟨rfl,hb⟩
   have HF:=Lib.hid (bon HB.out hb)
   clear hb
   go_wp2
   go_ret
   exact ⟨rfl,HF.out⟩
  have d3:decide (v<1)=false:=by simpa using hv1
  by_cases hvi:(i:Int)<v
  ·have d4:decide ((i:Int)<v)=true:=by simpa using hvi
   go_wp2_with fail
   with_reducible refine (iworks_yes _ (Ht9.out _ HB.out).1 (Ht9.out _ HB.out).2).mono ?_
   rintro e w12 ⟨rfl,hb⟩
   have HF:=Lib.hid (bon HB.out hb)
   clear hb
   go_wp2
   go_ret
   exact ⟨rfl,HF.out⟩
  have d4:decide ((i:Int)<v)=false:=by simpa using hvi
  obtain ⟨j,hj⟩:∃ j:Nat,v=(j:Int)+1:=⟨(v-1).toNat,by omega⟩
  have hji:j<i:=by omega
  have hjii:(j:Int)<(i:Int):=by omega
  have Hw:=Lib.hid (show IntKind.i64.wrap (v-1)=(j:Int) by rw [i64_wrap _ (by omega) (by omega)];omega)
  have Hj0:=Lib.hid (show (v-1).toNat=j by omega)
  obtain ⟨ad,g,s,rfl,hbk,hs2,c0,c1,hsc,hg1,hg2⟩:=HL.out.at_.at_ hji
  have Hsj:=Lib.hid hs2
  have Hsc:=Lib.hid hsc
  have Hg:=Lib.hid (And.intro hg1 hg2)
  have C0:=Lib.hid (show ∀ w',Below w5.heap.size w5 w'->w'.cell? (ad.add (j*2))=some (.slice g.1.1 g.1.2.1 g.1.2.2) from fun w' h=>(h.cell (World.block_lt_of_cell? _ _ c0)).trans c0)
  have C1:=Lib.hid (show ∀ w',Below w5.heap.size w5 w'->w'.cell? ⟨(ad.add (j*2)).block,(ad.add (j*2)).off+1,none⟩=some (.slice g.2.1 g.2.2.1 g.2.2.2) from fun w' h=>(h.cell (World.block_lt_of_cell? _ _ c1)).trans c1)
  have Z0:=Lib.hid (show ∀ w',Below w5.heap.size w5 w'->w'.cell? ⟨w.heap.size,0,none⟩=some (.int .i64 v) from fun w' h=>(HA.out.box.on h).cell 0)
  have Z1:=Lib.hid (show ∀ w',Below w5.heap.size w5 w'->w'.cell? ⟨w.heap.size,1,none⟩=some (.int .i64 q) from fun w' h=>(HA.out.box.on h).cell 1)
  have Z2:=Lib.hid (show ∀ w',Below w5.heap.size w5 w'->w'.cell? ⟨w.heap.size,2,none⟩=some (.slice M1 mn1 mc1) from fun w' h=>(HA.out.box.on h).cell 2)
  have Z3:=Lib.hid (show ∀ w',Below w5.heap.size w5 w'->w'.cell? ⟨w.heap.size,3,none⟩=some (.slice R1 rn1 rc1) from fun w' h=>(HA.out.box.on h).cell 3)
  have Z4:=Lib.hid (show ∀ w',Below w5.heap.size w5 w'->w'.cell? ⟨w.heap.size,4,none⟩=some (.slice L1 ln1 lc1) from fun w' h=>(HA.out.box.on h).cell 4)
  have HCk:=Lib.hid (show ChkOk g.1.2.1 g.2.2.1 mn1 rn1 ln1 s (v,q,ma,lA,aA) from ⟨hg1,hg2,by have:=HA.out.m20;simp only [maxLen];omega,by have:=HA.out.r20;simp only [maxLen];omega,by have:=HA.out.l300;simp only [maxLen];omega,Hoks.out s (List.mem_of_getElem? hs2),HA.out.mok,HA.out.iok⟩)
  have Hjh:=Lib.hid hj
  clear hbk hs2 hsc hg1 hg2 hj
  have hS:Below w5.heap.size w5 w5.drew:=(Below.refl _ _).drew
  go_wp2
  clear c0 c1 d3 d4 hv1 hvi e1
  refine hR (fun w'=>Below w5.heap.size w5 w') [ff 0,ff 1,ff 2,ff 3,ff 4,ff 5,ff 6,tt 7,ff 8,ff 9,ff 10,ff 11,ff 12] ?_
  refine hP hS ?_
  refine hP hS ?_
  refine hP1 hS Z0.out ?_
  refine hP hS ?_
  rw [Hw.out]
  refine hP hS ?_
  refine hP2 hS C0.out C1.out ?_
  refine hP5 hS Z0.out Z1.out Z2.out Z3.out Z4.out ?_
  clear Z0 Z1 Z2 Z3 Z4 C0 C1 y0
  refine hE fun K hK=>?_
  go_simp
  with_reducible refine (show Calls _ _ _ _ (EncP (imgE s (v,q,ma,lA,aA)) (imgA s (v,q,ma,lA,aA)) _) from ibytes_any g.1.1 g.1.2.1 g.1.2.2 g.2.1 g.2.2.1 g.2.2.2 s M1 mn1 mc1 R1 rn1 rc1 L1 ln1 lc1 (v,q,ma,lA,aA) _ ⟨Hsc.out.on hS,(HA.out.on hS).at_,(Ht9.out _ (bon HB.out hS)).1.tabs⟩ HCk.out HA.out.q9 (Ht9.out _ (bon HB.out hS)).1 (Ht9.out _ (bon HB.out hS)).2).mono ?_
  rintro e w6 ⟨hb,⟨hE0,A9,c9,rfl,ho⟩ | ⟨hE0,rfl⟩⟩
  ·have hst:=imgE_zero.1 hE0
   have Hback:=Lib.hid (parseA_back Hch.out hst HA.out.q9 (by show ls[(v-1).toNat]? = some s;rw [Hj0.out];exact Hsj.out))
   have hle:=imgA_le (stOk_of hst)
   generalize imgA s (v,q,ma,lA,aA)=xs at *
   generalize hxl:xs.length=xl at *
   have HX:=Lib.hid (own_reads ho)
   have Hxc:=Lib.hid (own_caps2 ho)
   have HZ9:=Lib.hid (bon hS hb)
   clear ho hb hst hE0 hxl
   refine held_go hK (by exact HZ9.out) fun hS=>?_
   clear hK K
   try simp only [zp]
   clear HZ9
   iterate 5
    refine hP hS ?_
   refine held_end ?_
   replace HL:=Lib.hid (HL.out.on hS)
   replace HA:=Lib.hid (HA.out.on hS)
   replace HB:=Lib.hid (bon HB.out hS)
   clear hS
   go_wp2_with fail
   with_reducible refine (iparse_any (some ad) i c5 ls A9 xl c9 xs _ HL.out.at_ HL.out.caps.1 HL.out.caps.2 Hoks.out HX.out Hxc.out.1 Hxc.out.2 hle (Ht9.out _ HB.out).1 (Ht9.out _ HB.out).2).mono ?_
   rintro e w7 ⟨hb,hp⟩
   rw [Hback.out] at hp
   obtain ⟨M2,mk,mc2,R2,rk,rc2,L2,lk,lc2,he,hst,-⟩:=hp
   have he2:e=.returned (.tuple #[.agg #[.int .i64 v,.int .i64 q,.slice M2 mk mc2,.slice R2 rk rc2,.slice L2 lk lc2],.int .i64 0]):=he
   clear he
   subst he2
   have hal:=bal (Below.refl w7.heap.size w7) (.cells #[.int .i64 v,.int .i64 q,.slice M2 mk mc2,.slice R2 rk rc2,.slice L2 lk lc2] 51)
   have HSt:=Lib.hid (show StAt _ M2 mk R2 rk L2 lk ma lA aA from hst.on hal)
   replace HA:=Lib.hid ((HA.out.on hb).on hal)
   replace HB:=Lib.hid (bon (bon HB.out hb) hal)
   clear hal hb hst HL HX
   have y0:=HA.out.box.cell 0
   have y1:=HA.out.box.cell 1
   have y2:=HA.out.box.cell 2
   have y3:=HA.out.box.cell 3
   have y4:=HA.out.box.cell 4
   go_wp2_with fail
   clear y0 y1 y2 y3 y4
   generalize w7.alloc (.cells #[.int .i64 v,.int .i64 q,.slice M2 mk mc2,.slice R2 rk rc2,.slice L2 lk lc2] 51)=w8 at *
   with_reducible refine (lsame_any HA.out HSt.out).mono ?_
   rintro e w9 ⟨rfl,hb⟩
   replace HB:=Lib.hid (bon HB.out hb)
   clear hb
   rw [sameSt_self]
   go_wp2_with fail
   with_reducible refine (iworks_yes _ (Ht9.out _ HB.out).1 (Ht9.out _ HB.out).2).mono ?_
   rintro e w12 ⟨rfl,hb⟩
   have HF:=Lib.hid (bon HB.out hb)
   clear hb
   go_wp2
   go_ret
   exact ⟨rfl,HF.out⟩
  have e2:(imgE s (v,q,ma,lA,aA) != 0)=true:=by simpa using hE0
  have HZ9:=Lib.hid (bon hS hb)
  clear hb hE0
  refine held_go hK (by exact HZ9.out) fun hS=>?_
  clear hK K
  try simp only [zp]
  clear HZ9
  iterate 5
   refine hP hS ?_
  refine held_end ?_
  replace HB:=Lib.hid (bon HB.out hS)
  clear hS
  go_wp2_with fail
  with_reducible refine (iworks_yes _ (Ht9.out _ HB.out).1 (Ht9.out _ HB.out).2).mono ?_
  rintro e w12 ⟨rfl,hb⟩
  have HF:=Lib.hid (bon HB.out hb)
  clear hb
  go_wp2
  go_ret
  exact ⟨rfl,HF.out⟩
end Go.Proofs.YtjpjalmilfgckaaGreatDoor
