/- Part 19 of the walks, merged: each text under its own heading. Conditions: none of its own; each lemma states what it asks. -/
import Derived.Test.YtjpjalmilfgckaaGreatDoorIm7
import Derived.Test.YtjpjalmilfgckaaGreatDoorIm8
import Derived.Test.YtjpjalmilfgckaaGreatDoorIm10
import Derived.Test.YtjpjalmilfgckaaGreatDoorIm12
import Derived.Test.YtjpjalmilfgckaaGreatDoorIm15
import Derived.Test.YtjpjalmilfgckaaGreatDoorIm16
import Derived.Test.YtjpjalmilfgckaaGreatDoorIm18
import Derived.Test.YtjpjalmilfgckaaGreatDoorProg
import Derived.WalkKit
import Derived.LaidEql
import Derived.Stop.Asserts
import Derived.RowKitTokens
import Derived.Below
set_option maxRecDepth 100000
set_option linter.unusedVariables false
set_option linter.unusedSimpArgs false
namespace Go.Proofs.YtjpjalmilfgckaaGreatDoor
open Go.RowKit
structure ScOk (s:Sc):Prop where
 kind:CoOk s.1
 num:∀ c∈s.1,K9 c.2.2.2.2.2.1
 name:∀ c∈s.1,c.2.1.size<=maxLen
 str:∀ c∈s.1,c.2.2.2.2.2.2.size<=maxLen
theorem memB_snoc (l:List ByteArray) (x y:ByteArray):memB x (l++[y])=(memB x l||decide (y=x)):=by simp [memB]
theorem nodupB_snoc (l:List ByteArray) (x:ByteArray):nodupB (l++[x])=(nodupB l && !memB x l):=by
 induction l with
 | nil=>simp [nodupB,memB]
 | cons y l ih=>
  simp only [List.cons_append,nodupB,ih,memB_snoc]
  have e:memB x (y::l)=(decide (y=x)||memB x l):=rfl
  rw [e,show decide (x=y)=decide (y=x) from by congr 1;exact propext ⟨Eq.symm,Eq.symm⟩]
  cases decide (y=x)<;>cases memB y l<;>cases nodupB l<;>cases memB x l<;>rfl
structure SchK (w:World) (CA:Option Addr) (cn cc:Nat) (KA:Option Addr) (kn kc:Nat) (s:Sc) (k:Nat) (A:Option Addr) (c m:Nat) (f:ByteArray->Option Int) (wr:World):Prop where
 below:Below w.heap.size w wr
 box:Blk wr w.heap.size 48 #[.slice CA cn cc,.slice KA kn kc]
 ids:wr.ownsRow w.heap.size 3 1 (.slice A k c) k (ins ((s.1.take k).map (·.1)))
 mp:MapT wr (w.heap.size+1) k m f
 fs:∀ r,(f r).isSome=memB r ((s.1.take k).map (·.2.1))
 fv:∀ r x,f r=some x->0<=x/\x<=(k:Int)
 mk_:m<=k/\(m=k ↔ nodupB ((s.1.take k).map (·.2.1))=true)
 col:s.1.all colF=(s.1.drop k).all colF
section
variable {w wr w':World} {CA KA A:Option Addr} {cn cc kn kc k c m:Nat} {s:Sc} {f:ByteArray->Option Int}
theorem SchK.on (h:SchK w CA cn cc KA kn kc s k A c m f wr) (hb:Below wr.heap.size wr w'):SchK w CA cn cc KA kn kc s k A c m f w':=
 ⟨bon h.below hb,h.box.on hb,own_below h.ids hb,h.mp.on hb,h.fs,h.fv,h.mk_,h.col⟩
end
theorem SchK.step {w w3 w5 w6:World} {CA KA A A3:Option Addr} {cn cc kn kc k c c3 m:Nat} {s:Sc} {f:ByteArray->Option Int} (h:SchK w CA cn cc KA kn kc s k A c m f w3) {co:Co} (hco:s.1[k]? = some co)
  (hcol:s.1.all colF=(s.1.drop (k+1)).all colF) (hb:Below w.heap.size w w5) (hx:Blk w5 w.heap.size 48 #[.slice CA cn cc,.slice KA kn kc])
  (ho:w5.ownsRow w.heap.size 3 1 (.slice A3 (k+1) c3) (k+1) (ins ((s.1.take k).map (·.1))++ins [co.1])) (hm5:MapT w5 (w.heap.size+1) k m f) {y:Option Int} (hy:f co.2.1=y)
  (hm6:MapT w6 (w.heap.size+1) (k+1) (if (f co.2.1).isSome then m else m+1) (fun r=>if r=co.2.1 then some (y.getD 0+1) else f r)) (hg6:w5.grownBy w6 (some (w.heap.size+1))) :
  SchK w CA cn cc KA kn kc s (k+1) A3 c3 (if (f co.2.1).isSome then m else m+1) (fun r=>if r=co.2.1 then some (y.getD 0+1) else f r) w6:=by
 have e1:(s.1.take (k+1)).map (·.1)=(s.1.take k).map (·.1)++[co.1]:=by rw [List.take_add_one,hco];simp
 have e2:(s.1.take (k+1)).map (·.2.1)=(s.1.take k).map (·.2.1)++[co.2.1]:=by rw [List.take_add_one,hco];simp
 have hyv:0<=y.getD 0/\y.getD 0<=(k:Int):=by
  cases y with
  | none=>simp
  | some y=>exact h.fv _ y hy
 refine ⟨hb.grown hg6 hb.size (fun j e=>by cases e;omega),(hg6.block _ hx.lt (fun e=>by injection e;omega)).trans hx,?_,hm6,fun r=>?_,fun r x hr=>?_,?_,hcol⟩
 ·rw [e1]
  have:=own_map hm5 ho hg6
  rwa [<-show ins ((s.1.take k).map (·.1)++[co.1])=ins ((s.1.take k).map (·.1))++ins [co.1] from by simp [ins]] at this
 ·rw [e2,memB_snoc,<-h.fs r]
  by_cases hr:r=co.2.1
  ·simp [hr]
  have hr2:¬co.2.1=r:=fun h=>hr h.symm
  simp [hr,hr2]
 ·by_cases hr2:r=co.2.1
  ·simp only [hr2,if_true,Option.some.injEq] at hr
   omega
  simp only [hr2,if_false] at hr
  have:=h.fv r x hr
  omega
 rw [e2,nodupB_snoc,<-h.fs]
 obtain ⟨h1,h2⟩:=h.mk_
 cases (f co.2.1).isSome with
 | true=>simp;omega
 | false=>
  simp only [Bool.false_eq_true,if_false,Bool.not_false,Bool.and_true]
  exact ⟨by omega,⟨fun h=>h2.1 (by omega),fun h=>by have:=h2.2 h;omega⟩⟩
theorem schk1_any (g:Nat) (CA:Option Addr) (cn cc:Nat) (kv:Value) (cs:List Co) (x:Int) (w:World) (hB:Blk w g 48 #[.slice CA cn cc,kv]) (hr:Reads w w.heap.size 7 CA cn (cos cs)) (h0:0<=x) (h1:x<(cn:Int)) :
  Calls Tryz.prog 133 #[.int .i64 x,.pointer (some ⟨g,0,none⟩)] w fun e w'=>e=.returned (.bool (!keyF cs x))/\w=w':=by
 obtain ⟨k,rfl⟩:∃ k:Nat,x=(k:Int):=⟨x.toNat,by omega⟩
 have hk:k<cn:=by omega
 obtain ⟨ad,co,rfl,hbk,hco,hat⟩:=cos_at hr hk
 have c0:=hB.cell 0
 have c3:=hat.c3
 have HK:=Lib.hid (show keyF cs (k:Int) = !co.2.2.2.1 by unfold keyF;rw [Int.toNat_natCast,hco])
 clear hB hr hbk hco hat h0
 generalize co.2.2.2.1=nl at *
 go_enter Tryz.func133,Tryz.ntmps133
 go_wp2
 go_ret
 exact ⟨by rw [HK.out];simp,rfl⟩
set_option maxHeartbeats 1000000 in
theorem hasn_any (g:Nat) (CA:Option Addr) (cn cc:Nat) (kv:Value) (cs:List Co) (KA:Option Addr) (kn kc:Nat) (ks:List Int) (w:World) (hB:Blk w g 48 #[.slice CA cn cc,kv]) (hr:Reads w w.heap.size 7 CA cn (cos cs)) (hkr:Reads w w.heap.size 1 KA kn (ins ks)) (hkn:kn<=maxLen)
  (hin0:∀ x∈ks,0<=x/\x<(cn:Int)) :
  Calls Tryz.prog 132 #[.slice KA kn kc,.func (.func 133) #[] #[.pointer (some ⟨g,0,none⟩)]] w fun e w'=>e=.returned (.bool (!ks.all (keyF cs)))/\w=w':=by
 have key:Calls Tryz.prog 184 #[.slice KA kn kc,.func (.func 133) #[] #[.pointer (some ⟨g,0,none⟩)]] w fun e w'=>(∃ r:Int,e=.returned (.int .i64 r)/\decide (0<=r) = !ks.all (keyF cs))/\w=w':=by
  have Hr:=Lib.hid hr
  have HB:=Lib.hid hB
  have Hk:=Lib.hid hkr
  have Hin:=Lib.hid hin0
  have hl:=ins_len hkr
  have hn63:kn<=9223372036854775807:=by simp only [maxLen] at hkn;omega
  have hin:=callFunc_in Tryz.func133 (by kernel_rfl) (by kernel_rfl)
  clear hr hB hkr hin0 hkn
  go_enter Tryz.func184,Tryz.ntmps184
  go_wp2
  go_loopw [8] (fun i wr=>∃ k:Nat,k<=kn/\i=.int .i64 (k:Int)/\wr=w/\Hid (ks.all (keyF cs)=(ks.drop k).all (keyF cs))) (fun i _=>kn-(intOf i).toNat)
  case atStart=>exact ⟨0,Nat.zero_le _,rfl,rfl,Lib.hid rfl⟩
  case round=>
   obtain ⟨k,hk,rfl,rfl,HN⟩:=hrel
   by_cases hlt:k<kn
   ·obtain ⟨ad,x,rfl,hbk,hx,c0⟩:=ins_at Hk.out hlt
    have hki:(k:Int)<(kn:Int):=by omega
    have hxx:=Hin.out x (List.mem_of_getElem? hx)
    have HS:=Lib.hid (show ks.all (keyF cs)=(keyF cs x&&(ks.drop (k+1)).all (keyF cs)) by rw [HN.out,drop_at hx,List.all_cons])
    have HK:=Lib.hid (schk1_any g CA cn cc kv cs x wr HB.out Hr.out hxx.1 hxx.2)
    clear hbk hx HN hxx
    go_wp2_with fail
    with_reducible refine HK.out.mono ?_
    rintro e w1 ⟨rfl,rfl⟩
    clear HK
    cases hq:keyF cs x with
    | true=>
     have HN:=Lib.hid (show ks.all (keyF cs)=(ks.drop (k+1)).all (keyF cs) by rw [HS.out,hq];rfl)
     clear HS hq
     go_wp2
     go_roundw
     case rel=>exact ⟨k+1,by omega,by go_num,by trivial,HN⟩
     case measure=>simp [intOf];omega
    | false=>
     have HN:=Lib.hid (show ks.all (keyF cs)=false by rw [HS.out,hq];rfl)
     clear HS hq
     go_wp2
     go_ret
     exact ⟨⟨k,rfl,by rw [HN.out];simp⟩,rfl⟩
   have hki:¬(k:Int)<(kn:Int):=by omega
   have HE:=Lib.hid (show ks.all (keyF cs)=true by rw [HN.out,List.drop_of_length_le (by omega)];rfl)
   go_wp2
   go_ret
   exact ⟨⟨-1,rfl,by rw [HE.out];rfl⟩,rfl⟩
 go_enter Tryz.func132,Tryz.ntmps132
 go_wp2_with fail
 with_reducible refine key.mono ?_
 rintro e w1 ⟨⟨r,rfl,hr2⟩,rfl⟩
 have HR2:=Lib.hid hr2
 clear hr2 key
 go_wp2
 go_ret
 exact ⟨by rw [<-HR2.out];rfl,rfl⟩
theorem schE_no {s:Sc} (h:schB s=false):schE s=2:=by unfold schE;rw [h];rfl
theorem schE_yes {s:Sc} (h:schB s=true):schE s=0:=by unfold schE;rw [h];rfl
theorem rises_in {lo hi:Int} {l:List Int} (h:risesB lo hi l=true):∀ x∈l,lo<=x/\x<=hi:=by
 intro x hx
 obtain ⟨q,hq⟩:=allPrev_mem h x hx
 unfold riseF at hq
 simp only [Bool.and_eq_true,decide_eq_true_eq] at hq
 exact hq.1
set_option maxHeartbeats 4000000 in
theorem scheck_any (CA:Option Addr) (cn cc:Nat) (KA:Option Addr) (kn kc:Nat) (s:Sc) (w:World) (h:ScAt w CA cn KA kn s) (hcn:cn<=1000000) (hkn:kn<=1000000) (hok:ScOk s) (hT:Tabs w) :
  Calls Tryz.prog 77 #[.agg #[.slice CA cn cc,.slice KA kn kc]] w fun e w'=>e=.returned (.int .i64 (schE s))/\Below w.heap.size w w':=by
 obtain ⟨j0,hj0,hy0,hy1,hy2⟩:=info_parts int_info
 have H0:=Lib.hid h
 have HT:=Lib.hid hT
 have Hok:=Lib.hid hok
 have Hkn:=Lib.hid hkn
 have hcl:=cos_len h.cols
 have hkl:=ins_len h.keys
 have hcn63:cn<=9223372036854775807:=by omega
 have hkn63:kn<=9223372036854775807:=by omega
 have Hcn:=Lib.hid hcn
 clear h hT hok hkn hcn
 have HS:=Lib.hid (show SchK w CA cn cc KA kn kc s 0 none 0 0 (fun _=>none) ((w.alloc (.cells #[.slice CA cn cc,.slice KA kn kc] 48)).alloc (.map #[] 0)) from
  ⟨bal (bal (Below.refl _ _) _) _, (Blk.new _ _ _).alloc _, World.ownsRow_nil _ _ _ _, by
   have:=MapS.made (P:=Tryz.prog) (k:=9) (e:=3) (w.alloc (.cells #[.slice CA cn cc,.slice KA kn kc] 48))
   rwa [show (w.alloc (.cells #[.slice CA cn cc,.slice KA kn kc] 48)).heap.size=w.heap.size+1 by simp] at this,fun r=>rfl,fun r x h=>(by cases h),⟨Nat.le_refl _,by simp [nodupB]⟩,rfl⟩)
 have hbx:=HS.out.box.cell 0
 have hmm := @run_makeMap Tryz.prog
 go_enter Tryz.func77,Tryz.ntmps77
 go_wp2
 clear hmm
 generalize (w.alloc (.cells #[.slice CA cn cc,.slice KA kn kc] 48)).alloc (.map #[] 0)=W at *
 clear hbx
 go_loopw [3,12] (fun iv kv wr=>∃ (k:Nat) (A:Option Addr) (c m:Nat) (f:ByteArray->Option Int),k<=cn/\kv=.int .i64 (k:Int)/\iv=.slice A k c/\Hid (SchK w CA cn cc KA kn kc s k A c m f wr)) (fun _ kv _=>cn-(intOf kv).toNat)
 case atStart=>exact ⟨0,none,0,0,fun _=>none,Nat.zero_le _,rfl,rfl,HS⟩
 case round=>
  clear HS
  obtain ⟨k,A,c,m,f,hk,rfl,rfl,HS⟩:=hrel
  by_cases hlt:k<cn
  ·have d1:decide ((k:Int)<(cn:Int))=true:=by simp;omega
   have hki:(k:Int)<(cn:Int):=by omega
   obtain ⟨ad,co,rfl,hbk,hco,hat⟩:=cos_at (H0.out.cols.below HS.out.below) hlt
   have hmem:=List.mem_of_getElem? hco
   have hnm:=Hok.out.name co hmem
   have HD:=Lib.hid (show s.1.all colF=(colF co&&(s.1.drop (k+1)).all colF) by rw [HS.out.col,drop_at hco,List.all_cons])
   have Hco:=Lib.hid hco
   obtain ⟨i,nm,kd,nl,u,x,t⟩:=co
   have h0:=hat.c0
   have h1:=hat.c1
   have h2:=hat.c2
   have h3:=hat.c3
   have h4:=hat.c4
   have h5:=hat.c5
   have h6:=hat.c6
   simp only at h0 h1 h2 h3 h4 h5 h6 hnm
   have HB:=Lib.hid (Blk.new wr 45 #[.int .i64 i,.string nm,.int .i64 kd,.bool nl,.bool u,.int .i64 x,.string t])
   have HS1:=Lib.hid (HS.out.on (bal (Below.refl _ _) (.cells #[.int .i64 i,.string nm,.int .i64 kd,.bool nl,.bool u,.int .i64 x,.string t] 45)))
   clear hco hat hmem HS
   go_wp2_with fail
   clear h0 h1 h2 h3 h4 h5 h6 hbk
   obtain ⟨gc,hgc⟩:∃ gc,gc=wr.heap.size:=⟨_,rfl⟩
   rw [<-hgc] at HB ⊢
   clear hgc
   generalize wr.alloc (.cells #[.int .i64 i,.string nm,.int .i64 kd,.bool nl,.bool u,.int .i64 x,.string t] 45)=W1 at *
   with_reducible refine (isn_any nm _ hnm).mono ?_
   rintro e w2 ⟨rfl,hb2⟩
   have HS:=Lib.hid (HS1.out.on hb2)
   have HB:=Lib.hid (HB.out.on hb2)
   clear hb2 HS1
   cases hq:nameB nm with
   | false=>
    have HN:=Lib.hid (show schB s=false by
     unfold schB
     rw [HD.out,show colF (i,nm,kd,nl,u,x,t)=false by unfold colF;rw [hq];rfl]
     rfl)
    clear HD hq
    go_wp2
    go_ret
    exact ⟨by rw [schE_no HN.out];rfl,HS.out.below⟩
   | true=>
    have b0:=HB.out.cell 0
    have b1:=HB.out.cell 1
    have b2:=HB.out.cell 2
    have b3:=HB.out.cell 3
    have b4:=HB.out.cell 4
    have b5:=HB.out.cell 5
    have b6:=HB.out.cell 6
    go_wp2_with fail
    with_reducible refine (check_any3 kd nl u x t _ (HT.out.on HS.out.below)).mono ?_
    rintro e w3 ⟨rfl,hb3⟩
    have HS:=Lib.hid (HS.out.on hb3)
    have HB:=Lib.hid (HB.out.on hb3)
    clear hb3 b0 b1 b2 b3 b4 b5 b6
    by_cases hz:checkE kd nl (u,x,t)=0
    ·have HN:=Lib.hid (show s.1.all colF=(s.1.drop (k+1)).all colF by
      rw [HD.out,show colF (i,nm,kd,nl,u,x,t)=true by unfold colF;rw [hq,hz];rfl]
      rfl)
     generalize checkE kd nl (u,x,t)=E0 at hz ⊢
     subst hz
     have b0:=HB.out.cell 0
     have b1:=HB.out.cell 1
     have hs1:k+1<=maxLen:=by have:=Hcn.out;simp only [maxLen];omega
     have hs2:(k+1)*8<=70368744177664:=by have:=Hcn.out;omega
     have hs3:k<maxLen:=by omega
     have hszz:=HS.out.below.size
     obtain ⟨y,hy⟩:∃ y,f nm=y:=⟨_,rfl⟩
     have hyv:0<=y.getD 0/\y.getD 0<=(k:Int):=by
      cases y with
      | none=>simp
      | some y=>exact HS.out.fv nm y hy
     have hyw:(Lit.int .i64 (y.getD 0+1)).wf=true:=by simp [Lit.wf,IntKind.min,IntKind.max,IntKind.signed,IntKind.bits];omega
     have hyi:wrap64 (y.getD 0+1)=y.getD 0+1:=by unfold wrap64;omega
     have Hy:=Lib.hid hy
     have HR:=Lib.hid (show Reads _ _ 1 (some ⟨_,0,none⟩) 1 (ins [i]) from reads_new w3 (.int .i64 i) 3)
     have Hmap:=Lib.hid (HS.out.mp.al (.cells #[.int .i64 i] 3))
     clear hq HD hy
     go_wp2_with (first
      | (at_builtin
         refine wpList_append_any _ rfl (.tmp 28) (.tmp 31) 28 rfl w.heap.size 3 j0 (.int .i64 0) 1 8 Tryz.underlying28 hj0 hy0 hy1 hy2 rfl (by decide) A k c _ rfl (HS.out.ids.alloc _) (some ⟨_,0,none⟩) 1 1 (ins [i]) rfl HR.out (one_int _ _) hs1 hs2 (by simp;omega) ?_
         intro A3 c3 w5 r1 r2 r3 r4 r5
         have Hg5:=Lib.hid r3
         have Ho5:=Lib.hid r1
         have Hb5:=Lib.hid r2
         have HB5:=Lib.hid ((HB.out.alloc (.cells #[.int .i64 i] 3)).apart (HS.out.ids.alloc _) (by decide) r3)
         have Hx5:=Lib.hid ((HS.out.box.alloc (.cells #[.int .i64 i] 3)).apart (HS.out.ids.alloc _) (by decide) r3)
         have Hm5:=Lib.hid (Hmap.out.grown r3 (Hmap.out.apart (HS.out.ids.alloc _)))
         have b1:=HB5.out.cell 1
         clear r1 r2 r3 r4 r5)
      | (at_lookup;refine wpList_mapS_get rfl _ _ _ rfl Hm5.out Tryz.underlying3 Tryz.underlying9 Tryz.underlying170 (zero_int _) nm hnm _ Hy.out rfl rfl ?_)
      | (at_mapUpdate
         refine wpList_mapS_store rfl _ _ _ _ rfl Hm5.out Tryz.underlying3 Tryz.underlying9 Tryz.underlying170 hs3 nm hnm _ hyw rfl rfl rfl ?_
         intro w6 hm6 hg6))
     have HS:=Lib.hid (HS.out.step Hco.out HN.out ((HS.out.below.alloc hszz (.cells #[.int .i64 i] 3)).trans Hb5.out) Hx5.out Ho5.out Hm5.out Hy.out hm6 hg6)
     clear hm6 hg6 Hm5 Hx5 HB5 Ho5 Hg5 Hb5 Hmap HR HB HN
     go_roundw
     case rel=>exact ⟨k+1,A3,c3,_,_,by omega,by go_num,rfl,HS⟩
     case measure=>simp [intOf];omega
    have HN:=Lib.hid (show schB s=false by
     unfold schB
     rw [HD.out,show colF (i,nm,kd,nl,u,x,t)=false by unfold colF;rw [hq];simp [hz]]
     rfl)
    have e9:(checkE kd nl (u,x,t) != 0)=true:=by simpa using hz
    clear HD hq hz
    generalize checkE kd nl (u,x,t)=E0 at *
    go_wp2
    go_ret
    exact ⟨by rw [schE_no HN.out];rfl,HS.out.below⟩
  have d1:decide ((k:Int)<(cn:Int))=false:=by simp;omega
  obtain rfl:k=cn:=by omega
  have hcol:s.1.all colF=true:=by rw [HS.out.col,List.drop_of_length_le (by omega)];rfl
  have htk:s.1.take k=s.1:=List.take_of_length_le (by omega)
  have hnd:=HS.out.mk_
  rw [htk] at hnd
  have hids:=HS.out.ids
  rw [htk] at hids
  have Hids:=Lib.hid (own_reads hids)
  have hB:=Lib.hid (show schB s=(decide (1<=k/\k<=32)&&nodupB (s.1.map (·.2.1))&&risesB 1 1048576 (s.1.map (·.1))&&decide (kn<=8)&&risesB 0 ((k:Int)-1) s.2&&s.2.all (keyF s.1)) by
   unfold schB
   rw [hcol,hcl,hkl,Bool.true_and])
  clear hids hcol htk hk
  have c0:=HS.out.box.cell 0
  have c1:=HS.out.box.cell 1
  have hml:=HS.out.mp.len_ Tryz.underlying170 3
  have Hnd:=Lib.hid hnd
  clear hnd
  by_cases q1:k<1
  ·have e1:decide ((k:Int)<1)=true:=by simp;omega
   have HN:=Lib.hid (show schB s=false by rw [hB.out,decide_eq_false (by omega)];rfl)
   go_wp2
   go_ret
   exact ⟨by rw [schE_no HN.out];rfl,HS.out.below⟩
  have e1:decide ((k:Int)<1)=false:=by simp;omega
  by_cases q2:32<k
  ·have e2:decide (32<(k:Int))=true:=by simp;omega
   have HN:=Lib.hid (show schB s=false by rw [hB.out,decide_eq_false (by omega)];rfl)
   go_wp2
   go_ret
   exact ⟨by rw [schE_no HN.out];rfl,HS.out.below⟩
  have e2:decide (32<(k:Int))=false:=by simp;omega
  by_cases q3:m=k
  ·subst q3
   have e3:((m:Int) != (m:Int))=false:=by simp
   have hnB:=Hnd.out.2.1 rfl
   have hB2:=Lib.hid (show schB s=(risesB 1 1048576 (s.1.map (·.1))&&decide (kn<=8)&&risesB 0 ((m:Int)-1) s.2&&s.2.all (keyF s.1)) by rw [hB.out,decide_eq_true (by omega),hnB];simp)
   clear hB Hnd hnB
   go_wp2_with fail
   with_reducible refine (rises_any A m c (s.1.map (·.1)) 1 1048576 _ Hids.out (by have:=Hcn.out;simp only [maxLen];omega)).mono ?_
   rintro e w5 ⟨rfl,rfl⟩
   cases q4:risesB 1 1048576 (s.1.map (·.1)) with
   | false=>
    have HN:=Lib.hid (show schB s=false by rw [hB2.out,q4];rfl)
    clear q4 hB2
    go_wp2
    go_ret
    exact ⟨by rw [schE_no HN.out];rfl,HS.out.below⟩
   | true=>
    by_cases q5:8<kn
    ·have e5:decide (8<(kn:Int))=true:=by simp;omega
     have HN:=Lib.hid (show schB s=false by rw [hB2.out,q4,decide_eq_false (by omega)];rfl)
     clear q4 hB2
     go_wp2
     go_ret
     exact ⟨by rw [schE_no HN.out];rfl,HS.out.below⟩
    have e5:decide (8<(kn:Int))=false:=by simp;omega
    have hB3:=Lib.hid (show schB s=(risesB 0 ((m:Int)-1) s.2&&s.2.all (keyF s.1)) by rw [hB2.out,q4,decide_eq_true (by omega)];simp)
    clear q4 hB2
    go_wp2_with fail
    with_reducible refine (rises_any KA kn kc s.2 0 ((m:Int)-1) _ (H0.out.keys.on HS.out.below) (by have:=Hkn.out;simp only [maxLen];omega)).mono ?_
    rintro e w6 ⟨rfl,rfl⟩
    cases q6:risesB 0 ((m:Int)-1) s.2 with
    | false=>
     have HN:=Lib.hid (show schB s=false by rw [hB3.out,q6];rfl)
     clear q6 hB3
     go_wp2
     go_ret
     exact ⟨by rw [schE_no HN.out];rfl,HS.out.below⟩
    | true=>
     have hB4:=Lib.hid (show schB s=s.2.all (keyF s.1) by rw [hB3.out,q6];simp)
     have Hri:=Lib.hid (show ∀ x∈s.2,0<=x/\x<(m:Int) from fun x hx=>by
      have:=rises_in q6 x hx
      omega)
     clear q6 hB3
     go_wp2_with fail
     with_reducible refine (hasn_any w.heap.size CA m cc (.slice KA kn kc) s.1 KA kn kc s.2 _ HS.out.box (H0.out.cols.on HS.out.below) (H0.out.keys.on HS.out.below) (by have:=Hkn.out;simp only [maxLen];omega) Hri.out).mono ?_
     rintro e w7 ⟨rfl,rfl⟩
     cases q7:s.2.all (keyF s.1) with
     | false=>
      have HN:=Lib.hid (show schB s=false by rw [hB4.out,q7])
      clear q7 hB4
      go_wp2
      go_ret
      exact ⟨by rw [schE_no HN.out];rfl,HS.out.below⟩
     | true=>
      have HN:=Lib.hid (show schB s=true by rw [hB4.out,q7])
      clear q7 hB4
      go_wp2
      go_ret
      exact ⟨by rw [schE_yes HN.out];rfl,HS.out.below⟩
  have e3:((m:Int) != (k:Int))=true:=by simp;omega
  have HN:=Lib.hid (show schB s=false by
   have:nodupB (s.1.map (·.2.1))=false:=by
    cases h:nodupB (s.1.map (·.2.1)) with
    | false=>rfl
    | true=>exact absurd (Hnd.out.2.2 h) q3
   rw [hB.out,this]
   simp)
  go_wp2
  go_ret
  exact ⟨by rw [schE_no HN.out];rfl,HS.out.below⟩
end Go.Proofs.YtjpjalmilfgckaaGreatDoor
namespace Go.Proofs.YtjpjalmilfgckaaGreatDoor
open Go.RowKit Go.Extern.Stop Go.Stop Go.Extern
theorem rl_valueOfP (t:Addr) (w:World):(ReflectliteValue.unpack (.iface 166 (.pointer (some t)))).run Tryz.prog w=.ok (.agg #[.pointer (some ⟨10,166,none⟩),.pointer (some ⟨w.heap.size,0,none⟩),.int .u64 150]) (w.alloc (.cells #[.pointer (some t)] 166)):=by kernel_rfl
theorem rl_typeP (a : Addr) (w : World) : (ReflectliteValue.methodAny (ReflectliteValue.valueError "reflectlite.Value.Type" 0) (fun t _ _ _ => ReflectliteType.toType t) #[.agg #[.pointer (some ⟨10, 166, none⟩), .pointer (some a), .int .u64 150]]).run Tryz.prog w = .ok (.iface 254 (.agg #[.pointer (some ⟨10, 166, none⟩)])) w := by kernel_rfl
theorem rl_methodKind (h : Value) (w : World) : (Go.method 500 254 (.agg #[h]) "Kind").run Tryz.prog w = .ok (359, h) w := by kernel_rfl
theorem rl_kindP (w:World):((ReflectliteType.abiMethod fun t=>Functor.map (fun a:Nat=>.int .u8 (a:Int)) (Rtype.kind t)  ) #[.pointer (some ⟨10,166,none⟩)]).run Tryz.prog w=.ok (.int .u8 22) w:=by kernel_rfl
theorem rl_kindW (w:World):((ReflectliteType.abiMethod fun t=>Functor.map (fun a:Nat=>.int .u8 (a:Int)) (Rtype.kind t)  ) #[.pointer (some ⟨10,164,none⟩)]).run Tryz.prog w=.ok (.int .u8 25) w:=by kernel_rfl
theorem rlm (z:Sem Value) (f:TypeId->Addr->Nat->Nat->Sem Value) (v:Value) :
  ReflectliteValue.method z f #[v]=(do match<-ReflectliteValue.parts v with | none=>z | some (t,a,fl)=>f t a fl (fl % 32)):=rfl
theorem rl_partsP (a:Addr) (w:World):(ReflectliteValue.parts (.agg #[.pointer (some ⟨10,166,none⟩),.pointer (some a),.int .u64 150])).run Tryz.prog w=.ok (some (166,a,150)) w:=by kernel_rfl
theorem rl_isNilP (a p:Addr) (W:World) (ha:W.cell? a=some (.pointer (some p))) :
  (ReflectliteValue.method (ReflectliteValue.valueError "reflectlite.Value.IsNil" 0) ReflectliteValue.isNil #[.agg #[.pointer (some ⟨10, 166, none⟩), .pointer (some a), .int .u64 150]]).run Tryz.prog W = .ok (.bool false) W := by
 rw [rlm]
 simp only [Sem.run_bind,rl_partsP,Result.andThen]
 simp [ReflectliteValue.isNil,loadVar,isAgg,underlying,Tryz.underlying166,ha,Result.andThen]
theorem rl_methodElem (h : Value) (w : World) : (Go.method 500 254 (.agg #[h]) "Elem").run Tryz.prog w = .ok (371, .agg #[h]) w := by kernel_rfl
theorem rl_methodImplements (h : Value) (w : World) : (Go.method 500 254 (.agg #[h]) "Implements").run Tryz.prog w = .ok (372, .agg #[h]) w := by kernel_rfl
theorem rl_methodAssignableTo (h : Value) (w : World) : (Go.method 500 254 (.agg #[h]) "AssignableTo").run Tryz.prog w = .ok (369, .agg #[h]) w := by kernel_rfl
theorem rl_elemP (w:World):(ReflectliteType.method ReflectliteType.elem #[.agg #[.pointer (some ⟨10,166,none⟩)]]).run Tryz.prog w=.ok (.iface 254 (.agg #[.pointer (some ⟨10,164,none⟩)])) w:=by kernel_rfl
theorem rl_implementsW (w : World) : (ReflectliteType.relation "Implements" ReflectliteType.implements_ #[.agg #[.pointer (some ⟨10, 164, none⟩)], .iface 254 (.agg #[.pointer (some ⟨10, 102, none⟩)])]).run Tryz.prog w = .ok (.bool true) w := by kernel_rfl
theorem rl_typeOfW (v:Value) (w:World):(ReflectliteType.typeOf #[.iface 164 v]).run Tryz.prog w=.ok (.iface 254 (.agg #[.pointer (some ⟨10,164,none⟩)])) w:=by kernel_rfl
theorem rl_assignableW (w : World) : (ReflectliteType.relation "AssignableTo" ReflectliteType.assignableTo #[.agg #[.pointer (some ⟨10, 164, none⟩)], .iface 254 (.agg #[.pointer (some ⟨10, 164, none⟩)])]).run Tryz.prog w = .ok (.bool true) w := by kernel_rfl
theorem rl_valueOfW (e:Int) (w:World):(ReflectliteValue.unpack (.iface 164 (.agg #[.int .i64 e]))).run Tryz.prog w=.ok (.agg #[.pointer (some ⟨10,164,none⟩),.pointer (some ⟨w.heap.size,0,none⟩),.int .u64 153]) (w.alloc (.cells #[.int .i64 e] 164)):=by kernel_rfl
theorem rl_elemOfP (w:World):(Rtype.elem? 166).run Tryz.prog w=.ok (some 164) w:=by kernel_rfl
theorem rl_mkW (p:Addr) (w:World):(ReflectliteValue.mk 164 p ReflectliteValue.flagAddr).run Tryz.prog w=.ok (.agg #[.pointer (some ⟨10,164,none⟩),.pointer (some p),.int .u64 409]) w:=by kernel_rfl
theorem rl_elemVP (a p:Addr) (W:World) (ha:W.cell? a=some (.pointer (some p))) :
  (ReflectliteValue.method (ReflectliteValue.valueError "reflectlite.Value.Elem" 0) ReflectliteValue.elem #[.agg #[.pointer (some ⟨10, 166, none⟩), .pointer (some a), .int .u64 150]]).run Tryz.prog W = .ok (.agg #[.pointer (some ⟨10, 164, none⟩), .pointer (some p), .int .u64 409]) W := by
 rw [rlm]
 simp only [Sem.run_bind,rl_partsP,Result.andThen]
 simp [ReflectliteValue.elem,loadVar,isAgg,underlying,Tryz.underlying166,ha,Result.andThen,rl_elemOfP,rl_mkW]
theorem rls (v x:Value):ReflectliteValue.set #[v,x]=(do
  let (some (dst,a,fl),some (src,b,_)):=(<-ReflectliteValue.parts v,<-ReflectliteValue.parts x)
   | unsupported (.noEntry "extern/(internal/reflectlite.Value).Set.zeroValue")
  if fl / ReflectliteValue.flagAddr % 2 == 0 then unsupported (.noEntry "extern/(internal/reflectlite.Value).Set.unaddressable")
  let val<-loadVar src b
  if<-Rtype.directlyAssignable dst src then storeVar dst a val
  else if<-Rtype.implements dst src then
   if (<-Rtype.kind src)==20 then
    match val with
    | .nilIface => unsupported (.noEntry "extern/reflectlite: a nil value of one interface type handed on as a value of another")
    | _=>storeVar dst a val
   else storeVar dst a (.iface src val)
  else panicString ("reflectlite.Set: value of type " ++ (← Rtype.spelt src) ++ " is not assignable to type " ++ (← Rtype.spelt dst))
  pure (.tuple #[])):=rfl
theorem rl_partsWa (a:Addr) (w:World):(ReflectliteValue.parts (.agg #[.pointer (some ⟨10,164,none⟩),.pointer (some a),.int .u64 409])).run Tryz.prog w=.ok (some (164,a,409)) w:=by kernel_rfl
theorem rl_partsW (a:Addr) (w:World):(ReflectliteValue.parts (.agg #[.pointer (some ⟨10,164,none⟩),.pointer (some a),.int .u64 153])).run Tryz.prog w=.ok (some (164,a,153)) w:=by kernel_rfl
theorem rl_directW (w:World):(Rtype.directlyAssignable 164 164).run Tryz.prog w=.ok true w:=by kernel_rfl
theorem rl_setW (ta b:Addr) (e:Int) (old:Value) (W:World) (hb:W.cell? b=some (.int .i64 e)) (ht:W.cell? ta=some old) (hf:W.frozen? ta=false) :
  (ReflectliteValue.set #[.agg #[.pointer (some ⟨10,164,none⟩),.pointer (some ta),.int .u64 409],.agg #[.pointer (some ⟨10,164,none⟩),.pointer (some b),.int .u64 153]]).run Tryz.prog W=.ok (.tuple #[]) (W.setCell ta (.int .i64 e)):=by
 rw [rls]
 simp only [Sem.run_bind,rl_partsWa,rl_partsW,Result.andThen]
 simp [ReflectliteValue.flagAddr,loadVar,isAgg,underlying,Tryz.underlying164,hb,Result.andThen,rl_directW,storeVar,Value.cells,storeCells,loadCells,Addr.add]
 have hl:Sem.run Tryz.prog (loadCellsFrom b 0 1 #[]) W=.ok #[.int .i64 e] W:=by
  simp [loadCellsFrom,hb,Addr.add,Result.andThen]
 rw [hl]
 simp only []
 simp [storeCells]
 rw [show ta.add 0=ta by simp [Addr.add]]
 rw [run_store Tryz.prog W ta _ _ (by rfl)]
 simp [ht,hf]
theorem as_nil (t:Value) (w:World) :
  Calls Tryz.prog 124 #[.nilIface,t] w fun e w'=>e=.returned (.bool false)/\w'=w:=by
 go_enter Tryz.func124,Tryz.ntmps124
 go_wp2
 go_ret
 exact ⟨rfl,rfl⟩
set_option maxHeartbeats 4000000 in
theorem as_hit (e:Int) (t:Addr) (old:Value) (w:World) (hg:w.cell? ⟨1,0,none⟩=some (.iface 254 (.agg #[.pointer (some ⟨10,102,none⟩)]))) (ht0:w.cell? t=some old) (hf0:w.frozen? t=false) :
  Calls Tryz.prog 124 #[.iface 164 (.agg #[.int .i64 e]),.iface 166 (.pointer (some t))] w fun ev w'=>ev=.returned (.bool true)/\w'=(((((w.alloc (.cells #[.pointer (some t)] 166)).alloc (.cells #[.pointer (some ⟨10,166,none⟩),.pointer (some ⟨w.heap.size,0,none⟩),.int .u64 150] 217)).alloc (.cells #[.pointer (some ⟨10,166,none⟩),.pointer (some ⟨w.heap.size,0,none⟩),.int .u64 150] 217)).alloc (.cells #[.int .i64 e] 164)).setCell t (.int .i64 e)):=by
 have h6 := @run_callFunc_extern Tryz.prog 174 _ (fun args=>ReflectliteValue.unpack (args.getD 0 (.tuple #[]))) Tryz.func174 (by kernel_rfl) (by kernel_rfl) (by kernel_rfl) (by kernel_rfl)
 have h7 := @run_callFunc_extern Tryz.prog 175 _ (ReflectliteValue.methodAny (ReflectliteValue.valueError "reflectlite.Value.Type" 0) (fun t _ _ _ => ReflectliteType.toType t)) Tryz.func175 (by kernel_rfl) (by kernel_rfl) (by kernel_rfl) (by kernel_rfl)
 have h8 := @run_callFunc_extern Tryz.prog 176 _ (ReflectliteValue.method (ReflectliteValue.valueError "reflectlite.Value.IsNil" 0) ReflectliteValue.isNil) Tryz.func176 (by kernel_rfl) (by kernel_rfl) (by kernel_rfl) (by kernel_rfl)
 have h27 := @run_callFunc_extern Tryz.prog 359 _ (ReflectliteType.abiMethod fun t=>do pure (.int .u8 (<-Rtype.kind t))) Tryz.func359 (by kernel_rfl) (by kernel_rfl) (by kernel_rfl) (by kernel_rfl)
 have h37 := @run_callFunc_extern Tryz.prog 371 _ (ReflectliteType.method ReflectliteType.elem) Tryz.func371 (by kernel_rfl) (by kernel_rfl) (by kernel_rfl) (by kernel_rfl)
 have h38 := @run_callFunc_extern Tryz.prog 372 _ (ReflectliteType.relation "Implements" ReflectliteType.implements_) Tryz.func372 (by kernel_rfl) (by kernel_rfl) (by kernel_rfl) (by kernel_rfl)
 have h10 := @run_callFunc_extern Tryz.prog 228 _ (ReflectliteType.typeOf) Tryz.func228 (by kernel_rfl) (by kernel_rfl) (by kernel_rfl) (by kernel_rfl)
 have h35 := @run_callFunc_extern Tryz.prog 369 _ (ReflectliteType.relation "AssignableTo" ReflectliteType.assignableTo) Tryz.func369 (by kernel_rfl) (by kernel_rfl) (by kernel_rfl) (by kernel_rfl)
 have h11 := @run_callFunc_extern Tryz.prog 229 _ (ReflectliteValue.method (ReflectliteValue.valueError "reflectlite.Value.Elem" 0) ReflectliteValue.elem) Tryz.func229 (by kernel_rfl) (by kernel_rfl) (by kernel_rfl) (by kernel_rfl)
 have h12 := @run_callFunc_extern Tryz.prog 230 _ (ReflectliteValue.set) Tryz.func230 (by kernel_rfl) (by kernel_rfl) (by kernel_rfl) (by kernel_rfl)
 have tO:=rl_typeOfW
 have mA:=rl_methodAssignableTo
 have a25:=rl_assignableW
 have v25:=rl_valueOfW
 have f6:=rl_valueOfP
 have f7:=rl_typeP
 have mK:=rl_methodKind
 have mE:=rl_methodElem
 have mI:=rl_methodImplements
 have k27:=rl_kindP
 have k25:=rl_kindW
 have e27:=rl_elemP
 have i25:=rl_implementsW
 have n8:=rl_isNilP ⟨w.heap.size,0,none⟩ t ((w.alloc (.cells #[.pointer (some t)] 166)).alloc (.cells #[.pointer (some ⟨10,166,none⟩),.pointer (some ⟨w.heap.size,0,none⟩),.int .u64 150] 217)) (by simp)
 have hlt:1<w.heap.size:=by
  rcases Nat.lt_or_ge 1 w.heap.size with h | h0
  ·exact h
  simp [World.cell?,Array.getElem?_eq_none h0] at hg
 have hg2:((w.alloc (.cells #[.pointer (some t)] 166)).alloc (.cells #[.pointer (some ⟨10,166,none⟩),.pointer (some ⟨w.heap.size,0,none⟩),.int .u64 150] 217)).cell? ⟨1,0,none⟩=some (.iface 254 (.agg #[.pointer (some ⟨10,102,none⟩)])):=by
  rw [World.cell?_alloc_lt _ _ ⟨1,0,none⟩ (by simp;omega),World.cell?_alloc_lt _ _ ⟨1,0,none⟩ hlt];exact hg
 have htl:t.block<w.heap.size:=by
  rcases Nat.lt_or_ge t.block w.heap.size with h | h
  ·exact h
  simp [World.cell?,Array.getElem?_eq_none h] at ht0
 have el:=rl_elemVP ⟨w.heap.size,0,none⟩ t (((w.alloc (.cells #[.pointer (some t)] 166)).alloc (.cells #[.pointer (some ⟨10,166,none⟩),.pointer (some ⟨w.heap.size,0,none⟩),.int .u64 150] 217)).alloc (.cells #[.pointer (some ⟨10,166,none⟩),.pointer (some ⟨w.heap.size,0,none⟩),.int .u64 150] 217)) (by rw [World.cell?_alloc_lt _ _ ⟨w.heap.size,0,none⟩ (by simp;omega)];simp)
 have st:=rl_setW t ⟨w.heap.size+1+1+1,0,none⟩ e old ((((w.alloc (.cells #[.pointer (some t)] 166)).alloc (.cells #[.pointer (some ⟨10,166,none⟩),.pointer (some ⟨w.heap.size,0,none⟩),.int .u64 150] 217)).alloc (.cells #[.pointer (some ⟨10,166,none⟩),.pointer (some ⟨w.heap.size,0,none⟩),.int .u64 150] 217)).alloc (.cells #[.int .i64 e] 164))
  (by rw [World.cell?_alloc_at _ _ _ _ (by simp)];rfl)
  (by rw [World.cell?_alloc_lt _ _ t (by simp;omega),World.cell?_alloc_lt _ _ t (by simp;omega),World.cell?_alloc_lt _ _ t (by simp;omega),World.cell?_alloc_lt _ _ t htl];exact ht0)
  (by rw [World.frozen?_alloc_old _ _ t (by simp;omega),World.frozen?_alloc_old _ _ t (by simp;omega),World.frozen?_alloc_old _ _ t (by simp;omega),World.frozen?_alloc_old _ _ t (Nat.ne_of_lt htl)];exact hf0)
 go_enter Tryz.func124,Tryz.ntmps124
 go_wp2
 refine wp_loop_rounds 1 ?_
 rw [rounds_succ]
 go_wp2
 go_ret
 exact ⟨rfl,rfl⟩
def ErrT (w:World):Prop:=w.cell? ⟨1,0,none⟩=some (.iface 254 (.agg #[.pointer (some ⟨10,102,none⟩)]))
theorem ErrT.lt {w:World} (h:ErrT w):1<w.heap.size:=World.block_lt_of_cell? _ _ h
theorem ErrT.on {w w':World} (h:ErrT w) (hb:Below w.heap.size w w'):ErrT w':=(hb.cell (p:=⟨1,0,none⟩) h.lt).trans h
end Go.Proofs.YtjpjalmilfgckaaGreatDoor
namespace Go.Proofs.YtjpjalmilfgckaaGreatDoor
open Go.RowKit
def errV:Option Int->Value
 | none=>.nilIface
 | some e=>.iface 164 (.agg #[.int .i64 e])
def needO (b:Bool) (e:Int):Option Int:=if b then none else some e
def codeO:Option Int->Int
 | none=>0
 | some e=>e
theorem ineed_any (b:Bool) (e:Int) (w:World):Calls Tryz.prog 83 #[.bool b,.int .i64 e] w fun x w'=>x=.returned (errV (needO b e))/\w=w':=by
 cases b with
 | true=>
  go_enter Tryz.func83,Tryz.ntmps83
  go_wp2
  go_ret
  exact ⟨rfl,rfl⟩
 | false=>
  go_enter Tryz.func83,Tryz.ntmps83
  go_wp2
  go_ret
  exact ⟨rfl,rfl⟩
def firstO:List (Option Int)->Option Int
 | []=>none
 | none::l=>firstO l
 | some e::_=>some e
set_option maxHeartbeats 1000000 in
theorem ifirst_any (g n c:Nat) (l:List (Option Int)) (w:World) (h:Blk w g 102 (l.map errV).toArray) (hl:l.length=n) (hn:n<=1000) :
  Calls Tryz.prog 82 #[.slice (some ⟨g,0,none⟩) n c] w fun x w'=>x=.returned (errV (firstO l))/\w=w':=by
 have hc:∀ k o,l[k]? = some o->w.cell? ⟨g,k,none⟩=some (errV o):=fun k o ho=>by rw [h.cell];simp [ho]
 have HC:=Lib.hid hc
 clear h hc
 go_enter Tryz.func82,Tryz.ntmps82
 go_wp2
 go_loopw [7] (fun kv wr=>∃ k:Nat,k<=n/\kv=.int .i64 (k:Int)/\wr=w/\Hid (firstO l=firstO (l.drop k))) (fun kv _=>n-(intOf kv).toNat)
 case atStart=>exact ⟨0,Nat.zero_le _,rfl,rfl,Lib.hid rfl⟩
 case round=>
  obtain ⟨k,hk,rfl,rfl,HR⟩:=hrel
  by_cases hlt:k<n
  ·have d1:decide ((k:Int)<(n:Int))=true:=by simp;omega
   have hkn:(k:Int)<(n:Int):=by omega
   obtain ⟨o,ho⟩:∃ o,l[k]? = some o:=⟨_,List.getElem?_eq_getElem (by omega)⟩
   have c0:=HC.out k o ho
   have hd:l.drop k=o::l.drop (k+1):=by
    obtain ⟨hi,rfl⟩:=List.getElem?_eq_some_iff.1 ho
    exact List.drop_eq_getElem_cons hi
   cases o with
   | none=>
    have HN:=Lib.hid (show firstO l=firstO (l.drop (k+1)) by rw [HR.out,hd];rfl)
    simp only [errV] at c0
    clear ho hd HR
    go_wp2
    go_roundw
    case rel=>exact ⟨k+1,by omega,by go_num,by trivial,HN⟩
    case measure=>simp [intOf];omega
   | some e=>
    have HN:=Lib.hid (show firstO l=some e by rw [HR.out,hd];rfl)
    simp only [errV] at c0
    clear ho hd HR
    go_wp2
    go_ret
    exact ⟨by rw [HN.out];rfl,rfl⟩
  have d1:decide ((k:Int)<(n:Int))=false:=by simp;omega
  have HN:=Lib.hid (show firstO l=none by rw [HR.out,List.drop_of_length_le (by omega)];rfl)
  go_wp2
  go_ret
  exact ⟨by rw [HN.out];rfl,rfl⟩
set_option maxHeartbeats 1000000 in
theorem icode_any (o:Option Int) (w:World) (hT:ErrT w):Calls Tryz.prog 65 #[errV o] w fun x w'=>x=.returned (.int .i64 (codeO o))/\Below w.heap.size w w':=by
 have HT:=Lib.hid hT
 clear hT
 cases o with
 | none=>
  simp only [errV]
  go_enter Tryz.func65,Tryz.ntmps65
  go_wp2_with fail
  with_reducible refine (as_nil _ _).mono ?_
  rintro e w1 ⟨rfl,rfl⟩
  go_wp2
  go_ret
  exact ⟨rfl,bal (Below.refl _ _) _⟩
 | some e=>
  simp only [errV]
  have HB:=Lib.hid (Blk.new w 164 #[.int .i64 0])
  have Hb:=Lib.hid (bal (Below.refl w.heap.size w) (.cells #[.int .i64 0] 164))
  go_enter Tryz.func65,Tryz.ntmps65
  go_wp2_with fail
  generalize w.alloc (.cells #[.int .i64 0] 164)=W at *
  have hE:=HT.out.on Hb.out
  unfold ErrT at hE
  have hx0:W.cell? ⟨w.heap.size,0,none⟩=some (.int .i64 0):=HB.out.cell 0
  with_reducible refine (as_hit e ⟨w.heap.size,0,none⟩ (.int .i64 0) _ hE hx0 (HB.out.frozen 0)).mono ?_
  rintro x w1 ⟨rfl,hw1⟩
  have hB1:Blk w1 w.heap.size 164 #[.int .i64 e]:=by
   rw [hw1]
   have:=((((HB.out.alloc (.cells #[.pointer (some ⟨w.heap.size,0,none⟩)] 166)).alloc (.cells #[.pointer (some ⟨10,166,none⟩),.pointer (some ⟨W.heap.size,0,none⟩),.int .u64 150] 217)).alloc (.cells #[.pointer (some ⟨10,166,none⟩),.pointer (some ⟨W.heap.size,0,none⟩),.int .u64 150] 217)).alloc (.cells #[.int .i64 e] 164)).set_ 0 (.int .i64 e)
   simpa only [List.setIfInBounds_toArray,List.set_cons_zero] using this
  have hb1:Below w.heap.size w w1:=by
   rw [hw1]
   exact (bal (bal (bal (bal Hb.out _) _) _) _).setCell (p:=⟨w.heap.size,0,none⟩) (Nat.le_refl _) _
  have c0:=hB1.cell 0
  have Hb1:=Lib.hid hb1
  clear hw1 hB1 hb1 hE hx0
  go_wp2
  go_ret
  exact ⟨rfl,Hb1.out⟩
end Go.Proofs.YtjpjalmilfgckaaGreatDoor
