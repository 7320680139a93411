/- Part 27 of the walks, merged: each text under its own heading. Conditions: none of its own; each lemma states what it asks. -/
import Derived.Test.YtjpjalmilfgckaaGreatDoorIm7
import Derived.Test.YtjpjalmilfgckaaGreatDoorIm26
import Derived.OrdersIn
import Derived.TacticsIn
import Derived.RangeFuncCalls
set_option maxRecDepth 100000
set_option linter.unusedVariables false
set_option linter.unusedSimpArgs false
namespace Go.Proofs.YtjpjalmilfgckaaGreatDoor
open Go.RowKit
set_option maxHeartbeats 1000000 in
theorem as_any (i:Int) (nm:ByteArray) (k:Int) (nl u:Bool) (x:Int) (s:ByteArray) (w:World) :
  Calls Tryz.prog 135 #[.agg #[.int .i64 i,.string nm,.int .i64 k,.bool nl,.bool u,.int .i64 x,.string s]] w fun e w'=>e=.returned (.agg #[.int .i64 i,.string nm,.int .i64 (if k=2 then 3 else k),.bool nl,.bool u,.int .i64 x,.string s])/\Below w.heap.size w w':=by
 obtain ⟨W,hW1⟩:∃ W,(w.alloc (.cells #[.int .i64 i,.string nm,.int .i64 k,.bool nl,.bool u,.int .i64 x,.string s] 45)).alloc (.cells #[.int .i64 0,.string ⟨#[]⟩,.int .i64 0,.bool false,.bool false,.int .i64 0,.string ⟨#[]⟩] 45)=W:=⟨_,rfl⟩
 have HB:=Lib.hid (show Below w.heap.size w W by rw [<-hW1];exact bal (bal (Below.refl _ _) _) _)
 have BS:=Lib.hid (show Blk W w.heap.size 45 #[.int .i64 i,.string nm,.int .i64 k,.bool nl,.bool u,.int .i64 x,.string s] by rw [<-hW1];exact (Blk.new w _ _).alloc _)
 have BT:=Lib.hid (show Blk W (w.heap.size+1) 45 #[.int .i64 0,.string ⟨#[]⟩,.int .i64 0,.bool false,.bool false,.int .i64 0,.string ⟨#[]⟩] by rw [<-hW1];exact Blk.new' _ _ _ _ (by simp))
 have hlow:w.heap.size<=w.heap.size+1:=by omega
 by_cases hk:k=2
 ·subst hk
  rw [if_pos rfl]
  have c2:=BS.out.cell 2
  have f2:=BS.out.frozen 2
  have BS2:=Lib.hid (BS.out.set_ 2 (.int .i64 3))
  simp only [List.setIfInBounds_toArray,List.set_cons_succ,List.set_cons_zero] at BS2
  have BT2:=Lib.hid (BT.out.far (p:=⟨w.heap.size,2,none⟩) (by show w.heap.size+1≠w.heap.size;omega) (.int .i64 3))
  have HB2:=Lib.hid (HB.out.setCell (p:=⟨w.heap.size,2,none⟩) (Nat.le_refl _) (.int .i64 3))
  have b0:=BS2.out.cell 0
  have b1:=BS2.out.cell 1
  have b2:=BS2.out.cell 2
  have b3:=BS2.out.cell 3
  have b4:=BS2.out.cell 4
  have b5:=BS2.out.cell 5
  have b6:=BS2.out.cell 6
  have t0:=BT2.out.cell 0
  have t1:=BT2.out.cell 1
  have t2:=BT2.out.cell 2
  have t3:=BT2.out.cell 3
  have t4:=BT2.out.cell 4
  have t5:=BT2.out.cell 5
  have t6:=BT2.out.cell 6
  have g0:=BT2.out.frozen 0
  have g1:=BT2.out.frozen 1
  have g2:=BT2.out.frozen 2
  have g3:=BT2.out.frozen 3
  have g4:=BT2.out.frozen 4
  have g5:=BT2.out.frozen 5
  have g6:=BT2.out.frozen 6
  go_enter Tryz.func135,Tryz.ntmps135
  go_wp2
  try rw [hW1]
  clear b0 b1 b2 b3 b4 b5 b6 t0 t1 t2 t3 t4 t5 t6 g0 g1 g2 g3 g4 g5 g6
  have BTF:=((((((BT2.out.set_ 0 (.int .i64 i)).set_ 1 (.string nm)).set_ 2 (.int .i64 3)).set_ 3 (.bool nl)).set_ 4 (.bool u)).set_ 5 (.int .i64 x)).set_ 6 (.string s)
  simp only [List.setIfInBounds_toArray,List.set_cons_succ,List.set_cons_zero] at BTF
  have HBF:=Lib.hid (((((((HB2.out.setCell (p:=⟨w.heap.size+1,0,none⟩) hlow (.int .i64 i)).setCell (p:=⟨w.heap.size+1,1,none⟩) hlow (.string nm)).setCell (p:=⟨w.heap.size+1,2,none⟩) hlow (.int .i64 3)).setCell (p:=⟨w.heap.size+1,3,none⟩) hlow (.bool nl)).setCell (p:=⟨w.heap.size+1,4,none⟩) hlow (.bool u)).setCell (p:=⟨w.heap.size+1,5,none⟩) hlow (.int .i64 x)).setCell (p:=⟨w.heap.size+1,6,none⟩) hlow (.string s))
  have r0:=BTF.cell 0
  have r1:=BTF.cell 1
  have r2:=BTF.cell 2
  have r3:=BTF.cell 3
  have r4:=BTF.cell 4
  have r5:=BTF.cell 5
  have r6:=BTF.cell 6
  refine bodyPost_ret (v:=.agg #[.int .i64 i,.string nm,.int .i64 3,.bool nl,.bool u,.int .i64 x,.string s]) (by simp [results,Tryz.results135,go_sem,r0,r1,r2,r3,r4,r5,r6]) rfl ?_
  exact ⟨rfl,HBF.out⟩
 rw [if_neg hk]
 have e1:(k==2)=false:=by simpa using hk
 have BS2:=BS
 have BT2:=BT
 have HB2:=HB
 clear hk
 have b0:=BS2.out.cell 0
 have b1:=BS2.out.cell 1
 have b2:=BS2.out.cell 2
 have b3:=BS2.out.cell 3
 have b4:=BS2.out.cell 4
 have b5:=BS2.out.cell 5
 have b6:=BS2.out.cell 6
 have t0:=BT2.out.cell 0
 have t1:=BT2.out.cell 1
 have t2:=BT2.out.cell 2
 have t3:=BT2.out.cell 3
 have t4:=BT2.out.cell 4
 have t5:=BT2.out.cell 5
 have t6:=BT2.out.cell 6
 have g0:=BT2.out.frozen 0
 have g1:=BT2.out.frozen 1
 have g2:=BT2.out.frozen 2
 have g3:=BT2.out.frozen 3
 have g4:=BT2.out.frozen 4
 have g5:=BT2.out.frozen 5
 have g6:=BT2.out.frozen 6
 go_enter Tryz.func135,Tryz.ntmps135
 go_wp2
 try rw [hW1]
 clear b0 b1 b2 b3 b4 b5 b6 t0 t1 t2 t3 t4 t5 t6 g0 g1 g2 g3 g4 g5 g6
 have BTF:=((((((BT2.out.set_ 0 (.int .i64 i)).set_ 1 (.string nm)).set_ 2 (.int .i64 k)).set_ 3 (.bool nl)).set_ 4 (.bool u)).set_ 5 (.int .i64 x)).set_ 6 (.string s)
 simp only [List.setIfInBounds_toArray,List.set_cons_succ,List.set_cons_zero] at BTF
 have HBF:=Lib.hid (((((((HB2.out.setCell (p:=⟨w.heap.size+1,0,none⟩) hlow (.int .i64 i)).setCell (p:=⟨w.heap.size+1,1,none⟩) hlow (.string nm)).setCell (p:=⟨w.heap.size+1,2,none⟩) hlow (.int .i64 k)).setCell (p:=⟨w.heap.size+1,3,none⟩) hlow (.bool nl)).setCell (p:=⟨w.heap.size+1,4,none⟩) hlow (.bool u)).setCell (p:=⟨w.heap.size+1,5,none⟩) hlow (.int .i64 x)).setCell (p:=⟨w.heap.size+1,6,none⟩) hlow (.string s))
 have r0:=BTF.cell 0
 have r1:=BTF.cell 1
 have r2:=BTF.cell 2
 have r3:=BTF.cell 3
 have r4:=BTF.cell 4
 have r5:=BTF.cell 5
 have r6:=BTF.cell 6
 refine bodyPost_ret (v:=.agg #[.int .i64 i,.string nm,.int .i64 k,.bool nl,.bool u,.int .i64 x,.string s]) (by simp [results,Tryz.results135,go_sem,r0,r1,r2,r3,r4,r5,r6]) rfl ?_
 exact ⟨rfl,HBF.out⟩
theorem asC_eq (i:Int) (nm:ByteArray) (k:Int) (nl u:Bool) (x:Int) (s:ByteArray):asC (i,nm,k,nl,u,x,s)=(i,nm,if k=2 then 3 else k,nl,u,x,s):=rfl
def stayB (a b:Co) (nar:Bool):Bool:=decide (a=b) && !nar
theorem stay_no {a b:Co} {nar:Bool} (h:¬a=b):stayB a b nar=false:=by unfold stayB;rw [decide_eq_false h];rfl
theorem stay_yes {a b:Co} {nar:Bool} (h:a=b):stayB a b nar = !nar:=by unfold stayB;rw [decide_eq_true h];rfl
theorem bts_ne {a b:ByteArray} (h:¬a=b):¬a.toList=b.toList:=fun e=>h (by
 rw [Lib.toList_data,Lib.toList_data] at e
 exact ByteArray.ext (Array.ext' e))
theorem stays_eq (c d:Co) (nar:Bool) (h:(decide (c.2.2.1=3)&&decide (d.2.2.1=2))=nar):staysB c d=stayB (asC c) (asC d) nar:=by unfold staysB stayB;rw [h]
set_option maxHeartbeats 4000000 in
theorem stays_any (i:Int) (nm:ByteArray) (k:Int) (nl u:Bool) (x:Int) (s:ByteArray) (i':Int) (nm':ByteArray) (k':Int) (nl' u':Bool) (x':Int) (s':ByteArray) (w:World) :
  Calls Tryz.prog 134 #[.agg #[.int .i64 i,.string nm,.int .i64 k,.bool nl,.bool u,.int .i64 x,.string s],.agg #[.int .i64 i',.string nm',.int .i64 k',.bool nl',.bool u',.int .i64 x',.string s']] w fun e w'=>e=.returned (.bool (staysB (i,nm,k,nl,u,x,s) (i',nm',k',nl',u',x',s')))/\Below w.heap.size w w':=by
 obtain ⟨W,hW1⟩:∃ W,(w.alloc (.cells #[.int .i64 i,.string nm,.int .i64 k,.bool nl,.bool u,.int .i64 x,.string s] 45)).alloc (.cells #[.int .i64 i',.string nm',.int .i64 k',.bool nl',.bool u',.int .i64 x',.string s'] 45)=W:=⟨_,rfl⟩
 have HB:=Lib.hid (show Below w.heap.size w W by rw [<-hW1];exact bal (bal (Below.refl _ _) _) _)
 have BS:=Lib.hid (show Blk W w.heap.size 45 #[.int .i64 i,.string nm,.int .i64 k,.bool nl,.bool u,.int .i64 x,.string s] by rw [<-hW1];exact (Blk.new w _ _).alloc _)
 have BT:=Lib.hid (show Blk W (w.heap.size+1) 45 #[.int .i64 i',.string nm',.int .i64 k',.bool nl',.bool u',.int .i64 x',.string s'] by rw [<-hW1];exact Blk.new' _ _ _ _ (by simp))
 have a0:=Lib.hid (show ∀ w',Below W.heap.size W w'->w'.cell? ⟨w.heap.size,0,none⟩=some (.int .i64 i) from fun w' h=>(BS.out.on h).cell 0)
 have a1:=Lib.hid (show ∀ w',Below W.heap.size W w'->w'.cell? ⟨w.heap.size,1,none⟩=some (.string nm) from fun w' h=>(BS.out.on h).cell 1)
 have a2:=Lib.hid (show ∀ w',Below W.heap.size W w'->w'.cell? ⟨w.heap.size,2,none⟩=some (.int .i64 k) from fun w' h=>(BS.out.on h).cell 2)
 have a3:=Lib.hid (show ∀ w',Below W.heap.size W w'->w'.cell? ⟨w.heap.size,3,none⟩=some (.bool nl) from fun w' h=>(BS.out.on h).cell 3)
 have a4:=Lib.hid (show ∀ w',Below W.heap.size W w'->w'.cell? ⟨w.heap.size,4,none⟩=some (.bool u) from fun w' h=>(BS.out.on h).cell 4)
 have a5:=Lib.hid (show ∀ w',Below W.heap.size W w'->w'.cell? ⟨w.heap.size,5,none⟩=some (.int .i64 x) from fun w' h=>(BS.out.on h).cell 5)
 have a6:=Lib.hid (show ∀ w',Below W.heap.size W w'->w'.cell? ⟨w.heap.size,6,none⟩=some (.string s) from fun w' h=>(BS.out.on h).cell 6)
 have b0:=Lib.hid (show ∀ w',Below W.heap.size W w'->w'.cell? ⟨w.heap.size+1,0,none⟩=some (.int .i64 i') from fun w' h=>(BT.out.on h).cell 0)
 have b1:=Lib.hid (show ∀ w',Below W.heap.size W w'->w'.cell? ⟨w.heap.size+1,1,none⟩=some (.string nm') from fun w' h=>(BT.out.on h).cell 1)
 have b2:=Lib.hid (show ∀ w',Below W.heap.size W w'->w'.cell? ⟨w.heap.size+1,2,none⟩=some (.int .i64 k') from fun w' h=>(BT.out.on h).cell 2)
 have b3:=Lib.hid (show ∀ w',Below W.heap.size W w'->w'.cell? ⟨w.heap.size+1,3,none⟩=some (.bool nl') from fun w' h=>(BT.out.on h).cell 3)
 have b4:=Lib.hid (show ∀ w',Below W.heap.size W w'->w'.cell? ⟨w.heap.size+1,4,none⟩=some (.bool u') from fun w' h=>(BT.out.on h).cell 4)
 have b5:=Lib.hid (show ∀ w',Below W.heap.size W w'->w'.cell? ⟨w.heap.size+1,5,none⟩=some (.int .i64 x') from fun w' h=>(BT.out.on h).cell 5)
 have b6:=Lib.hid (show ∀ w',Below W.heap.size W w'->w'.cell? ⟨w.heap.size+1,6,none⟩=some (.string s') from fun w' h=>(BT.out.on h).cell 6)
 have c2:=BS.out.cell 2
 have d2:=BT.out.cell 2
 clear BS BT
 obtain ⟨K1,hK1⟩:∃ K1,(if k=2 then 3 else k)=K1:=⟨_,rfl⟩
 obtain ⟨K2,hK2⟩:∃ K2,(if k'=2 then 3 else k')=K2:=⟨_,rfl⟩
 have HSt:=Lib.hid (fun nar h=>stays_eq (i,nm,k,nl,u,x,s) (i',nm',k',nl',u',x',s') nar h)
 rw [asC_eq,asC_eq,hK1,hK2] at HSt
 have HK1:=Lib.hid hK1
 have HK2:=Lib.hid hK2
 clear hK1 hK2
 simp only at HSt
 by_cases hk:k=3
 ·have e1:(k==3)=true:=by simpa using hk
  by_cases hk2:k'=2
  ·have e2:(k'==2)=true:=by simpa using hk2
   have HSt:=Lib.hid (HSt.out true (by rw [hk,hk2];rfl))
   clear hk hk2
   go_enter Tryz.func134,Tryz.ntmps134
   by_cases h1:i=i'
   case neg=>
    have HN:=Lib.hid (stay_no (a:=(i,nm,K1,nl,u,x,s)) (b:=(i',nm',K2,nl',u',x',s')) (nar:=true) (fun h=>h1 (Prod.mk.inj h).1))
    go_wp2
    try rw [hW1]
    have hS:Below W.heap.size W W.drew:=(Below.refl _ _).drew
    refine hR (fun w'=>Below W.heap.size W w') [ff 0,ff 2,tt 1,tt 3,ff 4,ff 5,ff 6,ff 7,ff 8,ff 9] ?_
    refine hP7 hS a0.out a1.out a2.out a3.out a4.out a5.out a6.out ?_
    refine hP7 hS b0.out b1.out b2.out b3.out b4.out b5.out b6.out ?_
    refine hE fun K hK=>?_
    go_simp
    with_reducible refine (as_any _ _ _ _ _ _ _ _).mono ?_
    rintro e w5 ⟨rfl,hb5⟩
    have HS:=Lib.hid (bon hS hb5)
    clear hb5
    refine held_go hK (by exact HS.out) fun hS=>?_
    clear hK K
    try simp only [zp]
    clear HS
    rw [HK1.out]
    refine hE fun K hK=>?_
    go_simp
    with_reducible refine (as_any _ _ _ _ _ _ _ _).mono ?_
    rintro e w5 ⟨rfl,hb5⟩
    have HS:=Lib.hid (bon hS hb5)
    clear hb5
    refine held_go hK (by exact HS.out) fun hS=>?_
    clear hK K
    try simp only [zp]
    clear HS
    rw [HK2.out]
    refine hP hS ?_
    refine hP hS ?_
    refine hO hS ?_
    refine hO hS ?_
    refine hP hS ?_
    refine hP hS ?_
    refine held_end ?_
    go_wp2
    go_ret
    exact ⟨by rw [HSt.out,HN.out];rfl,bon HB.out hS⟩
   subst h1
   by_cases h2:nm=nm'
   case neg=>
    have HN:=Lib.hid (stay_no (a:=(i,nm,K1,nl,u,x,s)) (b:=(i,nm',K2,nl',u',x',s')) (nar:=true) (fun h=>h2 (by simp only [Prod.mk.injEq] at h;exact h.2.1)))
    have h2:¬nm.toList=nm'.toList:=bts_ne h2
    go_wp2
    try rw [hW1]
    have hS:Below W.heap.size W W.drew:=(Below.refl _ _).drew
    refine hR (fun w'=>Below W.heap.size W w') [ff 0,ff 2,tt 1,tt 3,ff 4,ff 5,ff 6,ff 7,ff 8,ff 9] ?_
    refine hP7 hS a0.out a1.out a2.out a3.out a4.out a5.out a6.out ?_
    refine hP7 hS b0.out b1.out b2.out b3.out b4.out b5.out b6.out ?_
    refine hE fun K hK=>?_
    go_simp
    with_reducible refine (as_any _ _ _ _ _ _ _ _).mono ?_
    rintro e w5 ⟨rfl,hb5⟩
    have HS:=Lib.hid (bon hS hb5)
    clear hb5
    refine held_go hK (by exact HS.out) fun hS=>?_
    clear hK K
    try simp only [zp]
    clear HS
    rw [HK1.out]
    refine hE fun K hK=>?_
    go_simp
    with_reducible refine (as_any _ _ _ _ _ _ _ _).mono ?_
    rintro e w5 ⟨rfl,hb5⟩
    have HS:=Lib.hid (bon hS hb5)
    clear hb5
    refine held_go hK (by exact HS.out) fun hS=>?_
    clear hK K
    try simp only [zp]
    clear HS
    rw [HK2.out]
    refine hP hS ?_
    refine hP hS ?_
    refine hO hS ?_
    refine hO hS ?_
    refine hP hS ?_
    refine hP hS ?_
    refine held_end ?_
    go_wp2
    go_ret
    exact ⟨by rw [HSt.out,HN.out];rfl,bon HB.out hS⟩
   subst h2
   by_cases h3:K1=K2
   case neg=>
    have HN:=Lib.hid (stay_no (a:=(i,nm,K1,nl,u,x,s)) (b:=(i,nm,K2,nl',u',x',s')) (nar:=true) (fun h=>h3 (by simp only [Prod.mk.injEq] at h;exact h.2.2.1)))
    go_wp2
    try rw [hW1]
    have hS:Below W.heap.size W W.drew:=(Below.refl _ _).drew
    refine hR (fun w'=>Below W.heap.size W w') [ff 0,ff 2,tt 1,tt 3,ff 4,ff 5,ff 6,ff 7,ff 8,ff 9] ?_
    refine hP7 hS a0.out a1.out a2.out a3.out a4.out a5.out a6.out ?_
    refine hP7 hS b0.out b1.out b2.out b3.out b4.out b5.out b6.out ?_
    refine hE fun K hK=>?_
    go_simp
    with_reducible refine (as_any _ _ _ _ _ _ _ _).mono ?_
    rintro e w5 ⟨rfl,hb5⟩
    have HS:=Lib.hid (bon hS hb5)
    clear hb5
    refine held_go hK (by exact HS.out) fun hS=>?_
    clear hK K
    try simp only [zp]
    clear HS
    rw [HK1.out]
    refine hE fun K hK=>?_
    go_simp
    with_reducible refine (as_any _ _ _ _ _ _ _ _).mono ?_
    rintro e w5 ⟨rfl,hb5⟩
    have HS:=Lib.hid (bon hS hb5)
    clear hb5
    refine held_go hK (by exact HS.out) fun hS=>?_
    clear hK K
    try simp only [zp]
    clear HS
    rw [HK2.out]
    refine hP hS ?_
    refine hP hS ?_
    refine hO hS ?_
    refine hO hS ?_
    refine hP hS ?_
    refine hP hS ?_
    refine held_end ?_
    go_wp2
    go_ret
    exact ⟨by rw [HSt.out,HN.out];rfl,bon HB.out hS⟩
   by_cases h4:nl=nl'
   case neg=>
    have HN:=Lib.hid (stay_no (a:=(i,nm,K1,nl,u,x,s)) (b:=(i,nm,K2,nl',u',x',s')) (nar:=true) (fun h=>h4 (by simp only [Prod.mk.injEq] at h;exact h.2.2.2.1)))
    go_wp2
    try rw [hW1]
    have hS:Below W.heap.size W W.drew:=(Below.refl _ _).drew
    refine hR (fun w'=>Below W.heap.size W w') [ff 0,ff 2,tt 1,tt 3,ff 4,ff 5,ff 6,ff 7,ff 8,ff 9] ?_
    refine hP7 hS a0.out a1.out a2.out a3.out a4.out a5.out a6.out ?_
    refine hP7 hS b0.out b1.out b2.out b3.out b4.out b5.out b6.out ?_
    refine hE fun K hK=>?_
    go_simp
    with_reducible refine (as_any _ _ _ _ _ _ _ _).mono ?_
    rintro e w5 ⟨rfl,hb5⟩
    have HS:=Lib.hid (bon hS hb5)
    clear hb5
    refine held_go hK (by exact HS.out) fun hS=>?_
    clear hK K
    try simp only [zp]
    clear HS
    rw [HK1.out]
    refine hE fun K hK=>?_
    go_simp
    with_reducible refine (as_any _ _ _ _ _ _ _ _).mono ?_
    rintro e w5 ⟨rfl,hb5⟩
    have HS:=Lib.hid (bon hS hb5)
    clear hb5
    refine held_go hK (by exact HS.out) fun hS=>?_
    clear hK K
    try simp only [zp]
    clear HS
    rw [HK2.out]
    refine hP hS ?_
    refine hP hS ?_
    refine hO hS ?_
    refine hO hS ?_
    refine hP hS ?_
    refine hP hS ?_
    refine held_end ?_
    go_wp2
    go_ret
    exact ⟨by rw [HSt.out,HN.out];rfl,bon HB.out hS⟩
   subst h4
   by_cases h5:u=u'
   case neg=>
    have HN:=Lib.hid (stay_no (a:=(i,nm,K1,nl,u,x,s)) (b:=(i,nm,K2,nl,u',x',s')) (nar:=true) (fun h=>h5 (by simp only [Prod.mk.injEq] at h;exact h.2.2.2.2.1)))
    go_wp2
    try rw [hW1]
    have hS:Below W.heap.size W W.drew:=(Below.refl _ _).drew
    refine hR (fun w'=>Below W.heap.size W w') [ff 0,ff 2,tt 1,tt 3,ff 4,ff 5,ff 6,ff 7,ff 8,ff 9] ?_
    refine hP7 hS a0.out a1.out a2.out a3.out a4.out a5.out a6.out ?_
    refine hP7 hS b0.out b1.out b2.out b3.out b4.out b5.out b6.out ?_
    refine hE fun K hK=>?_
    go_simp
    with_reducible refine (as_any _ _ _ _ _ _ _ _).mono ?_
    rintro e w5 ⟨rfl,hb5⟩
    have HS:=Lib.hid (bon hS hb5)
    clear hb5
    refine held_go hK (by exact HS.out) fun hS=>?_
    clear hK K
    try simp only [zp]
    clear HS
    rw [HK1.out]
    refine hE fun K hK=>?_
    go_simp
    with_reducible refine (as_any _ _ _ _ _ _ _ _).mono ?_
    rintro e w5 ⟨rfl,hb5⟩
    have HS:=Lib.hid (bon hS hb5)
    clear hb5
    refine held_go hK (by exact HS.out) fun hS=>?_
    clear hK K
    try simp only [zp]
    clear HS
    rw [HK2.out]
    refine hP hS ?_
    refine hP hS ?_
    refine hO hS ?_
    refine hO hS ?_
    refine hP hS ?_
    refine hP hS ?_
    refine held_end ?_
    go_wp2
    go_ret
    exact ⟨by rw [HSt.out,HN.out];rfl,bon HB.out hS⟩
   subst h5
   by_cases h6:x=x'
   case neg=>
    have HN:=Lib.hid (stay_no (a:=(i,nm,K1,nl,u,x,s)) (b:=(i,nm,K2,nl,u,x',s')) (nar:=true) (fun h=>h6 (by simp only [Prod.mk.injEq] at h;exact h.2.2.2.2.2.1)))
    go_wp2
    try rw [hW1]
    have hS:Below W.heap.size W W.drew:=(Below.refl _ _).drew
    refine hR (fun w'=>Below W.heap.size W w') [ff 0,ff 2,tt 1,tt 3,ff 4,ff 5,ff 6,ff 7,ff 8,ff 9] ?_
    refine hP7 hS a0.out a1.out a2.out a3.out a4.out a5.out a6.out ?_
    refine hP7 hS b0.out b1.out b2.out b3.out b4.out b5.out b6.out ?_
    refine hE fun K hK=>?_
    go_simp
    with_reducible refine (as_any _ _ _ _ _ _ _ _).mono ?_
    rintro e w5 ⟨rfl,hb5⟩
    have HS:=Lib.hid (bon hS hb5)
    clear hb5
    refine held_go hK (by exact HS.out) fun hS=>?_
    clear hK K
    try simp only [zp]
    clear HS
    rw [HK1.out]
    refine hE fun K hK=>?_
    go_simp
    with_reducible refine (as_any _ _ _ _ _ _ _ _).mono ?_
    rintro e w5 ⟨rfl,hb5⟩
    have HS:=Lib.hid (bon hS hb5)
    clear hb5
    refine held_go hK (by exact HS.out) fun hS=>?_
    clear hK K
    try simp only [zp]
    clear HS
    rw [HK2.out]
    refine hP hS ?_
    refine hP hS ?_
    refine hO hS ?_
    refine hO hS ?_
    refine hP hS ?_
    refine hP hS ?_
    refine held_end ?_
    go_wp2
    go_ret
    exact ⟨by rw [HSt.out,HN.out];rfl,bon HB.out hS⟩
   subst h6
   by_cases h7:s=s'
   case neg=>
    have HN:=Lib.hid (stay_no (a:=(i,nm,K1,nl,u,x,s)) (b:=(i,nm,K2,nl,u,x,s')) (nar:=true) (fun h=>h7 (by simp only [Prod.mk.injEq] at h;exact h.2.2.2.2.2.2)))
    have h7:¬s.toList=s'.toList:=bts_ne h7
    go_wp2
    try rw [hW1]
    have hS:Below W.heap.size W W.drew:=(Below.refl _ _).drew
    refine hR (fun w'=>Below W.heap.size W w') [ff 0,ff 2,tt 1,tt 3,ff 4,ff 5,ff 6,ff 7,ff 8,ff 9] ?_
    refine hP7 hS a0.out a1.out a2.out a3.out a4.out a5.out a6.out ?_
    refine hP7 hS b0.out b1.out b2.out b3.out b4.out b5.out b6.out ?_
    refine hE fun K hK=>?_
    go_simp
    with_reducible refine (as_any _ _ _ _ _ _ _ _).mono ?_
    rintro e w5 ⟨rfl,hb5⟩
    have HS:=Lib.hid (bon hS hb5)
    clear hb5
    refine held_go hK (by exact HS.out) fun hS=>?_
    clear hK K
    try simp only [zp]
    clear HS
    rw [HK1.out]
    refine hE fun K hK=>?_
    go_simp
    with_reducible refine (as_any _ _ _ _ _ _ _ _).mono ?_
    rintro e w5 ⟨rfl,hb5⟩
    have HS:=Lib.hid (bon hS hb5)
    clear hb5
    refine held_go hK (by exact HS.out) fun hS=>?_
    clear hK K
    try simp only [zp]
    clear HS
    rw [HK2.out]
    refine hP hS ?_
    refine hP hS ?_
    refine hO hS ?_
    refine hO hS ?_
    refine hP hS ?_
    refine hP hS ?_
    refine held_end ?_
    go_wp2
    go_ret
    exact ⟨by rw [HSt.out,HN.out];rfl,bon HB.out hS⟩
   subst h7
   have HN:=Lib.hid (stay_yes (a:=(i,nm,K1,nl,u,x,s)) (b:=(i,nm,K2,nl,u,x,s)) (nar:=true) (by rw [h3]))
   go_wp2
   try rw [hW1]
   have hS:Below W.heap.size W W.drew:=(Below.refl _ _).drew
   refine hR (fun w'=>Below W.heap.size W w') [ff 0,ff 2,tt 1,tt 3,ff 4,ff 5,ff 6,ff 7,ff 8,ff 9] ?_
   refine hP7 hS a0.out a1.out a2.out a3.out a4.out a5.out a6.out ?_
   refine hP7 hS b0.out b1.out b2.out b3.out b4.out b5.out b6.out ?_
   refine hE fun K hK=>?_
   go_simp
   with_reducible refine (as_any _ _ _ _ _ _ _ _).mono ?_
   rintro e w5 ⟨rfl,hb5⟩
   have HS:=Lib.hid (bon hS hb5)
   clear hb5
   refine held_go hK (by exact HS.out) fun hS=>?_
   clear hK K
   try simp only [zp]
   clear HS
   rw [HK1.out]
   refine hE fun K hK=>?_
   go_simp
   with_reducible refine (as_any _ _ _ _ _ _ _ _).mono ?_
   rintro e w5 ⟨rfl,hb5⟩
   have HS:=Lib.hid (bon hS hb5)
   clear hb5
   refine held_go hK (by exact HS.out) fun hS=>?_
   clear hK K
   try simp only [zp]
   clear HS
   rw [HK2.out]
   iterate 6
    refine hP hS ?_
   refine held_end ?_
   go_wp2
   go_ret
   exact ⟨by rw [HSt.out,HN.out];rfl,bon HB.out hS⟩
  have e2:(k'==2)=false:=by simpa using hk2
  have HSt:=Lib.hid (HSt.out false (by rw [decide_eq_false hk2,Bool.and_false]))
  clear hk hk2
  go_enter Tryz.func134,Tryz.ntmps134
  by_cases h1:i=i'
  case neg=>
   have HN:=Lib.hid (stay_no (a:=(i,nm,K1,nl,u,x,s)) (b:=(i',nm',K2,nl',u',x',s')) (nar:=false) (fun h=>h1 (Prod.mk.inj h).1))
   go_wp2
   try rw [hW1]
   have hS:Below W.heap.size W W.drew:=(Below.refl _ _).drew
   refine hR (fun w'=>Below W.heap.size W w') [ff 0,ff 2,tt 1,tt 3,ff 4,ff 5,ff 6,ff 7,ff 8,ff 9] ?_
   refine hP7 hS a0.out a1.out a2.out a3.out a4.out a5.out a6.out ?_
   refine hP7 hS b0.out b1.out b2.out b3.out b4.out b5.out b6.out ?_
   refine hE fun K hK=>?_
   go_simp
   with_reducible refine (as_any _ _ _ _ _ _ _ _).mono ?_
   rintro e w5 ⟨rfl,hb5⟩
   have HS:=Lib.hid (bon hS hb5)
   clear hb5
   refine held_go hK (by exact HS.out) fun hS=>?_
   clear hK K
   try simp only [zp]
   clear HS
   rw [HK1.out]
   refine hE fun K hK=>?_
   go_simp
   with_reducible refine (as_any _ _ _ _ _ _ _ _).mono ?_
   rintro e w5 ⟨rfl,hb5⟩
   have HS:=Lib.hid (bon hS hb5)
   clear hb5
   refine held_go hK (by exact HS.out) fun hS=>?_
   clear hK K
   try simp only [zp]
   clear HS
   rw [HK2.out]
   refine hP hS ?_
   refine hP hS ?_
   refine hO hS ?_
   refine hO hS ?_
   refine hP hS ?_
   refine hP hS ?_
   refine held_end ?_
   go_wp2
   go_ret
   exact ⟨by rw [HSt.out,HN.out];rfl,bon HB.out hS⟩
  subst h1
  by_cases h2:nm=nm'
  case neg=>
   have HN:=Lib.hid (stay_no (a:=(i,nm,K1,nl,u,x,s)) (b:=(i,nm',K2,nl',u',x',s')) (nar:=false) (fun h=>h2 (by simp only [Prod.mk.injEq] at h;exact h.2.1)))
   have h2:¬nm.toList=nm'.toList:=bts_ne h2
   go_wp2
   try rw [hW1]
   have hS:Below W.heap.size W W.drew:=(Below.refl _ _).drew
   refine hR (fun w'=>Below W.heap.size W w') [ff 0,ff 2,tt 1,tt 3,ff 4,ff 5,ff 6,ff 7,ff 8,ff 9] ?_
   refine hP7 hS a0.out a1.out a2.out a3.out a4.out a5.out a6.out ?_
   refine hP7 hS b0.out b1.out b2.out b3.out b4.out b5.out b6.out ?_
   refine hE fun K hK=>?_
   go_simp
   with_reducible refine (as_any _ _ _ _ _ _ _ _).mono ?_
   rintro e w5 ⟨rfl,hb5⟩
   have HS:=Lib.hid (bon hS hb5)
   clear hb5
   refine held_go hK (by exact HS.out) fun hS=>?_
   clear hK K
   try simp only [zp]
   clear HS
   rw [HK1.out]
   refine hE fun K hK=>?_
   go_simp
   with_reducible refine (as_any _ _ _ _ _ _ _ _).mono ?_
   rintro e w5 ⟨rfl,hb5⟩
   have HS:=Lib.hid (bon hS hb5)
   clear hb5
   refine held_go hK (by exact HS.out) fun hS=>?_
   clear hK K
   try simp only [zp]
   clear HS
   rw [HK2.out]
   refine hP hS ?_
   refine hP hS ?_
   refine hO hS ?_
   refine hO hS ?_
   refine hP hS ?_
   refine hP hS ?_
   refine held_end ?_
   go_wp2
   go_ret
   exact ⟨by rw [HSt.out,HN.out];rfl,bon HB.out hS⟩
  subst h2
  by_cases h3:K1=K2
  case neg=>
   have HN:=Lib.hid (stay_no (a:=(i,nm,K1,nl,u,x,s)) (b:=(i,nm,K2,nl',u',x',s')) (nar:=false) (fun h=>h3 (by simp only [Prod.mk.injEq] at h;exact h.2.2.1)))
   go_wp2
   try rw [hW1]
   have hS:Below W.heap.size W W.drew:=(Below.refl _ _).drew
   refine hR (fun w'=>Below W.heap.size W w') [ff 0,ff 2,tt 1,tt 3,ff 4,ff 5,ff 6,ff 7,ff 8,ff 9] ?_
   refine hP7 hS a0.out a1.out a2.out a3.out a4.out a5.out a6.out ?_
   refine hP7 hS b0.out b1.out b2.out b3.out b4.out b5.out b6.out ?_
   refine hE fun K hK=>?_
   go_simp
   with_reducible refine (as_any _ _ _ _ _ _ _ _).mono ?_
   rintro e w5 ⟨rfl,hb5⟩
   have HS:=Lib.hid (bon hS hb5)
   clear hb5
   refine held_go hK (by exact HS.out) fun hS=>?_
   clear hK K
   try simp only [zp]
   clear HS
   rw [HK1.out]
   refine hE fun K hK=>?_
   go_simp
   with_reducible refine (as_any _ _ _ _ _ _ _ _).mono ?_
   rintro e w5 ⟨rfl,hb5⟩
   have HS:=Lib.hid (bon hS hb5)
   clear hb5
   refine held_go hK (by exact HS.out) fun hS=>?_
   clear hK K
   try simp only [zp]
   clear HS
   rw [HK2.out]
   refine hP hS ?_
   refine hP hS ?_
   refine hO hS ?_
   refine hO hS ?_
   refine hP hS ?_
   refine hP hS ?_
   refine held_end ?_
   go_wp2
   go_ret
   exact ⟨by rw [HSt.out,HN.out];rfl,bon HB.out hS⟩
  by_cases h4:nl=nl'
  case neg=>
   have HN:=Lib.hid (stay_no (a:=(i,nm,K1,nl,u,x,s)) (b:=(i,nm,K2,nl',u',x',s')) (nar:=false) (fun h=>h4 (by simp only [Prod.mk.injEq] at h;exact h.2.2.2.1)))
   go_wp2
   try rw [hW1]
   have hS:Below W.heap.size W W.drew:=(Below.refl _ _).drew
   refine hR (fun w'=>Below W.heap.size W w') [ff 0,ff 2,tt 1,tt 3,ff 4,ff 5,ff 6,ff 7,ff 8,ff 9] ?_
   refine hP7 hS a0.out a1.out a2.out a3.out a4.out a5.out a6.out ?_
   refine hP7 hS b0.out b1.out b2.out b3.out b4.out b5.out b6.out ?_
   refine hE fun K hK=>?_
   go_simp
   with_reducible refine (as_any _ _ _ _ _ _ _ _).mono ?_
   rintro e w5 ⟨rfl,hb5⟩
   have HS:=Lib.hid (bon hS hb5)
   clear hb5
   refine held_go hK (by exact HS.out) fun hS=>?_
   clear hK K
   try simp only [zp]
   clear HS
   rw [HK1.out]
   refine hE fun K hK=>?_
   go_simp
   with_reducible refine (as_any _ _ _ _ _ _ _ _).mono ?_
   rintro e w5 ⟨rfl,hb5⟩
   have HS:=Lib.hid (bon hS hb5)
   clear hb5
   refine held_go hK (by exact HS.out) fun hS=>?_
   clear hK K
   try simp only [zp]
   clear HS
   rw [HK2.out]
   refine hP hS ?_
   refine hP hS ?_
   refine hO hS ?_
   refine hO hS ?_
   refine hP hS ?_
   refine hP hS ?_
   refine held_end ?_
   go_wp2
   go_ret
   exact ⟨by rw [HSt.out,HN.out];rfl,bon HB.out hS⟩
  subst h4
  by_cases h5:u=u'
  case neg=>
   have HN:=Lib.hid (stay_no (a:=(i,nm,K1,nl,u,x,s)) (b:=(i,nm,K2,nl,u',x',s')) (nar:=false) (fun h=>h5 (by simp only [Prod.mk.injEq] at h;exact h.2.2.2.2.1)))
   go_wp2
   try rw [hW1]
   have hS:Below W.heap.size W W.drew:=(Below.refl _ _).drew
   refine hR (fun w'=>Below W.heap.size W w') [ff 0,ff 2,tt 1,tt 3,ff 4,ff 5,ff 6,ff 7,ff 8,ff 9] ?_
   refine hP7 hS a0.out a1.out a2.out a3.out a4.out a5.out a6.out ?_
   refine hP7 hS b0.out b1.out b2.out b3.out b4.out b5.out b6.out ?_
   refine hE fun K hK=>?_
   go_simp
   with_reducible refine (as_any _ _ _ _ _ _ _ _).mono ?_
   rintro e w5 ⟨rfl,hb5⟩
   have HS:=Lib.hid (bon hS hb5)
   clear hb5
   refine held_go hK (by exact HS.out) fun hS=>?_
   clear hK K
   try simp only [zp]
   clear HS
   rw [HK1.out]
   refine hE fun K hK=>?_
   go_simp
   with_reducible refine (as_any _ _ _ _ _ _ _ _).mono ?_
   rintro e w5 ⟨rfl,hb5⟩
   have HS:=Lib.hid (bon hS hb5)
   clear hb5
   refine held_go hK (by exact HS.out) fun hS=>?_
   clear hK K
   try simp only [zp]
   clear HS
   rw [HK2.out]
   refine hP hS ?_
   refine hP hS ?_
   refine hO hS ?_
   refine hO hS ?_
   refine hP hS ?_
   refine hP hS ?_
   refine held_end ?_
   go_wp2
   go_ret
   exact ⟨by rw [HSt.out,HN.out];rfl,bon HB.out hS⟩
  subst h5
  by_cases h6:x=x'
  case neg=>
   have HN:=Lib.hid (stay_no (a:=(i,nm,K1,nl,u,x,s)) (b:=(i,nm,K2,nl,u,x',s')) (nar:=false) (fun h=>h6 (by simp only [Prod.mk.injEq] at h;exact h.2.2.2.2.2.1)))
   go_wp2
   try rw [hW1]
   have hS:Below W.heap.size W W.drew:=(Below.refl _ _).drew
   refine hR (fun w'=>Below W.heap.size W w') [ff 0,ff 2,tt 1,tt 3,ff 4,ff 5,ff 6,ff 7,ff 8,ff 9] ?_
   refine hP7 hS a0.out a1.out a2.out a3.out a4.out a5.out a6.out ?_
   refine hP7 hS b0.out b1.out b2.out b3.out b4.out b5.out b6.out ?_
   refine hE fun K hK=>?_
   go_simp
   with_reducible refine (as_any _ _ _ _ _ _ _ _).mono ?_
   rintro e w5 ⟨rfl,hb5⟩
   have HS:=Lib.hid (bon hS hb5)
   clear hb5
   refine held_go hK (by exact HS.out) fun hS=>?_
   clear hK K
   try simp only [zp]
   clear HS
   rw [HK1.out]
   refine hE fun K hK=>?_
   go_simp
   with_reducible refine (as_any _ _ _ _ _ _ _ _).mono ?_
   rintro e w5 ⟨rfl,hb5⟩
   have HS:=Lib.hid (bon hS hb5)
   clear hb5
   refine held_go hK (by exact HS.out) fun hS=>?_
   clear hK K
   try simp only [zp]
   clear HS
   rw [HK2.out]
   refine hP hS ?_
   refine hP hS ?_
   refine hO hS ?_
   refine hO hS ?_
   refine hP hS ?_
   refine hP hS ?_
   refine held_end ?_
   go_wp2
   go_ret
   exact ⟨by rw [HSt.out,HN.out];rfl,bon HB.out hS⟩
  subst h6
  by_cases h7:s=s'
  case neg=>
   have HN:=Lib.hid (stay_no (a:=(i,nm,K1,nl,u,x,s)) (b:=(i,nm,K2,nl,u,x,s')) (nar:=false) (fun h=>h7 (by simp only [Prod.mk.injEq] at h;exact h.2.2.2.2.2.2)))
   have h7:¬s.toList=s'.toList:=bts_ne h7
   go_wp2
   try rw [hW1]
   have hS:Below W.heap.size W W.drew:=(Below.refl _ _).drew
   refine hR (fun w'=>Below W.heap.size W w') [ff 0,ff 2,tt 1,tt 3,ff 4,ff 5,ff 6,ff 7,ff 8,ff 9] ?_
   refine hP7 hS a0.out a1.out a2.out a3.out a4.out a5.out a6.out ?_
   refine hP7 hS b0.out b1.out b2.out b3.out b4.out b5.out b6.out ?_
   refine hE fun K hK=>?_
   go_simp
   with_reducible refine (as_any _ _ _ _ _ _ _ _).mono ?_
   rintro e w5 ⟨rfl,hb5⟩
   have HS:=Lib.hid (bon hS hb5)
   clear hb5
   refine held_go hK (by exact HS.out) fun hS=>?_
   clear hK K
   try simp only [zp]
   clear HS
   rw [HK1.out]
   refine hE fun K hK=>?_
   go_simp
   with_reducible refine (as_any _ _ _ _ _ _ _ _).mono ?_
   rintro e w5 ⟨rfl,hb5⟩
   have HS:=Lib.hid (bon hS hb5)
   clear hb5
   refine held_go hK (by exact HS.out) fun hS=>?_
   clear hK K
   try simp only [zp]
   clear HS
   rw [HK2.out]
   refine hP hS ?_
   refine hP hS ?_
   refine hO hS ?_
   refine hO hS ?_
   refine hP hS ?_
   refine hP hS ?_
   refine held_end ?_
   go_wp2
   go_ret
   exact ⟨by rw [HSt.out,HN.out];rfl,bon HB.out hS⟩
  subst h7
  have HN:=Lib.hid (stay_yes (a:=(i,nm,K1,nl,u,x,s)) (b:=(i,nm,K2,nl,u,x,s)) (nar:=false) (by rw [h3]))
  go_wp2
  try rw [hW1]
  have hS:Below W.heap.size W W.drew:=(Below.refl _ _).drew
  refine hR (fun w'=>Below W.heap.size W w') [ff 0,ff 2,tt 1,tt 3,ff 4,ff 5,ff 6,ff 7,ff 8,ff 9] ?_
  refine hP7 hS a0.out a1.out a2.out a3.out a4.out a5.out a6.out ?_
  refine hP7 hS b0.out b1.out b2.out b3.out b4.out b5.out b6.out ?_
  refine hE fun K hK=>?_
  go_simp
  with_reducible refine (as_any _ _ _ _ _ _ _ _).mono ?_
  rintro e w5 ⟨rfl,hb5⟩
  have HS:=Lib.hid (bon hS hb5)
  clear hb5
  refine held_go hK (by exact HS.out) fun hS=>?_
  clear hK K
  try simp only [zp]
  clear HS
  rw [HK1.out]
  refine hE fun K hK=>?_
  go_simp
  with_reducible refine (as_any _ _ _ _ _ _ _ _).mono ?_
  rintro e w5 ⟨rfl,hb5⟩
  have HS:=Lib.hid (bon hS hb5)
  clear hb5
  refine held_go hK (by exact HS.out) fun hS=>?_
  clear hK K
  try simp only [zp]
  clear HS
  rw [HK2.out]
  iterate 6
   refine hP hS ?_
  refine held_end ?_
  go_wp2
  go_ret
  exact ⟨by rw [HSt.out,HN.out];rfl,bon HB.out hS⟩
 have e1:(k==3)=false:=by simpa using hk
 have HSt:=Lib.hid (HSt.out false (by rw [decide_eq_false hk];rfl))
 clear hk
 go_enter Tryz.func134,Tryz.ntmps134
 by_cases h1:i=i'
 case neg=>
  have HN:=Lib.hid (stay_no (a:=(i,nm,K1,nl,u,x,s)) (b:=(i',nm',K2,nl',u',x',s')) (nar:=false) (fun h=>h1 (Prod.mk.inj h).1))
  go_wp2
  try rw [hW1]
  have hS:Below W.heap.size W W.drew:=(Below.refl _ _).drew
  refine hR (fun w'=>Below W.heap.size W w') [ff 0,ff 2,tt 1,tt 3,ff 4,ff 5,ff 6,ff 7,ff 8,ff 9] ?_
  refine hP7 hS a0.out a1.out a2.out a3.out a4.out a5.out a6.out ?_
  refine hP7 hS b0.out b1.out b2.out b3.out b4.out b5.out b6.out ?_
  refine hE fun K hK=>?_
  go_simp
  with_reducible refine (as_any _ _ _ _ _ _ _ _).mono ?_
  rintro e w5 ⟨rfl,hb5⟩
  have HS:=Lib.hid (bon hS hb5)
  clear hb5
  refine held_go hK (by exact HS.out) fun hS=>?_
  clear hK K
  try simp only [zp]
  clear HS
  rw [HK1.out]
  refine hE fun K hK=>?_
  go_simp
  with_reducible refine (as_any _ _ _ _ _ _ _ _).mono ?_
  rintro e w5 ⟨rfl,hb5⟩
  have HS:=Lib.hid (bon hS hb5)
  clear hb5
  refine held_go hK (by exact HS.out) fun hS=>?_
  clear hK K
  try simp only [zp]
  clear HS
  rw [HK2.out]
  refine hP hS ?_
  refine hP hS ?_
  refine hO hS ?_
  refine hO hS ?_
  refine hP hS ?_
  refine hP hS ?_
  refine held_end ?_
  go_wp2
  go_ret
  exact ⟨by rw [HSt.out,HN.out];rfl,bon HB.out hS⟩
 subst h1
 by_cases h2:nm=nm'
 case neg=>
  have HN:=Lib.hid (stay_no (a:=(i,nm,K1,nl,u,x,s)) (b:=(i,nm',K2,nl',u',x',s')) (nar:=false) (fun h=>h2 (by simp only [Prod.mk.injEq] at h;exact h.2.1)))
  have h2:¬nm.toList=nm'.toList:=bts_ne h2
  go_wp2
  try rw [hW1]
  have hS:Below W.heap.size W W.drew:=(Below.refl _ _).drew
  refine hR (fun w'=>Below W.heap.size W w') [ff 0,ff 2,tt 1,tt 3,ff 4,ff 5,ff 6,ff 7,ff 8,ff 9] ?_
  refine hP7 hS a0.out a1.out a2.out a3.out a4.out a5.out a6.out ?_
  refine hP7 hS b0.out b1.out b2.out b3.out b4.out b5.out b6.out ?_
  refine hE fun K hK=>?_
  go_simp
  with_reducible refine (as_any _ _ _ _ _ _ _ _).mono ?_
  rintro e w5 ⟨rfl,hb5⟩
  have HS:=Lib.hid (bon hS hb5)
  clear hb5
  refine held_go hK (by exact HS.out) fun hS=>?_
  clear hK K
  try simp only [zp]
  clear HS
  rw [HK1.out]
  refine hE fun K hK=>?_
  go_simp
  with_reducible refine (as_any _ _ _ _ _ _ _ _).mono ?_
  rintro e w5 ⟨rfl,hb5⟩
  have HS:=Lib.hid (bon hS hb5)
  clear hb5
  refine held_go hK (by exact HS.out) fun hS=>?_
  clear hK K
  try simp only [zp]
  clear HS
  rw [HK2.out]
  refine hP hS ?_
  refine hP hS ?_
  refine hO hS ?_
  refine hO hS ?_
  refine hP hS ?_
  refine hP hS ?_
  refine held_end ?_
  go_wp2
  go_ret
  exact ⟨by rw [HSt.out,HN.out];rfl,bon HB.out hS⟩
 subst h2
 by_cases h3:K1=K2
 case neg=>
  have HN:=Lib.hid (stay_no (a:=(i,nm,K1,nl,u,x,s)) (b:=(i,nm,K2,nl',u',x',s')) (nar:=false) (fun h=>h3 (by simp only [Prod.mk.injEq] at h;exact h.2.2.1)))
  go_wp2
  try rw [hW1]
  have hS:Below W.heap.size W W.drew:=(Below.refl _ _).drew
  refine hR (fun w'=>Below W.heap.size W w') [ff 0,ff 2,tt 1,tt 3,ff 4,ff 5,ff 6,ff 7,ff 8,ff 9] ?_
  refine hP7 hS a0.out a1.out a2.out a3.out a4.out a5.out a6.out ?_
  refine hP7 hS b0.out b1.out b2.out b3.out b4.out b5.out b6.out ?_
  refine hE fun K hK=>?_
  go_simp
  with_reducible refine (as_any _ _ _ _ _ _ _ _).mono ?_
  rintro e w5 ⟨rfl,hb5⟩
  have HS:=Lib.hid (bon hS hb5)
  clear hb5
  refine held_go hK (by exact HS.out) fun hS=>?_
  clear hK K
  try simp only [zp]
  clear HS
  rw [HK1.out]
  refine hE fun K hK=>?_
  go_simp
  with_reducible refine (as_any _ _ _ _ _ _ _ _).mono ?_
  rintro e w5 ⟨rfl,hb5⟩
  have HS:=Lib.hid (bon hS hb5)
  clear hb5
  refine held_go hK (by exact HS.out) fun hS=>?_
  clear hK K
  try simp only [zp]
  clear HS
  rw [HK2.out]
  refine hP hS ?_
  refine hP hS ?_
  refine hO hS ?_
  refine hO hS ?_
  refine hP hS ?_
  refine hP hS ?_
  refine held_end ?_
  go_wp2
  go_ret
  exact ⟨by rw [HSt.out,HN.out];rfl,bon HB.out hS⟩
 by_cases h4:nl=nl'
 case neg=>
  have HN:=Lib.hid (stay_no (a:=(i,nm,K1,nl,u,x,s)) (b:=(i,nm,K2,nl',u',x',s')) (nar:=false) (fun h=>h4 (by simp only [Prod.mk.injEq] at h;exact h.2.2.2.1)))
  go_wp2
  try rw [hW1]
  have hS:Below W.heap.size W W.drew:=(Below.refl _ _).drew
  refine hR (fun w'=>Below W.heap.size W w') [ff 0,ff 2,tt 1,tt 3,ff 4,ff 5,ff 6,ff 7,ff 8,ff 9] ?_
  refine hP7 hS a0.out a1.out a2.out a3.out a4.out a5.out a6.out ?_
  refine hP7 hS b0.out b1.out b2.out b3.out b4.out b5.out b6.out ?_
  refine hE fun K hK=>?_
  go_simp
  with_reducible refine (as_any _ _ _ _ _ _ _ _).mono ?_
  rintro e w5 ⟨rfl,hb5⟩
  have HS:=Lib.hid (bon hS hb5)
  clear hb5
  refine held_go hK (by exact HS.out) fun hS=>?_
  clear hK K
  try simp only [zp]
  clear HS
  rw [HK1.out]
  refine hE fun K hK=>?_
  go_simp
  with_reducible refine (as_any _ _ _ _ _ _ _ _).mono ?_
  rintro e w5 ⟨rfl,hb5⟩
  have HS:=Lib.hid (bon hS hb5)
  clear hb5
  refine held_go hK (by exact HS.out) fun hS=>?_
  clear hK K
  try simp only [zp]
  clear HS
  rw [HK2.out]
  refine hP hS ?_
  refine hP hS ?_
  refine hO hS ?_
  refine hO hS ?_
  refine hP hS ?_
  refine hP hS ?_
  refine held_end ?_
  go_wp2
  go_ret
  exact ⟨by rw [HSt.out,HN.out];rfl,bon HB.out hS⟩
 subst h4
 by_cases h5:u=u'
 case neg=>
  have HN:=Lib.hid (stay_no (a:=(i,nm,K1,nl,u,x,s)) (b:=(i,nm,K2,nl,u',x',s')) (nar:=false) (fun h=>h5 (by simp only [Prod.mk.injEq] at h;exact h.2.2.2.2.1)))
  go_wp2
  try rw [hW1]
  have hS:Below W.heap.size W W.drew:=(Below.refl _ _).drew
  refine hR (fun w'=>Below W.heap.size W w') [ff 0,ff 2,tt 1,tt 3,ff 4,ff 5,ff 6,ff 7,ff 8,ff 9] ?_
  refine hP7 hS a0.out a1.out a2.out a3.out a4.out a5.out a6.out ?_
  refine hP7 hS b0.out b1.out b2.out b3.out b4.out b5.out b6.out ?_
  refine hE fun K hK=>?_
  go_simp
  with_reducible refine (as_any _ _ _ _ _ _ _ _).mono ?_
  rintro e w5 ⟨rfl,hb5⟩
  have HS:=Lib.hid (bon hS hb5)
  clear hb5
  refine held_go hK (by exact HS.out) fun hS=>?_
  clear hK K
  try simp only [zp]
  clear HS
  rw [HK1.out]
  refine hE fun K hK=>?_
  go_simp
  with_reducible refine (as_any _ _ _ _ _ _ _ _).mono ?_
  rintro e w5 ⟨rfl,hb5⟩
  have HS:=Lib.hid (bon hS hb5)
  clear hb5
  refine held_go hK (by exact HS.out) fun hS=>?_
  clear hK K
  try simp only [zp]
  clear HS
  rw [HK2.out]
  refine hP hS ?_
  refine hP hS ?_
  refine hO hS ?_
  refine hO hS ?_
  refine hP hS ?_
  refine hP hS ?_
  refine held_end ?_
  go_wp2
  go_ret
  exact ⟨by rw [HSt.out,HN.out];rfl,bon HB.out hS⟩
 subst h5
 by_cases h6:x=x'
 case neg=>
  have HN:=Lib.hid (stay_no (a:=(i,nm,K1,nl,u,x,s)) (b:=(i,nm,K2,nl,u,x',s')) (nar:=false) (fun h=>h6 (by simp only [Prod.mk.injEq] at h;exact h.2.2.2.2.2.1)))
  go_wp2
  try rw [hW1]
  have hS:Below W.heap.size W W.drew:=(Below.refl _ _).drew
  refine hR (fun w'=>Below W.heap.size W w') [ff 0,ff 2,tt 1,tt 3,ff 4,ff 5,ff 6,ff 7,ff 8,ff 9] ?_
  refine hP7 hS a0.out a1.out a2.out a3.out a4.out a5.out a6.out ?_
  refine hP7 hS b0.out b1.out b2.out b3.out b4.out b5.out b6.out ?_
  refine hE fun K hK=>?_
  go_simp
  with_reducible refine (as_any _ _ _ _ _ _ _ _).mono ?_
  rintro e w5 ⟨rfl,hb5⟩
  have HS:=Lib.hid (bon hS hb5)
  clear hb5
  refine held_go hK (by exact HS.out) fun hS=>?_
  clear hK K
  try simp only [zp]
  clear HS
  rw [HK1.out]
  refine hE fun K hK=>?_
  go_simp
  with_reducible refine (as_any _ _ _ _ _ _ _ _).mono ?_
  rintro e w5 ⟨rfl,hb5⟩
  have HS:=Lib.hid (bon hS hb5)
  clear hb5
  refine held_go hK (by exact HS.out) fun hS=>?_
  clear hK K
  try simp only [zp]
  clear HS
  rw [HK2.out]
  refine hP hS ?_
  refine hP hS ?_
  refine hO hS ?_
  refine hO hS ?_
  refine hP hS ?_
  refine hP hS ?_
  refine held_end ?_
  go_wp2
  go_ret
  exact ⟨by rw [HSt.out,HN.out];rfl,bon HB.out hS⟩
 subst h6
 by_cases h7:s=s'
 case neg=>
  have HN:=Lib.hid (stay_no (a:=(i,nm,K1,nl,u,x,s)) (b:=(i,nm,K2,nl,u,x,s')) (nar:=false) (fun h=>h7 (by simp only [Prod.mk.injEq] at h;exact h.2.2.2.2.2.2)))
  have h7:¬s.toList=s'.toList:=bts_ne h7
  go_wp2
  try rw [hW1]
  have hS:Below W.heap.size W W.drew:=(Below.refl _ _).drew
  refine hR (fun w'=>Below W.heap.size W w') [ff 0,ff 2,tt 1,tt 3,ff 4,ff 5,ff 6,ff 7,ff 8,ff 9] ?_
  refine hP7 hS a0.out a1.out a2.out a3.out a4.out a5.out a6.out ?_
  refine hP7 hS b0.out b1.out b2.out b3.out b4.out b5.out b6.out ?_
  refine hE fun K hK=>?_
  go_simp
  with_reducible refine (as_any _ _ _ _ _ _ _ _).mono ?_
  rintro e w5 ⟨rfl,hb5⟩
  have HS:=Lib.hid (bon hS hb5)
  clear hb5
  refine held_go hK (by exact HS.out) fun hS=>?_
  clear hK K
  try simp only [zp]
  clear HS
  rw [HK1.out]
  refine hE fun K hK=>?_
  go_simp
  with_reducible refine (as_any _ _ _ _ _ _ _ _).mono ?_
  rintro e w5 ⟨rfl,hb5⟩
  have HS:=Lib.hid (bon hS hb5)
  clear hb5
  refine held_go hK (by exact HS.out) fun hS=>?_
  clear hK K
  try simp only [zp]
  clear HS
  rw [HK2.out]
  refine hP hS ?_
  refine hP hS ?_
  refine hO hS ?_
  refine hO hS ?_
  refine hP hS ?_
  refine hP hS ?_
  refine held_end ?_
  go_wp2
  go_ret
  exact ⟨by rw [HSt.out,HN.out];rfl,bon HB.out hS⟩
 subst h7
 have HN:=Lib.hid (stay_yes (a:=(i,nm,K1,nl,u,x,s)) (b:=(i,nm,K2,nl,u,x,s)) (nar:=false) (by rw [h3]))
 go_wp2
 try rw [hW1]
 have hS:Below W.heap.size W W.drew:=(Below.refl _ _).drew
 refine hR (fun w'=>Below W.heap.size W w') [ff 0,ff 2,tt 1,tt 3,ff 4,ff 5,ff 6,ff 7,ff 8,ff 9] ?_
 refine hP7 hS a0.out a1.out a2.out a3.out a4.out a5.out a6.out ?_
 refine hP7 hS b0.out b1.out b2.out b3.out b4.out b5.out b6.out ?_
 refine hE fun K hK=>?_
 go_simp
 with_reducible refine (as_any _ _ _ _ _ _ _ _).mono ?_
 rintro e w5 ⟨rfl,hb5⟩
 have HS:=Lib.hid (bon hS hb5)
 clear hb5
 refine held_go hK (by exact HS.out) fun hS=>?_
 clear hK K
 try simp only [zp]
 clear HS
 rw [HK1.out]
 refine hE fun K hK=>?_
 go_simp
 with_reducible refine (as_any _ _ _ _ _ _ _ _).mono ?_
 rintro e w5 ⟨rfl,hb5⟩
 have HS:=Lib.hid (bon hS hb5)
 clear hb5
 refine held_go hK (by exact HS.out) fun hS=>?_
 clear hK K
 try simp only [zp]
 clear HS
 rw [HK2.out]
 iterate 6
  refine hP hS ?_
 refine held_end ?_
 go_wp2
 go_ret
 exact ⟨by rw [HSt.out,HN.out];rfl,bon HB.out hS⟩
end Go.Proofs.YtjpjalmilfgckaaGreatDoor
namespace Go.Proofs.YtjpjalmilfgckaaGreatDoor
open Go.RowKit
theorem keysL_succ {s:Sc} {i k:Nat} {co:Co} (h:s.2[i]? = some (k:Int)) (hc:s.1[k]? = some co):(keysL s).take (i+1)=(keysL s).take i++[co.1]:=by
 rw [List.take_add_one]
 unfold keysL
 rw [List.getElem?_map,h]
 simp [hc]
set_option maxHeartbeats 1000000 in
theorem keys_any (CA:Option Addr) (cn cc:Nat) (KA:Option Addr) (kn kc:Nat) (s:Sc) (w:World) (h:ScAt w CA cn KA kn s) (hcn:cn<=1000000) (hkn:kn<=1000000) (hks:∀ k∈s.2,0<=k/\k<(s.1.length:Int)) :
  Calls Tryz.prog 139 #[.agg #[.slice CA cn cc,.slice KA kn kc]] w fun e w'=>∃ A c,e=.returned (.slice A kn c)/\Reads w' w'.heap.size 1 A kn (ins (keysL s))/\Below w.heap.size w w':=by
 obtain ⟨i0,hi0,hz0,hz1,hz2⟩:=info_parts int_info
 have Hks:=Lib.hid hks
 have Hcl:=Lib.hid (cos_len h.cols)
 have Hkl:=Lib.hid (ins_len h.keys)
 obtain ⟨W,hW1⟩:∃ W,w.alloc (.cells #[.slice CA cn cc,.slice KA kn kc] 48)=W:=⟨_,rfl⟩
 have HB0:=Lib.hid (show Below w.heap.size w W by rw [<-hW1];exact bal (Below.refl _ _) _)
 have H:=Lib.hid (show ScAt W CA cn KA kn s by rw [<-hW1];exact h.al _)
 have BS:=Lib.hid (show Blk W w.heap.size 48 #[.slice CA cn cc,.slice KA kn kc] by rw [<-hW1];exact Blk.new w _ _)
 have s1:=BS.out.cell 1
 clear h hks
 go_enter Tryz.func139,Tryz.ntmps139
 go_wp2
 try rw [hW1]
 clear hW1 s1
 go_loopw [2,8] (fun sv kv wr=>∃ (i:Nat) (A4:Option Addr) (c4:Nat),i<=kn/\sv=.slice A4 i c4/\kv=.int .i64 (i:Int)/\Hid (wr.ownsRow W.heap.size 3 1 (.slice A4 i c4) i (ins ((keysL s).take i)))/\Hid (Below W.heap.size W wr)) (fun _ kv _=>kn-(intOf kv).toNat)
 case atStart=>exact ⟨0,none,0,Nat.zero_le _,rfl,rfl,Lib.hid (by rw [List.take_zero];exact World.ownsRow_nil _ _ _ _),Lib.hid (Below.refl _ _)⟩
 case round=>
  obtain ⟨i,A4,c4,hin,rfl,rfl,HO,HB⟩:=hrel
  by_cases hlt:i<kn
  ·have d1:decide ((i:Int)<(kn:Int))=true:=by simp;omega
   have hii:(i:Int)<(kn:Int):=by omega
   obtain ⟨ae,x,rfl,hbk,hx,e0⟩:=ins_at (H.out.on HB.out).keys hlt
   obtain ⟨hx0,hx1⟩:=Hks.out x (List.mem_of_getElem? hx)
   obtain ⟨xk,rfl⟩:∃ xk:Nat,x=(xk:Int):=⟨x.toNat,by omega⟩
   have hxk:xk<cn:=by have:=Hcl.out;omega
   have hxi:(xk:Int)<(cn:Int):=by omega
   obtain ⟨ad,co,rfl,hbk2,hco,hat⟩:=cos_at (H.out.on HB.out).cols hxk
   have Hsu:=Lib.hid (keysL_succ hx hco)
   have e1:=hat.c0
   have s0:=(BS.out.on HB.out).cell 0
   have hsa:i+1<=maxLen:=by simp only [maxLen];omega
   have hsb:(i+1)*8<=70368744177664:=by omega
   generalize co.1=id at *
   have HBa:=Lib.hid (bal HB.out (.cells #[.int .i64 id] 3))
   have HOa:=Lib.hid (HO.out.alloc (.cells #[.int .i64 id] 3))
   clear hx hco hat hbk hbk2 hx0 hx1
   go_wp2_with (at_builtin
                refine wpList_append_any _ rfl (.tmp 12) (.tmp 19) 28 rfl W.heap.size 3 i0 (.int .i64 0) 1 8 Tryz.underlying28 hi0 hz0 hz1 hz2 rfl (by decide) A4 i c4 _ rfl HOa.out (some ⟨_,0,none⟩) 1 1 (ins [id]) rfl (by exact reads_lit _ _ _ _ _ _ rfl rfl rfl) (ins_one _) hsa hsb HBa.out.size ?_
                intro A8 c8 w8 r1 r2 r3 r4 r5
                rw [show ins ((keysL s).take i)++ins [id]=ins ((keysL s).take (i+1)) by rw [Hsu.out];simp [ins]] at r1
                have R1:=Lib.hid r1
                have R2:=Lib.hid (HBa.out.trans r2)
                clear r1 r2 r3 r4 r5)
   go_roundw
   case rel=>exact ⟨i+1,A8,c8,by omega,rfl,by go_num,R1,R2⟩
   case measure=>simp [intOf];omega
  have d1:decide ((i:Int)<(kn:Int))=false:=by simp;omega
  obtain rfl:i=kn:=by omega
  have HI:=Lib.hid (show Reads wr wr.heap.size 1 A4 i (ins (keysL s)) by
   have:=own_reads HO.out
   rwa [List.take_of_length_le (by unfold keysL;rw [List.length_map,Hkl.out];exact Nat.le_refl _)] at this)
  go_wp2
  go_ret
  exact ⟨A4,c4,rfl,HI.out,bon HB0.out HB.out⟩
end Go.Proofs.YtjpjalmilfgckaaGreatDoor
namespace Go.Proofs.YtjpjalmilfgckaaGreatDoor
section
variable {P:Program} {md:Region.Mode} {ops:Array Oper} {Q:Exit->Act->World->Prop} {S:World->Prop} {F:Fence} {n:Nat}
def WideF (F:Fence):Prop:=F=Fence.wide\/∃ l,F=Fence.wide.inRound l
theorem WideF.wide:WideF Fence.wide:=.inl rfl
theorem WideF.round (l:Nat):WideF (Fence.wide.inRound l):=.inr ⟨l,rfl⟩
theorem WideF.sem (hF:WideF F) {o:Oper} (hd:∀ c,o.op≠.defer c) (ρ:Operand->Value):Oper.semAt F.round ρ o=execOp ρ o:=by
 rcases hF with rfl | ⟨l,rfl⟩
 ·rfl
 exact Oper.semAt_some l ρ o hd
theorem WideF.fn (hF:WideF F) (f:FuncId):F.fn f:=by rcases hF with rfl | ⟨l,rfl⟩<;>trivial
theorem WideF.depth (hF:WideF F):F.depth.isSome=true->1<=n:=by rcases hF with rfl | ⟨l,rfl⟩<;>(intro h;simp [Fence.wide] at h)
theorem WideF.calls (hF:WideF F) {f:FuncId} {args:Array Value} {w:World} {R:Ending->World->Prop} (h:Calls P f args w R):CallsIn F n P f args w R:=by
 rcases hF with rfl | ⟨l,rfl⟩
 ·exact callsIn_wide.2 h
 exact CallsIn.inRound l (callsIn_wide.2 h)
theorem rowsIn_wide2 {row:String} {args:Array Value} {w:World} {R:Value->World->Prop} (hF:WideF F) (h:Rows P row args w R):RowsIn F n P row args w R:=by
 rcases hF with rfl | ⟨l,rfl⟩<;>exact fun c cs _=>let ⟨v,w',r,s⟩:=h c cs;⟨v,w',r,stepsIn_wide.2 s⟩
theorem Oper.wpIn_of_wp (hF:WideF F) {o:Oper} {a:Act} {w:World} {K K':Act->World->Prop} (hd:∀ c,o.op≠.defer c) (hK:∀ a w,K a w->K' a w) (h:o.wp P a w K Q):o.wpIn F n P a w K' Q:=by
 refine ⟨fun _ _=>hF.fn _,?_⟩
 unfold Oper.wp at h
 rw [hF.sem hd]
 generalize (execOp a.eval o).run P w=r at *
 cases r with
 | ok x w'=>
  cases x with
  | value v=>exact hK _ _ h
  | skip=>exact hK _ _ h
  | defer d=>exact hK _ _ h
  | enter f args=>exact ⟨hF.depth,hF.calls (Calls.mono h fun e w'' he=>by cases e<;>first | exact hK _ _ he | exact he)⟩
  | row row args=>exact ⟨hF.depth,rowsIn_wide2 hF (Rows.mono h fun v w'' he=>hK _ _ he)⟩
  | _=>exact h.elim
 | halt x w'=>
  cases x<;>first | exact h | exact h.elim
def noDeferB (ops:Array Oper):Bool:=ops.all fun o=>match o.op with | .defer _=>false | _=>true
theorem noDefer_spec (h:noDeferB ops=true) {i:Nat} {o:Oper} (ho:ops[i]? = some o):∀ c,o.op≠.defer c:=by
 intro c hc
 have:=Array.all_eq_true.1 h i (Array.getElem?_eq_some_iff.1 ho).1
 rw [(Array.getElem?_eq_some_iff.1 ho).2,hc] at this
 cases this
theorem wpAnyIn_of_wpAny (hF:WideF F) (hno:¬LetsOut Q) (hd:noDeferB ops=true):∀ (fuel:Nat) (listed:Array Bool) (a:Act) (w:World),wpAny P md ops Q fuel listed a w->wpAnyIn F n P md ops Q fuel listed a w
 | 0,_,_,_,h=>h
 | fuel + 1, listed, a, w, h => ⟨h.1, fun i hi => by
   have h2:=h.2 i hi
   have ih:=wpAnyIn_of_wpAny hF hno hd fuel (listed.setIfInBounds i true)
   unfold wpOp at h2
   unfold wpOpIn
   cases ho:ops[i]? with
   | none=>rw [ho] at h2;exact ih _ _ h2
   | some o=>
    rw [ho] at h2
    simp only at h2 ⊢
    split
    ·rename_i hw
     rw [if_pos hw] at h2
     rcases h2 with h2 | ⟨-,h2⟩
     ·exact Oper.wpIn_of_wp hF (noDefer_spec hd ho) ih h2
     exact absurd h2 hno
    rename_i hw
    rw [if_neg hw] at h2
    exact ⟨fun _ _=>hF.fn _,ih _ _ h2⟩⟩
def inQ (Q:Exit->Act->World->Prop):Exit->Act->World->Prop:=fun e a w=>e=.normal/\Q e a w
theorem inQ_no:¬LetsOut (inQ Q):=fun ⟨_,_,h,_⟩=>by cases h
theorem inQ_end {a:Act} {w:World} (h:Q .normal a w):inQ Q .normal a w:=⟨rfl,h⟩
theorem wpIn_region_keep (hF:WideF F) (S:World->Prop) (lst:List (Nat×Bool)) {id:Nat} {a:Act} {w:World} (hm:P.follows .mixedOrders=true) (hs:Region.noSelect ops=true) (hd:noDeferB ops=true)
  (ho:(lst.length==ops.size&&orderB .any ops lst (Array.replicate ops.size false))=true)
  (h:wpHeld P ops (inQ Q) S lst a w.drew):(Code.region id ops true).wpIn F n P Q a w:=by
 simp only [Bool.and_eq_true,beq_iff_eq] at ho
 exact Code.wpIn_mono (Q:=inQ Q) (fun _ _ _ h=>h.2) (wpIn_region_any hm (wpAnyIn_of_wpAny hF inQ_no hd _ _ _ _ (wpAny_of_held _ _ _ _ (wpAnyH_of_held hs (fun d v c a w h=>by cases h.1) lst ops.size _ a _ (by omega) ho.2 h))))
end
end Go.Proofs.YtjpjalmilfgckaaGreatDoor
