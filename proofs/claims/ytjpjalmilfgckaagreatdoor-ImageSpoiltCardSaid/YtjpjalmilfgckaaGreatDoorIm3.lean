/- Part 3 of the walks, merged: each text under its own heading. Conditions: none of its own; each lemma states what it asks. -/
import Derived.Test.YtjpjalmilfgckaaGreatDoorIm2
import Derived.Deep.CutBlock
import Derived.Deep.DeepCutAuto
import Derived.Laws.CopyOwn
set_option maxRecDepth 100000
set_option linter.unusedVariables false
set_option linter.unusedSimpArgs false
namespace Go.Proofs.YtjpjalmilfgckaaGreatDoor
open Go.RowKit
def mayK (k:Int):Bool:=decide (1<=k/\k<=5)
theorem may_any (k:Int) (nl:Bool) (w:World):Calls Tryz.prog 103 #[.agg #[.int .i64 k,.bool nl]] w fun e w'=>e=.returned (.bool (mayK k))/\Below w.heap.size w w':=by
 unfold mayK
 by_cases h1:0<k
 ·have d1:decide (0<k)=true:=decide_eq_true h1
  by_cases h2:k<6
  ·have d2:decide (k<6)=true:=decide_eq_true h2
   rw [decide_eq_true (by omega:1<=k/\k<=5)]
   go_enter Tryz.func103,Tryz.ntmps103
   go_wp2
   go_ret
   exact ⟨rfl,(Below.refl _ _).alloc (Nat.le_refl _) _⟩
  have d2:decide (k<6)=false:=decide_eq_false h2
  rw [decide_eq_false (by omega:¬(1<=k/\k<=5))]
  go_enter Tryz.func103,Tryz.ntmps103
  go_wp2
  go_ret
  exact ⟨rfl,(Below.refl _ _).alloc (Nat.le_refl _) _⟩
 have d1:decide (0<k)=false:=decide_eq_false h1
 rw [decide_eq_false (by omega:¬(1<=k/\k<=5))]
 go_enter Tryz.func103,Tryz.ntmps103
 go_wp2
 go_ret
 exact ⟨rfl,(Below.refl _ _).alloc (Nat.le_refl _) _⟩
def PlainF (w:World) (F:Value) (a b:Int):Prop:=∃ p q:Nat,F=.func (.func 200) #[] #[.pointer (some ⟨p,0,none⟩),.pointer (some ⟨q,0,none⟩)]/\p<w.heap.size/\q<w.heap.size/\w.cell? ⟨p,0,none⟩=some (.int .i64 a)/\w.cell? ⟨q,0,none⟩=some (.int .i64 b)
theorem PlainF.on {w w':World} {F:Value} {a b:Int} (h:PlainF w F a b) (hb:Below w.heap.size w w'):PlainF w' F a b:=by
 obtain ⟨p,q,h1,h2,h3,h4,h5⟩:=h
 exact ⟨p,q,h1,Nat.lt_of_lt_of_le h2 hb.size,Nat.lt_of_lt_of_le h3 hb.size,(hb.cell (p:=⟨p,0,none⟩) h2).trans h4,(hb.cell (p:=⟨q,0,none⟩) h3).trans h5⟩
theorem of1_any (a b:Int) (w:World):Calls Tryz.prog 199 #[.int .i64 a,.int .i64 b] w fun e w'=>∃ F,e=.returned F/\PlainF w' F a b/\Below w.heap.size w w':=by
 go_enter Tryz.func199,Tryz.ntmps199
 go_wp2
 go_ret
 refine ⟨_,rfl,⟨w.heap.size,w.heap.size+1,rfl,by simp;omega,by simp,?_,?_⟩,((Below.refl _ _).alloc (Nat.le_refl _) _).alloc (by simp) _⟩
 ·simp
 simp
theorem empty_no {s:ByteArray} (h:s≠⟨#[]⟩):s.toList.isEmpty=false:=by
 have h2:(s.toList==(⟨#[]⟩:ByteArray).toList)=false:=by rw [text_eqb2,decide_eq_false h]
 cases hl:s.toList with
 | nil=>rw [hl] at h2;simp at h2
 | cons a l=>rfl
set_option maxHeartbeats 1000000 in
theorem plain_any (p q:Nat) (a b n:Int) (nl:Bool) (s:ByteArray) (w:World) (hp:p<w.heap.size) (hq:q<w.heap.size) (h1:w.cell? ⟨p,0,none⟩=some (.int .i64 a)) (h2:w.cell? ⟨q,0,none⟩=some (.int .i64 b)) :
  Calls Tryz.prog 200 #[.agg #[.bool nl,.int .i64 n,.string s],.pointer (some ⟨p,0,none⟩),.pointer (some ⟨q,0,none⟩)] w fun e w'=>e=.returned (.bool (decide (s=⟨#[]⟩/\a<=n/\n<=b)))/\Below w.heap.size w w':=by
 by_cases hs:s=⟨#[]⟩
 ·subst hs
  by_cases ha:a<=n
  ·have d1:decide (a<=n)=true:=decide_eq_true ha
   have hv:decide ((⟨#[]⟩:ByteArray)=⟨#[]⟩/\a<=n/\n<=b)=decide (n<=b):=by simp [ha]
   rw [hv]
   clear hv
   go_enter Tryz.func200,Tryz.ntmps200
   go_wp2
   go_ret
   exact ⟨rfl,(Below.refl _ _).alloc (Nat.le_refl _) _⟩
  have d1:decide (a<=n)=false:=decide_eq_false ha
  have hv:decide ((⟨#[]⟩:ByteArray)=⟨#[]⟩/\a<=n/\n<=b)=false:=by simp [ha]
  rw [hv]
  clear hv
  go_enter Tryz.func200,Tryz.ntmps200
  go_wp2
  go_ret
  exact ⟨rfl,(Below.refl _ _).alloc (Nat.le_refl _) _⟩
 have hte:=empty_no hs
 have hv:decide (s=⟨#[]⟩/\a<=n/\n<=b)=false:=decide_eq_false (fun h=>hs h.1)
 rw [hv]
 clear hv
 go_enter Tryz.func200,Tryz.ntmps200
 go_wp2
 go_ret
 exact ⟨rfl,(Below.refl _ _).alloc (Nat.le_refl _) _⟩
abbrev Cl:=Bool×Int×ByteArray
def clV (c:Cl):Value:=.agg #[.bool c.1,.int .i64 c.2.1,.string c.2.2]
def sizeC (n:Int) (s:ByteArray):Bool:=decide (n=0/\s.size<=1024)
theorem of2_any (n:Int) (nl:Bool) (s:ByteArray) (w:World):Calls Tryz.prog 201 #[.agg #[.bool nl,.int .i64 n,.string s]] w fun e w'=>e=.returned (.bool (sizeC n s))/\Below w.heap.size w w':=by
 unfold sizeC
 by_cases hn:n=0
 ·subst hn
  have hv:decide ((0:Int)=0/\s.size<=1024)=decide (s.size<=1024):=by simp
  rw [hv]
  clear hv
  by_cases hs:s.size<=1024
  ·have d1:decide ((s.size:Int)<=1024)=true:=by simp;omega
   rw [decide_eq_true hs]
   go_enter Tryz.func201,Tryz.ntmps201
   go_wp2
   go_ret
   exact ⟨rfl,(Below.refl _ _).alloc (Nat.le_refl _) _⟩
  have d1:decide ((s.size:Int)<=1024)=false:=by simp;omega
  rw [decide_eq_false hs]
  go_enter Tryz.func201,Tryz.ntmps201
  go_wp2
  go_ret
  exact ⟨rfl,(Below.refl _ _).alloc (Nat.le_refl _) _⟩
 have d1:(n==0)=false:=by simp [hn]
 have hv:decide (n=0/\s.size<=1024)=false:=by simp [hn]
 rw [hv]
 clear hv
 go_enter Tryz.func201,Tryz.ntmps201
 go_wp2
 go_ret
 exact ⟨rfl,(Below.refl _ _).alloc (Nat.le_refl _) _⟩
theorem of5_any (p:Nat) (n:Int) (nl:Bool) (s:ByteArray) (w:World) (hp:p<w.heap.size) (h1:w.cell? ⟨p,0,none⟩=some (.func (.func 201) #[] #[])) (hT:Tabs w) :
  Calls Tryz.prog 211 #[.agg #[.bool nl,.int .i64 n,.string s],.pointer (some ⟨p,0,none⟩)] w fun e w'=>e=.returned (.bool (sizeC n s&&Lib.validD s.data.toList))/\Below w.heap.size w w':=by
 have HT:=Lib.hid hT
 clear hT
 go_enter Tryz.func211,Tryz.ntmps211
 go_wp2_with fail
 with_reducible refine (of2_any n nl s _).mono ?_
 rintro e w1 ⟨rfl,hb1⟩
 have hb2:=bon (bal (Below.refl _ _) _) hb1
 have Hb2:=Lib.hid hb2
 have c2:=((Blk.new w 23 #[.bool nl,.int .i64 n,.string s]).on hb1).cell 2
 clear hb1 hb2
 cases hsz:sizeC n s with
 | false=>
  go_wp2
  go_ret
  exact ⟨by rw [hsz,Bool.false_and];rfl,Hb2.out⟩
 | true=>
  have hss:s.size<=9223372036854775807:=by
   simp only [sizeC,decide_eq_true_eq] at hsz
   omega
  go_wp2_with fail
  with_reducible refine (pvalid_any s _ hss (HT.out.on Hb2.out)).mono ?_
  rintro e w2 ⟨rfl,hb3⟩
  go_wp2
  go_ret
  exact ⟨by rw [hsz,Bool.true_and];rfl,bon Hb2.out hb3⟩
end Go.Proofs.YtjpjalmilfgckaaGreatDoor
namespace Go.Proofs.YtjpjalmilfgckaaGreatDoor
open Go.RowKit
def IsF (k:Int) (w:World) (F:Value):Prop:=
 (k = 1 ∧ PlainF w F 0 1) ∨ (k = 2 ∧ PlainF w F (-2147483648) 2147483647) ∨ (k = 3 ∧ PlainF w F (-9223372036854775808) 9223372036854775807) ∨
  (k=4/\∃ p:Nat,F=.func (.func 211) #[] #[.pointer (some ⟨p,0,none⟩)]/\p<w.heap.size/\w.cell? ⟨p,0,none⟩=some (.func (.func 201) #[] #[])) \/
  (k=5/\F=.func (.func 201) #[] #[])
theorem IsF.on {k:Int} {w w':World} {F:Value} (h:IsF k w F) (hb:Below w.heap.size w w'):IsF k w' F:=by
 rcases h with ⟨rfl,h⟩ | ⟨rfl,h⟩ | ⟨rfl,h⟩ | ⟨rfl,p,h1,h2,h3⟩ | ⟨rfl,h⟩
 ·exact .inl ⟨rfl,h.on hb⟩
 ·exact .inr (.inl ⟨rfl,h.on hb⟩)
 ·exact .inr (.inr (.inl ⟨rfl,h.on hb⟩))
 ·exact .inr (.inr (.inr (.inl ⟨rfl,p,h1,Nat.lt_of_lt_of_le h2 hb.size,(hb.cell (p:=⟨p,0,none⟩) h2).trans h3⟩)))
 exact .inr (.inr (.inr (.inr ⟨rfl,h⟩)))
abbrev kz:Array Value:=#[.nilFunc,.nilFunc,.nilFunc,.nilFunc,.nilFunc,.nilFunc,.nilFunc,.nilFunc,.nilFunc,.nilFunc,.nilFunc,.nilFunc,.nilFunc,.nilFunc,.nilFunc,.nilFunc,.nilFunc,.nilFunc,.nilFunc,.nilFunc,.nilFunc,.nilFunc,.nilFunc,.nilFunc,.nilFunc,.nilFunc,.nilFunc,.nilFunc,.nilFunc,.nilFunc]
abbrev fnV (f:Nat):Value:=.func (.func f) #[] #[]
theorem Blk.row {w:World} {g:Nat} {t:TypeId} {old cs:Array Value} (h:Blk w g t old):Blk (w.setRow g cs) g t cs:=setRow_heap w g old cs t (0,0) h
theorem Blk.new' (w:World) (t:TypeId) (cs:Array Value) (g:Nat) (hg:g=w.heap.size):Blk (w.alloc (.cells cs t)) g t cs:=by
 subst hg
 exact Blk.new w t cs
theorem store_new {P:Program} (w:World) (t:TypeId) (old v:Value) (g:Nat) (hv:v.oneCell'=true) (hg:g=w.heap.size):(store ⟨g,0,none⟩ v).run P (w.alloc (.cells #[old] t))=.ok () ((w.alloc (.cells #[old] t)).setCell ⟨g,0,none⟩ v):=by
 have h:=Blk.new' w t #[old] g hg
 rw [run_store _ _ _ _ _ hv,h.cell 0,h.frozen 0]
 rfl
theorem PlainF.row {w:World} {F:Value} {a b:Int} {g:Nat} {t:TypeId} {old cs:Array Value} (h:PlainF w F a b) (hT:Blk w g t old) (h0:old[0]? = some .nilFunc):PlainF (w.setRow g cs) F a b:=by
 obtain ⟨p,q,h1,h2,h3,h4,h5⟩:=h
 have hg:=hT.cell 0
 rw [h0] at hg
 have hp:p≠g:=by
  rintro rfl
  rw [h4] at hg
  cases hg
 have hq:q≠g:=by
  rintro rfl
  rw [h5] at hg
  cases hg
 exact ⟨p,q,h1,by simpa using h2,by simpa using h3,(cell_setRow_other w g cs ⟨p,0,none⟩ hp).trans h4,(cell_setRow_other w g cs ⟨q,0,none⟩ hq).trans h5⟩
theorem cells5 {w:World} {g:Nat} {t:TypeId} {cs:Array Value} {a b c d e:Value} (h:Blk w g t cs) (i j1 j2 j3 j4:Nat) (hj:j1=i+1/\j2=i+2/\j3=i+3/\j4=i+4:=by decide) {r:List Value} (hl:cs.toList.drop i=a::b::c::d::e::r) :
  w.cell? ⟨g,i,none⟩=some a/\w.cell? ⟨g,j1,none⟩=some b/\w.cell? ⟨g,j2,none⟩=some c/\w.cell? ⟨g,j3,none⟩=some d/\w.cell? ⟨g,j4,none⟩=some e:=by
 obtain ⟨rfl,rfl,rfl,rfl⟩:=hj
 have key:∀ k,cs[i+k]? = (cs.toList.drop i)[k]? := fun k=>by rw [List.getElem?_drop,Array.getElem?_toList]
 refine ⟨(h.cell i).trans ?_,(h.cell _).trans ?_,(h.cell _).trans ?_,(h.cell _).trans ?_,(h.cell _).trans ?_⟩
 ·have:=key 0
  rw [hl] at this
  exact this
 all_goals (rw [key,hl];rfl)
theorem five_stores {P:Program} {w:World} {g:Nat} {t:TypeId} {a0 a1 a2 a3 a4:Value} (C:Blk w g t #[.nilFunc,.nilFunc,.nilFunc,.nilFunc,.nilFunc]) (h0:a0.oneCell'=true) (h1:a1.oneCell'=true) (h2:a2.oneCell'=true) (h3:a3.oneCell'=true) (h4:a4.oneCell'=true) :
  ∃ w5,(((store ⟨g,0,none⟩ a0).run P w).andThen fun _ w'=>((store ⟨g,1,none⟩ a1).run P w').andThen fun _ w'=>((store ⟨g,2,none⟩ a2).run P w').andThen fun _ w'=>((store ⟨g,3,none⟩ a3).run P w').andThen fun _ w'=>(store ⟨g,4,none⟩ a4).run P w')=.ok () w5/\Blk w5 g t #[a0,a1,a2,a3,a4]/\Below g w w5/\w5.heap.size=w.heap.size/\∀ b:Nat,b≠g->w5.cell? ⟨b,0,none⟩=w.cell? ⟨b,0,none⟩:=by
 have st:∀ {w1:World} {cs:Array Value} (i:Nat) (v:Value),Blk w1 g t cs->v.oneCell'=true->i<cs.size->(store ⟨g,i,none⟩ v).run P w1=.ok () (w1.setCell ⟨g,i,none⟩ v):=by
  intro w1 cs i v hB hv hi
  rw [run_store _ _ _ _ _ hv,hB.cell i,hB.frozen i,Array.getElem?_eq_getElem hi]
  rfl
 have hg:=Nat.le_refl g
 have C1:=C.set_ 0 a0
 have C2:=C1.set_ 1 a1
 have C3:=C2.set_ 2 a2
 have C4:=C3.set_ 3 a3
 have C5:=C4.set_ 4 a4
 refine ⟨_,?_,C5,?_,by simp,fun b hb=>?_⟩
 ·rw [st 0 a0 C h0 (by decide),Result.andThen_ok,st 1 a1 C1 h1 (by simp),Result.andThen_ok,st 2 a2 C2 h2 (by simp),Result.andThen_ok,st 3 a3 C3 h3 (by simp),Result.andThen_ok,st 4 a4 C4 h4 (by simp)]
 ·exact (((((Below.refl _ _).setCell (p:=⟨g,0,none⟩) hg _).setCell (p:=⟨g,1,none⟩) hg _).setCell (p:=⟨g,2,none⟩) hg _).setCell (p:=⟨g,3,none⟩) hg _).setCell (p:=⟨g,4,none⟩) hg _
 have ho:∀ (w1:World) (i:Nat) (v:Value),(w1.setCell ⟨g,i,none⟩ v).cell? ⟨b,0,none⟩=w1.cell? ⟨b,0,none⟩:=fun w1 i v=>World.cell?_setCell_other w1 _ _ v (by intro h;injection h with h1 h2 h3;exact hb h1.symm)
 rw [ho,ho,ho,ho,ho]
theorem PlainF.five {w w5:World} {F:Value} {a b:Int} {g:Nat} {t:TypeId} {a1 a2 a3 a4:Value} (h:PlainF w F a b) (C:Blk w g t #[.nilFunc,a1,a2,a3,a4]) (hs:w5.heap.size=w.heap.size) (hc:∀ b:Nat,b≠g->w5.cell? ⟨b,0,none⟩=w.cell? ⟨b,0,none⟩):PlainF w5 F a b:=by
 obtain ⟨p,q,h1,h2,h3,h4,h5⟩:=h
 have hg:w.cell? ⟨g,0,none⟩=some .nilFunc:=C.cell 0
 have hp:p≠g:=by
  rintro rfl
  rw [h4] at hg
  cases hg
 have hq:q≠g:=by
  rintro rfl
  rw [h5] at hg
  cases hg
 exact ⟨p,q,h1,by omega,by omega,(hc p hp).trans h4,(hc q hq).trans h5⟩
theorem leaf_eq {n:Nat} {W4 W:World} (hS:Below n W4 W):W=W:=rfl
theorem leaf_ends {n:Nat} {W4 w:World} {g:Nat} {t:TypeId} {old cs:Array Value} {F1 F2 F3:Value} {a1 b1 a2 b2 a3 b3:Int} (hS:Below n W4 (w.setRow g cs)) (h1:PlainF w F1 a1 b1) (h2:PlainF w F2 a2 b2) (h3:PlainF w F3 a3 b3) (hT:Blk w g t old) (h0:old[0]? = some .nilFunc):PlainF (w.setRow g cs) F1 a1 b1/\PlainF (w.setRow g cs) F2 a2 b2/\PlainF (w.setRow g cs) F3 a3 b3/\Blk (w.setRow g cs) g t cs:=
 ⟨h1.row hT h0,h2.row hT h0,h3.row hT h0,hT.row⟩
set_option maxHeartbeats 4000000 in
theorem of_any (k:Int) (nl:Bool) (w:World) (h1:1<=k) (h5:k<=5):Calls Tryz.prog 161 #[.agg #[.int .i64 k,.bool nl]] w fun e w'=>∃ F a b c d,e=.returned (.agg #[F,a,b,c,d])/\IsF k w' F/\Below w.heap.size w w':=by
 have hst:=store_new (P:=Tryz.prog) ((w.alloc (.cells #[.int .i64 k,.bool nl] 43)).alloc (.cells #[.nilFunc,.nilFunc,.nilFunc,.nilFunc,.nilFunc] 205)) 147 .nilFunc (fnV 201) (w.heap.size+1+1) rfl (by simp)
 obtain ⟨W4,hW4⟩:∃ W4,W4=((w.alloc (.cells #[.int .i64 k,.bool nl] 43)).alloc (.cells #[.nilFunc,.nilFunc,.nilFunc,.nilFunc,.nilFunc] 205)).alloc (.cells #[fnV 201] 147):=⟨_,rfl⟩
 have HW4:=Lib.hid hW4
 have B4:=Lib.hid (show Blk W4 (w.heap.size+1+1) 147 #[fnV 201] by rw [hW4];exact Blk.new' _ _ _ _ (by simp))
 have B2:=Lib.hid (show Blk W4 (w.heap.size+1) 205 #[.nilFunc,.nilFunc,.nilFunc,.nilFunc,.nilFunc] by rw [hW4];exact (Blk.new' _ _ _ _ (by simp)).alloc _)
 have B1:=Lib.hid (show Blk W4 w.heap.size 43 #[.int .i64 k,.bool nl] by rw [hW4];exact ((Blk.new w _ _).alloc _).alloc _)
 have HB:=Lib.hid (show Below w.heap.size w W4 by rw [hW4];exact (((Below.refl _ _).alloc (Nat.le_refl _) _).alloc (by simp) _).alloc (by simp;omega) _)
 have Hsz4:=Lib.hid (show W4.heap.size=w.heap.size+3 by rw [hW4];simp)
 clear hW4
 go_enter Tryz.func161,Tryz.ntmps161
 go_wp2
 rw [<-HW4.out]
 clear HW4 hst
 have H4:=Lib.hid (show ∀ w',Below W4.heap.size W4 w'->w'.cell? ⟨w.heap.size+1+1,0,none⟩=some (fnV 201) from fun w' h=>(h.cell (p:=⟨w.heap.size+1+1,0,none⟩) B4.out.lt).trans (B4.out.cell 0))
 have hS:Below W4.heap.size W4 W4.drew:=(Below.refl _ _).drew
 refine nR (fun w'=>Below W4.heap.size W4 w') (.pure 0 (.pure 3 (.pure 6 (.pure 9 (.pure 10 (.pure 11 (.pure 12 (.fork 1 14 (.pure 2 (.fork 4 14 (.pure 5 (.fork 7 14 (.pure 8 (.pure 13 (.eff 14 (.eff 15 .done)))) (.eff 7 (.pure 8 (.pure 13 (.eff 15 .done)))))) (.eff 4 (.pure 5 (.eff 7 (.pure 8 (.pure 13 (.eff 15 .done)))))))) (.eff 1 (.pure 2 (.eff 4 (.pure 5 (.eff 7 (.pure 8 (.pure 13 (.eff 15 .done)))))))))))))))) ?_
 iterate 5
  refine nP hS ?_
 refine nP1 hS H4.out ?_
 refine nP hS ?_
 refine plan_fork ?_ ?_
 ·refine nE fun K hK=>?_
  go_simp
  with_reducible refine (of1_any 0 1 _).mono ?_
  rintro e w5 ⟨_,rfl,⟨p1,q1,rfl,lp1,lq1,cp1,cq1⟩,hb1⟩
  have hF1:=Lib.hid (show PlainF w5 _ 0 1 from ⟨p1,q1,rfl,lp1,lq1,cp1,cq1⟩)
  clear lp1 lq1 cp1 cq1
  refine held_go hK (by exact bon hS hb1) fun hS=>?_
  clear hK K
  try simp only [zp]
  refine nP hS ?_
  refine plan_fork ?_ ?_
  ·refine nE fun K hK=>?_
   go_simp
   with_reducible refine (of1_any (-2147483648) 2147483647 _).mono ?_
   rintro e w6 ⟨_,rfl,⟨p2,q2,rfl,lp2,lq2,cp2,cq2⟩,hb2⟩
   have hF2:=Lib.hid (show PlainF w6 _ (-2147483648) 2147483647 from ⟨p2,q2,rfl,lp2,lq2,cp2,cq2⟩)
   clear lp2 lq2 cp2 cq2
   refine held_go hK (by exact bon hS hb2) fun hS=>?_
   clear hK K
   try simp only [zp]
   refine nP hS ?_
   refine plan_fork ?_ ?_
   ·refine nE fun K hK=>?_
    go_simp
    with_reducible refine (of1_any (-9223372036854775808) 9223372036854775807 _).mono ?_
    rintro e w7 ⟨_,rfl,⟨p3,q3,rfl,lp3,lq3,cp3,cq3⟩,hb3⟩
    have hF3:=Lib.hid (show PlainF w7 _ (-9223372036854775808) 9223372036854775807 from ⟨p3,q3,rfl,lp3,lq3,cp3,cq3⟩)
    clear lp3 lq3 cp3 cq3
    refine held_go hK (by exact bon hS hb3) fun hS=>?_
    clear hK K
    try simp only [zp]
    refine nP hS ?_
    refine nP hS ?_
    have hT:=Lib.hid (Blk.new' w7 247 kz _ rfl)
    have hTg:W4.heap.size<=w7.heap.size:=hS.size
    refine nE fun K hK=>?_
    go_simp
    refine held_go hK (by exact bal hS _) fun hS=>?_
    clear hK K
    try simp only [zp]
    replace hF1:=Lib.hid (((hF1.out.on hb2).on hb3).on (bal (Below.refl _ _) (.cells kz 247)))
    replace hF2:=Lib.hid ((hF2.out.on hb3).on (bal (Below.refl _ _) (.cells kz 247)))
    replace hF3:=Lib.hid (hF3.out.on (bal (Below.refl _ _) (.cells kz 247)))
    refine nE fun K hK=>?_
    refine wp_store_row 247 (.tmp 5) (.tmp 19) rfl _ _ rfl rfl _ _ hT.out (by kernel_rfl) rfl (by simp [Value.oneCell']) ?_
    refine held_go hK (by exact below_setRow hS hTg _) fun hS=>?_
    clear hK K
    try simp only [zp]
    refine plan_end ?_
    have hone:∀ f a b,(Value.func f a b).oneCell'=true:=fun _ _ _=>rfl
    obtain ⟨P1,P2,P3,T8⟩:=leaf_ends hS hF1.out hF2.out hF3.out hT.out rfl
    have Q1:=Lib.hid P1
    have Q2:=Lib.hid P2
    have Q3:=Lib.hid P3
    have hS2:=Lib.hid hS
    clear P1 P2 P3 hS
    have C1:=(B1.out.on hS2.out).cell 0
    have C2:=Lib.hid (B2.out.on hS2.out)
    obtain ⟨WL,hWL⟩:∃ WL,WL=_:=⟨_,(leaf_eq hS2.out)⟩
    rw [<-hWL] at hS2 Q1 Q2 Q3 T8 C1 C2 ⊢
    clear hWL
    rcases (show k=1\/k=2\/k=3\/k=4\/k=5 by omega) with rfl | rfl | rfl | rfl | rfl
    ·obtain ⟨c0,c1,c2,c3,c4⟩:=cells5 T8 5 6 7 8 9 (by decide) rfl
     clear T8
     go_wp2
     obtain ⟨w9,he,hD,hbD,hsD,hcD⟩:=five_stores (P:=Tryz.prog) C2.out (hone _ _ _) (hone _ _ _) (hone _ _ _) (hone _ _ _) (hone _ _ _)
     rw [he]
     go_wp2
     have hb8:=bon HB.out hS2.out
     refine bodyPost_ret (results_cell_row rfl _ _ _ _ _ _ _ rfl hD rfl rfl (by kernel_rfl)) rfl ⟨_,_,_,_,_,rfl,?_,?_⟩
     ·exact .inl ⟨rfl,Q1.out.five C2.out hsD hcD⟩
     exact hb8.trans (hbD.mono (Nat.le_succ _))
    ·obtain ⟨c0,c1,c2,c3,c4⟩:=cells5 T8 10 11 12 13 14 (by decide) rfl
     clear T8
     go_wp2
     obtain ⟨w9,he,hD,hbD,hsD,hcD⟩:=five_stores (P:=Tryz.prog) C2.out (hone _ _ _) (hone _ _ _) (hone _ _ _) (hone _ _ _) (hone _ _ _)
     rw [he]
     go_wp2
     have hb8:=bon HB.out hS2.out
     refine bodyPost_ret (results_cell_row rfl _ _ _ _ _ _ _ rfl hD rfl rfl (by kernel_rfl)) rfl ⟨_,_,_,_,_,rfl,?_,?_⟩
     ·exact .inr (.inl ⟨rfl,Q2.out.five C2.out hsD hcD⟩)
     exact hb8.trans (hbD.mono (Nat.le_succ _))
    ·obtain ⟨c0,c1,c2,c3,c4⟩:=cells5 T8 15 16 17 18 19 (by decide) rfl
     clear T8
     go_wp2
     obtain ⟨w9,he,hD,hbD,hsD,hcD⟩:=five_stores (P:=Tryz.prog) C2.out (hone _ _ _) (hone _ _ _) (hone _ _ _) (hone _ _ _) (hone _ _ _)
     rw [he]
     go_wp2
     have hb8:=bon HB.out hS2.out
     refine bodyPost_ret (results_cell_row rfl _ _ _ _ _ _ _ rfl hD rfl rfl (by kernel_rfl)) rfl ⟨_,_,_,_,_,rfl,?_,?_⟩
     ·exact .inr (.inr (.inl ⟨rfl,Q3.out.five C2.out hsD hcD⟩))
     exact hb8.trans (hbD.mono (Nat.le_succ _))
    ·obtain ⟨c0,c1,c2,c3,c4⟩:=cells5 T8 20 21 22 23 24 (by decide) rfl
     clear T8
     go_wp2
     obtain ⟨w9,he,hD,hbD,hsD,hcD⟩:=five_stores (P:=Tryz.prog) C2.out (hone _ _ _) (hone _ _ _) (hone _ _ _) (hone _ _ _) (hone _ _ _)
     rw [he]
     go_wp2
     have hb8:=bon HB.out hS2.out
     refine bodyPost_ret (results_cell_row rfl _ _ _ _ _ _ _ rfl hD rfl rfl (by kernel_rfl)) rfl ⟨_,_,_,_,_,rfl,?_,?_⟩
     ·exact .inr (.inr (.inr (.inl ⟨rfl,_,rfl,by have:=hS2.out.size;have:=Hsz4.out;omega,(hcD _ (by omega)).trans (H4.out _ hS2.out)⟩)))
     exact hb8.trans (hbD.mono (Nat.le_succ _))
    obtain ⟨c0,c1,c2,c3,c4⟩:=cells5 T8 25 26 27 28 29 (by decide) rfl
    clear T8
    go_wp2
    obtain ⟨w9,he,hD,hbD,hsD,hcD⟩:=five_stores (P:=Tryz.prog) C2.out (hone _ _ _) (hone _ _ _) (hone _ _ _) (hone _ _ _) (hone _ _ _)
    rw [he]
    go_wp2
    have hb8:=bon HB.out hS2.out
    refine bodyPost_ret (results_cell_row rfl _ _ _ _ _ _ _ rfl hD rfl rfl (by kernel_rfl)) rfl ⟨_,_,_,_,_,rfl,?_,?_⟩
    ·exact .inr (.inr (.inr (.inr ⟨rfl,rfl⟩)))
    exact hb8.trans (hbD.mono (Nat.le_succ _))
   have hT:=Lib.hid (Blk.new' w6 247 kz _ rfl)
   have hTg:W4.heap.size<=w6.heap.size:=hS.size
   refine nE fun K hK=>?_
   go_simp
   refine held_go hK (by exact bal hS _) fun hS=>?_
   clear hK K
   try simp only [zp]
   refine nE fun K hK=>?_
   go_simp
   with_reducible refine (of1_any (-9223372036854775808) 9223372036854775807 _).mono ?_
   rintro e w7 ⟨_,rfl,⟨p3,q3,rfl,lp3,lq3,cp3,cq3⟩,hb3⟩
   have hF3:=Lib.hid (show PlainF w7 _ (-9223372036854775808) 9223372036854775807 from ⟨p3,q3,rfl,lp3,lq3,cp3,cq3⟩)
   clear lp3 lq3 cp3 cq3
   refine held_go hK (by exact bon hS hb3) fun hS=>?_
   clear hK K
   try simp only [zp]
   refine nP hS ?_
   refine nP hS ?_
   replace hT:=Lib.hid (hT.out.on hb3)
   replace hF1:=Lib.hid (((hF1.out.on hb2).on (bal (Below.refl _ _) (.cells kz 247))).on hb3)
   replace hF2:=Lib.hid ((hF2.out.on (bal (Below.refl _ _) (.cells kz 247))).on hb3)
   refine nE fun K hK=>?_
   refine wp_store_row 247 (.tmp 5) (.tmp 19) rfl _ _ rfl rfl _ _ hT.out (by kernel_rfl) rfl (by simp [Value.oneCell']) ?_
   refine held_go hK (by exact below_setRow hS hTg _) fun hS=>?_
   clear hK K
   try simp only [zp]
   refine plan_end ?_
   have hone:∀ f a b,(Value.func f a b).oneCell'=true:=fun _ _ _=>rfl
   obtain ⟨P1,P2,P3,T8⟩:=leaf_ends hS hF1.out hF2.out hF3.out hT.out rfl
   have Q1:=Lib.hid P1
   have Q2:=Lib.hid P2
   have Q3:=Lib.hid P3
   have hS2:=Lib.hid hS
   clear P1 P2 P3 hS
   have C1:=(B1.out.on hS2.out).cell 0
   have C2:=Lib.hid (B2.out.on hS2.out)
   obtain ⟨WL,hWL⟩:∃ WL,WL=_:=⟨_,(leaf_eq hS2.out)⟩
   rw [<-hWL] at hS2 Q1 Q2 Q3 T8 C1 C2 ⊢
   clear hWL
   rcases (show k=1\/k=2\/k=3\/k=4\/k=5 by omega) with rfl | rfl | rfl | rfl | rfl
   ·obtain ⟨c0,c1,c2,c3,c4⟩:=cells5 T8 5 6 7 8 9 (by decide) rfl
    clear T8
    go_wp2
    obtain ⟨w9,he,hD,hbD,hsD,hcD⟩:=five_stores (P:=Tryz.prog) C2.out (hone _ _ _) (hone _ _ _) (hone _ _ _) (hone _ _ _) (hone _ _ _)
    rw [he]
    go_wp2
    have hb8:=bon HB.out hS2.out
    refine bodyPost_ret (results_cell_row rfl _ _ _ _ _ _ _ rfl hD rfl rfl (by kernel_rfl)) rfl ⟨_,_,_,_,_,rfl,?_,?_⟩
    ·exact .inl ⟨rfl,Q1.out.five C2.out hsD hcD⟩
    exact hb8.trans (hbD.mono (Nat.le_succ _))
   ·obtain ⟨c0,c1,c2,c3,c4⟩:=cells5 T8 10 11 12 13 14 (by decide) rfl
    clear T8
    go_wp2
    obtain ⟨w9,he,hD,hbD,hsD,hcD⟩:=five_stores (P:=Tryz.prog) C2.out (hone _ _ _) (hone _ _ _) (hone _ _ _) (hone _ _ _) (hone _ _ _)
    rw [he]
    go_wp2
    have hb8:=bon HB.out hS2.out
    refine bodyPost_ret (results_cell_row rfl _ _ _ _ _ _ _ rfl hD rfl rfl (by kernel_rfl)) rfl ⟨_,_,_,_,_,rfl,?_,?_⟩
    ·exact .inr (.inl ⟨rfl,Q2.out.five C2.out hsD hcD⟩)
    exact hb8.trans (hbD.mono (Nat.le_succ _))
   ·obtain ⟨c0,c1,c2,c3,c4⟩:=cells5 T8 15 16 17 18 19 (by decide) rfl
    clear T8
    go_wp2
    obtain ⟨w9,he,hD,hbD,hsD,hcD⟩:=five_stores (P:=Tryz.prog) C2.out (hone _ _ _) (hone _ _ _) (hone _ _ _) (hone _ _ _) (hone _ _ _)
    rw [he]
    go_wp2
    have hb8:=bon HB.out hS2.out
    refine bodyPost_ret (results_cell_row rfl _ _ _ _ _ _ _ rfl hD rfl rfl (by kernel_rfl)) rfl ⟨_,_,_,_,_,rfl,?_,?_⟩
    ·exact .inr (.inr (.inl ⟨rfl,Q3.out.five C2.out hsD hcD⟩))
    exact hb8.trans (hbD.mono (Nat.le_succ _))
   ·obtain ⟨c0,c1,c2,c3,c4⟩:=cells5 T8 20 21 22 23 24 (by decide) rfl
    clear T8
    go_wp2
    obtain ⟨w9,he,hD,hbD,hsD,hcD⟩:=five_stores (P:=Tryz.prog) C2.out (hone _ _ _) (hone _ _ _) (hone _ _ _) (hone _ _ _) (hone _ _ _)
    rw [he]
    go_wp2
    have hb8:=bon HB.out hS2.out
    refine bodyPost_ret (results_cell_row rfl _ _ _ _ _ _ _ rfl hD rfl rfl (by kernel_rfl)) rfl ⟨_,_,_,_,_,rfl,?_,?_⟩
    ·exact .inr (.inr (.inr (.inl ⟨rfl,_,rfl,by have:=hS2.out.size;have:=Hsz4.out;omega,(hcD _ (by omega)).trans (H4.out _ hS2.out)⟩)))
    exact hb8.trans (hbD.mono (Nat.le_succ _))
   obtain ⟨c0,c1,c2,c3,c4⟩:=cells5 T8 25 26 27 28 29 (by decide) rfl
   clear T8
   go_wp2
   obtain ⟨w9,he,hD,hbD,hsD,hcD⟩:=five_stores (P:=Tryz.prog) C2.out (hone _ _ _) (hone _ _ _) (hone _ _ _) (hone _ _ _) (hone _ _ _)
   rw [he]
   go_wp2
   have hb8:=bon HB.out hS2.out
   refine bodyPost_ret (results_cell_row rfl _ _ _ _ _ _ _ rfl hD rfl rfl (by kernel_rfl)) rfl ⟨_,_,_,_,_,rfl,?_,?_⟩
   ·exact .inr (.inr (.inr (.inr ⟨rfl,rfl⟩)))
   exact hb8.trans (hbD.mono (Nat.le_succ _))
  have hT:=Lib.hid (Blk.new' w5 247 kz _ rfl)
  have hTg:W4.heap.size<=w5.heap.size:=hS.size
  refine nE fun K hK=>?_
  go_simp
  refine held_go hK (by exact bal hS _) fun hS=>?_
  clear hK K
  try simp only [zp]
  refine nE fun K hK=>?_
  go_simp
  with_reducible refine (of1_any (-2147483648) 2147483647 _).mono ?_
  rintro e w6 ⟨_,rfl,⟨p2,q2,rfl,lp2,lq2,cp2,cq2⟩,hb2⟩
  have hF2:=Lib.hid (show PlainF w6 _ (-2147483648) 2147483647 from ⟨p2,q2,rfl,lp2,lq2,cp2,cq2⟩)
  clear lp2 lq2 cp2 cq2
  refine held_go hK (by exact bon hS hb2) fun hS=>?_
  clear hK K
  try simp only [zp]
  refine nP hS ?_
  refine nE fun K hK=>?_
  go_simp
  with_reducible refine (of1_any (-9223372036854775808) 9223372036854775807 _).mono ?_
  rintro e w7 ⟨_,rfl,⟨p3,q3,rfl,lp3,lq3,cp3,cq3⟩,hb3⟩
  have hF3:=Lib.hid (show PlainF w7 _ (-9223372036854775808) 9223372036854775807 from ⟨p3,q3,rfl,lp3,lq3,cp3,cq3⟩)
  clear lp3 lq3 cp3 cq3
  refine held_go hK (by exact bon hS hb3) fun hS=>?_
  clear hK K
  try simp only [zp]
  refine nP hS ?_
  refine nP hS ?_
  replace hT:=Lib.hid ((hT.out.on hb2).on hb3)
  replace hF1:=Lib.hid (((hF1.out.on (bal (Below.refl _ _) (.cells kz 247))).on hb2).on hb3)
  replace hF2:=Lib.hid (hF2.out.on hb3)
  refine nE fun K hK=>?_
  refine wp_store_row 247 (.tmp 5) (.tmp 19) rfl _ _ rfl rfl _ _ hT.out (by kernel_rfl) rfl (by simp [Value.oneCell']) ?_
  refine held_go hK (by exact below_setRow hS hTg _) fun hS=>?_
  clear hK K
  try simp only [zp]
  refine plan_end ?_
  have hone:∀ f a b,(Value.func f a b).oneCell'=true:=fun _ _ _=>rfl
  obtain ⟨P1,P2,P3,T8⟩:=leaf_ends hS hF1.out hF2.out hF3.out hT.out rfl
  have Q1:=Lib.hid P1
  have Q2:=Lib.hid P2
  have Q3:=Lib.hid P3
  have hS2:=Lib.hid hS
  clear P1 P2 P3 hS
  have C1:=(B1.out.on hS2.out).cell 0
  have C2:=Lib.hid (B2.out.on hS2.out)
  obtain ⟨WL,hWL⟩:∃ WL,WL=_:=⟨_,(leaf_eq hS2.out)⟩
  rw [<-hWL] at hS2 Q1 Q2 Q3 T8 C1 C2 ⊢
  clear hWL
  rcases (show k=1\/k=2\/k=3\/k=4\/k=5 by omega) with rfl | rfl | rfl | rfl | rfl
  ·obtain ⟨c0,c1,c2,c3,c4⟩:=cells5 T8 5 6 7 8 9 (by decide) rfl
   clear T8
   go_wp2
   obtain ⟨w9,he,hD,hbD,hsD,hcD⟩:=five_stores (P:=Tryz.prog) C2.out (hone _ _ _) (hone _ _ _) (hone _ _ _) (hone _ _ _) (hone _ _ _)
   rw [he]
   go_wp2
   have hb8:=bon HB.out hS2.out
   refine bodyPost_ret (results_cell_row rfl _ _ _ _ _ _ _ rfl hD rfl rfl (by kernel_rfl)) rfl ⟨_,_,_,_,_,rfl,?_,?_⟩
   ·exact .inl ⟨rfl,Q1.out.five C2.out hsD hcD⟩
   exact hb8.trans (hbD.mono (Nat.le_succ _))
  ·obtain ⟨c0,c1,c2,c3,c4⟩:=cells5 T8 10 11 12 13 14 (by decide) rfl
   clear T8
   go_wp2
   obtain ⟨w9,he,hD,hbD,hsD,hcD⟩:=five_stores (P:=Tryz.prog) C2.out (hone _ _ _) (hone _ _ _) (hone _ _ _) (hone _ _ _) (hone _ _ _)
   rw [he]
   go_wp2
   have hb8:=bon HB.out hS2.out
   refine bodyPost_ret (results_cell_row rfl _ _ _ _ _ _ _ rfl hD rfl rfl (by kernel_rfl)) rfl ⟨_,_,_,_,_,rfl,?_,?_⟩
   ·exact .inr (.inl ⟨rfl,Q2.out.five C2.out hsD hcD⟩)
   exact hb8.trans (hbD.mono (Nat.le_succ _))
  ·obtain ⟨c0,c1,c2,c3,c4⟩:=cells5 T8 15 16 17 18 19 (by decide) rfl
   clear T8
   go_wp2
   obtain ⟨w9,he,hD,hbD,hsD,hcD⟩:=five_stores (P:=Tryz.prog) C2.out (hone _ _ _) (hone _ _ _) (hone _ _ _) (hone _ _ _) (hone _ _ _)
   rw [he]
   go_wp2
   have hb8:=bon HB.out hS2.out
   refine bodyPost_ret (results_cell_row rfl _ _ _ _ _ _ _ rfl hD rfl rfl (by kernel_rfl)) rfl ⟨_,_,_,_,_,rfl,?_,?_⟩
   ·exact .inr (.inr (.inl ⟨rfl,Q3.out.five C2.out hsD hcD⟩))
   exact hb8.trans (hbD.mono (Nat.le_succ _))
  ·obtain ⟨c0,c1,c2,c3,c4⟩:=cells5 T8 20 21 22 23 24 (by decide) rfl
   clear T8
   go_wp2
   obtain ⟨w9,he,hD,hbD,hsD,hcD⟩:=five_stores (P:=Tryz.prog) C2.out (hone _ _ _) (hone _ _ _) (hone _ _ _) (hone _ _ _) (hone _ _ _)
   rw [he]
   go_wp2
   have hb8:=bon HB.out hS2.out
   refine bodyPost_ret (results_cell_row rfl _ _ _ _ _ _ _ rfl hD rfl rfl (by kernel_rfl)) rfl ⟨_,_,_,_,_,rfl,?_,?_⟩
   ·exact .inr (.inr (.inr (.inl ⟨rfl,_,rfl,by have:=hS2.out.size;have:=Hsz4.out;omega,(hcD _ (by omega)).trans (H4.out _ hS2.out)⟩)))
   exact hb8.trans (hbD.mono (Nat.le_succ _))
  obtain ⟨c0,c1,c2,c3,c4⟩:=cells5 T8 25 26 27 28 29 (by decide) rfl
  clear T8
  go_wp2
  obtain ⟨w9,he,hD,hbD,hsD,hcD⟩:=five_stores (P:=Tryz.prog) C2.out (hone _ _ _) (hone _ _ _) (hone _ _ _) (hone _ _ _) (hone _ _ _)
  rw [he]
  go_wp2
  have hb8:=bon HB.out hS2.out
  refine bodyPost_ret (results_cell_row rfl _ _ _ _ _ _ _ rfl hD rfl rfl (by kernel_rfl)) rfl ⟨_,_,_,_,_,rfl,?_,?_⟩
  ·exact .inr (.inr (.inr (.inr ⟨rfl,rfl⟩)))
  exact hb8.trans (hbD.mono (Nat.le_succ _))
 have hT:=Lib.hid (Blk.new' W4.drew 247 kz _ rfl)
 have hTg:W4.heap.size<=W4.drew.heap.size:=hS.size
 refine nE fun K hK=>?_
 go_simp
 refine held_go hK (by exact bal hS _) fun hS=>?_
 clear hK K
 try simp only [zp]
 refine nE fun K hK=>?_
 go_simp
 with_reducible refine (of1_any 0 1 _).mono ?_
 rintro e w5 ⟨_,rfl,⟨p1,q1,rfl,lp1,lq1,cp1,cq1⟩,hb1⟩
 have hF1:=Lib.hid (show PlainF w5 _ 0 1 from ⟨p1,q1,rfl,lp1,lq1,cp1,cq1⟩)
 clear lp1 lq1 cp1 cq1
 refine held_go hK (by exact bon hS hb1) fun hS=>?_
 clear hK K
 try simp only [zp]
 refine nP hS ?_
 refine nE fun K hK=>?_
 go_simp
 with_reducible refine (of1_any (-2147483648) 2147483647 _).mono ?_
 rintro e w6 ⟨_,rfl,⟨p2,q2,rfl,lp2,lq2,cp2,cq2⟩,hb2⟩
 have hF2:=Lib.hid (show PlainF w6 _ (-2147483648) 2147483647 from ⟨p2,q2,rfl,lp2,lq2,cp2,cq2⟩)
 clear lp2 lq2 cp2 cq2
 refine held_go hK (by exact bon hS hb2) fun hS=>?_
 clear hK K
 try simp only [zp]
 refine nP hS ?_
 refine nE fun K hK=>?_
 go_simp
 with_reducible refine (of1_any (-9223372036854775808) 9223372036854775807 _).mono ?_
 rintro e w7 ⟨_,rfl,⟨p3,q3,rfl,lp3,lq3,cp3,cq3⟩,hb3⟩
 have hF3:=Lib.hid (show PlainF w7 _ (-9223372036854775808) 9223372036854775807 from ⟨p3,q3,rfl,lp3,lq3,cp3,cq3⟩)
 clear lp3 lq3 cp3 cq3
 refine held_go hK (by exact bon hS hb3) fun hS=>?_
 clear hK K
 try simp only [zp]
 refine nP hS ?_
 refine nP hS ?_
 replace hT:=Lib.hid (((hT.out.on hb1).on hb2).on hb3)
 replace hF1:=Lib.hid ((hF1.out.on hb2).on hb3)
 replace hF2:=Lib.hid (hF2.out.on hb3)
 refine nE fun K hK=>?_
 refine wp_store_row 247 (.tmp 5) (.tmp 19) rfl _ _ rfl rfl _ _ hT.out (by kernel_rfl) rfl (by simp [Value.oneCell']) ?_
 refine held_go hK (by exact below_setRow hS hTg _) fun hS=>?_
 clear hK K
 try simp only [zp]
 refine plan_end ?_
 have hone:∀ f a b,(Value.func f a b).oneCell'=true:=fun _ _ _=>rfl
 obtain ⟨P1,P2,P3,T8⟩:=leaf_ends hS hF1.out hF2.out hF3.out hT.out rfl
 have Q1:=Lib.hid P1
 have Q2:=Lib.hid P2
 have Q3:=Lib.hid P3
 have hS2:=Lib.hid hS
 clear P1 P2 P3 hS
 have C1:=(B1.out.on hS2.out).cell 0
 have C2:=Lib.hid (B2.out.on hS2.out)
 obtain ⟨WL,hWL⟩:∃ WL,WL=_:=⟨_,(leaf_eq hS2.out)⟩
 rw [<-hWL] at hS2 Q1 Q2 Q3 T8 C1 C2 ⊢
 clear hWL
 rcases (show k=1\/k=2\/k=3\/k=4\/k=5 by omega) with rfl | rfl | rfl | rfl | rfl
 ·obtain ⟨c0,c1,c2,c3,c4⟩:=cells5 T8 5 6 7 8 9 (by decide) rfl
  clear T8
  go_wp2
  obtain ⟨w9,he,hD,hbD,hsD,hcD⟩:=five_stores (P:=Tryz.prog) C2.out (hone _ _ _) (hone _ _ _) (hone _ _ _) (hone _ _ _) (hone _ _ _)
  rw [he]
  go_wp2
  have hb8:=bon HB.out hS2.out
  refine bodyPost_ret (results_cell_row rfl _ _ _ _ _ _ _ rfl hD rfl rfl (by kernel_rfl)) rfl ⟨_,_,_,_,_,rfl,?_,?_⟩
  ·exact .inl ⟨rfl,Q1.out.five C2.out hsD hcD⟩
  exact hb8.trans (hbD.mono (Nat.le_succ _))
 ·obtain ⟨c0,c1,c2,c3,c4⟩:=cells5 T8 10 11 12 13 14 (by decide) rfl
  clear T8
  go_wp2
  obtain ⟨w9,he,hD,hbD,hsD,hcD⟩:=five_stores (P:=Tryz.prog) C2.out (hone _ _ _) (hone _ _ _) (hone _ _ _) (hone _ _ _) (hone _ _ _)
  rw [he]
  go_wp2
  have hb8:=bon HB.out hS2.out
  refine bodyPost_ret (results_cell_row rfl _ _ _ _ _ _ _ rfl hD rfl rfl (by kernel_rfl)) rfl ⟨_,_,_,_,_,rfl,?_,?_⟩
  ·exact .inr (.inl ⟨rfl,Q2.out.five C2.out hsD hcD⟩)
  exact hb8.trans (hbD.mono (Nat.le_succ _))
 ·obtain ⟨c0,c1,c2,c3,c4⟩:=cells5 T8 15 16 17 18 19 (by decide) rfl
  clear T8
  go_wp2
  obtain ⟨w9,he,hD,hbD,hsD,hcD⟩:=five_stores (P:=Tryz.prog) C2.out (hone _ _ _) (hone _ _ _) (hone _ _ _) (hone _ _ _) (hone _ _ _)
  rw [he]
  go_wp2
  have hb8:=bon HB.out hS2.out
  refine bodyPost_ret (results_cell_row rfl _ _ _ _ _ _ _ rfl hD rfl rfl (by kernel_rfl)) rfl ⟨_,_,_,_,_,rfl,?_,?_⟩
  ·exact .inr (.inr (.inl ⟨rfl,Q3.out.five C2.out hsD hcD⟩))
  exact hb8.trans (hbD.mono (Nat.le_succ _))
 ·obtain ⟨c0,c1,c2,c3,c4⟩:=cells5 T8 20 21 22 23 24 (by decide) rfl
  clear T8
  go_wp2
  obtain ⟨w9,he,hD,hbD,hsD,hcD⟩:=five_stores (P:=Tryz.prog) C2.out (hone _ _ _) (hone _ _ _) (hone _ _ _) (hone _ _ _) (hone _ _ _)
  rw [he]
  go_wp2
  have hb8:=bon HB.out hS2.out
  refine bodyPost_ret (results_cell_row rfl _ _ _ _ _ _ _ rfl hD rfl rfl (by kernel_rfl)) rfl ⟨_,_,_,_,_,rfl,?_,?_⟩
  ·exact .inr (.inr (.inr (.inl ⟨rfl,_,rfl,by have:=hS2.out.size;have:=Hsz4.out;omega,(hcD _ (by omega)).trans (H4.out _ hS2.out)⟩)))
  exact hb8.trans (hbD.mono (Nat.le_succ _))
 obtain ⟨c0,c1,c2,c3,c4⟩:=cells5 T8 25 26 27 28 29 (by decide) rfl
 clear T8
 go_wp2
 obtain ⟨w9,he,hD,hbD,hsD,hcD⟩:=five_stores (P:=Tryz.prog) C2.out (hone _ _ _) (hone _ _ _) (hone _ _ _) (hone _ _ _) (hone _ _ _)
 rw [he]
 go_wp2
 have hb8:=bon HB.out hS2.out
 refine bodyPost_ret (results_cell_row rfl _ _ _ _ _ _ _ rfl hD rfl rfl (by kernel_rfl)) rfl ⟨_,_,_,_,_,rfl,?_,?_⟩
 ·exact .inr (.inr (.inr (.inr ⟨rfl,rfl⟩)))
 exact hb8.trans (hbD.mono (Nat.le_succ _))
end Go.Proofs.YtjpjalmilfgckaaGreatDoor
namespace Go.Proofs.YtjpjalmilfgckaaGreatDoor
open Go.RowKit
def isC (k:Int) (c:Cl):Bool:=
 if k=1 then decide (c.2.2=⟨#[]⟩/\0<=c.2.1/\c.2.1<=1)
 else if k=2 then decide (c.2.2=⟨#[]⟩ /\ -2147483648<=c.2.1/\c.2.1<=2147483647)
 else if k=3 then decide (c.2.2=⟨#[]⟩ /\ -9223372036854775808<=c.2.1/\c.2.1<=9223372036854775807)
 else if k=4 then sizeC c.2.1 c.2.2&&Lib.validD c.2.2.data.toList
 else sizeC c.2.1 c.2.2
def checkE (k:Int) (nl:Bool) (c:Cl):Int:=
 if mayK k then (if (if c.1 then nl&&decide (c.2.1=0/\c.2.2=⟨#[]⟩) else isC k c) then 0 else 90) else 2
theorem callFunc_in {P : Program} {f : FuncId} {fn : Func} (h : P.funcs[f]? = some fn) (hn : (fn.name == "runtime.NumGoroutine") = false) (hb : fn.body.isNone = false) (args : Array Value) (w : World) : (callFunc f args).run P w = .ok (.enter f args) w := by
 have h1 : fn.name ≠ "runtime.NumGoroutine" := by simpa using hn
 have h2:fn.body≠none:=by
  intro h
  rw [h] at hb
  cases hb
 simp [callFunc,h,h1,h2]
theorem IsF.calls {k:Int} {w:World} {F:Value} (h:IsF k w F) (c:Cl) (hT:Tabs w) :
  ∃ f caps,F=.func (.func f) #[] caps/\(Calls Tryz.prog f (#[clV c]++caps) w fun e w'=>e=.returned (.bool (isC k c))/\Below w.heap.size w w')/\∀ args w',(callFunc f args).run Tryz.prog w'=.ok (.enter f args) w':=by
 rcases h with ⟨rfl,p,q,h1,h2,h3,h4,h5⟩ | ⟨rfl,p,q,h1,h2,h3,h4,h5⟩ | ⟨rfl,p,q,h1,h2,h3,h4,h5⟩ | ⟨rfl,p,h1,h2,h3⟩ | ⟨rfl,h1⟩
 ·exact ⟨_,_,h1,plain_any p q _ _ c.2.1 c.1 c.2.2 w h2 h3 h4 h5,fun args w'=>callFunc_in Tryz.func200 (by kernel_rfl) (by kernel_rfl) args w'⟩
 ·exact ⟨_,_,h1,plain_any p q _ _ c.2.1 c.1 c.2.2 w h2 h3 h4 h5,fun args w'=>callFunc_in Tryz.func200 (by kernel_rfl) (by kernel_rfl) args w'⟩
 ·exact ⟨_,_,h1,plain_any p q _ _ c.2.1 c.1 c.2.2 w h2 h3 h4 h5,fun args w'=>callFunc_in Tryz.func200 (by kernel_rfl) (by kernel_rfl) args w'⟩
 ·exact ⟨_,_,h1,of5_any p c.2.1 c.1 c.2.2 w h2 h3 hT,fun args w'=>callFunc_in Tryz.func211 (by kernel_rfl) (by kernel_rfl) args w'⟩
 exact ⟨_,_,h1,of2_any c.2.1 c.1 c.2.2 w,fun args w'=>callFunc_in Tryz.func201 (by kernel_rfl) (by kernel_rfl) args w'⟩
set_option maxHeartbeats 1000000 in
theorem check_any (k:Int) (nl:Bool) (c:Cl) (w:World) (hT:Tabs w):Calls Tryz.prog 105 #[.agg #[.int .i64 k,.bool nl],clV c] w fun e w'=>e=.returned (.int .i64 (checkE k nl c))/\Below w.heap.size w w':=by
 obtain ⟨nu,n,s⟩:=c
 show Calls Tryz.prog 105 #[.agg #[.int .i64 k,.bool nl],.agg #[.bool nu,.int .i64 n,.string s]] w _
 have HT:=Lib.hid hT
 clear hT
 have hb0:=Lib.hid (show Below w.heap.size w ((w.alloc (.cells #[.int .i64 k,.bool nl] 43)).alloc (.cells #[.bool nu,.int .i64 n,.string s] 23)) from ((Below.refl _ _).alloc (Nat.le_refl _) _).alloc (by simp) _)
 have B2:=Lib.hid ((Blk.new w 43 #[.int .i64 k,.bool nl]).alloc (.cells #[.bool nu,.int .i64 n,.string s] 23))
 have B3:=Lib.hid (Blk.new' (w.alloc (.cells #[.int .i64 k,.bool nl] 43)) 23 #[.bool nu,.int .i64 n,.string s] (w.heap.size+1) (by simp))
 go_enter Tryz.func105,Tryz.ntmps105
 go_wp2_with fail
 with_reducible refine (may_any k nl _).mono ?_
 rintro e w1 ⟨rfl,hb1⟩
 have hb2:=Lib.hid (bon hb0.out hb1)
 replace B2:=Lib.hid (B2.out.on hb1)
 replace B3:=Lib.hid (B3.out.on hb1)
 clear hb1 hb0
 have c20:=B2.out.cell 0
 have c21:=B2.out.cell 1
 have c30:=B3.out.cell 0
 have c31:=B3.out.cell 1
 have c32:=B3.out.cell 2
 cases hm:mayK k with
 | false=>
  go_wp2
  go_ret
  exact ⟨by simp [checkE,hm],hb2.out⟩
 | true=>
  obtain ⟨hk1,hk5⟩:1<=k/\k<=5:=by simpa [mayK] using hm
  cases nu with
  | true=>
   cases nl with
   | false=>
    go_wp2
    go_ret
    exact ⟨by simp [checkE,hm],hb2.out⟩
   | true=>
    by_cases hn:n=0
    ·subst hn
     by_cases hs:s=⟨#[]⟩
     ·subst hs
      go_wp2
      have H30:=Lib.hid (show ∀ w',w'=w1.drew->w'.cell? ⟨w.heap.size+1,0,none⟩=some (.bool true) from fun w' h=>by rw [h];exact c30)
      have hS:w1.drew=w1.drew:=rfl
      refine nR (fun w'=>w'=w1.drew) (.pure 0 (.pure 1 (.pure 2 (.pure 3 (.pure 4 (.pure 7 (.eff 5 (.pure 6 (.eff 8 (.pure 9 (.pure 10 (.pure 11 .done)))))))))))) ?_
      refine nP hS ?_
      refine nP1 hS H30.out ?_
      refine nP hS ?_
      refine nP hS ?_
      refine nO hS ?_
      refine nO hS ?_
      refine plan_eff rfl fun K hK=>?_
      go_simp
      refine held_go hK hS fun hS=>?_
      clear hK K
      try simp only [zp]
      refine nO hS ?_
      refine plan_eff rfl fun K hK=>?_
      go_simp
      refine held_go hK hS fun hS=>?_
      clear hK K
      try simp only [zp]
      refine nO hS ?_
      refine nP hS ?_
      refine nP hS ?_
      refine plan_end ?_
      go_wp2
      go_ret
      exact ⟨by simp [checkE,hm],hb2.out.drew⟩
     have hss:=empty_no hs
     go_wp2
     go_ret
     exact ⟨by simp [checkE,hm,hs],hb2.out⟩
    have hnn:(n==0)=false:=by simpa using hn
    go_wp2
    go_ret
    exact ⟨by simp [checkE,hm,hn],hb2.out⟩
  | false=>
   have H20:=Lib.hid (show ∀ w',Below w1.heap.size w1 w'->w'.cell? ⟨w.heap.size,0,none⟩=some (.int .i64 k) from fun w' h=>(h.cell (p:=⟨w.heap.size,0,none⟩) B2.out.lt).trans c20)
   have H21:=Lib.hid (show ∀ w',Below w1.heap.size w1 w'->w'.cell? ⟨w.heap.size,1,none⟩=some (.bool nl) from fun w' h=>(h.cell (p:=⟨w.heap.size,1,none⟩) B2.out.lt).trans c21)
   have H30:=Lib.hid (show ∀ w',Below w1.heap.size w1 w'->w'.cell? ⟨w.heap.size+1,0,none⟩=some (.bool false) from fun w' h=>(h.cell (p:=⟨w.heap.size+1,0,none⟩) B3.out.lt).trans c30)
   have H31:=Lib.hid (show ∀ w',Below w1.heap.size w1 w'->w'.cell? ⟨w.heap.size+1,1,none⟩=some (.int .i64 n) from fun w' h=>(h.cell (p:=⟨w.heap.size+1,1,none⟩) B3.out.lt).trans c31)
   have H32:=Lib.hid (show ∀ w',Below w1.heap.size w1 w'->w'.cell? ⟨w.heap.size+1,2,none⟩=some (.string s) from fun w' h=>(h.cell (p:=⟨w.heap.size+1,2,none⟩) B3.out.lt).trans c32)
   have hE:checkE k nl (false,n,s)=if isC k (false,n,s) then 0 else 90:=by simp [checkE,hm]
   go_wp2
   have hS:Below w1.heap.size w1 w1.drew:=(Below.refl _ _).drew
   refine nR (fun w'=>Below w1.heap.size w1 w') (.pure 0 (.pure 1 (.pure 2 (.pure 3 (.pure 4 (.pure 7 (.eff 5 (.pure 6 (.eff 8 (.pure 9 (.pure 10 (.pure 11 .done)))))))))))) ?_
   refine nP hS ?_
   refine nP1 hS H30.out ?_
   refine nP hS ?_
   refine nP hS ?_
   refine nP2 hS H20.out H21.out ?_
   refine nP3 hS H30.out H31.out H32.out ?_
   refine nE fun K hK=>?_
   go_simp
   with_reducible refine (of_any k nl _ hk1 hk5).mono ?_
   rintro e w2 ⟨F,a,b,c,d,rfl,hF,hb3⟩
   refine held_go hK (by exact bon hS hb3) fun hS=>?_
   clear hK K
   try simp only [zp]
   obtain ⟨f,caps,rfl,hcall,hin⟩:=hF.calls (false,n,s) ((HT.out.on hb2.out).on hS)
   obtain ⟨I,hI⟩:∃ I,I=isC k (false,n,s):=⟨_,rfl⟩
   rw [<-hI] at hcall hE
   have HE:=Lib.hid hE
   have hcall:=show Calls Tryz.prog f (#[.agg #[.bool false,.int .i64 n,.string s]]++caps) w2 (fun e w'=>e=.returned (.bool I)/\Below w2.heap.size w2 w') from hcall
   clear hE hI
   have HF:=Lib.hid (show ∀ w',Below w1.heap.size w1 w'->(Instr.field 205 (.agg #[.func (.func f) #[] caps,a,b,c,d]) 0).run Tryz.prog w'=.ok (.func (.func f) #[] caps) w' from fun w' _=>by simp [Instr.field,asAgg,go_sem])
   refine nP1 hS HF.out ?_
   refine nE fun K hK=>?_
   go_simp
   with_reducible refine hcall.mono ?_
   rintro e w3 ⟨rfl,hb4⟩
   refine held_go hK (by exact bon hS hb4) fun hS=>?_
   clear hK K
   try simp only [zp]
   iterate 3
    refine nP hS ?_
   refine plan_end ?_
   have hb5:=bon hb2.out hS
   cases I with
   | true=>
    go_wp2
    go_ret
    exact ⟨by first | (rw [HE.out];rfl) | rfl,hb5⟩
   | false=>
    go_wp2
    go_ret
    exact ⟨by first | (rw [HE.out];rfl) | rfl,hb5⟩
end Go.Proofs.YtjpjalmilfgckaaGreatDoor
namespace Go.Proofs.YtjpjalmilfgckaaGreatDoor
def takeT (most:Int) (b:List UInt8):Except Nat (ByteArray×Nat):=
 if (get b).2.2≠0 then .error (get b).2.2
 else if most<0\/most<((get b).1:Int) then .error 5
 else if b.length-(get b).2.1<(get b).1 then .error 3
 else .ok (txt ((b.drop (get b).2.1).take (get b).1),(get b).2.1+(get b).1)
theorem takeTexts_succ (most:Int) (k:Nat) (b:List UInt8) (d:List ByteArray):takeTexts most (k+1) b d=match takeT most b with
  | .error e=>.error e
  | .ok (s,n)=>if (placeL d s).isSome then .error 150 else takeTexts most k (b.drop n) (d++[s]):=by
 rw [takeTexts]
 unfold takeT
 by_cases h1:(get b).2.2≠0
 ·rw [if_pos h1,if_pos h1]
 rw [if_neg h1,if_neg h1]
 by_cases h2:most<0\/most<((get b).1:Int)
 ·rw [if_pos h2,if_pos h2]
 rw [if_neg h2,if_neg h2,List.length_drop]
 by_cases h3:b.length-(get b).2.1<(get b).1
 ·rw [if_pos h3,if_pos h3]
 rw [if_neg h3,if_neg h3]
 simp only [List.drop_drop]
def dictL (xs:List UInt8) (n:Nat) (most:Int):Except Nat (List ByteArray×List UInt8):=
 if (get xs).2.2≠0 then .error (get xs).2.2
 else if n<(get xs).1 then .error 5
 else takeTexts most (get xs).1 (xs.drop (get xs).2.1) []
def getN (xs:List UInt8) (n:Nat) (most:Int):Except Nat (List ByteArray×Nat):=
 match dictL xs n most with
 | .error e=>.error e
 | .ok (d,r)=>match takeNums d.length n r 0 [] with
  | .error e=>.error e
  | .ok (u,ns,q)=>if u<d.length then .error 150 else .ok (ns.filterMap (d[·]?),xs.length-q.length)
def getDI (xs:List UInt8) (n most:Int):Except Nat (List ByteArray×Nat):=
 if n<0\/1048576<n then .error 6 else getN xs n.toNat most
end Go.Proofs.YtjpjalmilfgckaaGreatDoor
