/- Part 3 of the walks. Conditions: each lemma states its own. -/
import Derived.Test.YtjpjalmilfgckaaGreatDoorZz2
import Derived.Laws.CopyOwn
import Derived.Laws.BitsLemmas
import Derived.RegionTactic
import Derived.WalkMore
import Derived.Lib.SlicesS
import Derived.Maps.OwnSet
import Derived.Maps.OwnOps
import Derived.StringKeys
set_option maxRecDepth 100000
set_option maxHeartbeats 4000000
set_option linter.unusedVariables false
set_option linter.unusedSimpArgs false
namespace Go.Proofs.YtjpjalmilfgckaaGreatDoor
section
open Go.RowKit
def IsF (k:Int) (w:World) (F:Value):Prop:=
 (k = 1 ∧ PlainF w F 0 1) ∨ (k = 2 ∧ PlainF w F (-2147483648) 2147483647) ∨ (k = 3 ∧ PlainF w F (-9223372036854775808) 9223372036854775807) ∨
  (k=4/\∃ p:Nat,F=.func (.func 211) #[] #[.pointer (some ⟨p,0,none⟩)]/\p<w.heap.size/\w.cell? ⟨p,0,none⟩=some (.func (.func 201) #[] #[])) \/
  (k=5/\F=.func (.func 201) #[] #[])
theorem IsF.on {k:Int} {w w':World} {F:Value} (h:IsF k w F) (hb:Below w.heap.size w w'):IsF k w' F:=by
 rcases h with ⟨rfl,h⟩ | ⟨rfl,h⟩ | ⟨rfl,h⟩ | ⟨rfl,p,h1,h2,h3⟩ | ⟨rfl,h⟩
 ·exact .inl ⟨rfl,h.on hb⟩
 ·exact .inr (.inl ⟨rfl,h.on hb⟩)
 ·exact .inr (.inr (.inl ⟨rfl,h.on hb⟩))
 ·exact .inr (.inr (.inr (.inl ⟨rfl,p,h1,Nat.lt_of_lt_of_le h2 hb.size,(hb.cell (p:=⟨p,0,none⟩) h2).trans h3⟩)))
 exact .inr (.inr (.inr (.inr ⟨rfl,h⟩)))
abbrev kz:Array Value:=#[.nilFunc,.nilFunc,.nilFunc,.nilFunc,.nilFunc,.nilFunc,.nilFunc,.nilFunc,.nilFunc,.nilFunc,.nilFunc,.nilFunc,.nilFunc,.nilFunc,.nilFunc,.nilFunc,.nilFunc,.nilFunc,.nilFunc,.nilFunc,.nilFunc,.nilFunc,.nilFunc,.nilFunc,.nilFunc,.nilFunc,.nilFunc,.nilFunc,.nilFunc,.nilFunc]
abbrev fnV (f:Nat):Value:=.func (.func f) #[] #[]
theorem Blk.row {w:World} {g:Nat} {t:TypeId} {old cs:Array Value} (h:Blk w g t old):Blk (w.setRow g cs) g t cs:=setRow_heap w g old cs t (0,0) h
theorem Blk.new' (w:World) (t:TypeId) (cs:Array Value) (g:Nat) (hg:g=w.heap.size):Blk (w.alloc (.cells cs t)) g t cs:=by
 subst hg;exact Blk.new w t cs
theorem afw {P:Program} (w:World) (t:TypeId) (old v:Value) (g:Nat) (hv:v.oneCell'=true) (hg:g=w.heap.size):(store ⟨g,0,none⟩ v).run P (w.alloc (.cells #[old] t))=.ok () ((w.alloc (.cells #[old] t)).setCell ⟨g,0,none⟩ v):=by
 have h:=Blk.new' w t #[old] g hg;rw [run_store _ _ _ _ _ hv,h.cell 0,h.frozen 0];rfl
theorem PlainF.row {w:World} {F:Value} {a b:Int} {g:Nat} {t:TypeId} {old cs:Array Value} (h:PlainF w F a b) (hT:Blk w g t old) (h0:old[0]? = some .nilFunc):PlainF (w.setRow g cs) F a b:=by
 obtain ⟨p,q,h1,h2,h3,h4,h5⟩:=h;have hg:=hT.cell 0;rw [h0] at hg;have hp:p≠g:=by
  rintro rfl;rw [h4] at hg;cases hg
 have hq:q≠g:=by
  rintro rfl;rw [h5] at hg;cases hg
 exact ⟨p,q,h1,by simpa using h2,by simpa using h3,(cell_setRow_other w g cs ⟨p,0,none⟩ hp).trans h4,(cell_setRow_other w g cs ⟨q,0,none⟩ hq).trans h5⟩
theorem yR {w:World} {g:Nat} {t:TypeId} {cs:Array Value} {a b c d e:Value} (h:Blk w g t cs) (i j1 j2 j3 j4:Nat) (hj:j1=i+1/\j2=i+2/\j3=i+3/\j4=i+4:=by decide) {r:List Value} (hl:cs.toList.drop i=a::b::c::d::e::r) :
  w.cell? ⟨g,i,none⟩=some a/\w.cell? ⟨g,j1,none⟩=some b/\w.cell? ⟨g,j2,none⟩=some c/\w.cell? ⟨g,j3,none⟩=some d/\w.cell? ⟨g,j4,none⟩=some e:=by
 obtain ⟨rfl,rfl,rfl,rfl⟩:=hj;have key:∀ k,cs[i+k]? = (cs.toList.drop i)[k]? := fun k=>by rw [List.getElem?_drop,Array.getElem?_toList]
 refine ⟨(h.cell i).trans ?_,(h.cell _).trans ?_,(h.cell _).trans ?_,(h.cell _).trans ?_,(h.cell _).trans ?_⟩
 ·have:=key 0;rw [hl] at this;exact this
 all_goals (rw [key,hl];rfl)
theorem zC {P:Program} {w:World} {g:Nat} {t:TypeId} {a0 a1 a2 a3 a4:Value} (C:Blk w g t #[.nilFunc,.nilFunc,.nilFunc,.nilFunc,.nilFunc]) (h0:a0.oneCell'=true) (h1:a1.oneCell'=true) (h2:a2.oneCell'=true) (h3:a3.oneCell'=true) (h4:a4.oneCell'=true) :
  ∃ w5,(((store ⟨g,0,none⟩ a0).run P w).andThen fun _ w'=>((store ⟨g,1,none⟩ a1).run P w').andThen fun _ w'=>((store ⟨g,2,none⟩ a2).run P w').andThen fun _ w'=>((store ⟨g,3,none⟩ a3).run P w').andThen fun _ w'=>(store ⟨g,4,none⟩ a4).run P w')=.ok () w5/\Blk w5 g t #[a0,a1,a2,a3,a4]/\Below g w w5/\w5.heap.size=w.heap.size/\∀ b:Nat,b≠g->w5.cell? ⟨b,0,none⟩=w.cell? ⟨b,0,none⟩:=by
 have st:∀ {w1:World} {cs:Array Value} (i:Nat) (v:Value),Blk w1 g t cs->v.oneCell'=true->i<cs.size->(store ⟨g,i,none⟩ v).run P w1=.ok () (w1.setCell ⟨g,i,none⟩ v):=by
  intro w1 cs i v hB hv hi;rw [run_store _ _ _ _ _ hv,hB.cell i,hB.frozen i,Array.getElem?_eq_getElem hi];rfl
 have hg:=Nat.le_refl g;have C1:=C.set_ 0 a0;have C2:=C1.set_ 1 a1;have C3:=C2.set_ 2 a2;have C4:=C3.set_ 3 a3;have C5:=C4.set_ 4 a4;refine ⟨_,?_,C5,?_,by simp,fun b hb=>?_⟩
 ·rw [st 0 a0 C h0 (by decide),Result.andThen_ok,st 1 a1 C1 h1 (by simp),Result.andThen_ok,st 2 a2 C2 h2 (by simp),Result.andThen_ok,st 3 a3 C3 h3 (by simp),Result.andThen_ok,st 4 a4 C4 h4 (by simp)]
 ·exact (((((Below.refl _ _).setCell (p:=⟨g,0,none⟩) hg _).setCell (p:=⟨g,1,none⟩) hg _).setCell (p:=⟨g,2,none⟩) hg _).setCell (p:=⟨g,3,none⟩) hg _).setCell (p:=⟨g,4,none⟩) hg _
 have ho:∀ (w1:World) (i:Nat) (v:Value),(w1.setCell ⟨g,i,none⟩ v).cell? ⟨b,0,none⟩=w1.cell? ⟨b,0,none⟩:=fun w1 i v=>World.cell?_setCell_other w1 _ _ v (by intro h;injection h with h1 h2 h3;exact hb h1.symm);rw [ho,ho,ho,ho,ho]
theorem PlainF.five {w w5:World} {F:Value} {a b:Int} {g:Nat} {t:TypeId} {a1 a2 a3 a4:Value} (h:PlainF w F a b) (C:Blk w g t #[.nilFunc,a1,a2,a3,a4]) (hs:w5.heap.size=w.heap.size) (hc:∀ b:Nat,b≠g->w5.cell? ⟨b,0,none⟩=w.cell? ⟨b,0,none⟩):PlainF w5 F a b:=by
 obtain ⟨p,q,h1,h2,h3,h4,h5⟩:=h;have hg:w.cell? ⟨g,0,none⟩=some .nilFunc:=C.cell 0;have hp:p≠g:=by
  rintro rfl;rw [h4] at hg;cases hg
 have hq:q≠g:=by
  rintro rfl;rw [h5] at hg;cases hg
 exact ⟨p,q,h1,by omega,by omega,(hc p hp).trans h4,(hc q hq).trans h5⟩
theorem Jt {n:Nat} {W4 W:World} (hS:Below n W4 W):W=W:=rfl
theorem Vr {n:Nat} {W4 w:World} {g:Nat} {t:TypeId} {old cs:Array Value} {F1 F2 F3:Value} {a1 b1 a2 b2 a3 b3:Int} (hS:Below n W4 (w.setRow g cs)) (h1:PlainF w F1 a1 b1) (h2:PlainF w F2 a2 b2) (h3:PlainF w F3 a3 b3) (hT:Blk w g t old) (h0:old[0]? = some .nilFunc):PlainF (w.setRow g cs) F1 a1 b1/\PlainF (w.setRow g cs) F2 a2 b2/\PlainF (w.setRow g cs) F3 a3 b3/\Blk (w.setRow g cs) g t cs:=
 ⟨h1.row hT h0,h2.row hT h0,h3.row hT h0,hT.row⟩
theorem ajP (k:Int) (nl:Bool) (w:World) (h1:1<=k) (h5:k<=5):Calls Tryz.prog 161 #[.agg #[.int .i64 k,.bool nl]] w fun e w'=>∃ F a b c d,e=.returned (.agg #[F,a,b,c,d])/\IsF k w' F/\Below w.heap.size w w':=by
 have hst:=afw (P:=Tryz.prog) ((w.alloc (.cells #[.int .i64 k,.bool nl] 43)).alloc (.cells #[.nilFunc,.nilFunc,.nilFunc,.nilFunc,.nilFunc] 205)) 147 .nilFunc (fnV 201) (w.heap.size+1+1) rfl (by simp);obtain ⟨W4,hW4⟩:∃ W4,W4=((w.alloc (.cells #[.int .i64 k,.bool nl] 43)).alloc (.cells #[.nilFunc,.nilFunc,.nilFunc,.nilFunc,.nilFunc] 205)).alloc (.cells #[fnV 201] 147):=⟨_,rfl⟩;have HW4:=za hW4;have B4:=za (show Blk W4 (w.heap.size+1+1) 147 #[fnV 201] by rw [hW4];exact Blk.new' _ _ _ _ (by simp));have B2:=za (show Blk W4 (w.heap.size+1) 205 #[.nilFunc,.nilFunc,.nilFunc,.nilFunc,.nilFunc] by rw [hW4];exact (Blk.new' _ _ _ _ (by simp)).alloc _);have B1:=za (show Blk W4 w.heap.size 43 #[.int .i64 k,.bool nl] by rw [hW4];exact ((Blk.new w _ _).alloc _).alloc _);have HB:=za (show Below w.heap.size w W4 by rw [hW4];exact (((Below.refl _ _).alloc (Nat.le_refl _) _).alloc (by simp) _).alloc (by simp;omega) _);have Hsz4:=za (show W4.heap.size=w.heap.size+3 by rw [hW4];simp);clear hW4;go_enter Tryz.func161,Tryz.ntmps161;go_wp2;rw [<-HW4.out];clear HW4 hst;have H4:=za (show ak1 W4 ⟨w.heap.size+1+1,0,none⟩ (fnV 201) from fun w' h=>(h.cell (p:=⟨w.heap.size+1+1,0,none⟩) B4.out.lt).trans (B4.out.cell 0));have hS:=ak2 W4;refine nR (fun w'=>Below W4.heap.size W4 w') (.pure 0 (.pure 3 (.pure 6 (.pure 9 (.pure 10 (.pure 11 (.pure 12 (.fork 1 14 (.pure 2 (.fork 4 14 (.pure 5 (.fork 7 14 (.pure 8 (.pure 13 (.eff 14 (.eff 15 .done)))) (.eff 7 (.pure 8 (.pure 13 (.eff 15 .done)))))) (.eff 4 (.pure 5 (.eff 7 (.pure 8 (.pure 13 (.eff 15 .done)))))))) (.eff 1 (.pure 2 (.eff 4 (.pure 5 (.eff 7 (.pure 8 (.pure 13 (.eff 15 .done)))))))))))))))) ?_;iterate 5 refine nP hS ?_
 refine nP1 hS H4.out ?_;refine nP hS ?_;refine zS ?_ ?_
 ·refine nE fun K hK=>?_;go_simp;with_reducible refine (ZP 0 1 _).mono ?_
  rintro e w5 ⟨_,rfl,⟨p1,q1,rfl,lp1,lq1,cp1,cq1⟩,hb1⟩;have hF1:=za (show PlainF w5 _ 0 1 from ⟨p1,q1,rfl,lp1,lq1,cp1,cq1⟩);clear lp1 lq1 cp1 cq1;refine hG hK (by exact bon hS hb1) fun hS=>?_;clear hK K;refine nP hS ?_;refine zS ?_ ?_
  ·refine nE fun K hK=>?_;go_simp;(with_reducible refine (ZP (-2147483648) 2147483647 _).mono ?_);rintro e w6 ⟨_,rfl,⟨p2,q2,rfl,lp2,lq2,cp2,cq2⟩,hb2⟩;have hF2:=za (show PlainF w6 _ (-2147483648) 2147483647 from ⟨p2,q2,rfl,lp2,lq2,cp2,cq2⟩);clear lp2 lq2 cp2 cq2;refine hG hK (by exact bon hS hb2) fun hS=>?_;clear hK K;refine nP hS ?_;refine zS ?_ ?_
   ·refine nE fun K hK=>?_;go_simp;(with_reducible refine (ZP (-9223372036854775808) 9223372036854775807 _).mono ?_);rintro e w7 ⟨_,rfl,⟨p3,q3,rfl,lp3,lq3,cp3,cq3⟩,hb3⟩;have hF3:=za (show PlainF w7 _ (-9223372036854775808) 9223372036854775807 from ⟨p3,q3,rfl,lp3,lq3,cp3,cq3⟩);clear lp3 lq3 cp3 cq3;refine hG hK (by exact bon hS hb3) fun hS=>?_;clear hK K;(iterate 2 refine nP hS ?_);have hT:=za (Blk.new' w7 247 kz _ rfl);have hTg:W4.heap.size<=w7.heap.size:=hS.size;refine nE fun K hK=>?_;go_simp;refine hG hK (by exact bal hS _) fun hS=>?_;clear hK K;replace hF1:=za (((hF1.out.on hb2).on hb3).on (bal (Below.refl _ _) (.cells kz 247)));replace hF2:=za ((hF2.out.on hb3).on (bal (Below.refl _ _) (.cells kz 247)));replace hF3:=za (hF3.out.on (bal (Below.refl _ _) (.cells kz 247)));refine nE fun K hK=>?_;refine wp_store_row 247 (.tmp 5) (.tmp 19) rfl _ _ rfl rfl _ _ hT.out (by kernel_rfl) rfl (by simp [Value.oneCell']) ?_;refine hG hK (by exact below_setRow hS hTg _) fun hS=>?_;clear hK K;refine zv ?_;have hone:∀ f a b,(Value.func f a b).oneCell'=true:=fun _ _ _=>rfl;obtain ⟨P1,P2,P3,T8⟩:=Vr hS hF1.out hF2.out hF3.out hT.out rfl;have Q1:=za P1;have Q2:=za P2;have Q3:=za P3;have hS2:=za hS;clear P1 P2 P3 hS;have C1:=(B1.out.on hS2.out).cell 0;have C2:=za (B2.out.on hS2.out);obtain ⟨WL,hWL⟩:∃ WL,WL=_:=⟨_,(Jt hS2.out)⟩;rw [<-hWL] at hS2 Q1 Q2 Q3 T8 C1 C2 ⊢;clear hWL;rcases (show k=1\/k=2\/k=3\/k=4\/k=5 by omega) with rfl | rfl | rfl | rfl | rfl
    ·obtain ⟨c0,c1,c2,c3,c4⟩:=yR T8 5 6 7 8 9 (by decide) rfl;clear T8;go_wp2;obtain ⟨w9,he,hD,hbD,hsD,hcD⟩:=zC (P:=Tryz.prog) C2.out (hone _ _ _) (hone _ _ _) (hone _ _ _) (hone _ _ _) (hone _ _ _);rw [he];go_wp2;have hb8:=bon HB.out hS2.out;refine bodyPost_ret (results_cell_row rfl _ _ _ _ _ _ _ rfl hD rfl rfl (by kernel_rfl)) rfl ⟨_,_,_,_,_,rfl,?_,?_⟩
     ·exact .inl ⟨rfl,Q1.out.five C2.out hsD hcD⟩
     exact hb8.trans (hbD.mono (Nat.le_succ _))
    ·obtain ⟨c0,c1,c2,c3,c4⟩:=yR T8 10 11 12 13 14 (by decide) rfl;clear T8;go_wp2;obtain ⟨w9,he,hD,hbD,hsD,hcD⟩:=zC (P:=Tryz.prog) C2.out (hone _ _ _) (hone _ _ _) (hone _ _ _) (hone _ _ _) (hone _ _ _);rw [he];go_wp2;have hb8:=bon HB.out hS2.out;refine bodyPost_ret (results_cell_row rfl _ _ _ _ _ _ _ rfl hD rfl rfl (by kernel_rfl)) rfl ⟨_,_,_,_,_,rfl,?_,?_⟩
     ·exact .inr (.inl ⟨rfl,Q2.out.five C2.out hsD hcD⟩)
     exact hb8.trans (hbD.mono (Nat.le_succ _))
    ·obtain ⟨c0,c1,c2,c3,c4⟩:=yR T8 15 16 17 18 19 (by decide) rfl;clear T8;go_wp2;obtain ⟨w9,he,hD,hbD,hsD,hcD⟩:=zC (P:=Tryz.prog) C2.out (hone _ _ _) (hone _ _ _) (hone _ _ _) (hone _ _ _) (hone _ _ _);rw [he];go_wp2;have hb8:=bon HB.out hS2.out;refine bodyPost_ret (results_cell_row rfl _ _ _ _ _ _ _ rfl hD rfl rfl (by kernel_rfl)) rfl ⟨_,_,_,_,_,rfl,?_,?_⟩
     ·exact .inr (.inr (.inl ⟨rfl,Q3.out.five C2.out hsD hcD⟩))
     exact hb8.trans (hbD.mono (Nat.le_succ _))
    ·obtain ⟨c0,c1,c2,c3,c4⟩:=yR T8 20 21 22 23 24 (by decide) rfl;clear T8;go_wp2;obtain ⟨w9,he,hD,hbD,hsD,hcD⟩:=zC (P:=Tryz.prog) C2.out (hone _ _ _) (hone _ _ _) (hone _ _ _) (hone _ _ _) (hone _ _ _);rw [he];go_wp2;have hb8:=bon HB.out hS2.out;refine bodyPost_ret (results_cell_row rfl _ _ _ _ _ _ _ rfl hD rfl rfl (by kernel_rfl)) rfl ⟨_,_,_,_,_,rfl,?_,?_⟩
     ·exact .inr (.inr (.inr (.inl ⟨rfl,_,rfl,by have:=hS2.out.size;have:=Hsz4.out;omega,(hcD _ (by omega)).trans (H4.out _ hS2.out)⟩)))
     exact hb8.trans (hbD.mono (Nat.le_succ _))
    obtain ⟨c0,c1,c2,c3,c4⟩:=yR T8 25 26 27 28 29 (by decide) rfl;clear T8;go_wp2;obtain ⟨w9,he,hD,hbD,hsD,hcD⟩:=zC (P:=Tryz.prog) C2.out (hone _ _ _) (hone _ _ _) (hone _ _ _) (hone _ _ _) (hone _ _ _);rw [he];go_wp2;have hb8:=bon HB.out hS2.out;refine bodyPost_ret (results_cell_row rfl _ _ _ _ _ _ _ rfl hD rfl rfl (by kernel_rfl)) rfl ⟨_,_,_,_,_,rfl,?_,?_⟩
    ·exact .inr (.inr (.inr (.inr ⟨rfl,rfl⟩)))
    exact hb8.trans (hbD.mono (Nat.le_succ _))
   have hT:=za (Blk.new' w6 247 kz _ rfl);have hTg:W4.heap.size<=w6.heap.size:=hS.size;refine nE fun K hK=>?_;go_simp;refine hG hK (by exact bal hS _) fun hS=>?_;clear hK K;refine nE fun K hK=>?_;go_simp;(with_reducible refine (ZP (-9223372036854775808) 9223372036854775807 _).mono ?_);rintro e w7 ⟨_,rfl,⟨p3,q3,rfl,lp3,lq3,cp3,cq3⟩,hb3⟩;have hF3:=za (show PlainF w7 _ (-9223372036854775808) 9223372036854775807 from ⟨p3,q3,rfl,lp3,lq3,cp3,cq3⟩);clear lp3 lq3 cp3 cq3;refine hG hK (by exact bon hS hb3) fun hS=>?_;clear hK K;(iterate 2 refine nP hS ?_);replace hT:=za (hT.out.on hb3);replace hF1:=za (((hF1.out.on hb2).on (bal (Below.refl _ _) (.cells kz 247))).on hb3);replace hF2:=za ((hF2.out.on (bal (Below.refl _ _) (.cells kz 247))).on hb3);refine nE fun K hK=>?_;refine wp_store_row 247 (.tmp 5) (.tmp 19) rfl _ _ rfl rfl _ _ hT.out (by kernel_rfl) rfl (by simp [Value.oneCell']) ?_;refine hG hK (by exact below_setRow hS hTg _) fun hS=>?_;clear hK K;refine zv ?_;have hone:∀ f a b,(Value.func f a b).oneCell'=true:=fun _ _ _=>rfl;obtain ⟨P1,P2,P3,T8⟩:=Vr hS hF1.out hF2.out hF3.out hT.out rfl;have Q1:=za P1;have Q2:=za P2;have Q3:=za P3;have hS2:=za hS;clear P1 P2 P3 hS;have C1:=(B1.out.on hS2.out).cell 0;have C2:=za (B2.out.on hS2.out);obtain ⟨WL,hWL⟩:∃ WL,WL=_:=⟨_,(Jt hS2.out)⟩;rw [<-hWL] at hS2 Q1 Q2 Q3 T8 C1 C2 ⊢;clear hWL;rcases (show k=1\/k=2\/k=3\/k=4\/k=5 by omega) with rfl | rfl | rfl | rfl | rfl
   ·obtain ⟨c0,c1,c2,c3,c4⟩:=yR T8 5 6 7 8 9 (by decide) rfl;clear T8;go_wp2;obtain ⟨w9,he,hD,hbD,hsD,hcD⟩:=zC (P:=Tryz.prog) C2.out (hone _ _ _) (hone _ _ _) (hone _ _ _) (hone _ _ _) (hone _ _ _);rw [he];go_wp2;have hb8:=bon HB.out hS2.out;refine bodyPost_ret (results_cell_row rfl _ _ _ _ _ _ _ rfl hD rfl rfl (by kernel_rfl)) rfl ⟨_,_,_,_,_,rfl,?_,?_⟩
    ·exact .inl ⟨rfl,Q1.out.five C2.out hsD hcD⟩
    exact hb8.trans (hbD.mono (Nat.le_succ _))
   ·obtain ⟨c0,c1,c2,c3,c4⟩:=yR T8 10 11 12 13 14 (by decide) rfl;clear T8;go_wp2;obtain ⟨w9,he,hD,hbD,hsD,hcD⟩:=zC (P:=Tryz.prog) C2.out (hone _ _ _) (hone _ _ _) (hone _ _ _) (hone _ _ _) (hone _ _ _);rw [he];go_wp2;have hb8:=bon HB.out hS2.out;refine bodyPost_ret (results_cell_row rfl _ _ _ _ _ _ _ rfl hD rfl rfl (by kernel_rfl)) rfl ⟨_,_,_,_,_,rfl,?_,?_⟩
    ·exact .inr (.inl ⟨rfl,Q2.out.five C2.out hsD hcD⟩)
    exact hb8.trans (hbD.mono (Nat.le_succ _))
   ·obtain ⟨c0,c1,c2,c3,c4⟩:=yR T8 15 16 17 18 19 (by decide) rfl;clear T8;go_wp2;obtain ⟨w9,he,hD,hbD,hsD,hcD⟩:=zC (P:=Tryz.prog) C2.out (hone _ _ _) (hone _ _ _) (hone _ _ _) (hone _ _ _) (hone _ _ _);rw [he];go_wp2;have hb8:=bon HB.out hS2.out;refine bodyPost_ret (results_cell_row rfl _ _ _ _ _ _ _ rfl hD rfl rfl (by kernel_rfl)) rfl ⟨_,_,_,_,_,rfl,?_,?_⟩
    ·exact .inr (.inr (.inl ⟨rfl,Q3.out.five C2.out hsD hcD⟩))
    exact hb8.trans (hbD.mono (Nat.le_succ _))
   ·obtain ⟨c0,c1,c2,c3,c4⟩:=yR T8 20 21 22 23 24 (by decide) rfl;clear T8;go_wp2;obtain ⟨w9,he,hD,hbD,hsD,hcD⟩:=zC (P:=Tryz.prog) C2.out (hone _ _ _) (hone _ _ _) (hone _ _ _) (hone _ _ _) (hone _ _ _);rw [he];go_wp2;have hb8:=bon HB.out hS2.out;refine bodyPost_ret (results_cell_row rfl _ _ _ _ _ _ _ rfl hD rfl rfl (by kernel_rfl)) rfl ⟨_,_,_,_,_,rfl,?_,?_⟩
    ·exact .inr (.inr (.inr (.inl ⟨rfl,_,rfl,by have:=hS2.out.size;have:=Hsz4.out;omega,(hcD _ (by omega)).trans (H4.out _ hS2.out)⟩)))
    exact hb8.trans (hbD.mono (Nat.le_succ _))
   obtain ⟨c0,c1,c2,c3,c4⟩:=yR T8 25 26 27 28 29 (by decide) rfl;clear T8;go_wp2;obtain ⟨w9,he,hD,hbD,hsD,hcD⟩:=zC (P:=Tryz.prog) C2.out (hone _ _ _) (hone _ _ _) (hone _ _ _) (hone _ _ _) (hone _ _ _);rw [he];go_wp2;have hb8:=bon HB.out hS2.out;refine bodyPost_ret (results_cell_row rfl _ _ _ _ _ _ _ rfl hD rfl rfl (by kernel_rfl)) rfl ⟨_,_,_,_,_,rfl,?_,?_⟩
   ·exact .inr (.inr (.inr (.inr ⟨rfl,rfl⟩)))
   exact hb8.trans (hbD.mono (Nat.le_succ _))
  have hT:=za (Blk.new' w5 247 kz _ rfl);have hTg:W4.heap.size<=w5.heap.size:=hS.size;refine nE fun K hK=>?_;go_simp;refine hG hK (by exact bal hS _) fun hS=>?_;clear hK K;refine nE fun K hK=>?_;go_simp;with_reducible refine (ZP (-2147483648) 2147483647 _).mono ?_
  rintro e w6 ⟨_,rfl,⟨p2,q2,rfl,lp2,lq2,cp2,cq2⟩,hb2⟩;have hF2:=za (show PlainF w6 _ (-2147483648) 2147483647 from ⟨p2,q2,rfl,lp2,lq2,cp2,cq2⟩);clear lp2 lq2 cp2 cq2;refine hG hK (by exact bon hS hb2) fun hS=>?_;clear hK K;refine nP hS ?_;refine nE fun K hK=>?_;go_simp;with_reducible refine (ZP (-9223372036854775808) 9223372036854775807 _).mono ?_
  rintro e w7 ⟨_,rfl,⟨p3,q3,rfl,lp3,lq3,cp3,cq3⟩,hb3⟩;have hF3:=za (show PlainF w7 _ (-9223372036854775808) 9223372036854775807 from ⟨p3,q3,rfl,lp3,lq3,cp3,cq3⟩);clear lp3 lq3 cp3 cq3;refine hG hK (by exact bon hS hb3) fun hS=>?_;clear hK K;iterate 2 refine nP hS ?_
  replace hT:=za ((hT.out.on hb2).on hb3);replace hF1:=za (((hF1.out.on (bal (Below.refl _ _) (.cells kz 247))).on hb2).on hb3);replace hF2:=za (hF2.out.on hb3);refine nE fun K hK=>?_;refine wp_store_row 247 (.tmp 5) (.tmp 19) rfl _ _ rfl rfl _ _ hT.out (by kernel_rfl) rfl (by simp [Value.oneCell']) ?_;refine hG hK (by exact below_setRow hS hTg _) fun hS=>?_;clear hK K;refine zv ?_;have hone:∀ f a b,(Value.func f a b).oneCell'=true:=fun _ _ _=>rfl;obtain ⟨P1,P2,P3,T8⟩:=Vr hS hF1.out hF2.out hF3.out hT.out rfl;have Q1:=za P1;have Q2:=za P2;have Q3:=za P3;have hS2:=za hS;clear P1 P2 P3 hS;have C1:=(B1.out.on hS2.out).cell 0;have C2:=za (B2.out.on hS2.out);obtain ⟨WL,hWL⟩:∃ WL,WL=_:=⟨_,(Jt hS2.out)⟩;rw [<-hWL] at hS2 Q1 Q2 Q3 T8 C1 C2 ⊢;clear hWL;rcases (show k=1\/k=2\/k=3\/k=4\/k=5 by omega) with rfl | rfl | rfl | rfl | rfl
  ·obtain ⟨c0,c1,c2,c3,c4⟩:=yR T8 5 6 7 8 9 (by decide) rfl;clear T8;go_wp2;obtain ⟨w9,he,hD,hbD,hsD,hcD⟩:=zC (P:=Tryz.prog) C2.out (hone _ _ _) (hone _ _ _) (hone _ _ _) (hone _ _ _) (hone _ _ _);rw [he];go_wp2;have hb8:=bon HB.out hS2.out;refine bodyPost_ret (results_cell_row rfl _ _ _ _ _ _ _ rfl hD rfl rfl (by kernel_rfl)) rfl ⟨_,_,_,_,_,rfl,?_,?_⟩
   ·exact .inl ⟨rfl,Q1.out.five C2.out hsD hcD⟩
   exact hb8.trans (hbD.mono (Nat.le_succ _))
  ·obtain ⟨c0,c1,c2,c3,c4⟩:=yR T8 10 11 12 13 14 (by decide) rfl;clear T8;go_wp2;obtain ⟨w9,he,hD,hbD,hsD,hcD⟩:=zC (P:=Tryz.prog) C2.out (hone _ _ _) (hone _ _ _) (hone _ _ _) (hone _ _ _) (hone _ _ _);rw [he];go_wp2;have hb8:=bon HB.out hS2.out;refine bodyPost_ret (results_cell_row rfl _ _ _ _ _ _ _ rfl hD rfl rfl (by kernel_rfl)) rfl ⟨_,_,_,_,_,rfl,?_,?_⟩
   ·exact .inr (.inl ⟨rfl,Q2.out.five C2.out hsD hcD⟩)
   exact hb8.trans (hbD.mono (Nat.le_succ _))
  ·obtain ⟨c0,c1,c2,c3,c4⟩:=yR T8 15 16 17 18 19 (by decide) rfl;clear T8;go_wp2;obtain ⟨w9,he,hD,hbD,hsD,hcD⟩:=zC (P:=Tryz.prog) C2.out (hone _ _ _) (hone _ _ _) (hone _ _ _) (hone _ _ _) (hone _ _ _);rw [he];go_wp2;have hb8:=bon HB.out hS2.out;refine bodyPost_ret (results_cell_row rfl _ _ _ _ _ _ _ rfl hD rfl rfl (by kernel_rfl)) rfl ⟨_,_,_,_,_,rfl,?_,?_⟩
   ·exact .inr (.inr (.inl ⟨rfl,Q3.out.five C2.out hsD hcD⟩))
   exact hb8.trans (hbD.mono (Nat.le_succ _))
  ·obtain ⟨c0,c1,c2,c3,c4⟩:=yR T8 20 21 22 23 24 (by decide) rfl;clear T8;go_wp2;obtain ⟨w9,he,hD,hbD,hsD,hcD⟩:=zC (P:=Tryz.prog) C2.out (hone _ _ _) (hone _ _ _) (hone _ _ _) (hone _ _ _) (hone _ _ _);rw [he];go_wp2;have hb8:=bon HB.out hS2.out;refine bodyPost_ret (results_cell_row rfl _ _ _ _ _ _ _ rfl hD rfl rfl (by kernel_rfl)) rfl ⟨_,_,_,_,_,rfl,?_,?_⟩
   ·exact .inr (.inr (.inr (.inl ⟨rfl,_,rfl,by have:=hS2.out.size;have:=Hsz4.out;omega,(hcD _ (by omega)).trans (H4.out _ hS2.out)⟩)))
   exact hb8.trans (hbD.mono (Nat.le_succ _))
  obtain ⟨c0,c1,c2,c3,c4⟩:=yR T8 25 26 27 28 29 (by decide) rfl;clear T8;go_wp2;obtain ⟨w9,he,hD,hbD,hsD,hcD⟩:=zC (P:=Tryz.prog) C2.out (hone _ _ _) (hone _ _ _) (hone _ _ _) (hone _ _ _) (hone _ _ _);rw [he];go_wp2;have hb8:=bon HB.out hS2.out;refine bodyPost_ret (results_cell_row rfl _ _ _ _ _ _ _ rfl hD rfl rfl (by kernel_rfl)) rfl ⟨_,_,_,_,_,rfl,?_,?_⟩
  ·exact .inr (.inr (.inr (.inr ⟨rfl,rfl⟩)))
  exact hb8.trans (hbD.mono (Nat.le_succ _))
 have hT:=za (Blk.new' W4.drew 247 kz _ rfl);have hTg:W4.heap.size<=W4.drew.heap.size:=hS.size;refine nE fun K hK=>?_;go_simp;refine hG hK (by exact bal hS _) fun hS=>?_;clear hK K;refine nE fun K hK=>?_;go_simp;with_reducible refine (ZP 0 1 _).mono ?_
 rintro e w5 ⟨_,rfl,⟨p1,q1,rfl,lp1,lq1,cp1,cq1⟩,hb1⟩;have hF1:=za (show PlainF w5 _ 0 1 from ⟨p1,q1,rfl,lp1,lq1,cp1,cq1⟩);clear lp1 lq1 cp1 cq1;refine hG hK (by exact bon hS hb1) fun hS=>?_;clear hK K;refine nP hS ?_;refine nE fun K hK=>?_;go_simp;with_reducible refine (ZP (-2147483648) 2147483647 _).mono ?_
 rintro e w6 ⟨_,rfl,⟨p2,q2,rfl,lp2,lq2,cp2,cq2⟩,hb2⟩;have hF2:=za (show PlainF w6 _ (-2147483648) 2147483647 from ⟨p2,q2,rfl,lp2,lq2,cp2,cq2⟩);clear lp2 lq2 cp2 cq2;refine hG hK (by exact bon hS hb2) fun hS=>?_;clear hK K;refine nP hS ?_;refine nE fun K hK=>?_;go_simp;with_reducible refine (ZP (-9223372036854775808) 9223372036854775807 _).mono ?_
 rintro e w7 ⟨_,rfl,⟨p3,q3,rfl,lp3,lq3,cp3,cq3⟩,hb3⟩;have hF3:=za (show PlainF w7 _ (-9223372036854775808) 9223372036854775807 from ⟨p3,q3,rfl,lp3,lq3,cp3,cq3⟩);clear lp3 lq3 cp3 cq3;refine hG hK (by exact bon hS hb3) fun hS=>?_;clear hK K;iterate 2 refine nP hS ?_
 replace hT:=za (((hT.out.on hb1).on hb2).on hb3);replace hF1:=za ((hF1.out.on hb2).on hb3);replace hF2:=za (hF2.out.on hb3);refine nE fun K hK=>?_;refine wp_store_row 247 (.tmp 5) (.tmp 19) rfl _ _ rfl rfl _ _ hT.out (by kernel_rfl) rfl (by simp [Value.oneCell']) ?_;refine hG hK (by exact below_setRow hS hTg _) fun hS=>?_;clear hK K;refine zv ?_;have hone:∀ f a b,(Value.func f a b).oneCell'=true:=fun _ _ _=>rfl;obtain ⟨P1,P2,P3,T8⟩:=Vr hS hF1.out hF2.out hF3.out hT.out rfl;have Q1:=za P1;have Q2:=za P2;have Q3:=za P3;have hS2:=za hS;clear P1 P2 P3 hS;have C1:=(B1.out.on hS2.out).cell 0;have C2:=za (B2.out.on hS2.out);obtain ⟨WL,hWL⟩:∃ WL,WL=_:=⟨_,(Jt hS2.out)⟩;rw [<-hWL] at hS2 Q1 Q2 Q3 T8 C1 C2 ⊢;clear hWL;rcases (show k=1\/k=2\/k=3\/k=4\/k=5 by omega) with rfl | rfl | rfl | rfl | rfl
 ·obtain ⟨c0,c1,c2,c3,c4⟩:=yR T8 5 6 7 8 9 (by decide) rfl;clear T8;go_wp2;obtain ⟨w9,he,hD,hbD,hsD,hcD⟩:=zC (P:=Tryz.prog) C2.out (hone _ _ _) (hone _ _ _) (hone _ _ _) (hone _ _ _) (hone _ _ _);rw [he];go_wp2;have hb8:=bon HB.out hS2.out;refine bodyPost_ret (results_cell_row rfl _ _ _ _ _ _ _ rfl hD rfl rfl (by kernel_rfl)) rfl ⟨_,_,_,_,_,rfl,?_,?_⟩
  ·exact .inl ⟨rfl,Q1.out.five C2.out hsD hcD⟩
  exact hb8.trans (hbD.mono (Nat.le_succ _))
 ·obtain ⟨c0,c1,c2,c3,c4⟩:=yR T8 10 11 12 13 14 (by decide) rfl;clear T8;go_wp2;obtain ⟨w9,he,hD,hbD,hsD,hcD⟩:=zC (P:=Tryz.prog) C2.out (hone _ _ _) (hone _ _ _) (hone _ _ _) (hone _ _ _) (hone _ _ _);rw [he];go_wp2;have hb8:=bon HB.out hS2.out;refine bodyPost_ret (results_cell_row rfl _ _ _ _ _ _ _ rfl hD rfl rfl (by kernel_rfl)) rfl ⟨_,_,_,_,_,rfl,?_,?_⟩
  ·exact .inr (.inl ⟨rfl,Q2.out.five C2.out hsD hcD⟩)
  exact hb8.trans (hbD.mono (Nat.le_succ _))
 ·obtain ⟨c0,c1,c2,c3,c4⟩:=yR T8 15 16 17 18 19 (by decide) rfl;clear T8;go_wp2;obtain ⟨w9,he,hD,hbD,hsD,hcD⟩:=zC (P:=Tryz.prog) C2.out (hone _ _ _) (hone _ _ _) (hone _ _ _) (hone _ _ _) (hone _ _ _);rw [he];go_wp2;have hb8:=bon HB.out hS2.out;refine bodyPost_ret (results_cell_row rfl _ _ _ _ _ _ _ rfl hD rfl rfl (by kernel_rfl)) rfl ⟨_,_,_,_,_,rfl,?_,?_⟩
  ·exact .inr (.inr (.inl ⟨rfl,Q3.out.five C2.out hsD hcD⟩))
  exact hb8.trans (hbD.mono (Nat.le_succ _))
 ·obtain ⟨c0,c1,c2,c3,c4⟩:=yR T8 20 21 22 23 24 (by decide) rfl;clear T8;go_wp2;obtain ⟨w9,he,hD,hbD,hsD,hcD⟩:=zC (P:=Tryz.prog) C2.out (hone _ _ _) (hone _ _ _) (hone _ _ _) (hone _ _ _) (hone _ _ _);rw [he];go_wp2;have hb8:=bon HB.out hS2.out;refine bodyPost_ret (results_cell_row rfl _ _ _ _ _ _ _ rfl hD rfl rfl (by kernel_rfl)) rfl ⟨_,_,_,_,_,rfl,?_,?_⟩
  ·exact .inr (.inr (.inr (.inl ⟨rfl,_,rfl,by have:=hS2.out.size;have:=Hsz4.out;omega,(hcD _ (by omega)).trans (H4.out _ hS2.out)⟩)))
  exact hb8.trans (hbD.mono (Nat.le_succ _))
 obtain ⟨c0,c1,c2,c3,c4⟩:=yR T8 25 26 27 28 29 (by decide) rfl;clear T8;go_wp2;obtain ⟨w9,he,hD,hbD,hsD,hcD⟩:=zC (P:=Tryz.prog) C2.out (hone _ _ _) (hone _ _ _) (hone _ _ _) (hone _ _ _) (hone _ _ _);rw [he];go_wp2;have hb8:=bon HB.out hS2.out;refine bodyPost_ret (results_cell_row rfl _ _ _ _ _ _ _ rfl hD rfl rfl (by kernel_rfl)) rfl ⟨_,_,_,_,_,rfl,?_,?_⟩
 ·exact .inr (.inr (.inr (.inr ⟨rfl,rfl⟩)))
 exact hb8.trans (hbD.mono (Nat.le_succ _))
end
section
open Go.RowKit
def isC (k:Int) (c:Cl):Bool:=
 if k=1 then decide (c.2.2=⟨#[]⟩/\0<=c.2.1/\c.2.1<=1)
 else if k=2 then decide (c.2.2=⟨#[]⟩ /\ -2147483648<=c.2.1/\c.2.1<=2147483647)
 else if k=3 then decide (c.2.2=⟨#[]⟩ /\ -9223372036854775808<=c.2.1/\c.2.1<=9223372036854775807)
 else if k=4 then Zd c.2.1 c.2.2&&Lib.validD c.2.2.data.toList
 else Zd c.2.1 c.2.2
def zw (k:Int) (nl:Bool) (c:Cl):Int:=
 if yZ k then (if (if c.1 then nl&&decide (c.2.1=0/\c.2.2=⟨#[]⟩) else isC k c) then 0 else 90) else 2
theorem zm {P : Program} {f : FuncId} {fn : Func} (h : P.funcs[f]? = some fn) (hn : (fn.name == "runtime.NumGoroutine") = false) (hb : fn.body.isNone = false) (args : Array Value) (w : World) : (callFunc f args).run P w = .ok (.enter f args) w := by
 have h1 : fn.name ≠ "runtime.NumGoroutine" := by simpa using hn
 have h2:fn.body≠none:=by
  intro h;rw [h] at hb;cases hb
 simp [callFunc,h,h1,h2]
theorem IsF.calls {k:Int} {w:World} {F:Value} (h:IsF k w F) (c:Cl) (hT:Tabs w) :
  ∃ f caps,F=.func (.func f) #[] caps/\(Calls Tryz.prog f (#[clV c]++caps) w fun e w'=>e=.returned (.bool (isC k c))/\Below w.heap.size w w')/\∀ args w',(callFunc f args).run Tryz.prog w'=.ok (.enter f args) w':=by
 rcases h with ⟨rfl,p,q,h1,h2,h3,h4,h5⟩ | ⟨rfl,p,q,h1,h2,h3,h4,h5⟩ | ⟨rfl,p,q,h1,h2,h3,h4,h5⟩ | ⟨rfl,p,h1,h2,h3⟩ | ⟨rfl,h1⟩
 ·exact ⟨_,_,h1,UL p q _ _ c.2.1 c.1 c.2.2 w h2 h3 h4 h5,fun args w'=>zm Tryz.func200 (by kernel_rfl) (by kernel_rfl) args w'⟩
 ·exact ⟨_,_,h1,UL p q _ _ c.2.1 c.1 c.2.2 w h2 h3 h4 h5,fun args w'=>zm Tryz.func200 (by kernel_rfl) (by kernel_rfl) args w'⟩
 ·exact ⟨_,_,h1,UL p q _ _ c.2.1 c.1 c.2.2 w h2 h3 h4 h5,fun args w'=>zm Tryz.func200 (by kernel_rfl) (by kernel_rfl) args w'⟩
 ·exact ⟨_,_,h1,ai9 p c.2.1 c.1 c.2.2 w h2 h3 hT,fun args w'=>zm Tryz.func211 (by kernel_rfl) (by kernel_rfl) args w'⟩
 exact ⟨_,_,h1,ae0 c.2.1 c.1 c.2.2 w,fun args w'=>zm Tryz.func201 (by kernel_rfl) (by kernel_rfl) args w'⟩
theorem agC (k:Int) (nl:Bool) (c:Cl) (w:World) (hT:Tabs w):Calls Tryz.prog 105 #[.agg #[.int .i64 k,.bool nl],clV c] w fun e w'=>e=.returned (.int .i64 (zw k nl c))/\Below w.heap.size w w':=by
 obtain ⟨nu,n,s⟩:=c;show Calls Tryz.prog 105 #[.agg #[.int .i64 k,.bool nl],.agg #[.bool nu,.int .i64 n,.string s]] w _;have HT:=za hT;clear hT;have hb0:=za (show Below w.heap.size w ((w.alloc (.cells #[.int .i64 k,.bool nl] 43)).alloc (.cells #[.bool nu,.int .i64 n,.string s] 23)) from ((Below.refl _ _).alloc (Nat.le_refl _) _).alloc (by simp) _);have B2:=za ((Blk.new w 43 #[.int .i64 k,.bool nl]).alloc (.cells #[.bool nu,.int .i64 n,.string s] 23));have B3:=za (Blk.new' (w.alloc (.cells #[.int .i64 k,.bool nl] 43)) 23 #[.bool nu,.int .i64 n,.string s] (w.heap.size+1) (by simp));go_enter Tryz.func105,Tryz.ntmps105;go_wp2_with fail
 with_reducible refine (Js k nl _).mono ?_
 rintro e w1 ⟨rfl,hb1⟩;have hb2:=za (bon hb0.out hb1);replace B2:=za (B2.out.on hb1);replace B3:=za (B3.out.on hb1);clear hb1 hb0;have c20:=B2.out.cell 0;have c21:=B2.out.cell 1;have c30:=B3.out.cell 0;have c31:=B3.out.cell 1;have c32:=B3.out.cell 2;cases hm:yZ k with
 | false=>
  go_wp2;go_ret;exact ⟨by simp [zw,hm],hb2.out⟩
 | true=>
  obtain ⟨hk1,hk5⟩:1<=k/\k<=5:=by simpa [yZ] using hm
  cases nu with
  | true=>
   cases nl with
   | false=>
    go_wp2;go_ret;exact ⟨by simp [zw,hm],hb2.out⟩
   | true=>
    by_cases hn:n=0
    ·subst hn;by_cases hs:s=⟨#[]⟩
     ·subst hs;go_wp2;have H30:=za (show ∀ w',w'=w1.drew->w'.cell? ⟨w.heap.size+1,0,none⟩=some (.bool true) from fun w' h=>by rw [h];exact c30);have hS:w1.drew=w1.drew:=rfl;refine nR (fun w'=>w'=w1.drew) (.pure 0 (.pure 1 (.pure 2 (.pure 3 (.pure 4 (.pure 7 (.eff 5 (.pure 6 (.eff 8 (.pure 9 (.pure 10 (.pure 11 .done)))))))))))) ?_;refine nP hS ?_;refine nP1 hS H30.out ?_;(iterate 2 refine nP hS ?_);(iterate 2 refine nO hS ?_);refine act rfl fun K hK=>?_;go_simp;refine hG hK hS fun hS=>?_;clear hK K;refine nO hS ?_;refine act rfl fun K hK=>?_;go_simp;refine hG hK hS fun hS=>?_;clear hK K;refine nO hS ?_;(iterate 2 refine nP hS ?_);refine zv ?_;go_wp2;go_ret;exact ⟨by simp [zw,hm],hb2.out.drew⟩
     have hss:=Xb hs;go_wp2;go_ret;exact ⟨by simp [zw,hm,hs],hb2.out⟩
    have hnn:(n==0)=false:=(by simpa using hn);go_wp2;go_ret;exact ⟨by simp [zw,hm,hn],hb2.out⟩
  | false=>
   have H20:=za (show ak1 w1 ⟨w.heap.size,0,none⟩ (.int .i64 k) from fun w' h=>(h.cell (p:=⟨w.heap.size,0,none⟩) B2.out.lt).trans c20);have H21:=za (show ak1 w1 ⟨w.heap.size,1,none⟩ (.bool nl) from fun w' h=>(h.cell (p:=⟨w.heap.size,1,none⟩) B2.out.lt).trans c21);have H30:=za (show ak1 w1 ⟨w.heap.size+1,0,none⟩ (.bool false) from fun w' h=>(h.cell (p:=⟨w.heap.size+1,0,none⟩) B3.out.lt).trans c30);have H31:=za (show ak1 w1 ⟨w.heap.size+1,1,none⟩ (.int .i64 n) from fun w' h=>(h.cell (p:=⟨w.heap.size+1,1,none⟩) B3.out.lt).trans c31);have H32:=za (show ak1 w1 ⟨w.heap.size+1,2,none⟩ (.string s) from fun w' h=>(h.cell (p:=⟨w.heap.size+1,2,none⟩) B3.out.lt).trans c32);have hE:zw k nl (false,n,s)=if isC k (false,n,s) then 0 else 90:=by simp [zw,hm]
   go_wp2;have hS:=ak2 w1;refine nR (fun w'=>Below w1.heap.size w1 w') (.pure 0 (.pure 1 (.pure 2 (.pure 3 (.pure 4 (.pure 7 (.eff 5 (.pure 6 (.eff 8 (.pure 9 (.pure 10 (.pure 11 .done)))))))))))) ?_;refine nP hS ?_;refine nP1 hS H30.out ?_;(iterate 2 refine nP hS ?_);refine nP2 hS H20.out H21.out ?_;refine nP3 hS H30.out H31.out H32.out ?_;refine nE fun K hK=>?_;go_simp;(with_reducible refine (ajP k nl _ hk1 hk5).mono ?_);rintro e w2 ⟨F,a,b,c,d,rfl,hF,hb3⟩;refine hG hK (by exact bon hS hb3) fun hS=>?_;clear hK K;obtain ⟨f,caps,rfl,hcall,hin⟩:=hF.calls (false,n,s) ((HT.out.on hb2.out).on hS);obtain ⟨I,hI⟩:∃ I,I=isC k (false,n,s):=⟨_,rfl⟩;rw [<-hI] at hcall hE;have HE:=za hE;have hcall:=show Calls Tryz.prog f (#[.agg #[.bool false,.int .i64 n,.string s]]++caps) w2 (fun e w'=>e=.returned (.bool I)/\Below w2.heap.size w2 w') from hcall;clear hE hI;have HF:=za (show ∀ w',Below w1.heap.size w1 w'->(Instr.field 205 (.agg #[.func (.func f) #[] caps,a,b,c,d]) 0).run Tryz.prog w'=.ok (.func (.func f) #[] caps) w' from fun w' _=>by simp [Instr.field,asAgg,go_sem]);refine nP1 hS HF.out ?_;refine nE fun K hK=>?_;go_simp;(with_reducible refine hcall.mono ?_);rintro e w3 ⟨rfl,hb4⟩;refine hG hK (by exact bon hS hb4) fun hS=>?_;clear hK K;(iterate 3 refine nP hS ?_);refine zv ?_;have hb5:=bon hb2.out hS;cases I with
   | true=>
    go_wp2;go_ret;exact ⟨by first | (rw [HE.out];rfl) | rfl,hb5⟩
   | false=>
    go_wp2;go_ret;exact ⟨by first | (rw [HE.out];rfl) | rfl,hb5⟩
end
section
def y8 (most:Int) (b:List UInt8):Except Nat (ByteArray×Nat):=
 if (get b).2.2≠0 then .error (get b).2.2
 else if most<0\/most<((get b).1:Int) then .error 5
 else if b.length-(get b).2.1<(get b).1 then .error 3
 else .ok (txt ((b.drop (get b).2.1).take (get b).1),(get b).2.1+(get b).1)
theorem XJ (most:Int) (k:Nat) (b:List UInt8) (d:List ByteArray):zQ most (k+1) b d=match y8 most b with
  | .error e=>.error e
  | .ok (s,n)=>if (zH d s).isSome then .error 150 else zQ most k (b.drop n) (d++[s]):=by
 rw [zQ];unfold y8;by_cases h1:(get b).2.2≠0
 ·rw [if_pos h1,if_pos h1]
 rw [if_neg h1,if_neg h1];by_cases h2:most<0\/most<((get b).1:Int)
 ·rw [if_pos h2,if_pos h2]
 rw [if_neg h2,if_neg h2,List.length_drop];by_cases h3:b.length-(get b).2.1<(get b).1
 ·rw [if_pos h3,if_pos h3]
 rw [if_neg h3,if_neg h3];simp only [List.drop_drop]
def qk (xs:List UInt8) (n:Nat) (most:Int):Except Nat (List ByteArray×List UInt8):=
 if (get xs).2.2≠0 then .error (get xs).2.2
 else if n<(get xs).1 then .error 5
 else zQ most (get xs).1 (xs.drop (get xs).2.1) []
def UV (xs:List UInt8) (n:Nat) (most:Int):Except Nat (List ByteArray×Nat):=
 match qk xs n most with
 | .error e=>.error e
 | .ok (d,r)=>match zT d.length n r 0 [] with
  | .error e=>.error e
  | .ok (u,ns,q)=>if u<d.length then .error 150 else .ok (ns.filterMap (d[·]?),xs.length-q.length)
def ZC (xs:List UInt8) (n most:Int):Except Nat (List ByteArray×Nat):=
 if n<0\/1048576<n then .error 6 else UV xs n.toNat most
end
section
def zD (n:Nat):Nat:=(n+7) / 8
def zP:List Bool->Nat
 | []=>0
 | b::r=>(if b then 1 else 0)+2*zP r
def yt:Nat->List Bool->List UInt8
 | 0,_=>[]
 | f+1,l=>UInt8.ofNat (zP (l.take 8))::yt f (l.drop 8)
def zB (l:List Bool):List UInt8:=yt (zD l.length) l
def qw:Nat->Nat->List Bool
 | 0,_=>[]
 | k+1,c=>(c % 2==1)::qw k (c / 2)
def zO (b:List UInt8):List Bool:=b.flatMap fun c=>qw 8 c.toNat
def zx (l:List Bool):Nat:=(l.filter id).length
def qy (b:List UInt8) (n:Nat):List Bool×Nat×Nat:=
 if b.length<zD n then ([],0,3)
 else if ((zO (b.take (zD n))).drop n).any id then ([],0,140)
 else ((zO (b.take (zD n))).take n,zD n,0)
def zr (b:List UInt8) (n:Int):List Bool×Nat×Nat:=
 if n<0\/1048576<n then ([],0,6) else qy b n.toNat
def JI (n:Int):Nat:=if n<0\/1048576<n then 0 else zD n.toNat
@[simp] theorem Uf:∀ (f:Nat) (l:List Bool),(yt f l).length=f
 | 0,_=>rfl
 | f+1,l=>by simp [yt,Uf f]
theorem yY (l:List Bool):(zB l).length=zD l.length:=Uf _ _
@[simp] theorem aaO:∀ (k c:Nat),(qw k c).length=k
 | 0,_=>rfl
 | k+1,c=>by simp [qw,aaO k]
theorem Vg:zO []=[]:=rfl
theorem y6 (c:UInt8) (b:List UInt8):zO (c::b)=qw 8 c.toNat++zO b:=by simp [zO]
@[simp] theorem Vh:∀ b:List UInt8,(zO b).length=8*b.length
 | []=>rfl
 | c::b=>by rw [y6,List.length_append,Vh b];simp;omega
theorem UY:∀ l:List Bool,zP l<2 ^ l.length
 | []=>by simp [zP]
 | b::r=>by
  have:=UY r;simp only [zP,List.length_cons,Nat.pow_succ]
  split<;>omega
theorem aeJ (l:List Bool) (h:l.length<=8):zP l<256:=
 Nat.lt_of_lt_of_le (UY l) (by
  have:2 ^ l.length<=2 ^ 8:=Nat.pow_le_pow_right (by omega) h;omega)
theorem YR:∀ (l m:List Bool),zP (l++m)=zP l+2 ^ l.length*zP m
 | [],m=>by simp [zP]
 | b::r,m=>by
  simp only [List.cons_append,zP,YR r m,List.length_cons,Nat.pow_succ];rw [Nat.mul_add,Nat.add_assoc,Nat.mul_comm (2 ^ r.length) 2,<-Nat.mul_assoc]
theorem VO:∀ m:Nat,zP (List.replicate m false)=0
 | 0=>rfl
 | m+1=>by simp [List.replicate_succ,zP,VO m]
theorem aeI (l:List Bool) (m:Nat):zP (l++List.replicate m false)=zP l:=by
 rw [YR,VO];omega
theorem Jf:∀ (k c:Nat),c<2 ^ k->zP (qw k c)=c
 | 0,c,h=>by simp at h;simp [qw,zP,h]
 | k+1,c,h=>by
  rw [Nat.pow_succ] at h;simp only [qw,zP,Jf k (c / 2) (by omega)];by_cases h1:c % 2=1<;>simp [h1]<;>omega
theorem Jg:∀ (l:List Bool) (m:Nat),qw (l.length+m) (zP l)=l++List.replicate m false
 | [],m=>by
  simp only [List.length_nil,Nat.zero_add,zP,List.nil_append]
  induction m with
  | zero=>rfl
  | succ m ih=>simp [qw,List.replicate_succ,ih]
 | b::r,m=>by
  have e:(b::r).length+m=(r.length+m)+1:=by simp;omega
  rw [e];simp only [qw,zP,List.cons_append];have h1:((if b=true then 1 else 0)+2*zP r) / 2=zP r:=by split<;>omega
  have h2:(((if b=true then 1 else 0)+2*zP r) % 2==1)=b:=by cases b<;>simp<;>omega
  rw [h1,h2,Jg r m]
theorem ZO (n:Nat) (h:n<256):(UInt8.ofNat n).toNat=n:=by
 simp [Nat.mod_eq_of_lt h]
theorem VP:∀ (f:Nat) (l:List Bool),zO (yt f l)=l.take (8*f)++List.replicate (8*f-l.length) false
 | 0,l=>by simp [yt,Vg]
 | f+1,l=>by
  have hlt:=aeJ (l.take 8) (List.length_take_le _ _);rw [yt,y6,ZO _ hlt,VP f];have hb:qw 8 (zP (l.take 8))=l.take 8++List.replicate (8-(l.take 8).length) false:=by
   have ht:=List.length_take_le 8 l;generalize l.take 8=t at ht ⊢;have:=Jg t (8-t.length);rwa [show t.length+(8-t.length)=8 from by omega] at this
  rw [hb];rcases Nat.le_total 8 l.length with h | h
  ·have hz:8-(l.take 8).length=0:=(by rw [List.length_take];omega);rw [hz,List.replicate_zero,List.append_nil,<-List.append_assoc,List.length_drop];have e1:l.take 8++(l.drop 8).take (8*f)=l.take (8*(f+1)):=by
    rw [show 8*(f+1)=8+8*f from by omega,List.take_add]
   rw [e1]
   congr 2
   omega
  have hd:l.drop 8=[]:=List.drop_of_length_le h;have ht:l.take 8=l:=List.take_of_length_le h;have ht2:l.take (8*(f+1))=l:=List.take_of_length_le (by omega);rw [hd,ht,ht2];simp only [List.take_nil,List.nil_append,List.length_nil,Nat.sub_zero,List.append_assoc,List.replicate_append_replicate]
  congr 2
  omega
theorem VK:∀ b:List UInt8,yt b.length (zO b)=b
 | []=>rfl
 | c::b=>by
  simp only [List.length_cons,yt,y6];rw [List.take_left' (by simp),List.drop_left' (by simp),VK b,Jf 8 c.toNat c.toNat_lt];simp
theorem aa8:∀ (f:Nat) (l:List Bool) (m:Nat),yt f (l++List.replicate m false)=yt f l
 | 0,_,_=>rfl
 | f+1,l,m=>by
  simp only [yt,List.take_append,List.drop_append,List.take_replicate,List.drop_replicate];rw [aeI,aa8 f]
theorem Uj (n:Nat):n<=8*zD n:=by unfold zD;omega
theorem ab0 (l:List Bool) (r:List UInt8):qy (zB l++r) l.length=(l,zD l.length,0):=by
 unfold qy;have hlen:=yY l;rw [if_neg (by rw [List.length_append];omega)];have ht:(zB l++r).take (zD l.length)=zB l:=by rw [<-hlen];exact List.take_left
 have hb:zO (zB l)=l++List.replicate (8*zD l.length-l.length) false:=by
  rw [zB,VP,List.take_of_length_le (Uj _)]
 rw [ht,hb,List.drop_left,List.take_left];rw [if_neg (by simp)]
theorem agq (l:List Bool) (h:l.any id=false):l=List.replicate l.length false:=by
 rw [List.eq_replicate_iff];refine ⟨rfl,fun b hb=>?_⟩;have:=List.any_eq_false.1 h b hb;simpa using this
theorem ab1 (b:List UInt8) (n:Nat):(∃ l,qy b n=(l,zD n,0)/\l.length=n/\zD n<=b.length/\zB l=b.take (zD n))\/∃ e,qy b n=([],0,e)/\e≠0/\e<200:=by
 unfold qy;by_cases h1:b.length<zD n
 ·rw [if_pos h1];exact .inr ⟨3,rfl,by omega,by omega⟩
 rw [if_neg h1];by_cases h2:((zO (b.take (zD n))).drop n).any id=true
 ·rw [if_pos h2];exact .inr ⟨140,rfl,by omega,by omega⟩
 rw [if_neg h2];have hl:(b.take (zD n)).length=zD n:=by rw [List.length_take];omega
 have hln:((zO (b.take (zD n))).take n).length=n:=by
  rw [List.length_take,Vh,hl];have:=Uj n;omega
 refine .inl ⟨_,rfl,hln,by omega,?_⟩;have hf:=agq _ (by simpa using h2);have hall:zO (b.take (zD n))=(zO (b.take (zD n))).take n++List.replicate ((zO (b.take (zD n))).drop n).length false:=by
  conv=>lhs;rw [<-List.take_append_drop n (zO (b.take (zD n)))]
  rw [<-hf]
 rw [zB,hln];have:=VK (b.take (zD n));rw [hl,hall,aa8] at this;exact this
theorem VN (a b:List Bool):zx (a++b)=zx a+zx b:=by simp [zx]
theorem V2 (l:List Bool) (i:Nat) (b:Bool) (h:l[i]? = some b):zx (l.take (i+1))=zx (l.take i)+if b then 1 else 0:=by
 obtain ⟨hlt,rfl⟩:=List.getElem?_eq_some_iff.1 h;rw [List.take_succ_eq_append_getElem hlt,VN]
 congr 1
 cases hb:l[i]<;>simp [zx]
theorem agx (l:List Bool):zx l<=l.length:=List.length_filter_le _ _
theorem Vn:∀ (f:Nat) (l:List Bool) (j:Nat),j<f->(yt f l)[j]? = some (UInt8.ofNat (zP ((l.drop (8*j)).take 8)))
 | f+1,l,0,_=>by simp [yt]
 | f+1,l,j+1,h=>by
  simp only [yt,List.getElem?_cons_succ];rw [Vn f (l.drop 8) j (by omega),List.drop_drop]
  congr 5
  omega
def ZI (l:List Bool) (i j:Nat):List Bool:=((l.take i).drop (8*j)).take 8
theorem ade (l:List Bool) (i j:Nat) (h:j≠i / 8):ZI l (i+1) j=ZI l i j:=by
 unfold ZI;rcases Nat.lt_or_ge j (i / 8) with hlt | hge
 ·rw [List.drop_take,List.drop_take,List.take_take,List.take_take]
  congr 1
  omega
 have h1:(l.take (i+1)).drop (8*j)=[]:=List.drop_of_length_le (by have:=List.length_take_le (i+1) l;omega);have h2:(l.take i).drop (8*j)=[]:=List.drop_of_length_le (by have:=List.length_take_le i l;omega);rw [h1,h2]
theorem aeD (l:List Bool) (i:Nat) (b:Bool) (h:l[i]? = some b):ZI l (i+1) (i / 8)=ZI l i (i / 8)++[b]/\(ZI l i (i / 8)).length=i % 8:=by
 obtain ⟨hlt,rfl⟩:=List.getElem?_eq_some_iff.1 h;unfold ZI;have hli:(l.take i).length=i:=by rw [List.length_take];omega
 have hle:8*(i / 8)<=i:=by omega
 constructor
 ·rw [List.take_succ_eq_append_getElem hlt,List.drop_append_of_le_length (by omega)];have h1:((l.take i).drop (8*(i / 8))).length<=7:=by rw [List.length_drop,hli];omega
  generalize (l.take i).drop (8*(i / 8))=t at h1 ⊢;rw [List.take_of_length_le (l:=t++[l[i]]) (by simp;omega),List.take_of_length_le (l:=t) (by omega)]
 rw [List.length_take,List.length_drop,hli];omega
theorem VU (f:Nat) (l:List Bool) (i:Nat) (b:Bool) (h:l[i]? = some b) (hf:i / 8<f) :
  yt f (l.take (i+1))=(yt f (l.take i)).set (i / 8) (UInt8.ofNat (zP (ZI l i (i / 8))+if b then 2 ^ (i % 8) else 0))/\zP (ZI l i (i / 8))<2 ^ (i % 8) /\
   (yt f (l.take i))[i / 8]? = some (UInt8.ofNat (zP (ZI l i (i / 8)))):=by
 obtain ⟨h1,h2⟩:=aeD l i b h;have hlt:=UY (ZI l i (i / 8));rw [h2] at hlt;refine ⟨?_,hlt,Vn f _ _ hf⟩;apply List.ext_getElem?;intro j;rcases Nat.lt_or_ge j f with hj | hj
 ·rw [Vn f _ j hj];by_cases hji:j=i / 8
  ·subst hji;rw [List.getElem?_set_self (by simpa using hf)];show some (UInt8.ofNat (zP (ZI l (i+1) (i / 8))))=_;rw [h1,YR,h2];cases b<;>simp [zP]
  rw [List.getElem?_set_ne (by omega),Vn f _ j hj];show some (UInt8.ofNat (zP (ZI l (i+1) j)))=some (UInt8.ofNat (zP (ZI l i j)));rw [ade l i j hji]
 rw [List.getElem?_eq_none (by simpa using hj),List.getElem?_eq_none (by simpa using hj)]
theorem U3 (f:Nat) (l:List Bool) (i:Nat) (h:l[i]? = some false) (hf:i / 8<f):yt f (l.take (i+1))=yt f (l.take i):=by
 obtain ⟨h1,_,h3⟩:=VU f l i false h hf;rw [h1];simp only [Bool.false_eq_true,if_false,Nat.add_zero];obtain ⟨hlt,h4⟩:=List.getElem?_eq_some_iff.1 h3;rw [<-h4,List.set_getElem_self]
theorem ad6 (f:Nat) (l:List Bool):yt f (l.take 0)=List.replicate f 0:=by
 rw [List.take_zero]
 induction f with
 | zero=>rfl
 | succ f ih=>simp only [yt,List.take_nil,List.drop_nil,List.replicate_succ,ih];rfl
theorem ad7 (f:Nat) (l:List Bool) (h:l.length<=8*f):yt (f+1) l=yt f l++[0]:=by
 induction f generalizing l with
 | zero=>
  have:l=[]:=List.eq_nil_of_length_eq_zero (by omega);subst this;rfl
 | succ f ih=>
  rw [yt,ih (l.drop 8) (by rw [List.length_drop];omega)];rfl
theorem aaB:∀ (n c k:Nat),k<n->(qw n c)[k]? = some (c / 2 ^ k % 2==1)
 | n+1,c,0,_=>by simp [qw]
 | n+1,c,k+1,h=>by
  simp only [qw,List.getElem?_cons_succ];rw [aaB n (c / 2) k (by omega),Nat.div_div_eq_div_mul,Nat.pow_succ,Nat.mul_comm 2]
theorem Jh:∀ (xs:List UInt8) (i k:Nat) (b:UInt8),xs[i]? = some b->k<8->(zO xs)[8*i+k]? = some (b.toNat / 2 ^ k % 2==1)
 | c::xs,0,k,b,h,hk=>by
  obtain rfl:c=b:=by simpa using h
  rw [y6,List.getElem?_append_left (by simp;omega),Nat.mul_zero,Nat.zero_add];exact aaB 8 _ k hk
 | c::xs,i+1,k,b,h,hk=>by
  rw [y6,List.getElem?_append_right (by simp;omega)];have:=Jh xs i k b (by simpa using h) hk;rw [<-this]
  congr 1
  simp;omega
theorem Xx:∀ (xs:List UInt8) (s:Nat),zO (xs.take s)=(zO xs).take (8*s)
 | [],s=>by simp [Vg]
 | c::xs,0=>by simp [Vg]
 | c::xs,s+1=>by
  rw [List.take_succ_cons,y6,y6,Xx xs s]
  conv=>rhs;rw [List.take_append,List.take_of_length_le (l:=qw 8 c.toNat) (by simp;omega)]
  rw [show 8*(s+1)-(qw 8 c.toNat).length=8*s by simp;omega]
def UC (xs:List UInt8) (m t:Nat):Prop:=(((zO xs).take t).drop m).any id=false
theorem abn (xs:List UInt8) (m t:Nat) (h:t<=m):UC xs m t:=by
 unfold UC;rw [List.drop_of_length_le (by have:=List.length_take_le t (zO xs);omega)];rfl
theorem aeC (xs:List UInt8) (m t:Nat) (h:UC xs m t) (hb:(zO xs)[t]? = some false):UC xs m (t+1):=by
 obtain ⟨hlt,hb⟩:=List.getElem?_eq_some_iff.1 hb;unfold UC at *;rw [List.take_succ_eq_append_getElem hlt,hb,List.drop_append,List.any_append,h];generalize m-((zO xs).take t).length=d;cases d<;>simp
theorem ady (xs:List UInt8) (m t:Nat) (hs:zD m<=xs.length) (ht:m<=t) (ht2:t<8*zD m) (hb:(zO xs)[t]? = some true):qy xs m=([],0,140):=by
 unfold qy;rw [if_neg (by omega),if_pos];rw [Xx,List.any_eq_true];refine ⟨true,?_,rfl⟩;obtain ⟨hlt,hb⟩:=List.getElem?_eq_some_iff.1 hb;refine List.mem_iff_getElem?.2 ⟨t-m,?_⟩;rw [List.getElem?_drop,List.getElem?_take,if_pos (by omega),show m+(t-m)=t by omega,List.getElem?_eq_getElem hlt,hb]
theorem ab2 (xs:List UInt8) (m:Nat) (hs:zD m<=xs.length) (h:UC xs m (8*zD m)):qy xs m=((zO xs).take m,zD m,0):=by
 unfold qy;unfold UC at h;rw [if_neg (by omega),Xx,if_neg (by simp [h]),List.take_take]
 congr 2
 have:=Uj m;omega
theorem afr (l:List Bool) (t:Nat) (b:Bool) (h:l[t]? = some b):l.take (t+1)=l.take t++[b]:=by
 obtain ⟨hlt,rfl⟩:=List.getElem?_eq_some_iff.1 h;exact List.take_succ_eq_append_getElem hlt
theorem ZJ (b:List UInt8) (n:Int):(∃ l k,zr b n=(l,k,0)/\(l.length:Int)=n/\k<=b.length/\zB l=b.take k)\/∃ e,zr b n=([],0,e)/\e≠0/\e<200:=by
 unfold zr;by_cases h:n<0\/1048576<n
 ·rw [if_pos h];exact .inr ⟨6,rfl,by omega,by omega⟩
 rw [if_neg h];rcases ab1 b n.toNat with ⟨l,h1,h2,h3,h4⟩ | h1
 ·exact .inl ⟨l,_,h1,by omega,h3,h4⟩
 exact .inr h1
theorem V6 (l:List Bool) (r:List UInt8) (h:l.length<=1048576):zr (zB l++r) (l.length:Int)=(l,zD l.length,0):=by
 unfold zr;rw [if_neg (by omega),Int.toNat_natCast,ab0]
end
section
open Go.RowKit
def yW (l:List Cl):List UInt8:=l.flatMap fun c=>leb (zig c.2.1)
def y9 (l:List Cl):List UInt8:=l.flatMap fun c=>leb c.2.2.size++c.2.2.data.toList
def yh (k:Int) (l:List Cl):List UInt8:=if k=1 then zB (l.map fun c=>c.2.1==1) else if k=4 then qK (l.map fun c=>c.2.2) else if k=5 then y9 l else yW l
def zy (l:List Cl):List Cl:=l.filter fun c => !c.1
def Yr (k:Int) (nl:Bool) (l:List Cl):Bool:=l.all fun c=>zw k nl c==0
def XD (k:Int) (nl:Bool) (l:List Cl):Int:=if yZ k then (if Yr k nl l then 0 else 90) else 2
def YO (k:Int) (nl:Bool) (l:List Cl) (xs:List UInt8):List UInt8:=xs++((if nl then zB (l.map fun c => !c.1) else [])++yh k (zy l))
def YX (k:Int) (nl:Bool) (l:List Cl) (xs:List UInt8):List UInt8:=if XD k nl l=0 then YO k nl l xs else []
def Ve (b:Bool):Cl:=(false,if b then 1 else 0,⟨#[]⟩)
def UR (n:Int):Cl:=(false,n,⟨#[]⟩)
def Xe (s:ByteArray):Cl:=(false,0,s)
def Zh:Cl:=(true,0,⟨#[]⟩)
abbrev V3:=Except Nat (List Cl×Nat)
def Yg (k:Int) (xs:List UInt8) (st:List Cl×Nat):V3:=
 if (get (xs.drop st.2)).2.2=0 then
  (if isC k (UR (zag (get (xs.drop st.2)).1))=true then .ok (st.1++[UR (zag (get (xs.drop st.2)).1)],st.2+(get (xs.drop st.2)).2.1) else .error 90)
 else .error (get (xs.drop st.2)).2.2
def ZH (xs:List UInt8) (st:List Cl×Nat):V3:=
 if (get (xs.drop st.2)).2.2=0 then
  (if 1024 < (get (xs.drop st.2)).1 then .error 5
   else if xs.length<st.2+(get (xs.drop st.2)).2.1+(get (xs.drop st.2)).1 then .error 3
   else .ok (st.1++[Xe (txt ((xs.drop (st.2+(get (xs.drop st.2)).2.1)).take (get (xs.drop st.2)).1))],st.2+(get (xs.drop st.2)).2.1+(get (xs.drop st.2)).1))
 else .error (get (xs.drop st.2)).2.2
def yV (f:List Cl×Nat->V3):Nat->V3
 | 0=>.ok ([],0)
 | n+1=>match yV f n with | .ok st=>f st | .error e=>.error e
theorem Z6 {f:List Cl×Nat->V3} {n m e:Nat} (h:yV f n=.error e) (hm:n<=m):yV f m=.error e:=by
 induction m with
 | zero => obtain rfl : n = 0 := by omega
           exact h
 | succ m ih=>
  rcases Nat.lt_or_ge m n with h2 | h2
  ·obtain rfl:n=m+1:=(by omega);exact h
  rw [yV,ih h2]
theorem ahG {f:List Cl×Nat->V3} {n m:Nat} {st:List Cl×Nat} (h:yV f m=.ok st) (hm:n<=m):∃ st',yV f n=.ok st':=by
 rcases hn:yV f n with e | st'
 ·rw [Z6 hn hm] at h;cases h
 exact ⟨st',rfl⟩
theorem VX {f:List Cl×Nat->V3} {n:Nat} {st:List Cl×Nat} (h:yV f n=.ok st):yV f (n+1)=f st:=by rw [yV,h]
def qP (k:Int) (xs:List UInt8) (n:Int):V3:=
 if k=1 then (if (zr xs n).2.2=0 then .ok ((zr xs n).1.map Ve,(zr xs n).2.1) else .error (zr xs n).2.2)
 else if k=4 then (match ZC xs n 1024 with
  | .ok (l,s)=>if l.all (fun s=>Lib.validD s.data.toList)=true then .ok (l.map Xe,s) else .error 90
  | .error e=>.error e)
 else if k=5 then yV (ZH xs) n.toNat else yV (Yg k xs) n.toNat
def zJ:List Bool->List Cl->List Cl
 | [],_=>[]
 | false::t,l=>Zh::zJ t l
 | true::t,[]=>[]
 | true::t,c::l=>c::zJ t l
def Y9 (k:Int) (nl:Bool) (xs:List UInt8) (n:Int):V3:=
 if yZ k=false then .error 2
 else if n<0\/1048576<n then .error 6
 else if nl=false then qP k xs n
 else if (zr xs n).2.2=0 then
  (match qP k (xs.drop (zr xs n).2.1) (zx (zr xs n).1 : Int) with
   | .ok (l,s)=>.ok (zJ (zr xs n).1 l,(zr xs n).2.1+s)
   | .error e=>.error e)
 else .error (zr xs n).2.2
theorem XZ:∀ (t:List Bool) (l:List Cl) (i:Nat) (b:Bool),t[i]? = some b->zx t<=l.length ->
  zJ (t.take (i+1)) l=zJ (t.take i) l++[if b=true then (l[zx (t.take i)]?).getD Zh else Zh]
 | [],l,i,b,h,_=>by simp at h
 | a::t,l,0,b,h,hc=>by
  obtain rfl:a=b:=by simpa using h
  cases a with
  | false=>simp [zJ]
  | true=>
   cases l with
   | nil=>simp [zx] at hc
   | cons c l=>simp [zJ,zx]
 | false::t,l,i+1,b,h,hc=>by
  have:=XZ t l i b (by simpa using h) (by simpa [zx] using hc);simpa [zJ,zx] using this
 | true::t,[],i+1,b,h,hc=>by simp [zx] at hc
 | true::t,c::l,i+1,b,h,hc=>by
  have:=XZ t l i b (by simpa using h) (by simpa [zx] using hc);simp only [List.take_succ_cons,zJ,List.cons_append,List.cons.injEq,true_and];rw [this];simp [zx]
theorem Xl:∀ (t:List Bool) (l:List Cl),zx t<=l.length->(zJ t l).length=t.length
 | [],l,_=>rfl
 | false::t,l,h=>by simp [zJ,Xl t l (by simpa [zx] using h)]
 | true::t,[],h=>by simp [zx] at h
 | true::t,c::l,h=>by simp [zJ,Xl t l (by simpa [zx] using h)]
end
section
def txs (l:List ByteArray):List Value:=l.map Value.string
@[simp] theorem ajH (l:List ByteArray):(txs l).length=l.length:=by simp [txs]
theorem Yd (l m:List ByteArray):txs (l++m)=txs l++txs m:=by simp [txs]
theorem aiO (l:List ByteArray):∀ u∈txs l,u.oneCell'=true:=by
 intro u hu;simp only [txs,List.mem_map] at hu;obtain ⟨c,_,rfl⟩:=hu;rfl
theorem Xf (xs:List ByteArray) (k:Nat) (v:Value) (h:(txs xs)[k]? = some v):∃ c:ByteArray,xs[k]? = some c/\v=.string c:=by
 simp only [txs,List.getElem?_map,Option.map_eq_some_iff] at h;obtain ⟨c,h1,h2⟩:=h;exact ⟨c,h1,h2.symm⟩
theorem agS {w:World} {B n:Nat} {A:Option Addr} {l:List ByteArray} (h:Reads w B 1 A n (txs l)):l.length=n:=by
 have:=h.1;simpa using this
def ins (l:List Int):List Value:=l.map (Value.int .i64)
@[simp] theorem ajY (l:List Int):(ins l).length=l.length:=by simp [ins]
theorem ahK (l:List Int) (k:Nat):(ins l).take k=ins (l.take k):=by simp [ins,List.map_take]
theorem afa (l:List Int):∀ u∈ins l,u.oneCell'=true:=by
 intro u hu;simp only [ins,List.mem_map] at hu;obtain ⟨c,_,rfl⟩:=hu;rfl
end
section
open Go.RowKit
theorem ZX:(Tryz.prog.info? 9).map (fun i=>(i.zero,i.size,i.bytes))=some (some (.string ⟨#[]⟩),1,16):=by kernel_rfl
theorem X7:(Tryz.prog.info? 3).map (fun i=>(i.zero,i.size,i.bytes))=some (some (.int .i64 0),1,8):=by kernel_rfl
theorem abQ (A:Option Addr) (n c:Nat) (l:List Int) (w:World) (hr:Reads w w.heap.size 1 A n (ins l)) (hn:n<=1099511627776) :
  Calls Tryz.prog 116 #[.slice A n c] w fun e w'=>∃ A' c',e=.returned (.slice A' n c')/\n<=c'/\c'<=maxLen /\
   w'.ownsRow w.heap.size 3 1 (.slice A' n c') n (ins l)/\Below w.heap.size w w':=by
 obtain ⟨i0,hi0,hz0,hz1,hz2⟩:=info_parts X7;go_enter Tryz.func116,Tryz.ntmps116
 go_wp2_with (at_builtin
              refine zb _ rfl (.tmp 4) (.tmp 5) 28 rfl w.heap.size 3 i0 (.int .i64 0) 1 8 Tryz.underlying28 hi0 hz0 hz1 hz2 rfl (by decide) none 0 0 [] rfl (World.ownsRow_nil _ _ _ _) A n c (ins l) rfl hr (afa l) (by simp only [maxLen];omega) (by omega) (Nat.le_refl _) ?_;intro A2 c2 w2 hown2 hb2 hg2 hc2 hm2;simp only [Nat.zero_add,List.nil_append] at hown2 hc2)
 go_ret;exact ⟨A2,c2,by simp,hc2,hm2,hown2,hb2⟩
end
section
open Go.RowKit
open Go.Maps (Keyed)
def MapS (P:Program) (k e:TypeId) (w:World) (g n m:Nat) (f:ByteArray->Option Int):Prop:=
 ∃ D:DataW Unit,w.ownsMap P k (plainElem P e) g n D/\Maps.size D=m/\∀ s:ByteArray,Maps.has D (.string s.data.toList)=(f s).isSome/\∀ z x,f s=some x->D.atKey (.string s.data.toList) z=.lit (.int .i64 x)
theorem adB {s t:ByteArray} (h:(Lit.string s.data.toList)=.string t.data.toList):s=t:=by
 injection h with h
 cases s;cases t;simp only at h
 congr 1
 exact Array.toList_inj.1 h
section
variable {P:Program} {k e t:TypeId} {w w':World} {g n m:Nat} {f:ByteArray->Option Int}
theorem MapS.made (w:World):MapS P k e (w.alloc (.map #[] 0)) w.heap.size 0 0 (fun _=>none):=
 ⟨.map [],World.ownsMap_made _ _ _ _,rfl,fun s=>⟨rfl,fun z x h=>by cases h⟩⟩
theorem MapS.lt (h:MapS P k e w g n m f):g<w.heap.size:=h.choose_spec.1.lt
theorem MapS.block (h:MapS P k e w g n m f) (hb:w'.heap[g]? = w.heap[g]?):MapS P k e w' g n m f:=by
 obtain ⟨D,⟨es,clock,h1,h2⟩,h3⟩:=h;exact ⟨D,⟨es,clock,hb.trans h1,h2⟩,h3⟩
theorem MapS.below {B:Nat} (h:MapS P k e w g n m f) (hb:Below B w w') (hg:g<B):MapS P k e w' g n m f:=h.block (hb.block g hg)
theorem MapS.on (h:MapS P k e w g n m f) (hb:Below w.heap.size w w'):MapS P k e w' g n m f:=h.below hb h.lt
theorem MapS.al (h:MapS P k e w g n m f) (o:Obj):MapS P k e (w.alloc o) g n m f:=h.on ((Below.refl _ _).alloc (Nat.le_refl _) o)
theorem MapS.drew (h:MapS P k e w g n m f):MapS P k e w.drew g n m f:=h.block rfl
theorem MapS.grown (h:MapS P k e w g n m f) {row:Option Nat} (hg:w.grownBy w' row) (hne:some g≠row):MapS P k e w' g n m f:=by
 obtain ⟨D,h1,h2⟩:=h;exact ⟨D,h1.kept hg hne,h2⟩
theorem MapS.set (h:MapS P k e w g n m f) {a:Addr} (ha:g≠a.block) (u:Value):MapS P k e (w.setCell a u) g n m f:=by
 obtain ⟨D,h1,h2⟩:=h;exact ⟨D,h1.setCell ha u,h2⟩
theorem MapS.mono (h:MapS P k e w g n m f) {n':Nat} (hn:n<=n'):MapS P k e w g n' m f:=by
 obtain ⟨D,h1,h2⟩:=h;exact ⟨D,h1.mono hn,h2⟩
theorem MapS.same (h:MapS P k e w g n m f) {f':ByteArray->Option Int} (hf:∀ s,f' s=f s):MapS P k e w g n m f':=by
 obtain rfl:f'=f:=funext hf;exact h
theorem MapS.wf (h:MapS P k e w g n m f) (he:P.underlying e=some (.int .i64)) (hk:P.underlying k=some .string) (ht:P.underlying t=some (.map k e)) (hz:(zeroValue e).run P w=.ok (.int .i64 0) w) (s:ByteArray) (hs:s.size<=maxLen) :
  (Instr.lookup t (.map (some g)) (.string s) true).run P w=.ok (.tuple #[.int .i64 ((f s).getD 0),.bool (f s).isSome]) w /\
  (Instr.lookup t (.map (some g)) (.string s) false).run P w=.ok (.int .i64 ((f s).getD 0)) w:=by
 obtain ⟨D,h1,h2,h3⟩:=h;have hkey:=WideMaps.keyOf_string_mk hk hs;have hw0:(Lit.int .i64 0).wf=true:=by decide
 obtain ⟨v,ps,hrun,hv⟩:=h1.look_ok (string_keyed' hk) ht hz (plainElem_int he hw0) hkey;obtain ⟨c,rfl,hc,hwc⟩:=plainElem_int_inv he hv;simp only [Prod.mk.injEq] at hc;obtain ⟨c',hrun',hat',-⟩:=h1.lookup_int (string_keyed' hk) ht he hz hkey;have hcc:c'=c:=by
  have:=hat'.symm.trans hc.1;simpa using this
 subst hcc;have hval:c'=(f s).getD 0:=by
  rcases hf:f s with _ | x
  ·have hno:=(h3 s).1;rw [hf] at hno;have:=Maps.atKey_of_not_has hno (.lit (.int .i64 0));rw [this] at hat';simpa using hat'.symm
  have:=(h3 s).2 (.lit (.int .i64 0)) x hf;rw [this] at hat';simpa using hat'.symm
 rw [hrun,hrun',(h3 s).1,hval];exact ⟨rfl,rfl⟩
 where string_keyed' {k:TypeId} (hk:P.underlying k=some .string):Keyed P k:=Maps.string_keyed hk
theorem MapS.len_ (h:MapS P k e w g n m f) (ht:P.underlying t=some (.map k e)) (ty:TypeId):(Builtin.len_ #[t] ty #[.map (some g)]).run P w=.ok (.int .i64 (m:Int)) w:=by
 obtain ⟨D,h1,h2,h3⟩:=h;rw [h1.len ht ty,h2]
theorem MapS.store (h:MapS P k e w g n m f) (he:P.underlying e=some (.int .i64)) (hk:P.underlying k=some .string) (ht:P.underlying t=some (.map k e)) (hn:n<maxLen) (s:ByteArray) (hs:s.size<=maxLen) (x:Int) (hx:(Lit.int .i64 x).wf=true) :
  ∃ w',(Instr.mapUpdate t (.map (some g)) (.string s) (.int .i64 x)).run P w=.ok () w'/\MapS P k e w' g (n+1) (if (f s).isSome then m else m+1) (fun r=>if r=s then some x else f r)/\w.grownBy w' (some g):=by
 obtain ⟨D,h1,h2,h3⟩:=h;have hkey:=WideMaps.keyOf_string_mk hk hs;obtain ⟨w',hrun,hown,hg⟩:=h1.update (Maps.string_keyed hk) ht hn hkey (plainElem_int he hx);refine ⟨w',hrun,⟨_,hown,?_,fun r=>?_⟩,hg⟩
 ·rw [Maps.size_put (h1.tidy (Maps.string_keyed hk)),(h3 s).1,h2]
 by_cases hr:r=s
 ·subst hr;dsimp only;rw [if_pos rfl];refine ⟨Maps.has_put_same h1.isMap (by trivial) _,fun z y hy=>?_⟩;rw [Maps.atKey_put_same h1.isMap (by trivial)];simpa using hy
 dsimp only;rw [if_neg hr];have hne:(Lit.string r.data.toList)≠.string s.data.toList:=fun e=>hr (adB e);refine ⟨(Maps.has_put_other hne _).trans (h3 r).1,fun z y hy=>?_⟩;rw [Maps.atKey_put_other hne];exact (h3 r).2 z y hy
end
section
variable {P:Program} {k e:TypeId} {w:World} {g n m:Nat} {f:ByteArray->Option Int}
theorem yr {ops:Array Oper} {rest:List Oper} {o:Oper} {a:Act} {Q:Exit->Act->World->Prop}
  (hg:o.guard=none) (mo x v:Operand) (t:TypeId) (hop:o.op=Op.mapUpdate t mo x v) (h:MapS P k e w g n m f) (he:P.underlying e=some (.int .i64)) (hk:P.underlying k=some .string) (ht:P.underlying t=some (.map k e)) (hn:n<maxLen)
  (s:ByteArray) (hs:s.size<=maxLen) (y:Int) (hy:(Lit.int .i64 y).wf=true) (hm:a.eval mo=.map (some g)) (hx:a.eval x=.string s) (hv:a.eval v=.int .i64 y)
  (hK:∀ w',MapS P k e w' g (n+1) (if (f s).isSome then m else m+1) (fun r=>if r=s then some y else f r)->w.grownBy w' (some g)->wpList P ops Q rest (a.put o.dst undef) w') :
  wpList P ops Q (o::rest) a w:=by
 refine wpList_plain hg fun K' hK'=>?_;obtain ⟨w',hrun,r1,r2⟩:=h.store he hk ht hn s hs y hy;unfold Oper.wp;simp [execOp,hop,hm,hx,hv,hrun,Result.andThen];exact hK' _ _ (hK w' r1 r2)
theorem XG {ops:Array Oper} {rest:List Oper} {o:Oper} {a:Act} {Q:Exit->Act->World->Prop}
  (hg:o.guard=none) (mo x:Operand) (t:TypeId) (hop:o.op=Op.lookup t mo x true) (h:MapS P k e w g n m f) (he:P.underlying e=some (.int .i64)) (hk:P.underlying k=some .string) (ht:P.underlying t=some (.map k e)) (hz:(zeroValue e).run P w=.ok (.int .i64 0) w)
  (s:ByteArray) (hs:s.size<=maxLen) (r:Option Int) (hr:f s=r) (hm:a.eval mo=.map (some g)) (hx:a.eval x=.string s)
  (hK:wpList P ops Q rest (a.put o.dst (.tuple #[.int .i64 (r.getD 0),.bool r.isSome])) w) :
  wpList P ops Q (o::rest) a w:=by
 subst hr;refine wpList_plain hg fun K' hK'=>?_;have hrun:=(h.wf he hk ht hz s hs).1;unfold Oper.wp;simp [execOp,hop,hm,hx,hrun,Result.andThen];exact hK' _ _ hK
theorem y7 {ops:Array Oper} {rest:List Oper} {o:Oper} {a:Act} {Q:Exit->Act->World->Prop}
  (hg:o.guard=none) (mo x:Operand) (t:TypeId) (hop:o.op=Op.lookup t mo x false) (h:MapS P k e w g n m f) (he:P.underlying e=some (.int .i64)) (hk:P.underlying k=some .string) (ht:P.underlying t=some (.map k e)) (hz:(zeroValue e).run P w=.ok (.int .i64 0) w)
  (s:ByteArray) (hs:s.size<=maxLen) (r:Option Int) (hr:f s=r) (hm:a.eval mo=.map (some g)) (hx:a.eval x=.string s)
  (hK:wpList P ops Q rest (a.put o.dst (.int .i64 (r.getD 0))) w) :
  wpList P ops Q (o::rest) a w:=by
 subst hr;refine wpList_plain hg fun K' hK'=>?_;have hrun:=(h.wf he hk ht hz s hs).2;unfold Oper.wp;simp [execOp,hop,hm,hx,hrun,Result.andThen];exact hK' _ _ hK
end
theorem zk {w w':World} {base base2:Nat} {e e2:TypeId} {v v2:Value} {n n2 size size2:Nat} {xs ys:List Value} (h:w.ownsRow base e size v n xs) (h2:w.ownsRow base2 e2 size2 v2 n2 ys) (hne:e≠e2) (hg:w.grownBy w' v2.ownBlock):w'.ownsRow base e size v n xs:=by
 refine h.kept hg ?_;rcases h.2 with ⟨rfl,_⟩ | ⟨g,cap,cur,rfl,_,hh,_⟩
 ·exact .inl rfl
 right;rcases h2.2 with ⟨rfl,_⟩ | ⟨g2,cap2,cur2,rfl,_,hh2,_⟩
 ·simp [Value.ownBlock]
 simp only [Value.ownBlock,ne_eq,Option.some.injEq];rintro rfl;rw [hh] at hh2
 injection hh2 with hh2
 injection hh2 with _ h3
 exact hne h3
theorem MapS.apart {P:Program} {k e:TypeId} {w:World} {g n m:Nat} {f:ByteArray->Option Int} (h:MapS P k e w g n m f) {base:Nat} {e2:TypeId} {size n2:Nat} {v:Value} {ys:List Value} (h2:w.ownsRow base e2 size v n2 ys):some g≠v.ownBlock:=by
 obtain ⟨D,⟨es,clock,h1,-⟩,-⟩:=h;rcases h2.2 with ⟨rfl,_⟩ | ⟨g2,cap2,cur2,rfl,_,hh2,_⟩
 ·simp [Value.ownBlock]
 simp only [Value.ownBlock,ne_eq,Option.some.injEq];rintro rfl;rw [h1] at hh2
 injection hh2 with hh2
 cases hh2
theorem Xi {P:Program} {k e:TypeId} {w w':World} {g n m:Nat} {f:ByteArray->Option Int} (h:MapS P k e w g n m f) {base:Nat} {e2:TypeId} {size n2:Nat} {v:Value} {ys:List Value} (h2:w.ownsRow base e2 size v n2 ys) (hg:w.grownBy w' (some g)):w'.ownsRow base e2 size v n2 ys:=
 h2.kept hg (.inr (h.apart h2).symm)
end
section
open Go.RowKit
def nns (l:List Nat):List Value:=l.map fun (n:Nat)=>Value.int .i64 (n:Int)
@[simp] theorem ajR (l:List Nat):(nns l).length=l.length:=by simp [nns]
theorem UM {d:List ByteArray} {s x:ByteArray} {k:Nat} (h:zH (d.take k) s=none) (hx:d[k]? = some x) (hne:x≠s):zH (d.take (k+1)) s=none:=by
 rw [yU] at h ⊢;rw [List.take_add_one,hx,List.mem_append,not_or];refine ⟨h,?_⟩;simp only [Option.toList_some,List.mem_singleton];exact fun e=>hne e.symm
theorem Xz:∀ {d:List ByteArray} {s:ByteArray} {k:Nat} (h:zH (d.take k) s=none) (hx:d[k]? = some s),zH d s=some k
 | x::r,s,0,h,hx=>by
  obtain rfl:x=s:=by simpa using hx
  simp [zH]
 | x::r,s,k+1,h,hx=>by
  rw [List.take_succ_cons,zH] at h
  split at h
  ·cases h
  rename_i hne
  rw [Option.map_eq_none_iff] at h;rw [zH,if_neg hne,Xz h (by simpa using hx)];rfl
def VS (d:List ByteArray) (s:ByteArray):Int:=match zH d s with | some k=>(k:Int) | none => -1
theorem aa7 (A:Option Addr) (n c:Nat) (d:List ByteArray) (s:ByteArray) (w:World) (hr:Reads w w.heap.size 1 A n (txs d)) (hn:n<=maxLen) :
  Calls Tryz.prog 259 #[.slice A n c,.string s] w fun e w'=>e=.returned (.int .i64 (VS d s))/\w=w':=by
 unfold maxLen at hn;have Hlen:=za (agS hr);go_enter Tryz.func259,Tryz.ntmps259;go_wp2
 go_loop [5] (fun i=>∃ k:Nat,k<=n/\i=.int .i64 (k:Int)/\Hid (zH (d.take k) s=none)) (fun i=>n-(intOf i).toNat)
 case atStart=>exact ⟨0,Nat.zero_le _,rfl,za rfl⟩
 case round=>
  obtain ⟨k,hk,rfl,hno⟩:=hrel;by_cases hlt:k<n
  ·obtain ⟨ad,v,rfl,hbk,hx,hcell⟩:=hr.at_ hlt;obtain ⟨x,hx',rfl⟩:=Xf _ _ _ hx;clear hx;by_cases hxs:x=s
   ·subst hxs;have Hp:=za (Xz hno.out hx');clear hx';go_wp2;go_ret;exact ⟨by unfold VS;rw [Hp.out];rfl,rfl⟩
   have Hp:=za (UM hno.out hx' hxs);have hne:(x.toList==s.toList)=false:=(by rw [Lib.bytes_beq_false_iff];exact hxs);clear hx' hxs;go_wp2
   go_round
   case rel=>exact ⟨k+1,by omega,by go_num,Hp⟩
   case measure=>simp [intOf];omega
  have hkn:k=n:=by omega
  have he:=hno.out;subst hkn;rw [List.take_of_length_le (by rw [Hlen.out];exact Nat.le_refl _)] at he;have He:=za he;clear he;go_wp2;go_ret;exact ⟨by unfold VS;rw [He.out];rfl,rfl⟩
def abT (l:List ByteArray) (w:World) (e:Ending) (w':World):Prop:=
 ∃ (A:Option Addr) (c:Nat) (A2:Option Addr) (c2:Nat),e=.returned (.tuple #[.slice A (zj l).1.length c,.slice A2 l.length c2])/\(zj l).1.length<=c/\c<=maxLen/\l.length<=c2/\c2<=maxLen /\
  w'.ownsRow w.heap.size 9 1 (.slice A (zj l).1.length c) (zj l).1.length (txs (zj l).1)/\w'.ownsRow w.heap.size 3 1 (.slice A2 l.length c2) l.length (nns (zj l).2)/\Below w.heap.size w w'
theorem qS (l:List ByteArray):(zj l).1.length<=l.length/\(zj l).2.length=l.length:=by
 have h:∀ (l:List ByteArray) (st:List ByteArray×List Nat),(l.foldl zz st).1.length<=st.1.length+l.length/\(l.foldl zz st).2.length=st.2.length+l.length:=by
  intro l
  induction l with
  | nil=>intro st;simp
  | cons s l ih=>
   intro st;rw [List.foldl_cons];have:=ih (zz st s);have h2:(zz st s).1.length<=st.1.length+1/\(zz st s).2.length=st.2.length+1:=by
    unfold zz
    split<;>simp
   simp only [List.length_cons];omega
 have:=h l ([],[]);simpa [zj] using this
theorem XP (l:List ByteArray) (k:Nat) (s:ByteArray) (h:l[k]? = some s):zj (l.take (k+1))=zz (zj (l.take k)) s:=by
 rw [List.take_add_one,h];exact ab7 _ _
theorem yK (s:ByteArray):∀ u∈[Value.string s],u.oneCell'=true:=aiO [s]
theorem abD (A:Option Addr) (n c:Nat) (l:List ByteArray) (w:World) (hr:Reads w w.heap.size 1 A n (txs l)) (hn:n<=1099511627776) :
  Calls Tryz.prog 241 #[.slice A n c] w (abT l w):=by
 obtain ⟨i0,hi0,hz0,hz1,hz2⟩:=info_parts ZX;obtain ⟨j0,hj0,hy0,hy1,hy2⟩:=info_parts X7;have Hlen:=za (agS hr);go_enter Tryz.func241,Tryz.ntmps241;go_wp2
 go_loopw [4,5,6] (fun u v i wr=>∃ (k nd:Nat) (A1:Option Addr) (c1:Nat) (A2:Option Addr) (c2:Nat) (d:List ByteArray) (ns:List Nat),k<=n/\nd<=k/\i=.int .i64 (k:Int)/\u=.slice A1 nd c1/\v=.slice A2 k c2/\Hid (zj (l.take k)=(d,ns)) /\
  wr.ownsRow w.heap.size 9 1 (.slice A1 nd c1) nd (txs d)/\wr.ownsRow w.heap.size 3 1 (.slice A2 k c2) k (nns ns)/\Below w.heap.size w wr) (fun _ _ i _=>n-(intOf i).toNat)
 case atStart=>exact ⟨0,0,none,0,none,0,[],[],Nat.zero_le _,Nat.zero_le _,rfl,rfl,rfl,za rfl,World.ownsRow_nil _ _ _ _,World.ownsRow_nil _ _ _ _,Below.refl _ _⟩
 case round=>
  obtain ⟨k,nd,A1,c1,A2,c2,d,ns,hk,hnd,rfl,rfl,rfl,hs,hown,hown2,hB⟩:=hrel;by_cases hlt:k<n
  ·obtain ⟨ad,v,rfl,hbk,hx,hcell⟩:=hr.at_ hlt;rw [<-hB.cell (p:=ad.add k) (by rw [zg];exact hbk)] at hcell;obtain ⟨s,hs',rfl⟩:=Xf _ _ _ hx;have hst:=XP l k s hs';rw [hs.out] at hst;clear hx hs' hbk hs;have hbase:=hB.size;have hs1:nd+1<=maxLen:=(by simp only [maxLen];omega);have hs2:(nd+1)*16<=70368744177664:=(by omega);have hs3:k+1<=maxLen:=(by simp only [maxLen];omega);have hs4:(k+1)*8<=70368744177664:=(by omega);have Hdl:=za (show d.length=nd from by have:=hown.1;simpa using this);rcases hp:zH d s with _ | j
   ·have hpi:VS d s = -1:=(by unfold VS;rw [hp]);have hst2:zj (l.take (k+1))=(d++[s],ns++[nd]):=(by rw [hst];unfold zz;simp only [hp];rw [Hdl.out]);have Hst:=za hst2;have Hpi:=za hpi;clear hst hst2 hpi hp;(go_wp2_with fail);(with_reducible refine (aa7 _ nd c1 d s _ (ze hown) (by simp only [maxLen];omega)).mono ?_);rintro e w' ⟨rfl,rfl⟩;rw [Hpi.out]
    go_wp2_with (first
     | (at_builtin
        refine zb _ rfl (.tmp 24) (.tmp 29) 240 rfl w.heap.size 9 i0 (.string ⟨#[]⟩) 1 16 Tryz.underlying240 hi0 hz0 hz1 hz2 rfl (by decide) A1 nd c1 _ rfl (hown.alloc _) _ 1 1 [.string s] rfl (zq _ _ _) (yK s) hs1 hs2 (by simp;omega) ?_;intro A3 c3 w3 hown3 hb3 hg3 hc3 hm3;replace hown2:=zk (hown2.alloc (.cells #[.string s] 9)) (hown.alloc _) (by decide) hg3;have hB3:=(hB.alloc hbase (.cells #[.string s] 9)).trans hb3;have hbase3:=hB3.size)
     | (at_builtin
        refine zb _ rfl (.tmp 31) (.tmp 33) 28 rfl w.heap.size 3 j0 (.int .i64 0) 1 8 Tryz.underlying28 hj0 hy0 hy1 hy2 rfl (by decide) A2 k c2 _ rfl (hown2.alloc _) _ 1 1 [.int .i64 (nd:Int)] rfl (zq _ _ _) (Zw _ _) hs3 hs4 (by simp;omega) ?_;intro A4 c4 w4 hown4 hb4 hg4 hc4 hm4))
    replace hown3:=zk (hown3.alloc (.cells #[.int .i64 (nd:Int)] 3)) (hown2.alloc _) (by decide) hg4;have hB4:=(hB3.alloc hbase3 (.cells #[.int .i64 (nd:Int)] 3)).trans hb4;rw [show txs d++[Value.string s]=txs (d++[s]) from by simp [txs]] at hown3;rw [show nns ns++[Value.int .i64 (nd:Int)]=nns (ns++[nd]) from by simp [nns]] at hown4;go_roundw;case rel=>exact ⟨k+1,nd+1,A3,c3,A4,c4,_,_,by omega,by omega,by go_num,rfl,rfl,Hst,hown3,hown4,hB4⟩
    case measure=>simp [intOf];omega
   have hpi:VS d s=(j:Int):=(by unfold VS;rw [hp]);have hst2:zj (l.take (k+1))=(d,ns++[j]):=(by rw [hst];unfold zz;simp only [hp]);have Hst:=za hst2;have Hpi:=za hpi;clear hst hst2 hpi hp;(go_wp2_with fail);(with_reducible refine (aa7 _ nd c1 d s _ (ze hown) (by simp only [maxLen];omega)).mono ?_);rintro e w' ⟨rfl,rfl⟩;rw [Hpi.out]
   go_wp2_with (at_builtin
                refine zb _ rfl (.tmp 31) (.tmp 33) 28 rfl w.heap.size 3 j0 (.int .i64 0) 1 8 Tryz.underlying28 hj0 hy0 hy1 hy2 rfl (by decide) A2 k c2 _ rfl (hown2.alloc _) _ 1 1 [.int .i64 (j:Int)] rfl (zq _ _ _) (Zw _ _) hs3 hs4 (by simp;omega) ?_;intro A4 c4 w4 hown4 hb4 hg4 hc4 hm4)
   replace hown:=zk (hown.alloc (.cells #[.int .i64 (j:Int)] 3)) (hown2.alloc _) (by decide) hg4;have hB4:=(hB.alloc hbase (.cells #[.int .i64 (j:Int)] 3)).trans hb4;rw [show nns ns++[Value.int .i64 (j:Int)]=nns (ns++[j]) from by simp [nns]] at hown4;go_roundw;case rel=>exact ⟨k+1,nd,A1,c1,A4,c4,_,_,by omega,by omega,by go_num,rfl,rfl,Hst,hown,hown4,hB4⟩
   case measure=>simp [intOf];omega
  have hkn:k=n:=by omega
  subst hkn;have hs2:=hs.out;rw [List.take_of_length_le (by rw [Hlen.out];exact Nat.le_refl _)] at hs2;have H2:=za hs2;have Hdl:=za (show d.length=nd from by have:=hown.1;simpa using this);obtain ⟨_,_,hv,h1,h2⟩:=zY hown
  injection hv with hA hn hc'
  subst hA hc';obtain ⟨_,_,hv,h3,h4⟩:=zY hown2
  injection hv with hA hn hc'
  subst hA hc';clear hs2;go_wp2;go_ret2;unfold abT;rw [H2.out,Hlen.out];simp only [Hdl.out];exact ⟨A1,c1,A2,c2,rfl,h1,h2,h3,h4,hown,hown2,hB⟩
end
end Go.Proofs.YtjpjalmilfgckaaGreatDoor
