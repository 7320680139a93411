/- Part 1 of the walks. Conditions: each lemma states its own. -/
import Derived.RegionTactic
import Derived.WalkKit
import Derived.OrdersHeld
import Derived.Below
import Derived.WalkSpells
import Derived.WalkLawsBesides
import Derived.Laws.OwnMore
import Derived.Deep.AppendLies
import Derived.Deep.Draws
import Derived.Laws.Rows
import Derived.Maps.AppendAt
import Derived.Lib.Hide
import Derived.Outline
import Derived.Lib.Walk
import Derived.Lib.Small
import Derived.Lib.Slices
import Derived.Lib.Strings
set_option linter.unusedVariables false
set_option linter.unusedSimpArgs false
namespace Go.Proofs.YtjpjalmilfgckaaGreatDoor
theorem za {p:Prop} (h:p):RowKit.Hid p:=Lib.hid h
abbrev ak1 (W:World) (p:Addr) (v:Value):Prop:=∀ w',RowKit.Below W.heap.size W w'->w'.cell? p=some v
theorem ak2 (W:World):RowKit.Below W.heap.size W W.drew:=(RowKit.Below.refl _ _).drew
section
section
variable {P:Program} {md:Region.Mode} {ops:Array Oper} {Q:Exit->Act->World->Prop}
def Yi (md:Region.Mode) (ops:Array Oper):List (Nat×Bool)->Array Bool->Bool
 | [],listed=>(Region.ready md ops listed).isEmpty
 | (i,true)::rest,listed=>Region.ready md ops listed==[i]&&Yi md ops rest (listed.setIfInBounds i true)
 | (i,false)::rest,listed=>Region.free md ops listed i&&(Region.ready md ops listed).contains i&&Yi md ops rest (listed.setIfInBounds i true)
end
end
section
section
variable {P:Program} {md:Region.Mode} {ops:Array Oper} {Q:Exit->Act->World->Prop} {S:World->Prop}
def zI (P:Program) (ops:Array Oper) (Q:Exit->Act->World->Prop) (S:World->Prop):List (Nat×Bool)->Act->World->Prop
 | [],a,w=>Q .normal a w
 | (i,true)::rest,a,w=>∃ o,ops[i]? = some o/\∀ K:Act->World->Prop,(∀ a w,S w->zI P ops Q S rest a w->K a w)->if Region.wanted o (yielded ops a.tmps) then o.wp P a w K Q else K (a.put o.dst undef) w
 | (i,false)::rest,a,w=>∃ o v,ops[i]? = some o/\YieldsIf P ops S o v a/\S w/\zI P ops Q S rest (a.put o.dst v) w
theorem qE {i:Nat} {o:Oper} {d:Tmp} {rest:List (Nat×Bool)} {a:Act} {w:World} {v:Value} (ho:ops[i]? = some o) (hd:o.dst=some d) (hw:Region.wanted o (yielded ops a.tmps)=true) (hS:S w)
  (hy:∀ w,S w->(execOp a.eval o).run P w=.ok (.value v) w) (h:zI P ops Q S rest { tmps:=a.tmps.setIfInBounds d v,defers:=a.defers } w):zI P ops Q S ((i,false)::rest) a w:=
 ⟨o,v,ho,.inl ⟨hw,hy⟩,hS,by rw [hd];exact h⟩
theorem ahQ {i:Nat} {o:Oper} {d:Tmp} {rest:List (Nat×Bool)} {a:Act} {w:World} (ho:ops[i]? = some o) (hd:o.dst=some d) (hw:Region.wanted o (yielded ops a.tmps)=false) (hS:S w)
  (h:zI P ops Q S rest { tmps:=a.tmps.setIfInBounds d undef,defers:=a.defers } w):zI P ops Q S ((i,false)::rest) a w:=
 ⟨o,undef,ho,.inr ⟨hw,rfl⟩,hS,by rw [hd];exact h⟩
theorem Yo {i:Nat} {o:Oper} {rest:List (Nat×Bool)} {a:Act} {w:World} (ho:ops[i]? = some o)
  (h:∀ K:Act->World->Prop,(∀ a w,S w->zI P ops Q S rest a w->K a w)->if Region.wanted o (yielded ops a.tmps) then o.wp P a w K Q else K (a.put o.dst undef) w):zI P ops Q S ((i,true)::rest) a w:=
 ⟨o,ho,h⟩
theorem agj {i:Nat} {o:Oper} {rest:List (Nat×Bool)} {a:Act} {w:World} (ho:ops[i]? = some o) (hw:Region.wanted o (yielded ops a.tmps)=true)
  (h:∀ K:Act->World->Prop,(∀ a w,S w->zI P ops Q S rest a w->K a w)->o.wp P a w K Q):zI P ops Q S ((i,true)::rest) a w:=
 ⟨o,ho,fun K hK=>by rw [if_pos hw];exact h K hK⟩
theorem zc {a:Act} {w:World} (h:Q .normal a w):zI P ops Q S [] a w:=h
theorem Yb (hs:Region.noSelect ops=true) (hQ:∀ d v c a w,Q (.panic c) (Act.put a d v) w->Q (.panic c) a w) :
  ∀ (l:List (Nat×Bool)) (fuel:Nat) (listed:Array Bool) (a:Act) (w:World),l.length<=fuel->Yi md ops l listed=true->zI P ops Q S l a w->wpAnyH P md ops Q S fuel listed a w:=by
 intro l
 induction l with
 | nil=>
  intro fuel listed a w _ ho h;have hr:Region.ready md ops listed=[]:=by simpa [Yi] using ho
  exact wpAnyH_done hr h fuel
 | cons x rest ih=>
  intro fuel listed a w hf ho h;obtain ⟨i,b⟩:=x;obtain ⟨fuel,rfl⟩:∃ f,fuel=f+1:=⟨fuel-1,by simp at hf;omega⟩;cases b with
  | true=>
   simp only [Yi,Bool.and_eq_true,beq_iff_eq] at ho;obtain ⟨o,hoi,hl⟩:=h;refine wpAnyH_all ho.1 (by simp) fun j hj=>?_;obtain rfl:j=i:=(by simpa using hj);unfold wpOp;simp only [hoi];have:=hl (fun a' w'=>S w'/\wpAnyH P md ops Q S fuel (listed.setIfInBounds j true) a' w') (fun a w hS h=>⟨hS,ih fuel _ a w (by simpa using hf) ho.2 h⟩)
   split at this
   ·rename_i hw
    simp only [hw,if_true];exact .inl this
   rename_i hw
   simp only [hw,if_false,Bool.false_eq_true];exact this
  | false=>
   simp only [Yi,Bool.and_eq_true] at ho;obtain ⟨o,v,hoi,hy,hS,hl⟩:=h;exact wpAnyH_take hoi hs ho.1.1 ho.1.2 (fun c a w=>hQ _ _ c a w) hy hS (ih fuel _ _ w (by simpa using hf) ho.2 hl)
theorem XF (S:World->Prop) (l:List (Nat×Bool)) {id:Nat} {a:Act} {w:World} (hm:P.follows .mixedOrders=true) (hs:Region.noSelect ops=true)
  (ho:(l.length==ops.size&&Yi .any ops l (Array.replicate ops.size false))=true)
  (hQ:∀ d v c a w,Q (.panic c) (Act.put a d v) w->Q (.panic c) a w)
  (h:zI P ops Q S l a w.drew):(Code.region id ops true).wp P Q a w:=by
 simp only [Bool.and_eq_true,beq_iff_eq] at ho;exact wp_region_held hm (Yb hs hQ l ops.size _ a _ (by omega) ho.2 h)
end
end
section
inductive Plan where
 | done
 | pure (i:Nat) (p:Plan)
 | eff (i:Nat) (p:Plan)
 | fork (i j:Nat) (p q:Plan)
section
variable {P:Program} {md:Region.Mode} {ops:Array Oper} {Q:Exit->Act->World->Prop} {S:World->Prop}
def zW (P:Program) (ops:Array Oper) (Q:Exit->Act->World->Prop) (S:World->Prop):Plan->Act->World->Prop
 | .done,a,w=>Q .normal a w
 | .eff i p,a,w=>∃ o,ops[i]? = some o/\∀ K:Act->World->Prop,(∀ a w,S w->zW P ops Q S p a w->K a w)->if Region.wanted o (yielded ops a.tmps) then o.wp P a w K Q else K (a.put o.dst undef) w
 | .pure i p,a,w=>∃ o v,ops[i]? = some o/\YieldsIf P ops S o v a/\S w/\zW P ops Q S p (a.put o.dst v) w
 | .fork i j p q, a, w => (∃ o, ops[i]? = some o ∧ ∀ K : Act → World → Prop, (∀ a w, S w → zW P ops Q S p a w → K a w) → if Region.wanted o (yielded ops a.tmps) then o.wp P a w K Q else K (a.put o.dst undef) w) ∧
   (∃ o,ops[j]? = some o/\∀ K:Act->World->Prop,(∀ a w,S w->zW P ops Q S q a w->K a w)->if Region.wanted o (yielded ops a.tmps) then o.wp P a w K Q else K (a.put o.dst undef) w)
theorem Vm {i:Nat} {o:Oper} {d:Tmp} {p:Plan} {a:Act} {w:World} {v:Value} (ho:ops[i]? = some o) (hd:o.dst=some d) (hw:Region.wanted o (yielded ops a.tmps)=true) (hS:S w)
  (hy:∀ w,S w->(execOp a.eval o).run P w=.ok (.value v) w) (h:zW P ops Q S p { tmps:=a.tmps.setIfInBounds d v,defers:=a.defers } w):zW P ops Q S (.pure i p) a w:=
 ⟨o,v,ho,.inl ⟨hw,hy⟩,hS,by rw [hd];exact h⟩
theorem ahn {i:Nat} {o:Oper} {d:Tmp} {p:Plan} {a:Act} {w:World} (ho:ops[i]? = some o) (hd:o.dst=some d) (hw:Region.wanted o (yielded ops a.tmps)=false) (hS:S w)
  (h:zW P ops Q S p { tmps:=a.tmps.setIfInBounds d undef,defers:=a.defers } w):zW P ops Q S (.pure i p) a w:=
 ⟨o,undef,ho,.inr ⟨hw,rfl⟩,hS,by rw [hd];exact h⟩
theorem act {i:Nat} {o:Oper} {p:Plan} {a:Act} {w:World} (ho:ops[i]? = some o)
  (h:∀ K:Act->World->Prop,(∀ a w,S w->zW P ops Q S p a w->K a w)->if Region.wanted o (yielded ops a.tmps) then o.wp P a w K Q else K (a.put o.dst undef) w):zW P ops Q S (.eff i p) a w:=
 ⟨o,ho,h⟩
theorem afW {i:Nat} {o:Oper} {p:Plan} {a:Act} {w:World} (ho:ops[i]? = some o) (hw:Region.wanted o (yielded ops a.tmps)=true)
  (h:∀ K:Act->World->Prop,(∀ a w,S w->zW P ops Q S p a w->K a w)->o.wp P a w K Q):zW P ops Q S (.eff i p) a w:=
 ⟨o,ho,fun K hK=>by rw [if_pos hw];exact h K hK⟩
theorem zS {i j:Nat} {p q:Plan} {a:Act} {w:World} (h1:zW P ops Q S (.eff i p) a w) (h2:zW P ops Q S (.eff j q) a w):zW P ops Q S (.fork i j p q) a w:=⟨h1,h2⟩
theorem zv {a:Act} {w:World} (h:Q .normal a w):zW P ops Q S .done a w:=h
def XU (md:Region.Mode) (ops:Array Oper):Plan->Array Bool->Bool
 | .done,listed=>(Region.ready md ops listed).isEmpty
 | .eff i p,listed=>Region.ready md ops listed==[i]&&XU md ops p (listed.setIfInBounds i true)
 | .pure i p,listed=>Region.free md ops listed i&&(Region.ready md ops listed).contains i&&XU md ops p (listed.setIfInBounds i true)
 | .fork i j p q,listed=>Region.ready md ops listed==[i,j]&&XU md ops p (listed.setIfInBounds i true)&&XU md ops q (listed.setIfInBounds j true)
def VJ:Plan->Nat
 | .done=>0
 | .eff _ p=>VJ p+1
 | .pure _ p=>VJ p+1
 | .fork _ _ p q=>max (VJ p) (VJ q)+1
theorem JB (hs:Region.noSelect ops=true) (hQ:∀ d v c a w,Q (.panic c) (Act.put a d v) w->Q (.panic c) a w) :
  ∀ (l:Plan) (fuel:Nat) (listed:Array Bool) (a:Act) (w:World),VJ l<=fuel->XU md ops l listed=true->zW P ops Q S l a w->wpAnyH P md ops Q S fuel listed a w:=by
 intro l
 induction l with
 | done=>
  intro fuel listed a w _ ho h;have hr:Region.ready md ops listed=[]:=by simpa [XU] using ho
  exact wpAnyH_done hr h fuel
 | eff i p ih=>
  intro fuel listed a w hf ho h;simp only [VJ] at hf;obtain ⟨fuel,rfl⟩:∃ f,fuel=f+1:=⟨fuel-1,by omega⟩;simp only [XU,Bool.and_eq_true,beq_iff_eq] at ho;obtain ⟨o,hoi,hl⟩:=h;refine wpAnyH_all ho.1 (by simp) fun j hj=>?_;obtain rfl:j=i:=by simpa using hj
  unfold wpOp;simp only [hoi];have:=hl (fun a' w'=>S w'/\wpAnyH P md ops Q S fuel (listed.setIfInBounds j true) a' w') (fun a w hS h=>⟨hS,ih fuel _ a w (by omega) ho.2 h⟩)
  split at this
  ·rename_i hw
   simp only [hw,if_true];exact .inl this
  rename_i hw
  simp only [hw,if_false,Bool.false_eq_true];exact this
 | pure i p ih=>
  intro fuel listed a w hf ho h;simp only [VJ] at hf;obtain ⟨fuel,rfl⟩:∃ f,fuel=f+1:=⟨fuel-1,by omega⟩;simp only [XU,Bool.and_eq_true] at ho;obtain ⟨o,v,hoi,hy,hS,hl⟩:=h;exact wpAnyH_take hoi hs ho.1.1 ho.1.2 (fun c a w=>hQ _ _ c a w) hy hS (ih fuel _ _ w (by omega) ho.2 hl)
 | fork i j p q ih1 ih2=>
  intro fuel listed a w hf ho h;simp only [VJ] at hf;obtain ⟨fuel,rfl⟩:∃ f,fuel=f+1:=⟨fuel-1,by omega⟩;simp only [XU,Bool.and_eq_true,beq_iff_eq] at ho;refine wpAnyH_all ho.1.1 (by simp) fun k hk=>?_;have hk':k=i\/k=j:=by simpa using hk
  rcases hk' with rfl | rfl
  ·obtain ⟨o,hoi,hl⟩:=h.1;unfold wpOp;simp only [hoi];have:=hl (fun a' w'=>S w'/\wpAnyH P md ops Q S fuel (listed.setIfInBounds k true) a' w') (fun a w hS h=>⟨hS,ih1 fuel _ a w (by omega) ho.1.2 h⟩)
   split at this
   ·rename_i hw
    simp only [hw,if_true];exact .inl this
   rename_i hw
   simp only [hw,if_false,Bool.false_eq_true];exact this
  obtain ⟨o,hoi,hl⟩:=h.2;unfold wpOp;simp only [hoi];have:=hl (fun a' w'=>S w'/\wpAnyH P md ops Q S fuel (listed.setIfInBounds k true) a' w') (fun a w hS h=>⟨hS,ih2 fuel _ a w (by omega) ho.2 h⟩)
  split at this
  ·rename_i hw
   simp only [hw,if_true];exact .inl this
  rename_i hw
  simp only [hw,if_false,Bool.false_eq_true];exact this
theorem JA (S:World->Prop) (l:Plan) {id:Nat} {a:Act} {w:World} (hm:P.follows .mixedOrders=true) (hs:Region.noSelect ops=true)
  (ho:(Nat.ble (VJ l) ops.size&&XU .any ops l (Array.replicate ops.size false))=true)
  (hQ:∀ d v c a w,Q (.panic c) (Act.put a d v) w->Q (.panic c) a w)
  (h:zW P ops Q S l a w.drew):(Code.region id ops true).wp P Q a w:=by
 simp only [Bool.and_eq_true,Nat.ble_eq] at ho;exact wp_region_held hm (JB hs hQ l ops.size _ a _ ho.1 ho.2 h)
end
end
section
inductive PlanB where
 | done
 | pure (i:Nat) (p:PlanB)
 | eff (i:Nat) (p:PlanB)
 | fork (i j:Nat) (p q:PlanB)
 | both (i j:Nat) (p:PlanB)
section
variable {P:Program} {md:Region.Mode} {ops:Array Oper} {Q:Exit->Act->World->Prop} {S:World->Prop}
def yB (P:Program) (ops:Array Oper) (Q:Exit->Act->World->Prop) (S:World->Prop):PlanB->Act->World->Prop
 | .done,a,w=>Q .normal a w
 | .eff i p,a,w=>∃ o,ops[i]? = some o/\∀ K:Act->World->Prop,(∀ a w,S w->yB P ops Q S p a w->K a w)->if Region.wanted o (yielded ops a.tmps) then o.wp P a w K Q else K (a.put o.dst undef) w
 | .pure i p,a,w=>∃ o v,ops[i]? = some o/\YieldsIf P ops S o v a/\S w/\yB P ops Q S p (a.put o.dst v) w
 | .fork i j p q, a, w => (∃ o, ops[i]? = some o ∧ ∀ K : Act → World → Prop, (∀ a w, S w → yB P ops Q S p a w → K a w) → if Region.wanted o (yielded ops a.tmps) then o.wp P a w K Q else K (a.put o.dst undef) w) ∧
   (∃ o,ops[j]? = some o/\∀ K:Act->World->Prop,(∀ a w,S w->yB P ops Q S q a w->K a w)->if Region.wanted o (yielded ops a.tmps) then o.wp P a w K Q else K (a.put o.dst undef) w)
 | .both i j p, a, w => (∃ o, ops[i]? = some o ∧ ∀ K : Act → World → Prop, (∀ a w, S w → (∃ o, ops[j]? = some o ∧ ∀ K : Act → World → Prop, (∀ a w, S w → yB P ops Q S p a w → K a w) → if Region.wanted o (yielded ops a.tmps) then o.wp P a w K Q else K (a.put o.dst undef) w) → K a w) → if Region.wanted o (yielded ops a.tmps) then o.wp P a w K Q else K (a.put o.dst undef) w) ∧
   (∃ o,ops[j]? = some o/\∀ K:Act->World->Prop,(∀ a w,S w->(∃ o,ops[i]? = some o/\∀ K:Act->World->Prop,(∀ a w,S w->yB P ops Q S p a w->K a w)->if Region.wanted o (yielded ops a.tmps) then o.wp P a w K Q else K (a.put o.dst undef) w)->K a w)->if Region.wanted o (yielded ops a.tmps) then o.wp P a w K Q else K (a.put o.dst undef) w)
theorem acr {i:Nat} {o:Oper} {d:Tmp} {p:PlanB} {a:Act} {w:World} {v:Value} (ho:ops[i]? = some o) (hd:o.dst=some d) (hw:Region.wanted o (yielded ops a.tmps)=true) (hS:S w)
  (hy:∀ w,S w->(execOp a.eval o).run P w=.ok (.value v) w) (h:yB P ops Q S p { tmps:=a.tmps.setIfInBounds d v,defers:=a.defers } w):yB P ops Q S (.pure i p) a w:=
 ⟨o,v,ho,.inl ⟨hw,hy⟩,hS,by rw [hd];exact h⟩
theorem ahl {i:Nat} {o:Oper} {p:PlanB} {a:Act} {w:World} (ho:ops[i]? = some o) (hw:Region.wanted o (yielded ops a.tmps)=true)
  (h:∀ K:Act->World->Prop,(∀ a w,S w->yB P ops Q S p a w->K a w)->o.wp P a w K Q):yB P ops Q S (.eff i p) a w:=
 ⟨o,ho,fun K hK=>by rw [if_pos hw];exact h K hK⟩
theorem acs {i j:Nat} {p q:PlanB} {a:Act} {w:World} (h1:yB P ops Q S (.eff i p) a w) (h2:yB P ops Q S (.eff j q) a w):yB P ops Q S (.fork i j p q) a w:=⟨h1,h2⟩
theorem ahm {i j:Nat} {p:PlanB} {a:Act} {w:World} (h1:yB P ops Q S (.eff i (.eff j p)) a w) (h2:yB P ops Q S (.eff j (.eff i p)) a w):yB P ops Q S (.both i j p) a w:=⟨h1,h2⟩
theorem Vl {a:Act} {w:World} (h:Q .normal a w):yB P ops Q S .done a w:=h
def UK (md:Region.Mode) (ops:Array Oper):PlanB->Array Bool->Bool
 | .done,listed=>(Region.ready md ops listed).isEmpty
 | .eff i p,listed=>Region.ready md ops listed==[i]&&UK md ops p (listed.setIfInBounds i true)
 | .pure i p,listed=>Region.free md ops listed i&&(Region.ready md ops listed).contains i&&UK md ops p (listed.setIfInBounds i true)
 | .fork i j p q,listed=>Region.ready md ops listed==[i,j]&&UK md ops p (listed.setIfInBounds i true)&&UK md ops q (listed.setIfInBounds j true)
 | .both i j p,listed=>(i != j)&&(Region.ready md ops listed==[i,j]&&(Region.ready md ops (listed.setIfInBounds i true)==[j]&&(Region.ready md ops (listed.setIfInBounds j true)==[i]&&UK md ops p ((listed.setIfInBounds i true).setIfInBounds j true))))
def Jj:PlanB->Nat
 | .done=>0
 | .eff _ p=>Jj p+1
 | .pure _ p=>Jj p+1
 | .fork _ _ p q=>max (Jj p) (Jj q)+1
 | .both _ _ p=>Jj p+2
theorem aaF (hs:Region.noSelect ops=true) (hQ:∀ d v c a w,Q (.panic c) (Act.put a d v) w->Q (.panic c) a w) :
  ∀ (l:PlanB) (fuel:Nat) (listed:Array Bool) (a:Act) (w:World),Jj l<=fuel->UK md ops l listed=true->yB P ops Q S l a w->wpAnyH P md ops Q S fuel listed a w:=by
 intro l
 induction l with
 | done=>
  intro fuel listed a w _ ho h;have hr:Region.ready md ops listed=[]:=by simpa [UK] using ho
  exact wpAnyH_done hr h fuel
 | eff i p ih=>
  intro fuel listed a w hf ho h;simp only [Jj] at hf;obtain ⟨fuel,rfl⟩:∃ f,fuel=f+1:=⟨fuel-1,by omega⟩;simp only [UK,Bool.and_eq_true,beq_iff_eq] at ho;obtain ⟨o,hoi,hl⟩:=h;refine wpAnyH_all ho.1 (by simp) fun j hj=>?_;obtain rfl:j=i:=by simpa using hj
  unfold wpOp;simp only [hoi];have:=hl (fun a' w'=>S w'/\wpAnyH P md ops Q S fuel (listed.setIfInBounds j true) a' w') (fun a w hS h=>⟨hS,ih fuel _ a w (by omega) ho.2 h⟩)
  split at this
  ·rename_i hw
   simp only [hw,if_true];exact .inl this
  rename_i hw
  simp only [hw,if_false,Bool.false_eq_true];exact this
 | pure i p ih=>
  intro fuel listed a w hf ho h;simp only [Jj] at hf;obtain ⟨fuel,rfl⟩:∃ f,fuel=f+1:=⟨fuel-1,by omega⟩;simp only [UK,Bool.and_eq_true] at ho;obtain ⟨o,v,hoi,hy,hS,hl⟩:=h;exact wpAnyH_take hoi hs ho.1.1 ho.1.2 (fun c a w=>hQ _ _ c a w) hy hS (ih fuel _ _ w (by omega) ho.2 hl)
 | fork i j p q ih1 ih2=>
  intro fuel listed a w hf ho h;simp only [Jj] at hf;obtain ⟨fuel,rfl⟩:∃ f,fuel=f+1:=⟨fuel-1,by omega⟩;simp only [UK,Bool.and_eq_true,beq_iff_eq] at ho;refine wpAnyH_all ho.1.1 (by simp) fun k hk=>?_;have hk':k=i\/k=j:=by simpa using hk
  rcases hk' with rfl | rfl
  ·obtain ⟨o,hoi,hl⟩:=h.1;unfold wpOp;simp only [hoi];have:=hl (fun a' w'=>S w'/\wpAnyH P md ops Q S fuel (listed.setIfInBounds k true) a' w') (fun a w hS h=>⟨hS,ih1 fuel _ a w (by omega) ho.1.2 h⟩)
   split at this
   ·rename_i hw
    simp only [hw,if_true];exact .inl this
   rename_i hw
   simp only [hw,if_false,Bool.false_eq_true];exact this
  obtain ⟨o,hoi,hl⟩:=h.2;unfold wpOp;simp only [hoi];have:=hl (fun a' w'=>S w'/\wpAnyH P md ops Q S fuel (listed.setIfInBounds k true) a' w') (fun a w hS h=>⟨hS,ih2 fuel _ a w (by omega) ho.2 h⟩)
  split at this
  ·rename_i hw
   simp only [hw,if_true];exact .inl this
  rename_i hw
  simp only [hw,if_false,Bool.false_eq_true];exact this
 | both i j p ih=>
  intro fuel listed a w hf ho h;simp only [Jj] at hf;obtain ⟨fuel,rfl⟩:∃ f,fuel=f+1+1:=⟨fuel-2,by omega⟩;simp only [UK,Bool.and_eq_true,beq_iff_eq,bne_iff_ne,ne_eq] at ho;have hne:i≠j:=ho.1;refine wpAnyH_all ho.2.1 (by simp) fun k hk=>?_;have hk':k=i\/k=j:=by simpa using hk
  rcases hk' with rfl | rfl
  ·obtain ⟨o,hoi,hl⟩:=h.1;unfold wpOp;simp only [hoi]
   have:=hl (fun a' w'=>S w'/\wpAnyH P md ops Q S (fuel+1) (listed.setIfInBounds k true) a' w') (fun a w hS h3=>⟨hS,by
    refine wpAnyH_all ho.2.2.1 (by simp) fun k2 hk2=>?_;obtain rfl:k2=j:=(by simpa using hk2);obtain ⟨o2,hoi2,hl2⟩:=h3;unfold wpOp;simp only [hoi2];have:=hl2 (fun a' w'=>S w'/\wpAnyH P md ops Q S fuel ((listed.setIfInBounds k true).setIfInBounds k2 true) a' w') (fun a w hS h=>⟨hS,ih fuel _ a w (by omega) (by exact ho.2.2.2.2) h⟩)
    split at this
    ·rename_i hw
     simp only [hw,if_true];exact .inl this
    rename_i hw
    simp only [hw,if_false,Bool.false_eq_true];exact this⟩)
   split at this
   ·rename_i hw
    simp only [hw,if_true];exact .inl this
   rename_i hw
   simp only [hw,if_false,Bool.false_eq_true];exact this
  obtain ⟨o,hoi,hl⟩:=h.2;unfold wpOp;simp only [hoi]
  have:=hl (fun a' w'=>S w'/\wpAnyH P md ops Q S (fuel+1) (listed.setIfInBounds k true) a' w') (fun a w hS h3=>⟨hS,by
   refine wpAnyH_all ho.2.2.2.1 (by simp) fun k2 hk2=>?_;obtain rfl:k2=i:=(by simpa using hk2);obtain ⟨o2,hoi2,hl2⟩:=h3;unfold wpOp;simp only [hoi2];have:=hl2 (fun a' w'=>S w'/\wpAnyH P md ops Q S fuel ((listed.setIfInBounds k true).setIfInBounds k2 true) a' w') (fun a w hS h=>⟨hS,ih fuel _ a w (by omega) (by rw [Array.setIfInBounds_comm _ _ hne.symm];exact ho.2.2.2.2) h⟩)
   split at this
   ·rename_i hw
    simp only [hw,if_true];exact .inl this
   rename_i hw
   simp only [hw,if_false,Bool.false_eq_true];exact this⟩)
  split at this
  ·rename_i hw
   simp only [hw,if_true];exact .inl this
  rename_i hw
  simp only [hw,if_false,Bool.false_eq_true];exact this
theorem aaE (S:World->Prop) (l:PlanB) {id:Nat} {a:Act} {w:World} (hm:P.follows .mixedOrders=true) (hs:Region.noSelect ops=true)
  (ho:(Nat.ble (Jj l) ops.size&&UK .any ops l (Array.replicate ops.size false))=true)
  (hQ:∀ d v c a w,Q (.panic c) (Act.put a d v) w->Q (.panic c) a w)
  (h:yB P ops Q S l a w.drew):(Code.region id ops true).wp P Q a w:=by
 simp only [Bool.and_eq_true,Nat.ble_eq] at ho;exact wp_region_held hm (aaF hs hQ l ops.size _ a _ ho.1 ho.2 h)
end
end
section
def YH (md:Region.Mode) (ops:Array Oper) (k i:Nat):Bool:=match ops[k]? with
 | some o=>o.after.any fun e=>Region.binds md e&&e.on==i
 | none=>false
theorem aa9 {md:Region.Mode} {ops:Array Oper} {listed:Array Bool} {j i:Nat} (hj:j∈Region.ready md ops listed) (hi:listed.getD i true=false):YH md ops j i=false:=by
 obtain ⟨-,o,ho,hall⟩:=mem_ready.1 hj;unfold YH;rw [ho];simp only;rw [Bool.eq_false_iff];intro h;obtain ⟨e,he,hb⟩:=Array.any_eq_true'.1 h;simp only [Bool.and_eq_true,beq_iff_eq] at hb;have h1:=hall e he hb.1;rw [hb.2] at h1;rcases Nat.lt_or_ge i listed.size with h' | h'
 ·simp [h'] at hi h1;rw [hi] at h1;cases h1
 simp [Array.getElem?_eq_none h'] at h1
section
variable {P:Program} {md:Region.Mode} {ops:Array Oper} {Q:Exit->Act->World->Prop} {S S2:World->Prop}
def ajF (md:Region.Mode) (ops:Array Oper) (T:List Nat) (listed:Array Bool):Prop:=∀ i∈T,∃ k,listed.getD k false=true/\YH md ops k i=true
def UD (P:Program) (md:Region.Mode) (ops:Array Oper) (Q:Exit->Act->World->Prop) (S:World->Prop) (T:List Nat):Nat->Array Bool->Act->World->Prop
 | 0,listed,a,w=>Region.ready md ops listed=[]/\Q .normal a w
 | fuel+1,listed,a,w=>(ajF md ops T listed/\wpAny P md ops Q (fuel+1) listed a w) \/
  ((Region.ready md ops listed=[]->Q .normal a w)/\∀ i∈Region.ready md ops listed,wpOp P ops Q i (fun a' w'=>S w'/\UD P md ops Q S T fuel (listed.setIfInBounds i true) a' w') a w)
theorem XH {T:List Nat}:∀ (fuel:Nat) (listed:Array Bool) (a:Act) (w:World),UD P md ops Q S T fuel listed a w->wpAny P md ops Q fuel listed a w
 | 0,_,_,_,h=>h
 | _+1,_,_,_,.inl h=>h.2
 | fuel+1,_,_,_,.inr h=>⟨h.1,fun i hi=>wpOp_mono (fun a' w' h'=>XH fuel _ a' w' h'.2) (h.2 i hi)⟩
theorem abw {T:List Nat} {i:Nat} {oi:Oper} {v:Value} (hi:ops[i]? = some oi) (hT:i∈T) (hs:Region.noSelect ops=true) (hQ:∀ c a w,Q (.panic c) (a.put oi.dst v) w->Q (.panic c) a w) :
  ∀ (fuel:Nat) (listed:Array Bool) (a:Act) (w:World),
   (∀ j oj,ops[j]? = some oj->j≠i->listed.getD j true=false->(∀ e∈oj.after,Region.binds md e=true->e.on≠i)->oi.apart ops oj=true) ->
   (∀ k,listed.getD k false=true->YH md ops k i=false)->i∈Region.ready md ops listed->YieldsIf P ops S oi v a->S w ->
   UD P md ops Q S T fuel (listed.setIfInBounds i true) (a.put oi.dst v) w->UD P md ops Q S T (fuel+1) listed a w:=by
 have hsel:=Region.noSelect_spec hs;intro fuel
 induction fuel with
 | zero=>
  intro listed a w _ _ hr hy hS H;refine .inr ⟨fun h=>absurd (h ▸ hr) (by simp),fun j hj=>?_⟩;by_cases hji:j=i
  ·subst hji;exact hy.wpOp hi hS ⟨hS,H⟩
  exact absurd (H.1 ▸ ready_mono hj hji) (by simp)
 | succ fuel ih=>
  intro listed a w hfree hno hr hy hS H;have hun:=(mem_ready.1 hr).1;refine .inr ⟨fun h=>absurd (h ▸ hr) (by simp),fun j hj=>?_⟩;by_cases hji:j=i
  ·subst hji;exact hy.wpOp hi hS ⟨hS,H⟩
  rcases H with ⟨H,-⟩ | H
  ·exfalso;obtain ⟨k,hk,hw⟩:=H i hT;by_cases hki:i=k
   ·subst hki;rw [aa9 hr hun] at hw;cases hw
   rw [getD_set_ne false hki] at hk;rw [hno k hk] at hw;cases hw
  have h1:=H.2 j (ready_mono hj hji);have hjw:=aa9 hj hun;obtain ⟨hjun,oj,hoj,-⟩:=mem_ready.1 hj;have hnot:∀ e∈oj.after,Region.binds md e=true->e.on≠i:=fun e he hb heq=>by
   unfold YH at hjw;rw [hoj] at hjw;have:(oj.after.any fun e=>Region.binds md e&&e.on==i)=true:=Array.any_eq_true'.2 ⟨e,he,by simp [hb,heq]⟩;simp only at hjw;rw [this] at hjw;cases hjw
  have h2:=wpOp_putIf hoj (hfree j oj hoj hji hjun hnot) (fun cs b=>hsel i oi cs b hi) (fun cs b=>hsel j oj cs b hoj) hQ hy h1;refine wpOp_mono (fun a' w' h3=>⟨h3.2.1,ih (listed.setIfInBounds j true) a' w' (fun k ok hk hki hku hkn=>?_) (fun k hk=>?_) (ready_mono hr (Ne.symm hji)) h3.1 h3.2.1 ?_⟩) h2
  ·refine hfree k ok hk hki ?_ hkn;by_cases hjk:j=k
   ·subst hjk;exact hjun
   rw [getD_set_ne true hjk] at hku;exact hku
  ·by_cases hjk:j=k
   ·subst hjk;exact hjw
   rw [getD_set_ne false hjk] at hk;exact hno k hk
  rw [Array.setIfInBounds_comm _ _ hji];exact h3.2.2
def yX (P:Program) (ops:Array Oper) (Q:Exit->Act->World->Prop) (S:World->Prop) (X:Act->World->Prop):List (Nat×Bool)->Act->World->Prop
 | [],a,w=>X a w
 | (i,true)::rest,a,w=>∃ o,ops[i]? = some o/\∀ K:Act->World->Prop,(∀ a w,S w->yX P ops Q S X rest a w->K a w)->if Region.wanted o (yielded ops a.tmps) then o.wp P a w K Q else K (a.put o.dst undef) w
 | (i,false)::rest,a,w=>∃ o v,ops[i]? = some o/\YieldsIf P ops S o v a/\S w/\yX P ops Q S X rest (a.put o.dst v) w
variable {X:Act->World->Prop}
theorem JX {i:Nat} {o:Oper} {d:Tmp} {rest:List (Nat×Bool)} {a:Act} {w:World} {v:Value} (ho:ops[i]? = some o) (hd:o.dst=some d) (hw:Region.wanted o (yielded ops a.tmps)=true) (hS:S w)
  (hy:∀ w,S w->(execOp a.eval o).run P w=.ok (.value v) w) (h:yX P ops Q S X rest { tmps:=a.tmps.setIfInBounds d v,defers:=a.defers } w):yX P ops Q S X ((i,false)::rest) a w:=
 ⟨o,v,ho,.inl ⟨hw,hy⟩,hS,by rw [hd];exact h⟩
theorem adZ {i:Nat} {o:Oper} {rest:List (Nat×Bool)} {a:Act} {w:World} (ho:ops[i]? = some o) (hw:Region.wanted o (yielded ops a.tmps)=true)
  (h:∀ K:Act->World->Prop,(∀ a w,S w->yX P ops Q S X rest a w->K a w)->o.wp P a w K Q):yX P ops Q S X ((i,true)::rest) a w:=
 ⟨o,ho,fun K hK=>by rw [if_pos hw];exact h K hK⟩
theorem akk {a:Act} {w:World} (h:X a w):yX P ops Q S X [] a w:=h
def VT (md:Region.Mode) (ops:Array Oper) (T:List Nat) (l2:List (Nat×Bool)):List (Nat×Bool)->Array Bool->Bool
 | [],listed=>(T.all fun i=>(List.range ops.size).any fun k=>listed.getD k false&&YH md ops k i)&&Yi md ops l2 listed
 | (i,true)::rest,listed=>Region.ready md ops listed==[i]&&VT md ops T l2 rest (listed.setIfInBounds i true)
 | (i,false)::rest,listed=>T.contains i&&Region.free md ops listed i&&(Region.ready md ops listed).contains i&&((List.range ops.size).all fun k => !(listed.getD k false) || !(YH md ops k i))&&VT md ops T l2 rest (listed.setIfInBounds i true)
theorem agN {k i:Nat} (h:YH md ops k i=true):k<ops.size:=by
 unfold YH at h
 split at h
 ·rename_i o ho
  exact (Array.getElem?_eq_some_iff.1 ho).1
 cases h
theorem Ji {T:List Nat} {l2:List (Nat×Bool)} (hl2:0<l2.length) (hs:Region.noSelect ops=true) (hQ:∀ d v c a w,Q (.panic c) (Act.put a d v) w->Q (.panic c) a w) :
  ∀ (l:List (Nat×Bool)) (fuel:Nat) (listed:Array Bool) (a:Act) (w:World),l.length+l2.length<=fuel->VT md ops T l2 l listed=true->yX P ops Q S (zI P ops Q S2 l2) l a w->UD P md ops Q S T fuel listed a w:=by
 intro l
 induction l with
 | nil=>
  intro fuel listed a w hf ho h;obtain ⟨fuel,rfl⟩:∃ f,fuel=f+1:=⟨fuel-1,by simp at hf;omega⟩;simp only [VT,Bool.and_eq_true] at ho;refine .inl ⟨fun i hi=>?_,wpAny_of_held _ _ _ _ (Yb hs hQ l2 (fuel+1) listed a w (by simp at hf;omega) ho.2 h)⟩;have h1:=List.all_eq_true.1 ho.1 i hi;obtain ⟨k,-,hk⟩:=List.any_eq_true.1 h1;simp only [Bool.and_eq_true] at hk;exact ⟨k,hk.1,hk.2⟩
 | cons x rest ih=>
  intro fuel listed a w hf ho h;obtain ⟨i,b⟩:=x;simp only [List.length_cons] at hf;obtain ⟨fuel,rfl⟩:∃ f,fuel=f+1:=⟨fuel-1,by omega⟩;cases b with
  | true=>
   simp only [VT,Bool.and_eq_true,beq_iff_eq] at ho;obtain ⟨o,hoi,hl⟩:=h;refine .inr ⟨fun h0=>absurd (ho.1.symm.trans h0) (by simp),fun j hj=>?_⟩;rw [ho.1] at hj;obtain rfl:j=i:=(by simpa using hj);unfold wpOp;simp only [hoi];have:=hl (fun a' w'=>S w'/\UD P md ops Q S T fuel (listed.setIfInBounds j true) a' w') (fun a w hS h=>⟨hS,ih fuel _ a w (by omega) ho.2 h⟩)
   split at this
   ·rename_i hw
    simp only [hw,if_true];exact .inl this
   rename_i hw
   simp only [hw,if_false,Bool.false_eq_true];exact this
  | false=>
   simp only [VT,Bool.and_eq_true] at ho;obtain ⟨⟨⟨⟨h1,h2⟩,h3⟩,h4⟩,h5⟩:=ho;obtain ⟨o,v,hoi,hy,hS,hl⟩:=h;refine abw hoi (by simpa using h1) hs (fun c a w=>hQ _ _ c a w) fuel listed a w (Region.free_spec hoi h2) (fun k hk=>?_) (by simpa using h3) hy hS (ih fuel _ _ w (by omega) h5 hl);rcases hw:YH md ops k i with _ | _
   ·rfl
   have:=List.all_eq_true.1 h4 k (List.mem_range.2 (agN hw));rw [hk,hw] at this;cases this
theorem agI (S:World->Prop) (T:List Nat) (l:List (Nat×Bool)) (S2:World->Prop) (l2:List (Nat×Bool)) {id:Nat} {a:Act} {w:World} (hm:P.follows .mixedOrders=true) (hs:Region.noSelect ops=true)
  (ho:(Nat.blt 0 l2.length&&l.length+l2.length==ops.size&&VT .any ops T l2 l (Array.replicate ops.size false))=true)
  (hQ:∀ d v c a w,Q (.panic c) (Act.put a d v) w->Q (.panic c) a w)
  (h:yX P ops Q S (zI P ops Q S2 l2) l a w.drew):(Code.region id ops true).wp P Q a w:=by
 simp only [Bool.and_eq_true,beq_iff_eq] at ho;exact wp_region_any hm (XH _ _ _ _ (Ji (T:=T) (by have:=ho.1.1;simpa [Nat.blt_eq] using this) hs hQ l ops.size _ a _ (by omega) ho.2 h))
end
end
section
theorem zp:(∀ (a:Act) (d:Tmp) (v:Value),a.put (some d) v={ tmps:=a.tmps.setIfInBounds d v,defers:=a.defers })/\(∀ (l:List Value) (i:Nat) (a:Value),l.toArray.setIfInBounds i a=(l.set i a).toArray) /\
 (∀ (x:Value) (l:List Value) (i:Nat) (a:Value),(x::l).set (i+1) a=x::l.set i a)/\∀ (x:Value) (l:List Value) (a:Value),(x::l).set 0 a=a::l:=⟨fun _ _ _=>rfl,fun _ _ _=>List.setIfInBounds_toArray ..,fun _ _ _ _=>rfl,fun _ _ _=>rfl⟩
section
variable {P:Program} {ops:Array Oper} {Q:Exit->Act->World->Prop} {S:World->Prop}
theorem hP {i:Nat} {o:Oper} {d:Tmp} {rest:List (Nat×Bool)} {a g:Act} {w:World} {v:Value} (hS:S w) (h:zI P ops Q S rest g w) (ho:ops[i]? = some o:=by exact rfl) (hd:o.dst=some d:=by exact rfl) (hw:Region.wanted o (yielded ops a.tmps)=true:=by simp [Region.wanted,yielded])
  (hy:∀ w,S w->(execOp a.eval o).run P w=.ok (.value v) w:=by intro w hw;go_simp;try with_reducible rfl) (hg:Act.mk (a.tmps.setIfInBounds d v) a.defers=g:=by (try simp only [zp])<;>exact rfl):zI P ops Q S ((i,false)::rest) a w:=by
 subst hg;exact qE ho hd hw hS (fun w hw=>hy w hw) h
theorem hP1 {i:Nat} {o:Oper} {d:Tmp} {rest:List (Nat×Bool)} {a g:Act} {w:World} {v:Value} {C0:World->Prop} (hS:S w) (c0:∀ w,S w->C0 w) (h:zI P ops Q S rest g w) (ho:ops[i]? = some o:=by exact rfl) (hd:o.dst=some d:=by exact rfl) (hw:Region.wanted o (yielded ops a.tmps)=true:=by simp [Region.wanted,yielded])
  (hy:∀ w,S w->C0 w->(execOp a.eval o).run P w=.ok (.value v) w:=by intro w hw c0;clear hw;go_simp;try with_reducible rfl) (hg:Act.mk (a.tmps.setIfInBounds d v) a.defers=g:=by (try simp only [zp])<;>exact rfl):zI P ops Q S ((i,false)::rest) a w:=by
 subst hg;exact qE ho hd hw hS (fun w hw=>hy w hw (c0 w hw)) h
theorem hP2 {i:Nat} {o:Oper} {d:Tmp} {rest:List (Nat×Bool)} {a g:Act} {w:World} {v:Value} {C0:World->Prop} {C1:World->Prop} (hS:S w) (c0:∀ w,S w->C0 w) (c1:∀ w,S w->C1 w) (h:zI P ops Q S rest g w) (ho:ops[i]? = some o:=by exact rfl) (hd:o.dst=some d:=by exact rfl) (hw:Region.wanted o (yielded ops a.tmps)=true:=by simp [Region.wanted,yielded])
  (hy:∀ w,S w->C0 w->C1 w->(execOp a.eval o).run P w=.ok (.value v) w:=by intro w hw c0 c1;clear hw;go_simp;try with_reducible rfl) (hg:Act.mk (a.tmps.setIfInBounds d v) a.defers=g:=by (try simp only [zp])<;>exact rfl):zI P ops Q S ((i,false)::rest) a w:=by
 subst hg;exact qE ho hd hw hS (fun w hw=>hy w hw (c0 w hw) (c1 w hw)) h
theorem hP3 {i:Nat} {o:Oper} {d:Tmp} {rest:List (Nat×Bool)} {a g:Act} {w:World} {v:Value} {C0:World->Prop} {C1:World->Prop} {C2:World->Prop} (hS:S w) (c0:∀ w,S w->C0 w) (c1:∀ w,S w->C1 w) (c2:∀ w,S w->C2 w) (h:zI P ops Q S rest g w) (ho:ops[i]? = some o:=by exact rfl) (hd:o.dst=some d:=by exact rfl) (hw:Region.wanted o (yielded ops a.tmps)=true:=by simp [Region.wanted,yielded])
  (hy:∀ w,S w->C0 w->C1 w->C2 w->(execOp a.eval o).run P w=.ok (.value v) w:=by intro w hw c0 c1 c2;clear hw;go_simp;try with_reducible rfl) (hg:Act.mk (a.tmps.setIfInBounds d v) a.defers=g:=by (try simp only [zp])<;>exact rfl):zI P ops Q S ((i,false)::rest) a w:=by
 subst hg;exact qE ho hd hw hS (fun w hw=>hy w hw (c0 w hw) (c1 w hw) (c2 w hw)) h
theorem hP5 {i:Nat} {o:Oper} {d:Tmp} {rest:List (Nat×Bool)} {a g:Act} {w:World} {v:Value} {C0:World->Prop} {C1:World->Prop} {C2:World->Prop} {C3:World->Prop} {C4:World->Prop} (hS:S w) (c0:∀ w,S w->C0 w) (c1:∀ w,S w->C1 w) (c2:∀ w,S w->C2 w) (c3:∀ w,S w->C3 w) (c4:∀ w,S w->C4 w) (h:zI P ops Q S rest g w) (ho:ops[i]? = some o:=by exact rfl) (hd:o.dst=some d:=by exact rfl) (hw:Region.wanted o (yielded ops a.tmps)=true:=by simp [Region.wanted,yielded])
  (hy:∀ w,S w->C0 w->C1 w->C2 w->C3 w->C4 w->(execOp a.eval o).run P w=.ok (.value v) w:=by intro w hw c0 c1 c2 c3 c4;clear hw;go_simp;try with_reducible rfl) (hg:Act.mk (a.tmps.setIfInBounds d v) a.defers=g:=by (try simp only [zp])<;>exact rfl):zI P ops Q S ((i,false)::rest) a w:=by
 subst hg;exact qE ho hd hw hS (fun w hw=>hy w hw (c0 w hw) (c1 w hw) (c2 w hw) (c3 w hw) (c4 w hw)) h
theorem hP6 {i:Nat} {o:Oper} {d:Tmp} {rest:List (Nat×Bool)} {a g:Act} {w:World} {v:Value} {C0:World->Prop} {C1:World->Prop} {C2:World->Prop} {C3:World->Prop} {C4:World->Prop} {C5:World->Prop} (hS:S w) (c0:∀ w,S w->C0 w) (c1:∀ w,S w->C1 w) (c2:∀ w,S w->C2 w) (c3:∀ w,S w->C3 w) (c4:∀ w,S w->C4 w) (c5:∀ w,S w->C5 w) (h:zI P ops Q S rest g w) (ho:ops[i]? = some o:=by exact rfl) (hd:o.dst=some d:=by exact rfl) (hw:Region.wanted o (yielded ops a.tmps)=true:=by simp [Region.wanted,yielded])
  (hy:∀ w,S w->C0 w->C1 w->C2 w->C3 w->C4 w->C5 w->(execOp a.eval o).run P w=.ok (.value v) w:=by intro w hw c0 c1 c2 c3 c4 c5;clear hw;go_simp;try with_reducible rfl) (hg:Act.mk (a.tmps.setIfInBounds d v) a.defers=g:=by (try simp only [zp])<;>exact rfl):zI P ops Q S ((i,false)::rest) a w:=by
 subst hg;exact qE ho hd hw hS (fun w hw=>hy w hw (c0 w hw) (c1 w hw) (c2 w hw) (c3 w hw) (c4 w hw) (c5 w hw)) h
theorem hP7 {i:Nat} {o:Oper} {d:Tmp} {rest:List (Nat×Bool)} {a g:Act} {w:World} {v:Value} {C0:World->Prop} {C1:World->Prop} {C2:World->Prop} {C3:World->Prop} {C4:World->Prop} {C5:World->Prop} {C6:World->Prop} (hS:S w) (c0:∀ w,S w->C0 w) (c1:∀ w,S w->C1 w) (c2:∀ w,S w->C2 w) (c3:∀ w,S w->C3 w) (c4:∀ w,S w->C4 w) (c5:∀ w,S w->C5 w) (c6:∀ w,S w->C6 w) (h:zI P ops Q S rest g w) (ho:ops[i]? = some o:=by exact rfl) (hd:o.dst=some d:=by exact rfl) (hw:Region.wanted o (yielded ops a.tmps)=true:=by simp [Region.wanted,yielded])
  (hy:∀ w,S w->C0 w->C1 w->C2 w->C3 w->C4 w->C5 w->C6 w->(execOp a.eval o).run P w=.ok (.value v) w:=by intro w hw c0 c1 c2 c3 c4 c5 c6;clear hw;go_simp;try with_reducible rfl) (hg:Act.mk (a.tmps.setIfInBounds d v) a.defers=g:=by (try simp only [zp])<;>exact rfl):zI P ops Q S ((i,false)::rest) a w:=by
 subst hg;exact qE ho hd hw hS (fun w hw=>hy w hw (c0 w hw) (c1 w hw) (c2 w hw) (c3 w hw) (c4 w hw) (c5 w hw) (c6 w hw)) h
theorem hO {i:Nat} {o:Oper} {d:Tmp} {rest:List (Nat×Bool)} {a g:Act} {w:World}  (hS:S w) (h:zI P ops Q S rest g w) (ho:ops[i]? = some o:=by exact rfl) (hd:o.dst=some d:=by exact rfl) (hw:Region.wanted o (yielded ops a.tmps)=false:=by simp [Region.wanted,yielded,undef])
  (hg:Act.mk (a.tmps.setIfInBounds d undef) a.defers=g:=by (try simp only [zp])<;>exact rfl):zI P ops Q S ((i,false)::rest) a w:=by
 subst hg;exact ahQ ho hd hw hS h
theorem hE {i:Nat} {o:Oper} {rest:List (Nat×Bool)} {a:Act} {w:World} (h:∀ K:Act->World->Prop,(∀ a w,S w->zI P ops Q S rest a w->K a w)->o.wp P a w K Q) (ho:ops[i]? = some o:=by exact rfl) (hw:Region.wanted o (yielded ops a.tmps)=true:=by simp [Region.wanted,yielded]):zI P ops Q S ((i,true)::rest) a w:=agj ho hw h
theorem nP {i:Nat} {o:Oper} {d:Tmp} {p:Plan} {a g:Act} {w:World} {v:Value} (hS:S w) (h:zW P ops Q S p g w) (ho:ops[i]? = some o:=by exact rfl) (hd:o.dst=some d:=by exact rfl) (hw:Region.wanted o (yielded ops a.tmps)=true:=by simp [Region.wanted,yielded])
  (hy:∀ w,S w->(execOp a.eval o).run P w=.ok (.value v) w:=by intro w hw;go_simp;try with_reducible rfl) (hg:Act.mk (a.tmps.setIfInBounds d v) a.defers=g:=by (try simp only [zp])<;>exact rfl):zW P ops Q S (.pure i p) a w:=by
 subst hg;exact Vm ho hd hw hS (fun w hw=>hy w hw) h
theorem nP1 {i:Nat} {o:Oper} {d:Tmp} {p:Plan} {a g:Act} {w:World} {v:Value} {C0:World->Prop} (hS:S w) (c0:∀ w,S w->C0 w) (h:zW P ops Q S p g w) (ho:ops[i]? = some o:=by exact rfl) (hd:o.dst=some d:=by exact rfl) (hw:Region.wanted o (yielded ops a.tmps)=true:=by simp [Region.wanted,yielded])
  (hy:∀ w,S w->C0 w->(execOp a.eval o).run P w=.ok (.value v) w:=by intro w hw c0;clear hw;go_simp;try with_reducible rfl) (hg:Act.mk (a.tmps.setIfInBounds d v) a.defers=g:=by (try simp only [zp])<;>exact rfl):zW P ops Q S (.pure i p) a w:=by
 subst hg;exact Vm ho hd hw hS (fun w hw=>hy w hw (c0 w hw)) h
theorem nP2 {i:Nat} {o:Oper} {d:Tmp} {p:Plan} {a g:Act} {w:World} {v:Value} {C0:World->Prop} {C1:World->Prop} (hS:S w) (c0:∀ w,S w->C0 w) (c1:∀ w,S w->C1 w) (h:zW P ops Q S p g w) (ho:ops[i]? = some o:=by exact rfl) (hd:o.dst=some d:=by exact rfl) (hw:Region.wanted o (yielded ops a.tmps)=true:=by simp [Region.wanted,yielded])
  (hy:∀ w,S w->C0 w->C1 w->(execOp a.eval o).run P w=.ok (.value v) w:=by intro w hw c0 c1;clear hw;go_simp;try with_reducible rfl) (hg:Act.mk (a.tmps.setIfInBounds d v) a.defers=g:=by (try simp only [zp])<;>exact rfl):zW P ops Q S (.pure i p) a w:=by
 subst hg;exact Vm ho hd hw hS (fun w hw=>hy w hw (c0 w hw) (c1 w hw)) h
theorem nP3 {i:Nat} {o:Oper} {d:Tmp} {p:Plan} {a g:Act} {w:World} {v:Value} {C0:World->Prop} {C1:World->Prop} {C2:World->Prop} (hS:S w) (c0:∀ w,S w->C0 w) (c1:∀ w,S w->C1 w) (c2:∀ w,S w->C2 w) (h:zW P ops Q S p g w) (ho:ops[i]? = some o:=by exact rfl) (hd:o.dst=some d:=by exact rfl) (hw:Region.wanted o (yielded ops a.tmps)=true:=by simp [Region.wanted,yielded])
  (hy:∀ w,S w->C0 w->C1 w->C2 w->(execOp a.eval o).run P w=.ok (.value v) w:=by intro w hw c0 c1 c2;clear hw;go_simp;try with_reducible rfl) (hg:Act.mk (a.tmps.setIfInBounds d v) a.defers=g:=by (try simp only [zp])<;>exact rfl):zW P ops Q S (.pure i p) a w:=by
 subst hg;exact Vm ho hd hw hS (fun w hw=>hy w hw (c0 w hw) (c1 w hw) (c2 w hw)) h
theorem nO {i:Nat} {o:Oper} {d:Tmp} {p:Plan} {a g:Act} {w:World}  (hS:S w) (h:zW P ops Q S p g w) (ho:ops[i]? = some o:=by exact rfl) (hd:o.dst=some d:=by exact rfl) (hw:Region.wanted o (yielded ops a.tmps)=false:=by simp [Region.wanted,yielded,undef])
  (hg:Act.mk (a.tmps.setIfInBounds d undef) a.defers=g:=by (try simp only [zp])<;>exact rfl):zW P ops Q S (.pure i p) a w:=by
 subst hg;exact ahn ho hd hw hS h
theorem nE {i:Nat} {o:Oper} {p:Plan} {a:Act} {w:World} (h:∀ K:Act->World->Prop,(∀ a w,S w->zW P ops Q S p a w->K a w)->o.wp P a w K Q) (ho:ops[i]? = some o:=by exact rfl) (hw:Region.wanted o (yielded ops a.tmps)=true:=by simp [Region.wanted,yielded]):zW P ops Q S (.eff i p) a w:=afW ho hw h
theorem bP {i:Nat} {o:Oper} {d:Tmp} {p:PlanB} {a g:Act} {w:World} {v:Value} (hS:S w) (h:yB P ops Q S p g w) (ho:ops[i]? = some o:=by exact rfl) (hd:o.dst=some d:=by exact rfl) (hw:Region.wanted o (yielded ops a.tmps)=true:=by simp [Region.wanted,yielded])
  (hy:∀ w,S w->(execOp a.eval o).run P w=.ok (.value v) w:=by intro w hw;go_simp;try with_reducible rfl) (hg:Act.mk (a.tmps.setIfInBounds d v) a.defers=g:=by (try simp only [zp])<;>exact rfl):yB P ops Q S (.pure i p) a w:=by
 subst hg;exact acr ho hd hw hS (fun w hw=>hy w hw) h
theorem bP1 {i:Nat} {o:Oper} {d:Tmp} {p:PlanB} {a g:Act} {w:World} {v:Value} {C0:World->Prop} (hS:S w) (c0:∀ w,S w->C0 w) (h:yB P ops Q S p g w) (ho:ops[i]? = some o:=by exact rfl) (hd:o.dst=some d:=by exact rfl) (hw:Region.wanted o (yielded ops a.tmps)=true:=by simp [Region.wanted,yielded])
  (hy:∀ w,S w->C0 w->(execOp a.eval o).run P w=.ok (.value v) w:=by intro w hw c0;clear hw;go_simp;try with_reducible rfl) (hg:Act.mk (a.tmps.setIfInBounds d v) a.defers=g:=by (try simp only [zp])<;>exact rfl):yB P ops Q S (.pure i p) a w:=by
 subst hg;exact acr ho hd hw hS (fun w hw=>hy w hw (c0 w hw)) h
theorem bE {i:Nat} {o:Oper} {p:PlanB} {a:Act} {w:World} (h:∀ K:Act->World->Prop,(∀ a w,S w->yB P ops Q S p a w->K a w)->o.wp P a w K Q) (ho:ops[i]? = some o:=by exact rfl) (hw:Region.wanted o (yielded ops a.tmps)=true:=by simp [Region.wanted,yielded]):yB P ops Q S (.eff i p) a w:=ahl ho hw h
theorem fP2 {i:Nat} {o:Oper} {d:Tmp} {rest:List (Nat×Bool)} {a g:Act} {w:World} {X:Act->World->Prop} {v:Value} {C0:World->Prop} {C1:World->Prop} (hS:S w) (c0:∀ w,S w->C0 w) (c1:∀ w,S w->C1 w) (h:yX P ops Q S X rest g w) (ho:ops[i]? = some o:=by exact rfl) (hd:o.dst=some d:=by exact rfl) (hw:Region.wanted o (yielded ops a.tmps)=true:=by simp [Region.wanted,yielded])
  (hy:∀ w,S w->C0 w->C1 w->(execOp a.eval o).run P w=.ok (.value v) w:=by intro w hw c0 c1;clear hw;go_simp;try with_reducible rfl) (hg:Act.mk (a.tmps.setIfInBounds d v) a.defers=g:=by (try simp only [zp])<;>exact rfl):yX P ops Q S X ((i,false)::rest) a w:=by
 subst hg;exact JX ho hd hw hS (fun w hw=>hy w hw (c0 w hw) (c1 w hw)) h
theorem fP5 {i:Nat} {o:Oper} {d:Tmp} {rest:List (Nat×Bool)} {a g:Act} {w:World} {X:Act->World->Prop} {v:Value} {C0:World->Prop} {C1:World->Prop} {C2:World->Prop} {C3:World->Prop} {C4:World->Prop} (hS:S w) (c0:∀ w,S w->C0 w) (c1:∀ w,S w->C1 w) (c2:∀ w,S w->C2 w) (c3:∀ w,S w->C3 w) (c4:∀ w,S w->C4 w) (h:yX P ops Q S X rest g w) (ho:ops[i]? = some o:=by exact rfl) (hd:o.dst=some d:=by exact rfl) (hw:Region.wanted o (yielded ops a.tmps)=true:=by simp [Region.wanted,yielded])
  (hy:∀ w,S w->C0 w->C1 w->C2 w->C3 w->C4 w->(execOp a.eval o).run P w=.ok (.value v) w:=by intro w hw c0 c1 c2 c3 c4;clear hw;go_simp;try with_reducible rfl) (hg:Act.mk (a.tmps.setIfInBounds d v) a.defers=g:=by (try simp only [zp])<;>exact rfl):yX P ops Q S X ((i,false)::rest) a w:=by
 subst hg;exact JX ho hd hw hS (fun w hw=>hy w hw (c0 w hw) (c1 w hw) (c2 w hw) (c3 w hw) (c4 w hw)) h
theorem fE {i:Nat} {o:Oper} {rest:List (Nat×Bool)} {a:Act} {w:World} {X:Act->World->Prop} (h:∀ K:Act->World->Prop,(∀ a w,S w->yX P ops Q S X rest a w->K a w)->o.wp P a w K Q) (ho:ops[i]? = some o:=by exact rfl) (hw:Region.wanted o (yielded ops a.tmps)=true:=by simp [Region.wanted,yielded]):yX P ops Q S X ((i,true)::rest) a w:=adZ ho hw h
abbrev tt (i:Nat):Nat×Bool:=(i,true)
instance {n:Nat}:OfNat (Nat×Bool) n:=⟨(n,false)⟩
variable {md:Region.Mode} {id:Nat} {a:Act} {w:World}
theorem hR (S:World->Prop) (l:List (Nat×Bool)) (h:zI P ops Q S l a w.drew) (hm:P.follows .mixedOrders=true:=by kernel_rfl) (hs:Region.noSelect ops=true:=by kernel_rfl)
  (ho:(l.length==ops.size&&Yi .any ops l (Array.replicate ops.size false))=true:=by kernel_rfl) (hQ:∀ d v c a w,Q (.panic c) (Act.put a d v) w->Q (.panic c) a w:=by intro d _ _ _ _ h;cases d<;>exact h):(Code.region id ops true).wp P Q a w:=XF S l hm hs ho hQ h
theorem nR (S:World->Prop) (l:Plan) (h:zW P ops Q S l a w.drew) (hm:P.follows .mixedOrders=true:=by kernel_rfl) (hs:Region.noSelect ops=true:=by kernel_rfl)
  (ho:(Nat.ble (VJ l) ops.size&&XU .any ops l (Array.replicate ops.size false))=true:=by kernel_rfl) (hQ:∀ d v c a w,Q (.panic c) (Act.put a d v) w->Q (.panic c) a w:=by intro d _ _ _ _ h;cases d<;>exact h):(Code.region id ops true).wp P Q a w:=JA S l hm hs ho hQ h
theorem bR (S:World->Prop) (l:PlanB) (h:yB P ops Q S l a w.drew) (hm:P.follows .mixedOrders=true:=by kernel_rfl) (hs:Region.noSelect ops=true:=by kernel_rfl)
  (ho:(Nat.ble (Jj l) ops.size&&UK .any ops l (Array.replicate ops.size false))=true:=by kernel_rfl) (hQ:∀ d v c a w,Q (.panic c) (Act.put a d v) w->Q (.panic c) a w:=by intro d _ _ _ _ h;cases d<;>exact h):(Code.region id ops true).wp P Q a w:=aaE S l hm hs ho hQ h
theorem hB (W:World) (l:List (Nat×Bool)) (h:zI P ops Q (fun w'=>RowKit.Below W.heap.size W w') l a w.drew) (hm:P.follows .mixedOrders=true:=by kernel_rfl) (hs:Region.noSelect ops=true:=by kernel_rfl)
  (ho:(l.length==ops.size&&Yi .any ops l (Array.replicate ops.size false))=true:=by kernel_rfl) (hQ:∀ d v c a w,Q (.panic c) (Act.put a d v) w->Q (.panic c) a w:=by intro d _ _ _ _ h;cases d<;>exact h):(Code.region id ops true).wp P Q a w:=XF _ l hm hs ho hQ h
end
theorem hG {S:World->Prop} {R K:Act->World->Prop} {a g:Act} {w:World} (hK:∀ a w,S w->R a w->K a w) (hS:S w) (h:S w->R g w) (hg:a=g:=by (try simp only [zp])<;>exact rfl):K a w:=by
 subst hg;exact hK _ w hS (h hS)
end
section
open Go.RowKit
theorem zg (a:Addr) (n:Nat):(a.add n).block=a.block:=by unfold Addr.add;split<;>rfl
theorem qY (a:Addr) (i j:Nat):(a.add i).add j=a.add (i+j):=by
 unfold Addr.add;by_cases hi:i=0<;>by_cases hj:j=0<;>simp [hi,hj,Nat.add_assoc]
def Reads (w:World) (B size:Nat) (A:Option Addr) (n:Nat) (xs:List Value):Prop:=
 xs.length=n*size/\(0<n->∃ ad,A=some ad/\ad.block<B/\∀ j u,xs[j]? = some u->w.cell? (ad.add j)=some u)
section
variable {w w':World} {B B' size n:Nat} {A:Option Addr} {xs:List Value}
theorem Reads.none_:Reads w B size A 0 []:=⟨by simp,fun h=>absurd h (by omega)⟩
theorem Reads.at_ {k:Nat} (h:Reads w B 1 A n xs) (hk:k<n):∃ ad u,A=some ad/\ad.block<B/\xs[k]? = some u/\w.cell? (ad.add k)=some u:=by
 obtain ⟨ad,e,hb,hc⟩:=h.2 (by omega);have hl:k<xs.length:=by have:=h.1;omega
 exact ⟨ad,xs[k],e,hb,List.getElem?_eq_getElem hl,hc k _ (List.getElem?_eq_getElem hl)⟩
theorem Reads.keep (h:Reads w B size A n xs) (hk:∀ p:Addr,p.block<B->w'.cell? p=w.cell? p):Reads w' B size A n xs:=
 ⟨h.1, fun hn => by
  obtain ⟨ad,e,hb,hc⟩:=h.2 hn;exact ⟨ad,e,hb,fun j u hu=>(hk _ (by rw [zg];exact hb)).trans (hc j u hu)⟩⟩
theorem Reads.more (h:Reads w B size A n xs) (hB:B<=B'):Reads w B' size A n xs:=
 ⟨h.1, fun hn => by
  obtain ⟨ad,e,hb,hc⟩:=h.2 hn;exact ⟨ad,e,by omega,hc⟩⟩
theorem Reads.below (h:Reads w B size A n xs) (hb:Below B w w'):Reads w' B size A n xs:=h.keep fun _ hp=>hb.cell hp
theorem Reads.on (h:Reads w w.heap.size size A n xs) (hb:Below w.heap.size w w'):Reads w' w'.heap.size size A n xs:=(h.below hb).more hb.size
theorem Reads.drew (h:Reads w B size A n xs):Reads w.drew B size A n xs:=h
theorem Reads.alloc (h:Reads w B size A n xs) (hB:B<=w.heap.size) (o:Obj):Reads (w.alloc o) B size A n xs:=h.keep fun p hp=>World.cell?_alloc_lt w o p (by omega)
theorem Reads.setCell (h:Reads w B size A n xs) {p:Addr} (hB:B<=p.block) (u:Value):Reads (w.setCell p u) B size A n xs:=
 h.keep fun q hq=>World.cell?_setCell_other w p q u (fun e=>by subst e;omega)
theorem Reads.grown (h:Reads w B size A n xs) {row:Option Nat} (hg:w.grownBy w' row) (hB:B<=w.heap.size) (hr:∀ g,row=some g->B<=g):Reads w' B size A n xs:=
 h.keep fun p hp=>World.cell?_of_block (hg.block p.block (by omega) (fun e=>by have:=hr _ e.symm;omega))
theorem Reads.cut (h:Reads w B size A n xs) {k cap:Nat} (hk:k<=n) (hc:n<=cap) :
  Reads w B size (if cap=k then A else A.map (·.add (k*size))) (n-k) (xs.drop (k*size)):=by
 refine ⟨by rw [List.length_drop,h.1,Nat.sub_mul],fun hn=>?_⟩;obtain ⟨ad,rfl,hb,hcell⟩:=h.2 (by omega);rw [if_neg (by omega)];refine ⟨ad.add (k*size),rfl,by rw [zg];exact hb,fun j u hu=>?_⟩;rw [qY];exact hcell _ u (by rw [<-hu,List.getElem?_drop])
theorem Reads.head (h:Reads w B size A n xs) {k:Nat} (hk:k<=n):Reads w B size A k (xs.take (k*size)):=by
 refine ⟨by rw [List.length_take,h.1];exact Nat.min_eq_left (Nat.mul_le_mul_right _ hk),fun hn=>?_⟩;obtain ⟨ad,rfl,hb,hcell⟩:=h.2 (by omega);refine ⟨ad,rfl,hb,fun j u hu=>?_⟩;rw [List.getElem?_take] at hu
 split at hu
 ·exact hcell j u hu
 cases hu
theorem Reads.of_own {base:Nat} {e:TypeId} {c:Nat} (h:w.ownsRow base e size (.slice A n c) n xs):Reads w w.heap.size size A n xs:=by
 refine ⟨h.1,fun hn=>?_⟩;obtain ⟨g,cap,hv,_,hlt⟩:=h.form hn;have hA:A=some ⟨g,0,none⟩:=by injection hv
 subst hA;exact ⟨_,rfl,hlt,h.cells (g:=g) rfl⟩
end
theorem zY {w:World} {base:Nat} {e:TypeId} {size n:Nat} {v:Value} {xs:List Value} (h:w.ownsRow base e size v n xs) :
  ∃ A c,v=.slice A n c/\n<=c/\c<=maxLen:=by
 rcases h.2 with ⟨rfl,rfl⟩ | ⟨g,cap,cur,rfl,_,_,h1,h2,_⟩
 ·exact ⟨none,0,rfl,Nat.le_refl _,by simp [maxLen]⟩
 exact ⟨_,cap,rfl,h1,h2⟩
theorem zi {w:World} {base base':Nat} {e:TypeId} {size n:Nat} {v:Value} {xs:List Value} (h:w.ownsRow base e size v n xs) (hb:base'<=base):w.ownsRow base' e size v n xs:=by
 refine ⟨h.1,?_⟩;rcases h.2 with h2 | ⟨g,cap,cur,hv,hg,r⟩
 ·exact .inl h2
 exact .inr ⟨g,cap,cur,hv,Nat.le_trans hb hg,r⟩
theorem zq (w:World) (v:Value) (e:TypeId):Reads (w.alloc (.cells #[v] e)) (w.alloc (.cells #[v] e)).heap.size 1 (some ⟨w.heap.size,0,none⟩) 1 [v]:=by
 exact ⟨rfl,fun _=>⟨_,rfl,by simp,cell_one_new _ _ _⟩⟩
theorem qB (w:World) (cs:Array Value) (e:TypeId) (xs:List Value) (b n:Nat) (hb:b=w.heap.size) (h:cs.toList=xs) (hn:n=cs.size) :
  Reads (w.alloc (.cells cs e)) (w.alloc (.cells cs e)).heap.size 1 (some ⟨b,0,none⟩) n xs:=by
 subst h hb hn;refine ⟨by simp,fun _=>⟨_,rfl,by simp,fun j u hu=>?_⟩⟩;have hadd:(⟨w.heap.size,0,none⟩:Addr).add j=⟨w.heap.size,j,none⟩:=by unfold Addr.add;split<;>simp_all
 rw [hadd,cell_of_row _ w.heap.size j cs e (0,0) (heap_alloc_new w _)];simpa using hu
theorem Reads.al {w:World} {size n:Nat} {A:Option Addr} {xs:List Value} (h:Reads w w.heap.size size A n xs) (o:Obj):Reads (w.alloc o) (w.alloc o).heap.size size A n xs:=
 (h.alloc (Nat.le_refl _) o).more (by simp)
theorem bal {a w:World} (h:Below a.heap.size a w) (o:Obj):Below a.heap.size a (w.alloc o):=h.alloc h.size o
theorem bon {a w w':World} (h:Below a.heap.size a w) (k:Below w.heap.size w w'):Below a.heap.size a w':=h.trans (k.mono h.size)
theorem ze {w:World} {base:Nat} {e:TypeId} {size:Nat} {A:Option Addr} {n c:Nat} {xs:List Value} (h:w.ownsRow base e size (.slice A n c) n xs):Reads w w.heap.size size A n xs:=Reads.of_own h
theorem zd {w w':World} {base:Nat} {e:TypeId} {size n:Nat} {v:Value} {xs:List Value} (h:w.ownsRow base e size v n xs) (hb:Below w.heap.size w w'):w'.ownsRow base e size v n xs:=by
 refine ⟨h.1,?_⟩;rcases h.2 with h2 | ⟨g,cap,cur,hv,hg,hh,r⟩
 ·exact .inl h2
 exact .inr ⟨g,cap,cur,hv,hg,(hb.block g (by
  rcases Nat.lt_or_ge g w.heap.size with hlt | hge
  ·exact hlt
  rw [Array.getElem?_eq_none hge] at hh;cases hh)).trans hh,r⟩
def App (w:World) (base:Nat) (e:TypeId) (size:Nat) (A:Option Addr) (n c:Nat) (xs:List Value):Prop:=
 w.ownsRow base e size (.slice A n c) n xs\/(c=n/\Reads w w.heap.size size A n xs)
theorem App.reads {w:World} {base:Nat} {e:TypeId} {size:Nat} {A:Option Addr} {n c:Nat} {xs:List Value} (h:App w base e size A n c xs):Reads w w.heap.size size A n xs:=by
 rcases h with h | h
 ·exact Reads.of_own h
 exact h.2
theorem App.alloc {w:World} {base:Nat} {e:TypeId} {size:Nat} {A:Option Addr} {n c:Nat} {xs:List Value} (h:App w base e size A n c xs) (o:Obj):App (w.alloc o) base e size A n c xs:=by
 rcases h with h | h
 ·exact .inl (h.alloc o)
 exact .inr ⟨h.1,(h.2.alloc (Nat.le_refl _) o).more (by simp)⟩
section
variable {P:Program} (w:World)
theorem Ua (base:Nat) (t ty e:TypeId) (i:TypeInfo) (size:Nat) (ht:P.underlying t=some (.slice e)) (hi:P.info? e=some i)
  (v:Value) (n:Nat) (xs:List Value) (hown:w.ownsRow base e size v n xs) (c:Nat):(Builtin.append_ #[t,t] ty #[v,.slice none 0 c]).run P w=.ok v w:=by
 rcases hown.2 with ⟨rfl,rfl⟩ | ⟨g,cap,cur,rfl,_,_,hnc,_⟩
 ·simp [Builtin.append_,run_underlying ht,sizeOf,typeInfo,hi,Builtin.lenOf,Builtin.firstCells]
 simp [Builtin.append_,run_underlying ht,sizeOf,typeInfo,hi,Builtin.lenOf,Builtin.firstCells,hnc,storeCells]
theorem qp (base:Nat) (t ty e:TypeId) (i:TypeInfo) (z:Value) (size bytes:Nat) (ht:P.underlying t=some (.slice e)) (hi:P.info? e=some i) (hz:i.zero=some z)
  (hsize:i.size=size) (hby:i.bytes=bytes) (hzs:z.cells.size=size) (hsz:0<size)
  (v:Value) (n:Nat) (xs:List Value) (hown:w.ownsRow base e size v n xs)
  (B:Nat) (A:Option Addr) (m c:Nat) (news:List Value) (hr:Reads w B size A m news) (h1:∀ u∈news,u.oneCell'=true)
  (h63:n+m<=maxLen) (hbytes:(n+m)*bytes<=140737488355328) (hbase:base<=w.heap.size) :
  ∃ v' w',(Builtin.append_ #[t,t] ty #[v,.slice A m c]).run P w=.ok v' w'/\w'.ownsRow base e size v' (n+m) (xs++news)/\w.grownBy w' v.ownBlock /\
   (v'.ownBlock=v.ownBlock\/v'.ownBlock=some w.heap.size):=by
 rcases A with _ | ad
 ·have hm:m=0:=by
   rcases Nat.eq_zero_or_pos m with h0 | h0
   ·exact h0
   obtain ⟨ad,h,_⟩:=hr.2 h0;cases h
  subst hm;have hn:news=[]:=List.eq_nil_of_length_eq_zero (by simpa using hr.1);subst hn;exact ⟨v,w,Ua w base t ty e i size ht hi v n xs hown c,by simpa using hown,World.grownBy.refl w _,.inl rfl⟩
 have hcells:∀ j u,news[j]? = some u->w.cell? (ad.add j)=some u:=by
  intro j u hu;rcases Nat.eq_zero_or_pos m with h0 | h0
  ·subst h0;have hn:news=[]:=List.eq_nil_of_length_eq_zero (by simpa using hr.1);subst hn;simp at hu
  obtain ⟨ad',h,_,hc⟩:=hr.2 h0
  injection h with h
  subst h;exact hc j u hu
 obtain ⟨v',w',hrun,h2,h3,_,h5⟩:=run_append_own_at (P:=P) w base t ty e i z size bytes ht hi hz hsize hby hzs hsz v n xs hown ad m c news hr.1 hcells h1 h63 hbytes hbase;exact ⟨v',w',hrun,h2,h3,h5⟩
theorem JL (base:Nat) (t ty e:TypeId) (i:TypeInfo) (z:Value) (size bytes:Nat) (ht:P.underlying t=some (.slice e)) (hi:P.info? e=some i) (hz:i.zero=some z)
  (hsize:i.size=size) (hby:i.bytes=bytes) (hzs:z.cells.size=size) (hsz:0<size)
  (A0:Option Addr) (n c0:Nat) (xs:List Value) (happ:App w base e size A0 n c0 xs)
  (A:Option Addr) (m c:Nat) (news:List Value) (hr:Reads w w.heap.size size A m news) (h1:∀ u∈news,u.oneCell'=true)
  (hm:0<m) (h63:n+m<=maxLen) (hbytes:(n+m)*bytes<=70368744177664) (hbase:base<=w.heap.size) :
  ∃ A' c' w',(Builtin.append_ #[t,t] ty #[.slice A0 n c0,.slice A m c]).run P w=.ok (.slice A' (n+m) c') w'/\w'.ownsRow base e size (.slice A' (n+m) c') (n+m) (xs++news) /\
   Below base w w'/\w.grownBy w' (Value.slice A0 n c0).ownBlock/\n+m<=c'/\c'<=maxLen:=by
 rcases happ with hown | ⟨rfl,hrd⟩
 ·obtain ⟨v',w',hrun,h2,h3,h5⟩:=qp (P:=P) w base t ty e i z size bytes ht hi hz hsize hby hzs hsz _ n xs hown _ A m c news hr h1 h63 (by omega) hbase;obtain ⟨A',c',rfl,hl1,hl2⟩:=zY h2;exact ⟨A',c',w',hrun,h2,(Below.refl _ _).grown h3 hbase (fun k hk=>(hown.lt k hk).1),h3,hl1,hl2⟩
 obtain ⟨ad,rfl,_,hc⟩:=hr.2 hm;subst hsize hby;rcases A0 with _ | a0
 ·have hn:c0=0:=by
   rcases Nat.eq_zero_or_pos c0 with h0 | h0
   ·exact h0
   obtain ⟨ad,h,_⟩:=hrd.2 h0;cases h
  subst hn;have hn:xs=[]:=List.eq_nil_of_length_eq_zero (by simpa using hrd.1);subst hn;have hown:w.ownsRow base e i.size (.slice none 0 0) 0 []:=World.ownsRow_nil _ _ _ _;obtain ⟨v',w',hrun,h2,h3,h5⟩:=qp (P:=P) w base t ty e i z i.size i.bytes ht hi hz rfl rfl hzs hsz _ 0 [] hown _ (some ad) m c news hr h1 h63 (by omega) hbase;obtain ⟨A',c',rfl,hl1,hl2⟩:=zY h2;exact ⟨A',c',w',hrun,h2,(Below.refl _ _).grown h3 hbase (fun k hk=>(hown.lt k hk).1),h3,hl1,hl2⟩
 have holds:∀ j u,xs[j]? = some u->w.cell? (a0.add j)=some u:=by
  intro j u hu;rcases Nat.eq_zero_or_pos c0 with h0 | h0
  ·subst h0;have hn:xs=[]:=List.eq_nil_of_length_eq_zero (by simpa using hrd.1);subst hn;simp at hu
  obtain ⟨ad',h,_,hc⟩:=hrd.2 h0
  injection h with h
  subst h;exact hc j u hu
 have h63':c0+m<=9223372036854775807:=by simp only [maxLen] at h63;omega
 have hrun:=run_append_grow (P:=P) w t ty e i z ht hi hz a0 c0 c0 xs hrd.1 holds ad m c news hr.1 hc (by omega) (by omega) (growslice_fits (by omega) (by omega));have hge:=grownCap_ge w (c0+m) c0 e;have hcm:grownCap w (c0+m) c0 e<=maxLen:=grownCap_le_maxLen w (c0+m) c0 e h63;have hlen:(xs++news).length=(c0+m)*i.size:=by rw [List.length_append,hrd.1,hr.1,Nat.add_mul]
 refine ⟨_,_,_,hrun,⟨hlen,.inr ⟨w.heap.size,_,_,rfl,hbase,heap_alloc_new w.drew _,hge,hcm,?_,?_⟩⟩,(Below.refl _ _).drew.alloc hbase _,⟨rfl,rfl,rfl,by simp,fun k hk _=>Below.heap_alloc w.drew _ k hk⟩,hge,hcm⟩
 ·simp only [Array.size_append,List.size_toArray,size_zeroCells,hzs,hrd.1,hr.1,<-Nat.add_mul]
  congr 1
  omega
 simp only [Array.toList_append,List.append_assoc];rw [<-List.append_assoc,<-hlen];exact List.take_left
theorem Yv {ops:Array Oper} {rest:List Oper} {o:Oper} {a:Act} {Q:Exit->Act->World->Prop} (hgd:o.guard=none) (s x:Operand) (t:TypeId)
  (ho:o.op=.call { callee:=.builtin .append,args:=#[s,x],argTypes:=#[t,t] })
  (base:Nat) (e:TypeId) (i:TypeInfo) (z:Value) (size bytes:Nat) (ht:P.underlying t=some (.slice e)) (hi:P.info? e=some i) (hz:i.zero=some z)
  (hsize:i.size=size) (hby:i.bytes=bytes) (hzs:z.cells.size=size) (hsz:0<size)
  (A0:Option Addr) (n c0:Nat) (xs:List Value) (hs:a.eval s=.slice A0 n c0) (happ:App w base e size A0 n c0 xs)
  (A:Option Addr) (m c:Nat) (news:List Value) (hx:a.eval x=.slice A m c) (hr:Reads w w.heap.size size A m news) (h1:∀ u∈news,u.oneCell'=true)
  (hm:0<m) (h63:n+m<=maxLen) (hbytes:(n+m)*bytes<=70368744177664) (hbase:base<=w.heap.size)
  (h:∀ A' c' w',w'.ownsRow base e size (.slice A' (n+m) c') (n+m) (xs++news)->Below base w w'->w.grownBy w' (Value.slice A0 n c0).ownBlock->n+m<=c'->c'<=maxLen->wpList P ops Q rest (a.put o.dst (.slice A' (n+m) c')) w'):wpList P ops Q (o::rest) a w:=
 wpList_plain hgd fun K hK=>by
  obtain ⟨A',c',w',hrun,h2,h3,h4,h5,h6⟩:=JL (P:=P) w base t o.type e i z size bytes ht hi hz hsize hby hzs hsz A0 n c0 xs happ A m c news hr h1 hm h63 hbytes hbase;unfold Oper.wp execOp;simp only [ho,resolve,invoke,builtin,Sem.run_bind,Sem.run_pure,Result.andThen_ok,List.map_toArray,List.map_cons,List.map_nil,hs,hx,hrun];exact hK _ _ (h A' c' w' h2 h3 h4 h5 h6)
theorem zb {ops:Array Oper} {rest:List Oper} {o:Oper} {a:Act} {Q:Exit->Act->World->Prop} (hgd:o.guard=none) (s x:Operand) (t:TypeId)
  (ho:o.op=.call { callee:=.builtin .append,args:=#[s,x],argTypes:=#[t,t] })
  (base:Nat) (e:TypeId) (i:TypeInfo) (z:Value) (size bytes:Nat) (ht:P.underlying t=some (.slice e)) (hi:P.info? e=some i) (hz:i.zero=some z)
  (hsize:i.size=size) (hby:i.bytes=bytes) (hzs:z.cells.size=size) (hsz:0<size)
  (A0:Option Addr) (n c0:Nat) (xs:List Value) (hs:a.eval s=.slice A0 n c0) (hown:w.ownsRow base e size (.slice A0 n c0) n xs)
  (A:Option Addr) (m c:Nat) (news:List Value) (hx:a.eval x=.slice A m c) (hr:Reads w w.heap.size size A m news) (h1:∀ u∈news,u.oneCell'=true)
  (h63:n+m<=maxLen) (hbytes:(n+m)*bytes<=70368744177664) (hbase:base<=w.heap.size)
  (h:∀ A' c' w',w'.ownsRow base e size (.slice A' (n+m) c') (n+m) (xs++news)->Below base w w'->w.grownBy w' (Value.slice A0 n c0).ownBlock->n+m<=c'->c'<=maxLen->wpList P ops Q rest (a.put o.dst (.slice A' (n+m) c')) w'):wpList P ops Q (o::rest) a w:=
 wpList_plain hgd fun K hK=>by
  obtain ⟨v',w',hrun,h2,h3,h5⟩:=qp (P:=P) w base t o.type e i z size bytes ht hi hz hsize hby hzs hsz _ n xs hown _ A m c news hr h1 h63 (by omega) hbase;obtain ⟨A',c',rfl,hl1,hl2⟩:=zY h2;unfold Oper.wp execOp;simp only [ho,resolve,invoke,builtin,Sem.run_bind,Sem.run_pure,Result.andThen_ok,List.map_toArray,List.map_cons,List.map_nil,hs,hx,hrun];exact hK _ _ (h A' c' w' h2 ((Below.refl _ _).grown h3 hbase (fun k hk=>(hown.lt k hk).1)) h3 hl1 hl2)
theorem zl {o:Oper} {a:Act} {K:Act->World->Prop} {Q:Exit->Act->World->Prop} (s x:Operand) (t:TypeId)
 (ho:o.op=.call { callee:=.builtin .append,args:=#[s,x],argTypes:=#[t,t] })
 (base:Nat) (e:TypeId) (i:TypeInfo) (z:Value) (size bytes:Nat) (ht:P.underlying t=some (.slice e)) (hi:P.info? e=some i) (hz:i.zero=some z)
 (hsize:i.size=size) (hby:i.bytes=bytes) (hzs:z.cells.size=size) (hsz:0<size)
 (A0:Option Addr) (n c0:Nat) (xs:List Value) (hs:a.eval s=.slice A0 n c0) (hown:w.ownsRow base e size (.slice A0 n c0) n xs)
 (A:Option Addr) (m c:Nat) (news:List Value) (hx:a.eval x=.slice A m c) (hr:Reads w w.heap.size size A m news) (h1:∀ u∈news,u.oneCell'=true)
 (h63:n+m<=maxLen) (hbytes:(n+m)*bytes<=70368744177664) (hbase:base<=w.heap.size)
 (h:∀ A' c' w',w'.ownsRow base e size (.slice A' (n+m) c') (n+m) (xs++news)->Below base w w'->w.grownBy w' (Value.slice A0 n c0).ownBlock->n+m<=c'->c'<=maxLen->K (a.put o.dst (.slice A' (n+m) c')) w'):o.wp P a w K Q:=by
 obtain ⟨v',w',hrun,h2,h3,h5⟩:=qp (P:=P) w base t o.type e i z size bytes ht hi hz hsize hby hzs hsz _ n xs hown _ A m c news hr h1 h63 (by omega) hbase;obtain ⟨A',c',rfl,hl1,hl2⟩:=zY h2;unfold Oper.wp execOp;simp only [ho,resolve,invoke,builtin,Sem.run_bind,Sem.run_pure,Result.andThen_ok,List.map_toArray,List.map_cons,List.map_nil,hs,hx,hrun];exact (h A' c' w' h2 ((Below.refl _ _).grown h3 hbase (fun k hk=>(hown.lt k hk).1)) h3 hl1 hl2)
end
def u8s (l:List UInt8):List Value:=l.map fun b=>.int .u8 (b.toNat:Int)
@[simp] theorem adz (l:List UInt8):(u8s l).length=l.length:=by simp [u8s]
theorem zt (l m:List UInt8):u8s (l++m)=u8s l++u8s m:=by simp [u8s]
theorem Yc (l:List UInt8) (k:Nat):(u8s l).take k=u8s (l.take k):=by simp [u8s,List.map_take]
theorem yw (l:List UInt8) (k:Nat):(u8s l).drop k=u8s (l.drop k):=by simp [u8s,List.map_drop]
theorem z6 (l:List UInt8):∀ u∈u8s l,u.oneCell'=true:=by
 intro u hu;simp only [u8s,List.mem_map] at hu;obtain ⟨b,_,rfl⟩:=hu;rfl
theorem Zw (k:IntKind) (n:Int):∀ u∈[Value.int k n],u.oneCell'=true:=by
 intro u hu;obtain rfl:u=.int k n:=by simpa using hu
 rfl
theorem Jo (m:Nat) (h:m<256):[Value.int .u8 (m:Int)]=u8s [UInt8.ofNat m]:=by
 simp [u8s,Nat.mod_eq_of_lt h]
theorem agP (m:Nat):[Value.int .u8 (bits .or .u8 ((m:Int) % 256) 128)]=u8s [UInt8.ofNat (m % 128+128)]:=by
 have h:((m:Int) % 256)=((m % 256:Nat):Int):=by omega
 have h2:∀ k,k<256->k ||| 128=k % 128+128:=by decide +kernel
 rw [h,show (128:Int)=((128:Nat):Int) from rfl,u8_or_nat _ _ (by omega) (by omega),h2 _ (by omega),<-Jo _ (by omega)];have:m % 256 % 128=m % 128:=by omega
 rw [this]
theorem Jn (xs:List UInt8) (k:Nat) (v:Value) (h:(u8s xs)[k]? = some v):∃ c:UInt8,xs[k]? = some c/\v=.int .u8 (c.toNat:Int):=by
 simp only [u8s,List.getElem?_map,Option.map_eq_some_iff] at h;obtain ⟨c,h1,h2⟩:=h;exact ⟨c,h1,h2.symm⟩
theorem zh {w:World} {B n:Nat} {A:Option Addr} {l:List UInt8} (h:Reads w B 1 A n (u8s l)):l.length=n:=by
 have:=h.1;simpa using this
theorem aet (l:List UInt8):∀ s:ByteArray,(l.map fun b=>(b.toNat:Int)).foldl (fun r n=>r.push (UInt8.ofNat n.toNat)) s=⟨s.data++l.toArray⟩:=by
 induction l with
 | nil=>intro s;simp
 | cons b l ih=>
  intro s;simp only [List.map_cons,List.foldl_cons];rw [ih];have:UInt8.ofNat ((b.toNat:Int)).toNat=b:=by simp
  rw [this]
  congr 1
  show s.data.push b++l.toArray=_;simp
theorem zK {P:Program} (w:World) (src dst e:TypeId) (hs:P.underlying src=some (.slice e)) (he:P.underlying e=some (.int .u8)) (hd:P.underlying dst=some .string)
  (B:Nat) (A:Option Addr) (n c:Nat) (l:List UInt8) (hr:Reads w B 1 A n (u8s l)) :
  (convert src dst (.slice A n c)).run P w=.ok (.string ⟨l.toArray⟩) w:=by
 rw [run_convert_bytes_string w src dst e A n c hs he hd];have hlen:l.length=n:=by have:=hr.1;simpa using this
 rcases A with _ | ad
 ·have hn:n=0:=by
   rcases Nat.eq_zero_or_pos n with h0 | h0
   ·exact h0
   obtain ⟨ad,h,_⟩:=hr.2 h0;cases h
  subst hn;have:l=[]:=List.eq_nil_of_length_eq_zero hlen;subst this;simp [Conv.bytesToString];rfl
 have hcells:∀ j u,(u8s l)[j]? = some u->w.cell? (ad.add j)=some u:=by
  intro j u hu;rcases Nat.eq_zero_or_pos n with h0 | h0
  ·subst h0;have:l=[]:=List.eq_nil_of_length_eq_zero hlen;subst this;simp [u8s] at hu
  obtain ⟨ad',h,_,hc⟩:=hr.2 h0
  injection h with h
  subst h;exact hc j u hu
 have hload:=run_firstCells_some (P:=P) w 1 n ad n c (u8s l) (by simpa using hlen) hcells;rw [run_bytesToString w ad n c (l.map fun b=>(b.toNat:Int)) ?_]
 ·rw [aet];simp [ByteArray.empty,ByteArray.emptyWithCapacity];rfl
 simp only [Builtin.firstCells,Nat.mul_one] at hload;rw [hload];simp [u8s,Function.comp_def]
theorem Uw {w:World} {a:Option Addr} {len cap:Nat} {zs:List Int} (h:(a=none/\len=0/\cap=0/\zs=[]) \/
  ∃ x,a=some x/\len<=cap/\cap<=maxLen/\zs.length=cap/\(∀ i,i<zs.length->w.cell? (x.add i)=some (.int .u8 (zs.getD i 0)))/\∀ n∈zs,(Lit.int .u8 n).wf=true) :
  ∃ xs:List UInt8,Reads w w.heap.size 1 a len (u8s xs)/\len<=cap/\cap<=maxLen:=by
 rcases h with ⟨rfl,rfl,rfl,rfl⟩ | ⟨x,rfl,hl,hc,hz,hcell,hwf⟩
 ·exact ⟨[],Reads.none_,Nat.le_refl _,by simp [maxLen]⟩
 have hx:∀ j u,(u8s ((zs.take len).map fun n=>UInt8.ofNat n.toNat))[j]? = some u->w.cell? (x.add j)=some u:=by
  intro j u hu;simp only [u8s,List.getElem?_map,Option.map_eq_some_iff,List.getElem?_take] at hu;obtain ⟨b,⟨n,hn,rfl⟩,rfl⟩:=hu
  split at hn
  ·obtain ⟨hj,rfl⟩:=List.getElem?_eq_some_iff.1 hn;have hw:=hwf _ (List.getElem_mem hj);have hb:0<=zs[j]/\zs[j]<=255:=(by simpa [Lit.wf,IntKind.min,IntKind.max,IntKind.signed,IntKind.bits] using hw);rw [hcell j hj,List.getD_eq_getElem?_getD,List.getElem?_eq_getElem hj];simp only [Option.getD_some,Option.some.injEq,Value.int.injEq,true_and,UInt8.toNat_ofNat'];omega
  cases hn
 refine ⟨_,⟨?_,fun hn=>⟨x,rfl,?_,hx⟩⟩,hl,hc⟩
 ·simp only [adz,List.length_map,List.length_take];omega
 have h0:=hcell 0 (by omega);have:=World.block_lt_of_cell? _ _ h0;rwa [zg] at this
theorem zR {a:Int} (h:(Lit.int .i64 a).wf=true) : -9223372036854775808<=a/\a<=9223372036854775807:=by
 simpa [Lit.wf,IntKind.min,IntKind.max,IntKind.signed,IntKind.bits] using h
def Blk (w:World) (g:Nat) (t:TypeId) (cs:Array Value):Prop:=w.heap[g]? = some (.cells cs t (0,0))
section
variable {w w':World} {g:Nat} {t:TypeId} {cs:Array Value}
theorem Blk.lt (h:Blk w g t cs):g<w.heap.size:=by
 rcases Nat.lt_or_ge g w.heap.size with hlt | hge
 ·exact hlt
 unfold Blk at h;rw [Array.getElem?_eq_none hge] at h;cases h
theorem Blk.cell (h:Blk w g t cs) (i:Nat):w.cell? ⟨g,i,none⟩=cs[i]? := cell_of_row w g i cs t (0,0) h
theorem Blk.frozen (h:Blk w g t cs) (i:Nat):w.frozen? ⟨g,i,none⟩=false:=by
 unfold Blk at h;simp [World.frozen?,h]
theorem Blk.new (w:World) (t:TypeId) (cs:Array Value):Blk (w.alloc (.cells cs t)) w.heap.size t cs:=heap_alloc_new w _
theorem Blk.drew (h:Blk w g t cs):Blk w.drew g t cs:=h
theorem Blk.alloc (h:Blk w g t cs) (o:Obj):Blk (w.alloc o) g t cs:=(Below.heap_alloc w o g h.lt).trans h
theorem Blk.set_ (h:Blk w g t cs) (i:Nat) (u:Value):Blk (w.setCell ⟨g,i,none⟩ u) g t (cs.setIfInBounds i u):=by
 unfold Blk at h ⊢;simp [World.setCell,Array.getElem?_modify,h]
theorem Blk.far (h:Blk w g t cs) {p:Addr} (hp:g≠p.block) (u:Value):Blk (w.setCell p u) g t cs:=(Below.heap_setCell w p u g hp).trans h
theorem Blk.below {B:Nat} (h:Blk w g t cs) (hb:Below B w w') (hg:g<B):Blk w' g t cs:=(hb.block g hg).trans h
theorem Blk.on (h:Blk w g t cs) (hb:Below w.heap.size w w'):Blk w' g t cs:=h.below hb h.lt
theorem Blk.own (h:Blk w g t cs) {base n:Nat} {xs:List Value} (hg:base<=g) (hn:cs.toList=xs) (hl:xs.length=n) (hm:n<=maxLen):w.ownsRow base t 1 (.slice (some ⟨g,0,none⟩) n n) n xs:=by
 subst hn;refine ⟨by simpa using hl,.inr ⟨g,n,cs,rfl,hg,h,Nat.le_refl _,hm,by simpa using hl,?_⟩⟩;rw [Nat.mul_one,List.take_of_length_le (by omega)]
end
theorem aj4 {a w:World} (h:Below a.heap.size a w) {p:Addr} (hp:a.heap.size<=p.block) (u:Value):Below a.heap.size a (w.setCell p u):=h.setCell hp u
theorem ai4 {w:World} {base:Nat} {e:TypeId} {n c g:Nat} {xs:List Value} (h:w.ownsRow base e 1 (.slice (some ⟨g,0,none⟩) n c) n xs) (j:Nat) (hj:j<n) (u:Value) :
  (w.setCell ⟨g,j,none⟩ u).ownsRow base e 1 (.slice (some ⟨g,0,none⟩) n c) n (xs.set j u):=by
 rcases h.2 with ⟨h0,_⟩ | ⟨g',cap,cur,hv,hb,hh,h1,h2,h3,h4⟩
 ·cases h0
 injection hv with hA _ hc
 injection hA with hA
 injection hA with hA
 subst hA hc;refine ⟨by simpa using h.1,.inr ⟨g,c,cur.setIfInBounds j u,rfl,hb,Blk.set_ (w:=w) hh j u,h1,h2,by simpa using h3,?_⟩⟩;rw [<-h4];simp [Array.toList_setIfInBounds,List.take_set]
theorem ajN {w:World} {base:Nat} {e:TypeId} {n c:Nat} {A:Option Addr} {xs:List Value} (h:w.ownsRow base e 1 (.slice A n c) n xs) (hn:0<n) :
  ∃ g,A=some ⟨g,0,none⟩/\base<=g/\g<w.heap.size/\(∀ j u,xs[j]? = some u->w.cell? ⟨g,j,none⟩=some u)/\(∀ j,w.frozen? ⟨g,j,none⟩=false):=by
 rcases h.2 with ⟨h0,h1⟩ | ⟨g,cap,cur,hv,hb,hh,h1,h2,h3,h4⟩
 ·omega
 injection hv with hA _ hc
 subst hA hc;refine ⟨g,rfl,hb,Blk.lt hh,fun j u hu=>?_,fun j=>Blk.frozen hh j⟩;have:=World.ownsRow.cells h (g:=g) rfl j u hu;rwa [show (⟨g,0,none⟩:Addr).add j=⟨g,j,none⟩ by unfold Addr.add;split<;>simp_all] at this
def bls (l:List Bool):List Value:=l.map Value.bool
@[simp] theorem aj5 (l:List Bool):(bls l).length=l.length:=by simp [bls]
theorem qu (l m:List Bool):bls (l++m)=bls l++bls m:=by simp [bls]
theorem Uy (xs:List Bool) (k:Nat) (v:Value) (h:(bls xs)[k]? = some v):∃ c:Bool,xs[k]? = some c/\v=.bool c:=by
 simp only [bls,List.getElem?_map,Option.map_eq_some_iff] at h;obtain ⟨c,h1,h2⟩:=h;exact ⟨c,h1,h2.symm⟩
theorem aj6 {w:World} {B n:Nat} {A:Option Addr} {l:List Bool} (h:Reads w B 1 A n (bls l)):l.length=n:=by
 have:=h.1;simpa using this
theorem Zg (b:Bool):∀ u∈[Value.bool b],u.oneCell'=true:=by
 intro u hu;obtain rfl:u=.bool b:=by simpa using hu
 rfl
theorem aeW (l:List UInt8) (i:Nat) (c:UInt8):(u8s l).set i (.int .u8 (c.toNat:Int))=u8s (l.set i c):=by
 simp [u8s,List.map_set]
end
end Go.Proofs.YtjpjalmilfgckaaGreatDoor
