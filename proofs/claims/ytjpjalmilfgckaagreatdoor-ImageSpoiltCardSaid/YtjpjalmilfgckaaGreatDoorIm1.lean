/- Part 1 of the walks, merged: each text under its own heading. Conditions: none of its own; each lemma states what it asks. -/
import Derived.RegionTactic
import Derived.WalkKit
import Derived.OrdersHeld
set_option linter.unusedVariables false
set_option linter.unusedSimpArgs false
namespace Go.Proofs.YtjpjalmilfgckaaGreatDoor
section
variable {P:Program} {md:Region.Mode} {ops:Array Oper} {Q:Exit->Act->World->Prop}
def orderB (md:Region.Mode) (ops:Array Oper):List (Nat×Bool)->Array Bool->Bool
 | [],listed=>(Region.ready md ops listed).isEmpty
 | (i,true)::rest,listed=>Region.ready md ops listed==[i]&&orderB md ops rest (listed.setIfInBounds i true)
 | (i,false)::rest,listed=>Region.free md ops listed i&&(Region.ready md ops listed).contains i&&orderB md ops rest (listed.setIfInBounds i true)
end
end Go.Proofs.YtjpjalmilfgckaaGreatDoor
namespace Go.Proofs.YtjpjalmilfgckaaGreatDoor
section
variable {P:Program} {md:Region.Mode} {ops:Array Oper} {Q:Exit->Act->World->Prop} {S:World->Prop}
def wpHeld (P:Program) (ops:Array Oper) (Q:Exit->Act->World->Prop) (S:World->Prop):List (Nat×Bool)->Act->World->Prop
 | [],a,w=>Q .normal a w
 | (i,true)::rest,a,w=>∃ o,ops[i]? = some o/\∀ K:Act->World->Prop,(∀ a w,S w->wpHeld P ops Q S rest a w->K a w)->if Region.wanted o (yielded ops a.tmps) then o.wp P a w K Q else K (a.put o.dst undef) w
 | (i,false)::rest,a,w=>∃ o v,ops[i]? = some o/\YieldsIf P ops S o v a/\S w/\wpHeld P ops Q S rest (a.put o.dst v) w
theorem held_pure {i:Nat} {o:Oper} {d:Tmp} {rest:List (Nat×Bool)} {a:Act} {w:World} {v:Value} (ho:ops[i]? = some o) (hd:o.dst=some d) (hw:Region.wanted o (yielded ops a.tmps)=true) (hS:S w)
  (hy:∀ w,S w->(execOp a.eval o).run P w=.ok (.value v) w) (h:wpHeld P ops Q S rest { tmps:=a.tmps.setIfInBounds d v,defers:=a.defers } w):wpHeld P ops Q S ((i,false)::rest) a w:=
 ⟨o,v,ho,.inl ⟨hw,hy⟩,hS,by rw [hd];exact h⟩
theorem held_off {i:Nat} {o:Oper} {d:Tmp} {rest:List (Nat×Bool)} {a:Act} {w:World} (ho:ops[i]? = some o) (hd:o.dst=some d) (hw:Region.wanted o (yielded ops a.tmps)=false) (hS:S w)
  (h:wpHeld P ops Q S rest { tmps:=a.tmps.setIfInBounds d undef,defers:=a.defers } w):wpHeld P ops Q S ((i,false)::rest) a w:=
 ⟨o,undef,ho,.inr ⟨hw,rfl⟩,hS,by rw [hd];exact h⟩
theorem held_eff {i:Nat} {o:Oper} {rest:List (Nat×Bool)} {a:Act} {w:World} (ho:ops[i]? = some o)
  (h:∀ K:Act->World->Prop,(∀ a w,S w->wpHeld P ops Q S rest a w->K a w)->if Region.wanted o (yielded ops a.tmps) then o.wp P a w K Q else K (a.put o.dst undef) w):wpHeld P ops Q S ((i,true)::rest) a w:=
 ⟨o,ho,h⟩
theorem held_eff1 {i:Nat} {o:Oper} {rest:List (Nat×Bool)} {a:Act} {w:World} (ho:ops[i]? = some o) (hw:Region.wanted o (yielded ops a.tmps)=true)
  (h:∀ K:Act->World->Prop,(∀ a w,S w->wpHeld P ops Q S rest a w->K a w)->o.wp P a w K Q):wpHeld P ops Q S ((i,true)::rest) a w:=
 ⟨o,ho,fun K hK=>by rw [if_pos hw];exact h K hK⟩
theorem held_go {X K:Act->World->Prop} {a:Act} {w:World} (hK:∀ a w,S w->X a w->K a w) (hS:S w) (h:S w->X a w):K a w:=hK a w hS (h hS)
theorem held_end {a:Act} {w:World} (h:Q .normal a w):wpHeld P ops Q S [] a w:=h
theorem wpAnyH_of_held (hs:Region.noSelect ops=true) (hQ:∀ d v c a w,Q (.panic c) (Act.put a d v) w->Q (.panic c) a w) :
  ∀ (l:List (Nat×Bool)) (fuel:Nat) (listed:Array Bool) (a:Act) (w:World),l.length<=fuel->orderB md ops l listed=true->wpHeld P ops Q S l a w->wpAnyH P md ops Q S fuel listed a w:=by
 intro l
 induction l with
 | nil=>
  intro fuel listed a w _ ho h
  have hr:Region.ready md ops listed=[]:=by simpa [orderB] using ho
  exact wpAnyH_done hr h fuel
 | cons x rest ih=>
  intro fuel listed a w hf ho h
  obtain ⟨i,b⟩:=x
  obtain ⟨fuel,rfl⟩:∃ f,fuel=f+1:=⟨fuel-1,by simp at hf;omega⟩
  cases b with
  | true=>
   simp only [orderB,Bool.and_eq_true,beq_iff_eq] at ho
   obtain ⟨o,hoi,hl⟩:=h
   refine wpAnyH_all ho.1 (by simp) fun j hj=>?_
   obtain rfl:j=i:=by simpa using hj
   unfold wpOp
   simp only [hoi]
   have:=hl (fun a' w'=>S w'/\wpAnyH P md ops Q S fuel (listed.setIfInBounds j true) a' w') (fun a w hS h=>⟨hS,ih fuel _ a w (by simpa using hf) ho.2 h⟩)
   split at this
   ·rename_i hw
    simp only [hw,if_true]
    exact .inl this
   rename_i hw
   simp only [hw,if_false,Bool.false_eq_true]
   exact this
  | false=>
   simp only [orderB,Bool.and_eq_true] at ho
   obtain ⟨o,v,hoi,hy,hS,hl⟩:=h
   exact wpAnyH_take hoi hs ho.1.1 ho.1.2 (fun c a w=>hQ _ _ c a w) hy hS (ih fuel _ _ w (by simpa using hf) ho.2 hl)
theorem wp_region_keep (S:World->Prop) (l:List (Nat×Bool)) {id:Nat} {a:Act} {w:World} (hm:P.follows .mixedOrders=true) (hs:Region.noSelect ops=true)
  (ho:(l.length==ops.size&&orderB .any ops l (Array.replicate ops.size false))=true)
  (hQ:∀ d v c a w,Q (.panic c) (Act.put a d v) w->Q (.panic c) a w)
  (h:wpHeld P ops Q S l a w.drew):(Code.region id ops true).wp P Q a w:=by
 simp only [Bool.and_eq_true,beq_iff_eq] at ho
 exact wp_region_held hm (wpAnyH_of_held hs hQ l ops.size _ a _ (by omega) ho.2 h)
end
end Go.Proofs.YtjpjalmilfgckaaGreatDoor
namespace Go.Proofs.YtjpjalmilfgckaaGreatDoor
inductive Plan where
 | done
 | pure (i:Nat) (p:Plan)
 | eff (i:Nat) (p:Plan)
 | fork (i j:Nat) (p q:Plan)
section
variable {P:Program} {md:Region.Mode} {ops:Array Oper} {Q:Exit->Act->World->Prop} {S:World->Prop}
def wpPlan (P:Program) (ops:Array Oper) (Q:Exit->Act->World->Prop) (S:World->Prop):Plan->Act->World->Prop
 | .done,a,w=>Q .normal a w
 | .eff i p,a,w=>∃ o,ops[i]? = some o/\∀ K:Act->World->Prop,(∀ a w,S w->wpPlan P ops Q S p a w->K a w)->if Region.wanted o (yielded ops a.tmps) then o.wp P a w K Q else K (a.put o.dst undef) w
 | .pure i p,a,w=>∃ o v,ops[i]? = some o/\YieldsIf P ops S o v a/\S w/\wpPlan P ops Q S p (a.put o.dst v) w
 | .fork i j p q, a, w => (∃ o, ops[i]? = some o ∧ ∀ K : Act → World → Prop, (∀ a w, S w → wpPlan P ops Q S p a w → K a w) → if Region.wanted o (yielded ops a.tmps) then o.wp P a w K Q else K (a.put o.dst undef) w) ∧
   (∃ o,ops[j]? = some o/\∀ K:Act->World->Prop,(∀ a w,S w->wpPlan P ops Q S q a w->K a w)->if Region.wanted o (yielded ops a.tmps) then o.wp P a w K Q else K (a.put o.dst undef) w)
theorem plan_pure {i:Nat} {o:Oper} {d:Tmp} {p:Plan} {a:Act} {w:World} {v:Value} (ho:ops[i]? = some o) (hd:o.dst=some d) (hw:Region.wanted o (yielded ops a.tmps)=true) (hS:S w)
  (hy:∀ w,S w->(execOp a.eval o).run P w=.ok (.value v) w) (h:wpPlan P ops Q S p { tmps:=a.tmps.setIfInBounds d v,defers:=a.defers } w):wpPlan P ops Q S (.pure i p) a w:=
 ⟨o,v,ho,.inl ⟨hw,hy⟩,hS,by rw [hd];exact h⟩
theorem plan_off {i:Nat} {o:Oper} {d:Tmp} {p:Plan} {a:Act} {w:World} (ho:ops[i]? = some o) (hd:o.dst=some d) (hw:Region.wanted o (yielded ops a.tmps)=false) (hS:S w)
  (h:wpPlan P ops Q S p { tmps:=a.tmps.setIfInBounds d undef,defers:=a.defers } w):wpPlan P ops Q S (.pure i p) a w:=
 ⟨o,undef,ho,.inr ⟨hw,rfl⟩,hS,by rw [hd];exact h⟩
theorem plan_eff {i:Nat} {o:Oper} {p:Plan} {a:Act} {w:World} (ho:ops[i]? = some o)
  (h:∀ K:Act->World->Prop,(∀ a w,S w->wpPlan P ops Q S p a w->K a w)->if Region.wanted o (yielded ops a.tmps) then o.wp P a w K Q else K (a.put o.dst undef) w):wpPlan P ops Q S (.eff i p) a w:=
 ⟨o,ho,h⟩
theorem plan_eff1 {i:Nat} {o:Oper} {p:Plan} {a:Act} {w:World} (ho:ops[i]? = some o) (hw:Region.wanted o (yielded ops a.tmps)=true)
  (h:∀ K:Act->World->Prop,(∀ a w,S w->wpPlan P ops Q S p a w->K a w)->o.wp P a w K Q):wpPlan P ops Q S (.eff i p) a w:=
 ⟨o,ho,fun K hK=>by rw [if_pos hw];exact h K hK⟩
theorem plan_fork {i j:Nat} {p q:Plan} {a:Act} {w:World} (h1:wpPlan P ops Q S (.eff i p) a w) (h2:wpPlan P ops Q S (.eff j q) a w):wpPlan P ops Q S (.fork i j p q) a w:=⟨h1,h2⟩
theorem plan_end {a:Act} {w:World} (h:Q .normal a w):wpPlan P ops Q S .done a w:=h
def planB (md:Region.Mode) (ops:Array Oper):Plan->Array Bool->Bool
 | .done,listed=>(Region.ready md ops listed).isEmpty
 | .eff i p,listed=>Region.ready md ops listed==[i]&&planB md ops p (listed.setIfInBounds i true)
 | .pure i p,listed=>Region.free md ops listed i&&(Region.ready md ops listed).contains i&&planB md ops p (listed.setIfInBounds i true)
 | .fork i j p q,listed=>Region.ready md ops listed==[i,j]&&planB md ops p (listed.setIfInBounds i true)&&planB md ops q (listed.setIfInBounds j true)
def planN:Plan->Nat
 | .done=>0
 | .eff _ p=>planN p+1
 | .pure _ p=>planN p+1
 | .fork _ _ p q=>max (planN p) (planN q)+1
theorem wpAnyH_of_plan (hs:Region.noSelect ops=true) (hQ:∀ d v c a w,Q (.panic c) (Act.put a d v) w->Q (.panic c) a w) :
  ∀ (l:Plan) (fuel:Nat) (listed:Array Bool) (a:Act) (w:World),planN l<=fuel->planB md ops l listed=true->wpPlan P ops Q S l a w->wpAnyH P md ops Q S fuel listed a w:=by
 intro l
 induction l with
 | done=>
  intro fuel listed a w _ ho h
  have hr:Region.ready md ops listed=[]:=by simpa [planB] using ho
  exact wpAnyH_done hr h fuel
 | eff i p ih=>
  intro fuel listed a w hf ho h
  simp only [planN] at hf
  obtain ⟨fuel,rfl⟩:∃ f,fuel=f+1:=⟨fuel-1,by omega⟩
  simp only [planB,Bool.and_eq_true,beq_iff_eq] at ho
  obtain ⟨o,hoi,hl⟩:=h
  refine wpAnyH_all ho.1 (by simp) fun j hj=>?_
  obtain rfl:j=i:=by simpa using hj
  unfold wpOp
  simp only [hoi]
  have:=hl (fun a' w'=>S w'/\wpAnyH P md ops Q S fuel (listed.setIfInBounds j true) a' w') (fun a w hS h=>⟨hS,ih fuel _ a w (by omega) ho.2 h⟩)
  split at this
  ·rename_i hw
   simp only [hw,if_true]
   exact .inl this
  rename_i hw
  simp only [hw,if_false,Bool.false_eq_true]
  exact this
 | pure i p ih=>
  intro fuel listed a w hf ho h
  simp only [planN] at hf
  obtain ⟨fuel,rfl⟩:∃ f,fuel=f+1:=⟨fuel-1,by omega⟩
  simp only [planB,Bool.and_eq_true] at ho
  obtain ⟨o,v,hoi,hy,hS,hl⟩:=h
  exact wpAnyH_take hoi hs ho.1.1 ho.1.2 (fun c a w=>hQ _ _ c a w) hy hS (ih fuel _ _ w (by omega) ho.2 hl)
 | fork i j p q ih1 ih2=>
  intro fuel listed a w hf ho h
  simp only [planN] at hf
  obtain ⟨fuel,rfl⟩:∃ f,fuel=f+1:=⟨fuel-1,by omega⟩
  simp only [planB,Bool.and_eq_true,beq_iff_eq] at ho
  refine wpAnyH_all ho.1.1 (by simp) fun k hk=>?_
  have hk':k=i\/k=j:=by simpa using hk
  rcases hk' with rfl | rfl
  ·obtain ⟨o,hoi,hl⟩:=h.1
   unfold wpOp
   simp only [hoi]
   have:=hl (fun a' w'=>S w'/\wpAnyH P md ops Q S fuel (listed.setIfInBounds k true) a' w') (fun a w hS h=>⟨hS,ih1 fuel _ a w (by omega) ho.1.2 h⟩)
   split at this
   ·rename_i hw
    simp only [hw,if_true]
    exact .inl this
   rename_i hw
   simp only [hw,if_false,Bool.false_eq_true]
   exact this
  obtain ⟨o,hoi,hl⟩:=h.2
  unfold wpOp
  simp only [hoi]
  have:=hl (fun a' w'=>S w'/\wpAnyH P md ops Q S fuel (listed.setIfInBounds k true) a' w') (fun a w hS h=>⟨hS,ih2 fuel _ a w (by omega) ho.2 h⟩)
  split at this
  ·rename_i hw
   simp only [hw,if_true]
   exact .inl this
  rename_i hw
  simp only [hw,if_false,Bool.false_eq_true]
  exact this
theorem wp_region_plan (S:World->Prop) (l:Plan) {id:Nat} {a:Act} {w:World} (hm:P.follows .mixedOrders=true) (hs:Region.noSelect ops=true)
  (ho:(Nat.ble (planN l) ops.size&&planB .any ops l (Array.replicate ops.size false))=true)
  (hQ:∀ d v c a w,Q (.panic c) (Act.put a d v) w->Q (.panic c) a w)
  (h:wpPlan P ops Q S l a w.drew):(Code.region id ops true).wp P Q a w:=by
 simp only [Bool.and_eq_true,Nat.ble_eq] at ho
 exact wp_region_held hm (wpAnyH_of_plan hs hQ l ops.size _ a _ ho.1 ho.2 h)
end
end Go.Proofs.YtjpjalmilfgckaaGreatDoor
namespace Go.Proofs.YtjpjalmilfgckaaGreatDoor
inductive PlanB where
 | done
 | pure (i:Nat) (p:PlanB)
 | eff (i:Nat) (p:PlanB)
 | fork (i j:Nat) (p q:PlanB)
 | both (i j:Nat) (p:PlanB)
section
variable {P:Program} {md:Region.Mode} {ops:Array Oper} {Q:Exit->Act->World->Prop} {S:World->Prop}
def wpPlb (P:Program) (ops:Array Oper) (Q:Exit->Act->World->Prop) (S:World->Prop):PlanB->Act->World->Prop
 | .done,a,w=>Q .normal a w
 | .eff i p,a,w=>∃ o,ops[i]? = some o/\∀ K:Act->World->Prop,(∀ a w,S w->wpPlb P ops Q S p a w->K a w)->if Region.wanted o (yielded ops a.tmps) then o.wp P a w K Q else K (a.put o.dst undef) w
 | .pure i p,a,w=>∃ o v,ops[i]? = some o/\YieldsIf P ops S o v a/\S w/\wpPlb P ops Q S p (a.put o.dst v) w
 | .fork i j p q, a, w => (∃ o, ops[i]? = some o ∧ ∀ K : Act → World → Prop, (∀ a w, S w → wpPlb P ops Q S p a w → K a w) → if Region.wanted o (yielded ops a.tmps) then o.wp P a w K Q else K (a.put o.dst undef) w) ∧
   (∃ o,ops[j]? = some o/\∀ K:Act->World->Prop,(∀ a w,S w->wpPlb P ops Q S q a w->K a w)->if Region.wanted o (yielded ops a.tmps) then o.wp P a w K Q else K (a.put o.dst undef) w)
 | .both i j p, a, w => (∃ o, ops[i]? = some o ∧ ∀ K : Act → World → Prop, (∀ a w, S w → (∃ o, ops[j]? = some o ∧ ∀ K : Act → World → Prop, (∀ a w, S w → wpPlb P ops Q S p a w → K a w) → if Region.wanted o (yielded ops a.tmps) then o.wp P a w K Q else K (a.put o.dst undef) w) → K a w) → if Region.wanted o (yielded ops a.tmps) then o.wp P a w K Q else K (a.put o.dst undef) w) ∧
   (∃ o,ops[j]? = some o/\∀ K:Act->World->Prop,(∀ a w,S w->(∃ o,ops[i]? = some o/\∀ K:Act->World->Prop,(∀ a w,S w->wpPlb P ops Q S p a w->K a w)->if Region.wanted o (yielded ops a.tmps) then o.wp P a w K Q else K (a.put o.dst undef) w)->K a w)->if Region.wanted o (yielded ops a.tmps) then o.wp P a w K Q else K (a.put o.dst undef) w)
theorem plb_pure {i:Nat} {o:Oper} {d:Tmp} {p:PlanB} {a:Act} {w:World} {v:Value} (ho:ops[i]? = some o) (hd:o.dst=some d) (hw:Region.wanted o (yielded ops a.tmps)=true) (hS:S w)
  (hy:∀ w,S w->(execOp a.eval o).run P w=.ok (.value v) w) (h:wpPlb P ops Q S p { tmps:=a.tmps.setIfInBounds d v,defers:=a.defers } w):wpPlb P ops Q S (.pure i p) a w:=
 ⟨o,v,ho,.inl ⟨hw,hy⟩,hS,by rw [hd];exact h⟩
theorem plb_eff1 {i:Nat} {o:Oper} {p:PlanB} {a:Act} {w:World} (ho:ops[i]? = some o) (hw:Region.wanted o (yielded ops a.tmps)=true)
  (h:∀ K:Act->World->Prop,(∀ a w,S w->wpPlb P ops Q S p a w->K a w)->o.wp P a w K Q):wpPlb P ops Q S (.eff i p) a w:=
 ⟨o,ho,fun K hK=>by rw [if_pos hw];exact h K hK⟩
theorem plb_fork {i j:Nat} {p q:PlanB} {a:Act} {w:World} (h1:wpPlb P ops Q S (.eff i p) a w) (h2:wpPlb P ops Q S (.eff j q) a w):wpPlb P ops Q S (.fork i j p q) a w:=⟨h1,h2⟩
theorem plb_both {i j:Nat} {p:PlanB} {a:Act} {w:World} (h1:wpPlb P ops Q S (.eff i (.eff j p)) a w) (h2:wpPlb P ops Q S (.eff j (.eff i p)) a w):wpPlb P ops Q S (.both i j p) a w:=⟨h1,h2⟩
theorem plb_end {a:Act} {w:World} (h:Q .normal a w):wpPlb P ops Q S .done a w:=h
def plbB (md:Region.Mode) (ops:Array Oper):PlanB->Array Bool->Bool
 | .done,listed=>(Region.ready md ops listed).isEmpty
 | .eff i p,listed=>Region.ready md ops listed==[i]&&plbB md ops p (listed.setIfInBounds i true)
 | .pure i p,listed=>Region.free md ops listed i&&(Region.ready md ops listed).contains i&&plbB md ops p (listed.setIfInBounds i true)
 | .fork i j p q,listed=>Region.ready md ops listed==[i,j]&&plbB md ops p (listed.setIfInBounds i true)&&plbB md ops q (listed.setIfInBounds j true)
 | .both i j p,listed=>(i != j)&&(Region.ready md ops listed==[i,j]&&(Region.ready md ops (listed.setIfInBounds i true)==[j]&&(Region.ready md ops (listed.setIfInBounds j true)==[i]&&plbB md ops p ((listed.setIfInBounds i true).setIfInBounds j true))))
def plbN:PlanB->Nat
 | .done=>0
 | .eff _ p=>plbN p+1
 | .pure _ p=>plbN p+1
 | .fork _ _ p q=>max (plbN p) (plbN q)+1
 | .both _ _ p=>plbN p+2
theorem wpAnyH_of_plb (hs:Region.noSelect ops=true) (hQ:∀ d v c a w,Q (.panic c) (Act.put a d v) w->Q (.panic c) a w) :
  ∀ (l:PlanB) (fuel:Nat) (listed:Array Bool) (a:Act) (w:World),plbN l<=fuel->plbB md ops l listed=true->wpPlb P ops Q S l a w->wpAnyH P md ops Q S fuel listed a w:=by
 intro l
 induction l with
 | done=>
  intro fuel listed a w _ ho h
  have hr:Region.ready md ops listed=[]:=by simpa [plbB] using ho
  exact wpAnyH_done hr h fuel
 | eff i p ih=>
  intro fuel listed a w hf ho h
  simp only [plbN] at hf
  obtain ⟨fuel,rfl⟩:∃ f,fuel=f+1:=⟨fuel-1,by omega⟩
  simp only [plbB,Bool.and_eq_true,beq_iff_eq] at ho
  obtain ⟨o,hoi,hl⟩:=h
  refine wpAnyH_all ho.1 (by simp) fun j hj=>?_
  obtain rfl:j=i:=by simpa using hj
  unfold wpOp
  simp only [hoi]
  have:=hl (fun a' w'=>S w'/\wpAnyH P md ops Q S fuel (listed.setIfInBounds j true) a' w') (fun a w hS h=>⟨hS,ih fuel _ a w (by omega) ho.2 h⟩)
  split at this
  ·rename_i hw
   simp only [hw,if_true]
   exact .inl this
  rename_i hw
  simp only [hw,if_false,Bool.false_eq_true]
  exact this
 | pure i p ih=>
  intro fuel listed a w hf ho h
  simp only [plbN] at hf
  obtain ⟨fuel,rfl⟩:∃ f,fuel=f+1:=⟨fuel-1,by omega⟩
  simp only [plbB,Bool.and_eq_true] at ho
  obtain ⟨o,v,hoi,hy,hS,hl⟩:=h
  exact wpAnyH_take hoi hs ho.1.1 ho.1.2 (fun c a w=>hQ _ _ c a w) hy hS (ih fuel _ _ w (by omega) ho.2 hl)
 | fork i j p q ih1 ih2=>
  intro fuel listed a w hf ho h
  simp only [plbN] at hf
  obtain ⟨fuel,rfl⟩:∃ f,fuel=f+1:=⟨fuel-1,by omega⟩
  simp only [plbB,Bool.and_eq_true,beq_iff_eq] at ho
  refine wpAnyH_all ho.1.1 (by simp) fun k hk=>?_
  have hk':k=i\/k=j:=by simpa using hk
  rcases hk' with rfl | rfl
  ·obtain ⟨o,hoi,hl⟩:=h.1
   unfold wpOp
   simp only [hoi]
   have:=hl (fun a' w'=>S w'/\wpAnyH P md ops Q S fuel (listed.setIfInBounds k true) a' w') (fun a w hS h=>⟨hS,ih1 fuel _ a w (by omega) ho.1.2 h⟩)
   split at this
   ·rename_i hw
    simp only [hw,if_true]
    exact .inl this
   rename_i hw
   simp only [hw,if_false,Bool.false_eq_true]
   exact this
  obtain ⟨o,hoi,hl⟩:=h.2
  unfold wpOp
  simp only [hoi]
  have:=hl (fun a' w'=>S w'/\wpAnyH P md ops Q S fuel (listed.setIfInBounds k true) a' w') (fun a w hS h=>⟨hS,ih2 fuel _ a w (by omega) ho.2 h⟩)
  split at this
  ·rename_i hw
   simp only [hw,if_true]
   exact .inl this
  rename_i hw
  simp only [hw,if_false,Bool.false_eq_true]
  exact this
 | both i j p ih=>
  intro fuel listed a w hf ho h
  simp only [plbN] at hf
  obtain ⟨fuel,rfl⟩:∃ f,fuel=f+1+1:=⟨fuel-2,by omega⟩
  simp only [plbB,Bool.and_eq_true,beq_iff_eq,bne_iff_ne,ne_eq] at ho
  have hne:i≠j:=ho.1
  refine wpAnyH_all ho.2.1 (by simp) fun k hk=>?_
  have hk':k=i\/k=j:=by simpa using hk
  rcases hk' with rfl | rfl
  ·obtain ⟨o,hoi,hl⟩:=h.1
   unfold wpOp
   simp only [hoi]
   have:=hl (fun a' w'=>S w'/\wpAnyH P md ops Q S (fuel+1) (listed.setIfInBounds k true) a' w') (fun a w hS h3=>⟨hS,by
    refine wpAnyH_all ho.2.2.1 (by simp) fun k2 hk2=>?_
    obtain rfl:k2=j:=by simpa using hk2
    obtain ⟨o2,hoi2,hl2⟩:=h3
    unfold wpOp
    simp only [hoi2]
    have:=hl2 (fun a' w'=>S w'/\wpAnyH P md ops Q S fuel ((listed.setIfInBounds k true).setIfInBounds k2 true) a' w') (fun a w hS h=>⟨hS,ih fuel _ a w (by omega) (by exact ho.2.2.2.2) h⟩)
    split at this
    ·rename_i hw
     simp only [hw,if_true]
     exact .inl this
    rename_i hw
    simp only [hw,if_false,Bool.false_eq_true]
    exact this⟩)
   split at this
   ·rename_i hw
    simp only [hw,if_true]
    exact .inl this
   rename_i hw
   simp only [hw,if_false,Bool.false_eq_true]
   exact this
  obtain ⟨o,hoi,hl⟩:=h.2
  unfold wpOp
  simp only [hoi]
  have:=hl (fun a' w'=>S w'/\wpAnyH P md ops Q S (fuel+1) (listed.setIfInBounds k true) a' w') (fun a w hS h3=>⟨hS,by
   refine wpAnyH_all ho.2.2.2.1 (by simp) fun k2 hk2=>?_
   obtain rfl:k2=i:=by simpa using hk2
   obtain ⟨o2,hoi2,hl2⟩:=h3
   unfold wpOp
   simp only [hoi2]
   have:=hl2 (fun a' w'=>S w'/\wpAnyH P md ops Q S fuel ((listed.setIfInBounds k true).setIfInBounds k2 true) a' w') (fun a w hS h=>⟨hS,ih fuel _ a w (by omega) (by rw [Array.setIfInBounds_comm _ _ hne.symm];exact ho.2.2.2.2) h⟩)
   split at this
   ·rename_i hw
    simp only [hw,if_true]
    exact .inl this
   rename_i hw
   simp only [hw,if_false,Bool.false_eq_true]
   exact this⟩)
  split at this
  ·rename_i hw
   simp only [hw,if_true]
   exact .inl this
  rename_i hw
  simp only [hw,if_false,Bool.false_eq_true]
  exact this
theorem wp_region_plb (S:World->Prop) (l:PlanB) {id:Nat} {a:Act} {w:World} (hm:P.follows .mixedOrders=true) (hs:Region.noSelect ops=true)
  (ho:(Nat.ble (plbN l) ops.size&&plbB .any ops l (Array.replicate ops.size false))=true)
  (hQ:∀ d v c a w,Q (.panic c) (Act.put a d v) w->Q (.panic c) a w)
  (h:wpPlb P ops Q S l a w.drew):(Code.region id ops true).wp P Q a w:=by
 simp only [Bool.and_eq_true,Nat.ble_eq] at ho
 exact wp_region_held hm (wpAnyH_of_plb hs hQ l ops.size _ a _ ho.1 ho.2 h)
end
end Go.Proofs.YtjpjalmilfgckaaGreatDoor
namespace Go.Proofs.YtjpjalmilfgckaaGreatDoor
def waitsB (md:Region.Mode) (ops:Array Oper) (k i:Nat):Bool:=match ops[k]? with
 | some o=>o.after.any fun e=>Region.binds md e&&e.on==i
 | none=>false
theorem not_waits {md:Region.Mode} {ops:Array Oper} {listed:Array Bool} {j i:Nat} (hj:j∈Region.ready md ops listed) (hi:listed.getD i true=false):waitsB md ops j i=false:=by
 obtain ⟨-,o,ho,hall⟩:=mem_ready.1 hj
 unfold waitsB
 rw [ho]
 simp only
 rw [Bool.eq_false_iff]
 intro h
 obtain ⟨e,he,hb⟩:=Array.any_eq_true'.1 h
 simp only [Bool.and_eq_true,beq_iff_eq] at hb
 have h1:=hall e he hb.1
 rw [hb.2] at h1
 rcases Nat.lt_or_ge i listed.size with h' | h'
 ·simp [h'] at hi h1
  rw [hi] at h1
  cases h1
 simp [Array.getElem?_eq_none h'] at h1
section
variable {P:Program} {md:Region.Mode} {ops:Array Oper} {Q:Exit->Act->World->Prop} {S S2:World->Prop}
def usedUp (md:Region.Mode) (ops:Array Oper) (T:List Nat) (listed:Array Bool):Prop:=∀ i∈T,∃ k,listed.getD k false=true/\waitsB md ops k i=true
def wpAnyM (P:Program) (md:Region.Mode) (ops:Array Oper) (Q:Exit->Act->World->Prop) (S:World->Prop) (T:List Nat):Nat->Array Bool->Act->World->Prop
 | 0,listed,a,w=>Region.ready md ops listed=[]/\Q .normal a w
 | fuel+1,listed,a,w=>(usedUp md ops T listed/\wpAny P md ops Q (fuel+1) listed a w) \/
  ((Region.ready md ops listed=[]->Q .normal a w)/\∀ i∈Region.ready md ops listed,wpOp P ops Q i (fun a' w'=>S w'/\wpAnyM P md ops Q S T fuel (listed.setIfInBounds i true) a' w') a w)
theorem wpAny_of_phase {T:List Nat}:∀ (fuel:Nat) (listed:Array Bool) (a:Act) (w:World),wpAnyM P md ops Q S T fuel listed a w->wpAny P md ops Q fuel listed a w
 | 0,_,_,_,h=>h
 | _+1,_,_,_,.inl h=>h.2
 | fuel+1,_,_,_,.inr h=>⟨h.1,fun i hi=>wpOp_mono (fun a' w' h'=>wpAny_of_phase fuel _ a' w' h'.2) (h.2 i hi)⟩
theorem wpAnyM_first {T:List Nat} {i:Nat} {oi:Oper} {v:Value} (hi:ops[i]? = some oi) (hT:i∈T) (hs:Region.noSelect ops=true) (hQ:∀ c a w,Q (.panic c) (a.put oi.dst v) w->Q (.panic c) a w) :
  ∀ (fuel:Nat) (listed:Array Bool) (a:Act) (w:World),
   (∀ j oj,ops[j]? = some oj->j≠i->listed.getD j true=false->(∀ e∈oj.after,Region.binds md e=true->e.on≠i)->oi.apart ops oj=true) ->
   (∀ k,listed.getD k false=true->waitsB md ops k i=false)->i∈Region.ready md ops listed->YieldsIf P ops S oi v a->S w ->
   wpAnyM P md ops Q S T fuel (listed.setIfInBounds i true) (a.put oi.dst v) w->wpAnyM P md ops Q S T (fuel+1) listed a w:=by
 have hsel:=Region.noSelect_spec hs
 intro fuel
 induction fuel with
 | zero=>
  intro listed a w _ _ hr hy hS H
  refine .inr ⟨fun h=>absurd (h ▸ hr) (by simp),fun j hj=>?_⟩
  by_cases hji:j=i
  ·subst hji
   exact hy.wpOp hi hS ⟨hS,H⟩
  exact absurd (H.1 ▸ ready_mono hj hji) (by simp)
 | succ fuel ih=>
  intro listed a w hfree hno hr hy hS H
  have hun:=(mem_ready.1 hr).1
  refine .inr ⟨fun h=>absurd (h ▸ hr) (by simp),fun j hj=>?_⟩
  by_cases hji:j=i
  ·subst hji
   exact hy.wpOp hi hS ⟨hS,H⟩
  rcases H with ⟨H,-⟩ | H
  ·exfalso
   obtain ⟨k,hk,hw⟩:=H i hT
   by_cases hki:i=k
   ·subst hki
    rw [not_waits hr hun] at hw
    cases hw
   rw [getD_set_ne false hki] at hk
   rw [hno k hk] at hw
   cases hw
  have h1:=H.2 j (ready_mono hj hji)
  have hjw:=not_waits hj hun
  obtain ⟨hjun,oj,hoj,-⟩:=mem_ready.1 hj
  have hnot:∀ e∈oj.after,Region.binds md e=true->e.on≠i:=fun e he hb heq=>by
   unfold waitsB at hjw
   rw [hoj] at hjw
   have:(oj.after.any fun e=>Region.binds md e&&e.on==i)=true:=Array.any_eq_true'.2 ⟨e,he,by simp [hb,heq]⟩
   simp only at hjw
   rw [this] at hjw
   cases hjw
  have h2:=wpOp_putIf hoj (hfree j oj hoj hji hjun hnot) (fun cs b=>hsel i oi cs b hi) (fun cs b=>hsel j oj cs b hoj) hQ hy h1
  refine wpOp_mono (fun a' w' h3=>⟨h3.2.1,ih (listed.setIfInBounds j true) a' w' (fun k ok hk hki hku hkn=>?_) (fun k hk=>?_) (ready_mono hr (Ne.symm hji)) h3.1 h3.2.1 ?_⟩) h2
  ·refine hfree k ok hk hki ?_ hkn
   by_cases hjk:j=k
   ·subst hjk;exact hjun
   rw [getD_set_ne true hjk] at hku;exact hku
  ·by_cases hjk:j=k
   ·subst hjk;exact hjw
   rw [getD_set_ne false hjk] at hk;exact hno k hk
  rw [Array.setIfInBounds_comm _ _ hji]
  exact h3.2.2
def wpPhase (P:Program) (ops:Array Oper) (Q:Exit->Act->World->Prop) (S:World->Prop) (X:Act->World->Prop):List (Nat×Bool)->Act->World->Prop
 | [],a,w=>X a w
 | (i,true)::rest,a,w=>∃ o,ops[i]? = some o/\∀ K:Act->World->Prop,(∀ a w,S w->wpPhase P ops Q S X rest a w->K a w)->if Region.wanted o (yielded ops a.tmps) then o.wp P a w K Q else K (a.put o.dst undef) w
 | (i,false)::rest,a,w=>∃ o v,ops[i]? = some o/\YieldsIf P ops S o v a/\S w/\wpPhase P ops Q S X rest (a.put o.dst v) w
variable {X:Act->World->Prop}
theorem phase_pure {i:Nat} {o:Oper} {d:Tmp} {rest:List (Nat×Bool)} {a:Act} {w:World} {v:Value} (ho:ops[i]? = some o) (hd:o.dst=some d) (hw:Region.wanted o (yielded ops a.tmps)=true) (hS:S w)
  (hy:∀ w,S w->(execOp a.eval o).run P w=.ok (.value v) w) (h:wpPhase P ops Q S X rest { tmps:=a.tmps.setIfInBounds d v,defers:=a.defers } w):wpPhase P ops Q S X ((i,false)::rest) a w:=
 ⟨o,v,ho,.inl ⟨hw,hy⟩,hS,by rw [hd];exact h⟩
theorem phase_eff1 {i:Nat} {o:Oper} {rest:List (Nat×Bool)} {a:Act} {w:World} (ho:ops[i]? = some o) (hw:Region.wanted o (yielded ops a.tmps)=true)
  (h:∀ K:Act->World->Prop,(∀ a w,S w->wpPhase P ops Q S X rest a w->K a w)->o.wp P a w K Q):wpPhase P ops Q S X ((i,true)::rest) a w:=
 ⟨o,ho,fun K hK=>by rw [if_pos hw];exact h K hK⟩
theorem phase_end {a:Act} {w:World} (h:X a w):wpPhase P ops Q S X [] a w:=h
def phaseB (md:Region.Mode) (ops:Array Oper) (T:List Nat) (l2:List (Nat×Bool)):List (Nat×Bool)->Array Bool->Bool
 | [],listed=>(T.all fun i=>(List.range ops.size).any fun k=>listed.getD k false&&waitsB md ops k i)&&orderB md ops l2 listed
 | (i,true)::rest,listed=>Region.ready md ops listed==[i]&&phaseB md ops T l2 rest (listed.setIfInBounds i true)
 | (i,false)::rest,listed=>T.contains i&&Region.free md ops listed i&&(Region.ready md ops listed).contains i&&((List.range ops.size).all fun k => !(listed.getD k false) || !(waitsB md ops k i))&&phaseB md ops T l2 rest (listed.setIfInBounds i true)
theorem waits_lt {k i:Nat} (h:waitsB md ops k i=true):k<ops.size:=by
 unfold waitsB at h
 split at h
 ·rename_i o ho
  exact (Array.getElem?_eq_some_iff.1 ho).1
 cases h
theorem wpAnyM_of_phase {T:List Nat} {l2:List (Nat×Bool)} (hl2:0<l2.length) (hs:Region.noSelect ops=true) (hQ:∀ d v c a w,Q (.panic c) (Act.put a d v) w->Q (.panic c) a w) :
  ∀ (l:List (Nat×Bool)) (fuel:Nat) (listed:Array Bool) (a:Act) (w:World),l.length+l2.length<=fuel->phaseB md ops T l2 l listed=true->wpPhase P ops Q S (wpHeld P ops Q S2 l2) l a w->wpAnyM P md ops Q S T fuel listed a w:=by
 intro l
 induction l with
 | nil=>
  intro fuel listed a w hf ho h
  obtain ⟨fuel,rfl⟩:∃ f,fuel=f+1:=⟨fuel-1,by simp at hf;omega⟩
  simp only [phaseB,Bool.and_eq_true] at ho
  refine .inl ⟨fun i hi=>?_,wpAny_of_held _ _ _ _ (wpAnyH_of_held hs hQ l2 (fuel+1) listed a w (by simp at hf;omega) ho.2 h)⟩
  have h1:=List.all_eq_true.1 ho.1 i hi
  obtain ⟨k,-,hk⟩:=List.any_eq_true.1 h1
  simp only [Bool.and_eq_true] at hk
  exact ⟨k,hk.1,hk.2⟩
 | cons x rest ih=>
  intro fuel listed a w hf ho h
  obtain ⟨i,b⟩:=x
  simp only [List.length_cons] at hf
  obtain ⟨fuel,rfl⟩:∃ f,fuel=f+1:=⟨fuel-1,by omega⟩
  cases b with
  | true=>
   simp only [phaseB,Bool.and_eq_true,beq_iff_eq] at ho
   obtain ⟨o,hoi,hl⟩:=h
   refine .inr ⟨fun h0=>absurd (ho.1.symm.trans h0) (by simp),fun j hj=>?_⟩
   rw [ho.1] at hj
   obtain rfl:j=i:=by simpa using hj
   unfold wpOp
   simp only [hoi]
   have:=hl (fun a' w'=>S w'/\wpAnyM P md ops Q S T fuel (listed.setIfInBounds j true) a' w') (fun a w hS h=>⟨hS,ih fuel _ a w (by omega) ho.2 h⟩)
   split at this
   ·rename_i hw
    simp only [hw,if_true]
    exact .inl this
   rename_i hw
   simp only [hw,if_false,Bool.false_eq_true]
   exact this
  | false=>
   simp only [phaseB,Bool.and_eq_true] at ho
   obtain ⟨⟨⟨⟨h1,h2⟩,h3⟩,h4⟩,h5⟩:=ho
   obtain ⟨o,v,hoi,hy,hS,hl⟩:=h
   refine wpAnyM_first hoi (by simpa using h1) hs (fun c a w=>hQ _ _ c a w) fuel listed a w (Region.free_spec hoi h2) (fun k hk=>?_) (by simpa using h3) hy hS (ih fuel _ _ w (by omega) h5 hl)
   rcases hw:waitsB md ops k i with _ | _
   ·rfl
   have:=List.all_eq_true.1 h4 k (List.mem_range.2 (waits_lt hw))
   rw [hk,hw] at this
   cases this
theorem wp_region_phase (S:World->Prop) (T:List Nat) (l:List (Nat×Bool)) (S2:World->Prop) (l2:List (Nat×Bool)) {id:Nat} {a:Act} {w:World} (hm:P.follows .mixedOrders=true) (hs:Region.noSelect ops=true)
  (ho:(Nat.blt 0 l2.length&&l.length+l2.length==ops.size&&phaseB .any ops T l2 l (Array.replicate ops.size false))=true)
  (hQ:∀ d v c a w,Q (.panic c) (Act.put a d v) w->Q (.panic c) a w)
  (h:wpPhase P ops Q S (wpHeld P ops Q S2 l2) l a w.drew):(Code.region id ops true).wp P Q a w:=by
 simp only [Bool.and_eq_true,beq_iff_eq] at ho
 exact wp_region_any hm (wpAny_of_phase _ _ _ _ (wpAnyM_of_phase (T:=T) (by have:=ho.1.1;simpa [Nat.blt_eq] using this) hs hQ l ops.size _ a _ (by omega) ho.2 h))
end
end Go.Proofs.YtjpjalmilfgckaaGreatDoor
namespace Go.Proofs.YtjpjalmilfgckaaGreatDoor
theorem zp:(∀ (a:Act) (d:Tmp) (v:Value),a.put (some d) v={ tmps:=a.tmps.setIfInBounds d v,defers:=a.defers })/\(∀ (l:List Value) (i:Nat) (a:Value),l.toArray.setIfInBounds i a=(l.set i a).toArray) /\
 (∀ (x:Value) (l:List Value) (i:Nat) (a:Value),(x::l).set (i+1) a=x::l.set i a)/\∀ (x:Value) (l:List Value) (a:Value),(x::l).set 0 a=a::l:=⟨fun _ _ _=>rfl,fun _ _ _=>List.setIfInBounds_toArray ..,fun _ _ _ _=>rfl,fun _ _ _=>rfl⟩
section
variable {P:Program} {ops:Array Oper} {Q:Exit->Act->World->Prop} {S:World->Prop}
theorem hP {i:Nat} {o:Oper} {d:Tmp} {rest:List (Nat×Bool)} {a g:Act} {w:World} {v:Value} (hS:S w) (h:wpHeld P ops Q S rest g w) (ho:ops[i]? = some o:=by exact rfl) (hd:o.dst=some d:=by exact rfl) (hw:Region.wanted o (yielded ops a.tmps)=true:=by simp [Region.wanted,yielded])
  (hy:∀ w,S w->(execOp a.eval o).run P w=.ok (.value v) w:=by intro w hw;go_simp;try with_reducible rfl) (hg:Act.mk (a.tmps.setIfInBounds d v) a.defers=g:=by (try simp only [zp])<;>exact rfl):wpHeld P ops Q S ((i,false)::rest) a w:=by
 subst hg;exact held_pure ho hd hw hS (fun w hw=>hy w hw) h
theorem hP1 {i:Nat} {o:Oper} {d:Tmp} {rest:List (Nat×Bool)} {a g:Act} {w:World} {v:Value} {C0:World->Prop} (hS:S w) (c0:∀ w,S w->C0 w) (h:wpHeld P ops Q S rest g w) (ho:ops[i]? = some o:=by exact rfl) (hd:o.dst=some d:=by exact rfl) (hw:Region.wanted o (yielded ops a.tmps)=true:=by simp [Region.wanted,yielded])
  (hy:∀ w,S w->C0 w->(execOp a.eval o).run P w=.ok (.value v) w:=by intro w hw c0;clear hw;go_simp;try with_reducible rfl) (hg:Act.mk (a.tmps.setIfInBounds d v) a.defers=g:=by (try simp only [zp])<;>exact rfl):wpHeld P ops Q S ((i,false)::rest) a w:=by
 subst hg;exact held_pure ho hd hw hS (fun w hw=>hy w hw (c0 w hw)) h
theorem hP2 {i:Nat} {o:Oper} {d:Tmp} {rest:List (Nat×Bool)} {a g:Act} {w:World} {v:Value} {C0:World->Prop} {C1:World->Prop} (hS:S w) (c0:∀ w,S w->C0 w) (c1:∀ w,S w->C1 w) (h:wpHeld P ops Q S rest g w) (ho:ops[i]? = some o:=by exact rfl) (hd:o.dst=some d:=by exact rfl) (hw:Region.wanted o (yielded ops a.tmps)=true:=by simp [Region.wanted,yielded])
  (hy:∀ w,S w->C0 w->C1 w->(execOp a.eval o).run P w=.ok (.value v) w:=by intro w hw c0 c1;clear hw;go_simp;try with_reducible rfl) (hg:Act.mk (a.tmps.setIfInBounds d v) a.defers=g:=by (try simp only [zp])<;>exact rfl):wpHeld P ops Q S ((i,false)::rest) a w:=by
 subst hg;exact held_pure ho hd hw hS (fun w hw=>hy w hw (c0 w hw) (c1 w hw)) h
theorem hP3 {i:Nat} {o:Oper} {d:Tmp} {rest:List (Nat×Bool)} {a g:Act} {w:World} {v:Value} {C0:World->Prop} {C1:World->Prop} {C2:World->Prop} (hS:S w) (c0:∀ w,S w->C0 w) (c1:∀ w,S w->C1 w) (c2:∀ w,S w->C2 w) (h:wpHeld P ops Q S rest g w) (ho:ops[i]? = some o:=by exact rfl) (hd:o.dst=some d:=by exact rfl) (hw:Region.wanted o (yielded ops a.tmps)=true:=by simp [Region.wanted,yielded])
  (hy:∀ w,S w->C0 w->C1 w->C2 w->(execOp a.eval o).run P w=.ok (.value v) w:=by intro w hw c0 c1 c2;clear hw;go_simp;try with_reducible rfl) (hg:Act.mk (a.tmps.setIfInBounds d v) a.defers=g:=by (try simp only [zp])<;>exact rfl):wpHeld P ops Q S ((i,false)::rest) a w:=by
 subst hg;exact held_pure ho hd hw hS (fun w hw=>hy w hw (c0 w hw) (c1 w hw) (c2 w hw)) h
theorem hP5 {i:Nat} {o:Oper} {d:Tmp} {rest:List (Nat×Bool)} {a g:Act} {w:World} {v:Value} {C0:World->Prop} {C1:World->Prop} {C2:World->Prop} {C3:World->Prop} {C4:World->Prop} (hS:S w) (c0:∀ w,S w->C0 w) (c1:∀ w,S w->C1 w) (c2:∀ w,S w->C2 w) (c3:∀ w,S w->C3 w) (c4:∀ w,S w->C4 w) (h:wpHeld P ops Q S rest g w) (ho:ops[i]? = some o:=by exact rfl) (hd:o.dst=some d:=by exact rfl) (hw:Region.wanted o (yielded ops a.tmps)=true:=by simp [Region.wanted,yielded])
  (hy:∀ w,S w->C0 w->C1 w->C2 w->C3 w->C4 w->(execOp a.eval o).run P w=.ok (.value v) w:=by intro w hw c0 c1 c2 c3 c4;clear hw;go_simp;try with_reducible rfl) (hg:Act.mk (a.tmps.setIfInBounds d v) a.defers=g:=by (try simp only [zp])<;>exact rfl):wpHeld P ops Q S ((i,false)::rest) a w:=by
 subst hg;exact held_pure ho hd hw hS (fun w hw=>hy w hw (c0 w hw) (c1 w hw) (c2 w hw) (c3 w hw) (c4 w hw)) h
theorem hP7 {i:Nat} {o:Oper} {d:Tmp} {rest:List (Nat×Bool)} {a g:Act} {w:World} {v:Value} {C0:World->Prop} {C1:World->Prop} {C2:World->Prop} {C3:World->Prop} {C4:World->Prop} {C5:World->Prop} {C6:World->Prop} (hS:S w) (c0:∀ w,S w->C0 w) (c1:∀ w,S w->C1 w) (c2:∀ w,S w->C2 w) (c3:∀ w,S w->C3 w) (c4:∀ w,S w->C4 w) (c5:∀ w,S w->C5 w) (c6:∀ w,S w->C6 w) (h:wpHeld P ops Q S rest g w) (ho:ops[i]? = some o:=by exact rfl) (hd:o.dst=some d:=by exact rfl) (hw:Region.wanted o (yielded ops a.tmps)=true:=by simp [Region.wanted,yielded])
  (hy:∀ w,S w->C0 w->C1 w->C2 w->C3 w->C4 w->C5 w->C6 w->(execOp a.eval o).run P w=.ok (.value v) w:=by intro w hw c0 c1 c2 c3 c4 c5 c6;clear hw;go_simp;try with_reducible rfl) (hg:Act.mk (a.tmps.setIfInBounds d v) a.defers=g:=by (try simp only [zp])<;>exact rfl):wpHeld P ops Q S ((i,false)::rest) a w:=by
 subst hg;exact held_pure ho hd hw hS (fun w hw=>hy w hw (c0 w hw) (c1 w hw) (c2 w hw) (c3 w hw) (c4 w hw) (c5 w hw) (c6 w hw)) h
theorem hO {i:Nat} {o:Oper} {d:Tmp} {rest:List (Nat×Bool)} {a g:Act} {w:World}  (hS:S w) (h:wpHeld P ops Q S rest g w) (ho:ops[i]? = some o:=by exact rfl) (hd:o.dst=some d:=by exact rfl) (hw:Region.wanted o (yielded ops a.tmps)=false:=by simp [Region.wanted,yielded,undef])
  (hg:Act.mk (a.tmps.setIfInBounds d undef) a.defers=g:=by (try simp only [zp])<;>exact rfl):wpHeld P ops Q S ((i,false)::rest) a w:=by
 subst hg;exact held_off ho hd hw hS h
theorem hE {i:Nat} {o:Oper} {rest:List (Nat×Bool)} {a:Act} {w:World} (h:∀ K:Act->World->Prop,(∀ a w,S w->wpHeld P ops Q S rest a w->K a w)->o.wp P a w K Q) (ho:ops[i]? = some o:=by exact rfl) (hw:Region.wanted o (yielded ops a.tmps)=true:=by simp [Region.wanted,yielded]):wpHeld P ops Q S ((i,true)::rest) a w:=held_eff1 ho hw h
theorem nP {i:Nat} {o:Oper} {d:Tmp} {p:Plan} {a g:Act} {w:World} {v:Value} (hS:S w) (h:wpPlan P ops Q S p g w) (ho:ops[i]? = some o:=by exact rfl) (hd:o.dst=some d:=by exact rfl) (hw:Region.wanted o (yielded ops a.tmps)=true:=by simp [Region.wanted,yielded])
  (hy:∀ w,S w->(execOp a.eval o).run P w=.ok (.value v) w:=by intro w hw;go_simp;try with_reducible rfl) (hg:Act.mk (a.tmps.setIfInBounds d v) a.defers=g:=by (try simp only [zp])<;>exact rfl):wpPlan P ops Q S (.pure i p) a w:=by
 subst hg;exact plan_pure ho hd hw hS (fun w hw=>hy w hw) h
theorem nP1 {i:Nat} {o:Oper} {d:Tmp} {p:Plan} {a g:Act} {w:World} {v:Value} {C0:World->Prop} (hS:S w) (c0:∀ w,S w->C0 w) (h:wpPlan P ops Q S p g w) (ho:ops[i]? = some o:=by exact rfl) (hd:o.dst=some d:=by exact rfl) (hw:Region.wanted o (yielded ops a.tmps)=true:=by simp [Region.wanted,yielded])
  (hy:∀ w,S w->C0 w->(execOp a.eval o).run P w=.ok (.value v) w:=by intro w hw c0;clear hw;go_simp;try with_reducible rfl) (hg:Act.mk (a.tmps.setIfInBounds d v) a.defers=g:=by (try simp only [zp])<;>exact rfl):wpPlan P ops Q S (.pure i p) a w:=by
 subst hg;exact plan_pure ho hd hw hS (fun w hw=>hy w hw (c0 w hw)) h
theorem nP2 {i:Nat} {o:Oper} {d:Tmp} {p:Plan} {a g:Act} {w:World} {v:Value} {C0:World->Prop} {C1:World->Prop} (hS:S w) (c0:∀ w,S w->C0 w) (c1:∀ w,S w->C1 w) (h:wpPlan P ops Q S p g w) (ho:ops[i]? = some o:=by exact rfl) (hd:o.dst=some d:=by exact rfl) (hw:Region.wanted o (yielded ops a.tmps)=true:=by simp [Region.wanted,yielded])
  (hy:∀ w,S w->C0 w->C1 w->(execOp a.eval o).run P w=.ok (.value v) w:=by intro w hw c0 c1;clear hw;go_simp;try with_reducible rfl) (hg:Act.mk (a.tmps.setIfInBounds d v) a.defers=g:=by (try simp only [zp])<;>exact rfl):wpPlan P ops Q S (.pure i p) a w:=by
 subst hg;exact plan_pure ho hd hw hS (fun w hw=>hy w hw (c0 w hw) (c1 w hw)) h
theorem nP3 {i:Nat} {o:Oper} {d:Tmp} {p:Plan} {a g:Act} {w:World} {v:Value} {C0:World->Prop} {C1:World->Prop} {C2:World->Prop} (hS:S w) (c0:∀ w,S w->C0 w) (c1:∀ w,S w->C1 w) (c2:∀ w,S w->C2 w) (h:wpPlan P ops Q S p g w) (ho:ops[i]? = some o:=by exact rfl) (hd:o.dst=some d:=by exact rfl) (hw:Region.wanted o (yielded ops a.tmps)=true:=by simp [Region.wanted,yielded])
  (hy:∀ w,S w->C0 w->C1 w->C2 w->(execOp a.eval o).run P w=.ok (.value v) w:=by intro w hw c0 c1 c2;clear hw;go_simp;try with_reducible rfl) (hg:Act.mk (a.tmps.setIfInBounds d v) a.defers=g:=by (try simp only [zp])<;>exact rfl):wpPlan P ops Q S (.pure i p) a w:=by
 subst hg;exact plan_pure ho hd hw hS (fun w hw=>hy w hw (c0 w hw) (c1 w hw) (c2 w hw)) h
theorem nO {i:Nat} {o:Oper} {d:Tmp} {p:Plan} {a g:Act} {w:World}  (hS:S w) (h:wpPlan P ops Q S p g w) (ho:ops[i]? = some o:=by exact rfl) (hd:o.dst=some d:=by exact rfl) (hw:Region.wanted o (yielded ops a.tmps)=false:=by simp [Region.wanted,yielded,undef])
  (hg:Act.mk (a.tmps.setIfInBounds d undef) a.defers=g:=by (try simp only [zp])<;>exact rfl):wpPlan P ops Q S (.pure i p) a w:=by
 subst hg;exact plan_off ho hd hw hS h
theorem nE {i:Nat} {o:Oper} {p:Plan} {a:Act} {w:World} (h:∀ K:Act->World->Prop,(∀ a w,S w->wpPlan P ops Q S p a w->K a w)->o.wp P a w K Q) (ho:ops[i]? = some o:=by exact rfl) (hw:Region.wanted o (yielded ops a.tmps)=true:=by simp [Region.wanted,yielded]):wpPlan P ops Q S (.eff i p) a w:=plan_eff1 ho hw h
theorem bP {i:Nat} {o:Oper} {d:Tmp} {p:PlanB} {a g:Act} {w:World} {v:Value} (hS:S w) (h:wpPlb P ops Q S p g w) (ho:ops[i]? = some o:=by exact rfl) (hd:o.dst=some d:=by exact rfl) (hw:Region.wanted o (yielded ops a.tmps)=true:=by simp [Region.wanted,yielded])
  (hy:∀ w,S w->(execOp a.eval o).run P w=.ok (.value v) w:=by intro w hw;go_simp;try with_reducible rfl) (hg:Act.mk (a.tmps.setIfInBounds d v) a.defers=g:=by (try simp only [zp])<;>exact rfl):wpPlb P ops Q S (.pure i p) a w:=by
 subst hg;exact plb_pure ho hd hw hS (fun w hw=>hy w hw) h
theorem bP1 {i:Nat} {o:Oper} {d:Tmp} {p:PlanB} {a g:Act} {w:World} {v:Value} {C0:World->Prop} (hS:S w) (c0:∀ w,S w->C0 w) (h:wpPlb P ops Q S p g w) (ho:ops[i]? = some o:=by exact rfl) (hd:o.dst=some d:=by exact rfl) (hw:Region.wanted o (yielded ops a.tmps)=true:=by simp [Region.wanted,yielded])
  (hy:∀ w,S w->C0 w->(execOp a.eval o).run P w=.ok (.value v) w:=by intro w hw c0;clear hw;go_simp;try with_reducible rfl) (hg:Act.mk (a.tmps.setIfInBounds d v) a.defers=g:=by (try simp only [zp])<;>exact rfl):wpPlb P ops Q S (.pure i p) a w:=by
 subst hg;exact plb_pure ho hd hw hS (fun w hw=>hy w hw (c0 w hw)) h
theorem bE {i:Nat} {o:Oper} {p:PlanB} {a:Act} {w:World} (h:∀ K:Act->World->Prop,(∀ a w,S w->wpPlb P ops Q S p a w->K a w)->o.wp P a w K Q) (ho:ops[i]? = some o:=by exact rfl) (hw:Region.wanted o (yielded ops a.tmps)=true:=by simp [Region.wanted,yielded]):wpPlb P ops Q S (.eff i p) a w:=plb_eff1 ho hw h
theorem fP2 {i:Nat} {o:Oper} {d:Tmp} {rest:List (Nat×Bool)} {a g:Act} {w:World} {X:Act->World->Prop} {v:Value} {C0:World->Prop} {C1:World->Prop} (hS:S w) (c0:∀ w,S w->C0 w) (c1:∀ w,S w->C1 w) (h:wpPhase P ops Q S X rest g w) (ho:ops[i]? = some o:=by exact rfl) (hd:o.dst=some d:=by exact rfl) (hw:Region.wanted o (yielded ops a.tmps)=true:=by simp [Region.wanted,yielded])
  (hy:∀ w,S w->C0 w->C1 w->(execOp a.eval o).run P w=.ok (.value v) w:=by intro w hw c0 c1;clear hw;go_simp;try with_reducible rfl) (hg:Act.mk (a.tmps.setIfInBounds d v) a.defers=g:=by (try simp only [zp])<;>exact rfl):wpPhase P ops Q S X ((i,false)::rest) a w:=by
 subst hg;exact phase_pure ho hd hw hS (fun w hw=>hy w hw (c0 w hw) (c1 w hw)) h
theorem fP5 {i:Nat} {o:Oper} {d:Tmp} {rest:List (Nat×Bool)} {a g:Act} {w:World} {X:Act->World->Prop} {v:Value} {C0:World->Prop} {C1:World->Prop} {C2:World->Prop} {C3:World->Prop} {C4:World->Prop} (hS:S w) (c0:∀ w,S w->C0 w) (c1:∀ w,S w->C1 w) (c2:∀ w,S w->C2 w) (c3:∀ w,S w->C3 w) (c4:∀ w,S w->C4 w) (h:wpPhase P ops Q S X rest g w) (ho:ops[i]? = some o:=by exact rfl) (hd:o.dst=some d:=by exact rfl) (hw:Region.wanted o (yielded ops a.tmps)=true:=by simp [Region.wanted,yielded])
  (hy:∀ w,S w->C0 w->C1 w->C2 w->C3 w->C4 w->(execOp a.eval o).run P w=.ok (.value v) w:=by intro w hw c0 c1 c2 c3 c4;clear hw;go_simp;try with_reducible rfl) (hg:Act.mk (a.tmps.setIfInBounds d v) a.defers=g:=by (try simp only [zp])<;>exact rfl):wpPhase P ops Q S X ((i,false)::rest) a w:=by
 subst hg;exact phase_pure ho hd hw hS (fun w hw=>hy w hw (c0 w hw) (c1 w hw) (c2 w hw) (c3 w hw) (c4 w hw)) h
theorem fE {i:Nat} {o:Oper} {rest:List (Nat×Bool)} {a:Act} {w:World} {X:Act->World->Prop} (h:∀ K:Act->World->Prop,(∀ a w,S w->wpPhase P ops Q S X rest a w->K a w)->o.wp P a w K Q) (ho:ops[i]? = some o:=by exact rfl) (hw:Region.wanted o (yielded ops a.tmps)=true:=by simp [Region.wanted,yielded]):wpPhase P ops Q S X ((i,true)::rest) a w:=phase_eff1 ho hw h
abbrev ff (i:Nat):Nat×Bool:=(i,false)
abbrev tt (i:Nat):Nat×Bool:=(i,true)
variable {md:Region.Mode} {id:Nat} {a:Act} {w:World}
theorem hR (S:World->Prop) (l:List (Nat×Bool)) (h:wpHeld P ops Q S l a w.drew) (hm:P.follows .mixedOrders=true:=by kernel_rfl) (hs:Region.noSelect ops=true:=by kernel_rfl)
  (ho:(l.length==ops.size&&orderB .any ops l (Array.replicate ops.size false))=true:=by kernel_rfl) (hQ:∀ d v c a w,Q (.panic c) (Act.put a d v) w->Q (.panic c) a w:=by intro d _ _ _ _ h;cases d<;>exact h):(Code.region id ops true).wp P Q a w:=wp_region_keep S l hm hs ho hQ h
theorem nR (S:World->Prop) (l:Plan) (h:wpPlan P ops Q S l a w.drew) (hm:P.follows .mixedOrders=true:=by kernel_rfl) (hs:Region.noSelect ops=true:=by kernel_rfl)
  (ho:(Nat.ble (planN l) ops.size&&planB .any ops l (Array.replicate ops.size false))=true:=by kernel_rfl) (hQ:∀ d v c a w,Q (.panic c) (Act.put a d v) w->Q (.panic c) a w:=by intro d _ _ _ _ h;cases d<;>exact h):(Code.region id ops true).wp P Q a w:=wp_region_plan S l hm hs ho hQ h
theorem bR (S:World->Prop) (l:PlanB) (h:wpPlb P ops Q S l a w.drew) (hm:P.follows .mixedOrders=true:=by kernel_rfl) (hs:Region.noSelect ops=true:=by kernel_rfl)
  (ho:(Nat.ble (plbN l) ops.size&&plbB .any ops l (Array.replicate ops.size false))=true:=by kernel_rfl) (hQ:∀ d v c a w,Q (.panic c) (Act.put a d v) w->Q (.panic c) a w:=by intro d _ _ _ _ h;cases d<;>exact h):(Code.region id ops true).wp P Q a w:=wp_region_plb S l hm hs ho hQ h
end
end Go.Proofs.YtjpjalmilfgckaaGreatDoor
