/- The statement ImageSpoilt, proved: the law returns true for every input, and what was there reads as it did. Conditions: none. -/
import Derived.Test.YtjpjalmilfgckaaGreatDoorRows
import Derived.Test.YtjpjalmilfgckaaGreatDoorCards
import Derived.Test.YtjpjalmilfgckaaGreatDoorTie
import Derived.Lay
import Derived.SevenTiedAt
import Derived.Lib.LaidIn
import Derived.Test.YtjpjalmilfgckaaGreatDoorImgSpoiltW
import Derived.WalkKit
import Derived.ProofKit
import Derived.OpenShut
import Derived.ShutString
import Derived.ChangeOld
import Derived.Below
import Derived.Deep.Grids
import Derived.Deep.Strs
import Derived.LaidHandle
import Derived.LaidSub
namespace Go.Proofs.YtjpjalmilfgckaaGreatDoor.imageSpoilt
open Go.ChangeShapes Go.WideShapes Go.ChangeAt Go.RowKit Go.Deep
open Go.ChangeMaps (open_string shut_string)
open Go.Shelf Go.Lib
set_option linter.unusedVariables false

theorem own : ownKnob Tryz.prog.godebug = none := by as_aux_lemma => kernel_rfl
theorem laidOut : laidOutB Tryz.prog = true := by as_aux_lemma => kernel_rfl

theorem okWide_arr2 {P : Program} {w : World} {r : Reach} {base : Nat} {t e : TypeId} {v : Value} {n : Nat} (ht : P.underlying t = some (.array n e)) (h : Value.okWide P w r base t v) : ∃ cs, v = .agg cs := by
  simp only [Value.okWide, ht] at h
  obtain ⟨cs, h1, _⟩ := h
  exact ⟨cs, h1⟩
theorem pair_of {H : Type} {enc : TypeId × Value → H} {w : World} {held : Bool} {cs : Array Value} {d : DataW H} {p : List MemPlace} (h : DataW.Trod enc Tryz.prog w 0 (fun _ => true) held 65 (.agg cs) d p) :
    ∃ a b : Int, cs = #[.int .i64 a, .int .i64 b] ∧ (-9223372036854775808 ≤ a ∧ a ≤ 9223372036854775807) ∧ (-9223372036854775808 ≤ b ∧ b ≤ 9223372036854775807) := by
  obtain ⟨fuel, hf⟩ := h
  obtain ⟨xs, m, -, -, hl, hn, hg⟩ := DataW.trod_array Tryz.underlying65 hf
  obtain ⟨cl, hcl⟩ : ∃ cl, cl = cs.toList := ⟨_, rfl⟩
  have hcs : cs = cl.toArray := by rw [hcl]
  have hcells : (Value.agg cs).cells = cs := rfl
  rw [hcells, ← hcl] at hl hg
  rw [show Tryz.prog.cellsOf 65 = 2 by kernel_rfl] at hl
  rw [show Tryz.prog.cellsOf 3 = 1 by kernel_rfl] at hg
  match cl, hl with
  | [v0, v1], _ =>
    have g0 := hg 0 (by decide)
    have g1 := hg 1 (by decide)
    rw [List.getElem?_eq_getElem (by omega)] at g0 g1
    simp only [Nat.zero_mul, Nat.one_mul, List.drop_zero, List.drop_succ_cons, List.take_succ_cons, List.take_zero] at g0 g1
    obtain ⟨a, e0, _, b0⟩ := DataW.trod_int Tryz.underlying3 g0
    obtain ⟨b, e1, _, b1⟩ := DataW.trod_int Tryz.underlying3 g1
    cases e0
    cases e1
    exact ⟨a, b, hcs, bounds_i64 b0, bounds_i64 b1⟩

/-! ### The handle variable -/
theorem et : Tryz.prog.globalNamed "errors.errorType" = some 1 := by as_aux_lemma => kernel_rfl
theorem rt : (Tryz.prog.cutTypes.find? (·.1 == "internal/reflectlite.rtype")).map (·.2) = some 254 := by as_aux_lemma => kernel_rfl
theorem oneRow : ((List.range Tryz.prog.types.size).filter fun t => Tryz.prog.rowNamed t [101, 114, 114, 111, 114]) = [102] := by as_aux_lemma => kernel_rfl
abbrev lst : List (String × DataW Unit) := Rows.imageSpoiltRow.laid
theorem hnd : (lst.filter fun x => x.2.handleName?.isSome) = [("errors.errorType", Rows.laid_errors_errorType)] := by as_aux_lemma => kernel_rfl
theorem errT_of {W : World} (h : handlesMet Tryz.prog (lst.filter fun x => x.2.handleName?.isSome) W) : ErrT W := by
  rw [hnd] at h
  obtain ⟨name, u, ty, e1, e2, e3, e4, e5⟩ := h _ (List.mem_singleton.2 rfl)
  have en : name = [101, 114, 114, 111, 114] := (Option.some.inj e1).symm
  subst en
  obtain rfl := Option.some.inj (rt.symm.trans e2)
  have hm : ty ∈ (List.range Tryz.prog.types.size).filter fun t => Tryz.prog.rowNamed t [101, 114, 114, 111, 114] := List.mem_filter.2 ⟨List.mem_range.2 e3, e4⟩
  rw [oneRow] at hm
  obtain rfl := List.mem_singleton.1 hm
  have hh : typeHandle Tryz.prog 102 = .pointer (some ⟨10, 102, none⟩) := by as_aux_lemma => kernel_rfl
  rw [hh] at e5
  simpa [ErrT] using World.var?_cell et e5 0
/-- A world that meets the condition: the handle's cell laid, then the data. -/
noncomputable def w1 (os : Os) : World :=
  let w0 := World.holding Tryz.prog os ⟨#[], #[], []⟩
  { w0 with heap := w0.heap.modify 1 fun
      | .cells _ t frozen => .cells #[.iface 254 (.agg #[.pointer (some ⟨10, 102, none⟩)])] t frozen
      | o => o }
abbrev dat : List (String × DataW Unit) := lst.filter fun x => x.2.handleName?.isNone
noncomputable def laidWorld (os : Os) : World := (w1 os).layVars Tryz.prog dat
theorem laid_one {P : Program} {w0 : World} {laid : List (String × DataW Unit)} (args : Array Value) (hf : w0.layFits P laid [] = true) (hi : w0.layIfaces P laid (w0.layVars P laid) = true) :
    laidMet P laid ((w0.layVars P laid).forCall (fun _ _ => 0) ⟨#[], args, []⟩).memory := by
  have e1 : (laid.filter fun x => (laid.map (·.1)).contains x.1) = laid := List.filter_eq_self.2 fun x hx => List.contains_iff_mem.2 (List.mem_map.2 ⟨x, hx, rfl⟩)
  have e2 : (laid.filter fun x => !(laid.map (·.1)).contains x.1) = [] := List.filter_eq_nil_iff.2 fun x hx => by rw [List.contains_iff_mem.2 (List.mem_map.2 ⟨x, hx, rfl⟩)]; simp
  have h : laidMet P laid (w0.layVars P laid) := laidMet_layVars (w0 := w0) (laid.map (·.1)) [] (by rw [e1]) (by rw [e1]; exact hf) (by rw [e1]; exact hi) (by rw [e2]; exact LaidIn.none)
  exact h.of_heap (by simp [World.memory, World.forCall, Input.heap])
theorem laid_met (os : Os) (args : Array Value) : laidMetH Tryz.prog lst ((laidWorld os).forCall (fun _ _ => 0) ⟨#[], args, []⟩).memory :=
  laidMetH_of_parts (laid_one args (by as_aux_lemma => kernel_rfl) (by as_aux_lemma => kernel_rfl)) (by as_aux_lemma => kernel_rfl)

/-! ### The walk -/
theorem walk (a0 : Option Addr) (len0 cap0 : Nat) (b0 : Option Addr) (lem0 caq0 : Nat) (x0 : Sc) (v1_ q1 : Int) (ma1 : Option Addr) (mn1 mc1 : Nat) (ra1 : Option Addr) (rn1 rc1 : Nat) (la1 : Option Addr) (ln1 lc1 : Nat) (ms1 : List Mk) (li1 : List It) (lb1 : List UInt8) (a2 b2 : Int) (w : World) (z0 : SchIn w w.heap.size ((a0, len0, cap0), (b0, lem0, caq0)) x0) (z1 : StIn w w.heap.size v1_ q1 ma1 mn1 mc1 ra1 rn1 rc1 la1 ln1 lc1 ms1 li1 lb1) (wa2 : -9223372036854775808 ≤ a2 ∧ a2 ≤ 9223372036854775807) (wb2 : -9223372036854775808 ≤ b2 ∧ b2 ≤ 9223372036854775807) (hT : Tab2 w.heap.size w) (hE : ErrT w) :
    Calls Tryz.prog 7 #[.agg #[.slice a0 len0 cap0, .slice b0 lem0 caq0], .agg #[.int .i64 v1_, .int .i64 q1, .slice ma1 mn1 mc1, .slice ra1 rn1 rc1, .slice la1 ln1 lc1], .agg #[.int .i64 a2, .int .i64 b2]] w fun e w' => e = .returned (.bool true) ∧ Below w.heap.size w w' := by
  exact imageSpoilt_walk a0 len0 cap0 b0 lem0 caq0 x0 v1_ q1 ma1 mn1 mc1 ra1 rn1 rc1 la1 ln1 lc1 ms1 li1 lb1 a2 b2 w z0 z1 wa2 wb2 hT hE

/-! ### The row's step -/
set_option maxRecDepth 100000 in
set_option maxHeartbeats 4000000 in
theorem lifted (os : Os) (started : os.Started) (H : Type) (enc : TypeId × Value → H) :
    ReturnsInHanded {} Tryz.checked os 7 .any (fun w args => (Rows.imageSpoiltSpec.pre enc Tryz.prog Tryz.f7 [] false w args ∧ laidMetH Tryz.prog Rows.imageSpoiltRow.laid w) ∧ sizedMet enc Tryz.prog Tryz.f7 (OpenSpec.ofChange Rows.imageSpoiltSpec) false w args)
      (Rows.imageSpoiltSpec.post enc Tryz.prog Tryz.f7 false true false false) := by
  refine returnsInHanded_of_change_and (C := Tryz.checked) (X := fun w _ => laidMetH Tryz.prog Rows.imageSpoiltRow.laid w) (fun _ _ _ hh h => h.of_heap hh) own started (by as_aux_lemma => kernel_rfl) Tryz.func7
    (ChangeSpec.witness_shaped (enc := enc) (C := Tryz.checked) (os := os) (X := fun w _ => laidMetH Tryz.prog Rows.imageSpoiltRow.laid w) false (laidWorld os) #[.agg #[.slice none 0 0, .slice none 0 0], .agg #[.int .i64 0, .int .i64 0, .slice none 0 0, .slice none 0 0, .slice none 0 0], .agg #[.int .i64 0, .int .i64 0]] 8 (World.layVars_os _ _ _)
      (World.shaped_of_ZipB (by as_aux_lemma => kernel_rfl) (by as_aux_lemma => kernel_rfl)) (by as_aux_lemma => kernel_rfl) (by as_aux_lemma => kernel_rfl) (by as_aux_lemma => kernel_rfl)
      (laid_met os _)) ?_
  intro W base args ds gs before hval0 hW _ _ hL _
  have hval : ∀ (j : Nat) t v, Tryz.f7.params[j]? = some t → args[j]? = some v → Value.okWide Tryz.prog W .any base t v := hval0
  have hW' := hW
  obtain ⟨p, q, hA0, hV, rfl, hfz, hnd⟩ := hW
  have hA : DataW.TrodAll enc Tryz.prog W 0 (fun _ => true) true Tryz.f7.params.toList args.toList ds p := hA0
  obtain ⟨hL, hH⟩ := laidMetH_iff.1 hL
  have hE : ErrT W := errT_of hH
  have hT : Tab2 W.heap.size W := Tab2.mk (tabs_of (first_eq ▸ Lib.laidMet.reads hL (List.mem_filter.2 ⟨(.tail _ (.tail _ (.tail _ (.tail _ (.tail _ (.tail _ (.tail _ (.tail _ (.head _))))))))), by as_aux_lemma => kernel_rfl⟩)) ((show Rows.laid_unicode_utf8_acceptRanges = acceptData by as_aux_lemma => kernel_rfl) ▸ Lib.laidMet.reads hL (List.mem_filter.2 ⟨(.tail _ (.tail _ (.tail _ (.tail _ (.head _))))), by as_aux_lemma => kernel_rfl⟩))) (ctab_of ((show Rows.laid_millstream_crc_table = crcData by as_aux_lemma => kernel_rfl) ▸ Lib.laidMet.reads hL (List.mem_filter.2 ⟨(.tail _ (.tail _ (.tail _ (.head _)))), by as_aux_lemma => kernel_rfl⟩)))
  rw [Tryz.params7] at hA hval
  obtain ⟨v0, vs0, d0, ds0, p0, q0, hargs, rfl, rfl, h0, r0⟩ := trodAll_cons hA
  obtain ⟨v1, vs1, d1, ds1, p1, q1, rfl, rfl, rfl, h1, r1⟩ := trodAll_cons r0
  obtain ⟨v2, vs2, d2, ds2, p2, q2, rfl, rfl, rfl, h2, r2⟩ := trodAll_cons r1
  obtain ⟨rfl, rfl, rfl⟩ := trodAll_nil r2
  obtain rfl : args = #[v0, v1, v2] := by cases args; simp_all
  obtain ⟨rfl, rfl⟩ := trodVars_none hV
  obtain ⟨cs0, rfl, -⟩ := okWide_struct Tryz.underlying48 (hval 0 48 v0 rfl rfl)
  have k0 := h0
  have lt0 : ∀ x ∈ p0, x.block < W.heap.size := by obtain ⟨m, hm⟩ := k0; exact DataW.trod_lt m _ _ _ hm
  obtain ⟨a0, len0, cap0, b0, lem0, caq0, x0, rfl, z0⟩ := schema_of h0
  obtain ⟨cs1, rfl, -⟩ := okWide_struct Tryz.underlying51 (hval 1 51 v1 rfl rfl)
  have k1 := h1
  have lt1 : ∀ x ∈ p1, x.block < W.heap.size := by obtain ⟨m, hm⟩ := k1; exact DataW.trod_lt m _ _ _ hm
  obtain ⟨v1_, q1, ma1, mn1, mc1, ra1, rn1, rc1, la1, ln1, lc1, ms1, li1, lb1, rfl, z1⟩ := state_of h1
  obtain ⟨cs2, rfl⟩ := okWide_arr2 Tryz.underlying65 (hval 2 65 v2 rfl rfl)
  have k2 := h2
  have lt2 : ∀ x ∈ p2, x.block < W.heap.size := by obtain ⟨m, hm⟩ := k2; exact DataW.trod_lt m _ _ _ hm
  obtain ⟨a2, b2, rfl, wa2, wb2⟩ := pair_of h2
  clear hA0 hval0
  refine (walk a0 len0 cap0 b0 lem0 caq0 x0 v1_ q1 ma1 mn1 mc1 ra1 rn1 rc1 la1 ln1 lc1 ms1 li1 lb1 a2 b2 W z0 z1 wa2 wb2 hT hE).mono fun e W' ⟨he, bel⟩ => ?_
  subst he
  exact ⟨_, rfl, _, _, _, [], _, [], hW', trodAll_mk1 (shut_bool Tryz.underlying4 _), (trodAll_cons_mk (Below.trod laidOut (by as_aux_lemma => kernel_rfl) (of_decide_eq_true (by as_aux_lemma => kernel_rfl)) k0 bel lt0) (trodAll_cons_mk (Below.trod laidOut (by as_aux_lemma => kernel_rfl) (of_decide_eq_true (by as_aux_lemma => kernel_rfl)) k1 bel lt1) (trodAll_cons_mk (Below.trod laidOut (by as_aux_lemma => kernel_rfl) (of_decide_eq_true (by as_aux_lemma => kernel_rfl)) k2 bel lt2) trodAll_mk0))), rfl, bel.frame _, fun h => by cases h⟩

set_option maxHeartbeats 4000000 in
theorem closed : joinedFacts Tryz.pinned.checked.prog 7 Tryz.f7 Rows.imageSpoiltSpec Rows.imageSpoiltRow = true := by
  unfold joinedFacts
  repeat' (with_reducible refine Bool.and_eq_true_iff.2 ⟨?_, ?_⟩)
  all_goals (as_aux_lemma => kernel_rfl)
set_option maxHeartbeats 4000000 in
theorem over : Rows.imageSpoiltRow.holds Tryz.pinned (OpenSpec.ofChange Rows.imageSpoiltSpec) :=
  OpenClaim.holds_of_wide 7 Tryz.f7 rfl rfl rfl rfl rfl rfl rfl ⟨rfl, rfl, rfl, rfl, rfl⟩ rfl rfl rfl rfl rfl (by as_aux_lemma => kernel_rfl) Tryz.func7 closed
    (of_decide_eq_true (by as_aux_lemma => kernel_rfl)) (by unfold Func.isWrapper; first | (rw [if_pos (by as_aux_lemma => decide +kernel)]; kernel_rfl) | (rw [if_neg (by as_aux_lemma => decide +kernel)]; exact ⟨rfl, rfl⟩))
    (fun os started H enc _ => lifted os started H enc)

set_option maxHeartbeats 4000000 in
/-- The statement. -/
theorem proved : Rows.ImageSpoiltCardSaid :=
  Claim7.holds_tied_plain_at .later [] [.data, .data, .data, .data, .data, .handle, .sentinel, .sentinel, .pinned] true (true, "d6a7bc4e17e63292f393ff2a154ec722f2a9c0c1b026a256c1924867a57f4e62") true over (fun _ h => by cases h) (by as_aux_lemma => kernel_rfl) (fun _ h => by cases h) imageSpoilt_row_tie rfl ⟨rfl, rfl⟩ (by as_aux_lemma => kernel_rfl) rfl
    (fun f fn hf hfn => by
      obtain rfl : f = 7 := Option.some.inj ((show Tryz.prog.funcNamed "millstream/millstreamlaw28.ImageSpoilt" = some 7 by as_aux_lemma => kernel_rfl).symm.trans hf) |>.symm
      obtain rfl : fn = Tryz.f7 := (Option.some.inj (Tryz.func7.symm.trans hfn)).symm
      exact ⟨by as_aux_lemma => kernel_rfl, fun j t ht => by
        rw [Tryz.params7] at ht
        have hm : t ∈ ([48, 51, 65] : List TypeId) := by simpa using Array.mem_of_getElem? ht
        have hall : (([48, 51, 65] : List TypeId).all fun u => !Tryz.prog.wantsStandIn u) = true := by as_aux_lemma => kernel_rfl
        exact (show Tryz.prog.wantsStandIn t = false by simpa using List.all_eq_true.1 hall t hm)⟩)
    (by as_aux_lemma => kernel_rfl)
end Go.Proofs.YtjpjalmilfgckaaGreatDoor.imageSpoilt
