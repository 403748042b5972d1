/-
  WHAT IS PROVED: check.CheckCalls of the laws of chapter 08, at every input that the row takes: the call returns true, and its argument reads behind the call as it read before.
  CONDITIONS: those of the given row (loops, recurses, unfollowed, named: internal/bytealg.MaxLen); no others. The row's own text is the given one.
-/
import Derived.Test.YtjdiibhkdanbiaaK6
import Derived.Test.YtjdiibhkdanbiaaRows
import Derived.ProofKit
section
namespace Go.Proofs.Ytjdiibhkdanbiaa
open Go Go.Xe Go.Xt Go.Proofs Go.RowKit Go.Xe.Ytjdiibhkdanbiaa Go.ChangeShapes
set_option maxRecDepth 100000
theorem Try.own : ownKnob Try.prog.godebug = none := by kernel_rfl
theorem Try.laidOut : laidOutB Try.prog = true := by kernel_rfl
noncomputable def api : ApiT Try.prog where
  int := 3
  str := 9
  strs := 24
  ints := 25
  typ := 45
  typs := 43
  exp := 28
  exps := 26
  fld := 60
  flds := 22
  fn := 56
  fns := 23
  prog := 30
  hint := Try.underlying3
  hstr := Try.underlying9
  hstrs := Try.underlying24
  hints := Try.underlying25
  htyp := ⟨_, Try.underlying45, by kernel_rfl, by kernel_rfl⟩
  htyps := Try.underlying43
  hexp := ⟨_, Try.underlying28, by kernel_rfl, by kernel_rfl⟩
  hexps := Try.underlying26
  hfld := ⟨_, Try.underlying60, by kernel_rfl, by kernel_rfl⟩
  hflds := Try.underlying22
  hfn := ⟨_, Try.underlying56, by kernel_rfl, by kernel_rfl⟩
  hfns := Try.underlying23
  hprog := ⟨_, Try.underlying30, by kernel_rfl, by kernel_rfl⟩
def readT : List TypeId := [3, 9, 24, 25, 45, 43, 28, 26, 60, 22, 56, 23, 30]
theorem readT_ok : readT.all (plainT Try.prog readT) = true := by kernel_rfl
theorem checkCalls_any (W : World) (hS : W.ShapedOpen Try.prog) {H : Type} {enc : TypeId × Value → H} {cs : Array Value} {d : DataW H} {ps : List MemPlace}
    (h : DataW.Trod enc Try.prog W 0 (fun _ => true) true 30 (.agg cs) d ps) : Calls Try.prog 3 #[.agg cs] W fun E W' => E = .returned (.bool true) ∧ Below W.heap.size W W' := by
  obtain ⟨fuel, h⟩ := h
  have hl := lay_all readT readT_ok fuel 30 rfl cs.toList _ h
  obtain ⟨L, cs', _, hL, hv, _, hr⟩ := hl [] (LOk.nil W)
  obtain ⟨l, hrv, hsh⟩ := tree_of (μ := []) readT_ok hr rfl
  obtain ⟨p, rfl, hp⟩ := sh_prog api hsh
  obtain ⟨σ', ht⟩ := checkCalls_t p hp _ (Nat.le_refl _)
  obtain ⟨s', hx⟩ := tree_true fits (L := L) (args := [.agg (encP p)]) (args' := [.agg ⟨cs'⟩]) (.cons (.agg hrv) .nil) ht
  exact laid_true envX (fun _ => rfl) (w := W) ⟨rfl, hS⟩ hL (args' := [.agg cs]) (.cons (.agg hv) .nil) hx
theorem checkCalls_lifted (os : Os) (started : os.Started) (H : Type) (enc : TypeId × Value → H) :
    ReturnsInHanded {} Try.checked os 3 .any (Rows.checkCallsSpec.pre6 enc Try.prog Try.f3 Rows.checkCallsRow.domain false) (Rows.checkCallsSpec.post enc Try.prog Try.f3 false true false false) := by
  refine returnsInHanded_of_calls (C := Try.checked) Try.own started (by kernel_rfl)
    (ChangeSpec.witness6 (enc := enc) (C := Try.checked) false ⟨#[], #[.agg #[.slice none 0 0, .slice none 0 0, .int .i64 0, .int .i64 0, .string ⟨#[]⟩, .slice none 0 0, .slice none 0 0, .slice none 0 0, .int .i64 0, .int .i64 0]], []⟩ 8 (by kernel_rfl) (by kernel_rfl) (by kernel_rfl) (by kernel_rfl)) ?_
  intro w tape i _ hS _ hok hpre hholds
  obtain ⟨_, _, _, fn', hfn', _, _, _, _, hval⟩ := hok
  have e : fn' = Try.f3 := Option.some.inj (hfn'.symm.trans Try.func3)
  subst e
  obtain ⟨⟨ds, gs, before, hw, hc⟩, _⟩ := hpre
  have hW := DataW.Whole.of_heap (w' := w.forCall tape i) (by rfl) hw
  clear hw hholds hc
  generalize hWg : w.forCall tape i = W at hS hW hval ⊢
  have hWk := hW
  obtain ⟨p, q, hA0, hV, rfl, hfz, hnd⟩ := hW
  have hA : DataW.TrodAll enc Try.prog W 0 (fun _ => true) true Try.f3.params.toList i.args.toList ds p := hA0
  rw [Try.params3] at hA hval
  obtain ⟨v0, d0, ha, rfl, h0⟩ := trodAll_one hA
  obtain ⟨rfl, rfl⟩ := trodVars_none hV
  have hok0 : Value.okWide Try.prog W .any w.heap.size 30 v0 := hval 0 30 v0 rfl (by rw [ha]; rfl)
  unfold Value.okWide at hok0
  rw [Try.underlying30] at hok0
  obtain ⟨cs, rfl, _, _⟩ := hok0
  simp only [List.append_nil] at hWk
  rw [ha] at hWk ⊢
  refine Calls.mono (checkCalls_any W hS h0) ?_
  rintro E W' ⟨rfl, hb⟩
  have hlt : ∀ x ∈ p, x.block < W.heap.size := fun x hx => by simpa using hWk.lt x hx
  refine ChangeSpec.post_blind ⟨[d0], [], p, [], p, [], hWk, ?_, trodAll_mk1 (Below.trod Try.laidOut (by kernel_rfl) (of_decide_eq_true (by kernel_rfl)) h0 hb hlt), rfl, hb.frame _, fun h => by cases h⟩
  exact trodAll_mk1 (shut_bool Try.underlying4 true)
theorem checkCalls_holds : Rows.CheckCallsSaid :=
  OpenClaim.holds_of_wide 3 Try.f3 rfl rfl rfl rfl rfl rfl rfl ⟨rfl, rfl, rfl, rfl, rfl⟩ rfl rfl rfl rfl rfl (by kernel_rfl) Try.func3 (by kernel_rfl)
    (of_decide_eq_true (by kernel_rfl)) (by unfold Func.isWrapper; rw [if_neg (by decide +kernel)]; exact ⟨rfl, rfl⟩)
    (fun os started H enc _ => checkCalls_lifted os started H enc)
end Go.Proofs.Ytjdiibhkdanbiaa
end
