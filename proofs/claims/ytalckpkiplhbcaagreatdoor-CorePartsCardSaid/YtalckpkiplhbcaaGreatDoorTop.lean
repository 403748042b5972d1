/-
  WHAT IS PROVED: the tied card of 'sortilegelaw09.CoreParts': at every input that the row takes the call returns true, and each argument reads behind the call as it read before.
  CONDITIONS: those of the given row (loops, recurses, unfollowed, named; 'sortilege/core.ops' reads as listed when the call begins, tied to the program's text by the given tie; the seat's repository is a pruned copy); no others.
-/
import Derived.Test.YtalckpkiplhbcaaGreatDoorK5
import Derived.Test.YtalckpkiplhbcaaGreatDoorRows
import Derived.Test.YtalckpkiplhbcaaGreatDoorCards
import Derived.Test.YtalckpkiplhbcaaGreatDoorTie
import Derived.ProofKit
import Derived.LaidMore
import Derived.OpenShut
import Derived.Stop.Joined
import Derived.SevenTiedAt
import Derived.WideShapes
section
namespace Go.Proofs.YtalckpkiplhbcaaGreatDoor
open Go Go.Xe Go.Xt Go.Proofs Go.RowKit Go.Xe.YtalckpkiplhbcaaGreatDoor Go.ChangeShapes
set_option maxRecDepth 100000
theorem Tryz.own : ownKnob Tryz.prog.godebug = none := by kernel_rfl
theorem Tryz.laidOut : laidOutB Tryz.prog = true := by kernel_rfl
noncomputable def api : ApiC Tryz.prog where
  int := 3
  str := 9
  strs := 51
  ints := 27
  typ := 65
  typs := 22
  exp := 54
  exps := 52
  fld := 99
  flds := 49
  fn := 91
  fns := 50
  prog := 56
  hint := Tryz.underlying3
  hstr := Tryz.underlying9
  hstrs := Tryz.underlying51
  hints := Tryz.underlying27
  htyp := ⟨_, Tryz.underlying65, by kernel_rfl, by kernel_rfl⟩
  htyps := Tryz.underlying22
  hexp := ⟨_, Tryz.underlying54, by kernel_rfl, by kernel_rfl⟩
  hexps := Tryz.underlying52
  hfld := ⟨_, Tryz.underlying99, by kernel_rfl, by kernel_rfl⟩
  hflds := Tryz.underlying49
  hfn := ⟨_, Tryz.underlying91, by kernel_rfl, by kernel_rfl⟩
  hfns := Tryz.underlying50
  hprog := ⟨_, Tryz.underlying56, by kernel_rfl, by kernel_rfl⟩
  val := 26
  vals := 24
  term := 30
  terms := 28
  body := 32
  bodies := 23
  core := 34
  hval := ⟨_, Tryz.underlying26, by kernel_rfl, by kernel_rfl⟩
  hvals := Tryz.underlying24
  hterm := ⟨_, Tryz.underlying30, by kernel_rfl, by kernel_rfl⟩
  hterms := Tryz.underlying28
  hbody := ⟨_, Tryz.underlying32, by kernel_rfl, by kernel_rfl⟩
  hbodies := Tryz.underlying23
  hcore := ⟨_, Tryz.underlying34, by kernel_rfl, by kernel_rfl⟩
def readT : List TypeId := [3, 65, 22, 26, 24, 27, 30, 28, 32, 23, 34]
theorem readT_ok : readT.all (plainT Tryz.prog readT) = true := by kernel_rfl
theorem bytes_ok : readT.all (bytesB Tryz.prog) = true := by kernel_rfl
theorem coreParts_any (W : World) (hS : W.ShapedOpen Tryz.prog) {H : Type} {enc : TypeId × Value → H} {cs : Array Value} {d : DataW H} {ps : List MemPlace}
    (h : DataW.Trod enc Tryz.prog W 0 (fun _ => true) true 30 (.agg cs) d ps) (hsz : ∀ n ∈ d.weights Tryz.prog 30, n ≤ reachBytes) : Calls Tryz.prog 5 #[.agg cs] W fun E W' => E = .returned (.bool true) ∧ Below W.heap.size W W' := by
  obtain ⟨fuel, h⟩ := h
  obtain ⟨L, cs', _, hL, hv, _, hr⟩ := lay_all readT readT_ok fuel 30 rfl cs.toList _ h [] (LOk.nil W)
  obtain ⟨l, hrv, hsh, hsm⟩ := tree_small (μ := []) (B := reachBytes) readT_ok bytes_ok hr rfl hsz
  obtain ⟨p, rfl, hp⟩ := sh_term api _ _ (Nat.lt_succ_self _) hsh
  obtain ⟨σ', ht⟩ := coreParts_t p hp hsm (szTm p + 100012) (Nat.le_refl _)
  obtain ⟨s', hx2⟩ := tree_true fits (L := L) (args := [.agg (encTm p)]) (args' := [.agg ⟨cs'⟩]) (.cons (.agg hrv) .nil) ht
  exact laid_true envX (fun _ => rfl) (w := W) ⟨rfl, hS⟩ hL (args' := [.agg cs]) (.cons (.agg hv) .nil) hx2
abbrev ops1 : List (String × DataW Unit) := [("sortilege/core.ops", Rows.laid_sortilege_core_ops)]
theorem door_met (os : Os) (args : Array Value) : laidMetH Tryz.prog ops1 ((World.doorLaid Tryz.prog 400 os).forCall (fun _ _ => 0) ⟨#[], args, []⟩).memory :=
  laidMetH_of_parts3 (fuel := 8) (laidMet_of_run' 8 (by kernel_rfl) (by kernel_rfl)) (by kernel_rfl) (by kernel_rfl)
def termZ : Value := .agg #[.int .i64 0, .int .i64 0, .int .i64 0, .int .i64 0, .int .i64 0, .slice none 0 0, .slice none 0 0, .slice none 0 0]
theorem coreParts_lifted (os : Os) (started : os.Started) (H : Type) (enc : TypeId × Value → H) :
    ReturnsInHanded {} Tryz.checked os 5 .any (fun w args => (Rows.corePartsSpec.pre enc Tryz.prog Tryz.f5 [] false w args ∧ laidMetH Tryz.prog ops1 w) ∧ sizedMet enc Tryz.prog Tryz.f5 (OpenSpec.ofChange Rows.corePartsSpec) false w args)
      (Rows.corePartsSpec.post enc Tryz.prog Tryz.f5 false true false false) := by
  refine returnsInHanded_of_calls (C := Tryz.checked) Tryz.own started (by kernel_rfl)
    (ChangeSpec.witness_shaped (enc := enc) (C := Tryz.checked) (os := os) (X := fun w _ => laidMetH Tryz.prog ops1 w) false (World.doorLaid Tryz.prog 400 os) #[termZ] 8 rfl (World.shaped_of_RefB (by kernel_rfl) (by kernel_rfl)) (by kernel_rfl) (by kernel_rfl) (by kernel_rfl) (door_met os _)) ?_
  intro w tape i _ hS _ hok hpre hholds
  obtain ⟨_, _, _, fn', hfn', _, _, _, _, hval⟩ := hok
  have e : fn' = Tryz.f5 := Option.some.inj (hfn'.symm.trans Tryz.func5)
  subst e
  obtain ⟨⟨⟨ds, gs, before, hw, hc⟩, _⟩, hz⟩ := hpre
  have hsized := hz.weights hw
  have hW := DataW.Whole.of_heap (w' := w.forCall tape i) (by rfl) hw
  clear hw hholds hc hz
  generalize hWg : w.forCall tape i = W at hS hW hval ⊢
  have hWk := hW
  obtain ⟨p, q, hA0, hV, rfl, hfz, hnd⟩ := hW
  have hA : DataW.TrodAll enc Tryz.prog W 0 (fun _ => true) true Tryz.f5.params.toList i.args.toList ds p := hA0
  rw [Tryz.params5] at hA hval hsized
  obtain ⟨v0, d0, ha, rfl, h0⟩ := trodAll_one hA
  obtain ⟨rfl, rfl⟩ := trodVars_none hV
  have hok0 : Value.okWide Tryz.prog W .any w.heap.size 30 v0 := hval 0 30 v0 rfl (by rw [ha]; rfl)
  unfold Value.okWide at hok0
  rw [Tryz.underlying30] at hok0
  obtain ⟨cs, rfl, _, _⟩ := hok0
  simp only [List.append_nil] at hWk
  rw [ha] at hWk ⊢
  have hsz : ∀ n ∈ d0.weights Tryz.prog 30, n ≤ reachBytes := fun n hn => by
    have := List.all_eq_true.1 hsized n (DataW.weights_mem_each (j := 0) rfl rfl n hn)
    simpa using this
  refine Calls.mono (coreParts_any W hS h0 hsz) ?_
  rintro E W' ⟨rfl, hb⟩
  have hlt : ∀ x ∈ p, x.block < W.heap.size := fun x hx => by simpa using hWk.lt x hx
  refine ChangeSpec.post_blind ⟨[d0], [], p, [], p, [], hWk, ?_, trodAll_mk1 (Below.trod Tryz.laidOut (by kernel_rfl) (of_decide_eq_true (by kernel_rfl)) h0 hb hlt), rfl, hb.frame _, fun h => by cases h⟩
  exact trodAll_mk1 (shut_bool Tryz.underlying4 true)
theorem coreParts_row : Rows.CorePartsSaid :=
  OpenClaim.holds_of_wide 5 Tryz.f5 rfl rfl rfl rfl rfl rfl rfl ⟨rfl, rfl, rfl, rfl, rfl⟩ rfl rfl rfl rfl rfl (by kernel_rfl) Tryz.func5 (by kernel_rfl)
    (of_decide_eq_true (by kernel_rfl)) (by unfold Func.isWrapper; rw [if_neg (by decide +kernel)]; exact ⟨rfl, rfl⟩)
    (fun os started H enc _ => coreParts_lifted os started H enc)
theorem coreParts_holds : Rows.CorePartsCardSaid :=
  Claim7.holds_tied_plain_at .later [] [.widerDeep] true (true, "3ee02a16661b92b04f8be1219d930dfaa6231c6997ff030047cd139c893957a2") true
    coreParts_row (fun _ h => by cases h) (by kernel_rfl) (fun _ h => by cases h) coreParts_row_tie rfl ⟨rfl, rfl⟩ (by kernel_rfl) rfl
    (fun f fn hf hfn => by
      obtain rfl : f = 5 := Option.some.inj ((show Tryz.prog.funcNamed "sortilege/sortilegelaw09.CoreParts" = some 5 by kernel_rfl).symm.trans hf) |>.symm
      obtain rfl : fn = Tryz.f5 := (Option.some.inj (Tryz.func5.symm.trans hfn)).symm
      exact ⟨by kernel_rfl, fun j t ht => by
        rw [Tryz.params5] at ht
        have hm : t ∈ [30] := by simpa using Array.mem_of_getElem? ht
        have hall : ([30].all fun u => !Tryz.prog.wantsStandIn u) = true := by kernel_rfl
        exact (show Tryz.prog.wantsStandIn t = false by simpa using List.all_eq_true.1 hall t hm)⟩)
    (by kernel_rfl)
end Go.Proofs.YtalckpkiplhbcaaGreatDoor
end
