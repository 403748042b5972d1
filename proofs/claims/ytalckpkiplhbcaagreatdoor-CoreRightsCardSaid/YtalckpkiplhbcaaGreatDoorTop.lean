/-
  WHAT IS PROVED: the tied card of 'sortilegelaw09.CoreRights': at every input that the row takes the call returns true, and each argument reads behind the call as it read before.
  CONDITIONS: those of the given row (loops, recurses, unfollowed, named; 'sortilege/core.ops' reads as listed when the call begins, tied to the program's text by the given tie; the seat's repository is a pruned copy); no others.
-/
import Derived.Test.YtalckpkiplhbcaaGreatDoorK6
import Derived.Test.YtalckpkiplhbcaaGreatDoorRows
import Derived.Test.YtalckpkiplhbcaaGreatDoorCards
import Derived.Test.YtalckpkiplhbcaaGreatDoorTie
import Derived.ProofKit
import Derived.LaidMore
import Derived.OpenShut
import Derived.Stop.Joined
import Derived.SevenTiedAt
import Derived.WideShapes
section
namespace Go.Proofs.YtalckpkiplhbcaaGreatDoor
open Go Go.Xe Go.Xt Go.Proofs Go.RowKit Go.Xe.YtalckpkiplhbcaaGreatDoor Go.ChangeShapes
set_option maxRecDepth 100000
theorem Tryz.own : ownKnob Tryz.prog.godebug = none := by kernel_rfl
theorem Tryz.laidOut : laidOutB Tryz.prog = true := by kernel_rfl
noncomputable def api : ApiC Tryz.prog where
  int := 3
  str := 9
  strs := 51
  ints := 27
  typ := 65
  typs := 22
  exp := 54
  exps := 52
  fld := 99
  flds := 49
  fn := 91
  fns := 50
  prog := 56
  hint := Tryz.underlying3
  hstr := Tryz.underlying9
  hstrs := Tryz.underlying51
  hints := Tryz.underlying27
  htyp := ⟨_, Tryz.underlying65, by kernel_rfl, by kernel_rfl⟩
  htyps := Tryz.underlying22
  hexp := ⟨_, Tryz.underlying54, by kernel_rfl, by kernel_rfl⟩
  hexps := Tryz.underlying52
  hfld := ⟨_, Tryz.underlying99, by kernel_rfl, by kernel_rfl⟩
  hflds := Tryz.underlying49
  hfn := ⟨_, Tryz.underlying91, by kernel_rfl, by kernel_rfl⟩
  hfns := Tryz.underlying50
  hprog := ⟨_, Tryz.underlying56, by kernel_rfl, by kernel_rfl⟩
  val := 26
  vals := 24
  term := 30
  terms := 28
  body := 32
  bodies := 23
  core := 34
  hval := ⟨_, Tryz.underlying26, by kernel_rfl, by kernel_rfl⟩
  hvals := Tryz.underlying24
  hterm := ⟨_, Tryz.underlying30, by kernel_rfl, by kernel_rfl⟩
  hterms := Tryz.underlying28
  hbody := ⟨_, Tryz.underlying32, by kernel_rfl, by kernel_rfl⟩
  hbodies := Tryz.underlying23
  hcore := ⟨_, Tryz.underlying34, by kernel_rfl, by kernel_rfl⟩
def readT : List TypeId := [3, 65, 22, 26, 24, 27, 30, 28, 32, 23, 34]
theorem readT_ok : readT.all (plainT Tryz.prog readT) = true := by kernel_rfl
theorem lim_of (c : PCore) : ∃ M, Lim M c := by
  have hb : ∃ B, ∀ f ∈ c.funs, 3 * szTm f.term + 10 ≤ B := by
    generalize c.funs = l
    induction l with
    | nil => exact ⟨0, fun f hf => by cases hf⟩
    | cons a l ih =>
      obtain ⟨B, hB⟩ := ih
      exact ⟨3 * szTm a.term + 10 + B, fun f hf => by
        rcases List.mem_cons.1 hf with rfl | hf
        · omega
        · have := hB f hf; omega⟩
  obtain ⟨B, hB⟩ := hb
  exact ⟨szTs c.types + B + c.funs.length + (3 * szTm c.query.term + 10) + 1, by omega, fun f hf => by have := hB f hf; omega, by omega, by omega⟩
theorem coreRights_any (W : World) (hS : W.ShapedOpen Tryz.prog) {H : Type} {enc : TypeId × Value → H} {cs : Array Value} {a2 : Option Addr} {len2 cap2 : Nat} {d d2 : DataW H} {ps ps2 : List MemPlace}
    (h : DataW.Trod enc Tryz.prog W 0 (fun _ => true) true 34 (.agg cs) d ps) (h2 : DataW.Trod enc Tryz.prog W 0 (fun _ => true) true 24 (.slice a2 len2 cap2) d2 ps2) : Calls Tryz.prog 3 #[.agg cs, .slice a2 len2 cap2] W fun E W' => E = .returned (.bool true) ∧ Below W.heap.size W W' := by
  obtain ⟨fuel, h⟩ := h
  obtain ⟨fuel2, h2⟩ := h2
  have hl := lay_all readT readT_ok fuel 34 rfl cs.toList _ h
  have hl2 := lay_all readT readT_ok fuel2 24 rfl [.slice a2 len2 cap2] _ h2
  obtain ⟨L1, cs', _, hL1, hv, _, hr⟩ := hl [] (LOk.nil W)
  obtain ⟨L, cs2', hx, hL, hv2, _, hr2⟩ := hl2 L1 hL1
  obtain ⟨l, hrv, hsh⟩ := tree_of (μ := []) readT_ok (hr.mono hx.g) rfl
  obtain ⟨l2, hrv2, hsh2⟩ := tree_of (μ := []) readT_ok hr2 rfl
  obtain ⟨p, rfl, hp⟩ := sh_core api hsh
  obtain ⟨chs, rfl, hlen, hch⟩ := hsh2.sliceOf Tryz.underlying24
  obtain ⟨ins, rfl, hins⟩ := map_of (f := encV) (R := OkV) chs (fun x hx => sh_val api _ x (Nat.lt_succ_self _) (hch x hx))
  rw [List.length_map] at hlen
  obtain ⟨M, hM⟩ := lim_of p
  obtain ⟨σ', ht⟩ := coreRights_t (M + szVs ins + 1) p ins (lim_mono hM (by omega)) hp (by omega) hlen hins
  cases hrv2 with
  | cons r2 rn =>
    cases rn
    obtain ⟨s', hx2⟩ := tree_true fits (L := L) (args := [.agg (encC p), .sl .fz (ins.map encV)]) (args' := [.agg ⟨cs'⟩, _]) (.cons (.agg hrv) (.cons r2 .nil)) ht
    cases hv2 with
    | cons v2 vn =>
      exact laid_true envX (fun _ => rfl) (w := W) ⟨rfl, hS⟩ hL (args' := [.agg cs, .slice a2 len2 cap2]) (.cons (.agg (hv.mono hx.φ)) (.cons v2 .nil)) hx2
abbrev ops1 : List (String × DataW Unit) := [("sortilege/core.ops", Rows.laid_sortilege_core_ops)]
theorem door_met (os : Os) (args : Array Value) : laidMetH Tryz.prog ops1 ((World.doorLaid Tryz.prog 400 os).forCall (fun _ _ => 0) ⟨#[], args, []⟩).memory :=
  laidMetH_of_parts3 (fuel := 8) (laidMet_of_run' 8 (by kernel_rfl) (by kernel_rfl)) (by kernel_rfl) (by kernel_rfl)
def coreZ : Value := .agg #[.slice none 0 0, .slice none 0 0, .int .i64 0, .int .i64 0, .int .i64 0, .int .i64 0, .int .i64 0, .int .i64 0, .int .i64 0, .slice none 0 0, .slice none 0 0, .slice none 0 0, .int .i64 0]
theorem coreRights_lifted (os : Os) (started : os.Started) (H : Type) (enc : TypeId × Value → H) :
    ReturnsInHanded {} Tryz.checked os 3 .any (fun w args => (Rows.coreRightsSpec.pre enc Tryz.prog Tryz.f3 [] false w args ∧ laidMetH Tryz.prog ops1 w) ∧ sizedMet enc Tryz.prog Tryz.f3 (OpenSpec.ofChange Rows.coreRightsSpec) false w args)
      (Rows.coreRightsSpec.post enc Tryz.prog Tryz.f3 false true false false) := by
  refine returnsInHanded_of_calls (C := Tryz.checked) Tryz.own started (by kernel_rfl)
    (ChangeSpec.witness_shaped (enc := enc) (C := Tryz.checked) (os := os) (X := fun w _ => laidMetH Tryz.prog ops1 w) false (World.doorLaid Tryz.prog 400 os) #[coreZ, .slice none 0 0] 8 rfl (World.shaped_of_RefB (by kernel_rfl) (by kernel_rfl)) (by kernel_rfl) (by kernel_rfl) (by kernel_rfl) (door_met os _)) ?_
  intro w tape i _ hS _ hok hpre hholds
  obtain ⟨_, _, _, fn', hfn', _, _, _, _, hval⟩ := hok
  have e : fn' = Tryz.f3 := Option.some.inj (hfn'.symm.trans Tryz.func3)
  subst e
  obtain ⟨⟨⟨ds, gs, before, hw, hc⟩, _⟩, _⟩ := hpre
  have hW := DataW.Whole.of_heap (w' := w.forCall tape i) (by rfl) hw
  clear hw hholds hc
  generalize hWg : w.forCall tape i = W at hS hW hval ⊢
  have hWk := hW
  obtain ⟨p, q, hA0, hV, rfl, hfz, hnd⟩ := hW
  have hA : DataW.TrodAll enc Tryz.prog W 0 (fun _ => true) true Tryz.f3.params.toList i.args.toList ds p := hA0
  rw [Tryz.params3] at hA hval
  obtain ⟨v0, v1, d0, d1, p0, p1, ha, rfl, rfl, h0, h1⟩ := trodAll_two hA
  obtain ⟨rfl, rfl⟩ := trodVars_none hV
  have hok0 : Value.okWide Tryz.prog W .any w.heap.size 34 v0 := hval 0 34 v0 rfl (by rw [ha]; rfl)
  have hok1 : Value.okWide Tryz.prog W .any w.heap.size 24 v1 := hval 1 24 v1 rfl (by rw [ha]; rfl)
  obtain ⟨a2, len2, cap2, rfl⟩ := Go.WideShapes.okWide_slice Tryz.underlying24 hok1
  unfold Value.okWide at hok0
  rw [Tryz.underlying34] at hok0
  obtain ⟨cs, rfl, _, _⟩ := hok0
  simp only [List.append_nil] at hWk
  rw [ha] at hWk ⊢
  refine Calls.mono (coreRights_any W hS h0 h1) ?_
  rintro E W' ⟨rfl, hb⟩
  have hlt : ∀ x ∈ p0 ++ p1, x.block < W.heap.size := fun x hx => by simpa using hWk.lt x hx
  refine ChangeSpec.post_blind ⟨[d0, d1], [], p0 ++ p1, [], p0 ++ p1, [], hWk, ?_, trodAll_mk2 (Below.trod Tryz.laidOut (by kernel_rfl) (of_decide_eq_true (by kernel_rfl)) h0 hb (fun x hx => hlt x (by simp [hx]))) (Below.trod Tryz.laidOut (by kernel_rfl) (of_decide_eq_true (by kernel_rfl)) h1 hb (fun x hx => hlt x (by simp [hx]))), rfl, hb.frame _, fun h => by cases h⟩
  exact trodAll_mk1 (shut_bool Tryz.underlying4 true)
theorem coreRights_row : Rows.CoreRightsSaid :=
  OpenClaim.holds_of_wide 3 Tryz.f3 rfl rfl rfl rfl rfl rfl rfl ⟨rfl, rfl, rfl, rfl, rfl⟩ rfl rfl rfl rfl rfl (by kernel_rfl) Tryz.func3 (by kernel_rfl)
    (of_decide_eq_true (by kernel_rfl)) (by unfold Func.isWrapper; rw [if_neg (by decide +kernel)]; exact ⟨rfl, rfl⟩)
    (fun os started H enc _ => coreRights_lifted os started H enc)
theorem coreRights_holds : Rows.CoreRightsCardSaid :=
  Claim7.holds_tied_plain_at .later [] [.widerDeep] true (true, "3ee02a16661b92b04f8be1219d930dfaa6231c6997ff030047cd139c893957a2") true
    coreRights_row (fun _ h => by cases h) (by kernel_rfl) (fun _ h => by cases h) coreRights_row_tie rfl ⟨rfl, rfl⟩ (by kernel_rfl) rfl
    (fun f fn hf hfn => by
      obtain rfl : f = 3 := Option.some.inj ((show Tryz.prog.funcNamed "sortilege/sortilegelaw09.CoreRights" = some 3 by kernel_rfl).symm.trans hf) |>.symm
      obtain rfl : fn = Tryz.f3 := (Option.some.inj (Tryz.func3.symm.trans hfn)).symm
      exact ⟨by kernel_rfl, fun j t ht => by
        rw [Tryz.params3] at ht
        have hm : t ∈ [34, 24] := by simpa using Array.mem_of_getElem? ht
        have hall : ([34, 24].all fun u => !Tryz.prog.wantsStandIn u) = true := by kernel_rfl
        exact (show Tryz.prog.wantsStandIn t = false by simpa using List.all_eq_true.1 hall t hm)⟩)
    (by kernel_rfl)
end Go.Proofs.YtalckpkiplhbcaaGreatDoor
end
