/-
  A part of the proof: it is imported by YtalckpkiplhbcaaGreatDoorTop. Nothing here is a claim of its own.
-/
import Derived.Test.YtalckpkiplhbcaaGreatDoorK4
import Derived.Shelf.Small.Strs
import Derived.Shelf.Strings.Search1
import Derived.Shelf.Strings.Search2
import Derived.Shelf.Strings.Search3
import Derived.Shelf.LaysM
import Derived.Shelf.Strings.Shaped
import Derived.Shelf.Sort.Plain
import Derived.Ground.Names2Prog
import Derived.Shelf.Slices.CompactI
import Derived.Shelf.Slices.In.SortNone
import Derived.Test.YtalckpkiplhbcaaGreatDoorProg
section
namespace Go.Xe.YtalckpkiplhbcaaGreatDoor
open Go Go.Xe Go.Xt
set_option linter.unusedVariables false
set_option linter.unusedSimpArgs false
variable {F : FuncId → Option TFun} {O : FuncId → List TV → Option TV}
inductive BV (lo : Nat) (σ : Sto) : TV → List Int → Prop
  | nl : BV lo σ (.sl .nl []) []
  | own (l : List Int) : l ≠ [] → BV lo σ (.sl (.own 3 1) (l.map encI)) l
  | ref {k ver : Nat} (l : List Int) : lo ≤ k → l ≠ [] → σ.at k = some ⟨ver, .cells (encZT l) 3⟩ → BV lo σ (.ref k 0 1 l.length (capU + 1)) l
theorem Grn.setapp {σ0 σ : Sto} {k : Nat} (g : Grn σ0 σ) (hk : σ0.length ≤ k) (τ : Sto) : Grn σ0 (σ.set k none ++ τ) := by
  refine ⟨by simp; exact Nat.le_trans g.len (Nat.le_add_right _ _), fun j hj => ?_⟩
  rw [at_app (by simpa using Nat.lt_of_lt_of_le hj g.len), at_ne (by omega)]
  exact g.same j hj
theorem lp_t {C : TCallee} {N b : Nat} (e : PTerm) (he : OkTm e) (k : Nat) (hk : k ≤ 4) (hN : 5 ≤ N) (a : TAct) (σ0 σ : Sto) (v0 v1 v2 v8 v41 v42 v43 v6 : TV) (bd : List Int) (hg : Grn σ0 σ) (hbv : BV σ0.length σ v0 bd) (hbl : bd.length ≤ 100000) (hdf : a.df = [])
    (h1 : a.tm.get 1 = some v1) (h2 : a.tm.get 2 = some v2) (h3 : a.tm.get 3 = some (.bx 0 (encTm e) 30)) (h6 : a.tm.get 6 = some v6) (h8 : a.tm.get 8 = some v8) (h41 : a.tm.get 41 = some v41) (h42 : a.tm.get 42 = some v42) (h43 : a.tm.get 43 = some v43)
    (h9 : a.tm.get 9 = some v0) (h61 : a.tm.get 61 = some (.int .i64 (k : Int))) (h62 : a.tm.get 62 = some (.int .i64 0)) :
    Tw a41 b C N (fun ex a' σ' => ex = .normal ∧ a'.df = [] ∧ Grn σ0 σ' ∧ (∃ v, BV σ0.length σ' v (bd ++ slotsB e.n k) ∧ a'.tm.get 9 = some v) ∧ a'.tm.get 1 = some v1 ∧ a'.tm.get 2 = some v2 ∧ a'.tm.get 3 = some (.bx 0 (encTm e) 30) ∧ a'.tm.get 6 = some v6 ∧ a'.tm.get 8 = some v8 ∧ a'.tm.get 41 = some v41 ∧ a'.tm.get 42 = some v42 ∧ a'.tm.get 43 = some v43) [] (tcode a41 b C N lp41 a σ) := by
  obtain ⟨tm, df, clk⟩ := a
  simp only at hdf h1 h2 h3 h6 h8 h41 h42 h43 h9 h61 h62
  subst hdf
  simp [lp41]
  obtain ⟨I, hI⟩ : ∃ I : Nat → TAct → Sto → Prop, I = (fun j a' σ' => a'.df = [] ∧ Grn σ0 σ' ∧ (∃ v, BV σ0.length σ' v (bd ++ slotsB e.n j) ∧ a'.tm.get 9 = some v) ∧ a'.tm.get 1 = some v1 ∧ a'.tm.get 2 = some v2 ∧ a'.tm.get 3 = some (.bx 0 (encTm e) 30) ∧ a'.tm.get 6 = some v6 ∧ a'.tm.get 8 = some v8 ∧ a'.tm.get 41 = some v41 ∧ a'.tm.get 42 = some v42 ∧ a'.tm.get 43 = some v43 ∧ a'.tm.get 61 = some (.int .i64 (k : Int)) ∧ a'.tm.get 62 = some (.int .i64 (j : Int))) := ⟨_, rfl⟩
  obtain ⟨R, hR⟩ : ∃ R : TEx → TAct → Sto → Prop, R = (fun ex a' σ' => ex = .exit 3 ∧ a'.df = [] ∧ Grn σ0 σ' ∧ (∃ v, BV σ0.length σ' v (bd ++ slotsB e.n k) ∧ a'.tm.get 9 = some v) ∧ a'.tm.get 1 = some v1 ∧ a'.tm.get 2 = some v2 ∧ a'.tm.get 3 = some (.bx 0 (encTm e) 30) ∧ a'.tm.get 6 = some v6 ∧ a'.tm.get 8 = some v8 ∧ a'.tm.get 41 = some v41 ∧ a'.tm.get 42 = some v42 ∧ a'.tm.get 43 = some v43) := ⟨_, rfl⟩
  refine tw_loop I k R ?_ (by omega) ?_ ?_ ?_
  · rw [hI]
    exact ⟨rfl, hg, ⟨v0, by simpa [slotsB] using hbv, h9⟩, h1, h2, h3, h6, h8, h41, h42, h43, h61, by simpa using h62⟩
  · rw [hI]
    rintro j ⟨tm, df, clk⟩ σ' hj ⟨rfl, hg, ⟨v, hbv, h9⟩, h1, h2, h3, h6, h8, h41, h42, h43, h61, h62⟩
    rw [← hI]
    have hw1 : IntKind.i64.wrap ((j : Int) + 1) = ((j + 1 : Nat) : Int) := by rw [wrap_in] <;> omega
    have h3' := h3
    have hn := he.n
    unfold I64 at hn
    have hsl := slotsB_len e.n j
    rw [encTm_def] at h3
    by_cases hov : e.n + (j : Int) ≤ 9223372036854775807
    case neg =>
      have hw : ¬ e.n ≤ IntKind.i64.wrap (e.n + (j : Int)) := by rw [IntKind.wrap_i64]; omega
      have hs : slotsB e.n (j + 1) = slotsB e.n j := by simp only [slotsB]; rw [if_neg hov, List.append_nil]
      simp [h1, h2, h3, h6, h8, h9, h41, h42, h43, h61, h62, hj, hw1, hw]
      rw [hI]
      exact ⟨rfl, hg, ⟨v, by rw [hs]; exact hbv, by simp [h9]⟩, by simp [h1], by simp [h2], by simp [h3'], by simp [h6], by simp [h8], by simp [h41], by simp [h42], by simp [h43], by simp [h61], by simp⟩
    have hw : IntKind.i64.wrap (e.n + (j : Int)) = e.n + (j : Int) := by rw [wrap_in] <;> omega
    have hle : e.n ≤ e.n + (j : Int) := by omega
    have hs : slotsB e.n (j + 1) = slotsB e.n j ++ [e.n + (j : Int)] := by simp only [slotsB]; rw [if_pos hov]
    have hlen : (bd ++ slotsB e.n j).length ≤ 100004 := by simp only [List.length_append]; omega
    generalize hL : bd ++ slotsB e.n j = L at hbv hlen
    have hs' : bd ++ slotsB e.n (j + 1) = L ++ [e.n + (j : Int)] := by rw [hs, ← List.append_assoc, hL]
    generalize hx : e.n + (j : Int) = x at hw hle hs'
    rcases hbv with _ | ⟨_, hne⟩ | ⟨_, hlo, hne, hat⟩
    · simp [h1, h2, h3, h6, h8, h9, h41, h42, h43, h61, h62, hj, hw1, hw, hle, hx]
      rw [hI]
      exact ⟨rfl, hg, ⟨_, by rw [hs']; exact .own _ (by simp), by simp [encI]⟩, by simp [h1], by simp [h2], by simp [h3'], by simp [h6], by simp [h8], by simp [h41], by simp [h42], by simp [h43], by simp [h61], by simp⟩
    · have hl2 : L.length + 1 ≤ 1073741824 := by omega
      simp [h1, h2, h3, h6, h8, h9, h41, h42, h43, h61, h62, hj, hw1, hw, hle, hx, hl2, encI]
      rw [hI]
      exact ⟨rfl, hg, ⟨_, by rw [hs']; exact .own _ (by simp), by simp [encI]⟩, by simp [h1], by simp [h2], by simp [h3'], by simp [h6], by simp [h8], by simp [h41], by simp [h42], by simp [h43], by simp [h61], by simp⟩
    · rename_i kk vk
      have hl2 : L.length + 1 ≤ 1073741824 := by omega
      have hcl : (encZT L).length = L.length := encZT_len L
      have hct : (encZT L).take L.length = encZT L := List.take_of_length_le (by omega)
      have hca := owned_encZT L
      have hez : encZT (L ++ [x]) = encZT L ++ [.int .i64 x] := by rw [encZT_append]; rfl
      have hgs := hg.setapp hlo [some ⟨0, .cells (encZT (L ++ [x])) 3⟩]
      have hnw : Sto.at (σ'.set kk none ++ [some (⟨0, .cells (encZT (L ++ [x])) 3⟩ : TObj)]) σ'.length = some ⟨0, .cells (encZT (L ++ [x])) 3⟩ := by
        have := at_new (σ'.set kk none) ⟨0, .cells (encZT (L ++ [x])) 3⟩
        rwa [List.length_set] at this
      have hbv' : BV σ0.length (σ'.set kk none ++ [some (⟨0, .cells (encZT (L ++ [x])) 3⟩ : TObj)]) (.ref σ'.length 0 1 (L ++ [x]).length (capU + 1)) (L ++ [x]) := .ref _ hg.len (by simp) hnw
      rw [hez] at hgs hbv'
      simp only [List.length_append, List.length_cons, List.length_nil, Nat.zero_add] at hbv'
      generalize encZT L = cs at *
      simp [h1, h2, h3, h6, h8, h9, h41, h42, h43, h61, h62, hj, hw1, hw, hle, hx, hl2, hat, hcl, hct, hca]
      rw [hI]
      exact ⟨rfl, hgs, ⟨_, by rw [hs']; exact hbv', by simp⟩, by simp [h1], by simp [h2], by simp [h3'], by simp [h6], by simp [h8], by simp [h41], by simp [h42], by simp [h43], by simp [h61], by simp⟩
  · rw [hI]
    rintro ⟨tm, df, clk⟩ σ' ⟨rfl, hg, hbv, h1, h2, h3, h6, h8, h41, h42, h43, h61, h62⟩
    simp [h61, h62]
    rw [hR]
    obtain ⟨v, hbv, h9⟩ := hbv
    exact ⟨rfl, rfl, hg, ⟨v, hbv, by simp [h9]⟩, by simp [h1], by simp [h2], by simp [h3], by simp [h6], by simp [h8], by simp [h41], by simp [h42], by simp [h43]⟩
  · rw [hR]
    rintro ex ⟨tm, df, clk⟩ σ' ⟨rfl, rfl, hg, hbv, h1, h2, h3, h6, h8, h41, h42, h43⟩
    simp
    exact ⟨hg, hbv, h1, h2, h3, h6, h8, h41, h42, h43⟩
end Go.Xe.YtalckpkiplhbcaaGreatDoor
end
section
namespace Go.Xe.YtalckpkiplhbcaaGreatDoor
open Go Go.Xe Go.Xt
set_option linter.unusedVariables false
set_option linter.unusedSimpArgs false
variable {F : FuncId → Option TFun} {O : FuncId → List TV → Option TV}
theorem OutS.row_lt {σ : Sto} {po k : Nat} {l : List Int} (h : OutS σ po l) (e : rowOf σ po = some k) : k < σ.length := by
  obtain ⟨ver, ov, h1, h2⟩ := h
  unfold rowOf at e
  rw [h1] at e
  cases h2 with
  | nl => cases e
  | ref l hne hk => cases e; exact Sto.lt hk
theorem BV.bdv {σ0 σ : Sto} {po : Nat} {v : TV} {l ol : List Int} (h : BV σ0.length σ v l) (ho : OutS σ0 po ol) (g : Grn σ0 σ) : BdV σ po (frz v) l := by
  cases h with
  | nl => exact nl_bdv σ po
  | own l hne => exact ⟨.fz l, .inr hne, fun _ _ _ _ _ h => (by cases h), rfl, rfl⟩
  | ref l hlo hne hk =>
    refine ⟨.ref l [] (by rw [List.append_nil]; exact hk), .inr hne, fun k o s n c e => ?_, rfl, rfl⟩
    cases e
    have hp := ho.lt
    refine ⟨by omega, fun hr => ?_⟩
    have hr2 : rowOf σ0 po = rowOf σ po := by unfold rowOf; rw [g.same po hp]
    have := ho.row_lt (hr2.trans hr)
    omega
theorem kd_t {N b : Nat} (h67 : F 67 = some f67) (e : PTerm) (he : OkTm e) (hN : 5 ≤ N) (a : TAct) (σ : Sto) (po : Nat) (ol : List Int) (bv : TV) (bd : List Int) (hb : BdV σ po bv bd) (ho : OutS σ po ol) (hbl : bd.length ≤ 100000) (j : Nat) (hj : j < e.kids.length)
    (ih : ∀ (v : TV) (bd' : List Int) (σ' : Sto), BdV σ' po v bd' → OutS σ' po ol → bd'.length ≤ bd.length + 4 →
      ∃ σ'', tcall F O (N + 1) b 41 [.agg (encTm e.kids[j]), v, .ptr po 0] σ' = some (.ret (.tuple []), σ'') ∧ OutS σ'' po (ol ++ freeC bd' e.kids[j]) ∧ Frm σ' σ'' po)
    (hdf : a.df = []) (h1 : a.tm.get 1 = some bv) (h2 : a.tm.get 2 = some (.ptr po 0)) (h3 : a.tm.get 3 = some (.bx 0 (encTm e) 30)) (h6 : a.tm.get 6 = some (.int .i64 (manyI e)))
    (h41 : a.tm.get 41 = some (.sl .fz (e.kids.map encTm))) (h42 : a.tm.get 42 = some (.int .i64 (e.kids.length : Int))) (h43 : a.tm.get 43 = some (.int .i64 (j : Int))) :
    Tw a41 b (tcall F O (N + 1)) (N + 1) (fun ex a' σ' => ex = .normal ∧ a'.df = [] ∧ OutS σ' po (ol ++ freeC (if j + 1 = e.kids.length then innerB bd e else bd) e.kids[j]) ∧ Frm σ σ' po ∧ a'.tm.get 1 = some bv ∧ a'.tm.get 2 = some (.ptr po 0) ∧ a'.tm.get 3 = some (.bx 0 (encTm e) 30) ∧ a'.tm.get 6 = some (.int .i64 (manyI e)) ∧
      a'.tm.get 41 = some (.sl .fz (e.kids.map encTm)) ∧ a'.tm.get 42 = some (.int .i64 (e.kids.length : Int)) ∧ a'.tm.get 43 = some (.int .i64 (j : Int))) [] (tcode a41 b (tcall F O (N + 1)) (N + 1) kd41 a σ) := by
  obtain ⟨tm, df, clk⟩ := a
  simp only at hdf h1 h2 h3 h6 h41 h42 h43
  subst hdf
  have hlen := he.len
  unfold maxLen at hlen
  have hw1 : IntKind.i64.wrap ((e.kids.length : Int) - 1) = (e.kids.length : Int) - 1 := by rw [wrap_in] <;> omega
  have hml := manyI_lo e
  have hown := hb.own
  have hgiv := hb.give
  have h3' := h3
  rw [encTm_def] at h3
  generalize hkid : e.kids[j] = kid at ih
  have hkd : encTm kid = [.int .i64 kid.kind, .int .i64 kid.n, .int .i64 kid.m, .int .i64 kid.val.kind, .int .i64 kid.val.n, .sl .fz (kid.val.list.map encV), .sl .fz (kid.odds.map encI), .sl .fz (kid.kids.map encTm)] := encTm_def kid
  by_cases hlast : j + 1 = e.kids.length
  case neg =>
    rw [if_neg hlast]
    obtain ⟨σ'', hc, hO, hF⟩ := ih bv bd σ hb ho (by omega)
    have hne : ¬ (j : Int) = (e.kids.length : Int) - 1 := by omega
    rw [hkd] at hc
    by_cases hm : 0 < manyI e
    · have hints := hb.ints
      rcases hints with _ | _ | _
      all_goals simp [kd41, in41, h1, h2, h3, h6, h41, h42, h43, hj, hkid, hkd, hm, hw1, hne, hc, undT, hO, hF, encTm_def e]
    · have hints := hb.ints
      rcases hints with _ | _ | _
      all_goals simp [kd41, in41, h1, h2, h3, h6, h41, h42, h43, hj, hkid, hkd, hm, hw1, hne, hc, undT, hO, hF, encTm_def e]
  · rw [if_pos hlast]
    by_cases hm : 0 < manyI e
    case neg =>
      have e0 : innerB bd e = bd := by
        unfold innerB
        rw [show (manyI e).toNat = 0 by omega]
        simp [slotsB]
      rw [e0]
      obtain ⟨σ'', hc, hO, hF⟩ := ih bv bd σ hb ho (by omega)
      rw [hkd] at hc
      have hints := hb.ints
      rcases hints with _ | _ | _
      all_goals simp [kd41, in41, h1, h2, h3, h6, h41, h42, h43, hj, hkid, hkd, hm, hw1, hc, undT, hO, hF, encTm_def e]
    have hjl : ((j : Int) = (e.kids.length : Int) - 1) = True := eq_true (by omega)
    obtain ⟨mk, hmk⟩ : ∃ mk : Nat, manyI e = (mk : Int) := ⟨(manyI e).toNat, by omega⟩
    have hin : innerB bd e = bd ++ slotsB e.n mk := by unfold innerB; rw [hmk, Int.toNat_natCast]
    rw [hin]
    rw [hmk] at h6 hm hml ⊢
    have hm' : 0 < mk := by omega
    have hsl := slotsB_len e.n mk
    have hbl2 : (bd ++ slotsB e.n mk).length ≤ bd.length + 4 := by rw [List.length_append]; omega
    have fin : ∀ (a' : TAct) (σ'' : Sto) (s8 : Nat), a'.df = [] → Grn σ σ'' → (∃ v, BV σ.length σ'' v (bd ++ slotsB e.n mk) ∧ a'.tm.get 9 = some v) → a'.tm.get 1 = some bv → a'.tm.get 2 = some (.ptr po 0) → a'.tm.get 3 = some (.bx 0 (encTm e) 30) → a'.tm.get 6 = some (.int .i64 (mk : Int)) → a'.tm.get 8 = some (.bx s8 (encTm kid) 30) →
        a'.tm.get 41 = some (.sl .fz (e.kids.map encTm)) → a'.tm.get 42 = some (.int .i64 (e.kids.length : Int)) → a'.tm.get 43 = some (.int .i64 (j : Int)) →
        Tw a41 b (tcall F O (N + 1)) (N + 1) (fun ex a' σ' => ex = .normal ∧ a'.df = [] ∧ OutS σ' po (ol ++ freeC (bd ++ slotsB e.n mk) kid) ∧ Frm σ σ' po ∧ a'.tm.get 1 = some bv ∧ a'.tm.get 2 = some (.ptr po 0) ∧ a'.tm.get 3 = some (.bx 0 (encTm e) 30) ∧ a'.tm.get 6 = some (.int .i64 (mk : Int)) ∧
          a'.tm.get 41 = some (.sl .fz (e.kids.map encTm)) ∧ a'.tm.get 42 = some (.int .i64 (e.kids.length : Int)) ∧ a'.tm.get 43 = some (.int .i64 (j : Int))) [] (tcode a41 b (tcall F O (N + 1)) (N + 1) (.region [⟨(some 80), .loadN 8 (.tmp 8), none⟩, ⟨(some 81), .move (.tmp 9), none⟩, ⟨(some 82), .move (.tmp 2), none⟩, ⟨(some 83), .call 41 [(.tmp 80), (.tmp 81), (.tmp 82)], none⟩]) a' σ'') := by
      rintro ⟨tm, df, clk⟩ σ'' s8 rfl hg ⟨v, hbv, h9⟩ h1 h2 h3 h6 h8 h41 h42 h43
      simp only at h9 h1 h2 h3 h6 h8 h41 h42 h43
      obtain ⟨σ3, hc, hO, hF⟩ := ih (frz v) _ σ'' (hbv.bdv ho hg) (ho.grn hg) hbl2
      have hF2 := (hg.frm ho.lt).trans hF
      rw [hkd] at hc h8
      generalize bd ++ slotsB e.n mk = L at hbv hc hO
      rcases hbv with _ | _ | _
      all_goals simp [h1, h2, h3, h6, h8, h9, h41, h42, h43, hkd]
      all_goals simp only [frz] at hc
      all_goals simp [hc, hO, hF2, h1, h2, h3, h6, h41, h42, h43]
    by_cases hbn : bd = []
    · have hv : bv = .sl .nl [] := by
        rcases hb.ne with h | h
        · exact h
        · exact absurd hbn h
      have hcl := cloneN_t (O := O) h67 N b σ
      subst hv
      simp [kd41, in41, h1, h2, h3, h6, h41, h42, h43, hj, hkid, hkd, hm, hm', hw1, hjl, hcl, undT]
      apply tw_bind
      · apply lp_t (N := N + 1) (σ0 := σ) e he mk (by omega) (by omega)
        · exact Grn.refl σ
        · show BV σ.length σ (.sl .nl []) bd
          rw [hbn]; exact .nl
        · exact hbl
        · rfl
        · simp [h1]; rfl
        · simp [h2]; rfl
        · simp [encTm_def e, h3]
        · simp [h6]; rfl
        · simp; rfl
        · simp [h41]; rfl
        · simp [h42]; rfl
        · simp [h43]; rfl
        · simp
        · simp
        · simp
      · rintro ex a' σ' ⟨rfl, q0, q1, q2, q3, q4, q5, q6, q7, q8, q9, q10⟩
        exact fin a' σ' _ q0 q1 q2 q3 q4 q5 q6 (by rw [hkd]; exact q7) q8 q9 q10
    · have hcl := clone_t (O := O) h67 N b bv bd σ hb.ints hbn (by omega)
      have hgr : Grn σ (σ ++ [some (⟨0, .cells [] 3⟩ : TObj)] ++ [some ⟨0, .cells (encZT bd) 3⟩]) := (Grn.app σ _).trans (Grn.app _ _)
      have hbv : BV σ.length (σ ++ [some (⟨0, .cells [] 3⟩ : TObj)] ++ [some ⟨0, .cells (encZT bd) 3⟩]) (.ref (σ.length + 1) 0 1 bd.length (capU + 1)) bd := by
        refine .ref bd (by omega) hbn ?_ (ver := 0)
        have := at_new (σ ++ [some (⟨0, .cells [] 3⟩ : TObj)]) ⟨0, .cells (encZT bd) 3⟩
        rwa [List.length_append] at this
      generalize σ ++ [some (⟨0, .cells [] 3⟩ : TObj)] ++ [some ⟨0, .cells (encZT bd) 3⟩] = σ1 at hcl hgr hbv
      have hints := hb.ints
      rcases hints with _ | _ | _
      · exact absurd rfl hbn
      all_goals simp [kd41, in41, h1, h2, h3, h6, h41, h42, h43, hj, hkid, hkd, hm, hm', hw1, hjl, hcl, undT]
      · apply tw_bind
        · apply lp_t (N := N + 1) (σ0 := σ) e he mk (by omega) (by omega)
          · exact hgr
          · exact hbv
          · exact hbl
          · rfl
          · simp [h1]; rfl
          · simp [h2]; rfl
          · simp [encTm_def e, h3]
          · simp [h6]; rfl
          · simp; rfl
          · simp [h41]; rfl
          · simp [h42]; rfl
          · simp [h43]; rfl
          · simp
          · simp
          · simp
        · rintro ex a' σ' ⟨rfl, q0, q1, q2, q3, q4, q5, q6, q7, q8, q9, q10⟩
          exact fin a' σ' _ q0 q1 q2 q3 q4 q5 q6 (by rw [hkd]; exact q7) q8 q9 q10
      · apply tw_bind
        · apply lp_t (N := N + 1) (σ0 := σ) e he mk (by omega) (by omega)
          · exact hgr
          · exact hbv
          · exact hbl
          · rfl
          · simp [h1]; rfl
          · simp [h2]; rfl
          · simp [encTm_def e, h3]
          · simp [h6]; rfl
          · simp; rfl
          · simp [h41]; rfl
          · simp [h42]; rfl
          · simp [h43]; rfl
          · simp
          · simp
          · simp
        · rintro ex a' σ' ⟨rfl, q0, q1, q2, q3, q4, q5, q6, q7, q8, q9, q10⟩
          exact fin a' σ' _ q0 q1 q2 q3 q4 q5 q6 (by rw [hkd]; exact q7) q8 q9 q10
end Go.Xe.YtalckpkiplhbcaaGreatDoor
end
section
namespace Go.Xe.YtalckpkiplhbcaaGreatDoor
open Go Go.Xe Go.Xt
set_option linter.unusedVariables false
set_option linter.unusedSimpArgs false
variable {F : FuncId → Option TFun} {O : FuncId → List TV → Option TV}
theorem free41_t (h41 : F 41 = some f41) (h66 : F 66 = some f66) (h67 : F 67 = some f67) (h111 : F 111 = some f111) : ∀ (M N : Nat) (e : PTerm) (b : Nat) (σ : Sto) (po : Nat) (ol : List Int) (bv : TV) (bd : List Int), szTm e ≤ M → M + 100010 ≤ N → OkTm e → BdV σ po bv bd → OutS σ po ol → b ≤ po →
    bd.length + 4 * cntT e ≤ 100000 → ol.length + cntT e ≤ 100000 →
    ∃ σ', tcall F O N b 41 [.agg (encTm e), bv, .ptr po 0] σ = some (.ret (.tuple []), σ') ∧ OutS σ' po (ol ++ freeC bd e) ∧ Frm σ σ' po
  | 0, N, e, b, σ, po, ol, bv, bd, h, _, _, _, _, _, _, _ => by rw [szTm_def] at h; omega
  | M + 1, N, e, b, σ, po, ol, bv, bd, h, hN, he, hb, ho, hbp, hbl, hol => by
    have ih := free41_t h41 h66 h67 h111 M
    have hk := szTms_len e.kids
    have hs := szTm_def e
    have hcd := cntT_def e
    have hfd := freeC_def bd e
    obtain ⟨N, rfl⟩ : ∃ n, N = n + 3 := ⟨N - 3, by omega⟩
    suffices hh : ∃ e' σ', tcall F O (N + 2 + 1) b 41 [.agg (encTm e), bv, .ptr po 0] σ = some (e', σ') ∧ e' = .ret (.tuple []) ∧ OutS σ' po (ol ++ freeC bd e) ∧ Frm σ σ' po by
      obtain ⟨e', σ', q1, rfl, q2⟩ := hh
      exact ⟨σ', q1, q2⟩
    refine tcall_of h41 ?_
    simp [x41_cut, encTm_def e]
    apply tw_bind
    · apply hd_t (N := N) h66 h111 e _ σ po ol bv bd hb ho hbp
      · omega
      · unfold maxLen; omega
      · omega
      · rfl
      · simp
      · simp
      · simp [encTm_def e]
    rintro ex ⟨tm, df, clk⟩ σ1 ⟨rfl, ho1, hf1, hdf, h1, h2, h3⟩
    simp only at hdf h1 h2 h3
    subst hdf
    simp
    apply tw_bind
    · apply min_t e
      · rfl
      · simp [h1]; rfl
      · simp [h2]; rfl
      · simp [h3]
      · simp
    rintro ex ⟨tm, df, clk⟩ σ2 ⟨rfl, rfl, hdf, h1, h2, h3, h6⟩
    simp only at hdf h1 h2 h3 h6
    subst hdf
    have h3e := h3
    rw [encTm_def] at h3e
    simp [h3e]
    generalize hL1 : ol ++ (if e.kind = 2 ∧ e.n ∉ bd then [e.n] else []) = L1 at ho1
    have hl1 : L1.length ≤ ol.length + 1 := by rw [← hL1]; split <;> simp
    have htot : ol ++ freeC bd e = L1 ++ freeCs bd (innerB bd e) e.kids := by rw [hfd, ← List.append_assoc, hL1]
    rw [htot]
    have hinl : (innerB bd e).length ≤ bd.length + 4 := by
      have := slotsB_len e.n (manyI e).toNat
      have := manyI_lo e
      unfold innerB; rw [List.length_append]; omega
    obtain ⟨I, hI⟩ : ∃ I : Nat → TAct → Sto → Prop, I = (fun j a' σ' => a'.df = [] ∧ (∃ L, OutS σ' po L ∧ L ++ freeCs bd (innerB bd e) (e.kids.drop j) = L1 ++ freeCs bd (innerB bd e) e.kids ∧ L.length + cntTs (e.kids.drop j) ≤ 100000) ∧ Frm σ σ' po ∧ a'.tm.get 1 = some bv ∧ a'.tm.get 2 = some (.ptr po 0) ∧ a'.tm.get 3 = some (.bx 0 (encTm e) 30) ∧ a'.tm.get 6 = some (.int .i64 (manyI e)) ∧
      a'.tm.get 41 = some (.sl .fz (e.kids.map encTm)) ∧ a'.tm.get 42 = some (.int .i64 (e.kids.length : Int)) ∧ a'.tm.get 43 = some (.int .i64 (j : Int))) := ⟨_, rfl⟩
    obtain ⟨R, hR⟩ : ∃ R : TEx → TAct → Sto → Prop, R = (fun ex a' σ' => ex = .exit 1 ∧ a'.df = [] ∧ OutS σ' po (L1 ++ freeCs bd (innerB bd e) e.kids) ∧ Frm σ σ' po) := ⟨_, rfl⟩
    refine tw_loop I e.kids.length R ?_ (by omega) ?_ ?_ ?_
    · rw [hI]
      exact ⟨rfl, ⟨L1, ho1, by rw [List.drop_zero], by rw [List.drop_zero]; omega⟩, hf1, by simp [h1], by simp [h2], by simp [h3], by simp [h6], by simp, by simp, by simp⟩
    · rw [hI]
      rintro j ⟨tm, df, clk⟩ σ' hj ⟨rfl, ⟨L, hO, hLL, hln⟩, hF, h1, h2, h3, h6, h41, h42, h43⟩
      rw [← hI]
      have hw := wrapJ hj he.len
      rw [freeCs_drop hj, ← List.append_assoc] at hLL
      have hmem := List.getElem_mem hj
      have hszk := szTms_mem _ _ hmem
      have hck := cntTs_mem _ _ hmem
      rw [cntTs_drop hj] at hln
      simp [h42, h43, hj]
      apply tw_bind
      · apply kd_t (N := N + 1) h67 e he (by omega) _ σ' po L bv bd (hb.frm hF) hO (by omega) j hj
        · intro v bd' σ3 hb3 ho3 hl3
          exact ih (N + 2) e.kids[j] b σ3 po L v bd' (by omega) (by omega) (he.sub _ hmem) hb3 ho3 hbp (by omega) (by omega)
        · rfl
        · simp [h1]
        · simp [h2]
        · simp [h3]
        · simp [h6]
        · simp [h41]
        · simp [h42]
        · simp [h43]
      rintro ex ⟨tm, df, clk⟩ σ4 ⟨rfl, hdf, hO4, hF4, h1, h2, h3, h6, h41, h42, h43⟩
      simp only at hdf h1 h2 h3 h6 h41 h42 h43
      subst hdf
      simp [h43, hw]
      rw [hI]
      have hfl : (freeC (if j + 1 = e.kids.length then innerB bd e else bd) e.kids[j]).length ≤ cntT e.kids[j] := freeC_len _ _
      exact ⟨rfl, ⟨_, hO4, hLL, by rw [List.length_append]; omega⟩, hF.trans hF4, by simp [h1], by simp [h2], by simp [h3], by simp [h6], by simp [h41], by simp [h42], by simp⟩
    · rw [hI]
      rintro ⟨tm, df, clk⟩ σ' ⟨rfl, ⟨L, hO, hLL, hln⟩, hF, h1, h2, h3, h6, h41, h42, h43⟩
      rw [List.drop_of_length_le (Nat.le_refl _)] at hLL
      simp only [freeCs, List.append_nil] at hLL
      subst hLL
      simp [h42, h43]
      rw [hR]
      exact ⟨rfl, rfl, hO, hF⟩
    · rw [hR]
      rintro ex ⟨tm, df, clk⟩ σ' ⟨rfl, rfl, hO, hF⟩
      simp
      exact ⟨hO, hF⟩
end Go.Xe.YtalckpkiplhbcaaGreatDoor
end
section
namespace Go.Xe.YtalckpkiplhbcaaGreatDoor
open Go Go.Xe Go.Xt
set_option linter.unusedVariables false
set_option linter.unusedSimpArgs false
variable {F : FuncId → Option TFun} {O : FuncId → List TV → Option TV}
theorem intsTV_enc : ∀ l : List Int, intsTV (encZT l) = some l
  | [] => rfl
  | x :: l => by
    have := intsTV_enc l
    unfold encZT at this
    simp only [encZT, List.map_cons, intsTV, this]
theorem putAt_all {vs l : List TV} (h : l.length = vs.length) : putAt vs 0 l = l := by
  unfold putAt
  simp [h]
theorem row_t {k ver e c : Nat} {σ : Sto} (mk : Mk) (l : List Int) (hne : l ≠ []) (hl : l.length ≤ 1073741824) (hk : σ.at k = some ⟨ver, .cells (encZT l) e⟩) :
    rowT mk [.ref k 0 1 l.length c] σ = some (.ret (rowRetT mk k 0 1 l c), σ.set k (some ⟨ver + 1, .cells (encZT (rowH mk l)) e⟩)) := by
  have h0 : ¬ l.length = 0 := fun e => hne (List.length_eq_zero_iff.1 e)
  have hlen : (encZT l).length = l.length := encZT_len l
  have ht : (encZT l).take l.length = encZT l := List.take_of_length_le (by omega)
  have hp : putAt (encZT l) 0 (encZT (rowH mk l)) = encZT (rowH mk l) := putAt_all (by rw [encZT_len, encZT_len, rowH_len])
  have hi := intsTV_enc l
  unfold rowT
  simp only [beqT, bleT, decide_eq_false h0, hk, List.drop_zero, ht, hi, Nat.zero_add, hlen, decide_eq_true (Nat.le_refl _), decide_eq_true hl, Bool.and_self, hp]
theorem compact_split (l : List Int) : ∃ tl, rowH .compact l = compactZ l ++ tl := ⟨_, rfl⟩
structure RowO (F : FuncId → Option TFun) (O : FuncId → List TV → Option TV) : Prop where
  f42 : F 42 = none
  f43 : F 43 = none
  o42 : ∀ args, O 42 args = some (.agg [])
  o43 : ∀ args, O 43 args = some (.agg [.bool true])
theorem sort_t (R : RowO F O) {k ver e c : Nat} {σ : Sto} (N b : Nat) (l : List Int) (hne : l ≠ []) (hl : l.length ≤ 1073741824) (hk : σ.at k = some ⟨ver, .cells (encZT l) e⟩) :
    tcall F O (N + 1) b 42 [.ref k 0 1 l.length c] σ = some (.ret (.tuple []), σ.set k (some ⟨ver + 1, .cells (encZT (sortZ l)) e⟩)) := by
  simp only [tcall, R.f42, R.o42, tEnd, markT]
  exact row_t .sort l hne hl hk
theorem sort_nil_t (R : RowO F O) (σ : Sto) (N b : Nat) : tcall F O (N + 1) b 42 [.sl .nl []] σ = some (.ret (.tuple []), σ) := by
  simp only [tcall, R.f42, R.o42, tEnd, markT]; rfl
theorem compact_t (R : RowO F O) {k ver e c : Nat} {σ : Sto} (N b : Nat) (l : List Int) (hne : l ≠ []) (hl : l.length ≤ 1073741824) (hk : σ.at k = some ⟨ver, .cells (encZT l) e⟩) :
    tcall F O (N + 1) b 43 [.ref k 0 1 l.length c] σ = some (.ret (.ref k 0 1 (compactZ l).length c), σ.set k (some ⟨ver + 1, .cells (encZT (rowH .compact l)) e⟩)) := by
  simp only [tcall, R.f43, R.o43, tEnd, markT]
  exact row_t .compact l hne hl hk
theorem compact_nil_t (R : RowO F O) (σ : Sto) (N b : Nat) : tcall F O (N + 1) b 43 [.sl .nl []] σ = some (.ret (.sl .nl []), σ) := by
  simp only [tcall, R.f43, R.o43, tEnd, markT]; rfl
theorem sortZ_len (l : List Int) : (sortZ l).length = l.length := by unfold sortZ; simp
theorem free19_t (h19 : F 19 = some f19) (h41 : F 41 = some f41) (h66 : F 66 = some f66) (h67 : F 67 = some f67) (h111 : F 111 = some f111) (R : RowO F O) (N : Nat) (e : PTerm) (b : Nat) (σ : Sto) (hN : szTm e + 100010 ≤ N) (he : OkTm e) (hc : cntT e ≤ 3000) (hbσ : b ≤ σ.length) :
    ∃ v σ', tcall F O (N + 1) b 19 [.agg (encTm e)] σ = some (.ret v, σ') ∧ IntsV σ' v (compactZ (sortZ (freeC [] e))) ∧ give v = some v ∧ Grn σ σ' := by
  suffices hh : ∃ e' σ', tcall F O (N + 1) b 19 [.agg (encTm e)] σ = some (e', σ') ∧ ∃ v, e' = .ret v ∧ IntsV σ' v (compactZ (sortZ (freeC [] e))) ∧ give v = some v ∧ Grn σ σ' by
    obtain ⟨e', σ', q1, v, rfl, q2⟩ := hh
    exact ⟨v, σ', q1, q2⟩
  refine tcall_of h19 ?_
  obtain ⟨σ0, hσ0⟩ : ∃ σ0, σ0 = σ ++ [some (⟨0, .cells [.sl .nl []] 27⟩ : TObj)] := ⟨_, rfl⟩
  have hpo : σ0.at σ.length = some ⟨0, .cells [.sl .nl []] 27⟩ := by rw [hσ0]; exact at_new _ _
  have hg0 : Grn σ σ0 := by rw [hσ0]; exact Grn.app _ _
  obtain ⟨M, rfl⟩ : ∃ M, N = M + 1 := ⟨N - 1, by omega⟩
  obtain ⟨σ1, hc1, ⟨ver, ov, hp1, hov⟩, hF⟩ := free41_t (O := O) h41 h66 h67 h111 (szTm e) (M + 1) e b σ0 σ.length [] (.sl .nl []) [] (Nat.le_refl _) hN he (nl_bdv _ _) ⟨0, _, hpo, .nl⟩ hbσ (by simp; omega) (by simp; omega)
  rw [List.nil_append] at hov
  have hlen := freeC_len [] e
  generalize freeC [] e = l at hov hlen ⊢
  have hg1 : Grn σ σ1 := by
    refine ⟨Nat.le_trans hg0.len hF.len, fun k hk => ?_⟩
    rw [hF.same k (Nat.lt_of_lt_of_le hk hg0.len) (by omega) ?_, hg0.same k hk]
    unfold rowOf
    rw [hpo]
    intro h; cases h
  have hge : ∀ k, rowOf σ1 σ.length = some k → σ.length ≤ k := fun k hr => by
    rcases hF.row k hr with h | h
    · unfold rowOf at h; rw [hpo] at h; cases h
    · exact Nat.le_trans hg0.len h
  rw [encTm_def e] at hc1
  rcases hov with _ | ⟨_, hne, hk⟩
  · have h1 := sort_nil_t R σ1 M b
    have h2 := compact_nil_t R σ1 M b
    simp [x19, encTm_def e, ← hσ0, hc1, hp1, h1, h2]
    have e0 : compactZ (sortZ []) = [] := by
      have : sortZ [] = [] := List.length_eq_zero_iff.1 (sortZ_len [])
      rw [this]; unfold compactZ; rfl
    rw [e0]
    exact ⟨.nl, hg1⟩
  · rename_i k vk
    have hkp : k ≠ σ.length := by
      rintro rfl
      rw [hp1] at hk
      simp at hk
    have hkl := hge k (by unfold rowOf; rw [hp1])
    have hl2 : l.length ≤ 1073741824 := by omega
    have h1 := sort_t (c := capU + 1) R M b l hne hl2 hk
    have hs0 : sortZ l ≠ [] := fun e => hne (List.length_eq_zero_iff.1 (by rw [← sortZ_len, e]; rfl))
    have hk2 : Sto.at (σ1.set k (some ⟨vk + 1, .cells (encZT (sortZ l)) 3⟩)) k = some ⟨vk + 1, .cells (encZT (sortZ l)) 3⟩ := by
      simp only [Sto.at]; rw [List.getElem?_set_self (Sto.lt hk)]
    have h2 := compact_t (c := capU + 1) R M b (sortZ l) hs0 (by rw [sortZ_len]; exact hl2) hk2
    rw [sortZ_len] at h2
    have hp2 : Sto.at (σ1.set k (some ⟨vk + 1, .cells (encZT (sortZ l)) 3⟩)) σ.length = _ := (at_ne hkp).trans hp1
    obtain ⟨tl, htl⟩ := compact_split (sortZ l)
    rw [htl] at h2
    simp [x19, encTm_def e, ← hσ0, hc1, hp1, h1, h2, hp2]
    refine ⟨.ref _ tl ?_ (ver := vk + 1 + 1) (e := 3), ⟨by simpa using hg1.len, fun j hj => ?_⟩⟩
    · simp only [Sto.at]; rw [List.getElem?_set_self (Sto.lt hk)]
    · rw [at_ne (by omega)]; exact hg1.same j hj
end Go.Xe.YtalckpkiplhbcaaGreatDoor
end
section
namespace Go.Xe.YtalckpkiplhbcaaGreatDoor
open Go Go.Xe Go.Xt
set_option linter.unusedVariables false
set_option linter.unusedSimpArgs false
variable {F : FuncId → Option TFun} {O : FuncId → List TV → Option TV}
theorem binds_t (h45 : F 45 = some f45) (N : Nat) (t : PTerm) (b : Nat) (σ : Sto) : tcall F O (N + 1) b 45 [.agg (encTm t)] σ = some (.ret (.int .i64 (manyI t)), σ) := by
  refine tcall_pure h45 ?_
  unfold manyI
  by_cases k9 : t.kind = 9
  · rw [if_neg (by omega), if_pos k9]; simp [x45, undT, encTm_def, k9]
  by_cases k7 : t.kind = 7
  case neg => rw [if_neg k7, if_neg k9]; simp [x45, undT, encTm_def, k9, k7]
  rw [if_pos k7]
  by_cases h1 : t.m < 0
  · rw [show min (max t.m 0) 4 = 0 by omega]; simp [x45, undT, encTm_def, k7, h1]
  by_cases h2 : 4 < t.m
  · rw [show min (max t.m 0) 4 = 4 by omega]; simp [x45, undT, encTm_def, k7, h1, h2]
  · rw [show min (max t.m 0) 4 = t.m by omega]; simp [x45, undT, encTm_def, k7, h1, h2]
theorem slots_stop {n : Int} {j : Nat} (h : 9223372036854775807 < n + (j : Int)) : ∀ k, j ≤ k → slotsB n k = slotsB n j
  | 0, hk => by rw [show j = 0 by omega]
  | k + 1, hk => by
    by_cases hj : j = k + 1
    · rw [hj]
    · have := slots_stop h k (by omega)
      simp only [slotsB]
      rw [if_neg (by omega), List.append_nil, this]
theorem slots_mono {n s : Int} {j k : Nat} (h : s ∈ slotsB n j) (hk : j ≤ k) : s ∈ slotsB n k := by
  induction k with
  | zero => rw [show j = 0 by omega] at h; exact h
  | succ k ih =>
    by_cases hj : j = k + 1
    · rw [hj] at h; exact h
    · simp only [slotsB, List.mem_append]
      exact .inl (ih (by omega))
theorem among_t (h46 : F 46 = some f46) (N : Nat) (s n : Int) (hn : I64 n) (k : Nat) (hk : k ≤ 4) (hN : 5 ≤ N) (b : Nat) (σ : Sto) :
    tcall F O (N + 1) b 46 [.int .i64 s, .int .i64 n, .int .i64 (k : Int)] σ = some (.ret (.bool (decide (s ∈ slotsB n k))), σ) := by
  refine tcall_pure h46 ?_
  simp [x46]
  obtain ⟨I, hI⟩ : ∃ I : Nat → TAct → Sto → Prop, I = (fun j a σ' => a.df = [] ∧ σ' = σ ∧ s ∉ slotsB n j ∧ a.tm.get 0 = some (.int .i64 s) ∧ a.tm.get 1 = some (.int .i64 n) ∧ a.tm.get 2 = some (.int .i64 (k : Int)) ∧ a.tm.get 7 = some (.int .i64 (j : Int))) := ⟨_, rfl⟩
  obtain ⟨R, hR⟩ : ∃ R : TEx → TAct → Sto → Prop, R = (fun ex a σ' => a.df = [] ∧ σ' = σ ∧ (ex = .exit 0 ∧ s ∉ slotsB n k ∨ ex = .ret ∧ a.tm.get 6 = some (.bool (decide (s ∈ slotsB n k))))) := ⟨_, rfl⟩
  refine tw_loop I k R ?_ (by omega) ?_ ?_ ?_
  · rw [hI]
    exact ⟨rfl, rfl, by simp [slotsB], by simp, by simp, by simp, by simp⟩
  · rw [hI]
    rintro j ⟨tm, df, clk⟩ σ' hj ⟨rfl, rfl, hd, h0, h1, h2, h7⟩
    rw [← hI]
    have hw := wrapJ (n := 4) (j := j) (by omega) (by unfold maxLen; omega)
    have hw2 : IntKind.i64.wrap (9223372036854775807 - (j : Int)) = 9223372036854775807 - (j : Int) := by rw [wrap_in] <;> omega
    unfold I64 at hn
    by_cases ho : 9223372036854775807 - (j : Int) < n
    · simp [h0, h1, h2, h7, hj, hw2, ho]
      rw [hR]
      have e1 := slots_stop (n := n) (j := j) (by omega) k (by omega)
      exact ⟨rfl, rfl, .inr ⟨rfl, by rw [e1, decide_eq_false hd]; simp⟩⟩
    have hw3 : IntKind.i64.wrap (n + (j : Int)) = n + (j : Int) := by rw [wrap_in] <;> omega
    have e2 : slotsB n (j + 1) = slotsB n j ++ [n + (j : Int)] := by simp only [slotsB]; rw [if_pos (by omega)]
    by_cases he : n + (j : Int) = s
    · have heq : (n + (j : Int) = s) = True := eq_true he
      simp [h0, h1, h2, h7, hj, hw2, ho, hw3, heq]
      rw [hR]
      have hm : s ∈ slotsB n k := slots_mono (j := j + 1) (by rw [e2]; simp [he]) (by omega)
      exact ⟨rfl, rfl, .inr ⟨rfl, by rw [decide_eq_true hm]; simp⟩⟩
    · simp [h0, h1, h2, h7, hj, hw2, ho, hw3, he, hw]
      rw [hI]
      refine ⟨rfl, rfl, ?_, by simp [h0], by simp [h1], by simp [h2], by simp⟩
      rw [e2]
      simp only [List.mem_append, List.mem_singleton]
      rintro (h | h)
      · exact hd h
      · exact he h.symm
  · rw [hI]
    rintro ⟨tm, df, clk⟩ σ' ⟨rfl, rfl, hd, h0, h1, h2, h7⟩
    simp [h2, h7]
    rw [hR]
    exact ⟨rfl, rfl, .inl ⟨rfl, hd⟩⟩
  · rw [hR]
    rintro ex ⟨tm, df, clk⟩ σ' ⟨rfl, rfl, ⟨rfl, h⟩ | ⟨rfl, h⟩⟩
    · simp [h]
    · simp [h]
theorem belowss_snoc (b : Nat) (l : List Int) (n : Int) : below.belowss b (l.map encI ++ [[.int .i64 n]]) = true := by
  have := below_ints b (l ++ [n])
  rwa [List.map_append] at this
def putI (n : Int) : List Int → List Int
  | [] => [n]
  | x :: l => if n ≤ x then (if n < x then n :: x :: l else x :: l) else x :: putI n l
theorem putI_len (n : Int) : ∀ l, (putI n l).length ≤ l.length + 1
  | [] => Nat.le_refl _
  | x :: l => by
    have := putI_len n l
    simp only [putI]
    split
    · split <;> simp
    · simp; omega
def putR (d : Bool) (n : Int) (l : List Int) : List Int := match d with | true => l | false => putI n l
theorem put_t (h44 : F 44 = some f44) (N : Nat) (va : TV) (l : List Int) (n : Int) (b : Nat) (σ : Sto) (hv : va = .sl .fz (l.map encI)) (hl : l.length ≤ 1000000) (hN : l.length < N) :
    tcall F O (N + 1) b 44 [va, .int .i64 n] σ = some (.ret (.sl .fz ((putI n l).map encI)), σ) := by
  refine tcall_pure h44 ?_
  have hva := hv
  simp [x44, hva]
  obtain ⟨I, hI⟩ : ∃ I : Nat → TAct → Sto → Prop, I = (fun j a σ' => a.df = [] ∧ σ' = σ ∧ (∃ (L : List Int) (v : TV) (d : Bool), BldI L v ∧ L.length ≤ j + 1 ∧ (d = false → L.length ≤ j) ∧ L ++ putR d n (l.drop j) = putI n l ∧ a.tm.get 5 = some v ∧ a.tm.get 6 = some (.bool d)) ∧ a.tm.get 0 = some va ∧ a.tm.get 1 = some (.int .i64 n) ∧ a.tm.get 7 = some (.int .i64 (j : Int))) := ⟨_, rfl⟩
  obtain ⟨R, hR⟩ : ∃ R : TEx → TAct → Sto → Prop, R = (fun ex a σ' => ex = .exit 0 ∧ a.df = [] ∧ σ' = σ ∧ (∃ (L : List Int) (v : TV) (d : Bool), BldI L v ∧ L.length ≤ l.length + 1 ∧ L ++ putR d n [] = putI n l ∧ a.tm.get 5 = some v ∧ a.tm.get 6 = some (.bool d)) ∧ a.tm.get 1 = some (.int .i64 n)) := ⟨_, rfl⟩
  refine tw_loop I l.length R ?_ hN ?_ ?_ ?_
  · rw [hI]
    exact ⟨rfl, rfl, ⟨[], _, false, .nl, by simp, fun _ => by simp, rfl, by simp, by simp⟩, by simp [hva], by simp, by simp⟩
  · rw [hI]
    rintro j ⟨tm, df, clk⟩ σ' hj ⟨rfl, rfl, ⟨L, v, d, hB, hLl, hLf, hLL, h5, h6⟩, h0, h1, h7⟩
    rw [← hI]
    have hw := wrapJ hj (by unfold maxLen; omega : l.length ≤ maxLen)
    rw [List.drop_eq_getElem_cons hj] at hLL
    have hva2 := hva
    rw [hva] at h0
    skip
    have hl1 : L.length + 1 ≤ 1073741824 := by omega
    have hl2 : L.length + 1 + 1 ≤ 1073741824 := by omega
    cases d with
    | true =>
      have hLL : (L ++ [l[j]]) ++ putR true n (l.drop (j + 1)) = putI n l := by rw [← hLL]; simp only [putR]; rw [List.append_assoc]; rfl
      rcases hB with _ | _
      · simp [h0, h1, h5, h6, h7, hj, hw, undT, encI]
        rw [hI]
        exact ⟨rfl, rfl, ⟨_, _, true, .own _, by simp only [List.length_append, List.length_cons, List.length_nil] at *; omega, fun h => (by cases h), hLL, by simp [encI], by simp [h6]⟩, by simp [h0, hva], by simp [h1], by simp⟩
      · simp [h0, h1, h5, h6, h7, hj, hw, undT, encI, hl1]
        rw [hI]
        exact ⟨rfl, rfl, ⟨_, _, true, .own _, by simp only [List.length_append, List.length_cons, List.length_nil] at *; omega, fun h => (by cases h), hLL, by simp [encI], by simp [h6]⟩, by simp [h0, hva], by simp [h1], by simp⟩
    | false =>
      simp only [putR, putI] at hLL
      by_cases hle : n ≤ l[j]
      · rw [if_pos hle] at hLL
        by_cases hlt : n < l[j]
        · rw [if_pos hlt] at hLL
          have hLL : (L ++ [n] ++ [l[j]]) ++ putR true n (l.drop (j + 1)) = putI n l := by rw [← hLL]; simp only [putR]; rw [List.append_assoc, List.append_assoc]; rfl
          have hl0 : L.length ≤ j := hLf rfl
          rcases hB with _ | _
          · simp [h0, h1, h5, h6, h7, hj, hw, undT, encI, hle, hlt]
            rw [hI]
            exact ⟨rfl, rfl, ⟨_, _, true, .own _, by simp only [List.length_append, List.length_cons, List.length_nil] at *; omega, fun h => (by cases h), hLL, by simp [encI], by simp⟩, by simp [h0, hva], by simp [h1], by simp⟩
          · simp [h0, h1, h5, h6, h7, hj, hw, undT, encI, hle, hlt, hl1, hl2]
            rw [hI]
            exact ⟨rfl, rfl, ⟨_, _, true, .own _, by simp only [List.length_append, List.length_cons, List.length_nil] at *; omega, fun h => (by cases h), hLL, by simp [encI], by simp⟩, by simp [h0, hva], by simp [h1], by simp⟩
        · rw [if_neg hlt] at hLL
          have hLL : (L ++ [l[j]]) ++ putR true n (l.drop (j + 1)) = putI n l := by rw [← hLL]; simp only [putR]; rw [List.append_assoc]; rfl
          rcases hB with _ | _
          · simp [h0, h1, h5, h6, h7, hj, hw, undT, encI, hle, hlt]
            rw [hI]
            exact ⟨rfl, rfl, ⟨_, _, true, .own _, by simp only [List.length_append, List.length_cons, List.length_nil] at *; omega, fun h => (by cases h), hLL, by simp [encI], by simp⟩, by simp [h0, hva], by simp [h1], by simp⟩
          · simp [h0, h1, h5, h6, h7, hj, hw, undT, encI, hle, hlt, hl1]
            rw [hI]
            exact ⟨rfl, rfl, ⟨_, _, true, .own _, by simp only [List.length_append, List.length_cons, List.length_nil] at *; omega, fun h => (by cases h), hLL, by simp [encI], by simp⟩, by simp [h0, hva], by simp [h1], by simp⟩
      · rw [if_neg hle] at hLL
        have hLL : (L ++ [l[j]]) ++ putR false n (l.drop (j + 1)) = putI n l := by rw [← hLL]; simp only [putR]; rw [List.append_assoc]; rfl
        rcases hB with _ | _
        · simp [h0, h1, h5, h6, h7, hj, hw, undT, encI, hle]
          rw [hI]
          exact ⟨rfl, rfl, ⟨_, _, false, .own _, by simp only [List.length_append, List.length_cons, List.length_nil] at *; omega, fun _ => by have := hLf rfl; simp only [List.length_append, List.length_cons, List.length_nil] at *; omega, hLL, by simp [encI], by simp [h6]⟩, by simp [h0, hva], by simp [h1], by simp⟩
        · simp [h0, h1, h5, h6, h7, hj, hw, undT, encI, hle, hl1]
          rw [hI]
          exact ⟨rfl, rfl, ⟨_, _, false, .own _, by simp only [List.length_append, List.length_cons, List.length_nil] at *; omega, fun _ => by have := hLf rfl; simp only [List.length_append, List.length_cons, List.length_nil] at *; omega, hLL, by simp [encI], by simp [h6]⟩, by simp [h0, hva], by simp [h1], by simp⟩
  · rw [hI]
    rintro ⟨tm, df, clk⟩ σ' ⟨rfl, rfl, ⟨L, v, d, hB, hLl, hLf, hLL, h5, h6⟩, h0, h1, h7⟩
    rw [List.drop_of_length_le (Nat.le_refl _)] at hLL
    rw [hva] at h0
    simp [h0, h1, h7]
    rw [hR]
    exact ⟨rfl, rfl, rfl, ⟨L, v, d, hB, hLl, hLL, by simp [h5], by simp [h6]⟩, by simp [h1]⟩
  · rw [hR]
    rintro ex ⟨tm, df, clk⟩ σ' ⟨rfl, rfl, rfl, ⟨L, v, d, hB, hLl, hLL, h5, h6⟩, h1⟩
    have hl1 : L.length + 1 ≤ 1073741824 := by omega
    cases d with
    | true =>
      simp only [putR, List.append_nil] at hLL
      rw [← hLL]
      rcases hB with _ | _
      · simp [h5, h6]
      · simp [h5, h6]
    | false =>
      simp only [putR, putI] at hLL
      rw [← hLL]
      rcases hB with _ | _
      · simp [h1, h5, h6, encI]
      · simp [h1, h5, h6, encI, hl1, belowss_snoc]
end Go.Xe.YtalckpkiplhbcaaGreatDoor
end
section
namespace Go.Xe.YtalckpkiplhbcaaGreatDoor
open Go Go.Xe Go.Xt
set_option linter.unusedVariables false
set_option linter.unusedSimpArgs false
variable {F : FuncId → Option TFun} {O : FuncId → List TV → Option TV}
theorem putN_t (h44 : F 44 = some f44) (N : Nat) (n : Int) (b : Nat) (σ : Sto) (hN : 0 < N) :
    tcall F O (N + 1) b 44 [.sl .nl [], .int .i64 n] σ = some (.ret (.sl .fz ([n].map encI)), σ) := by
  refine tcall_pure h44 ?_
  simp [x44]
  refine tw_loop (I := fun j a σ' => a.df = [] ∧ σ' = σ ∧ a.tm.get 0 = some (.sl .nl []) ∧ a.tm.get 1 = some (.int .i64 n) ∧ a.tm.get 5 = some (.sl .nl []) ∧ a.tm.get 6 = some (.bool false) ∧ a.tm.get 7 = some (.int .i64 0)) 0
    (R := fun ex a σ' => ex = .exit 0 ∧ a.df = [] ∧ σ' = σ ∧ a.tm.get 1 = some (.int .i64 n) ∧ a.tm.get 5 = some (.sl .nl []) ∧ a.tm.get 6 = some (.bool false)) ?_ hN ?_ ?_ ?_
  · simp
  · intro j a σ' hj; omega
  · rintro ⟨tm, df, clk⟩ σ' ⟨rfl, rfl, h0, h1, h5, h6, h7⟩
    simp [h0, h1, h5, h6, h7]
  · rintro ex ⟨tm, df, clk⟩ σ' ⟨rfl, rfl, rfl, h1, h5, h6⟩
    simp [h1, h5, h6, encI]
inductive FzV : TV → List Int → Prop
  | nl : FzV (.sl .nl []) []
  | fz (l : List Int) : FzV (.sl .fz (l.map encI)) l
theorem putV_t (h44 : F 44 = some f44) (N : Nat) (va : TV) (l : List Int) (n : Int) (b : Nat) (σ : Sto) (hv : FzV va l) (hl : l.length ≤ 1000000) (hN : l.length < N) :
    tcall F O (N + 1) b 44 [va, .int .i64 n] σ = some (.ret (.sl .fz ((putI n l).map encI)), σ) := by
  cases hv with
  | nl => exact putN_t h44 N n b σ (by omega)
  | fz l => exact put_t h44 N _ l n b σ rfl hl hN
def addF (n : Int) (kk : Nat) : List Int → List Int → List Int
  | out, [] => out
  | out, s :: l => addF n kk (if s ∈ slotsB n kk then out else putI s out) l
def lastK (kk : Nat) : List PTerm → Nat
  | [] => kk
  | _ :: _ => 0
mutual
def refF : PTerm → List Int
  | .mk k n m v o ks => refFs n (manyI (.mk k n m v o ks)).toNat (if k = 2 then [n] else []) ks
def refFs (n : Int) (kk : Nat) (out : List Int) : List PTerm → List Int
  | [] => out
  | t :: l => refFs n kk (addF n (lastK kk l) out (refF t)) l
end
theorem refF_def (t : PTerm) : refF t = refFs t.n (manyI t).toNat (if t.kind = 2 then [t.n] else []) t.kids := by cases t; simp only [refF, PTerm.kind, PTerm.n, PTerm.kids]; rfl
theorem refFs_drop {n : Int} {kk : Nat} {out : List Int} {l : List PTerm} {j : Nat} (hj : j < l.length) : refFs n kk out (l.drop j) = refFs n kk (addF n (if j + 1 = l.length then kk else 0) out (refF l[j])) (l.drop (j + 1)) := by
  rw [List.drop_eq_getElem_cons hj]
  simp only [refFs]
  congr 2
  by_cases h : j + 1 = l.length
  · rw [if_pos h, List.drop_of_length_le (by omega)]; rfl
  · rw [if_neg h, List.drop_eq_getElem_cons (by omega)]; rfl
theorem addF_drop {n : Int} {kk : Nat} {out l : List Int} {j : Nat} (hj : j < l.length) : addF n kk out (l.drop j) = addF n kk (if l[j] ∈ slotsB n kk then out else putI l[j] out) (l.drop (j + 1)) := by
  rw [List.drop_eq_getElem_cons hj]; rfl
theorem addF_len (n : Int) (kk : Nat) : ∀ (l out : List Int), (addF n kk out l).length ≤ out.length + l.length
  | [], out => Nat.le_refl _
  | s :: l, out => by
    simp only [addF, List.length_cons]
    have := addF_len n kk l (if s ∈ slotsB n kk then out else putI s out)
    have h2 := putI_len s out
    split at this <;> rename_i h
    · rw [if_pos h]; omega
    · rw [if_neg h]; omega
mutual
theorem refF_len : ∀ t, (refF t).length ≤ cntT t
  | .mk k n m v o ks => by
    have := refFs_len n (manyI (.mk k n m v o ks)).toNat (if k = 2 then [n] else []) ks
    simp only [refF, cntT]
    have h2 : (if k = 2 then [n] else []).length ≤ 1 := by split <;> simp
    omega
theorem refFs_len (n : Int) (kk : Nat) (out : List Int) : ∀ l, (refFs n kk out l).length ≤ out.length + cntTs l
  | [] => Nat.le_refl _
  | t :: l => by
    simp only [refFs, cntTs]
    have h1 := refF_len t
    have h2 := addF_len n (lastK kk l) (refF t) out
    have h3 := refFs_len n kk (addF n (lastK kk l) out (refF t)) l
    omega
end
end Go.Xe.YtalckpkiplhbcaaGreatDoor
end
section
namespace Go.Xe.YtalckpkiplhbcaaGreatDoor
open Go Go.Xe Go.Xt
set_option linter.unusedVariables false
set_option linter.unusedSimpArgs false
variable {F : FuncId → Option TFun} {O : FuncId → List TV → Option TV}
def in20 : XCode := .block 2 (.loop (.seq (.seq (.region [⟨some 36, .move (.tmp 7), none⟩, ⟨some 37, .move (.tmp 6), none⟩, ⟨some 38, .lenSlice (.tmp 37), none⟩, ⟨some 39, .bin .lss (.tmp 36) (.tmp 38), none⟩]) (.cond (.tmp 39) .skip (.exit 2))) (.seq (.block 3 (.seq (.regionD [⟨some 42, .move (.tmp 6), none⟩, ⟨some 43, .move (.tmp 7), none⟩, ⟨some 44, .indexAddr 1 (.tmp 42) (.tmp 43), none⟩, ⟨some 45, .load1 (.tmp 44), none⟩, ⟨some 46, .addr 1 (.tmp 1), none⟩, ⟨some 47, .load1 (.tmp 46), none⟩, ⟨some 48, .move (.tmp 5), none⟩, ⟨some 49, .call 46 [(.tmp 45), (.tmp 47), (.tmp 48)], none⟩, ⟨some 50, .un .not (.tmp 49), none⟩] []) (.cond (.tmp 50) (.region [⟨some 51, .move (.tmp 3), none⟩, ⟨some 52, .move (.tmp 6), none⟩, ⟨some 53, .move (.tmp 7), none⟩, ⟨some 54, .indexAddr 1 (.tmp 52) (.tmp 53), none⟩, ⟨some 55, .load1 (.tmp 54), none⟩, ⟨some 56, .call 44 [(.tmp 51), (.tmp 55)], none⟩, ⟨some 3, .move (.tmp 56), none⟩]) .skip))) (.region [⟨some 40, .move (.tmp 7), none⟩, ⟨some 41, .bin .add (.tmp 40) (.const (.int .i64 1)), none⟩, ⟨some 7, .move (.tmp 41), none⟩]))))
def kd20 : XCode := .seq (.region [⟨some 5, .move (.const (.int .i64 0)), none⟩]) (.seq (.seq (.region [⟨some 22, .move (.tmp 4), none⟩, ⟨some 23, .addr 7 (.tmp 1), none⟩, ⟨some 24, .load1 (.tmp 23), none⟩, ⟨some 25, .lenSlice (.tmp 24), none⟩, ⟨some 26, .bin .sub (.tmp 25) (.const (.int .i64 1)), none⟩, ⟨some 27, .bin .eql (.tmp 22) (.tmp 26), none⟩]) (.cond (.tmp 27) (.region [⟨some 28, .loadN 8 (.tmp 1), none⟩, ⟨some 29, .call 45 [(.tmp 28)], none⟩, ⟨some 5, .move (.tmp 29), none⟩]) .skip)) (.seq (.region [⟨some 30, .addr 7 (.tmp 1), none⟩, ⟨some 31, .load1 (.tmp 30), none⟩, ⟨some 32, .move (.tmp 4), none⟩, ⟨some 33, .indexAddr 8 (.tmp 31) (.tmp 32), none⟩, ⟨some 34, .loadN 8 (.tmp 33), none⟩, ⟨some 35, .call 20 [(.tmp 34)], none⟩, ⟨some 6, .move (.tmp 35), none⟩]) (.seq (.region [⟨some 7, .move (.const (.int .i64 0)), none⟩]) in20)))
theorem x20_cut : x20 = ⟨58, [.tmp 2], .seq (.region [⟨some 1, .box 30 (.tmp 0), none⟩, ⟨some 2, .move (.const (.slice none 0 0)), none⟩]) (.seq (.region [⟨some 3, .move (.const (.slice none 0 0)), none⟩]) (.seq (.seq (.region [⟨some 8, .addr 0 (.tmp 1), none⟩, ⟨some 9, .load1 (.tmp 8), none⟩, ⟨some 10, .bin .eql (.tmp 9) (.const (.int .i64 2)), none⟩]) (.cond (.tmp 10) (.region [⟨some 11, .move (.tmp 3), none⟩, ⟨some 12, .addr 1 (.tmp 1), none⟩, ⟨some 13, .load1 (.tmp 12), none⟩, ⟨some 14, .call 44 [(.tmp 11), (.tmp 13)], none⟩, ⟨some 3, .move (.tmp 14), none⟩]) .skip)) (.seq (.seq (.region [⟨some 4, .move (.const (.int .i64 0)), none⟩]) (.block 0 (.loop (.seq (.seq (.region [⟨some 15, .move (.tmp 4), none⟩, ⟨some 16, .addr 7 (.tmp 1), none⟩, ⟨some 17, .load1 (.tmp 16), none⟩, ⟨some 18, .lenSlice (.tmp 17), none⟩, ⟨some 19, .bin .lss (.tmp 15) (.tmp 18), none⟩]) (.cond (.tmp 19) .skip (.exit 0))) (.seq (.block 1 kd20) (.region [⟨some 20, .move (.tmp 4), none⟩, ⟨some 21, .bin .add (.tmp 20) (.const (.int .i64 1)), none⟩, ⟨some 4, .move (.tmp 21), none⟩])))))) (.seq (.region [⟨some 57, .move (.tmp 3), none⟩, ⟨some 2, .move (.tmp 57), none⟩]) .ret))))⟩ := rfl
theorem in20_t {N b : Nat} (h44 : F 44 = some f44) (h46 : F 46 = some f46) (e : PTerm) (he : OkTm e) (kk : Nat) (hkk : kk ≤ 4) (hN : 20000 ≤ N) (a : TAct) (σ : Sto) (v0 : TV) (out0 L : List Int) (hv : FzV v0 out0) (hl : out0.length + L.length ≤ 10000) (v4 : TV)
    (hdf : a.df = []) (h1 : a.tm.get 1 = some (.bx 0 (encTm e) 30)) (h3 : a.tm.get 3 = some v0) (h4 : a.tm.get 4 = some v4) (h5 : a.tm.get 5 = some (.int .i64 (kk : Int))) (h6 : a.tm.get 6 = some (.sl .fz (L.map encI))) (h7 : a.tm.get 7 = some (.int .i64 0)) :
    Tw a20 b (tcall F O (N + 1)) (N + 1) (fun ex a' σ' => ex = .normal ∧ a'.df = [] ∧ σ' = σ ∧ (∃ v, FzV v (addF e.n kk out0 L) ∧ a'.tm.get 3 = some v) ∧ a'.tm.get 1 = some (.bx 0 (encTm e) 30) ∧ a'.tm.get 4 = some v4) [] (tcode a20 b (tcall F O (N + 1)) (N + 1) in20 a σ) := by
  obtain ⟨tm, df, clk⟩ := a
  simp only at hdf h1 h3 h4 h5 h6 h7
  subst hdf
  simp [in20]
  obtain ⟨I, hI⟩ : ∃ I : Nat → TAct → Sto → Prop, I = (fun j a' σ' => a'.df = [] ∧ σ' = σ ∧ (∃ v out, FzV v out ∧ addF e.n kk out (L.drop j) = addF e.n kk out0 L ∧ out.length ≤ out0.length + j ∧ a'.tm.get 3 = some v) ∧ a'.tm.get 1 = some (.bx 0 (encTm e) 30) ∧ a'.tm.get 4 = some v4 ∧ a'.tm.get 5 = some (.int .i64 (kk : Int)) ∧ a'.tm.get 6 = some (.sl .fz (L.map encI)) ∧ a'.tm.get 7 = some (.int .i64 (j : Int))) := ⟨_, rfl⟩
  obtain ⟨R, hR⟩ : ∃ R : TEx → TAct → Sto → Prop, R = (fun ex a' σ' => ex = .exit 2 ∧ a'.df = [] ∧ σ' = σ ∧ (∃ v, FzV v (addF e.n kk out0 L) ∧ a'.tm.get 3 = some v) ∧ a'.tm.get 1 = some (.bx 0 (encTm e) 30) ∧ a'.tm.get 4 = some v4) := ⟨_, rfl⟩
  refine tw_loop I L.length R ?_ (by omega) ?_ ?_ ?_
  · rw [hI]
    exact ⟨rfl, rfl, ⟨v0, out0, hv, by rw [List.drop_zero], by omega, h3⟩, h1, h4, h5, h6, by simpa using h7⟩
  · rw [hI]
    rintro j ⟨tm, df, clk⟩ σ' hj ⟨rfl, rfl, ⟨v, out, hv, hA, hlo, h3⟩, h1, h4, h5, h6, h7⟩
    rw [← hI]
    have hw := wrapJ hj (by unfold maxLen; omega)
    rw [addF_drop hj] at hA
    have hcm := among_t (O := O) h46 N L[j] e.n he.n kk hkk (by omega) b σ'
    have hpt := putV_t (O := O) h44 N v out L[j] b σ' hv (by omega) (by omega)
    have hpl := putI_len L[j] out
    have h1' := h1
    rw [encTm_def] at h1
    have hej : (L.map encI)[j]? = some [.int .i64 L[j]] := by rw [List.getElem?_map, List.getElem?_eq_getElem hj]; rfl
    by_cases hm : L[j] ∈ slotsB e.n kk
    · rw [decide_eq_true hm] at hcm
      rw [if_pos hm] at hA
      simp [h1, h3, h4, h5, h6, h7, hj, hw, hcm, encI]
      rw [hI]
      exact ⟨rfl, rfl, ⟨v, out, hv, hA, by omega, by simp [h3]⟩, by simp [h1'], by simp [h4], by simp [h5], by simp [h6], by simp⟩
    · rw [decide_eq_false hm] at hcm
      rw [if_neg hm] at hA
      rcases hv with _ | _
      all_goals simp [h1, h3, h4, h5, h6, h7, hj, hw, hcm, hpt, encI]
      all_goals rw [hI]
      all_goals exact ⟨rfl, rfl, ⟨_, _, .fz _, hA, by omega, by simp⟩, by simp [h1'], by simp [h4], by simp [h5], by simp [h6], by simp⟩
  · rw [hI]
    rintro ⟨tm, df, clk⟩ σ' ⟨rfl, rfl, ⟨v, out, hv, hA, hlo, h3⟩, h1, h4, h5, h6, h7⟩
    rw [List.drop_of_length_le (Nat.le_refl _)] at hA
    simp [h6, h7]
    rw [hR]
    have hA : out = addF e.n kk out0 L := hA
    exact ⟨rfl, rfl, rfl, ⟨v, by rw [← hA]; exact hv, by simp [h3]⟩, by simp [h1], by simp [h4]⟩
  · rw [hR]
    rintro ex ⟨tm, df, clk⟩ σ' ⟨rfl, rfl, rfl, hv, h1, h4⟩
    simp
    exact ⟨hv, h1, h4⟩
end Go.Xe.YtalckpkiplhbcaaGreatDoor
end
section
namespace Go.Xe.YtalckpkiplhbcaaGreatDoor
open Go Go.Xe Go.Xt
set_option linter.unusedVariables false
set_option linter.unusedSimpArgs false
variable {F : FuncId → Option TFun} {O : FuncId → List TV → Option TV}
theorem free20_t (h20 : F 20 = some f20) (h44 : F 44 = some f44) (h45 : F 45 = some f45) (h46 : F 46 = some f46) : ∀ (M N : Nat) (e : PTerm) (b : Nat) (σ : Sto), szTm e ≤ M → M + 20010 ≤ N → OkTm e → cntT e ≤ 3000 →
    tcall F O N b 20 [.agg (encTm e)] σ = some (.ret (.sl .fz ((refF e).map encI)), σ)
  | 0, N, e, b, σ, h, _, _, _ => by rw [szTm_def] at h; omega
  | M + 1, N, e, b, σ, h, hN, he, hc => by
    have ih := free20_t h20 h44 h45 h46 M
    have hk := szTms_len e.kids
    have hs := szTm_def e
    have hcd := cntT_def e
    have hrd := refF_def e
    obtain ⟨N, rfl⟩ : ∃ n, N = n + 2 := ⟨N - 2, by omega⟩
    have hml := manyI_lo e
    obtain ⟨mk, hmk⟩ : ∃ mk : Nat, manyI e = (mk : Int) := ⟨(manyI e).toNat, by omega⟩
    rw [hmk, Int.toNat_natCast] at hrd
    have hbi := binds_t (O := O) h45 N e σ.length σ
    rw [hmk, encTm_def e] at hbi
    refine tcall_pure h20 ?_
    have hput := putN_t (O := O) h44 N e.n σ.length σ (by omega)
    have hlen := he.len
    unfold maxLen at hlen
    have hw1 : IntKind.i64.wrap ((e.kids.length : Int) - 1) = (e.kids.length : Int) - 1 := by rw [wrap_in] <;> omega
    obtain ⟨I, hI⟩ : ∃ I : Nat → TAct → Sto → Prop, I = (fun j a' σ' => a'.df = [] ∧ σ' = σ ∧ (∃ v out, FzV v out ∧ refFs e.n mk out (e.kids.drop j) = refF e ∧ out.length + cntTs (e.kids.drop j) ≤ 3000 ∧ a'.tm.get 3 = some v) ∧ a'.tm.get 1 = some (.bx 0 (encTm e) 30) ∧ a'.tm.get 4 = some (.int .i64 (j : Int))) := ⟨_, rfl⟩
    obtain ⟨R, hR⟩ : ∃ R : TEx → TAct → Sto → Prop, R = (fun ex a' σ' => ex = .exit 0 ∧ a'.df = [] ∧ σ' = σ ∧ (∃ v, FzV v (refF e) ∧ a'.tm.get 3 = some v)) := ⟨_, rfl⟩
    have step : ∀ j a σ', j < e.kids.length → I j a σ' → Tw a20 σ.length (tcall F O (N + 1)) (N + 1) (fun ex a σ => match ex with | .normal => I (j + 1) a σ | e => R e a σ) [] (tcode a20 σ.length (tcall F O (N + 1)) (N + 1) (.seq (.seq (.region [
    ⟨(some 15), .move (.tmp 4), none⟩,
    ⟨(some 16), .addr 7 (.tmp 1), none⟩,
    ⟨(some 17), .load1 (.tmp 16), none⟩,
    ⟨(some 18), .lenSlice (.tmp 17), none⟩,
    ⟨(some 19), .bin .lss (.tmp 15) (.tmp 18), none⟩]) (.cond (.tmp 19) .skip (.exit 0))) (.seq (.block 1 kd20) (.region [
    ⟨(some 20), .move (.tmp 4), none⟩,
    ⟨(some 21), .bin .add (.tmp 20) (.const (Go.Value.int Go.IntKind.i64 1)), none⟩,
    ⟨(some 4), .move (.tmp 21), none⟩]))) a σ') := by
      rw [hI]
      rintro j ⟨tm, df, clk⟩ σ' hj ⟨rfl, rfl, ⟨v, out, hv, hA, hlo, h3⟩, h1, h4⟩
      rw [← hI]
      have hw := wrapJ hj he.len
      have hmem := List.getElem_mem hj
      have hszk := szTms_mem _ _ hmem
      have hck := cntTs_mem _ _ hmem
      have hcc := ih (N + 1) e.kids[j] σ'.length σ' (by omega) (by omega) (he.sub _ hmem) (by omega)
      rw [refFs_drop hj] at hA
      rw [cntTs_drop hj] at hlo
      have hrl := refF_len e.kids[j]
      have h1' := h1
      rw [encTm_def] at h1 hcc
      have hfin : ∀ (kk : Nat) (a : TAct), kk ≤ 4 → kk = (if j + 1 = e.kids.length then mk else 0) → a.df = [] → a.tm.get 1 = some (.bx 0 (encTm e) 30) → a.tm.get 3 = some v → a.tm.get 4 = some (.int .i64 (j : Int)) → a.tm.get 5 = some (.int .i64 (kk : Int)) → a.tm.get 6 = some (.sl .fz ((refF e.kids[j]).map encI)) → a.tm.get 7 = some (.int .i64 0) →
          Tw a20 σ'.length (tcall F O (N + 1)) (N + 1) (fun ex a σ => match ex with | .normal => I (j + 1) a σ | e => R e a σ) [.blk 1, .seq (.region [
    ⟨(some 20), .move (.tmp 4), none⟩,
    ⟨(some 21), .bin .add (.tmp 20) (.const (Go.Value.int Go.IntKind.i64 1)), none⟩,
    ⟨(some 4), .move (.tmp 21), none⟩])] (tcode a20 σ'.length (tcall F O (N + 1)) (N + 1) in20 a σ') := by
        intro kk a hk4 hke q0 q1 q3 q4 q5 q6 q7
        apply tw_bind
        · exact in20_t h44 h46 e he kk hk4 (by omega) a σ' v out (refF e.kids[j]) hv (by omega) _ q0 q1 q3 q4 q5 q6 q7
        rintro ex ⟨tm, df, clk⟩ σ2 ⟨rfl, hdf, rfl, ⟨v2, hv2, h3⟩, h1, h4⟩
        simp only at hdf h1 h3 h4
        subst hdf
        simp [h4, hw]
        rw [hI]
        have hal := addF_len e.n kk (refF e.kids[j]) out
        exact ⟨rfl, rfl, ⟨v2, _, hv2, by rw [hke]; exact hA, by omega, by simp [h3]⟩, by simp [h1], by simp⟩
      by_cases hlast : j + 1 = e.kids.length
      · have hjl : ((j : Int) = (e.kids.length : Int) - 1) = True := eq_true (by omega)
        simp [h1, h3, h4, hj, kd20, hw1, hjl, hbi, hcc, encTm_def e.kids[j]]
        apply hfin mk _ (by omega) (by rw [if_pos hlast]) rfl
        · simp [encTm_def e, h1]
        · simp [h3]
        · simp [h4]
        · simp
        · simp
        · simp
      · have hjl : ((j : Int) = (e.kids.length : Int) - 1) = False := eq_false (by omega)
        simp [h1, h3, h4, hj, kd20, hw1, hjl, hcc, encTm_def e.kids[j]]
        apply hfin 0 _ (by omega) (by rw [if_neg hlast]) rfl
        · simp [encTm_def e, h1]
        · simp [h3]
        · simp [h4]
        · simp
        · simp
        · simp
    have stop : ∀ a σ', I e.kids.length a σ' → Tw a20 σ.length (tcall F O (N + 1)) (N + 1) (fun ex a σ => match ex with | .normal => False | e => R e a σ) [] (tcode a20 σ.length (tcall F O (N + 1)) (N + 1) (.seq (.seq (.region [
    ⟨(some 15), .move (.tmp 4), none⟩,
    ⟨(some 16), .addr 7 (.tmp 1), none⟩,
    ⟨(some 17), .load1 (.tmp 16), none⟩,
    ⟨(some 18), .lenSlice (.tmp 17), none⟩,
    ⟨(some 19), .bin .lss (.tmp 15) (.tmp 18), none⟩]) (.cond (.tmp 19) .skip (.exit 0))) (.seq (.block 1 kd20) (.region [
    ⟨(some 20), .move (.tmp 4), none⟩,
    ⟨(some 21), .bin .add (.tmp 20) (.const (Go.Value.int Go.IntKind.i64 1)), none⟩,
    ⟨(some 4), .move (.tmp 21), none⟩]))) a σ') := by
      rw [hI]
      rintro ⟨tm, df, clk⟩ σ' ⟨rfl, rfl, ⟨v, out, hv, hA, hlo, h3⟩, h1, h4⟩
      rw [List.drop_of_length_le (Nat.le_refl _)] at hA
      have hA : out = refF e := hA
      rw [encTm_def] at h1
      simp [h1, h4]
      rw [hR]
      exact ⟨rfl, rfl, rfl, v, by rw [← hA]; exact hv, by simp [h3]⟩
    have next : ∀ ex a σ', R ex a σ' → ex = .exit 0 ∧ a.df = [] ∧ σ' = σ ∧ ∃ v, FzV v (refF e) ∧ a.tm.get 3 = some v := by
      rw [hR]
      intro ex a σ' h; exact h
    by_cases k2 : e.kind = 2
    · rw [if_pos k2] at hrd
      simp [x20_cut, encTm_def e, k2, hput]
      refine tw_loop I e.kids.length R ?_ (by omega) step stop ?_
      · rw [hI]
        exact ⟨rfl, rfl, ⟨_, [e.n], .fz _, by rw [List.drop_zero, hrd], by rw [List.drop_zero]; simp; omega, by simp⟩, by simp [encTm_def e, k2], by simp⟩
      · intro ex a σ' h
        obtain ⟨rfl, hdf, rfl, v, hv, h3⟩ := next ex a σ' h
        obtain ⟨tm, df, clk⟩ := a
        simp only at hdf h3
        subst hdf
        generalize refF e = L at hv
        rcases hv with _ | _
        · simp [h3]
        · simp [h3]
    · rw [if_neg k2] at hrd
      simp [x20_cut, encTm_def e, k2]
      refine tw_loop I e.kids.length R ?_ (by omega) step stop ?_
      · rw [hI]
        exact ⟨rfl, rfl, ⟨_, [], .nl, by rw [List.drop_zero, hrd], by rw [List.drop_zero]; simp; omega, by simp⟩, by simp [encTm_def e], by simp⟩
      · intro ex a σ' h
        obtain ⟨rfl, hdf, rfl, v, hv, h3⟩ := next ex a σ' h
        obtain ⟨tm, df, clk⟩ := a
        simp only at hdf h3
        subst hdf
        generalize refF e = L at hv
        rcases hv with _ | _
        · simp [h3]
        · simp [h3]
end Go.Xe.YtalckpkiplhbcaaGreatDoor
end
section
namespace Go.Xe.YtalckpkiplhbcaaGreatDoor
open Go Go.Xe Go.Xt
set_option linter.unusedVariables false
set_option linter.unusedSimpArgs false
abbrev Inc (l : List Int) : Prop := List.Pairwise (· < ·) l
theorem inc_ext : ∀ (l m : List Int), Inc l → Inc m → (∀ x, x ∈ l ↔ x ∈ m) → l = m
  | [], [], _, _, _ => rfl
  | [], b :: m, _, _, h => absurd ((h b).2 (by simp)) (by simp)
  | a :: l, [], _, _, h => absurd ((h a).1 (by simp)) (by simp)
  | a :: l, b :: m, hl, hm, h => by
    obtain ⟨hl1, hl2⟩ := List.pairwise_cons.1 hl
    obtain ⟨hm1, hm2⟩ := List.pairwise_cons.1 hm
    have hab : a = b := by
      rcases List.mem_cons.1 ((h a).1 (by simp)) with e | e
      · exact e
      · rcases List.mem_cons.1 ((h b).2 (by simp)) with e' | e'
        · exact e'.symm
        · have := hm1 a e
          have := hl1 b e'
          omega
    subst hab
    rw [inc_ext l m hl2 hm2 fun x => ⟨fun hx => ?_, fun hx => ?_⟩]
    · rcases List.mem_cons.1 ((h x).1 (by simp [hx])) with e | e
      · have := hl1 x hx; omega
      · exact e
    · rcases List.mem_cons.1 ((h x).2 (by simp [hx])) with e | e
      · have := hm1 x hx; omega
      · exact e
theorem putI_mem (n x : Int) : ∀ l, x ∈ putI n l ↔ x = n ∨ x ∈ l
  | [] => by simp [putI]
  | a :: l => by
    have ih := putI_mem n x l
    simp only [putI]
    split
    · split
      · simp
      · have : n = a := by omega
        subst this
        simp
    · simp only [List.mem_cons, ih]
      constructor
      · rintro (h | h | h)
        · exact .inr (.inl h)
        · exact .inl h
        · exact .inr (.inr h)
      · rintro (h | h | h)
        · exact .inr (.inl h)
        · exact .inl h
        · exact .inr (.inr h)
theorem putI_inc (n : Int) : ∀ l, Inc l → Inc (putI n l)
  | [], _ => by simp [putI]
  | a :: l, h => by
    obtain ⟨h1, h2⟩ := List.pairwise_cons.1 h
    have ih := putI_inc n l h2
    simp only [putI]
    split
    · split
      · rename_i _ hlt
        refine List.pairwise_cons.2 ⟨fun x hx => ?_, h⟩
        rcases List.mem_cons.1 hx with rfl | hx
        · exact hlt
        · have := h1 x hx; omega
      · exact h
    · refine List.pairwise_cons.2 ⟨fun x hx => ?_, ih⟩
      rcases (putI_mem n x l).1 hx with rfl | hx
      · omega
      · exact h1 x hx
theorem addF_inc (n : Int) (kk : Nat) : ∀ l out, Inc out → Inc (addF n kk out l)
  | [], out, h => h
  | s :: l, out, h => by
    simp only [addF]
    refine addF_inc n kk l _ ?_
    split
    · exact h
    · exact putI_inc s out h
theorem addF_mem (n : Int) (kk : Nat) (x : Int) : ∀ l out, x ∈ addF n kk out l ↔ x ∈ out ∨ (x ∈ l ∧ x ∉ slotsB n kk)
  | [], out => by simp [addF]
  | s :: l, out => by
    simp only [addF]
    rw [addF_mem n kk x l]
    by_cases h : s ∈ slotsB n kk
    · rw [if_pos h]
      constructor
      · rintro (h1 | ⟨h1, h2⟩)
        · exact .inl h1
        · exact .inr ⟨by simp [h1], h2⟩
      · rintro (h1 | ⟨h1, h2⟩)
        · exact .inl h1
        · rcases List.mem_cons.1 h1 with rfl | h1
          · exact absurd h h2
          · exact .inr ⟨h1, h2⟩
    · rw [if_neg h, putI_mem]
      constructor
      · rintro ((rfl | h1) | ⟨h1, h2⟩)
        · exact .inr ⟨by simp, h⟩
        · exact .inl h1
        · exact .inr ⟨by simp [h1], h2⟩
      · rintro (h1 | ⟨h1, h2⟩)
        · exact .inl (.inr h1)
        · rcases List.mem_cons.1 h1 with rfl | h1
          · exact .inl (.inl rfl)
          · exact .inr ⟨h1, h2⟩
theorem refFs_inc (n : Int) (kk : Nat) : ∀ l out, Inc out → Inc (refFs n kk out l)
  | [], out, h => h
  | t :: l, out, h => by
    simp only [refFs]
    exact refFs_inc n kk l _ (addF_inc n _ _ _ h)
theorem refF_inc (t : PTerm) : Inc (refF t) := by
  rw [refF_def]
  refine refFs_inc _ _ _ _ ?_
  split <;> simp
def memK (S : List Int) (x : Int) : List PTerm → Prop
  | [] => False
  | t :: l => (x ∈ refF t ∧ (l = [] → x ∉ S)) ∨ memK S x l
theorem refFs_mem (n : Int) (kk : Nat) (x : Int) : ∀ l out, x ∈ refFs n kk out l ↔ x ∈ out ∨ memK (slotsB n kk) x l
  | [], out => by simp [refFs, memK]
  | t :: l, out => by
    simp only [refFs, memK]
    rw [refFs_mem n kk x l, addF_mem]
    cases l with
    | nil =>
      simp only [lastK, true_implies, or_assoc]
    | cons y l =>
      have : slotsB n 0 = [] := rfl
      simp only [lastK, this, List.not_mem_nil, not_false_eq_true, and_true, reduceCtorEq, false_implies, or_assoc]
theorem not_mem_append {x : Int} {l m : List Int} : x ∉ l ++ m ↔ x ∉ l ∧ x ∉ m := by simp
mutual
theorem freeC_mem (x : Int) : ∀ (t : PTerm) (bd : List Int), x ∈ freeC bd t ↔ x ∈ refF t ∧ x ∉ bd
  | .mk k n m v o ks, bd => by
    have ih := freeCs_mem x ks bd (slotsB n (manyI (.mk k n m v o ks)).toNat)
    simp only [freeC, refF, List.mem_append]
    have e : innerB bd (.mk k n m v o ks) = bd ++ slotsB n (manyI (.mk k n m v o ks)).toNat := rfl
    rw [e, ih, refFs_mem]
    by_cases hk : k = 2
    · rw [if_pos hk]
      by_cases hb : n ∈ bd
      · rw [if_neg (fun h => h.2 hb)]
        constructor
        · rintro (h | ⟨h1, h2⟩)
          · cases h
          · exact ⟨.inr h1, h2⟩
        · rintro ⟨h1 | h1, h2⟩
          · simp at h1; subst h1; exact absurd hb h2
          · exact .inr ⟨h1, h2⟩
      · rw [if_pos ⟨hk, hb⟩]
        constructor
        · rintro (h | ⟨h1, h2⟩)
          · simp at h; subst h; exact ⟨.inl (by simp), hb⟩
          · exact ⟨.inr h1, h2⟩
        · rintro ⟨h1 | h1, h2⟩
          · exact .inl h1
          · exact .inr ⟨h1, h2⟩
    · rw [if_neg hk, if_neg (fun h => hk h.1)]
      simp
theorem freeCs_mem (x : Int) : ∀ (l : List PTerm) (bd S : List Int), x ∈ freeCs bd (bd ++ S) l ↔ memK S x l ∧ x ∉ bd
  | [], bd, S => by simp [freeCs, memK]
  | t :: l, bd, S => by
    simp only [freeCs, memK, List.mem_append]
    rw [freeC_mem x t, freeCs_mem x l]
    cases l with
    | nil =>
      simp only [lastB, memK, not_mem_append, true_implies, false_and, or_false]
      exact ⟨fun ⟨h1, h2, h3⟩ => ⟨⟨h1, h3⟩, h2⟩, fun ⟨⟨h1, h3⟩, h2⟩ => ⟨h1, h2, h3⟩⟩
    | cons y l =>
      simp only [lastB, reduceCtorEq, false_implies, and_true]
      constructor
      · rintro (⟨h1, h2⟩ | ⟨h1, h2⟩)
        · exact ⟨.inl h1, h2⟩
        · exact ⟨.inr h1, h2⟩
      · rintro ⟨h1 | h1, h2⟩
        · exact .inl ⟨h1, h2⟩
        · exact .inr ⟨h1, h2⟩
end
theorem compactZ_mem (x : Int) : ∀ l, x ∈ compactZ l ↔ x ∈ l
  | [] => by unfold compactZ; rfl
  | [a] => by unfold compactZ; rfl
  | a :: b :: l => by
    have ih := compactZ_mem x (b :: l)
    rw [compactZ]
    split
    · rename_i h
      subst h
      rw [ih]; simp
    · simp only [List.mem_cons] at ih ⊢
      rw [ih]
theorem compactZ_inc : ∀ l, List.Pairwise (fun x y : Int => x ≤ y) l → Inc (compactZ l)
  | [], _ => by unfold compactZ; simp
  | [a], _ => by unfold compactZ; simp
  | a :: b :: l, h => by
    obtain ⟨h1, h2⟩ := List.pairwise_cons.1 h
    have ih := compactZ_inc (b :: l) h2
    rw [compactZ]
    split
    · exact ih
    · rename_i hab
      refine List.pairwise_cons.2 ⟨fun x hx => ?_, ih⟩
      have hx := (compactZ_mem x (b :: l)).1 hx
      have hb := h1 b (by simp)
      rcases List.mem_cons.1 hx with rfl | hx
      · omega
      · have := (List.pairwise_cons.1 h2).1 x hx
        omega
theorem sortZ_mem (x : Int) (l : List Int) : x ∈ sortZ l ↔ x ∈ l := by unfold sortZ; simp
theorem sortZ_sorted (l : List Int) : List.Pairwise (fun x y : Int => x ≤ y) (sortZ l) := by
  unfold sortZ
  have := List.pairwise_mergeSort (le := fun x y : Int => decide (x ≤ y)) (fun a b c h1 h2 => by simp at *; omega) (fun a b => by simp; omega) l
  refine this.imp ?_
  intro a b h; simpa using h
theorem free_law (t : PTerm) : compactZ (sortZ (freeC [] t)) = refF t := by
  refine inc_ext _ _ (compactZ_inc _ (sortZ_sorted _)) (refF_inc t) fun x => ?_
  rw [compactZ_mem, sortZ_mem, freeC_mem]
  simp
end Go.Xe.YtalckpkiplhbcaaGreatDoor
end
section
namespace Go.Xe.YtalckpkiplhbcaaGreatDoor
open Go Go.Xe Go.Xt
set_option linter.unusedVariables false
set_option linter.unusedSimpArgs false
def FT (f : FuncId) : Option TFun :=
  if f = 5 then some f5 else if f = 7 then some f7 else if f = 15 then some f15 else if f = 16 then some f16 else if f = 17 then some f17 else if f = 18 then some f18 else if f = 19 then some f19 else if f = 20 then some f20 else if f = 21 then some f21
  else if f = 22 then some f22 else if f = 24 then some f24 else if f = 25 then some f25 else if f = 41 then some f41 else if f = 44 then some f44 else if f = 45 then some f45 else if f = 46 then some f46 else if f = 66 then some f66 else if f = 67 then some f67
  else if f = 111 then some f111 else none
def OT (f : FuncId) (args : List TV) : Option TV :=
  if f = 42 then some (.agg []) else if f = 43 then some (.agg [.bool true]) else
  match args with
  | [] => if f = 8 then some (.bool true) else none
  | _ => none
theorem rowO : RowO FT OT := ⟨by decide, by decide, fun args => rfl, fun args => rfl⟩
theorem awake_t (N b : Nat) (σ : Sto) : tcall FT OT (N + 1) b 8 [] σ = some (.ret (.bool true), σ) := by
  have h : FT 8 = none := by decide
  have h2 : OT 8 [] = some (.bool true) := rfl
  simp only [tcall, h, h2, tEnd, markT, isDeadT]
set_option maxHeartbeats 8000000 in
theorem coreParts_t (e : PTerm) (he : OkTm e) (hsm : Sm reachBytes (encTm e)) (K : Nat) (hK : szTm e + 100012 ≤ K) : ∃ σ', tcall FT OT (K + 1) 0 5 [.agg (encTm e)] [] = some (.ret (.bool true), σ') := by
  refine ⟨[], ?_⟩
  obtain ⟨K, rfl⟩ : ∃ k, K = k + 2 := ⟨K - 2, by omega⟩
  obtain ⟨r, hf, hr⟩ := fewTerms_t (O := OT) (F := FT) rfl rfl rfl rfl (K + 1) e 0 [] (by omega) he hsm
  have h5 : FT 5 = some f5 := rfl
  refine tcall_pure h5 ?_
  have haw := awake_t (K + 1) 0 []
  have e1 : (encTm e).length = 8 := by rw [encTm_def]; rfl
  have e2 : (encTm e).take 8 = encTm e := List.take_of_length_le (by omega)
  have e3 : (encTm e).any isOwn = false := by rw [encTm_def]; rfl
  have e4 : onesT (encTm e) = true := by rw [encTm_def]; rfl
  cases r with
  | false =>
    generalize encTm e = E at hf e1 e2 e3 e4
    simp [x5, e1, e2, e3, e4, hf, haw]
  | true =>
    have hc := hr rfl
    have s1 := sites17_t (O := OT) (F := FT) rfl (K + 2) e 0 [] (by omega) he hc
    have s2 := sites18_t (O := OT) (F := FT) rfl (K + 2) e 0 [] (by omega) he hc
    have hsl := sitesL_len e
    have s3 : tcall FT OT (K + 2) 0 16 _ [] = _ := ints_t (O := OT) (F := FT) rfl (K + 1) _ (sitesL e) 0 [] (.fz _) (by unfold maxLen; omega) (by omega)
    obtain ⟨v, σ1, s4, hv, hgv, hgr⟩ := free19_t (O := OT) (F := FT) rfl rfl rfl rfl rfl rowO (K + 1) e 0 [] (by omega) he hc (Nat.le_refl _)
    have s4 : tcall FT OT (K + 2) 0 19 _ [] = _ := s4
    have s5 := free20_t (O := OT) (F := FT) rfl rfl rfl rfl (szTm e) (K + 2) e 0 σ1 (Nat.le_refl _) (by omega) he hc
    have hrl := refF_len e
    rw [free_law] at hv
    have s6 : tcall FT OT (K + 2) 0 16 _ σ1 = _ := ints_t (O := OT) (F := FT) rfl (K + 1) v (refF e) 0 σ1 hv (by unfold maxLen; omega) (by omega)
    have s7 := size21_t (O := OT) (F := FT) rfl (K + 2) e 0 σ1 (by omega) he hc
    have s8 := size22_t (O := OT) (F := FT) rfl (K + 2) e 0 σ1 (by omega) he hc
    have haw1 : tcall FT OT (K + 2) 0 8 [] σ1 = _ := awake_t (K + 1) 0 σ1
    clear hc hr hsl hrl hgr
    generalize (cntT e : Int) = C at s7 s8
    generalize refF e = L at s5 s6 hv
    generalize encTm e = E at hf e1 e2 e3 e4 s1 s2 s4 s5 s7 s8
    generalize (sitesL e).map encI = S at s1 s2 s3
    generalize L.map encI = R at s5 s6
    rcases hv with _ | _ | _
    · simp (maxSteps := 3000000) [x5, e1, e2, e3, e4, hf, s1, s2, s3, s4, s5, s6, s7, s8, haw1]
    · simp (maxSteps := 3000000) [x5, e1, e2, e3, e4, hf, s1, s2, s3, s4, s5, s6, s7, s8, haw1]
    · simp (maxSteps := 3000000) [x5, e1, e2, e3, e4, hf, s1, s2, s3, s4, s5, s6, s7, s8, haw1]
end Go.Xe.YtalckpkiplhbcaaGreatDoor
end
section
namespace Go.Proofs
open Go.Shelf
def Tryz.lays137_ren : Go.Shelf.Ren := ⟨fun | 137 => 186 | 217 => 193 | 266 => 199 | n => n, fun | 9 => 9 | 5 => 5 | 3 => 3 | n => n, fun | n => n⟩
theorem Tryz.lays137 : Go.Proofs.Lays.n137 Tryz.prog Tryz.lays137_ren := {
  mixed := by kernel_rfl
  f137 := Tryz.func186.trans (congrArg some (by kernel_rfl))
  f217 := Tryz.func193.trans (congrArg some (by kernel_rfl))
  f266 := Tryz.func199.trans (congrArg some (by kernel_rfl))
  t3 := Tryz.underlying3
  a3 := Tryz.isAgg3
  z3 := Tryz.sizeOf3
  v3 := Tryz.zeroValue3
  t5 := Tryz.underlying5
  a5 := Tryz.isAgg5
  z5 := Tryz.sizeOf5
  v5 := Tryz.zeroValue5
  t9 := Tryz.underlying9
  a9 := Tryz.isAgg9
  z9 := Tryz.sizeOf9
  v9 := Tryz.zeroValue9 }
open Go.RowKit in
theorem Tryz.strings_IndexByte (s : ByteArray) (c : Int) (w : World) :
    Calls Tryz.prog 186 #[.string s, .int .u8 c] w fun e w' => e = .returned (.int .i64 (Lib.indexByte s.data.toList c.toNat.toUInt8)) ∧ w' = w := Any.strings_IndexByte Tryz.lays137 s c w
open Go.RowKit Go.Lib in
open Go.RowKit Go.Lib in
open Go.RowKit Go.Lib in
open Go.RowKit Go.Lib in
open Go.RowKit Go.Lib in
open Go.RowKit Go.Lib in
open Go.RowKit Go.Lib in
open Go.RowKit Go.Lib in
open Go.RowKit Go.Lib in
open Go.RowKit Go.Lib in
open Go.RowKit Go.Lib in
open Go.RowKit Go.Lib in
def Tryz.laysM144_ren : Go.Shelf.Ren := ⟨fun | 144 => 168 | 143 => 184 | 219 => 191 | 217 => 193 | 225 => 196 | 224 => 197 | 267 => 198 | 266 => 199 | 314 => 200 | n => n, fun | 9 => 9 | 4 => 4 | 3 => 3 | 5 => 5 | 46 => 114 | 146 => 235 | 51 => 169 | n => n, fun | 1 => 1 | n => n⟩
theorem Tryz.laysM144 : Go.Proofs.LaysM.n144 Tryz.prog Tryz.laysM144_ren := {
  mixed := by kernel_rfl
  f143 := Tryz.func184.trans (congrArg some (by kernel_rfl))
  f144 := Tryz.func168.trans (congrArg some (by kernel_rfl))
  f217 := Tryz.func193.trans (congrArg some (by kernel_rfl))
  f219 := Tryz.func191.trans (congrArg some (by kernel_rfl))
  f224 := Tryz.func197.trans (congrArg some (by kernel_rfl))
  f225 := Tryz.func196.trans (congrArg some (by kernel_rfl))
  f266 := Tryz.func199.trans (congrArg some (by kernel_rfl))
  f267 := Tryz.func198.trans (congrArg some (by kernel_rfl))
  f314 := Tryz.func200.trans (congrArg some (by kernel_rfl))
  t3 := Tryz.underlying3
  a3 := Tryz.isAgg3
  z3 := Tryz.sizeOf3
  v3 := Tryz.zeroValue3
  t4 := Tryz.underlying4
  a4 := Tryz.isAgg4
  z4 := Tryz.sizeOf4
  v4 := Tryz.zeroValue4
  t5 := Tryz.underlying5
  a5 := Tryz.isAgg5
  z5 := Tryz.sizeOf5
  v5 := Tryz.zeroValue5
  t9 := Tryz.underlying9
  a9 := Tryz.isAgg9
  z9 := Tryz.sizeOf9
  v9 := Tryz.zeroValue9
  t46 := Tryz.underlying114
  a46 := Tryz.isAgg114
  z46 := Tryz.sizeOf114
  v46 := Tryz.zeroValue114
  t51 := Tryz.underlying169
  a51 := Tryz.isAgg169
  z51 := Tryz.sizeOf169
  v51 := Tryz.zeroValue169
  t146 := Tryz.underlying235
  a146 := Tryz.isAgg235
  z146 := Tryz.sizeOf235
  v146 := Tryz.zeroValue235
  g1 := by kernel_rfl
  i3 := by kernel_rfl
  i4 := by kernel_rfl
  i5 := by kernel_rfl
  i9 := by kernel_rfl
  i46 := by kernel_rfl
  i51 := by kernel_rfl
  i146 := by kernel_rfl
  m1 := by kernel_rfl
  s1_3 := fun w h => Go.Proofs.cell_of_shapedOpen_int (zero := #[.int .i64 0]) (t := 3) h (of_decide_eq_true (by kernel_rfl)) (by kernel_rfl) rfl (by kernel_rfl) (by kernel_rfl) Tryz.underlying3 }
open Go.RowKit Go.Lib in
theorem Tryz.strings_Contains_shaped (s sub : ByteArray) (w : World) (h : w.ShapedOpen Tryz.prog) (hs : s.size < 4294967281) :
    Calls Tryz.prog 168 #[.string s, .string sub] w fun e w' => e = .returned (.bool (Lib.contains s.data.toList sub.data.toList)) ∧ w' = w := Any.strings_Contains_shaped Tryz.laysM144 s sub w h hs
def Tryz.lays189_ren : Go.Shelf.Ren := ⟨fun | 189 => 42 | 125 => 69 | 257 => 68 | 128 => 121 | 129 => 122 | 294 => 112 | 295 => 113 | 296 => 114 | 297 => 115 | 298 => 116 | 299 => 117 | 216 => 118 | 300 => 119 | 301 => 120 | 328 => 160 | 329 => 161 | 330 => 162 | 331 => 163 | 332 => 164 | 215 => 165 | 343 => 183 | n => n, fun | 28 => 27 | 3 => 3 | 46 => 114 | 0 => 0 | 51 => 169 | 53 => 171 | 4 => 4 | 183 => 161 | 182 => 160 | 131 => 166 | 5 => 5 | 9 => 9 | 218 => 206 | 222 => 210 | 228 => 224 | 229 => 225 | n => n, fun | n => n⟩
theorem Tryz.lays189 : Go.Proofs.Lays.n189 Tryz.prog Tryz.lays189_ren := {
  mixed := by kernel_rfl
  f125 := Tryz.func69.trans (congrArg some (by kernel_rfl))
  f128 := Tryz.func121.trans (congrArg some (by kernel_rfl))
  f129 := Tryz.func122.trans (congrArg some (by kernel_rfl))
  f189 := Tryz.func42.trans (congrArg some (by kernel_rfl))
  f215 := Tryz.func165.trans (congrArg some (by kernel_rfl))
  f216 := Tryz.func118.trans (congrArg some (by kernel_rfl))
  f257 := Tryz.func68.trans (congrArg some (by kernel_rfl))
  f294 := Tryz.func112.trans (congrArg some (by kernel_rfl))
  f295 := Tryz.func113.trans (congrArg some (by kernel_rfl))
  f296 := Tryz.func114.trans (congrArg some (by kernel_rfl))
  f297 := Tryz.func115.trans (congrArg some (by kernel_rfl))
  f298 := Tryz.func116.trans (congrArg some (by kernel_rfl))
  f299 := Tryz.func117.trans (congrArg some (by kernel_rfl))
  f300 := Tryz.func119.trans (congrArg some (by kernel_rfl))
  f301 := Tryz.func120.trans (congrArg some (by kernel_rfl))
  f328 := Tryz.func160.trans (congrArg some (by kernel_rfl))
  f329 := Tryz.func161.trans (congrArg some (by kernel_rfl))
  f330 := Tryz.func162.trans (congrArg some (by kernel_rfl))
  f331 := Tryz.func163.trans (congrArg some (by kernel_rfl))
  f332 := Tryz.func164.trans (congrArg some (by kernel_rfl))
  f343 := Tryz.func183.trans (congrArg some (by kernel_rfl))
  t0 := Tryz.underlying0
  a0 := Tryz.isAgg0
  z0 := Tryz.sizeOf0
  v0 := Tryz.zeroValue0
  t3 := Tryz.underlying3
  a3 := Tryz.isAgg3
  z3 := Tryz.sizeOf3
  v3 := Tryz.zeroValue3
  t4 := Tryz.underlying4
  a4 := Tryz.isAgg4
  z4 := Tryz.sizeOf4
  v4 := Tryz.zeroValue4
  t5 := Tryz.underlying5
  a5 := Tryz.isAgg5
  z5 := Tryz.sizeOf5
  v5 := Tryz.zeroValue5
  t9 := Tryz.underlying9
  a9 := Tryz.isAgg9
  z9 := Tryz.sizeOf9
  v9 := Tryz.zeroValue9
  t28 := Tryz.underlying27
  a28 := Tryz.isAgg27
  z28 := Tryz.sizeOf27
  v28 := Tryz.zeroValue27
  t46 := Tryz.underlying114
  a46 := Tryz.isAgg114
  z46 := Tryz.sizeOf114
  v46 := Tryz.zeroValue114
  t51 := Tryz.underlying169
  a51 := Tryz.isAgg169
  z51 := Tryz.sizeOf169
  v51 := Tryz.zeroValue169
  t53 := Tryz.underlying171
  a53 := Tryz.isAgg171
  z53 := Tryz.sizeOf171
  v53 := Tryz.zeroValue171
  t131 := Tryz.underlying166
  a131 := Tryz.isAgg166
  z131 := Tryz.sizeOf166
  v131 := Tryz.zeroValue166
  t182 := Tryz.underlying160
  a182 := Tryz.isAgg160
  z182 := Tryz.sizeOf160
  v182 := Tryz.zeroValue160
  t183 := Tryz.underlying161
  a183 := Tryz.isAgg161
  z183 := Tryz.sizeOf161
  v183 := Tryz.zeroValue161
  t218 := Tryz.underlying206
  a218 := Tryz.isAgg206
  z218 := Tryz.sizeOf206
  v218 := Tryz.zeroValue206
  t222 := Tryz.underlying210
  a222 := Tryz.isAgg210
  z222 := Tryz.sizeOf210
  v222 := Tryz.zeroValue210
  t228 := Tryz.underlying224
  a228 := Tryz.isAgg224
  z228 := Tryz.sizeOf224
  v228 := Tryz.zeroValue224
  t229 := Tryz.underlying225
  a229 := Tryz.isAgg225
  z229 := Tryz.sizeOf225
  v229 := Tryz.zeroValue225 }
open Go.Sort Go.RowKit in
theorem Tryz.slices_Sort_int (blk off cap : Nat) (zs : List Int) (w : World) (hH : Holds (Value.int .i64) w blk off zs.toArray) (hblk : blk < w.heap.size) (hsz : zs.length < 4611686018427387904) :
    Calls Tryz.prog 42 #[.slice (some ⟨blk, off, none⟩) zs.length cap] w fun e w' =>
      e = .returned (.tuple #[]) ∧ ∃ n os, w' = grow (putRow (Value.int .i64) (Sort.ahead w n) blk off (zs.mergeSort fun x y => decide (x ≤ y)).toArray) os := Any.slices_Sort_int Tryz.lays189 blk off cap zs w hH hblk hsz
def Tryz.laysNm220_ren : Go.Shelf.Ren := ⟨fun | 20 => 43 | n => n, fun | 22 => 27 | 3 => 3 | 4 => 4 | 0 => 0 | n => n, fun | n => n⟩
theorem Tryz.laysNm220 : Go.Proofs.Lays2.n20 Tryz.prog Tryz.laysNm220_ren := {
  mixed := by kernel_rfl
  f20 := Tryz.func43.trans (congrArg some (by kernel_rfl))
  t0 := Tryz.underlying0
  a0 := Tryz.isAgg0
  z0 := Tryz.sizeOf0
  v0 := Tryz.zeroValue0
  t3 := Tryz.underlying3
  a3 := Tryz.isAgg3
  z3 := Tryz.sizeOf3
  v3 := Tryz.zeroValue3
  t4 := Tryz.underlying4
  a4 := Tryz.isAgg4
  z4 := Tryz.sizeOf4
  v4 := Tryz.zeroValue4
  t22 := Tryz.underlying27
  a22 := Tryz.isAgg27
  z22 := Tryz.sizeOf27
  v22 := Tryz.zeroValue27
  i3 := by kernel_rfl }
open Go.RowKit Go.Lib Go.Sort in
open Go.RowKit Go.Lib Go.Sort in
theorem Tryz.slices_Compact_int (blk off cap : Nat) (zs : List Int) (w : World) (hH : Holds (Value.int .i64) w blk off zs.toArray) (hsz : zs.length ≤ 9223372036854775807) (hcap : zs.length ≤ cap) :
    Calls Tryz.prog 43 #[.slice (some ⟨blk, off, none⟩) zs.length cap] w fun e w' => e = .returned (.slice (some ⟨blk, off, none⟩) (Lib.compact zs).length cap) ∧ ∃ q, w' = putRow (Value.int .i64) (Sort.ahead w q) blk off (Lib.compact zs ++ List.replicate (zs.length - (Lib.compact zs).length) 0).toArray := Any.slices_Compact_int Tryz.laysNm220 blk off cap zs w hH hsz hcap
open Go.RowKit Go.Lib Go.Sort in
theorem Tryz.slices_Compact_int_empty (a : Option Addr) (cap : Nat) (w : World) :
    Calls Tryz.prog 43 #[.slice a 0 cap] w fun e w' => e = .returned (.slice a 0 cap) ∧ w' = w := Any.slices_Compact_int_empty Tryz.laysNm220 a cap w
open Go.RowKit Go.Sort in
theorem Tryz.slices_Sort_int_none (p : Option Addr) (cap : Nat) (w : World) :
    Calls Tryz.prog 42 #[.slice p 0 cap] w fun e w' => e = .returned (.tuple #[]) ∧ w' = w := Any.slices_Sort_int_none Tryz.lays189 p cap w
end Go.Proofs
end
section
namespace Go.Xe.YtalckpkiplhbcaaGreatDoor
open Go Go.Xe Go.Proofs Go.RowKit
set_option linter.unusedVariables false
def orc (f : FuncId) (args : List Value) : Option Value :=
  match Nat.beq f 168, Nat.beq f 186, args with
  | true, _, [.string s, .string t] => match Nat.ble s.data.toList.length 4000000000 with
    | true => some (.bool (containsL t.data.toList s.data.toList))
    | false => none
  | _, true, [.string s, .int .u8 (.ofNat n)] => match Nat.blt n 256 with
    | true => some (.int .i64 (match findB n s.data.toList 0 with | some i => .ofNat i | none => .negSucc 0))
    | false => none
  | _, _, _ => none
noncomputable def F (f : FuncId) : Option XFun :=
  match Nat.beq f 168 || Nat.beq f 186 with
  | true => none
  | false => match Tryz.prog.funcs[f]? with
    | some fn => compFun Tryz.prog glb fn
    | none => none
theorem to168 : CallTo Tryz.prog 168 := ⟨Tryz.f168, Tryz.func168, by decide, rfl⟩
theorem to186 : CallTo Tryz.prog 186 := ⟨Tryz.f186, Tryz.func186, by decide, rfl⟩
theorem flat2 {u v : Value} (hu : ∀ φ x, VRel φ u x → x = u) (hv : ∀ φ x, VRel φ v x → x = v) (φ : Loc) (l : List Value) (h : VRels φ [u, v] l) : l = [u, v] := by
  cases h with
  | cons h1 h => cases h with
    | cons h2 h => cases h; rw [hu φ _ h1, hv φ _ h2]
theorem env : Env Tryz.prog glb F orc := by
  refine ⟨by kernel_rfl, fun f x h => ?_, fun f args v hF hO => ?_⟩
  · unfold F at h
    split at h
    · cases h
    · split at h
      · rename_i fn hfn; exact ⟨fn, hfn, h⟩
      · cases h
  · unfold orc at hO
    split at hO
    · rename_i _ s t hf
      rw [beqNat] at hf
      obtain rfl := of_decide_eq_true hf
      split at hO
      · rename_i hle
        rw [bleNat] at hle
        have hle := of_decide_eq_true hle
        cases hO
        refine OOk.still to168 rfl rfl rfl (fun φ l h => flat2 (fun φ x h => by cases h; rfl) (fun φ x h => by cases h; rfl) φ l h) fun W0 N0 φ g w hg r => ?_
        have hs : s.size < 4294967281 := by
          have : s.size = s.data.toList.length := by rw [Array.length_toList]; rfl
          omega
        have := Tryz.strings_Contains_shaped s t w (r.shaped hg) hs
        rw [← containsL_eq] at this
        exact this
      · cases hO
    · rename_i _ s n hf
      rw [beqNat] at hf
      obtain rfl := of_decide_eq_true hf
      split at hO
      · rename_i hlt
        rw [bltNat] at hlt
        have hlt := of_decide_eq_true hlt
        cases hO
        refine OOk.still to186 rfl rfl rfl (fun φ l h => flat2 (fun φ x h => by cases h; rfl) (fun φ x h => by cases h; rfl) φ l h) fun W0 N0 φ g w hg r => ?_
        have := Tryz.strings_IndexByte s (Int.ofNat n) w
        have e : (match findB n s.data.toList 0 with | some i => Int.ofNat i | none => Int.negSucc 0) = Lib.indexByte s.data.toList (Int.ofNat n).toNat.toUInt8 := by
          have hge := Lib.indexByte_ge s.data.toList n.toUInt8
          rw [findB_eq n hlt]
          show _ = Lib.indexByte s.data.toList n.toUInt8
          by_cases h : Lib.indexByte s.data.toList n.toUInt8 = -1
          · rw [if_pos h, h]; rfl
          · rw [if_neg h]
            show ((0 + (Lib.indexByte s.data.toList n.toUInt8).toNat : Nat) : Int) = _
            omega
        rw [e]
        exact this
      · cases hO
    · cases hO
theorem awake_run : fcall F orc 100000 8 [] (fun _ => none) .nil 1 isTrue = true := by kernel_rfl
theorem awake (w : World) (h : w.ShapedOpen Tryz.prog) : Calls Tryz.prog 8 #[] w fun E w' => E = .returned (.bool true) ∧ Below w.heap.size w w' :=
  closed_true_gl env (φ := fun i => if i = 0 then some (0, 0, 0) else none) (nx := 1) (fun i h => by
      have h : Nat.beq i 0 = true := h
      rw [beqNat] at h
      exact ⟨0, by simp [of_decide_eq_true h]⟩) (fun i h => by
      have : i ≠ 0 := by omega
      simp [this]) awake_run ⟨rfl, h⟩
end Go.Xe.YtalckpkiplhbcaaGreatDoor
end
section
namespace Go.Xe
open Go Go.Proofs Go.RowKit Go.Sort
set_option linter.unusedVariables false
theorem setList_get : ∀ (xs vs : List Value) (o j : Nat), o + xs.length ≤ vs.length → (setList vs o xs)[j]? = if o ≤ j ∧ j < o + xs.length then xs[j - o]? else vs[j]?
  | [], vs, o, j, h => by
    have h0 : ¬ (o ≤ j ∧ j < o + ([] : List Value).length) := by simp only [List.length_nil]; omega
    simp only [setList]; rw [if_neg h0]
  | x :: xs, vs, o, j, h => by
    simp only [List.length_cons] at h
    rw [setList, setList_get xs (vs.set o x) (o + 1) j (by simp; omega)]
    simp only [List.length_cons]
    by_cases h1 : o + 1 ≤ j ∧ j < o + 1 + xs.length
    · rw [if_pos h1, if_pos (by omega)]
      have e : j - o = (j - (o + 1)) + 1 := by omega
      rw [e, List.getElem?_cons_succ]
    · rw [if_neg h1]
      by_cases h2 : j = o
      · subst h2
        rw [if_pos (by omega), Nat.sub_self, List.getElem?_cons_zero, List.getElem?_set_self (by omega)]
      · rw [if_neg (by omega), List.getElem?_set_ne (fun e => h2 e.symm)]
theorem putCells_eq (o : Nat) (zs : List Int) (c : Array Value) (h : o + zs.length ≤ c.size) : putCells (Value.int .i64) o zs.toArray c = (setList c.toList o (encZ zs)).toArray := by
  apply Array.ext_getElem?
  intro j
  unfold putCells
  rw [Array.getElem?_mapIdx, List.getElem?_toArray (xs := setList c.toList o (encZ zs)), setList_get _ _ _ _ (by rw [encZ_len]; simpa using h), encZ_len]
  by_cases hj : o ≤ j ∧ j < o + zs.length
  · have hjc : j < c.size := by omega
    have hjz : j - o < zs.length := by omega
    rw [if_pos hj, Array.getElem?_eq_getElem hjc]
    simp only [Option.map_some, List.size_toArray, if_pos hj]
    rw [encZ, List.getElem?_map, List.getElem?_eq_getElem hjz, Option.map_some]
    congr 2
    rw [getElem!_pos _ _ (by simpa using hjz)]
    simp
  · rw [if_neg hj]
    simp only [List.size_toArray, if_neg hj]
    rw [Array.getElem?_toList]
    cases c[j]? <;> rfl
theorem row_holds {b o : Nat} {zs : List Int} {c : Array Value} {e : TypeId} {w : World} (hb : w.heap[b]? = some (.cells c e (0, 0))) (hc : (c.toList.drop o).take zs.length = encZ zs) : Holds (Value.int .i64) w b o zs.toArray := by
  intro j hj
  have hj : j < zs.length := by simpa using hj
  have h1 : ((c.toList.drop o).take zs.length)[j]? = some (.int .i64 zs[j]) := by rw [hc]; simp [encZ, hj]
  rw [List.getElem?_take_of_lt hj, List.getElem?_drop, Array.getElem?_toList] at h1
  have h2 : (zs.toArray)[j]! = zs[j] := by rw [getElem!_pos _ _ (by simpa using hj)]; simp
  rw [h2]
  constructor
  · simp [World.cell?, hb, h1]
  · simp only [World.frozen?, hb]; simp
theorem row_fits {o : Nat} {zs : List Int} {c : Array Value} (hc : (c.toList.drop o).take zs.length = encZ zs) : zs = [] ∨ o + zs.length ≤ c.size := by
  have := congrArg List.length hc
  rw [encZ_len, List.length_take, List.length_drop] at this
  have hcl : c.toList.length = c.size := Array.length_toList
  by_cases h : zs = []
  · exact .inl h
  · have : zs.length ≠ 0 := fun e => h (List.length_eq_zero_iff.1 e)
    right; omega
theorem row_gr {b o q : Nat} {zs : List Int} {c : Array Value} {e : TypeId} {w : World} {os : Array Obj} (hb : w.heap[b]? = some (.cells c e (0, 0))) (h : o + zs.length ≤ c.size) : Gr (putBlk w b (.cells (setList c.toList o (encZ zs)).toArray e (0, 0))) (grow (putRow (Value.int .i64) (Sort.ahead w q) b o zs.toArray) os) := by
  have hlt : b < w.heap.size := (Array.getElem?_eq_some_iff.1 hb).1
  refine ⟨by simp [putBlk, grow, putRow, mapBlock, Sort.ahead], fun k hk => ?_, rfl, rfl, rfl⟩
  have hk : k < w.heap.size := by simpa [putBlk] using hk
  have e1 : (grow (putRow (Value.int .i64) (Sort.ahead w q) b o zs.toArray) os).heap[k]? = (w.heap.modify b (onCells (putCells (Value.int .i64) o zs.toArray)))[k]? := by
    simp only [grow, putRow, mapBlock, Sort.ahead]
    rw [Array.getElem?_append_left (by simpa using hk)]
  rw [e1]
  simp only [putBlk]
  rw [Array.getElem?_modify, Array.getElem?_setIfInBounds]
  by_cases hbk : b = k
  · subst hbk
    rw [if_pos rfl, if_pos rfl, if_pos hlt, hb]
    simp only [Option.map_some, onCells, putCells_eq o zs c h]
  · rw [if_neg hbk, if_neg hbk]
def goC : Option Int → List Int → List Int
  | _, [] => []
  | p, x :: l => if p = some x then goC (some x) l else x :: goC (some x) l
theorem compactZ_go : ∀ (l : List Int) (x : Int), compactZ (x :: l) = x :: goC (some x) l
  | [], x => by unfold compactZ; rfl
  | y :: l, x => by
    unfold compactZ goC
    by_cases h : x = y
    · subst h
      simp only [if_true]
      rw [compactZ_go l x]
    · simp only [if_neg h, if_neg (fun e => h (Option.some.inj e) : ¬ some x = some y)]
      rw [compactZ_go l y]
theorem lib_go (zs : List Int) : ∀ (n k : Nat), k + n = zs.length → ((List.range' k n).filter (Lib.keeps zs.toArray)).map (zs.toArray[·]!) = goC (if k = 0 then none else zs[k - 1]?) (zs.drop k)
  | 0, k, h => by
    rw [List.drop_of_length_le (by omega)]
    simp [goC]
  | n + 1, k, h => by
    have hk : k < zs.length := by omega
    have ih := lib_go zs n (k + 1) (by omega)
    rw [if_neg (by omega), Nat.add_sub_cancel, List.getElem?_eq_getElem hk] at ih
    rw [List.range'_succ, List.drop_eq_getElem_cons hk]
    have hg : zs.toArray[k]! = zs[k] := by rw [getElem!_pos _ _ (by simpa using hk)]; simp
    unfold goC
    by_cases h0 : k = 0
    · subst h0
      have hkeep : Lib.keeps zs.toArray 0 = true := by simp [Lib.keeps]
      rw [List.filter_cons_of_pos hkeep, List.map_cons, ih, hg, if_neg (by simp)]
    · rw [if_neg h0]
      have hk1 : k - 1 < zs.length := by omega
      have hg1 : zs.toArray[k - 1]! = zs[k - 1] := by rw [getElem!_pos _ _ (by simpa using hk1)]; simp
      rw [List.getElem?_eq_getElem hk1]
      by_cases he : zs[k - 1] = zs[k]
      · have hkeep : ¬ Lib.keeps zs.toArray k = true := by
          unfold Lib.keeps; rw [hg, hg1]; simp [h0, he]
        rw [List.filter_cons_of_neg hkeep, ih, if_pos (by rw [he])]
      · have hkeep : Lib.keeps zs.toArray k = true := by
          unfold Lib.keeps; rw [hg, hg1]; simp [h0]; exact fun e => he e.symm
        rw [List.filter_cons_of_pos hkeep, List.map_cons, ih, hg, if_neg (fun e => he (Option.some.inj e))]
theorem lib_compact (zs : List Int) : Lib.compact zs = compactZ zs := by
  unfold Lib.compact Lib.compactUpTo
  rw [List.range_eq_range', lib_go zs zs.length 0 (by omega), if_pos rfl, List.drop_zero]
  cases zs with
  | nil => rfl
  | cons x l => rw [compactZ_go, goC, if_neg (by simp)]
theorem sort_ok : RowsOk Tryz.prog 42 .sort := fun b o cap zs c e w hb hc hz hl hcap => by
  have hlt : b < w.heap.size := (Array.getElem?_eq_some_iff.1 hb).1
  have hfit : o + zs.length ≤ c.size := (row_fits hc).resolve_left hz
  refine Calls.mono (Tryz.slices_Sort_int b o cap zs w (row_holds hb hc) hlt (by omega)) ?_
  rintro E w' ⟨rfl, n, os, rfl⟩
  exact ⟨rfl, row_gr (zs := rowH .sort zs) hb (by rw [rowH_len]; exact hfit)⟩
theorem sort_nil : RowsNil Tryz.prog 42 .sort := fun p cap w => Tryz.slices_Sort_int_none p cap w
theorem compact_ok : RowsOk Tryz.prog 43 .compact := fun b o cap zs c e w hb hc hz hl hcap => by
  have hfit : o + zs.length ≤ c.size := (row_fits hc).resolve_left hz
  refine Calls.mono (Tryz.slices_Compact_int b o cap zs w (row_holds hb hc) (by omega) hcap) ?_
  rintro E w' ⟨rfl, q, rfl⟩
  rw [lib_compact]
  refine ⟨rfl, ?_⟩
  have := row_gr (q := q) (os := #[]) (zs := rowH .compact zs) hb (by rw [rowH_len]; exact hfit)
  rwa [grow_empty] at this
theorem compact_nil : RowsNil Tryz.prog 43 .compact := fun p cap w => Tryz.slices_Compact_int_empty p cap w
end Go.Xe
end
section
namespace Go.Xe.YtalckpkiplhbcaaGreatDoor
open Go Go.Xe Go.Xt Go.Proofs Go.RowKit
def FX (f : FuncId) : Option XFun := (FT f).map TFun.fn
def OX (f : FuncId) (args : List Value) : Option Value :=
  if f = 42 then some (.agg ⟨[]⟩) else if f = 43 then some (.agg ⟨[.bool true]⟩) else
  match args with
  | [] => if f = 8 then some (.bool true) else none
  | _ => none
theorem fits : Fits FT OT FX OX := by
  refine ⟨fun f tf h => by unfold FX; rw [h]; rfl, fun f h => by unfold FX; rw [h]; rfl, fun f args v h g μ Z args' ha => ?_⟩
  unfold OT at h
  unfold OX
  by_cases h42 : f = 42
  · rw [if_pos h42] at h ⊢
    cases h
    exact ⟨_, rfl, .agg .nil⟩
  rw [if_neg h42] at h ⊢
  by_cases h43 : f = 43
  · rw [if_pos h43] at h ⊢
    cases h
    exact ⟨_, rfl, .agg (.cons (.bool true) .nil)⟩
  rw [if_neg h43] at h ⊢
  split at h
  · cases ha
    split at h
    · rename_i h9
      cases h
      exact ⟨.bool true, by simp [h9], .bool true⟩
    · cases h
  · cases h
theorem to8 : CallTo Tryz.prog 8 := ⟨Tryz.f8, Tryz.func8, by decide, rfl⟩
theorem to42 : CallTo Tryz.prog 42 := ⟨Tryz.f42, Tryz.func42, by decide, rfl⟩
theorem to43 : CallTo Tryz.prog 43 := ⟨Tryz.f43, Tryz.func43, by decide, rfl⟩
theorem envX : Env Tryz.prog glo FX OX := by
  refine ⟨by kernel_rfl, fun f x h => ?_, fun f args v hF hO => ?_⟩
  · unfold FX at h
    obtain ⟨tf, h2, rfl⟩ := Option.map_eq_some_iff.1 h
    clear h
    unfold FT at h2
    by_cases e5 : f = 5
    · subst e5; cases h2; exact ⟨_, Tryz.func5, d5⟩
    rw [if_neg e5] at h2
    by_cases e7 : f = 7
    · subst e7; cases h2; exact ⟨_, Tryz.func7, d7⟩
    rw [if_neg e7] at h2
    by_cases e15 : f = 15
    · subst e15; cases h2; exact ⟨_, Tryz.func15, d15⟩
    rw [if_neg e15] at h2
    by_cases e16 : f = 16
    · subst e16; cases h2; exact ⟨_, Tryz.func16, d16⟩
    rw [if_neg e16] at h2
    by_cases e17 : f = 17
    · subst e17; cases h2; exact ⟨_, Tryz.func17, d17⟩
    rw [if_neg e17] at h2
    by_cases e18 : f = 18
    · subst e18; cases h2; exact ⟨_, Tryz.func18, d18⟩
    rw [if_neg e18] at h2
    by_cases e19 : f = 19
    · subst e19; cases h2; exact ⟨_, Tryz.func19, d19⟩
    rw [if_neg e19] at h2
    by_cases e20 : f = 20
    · subst e20; cases h2; exact ⟨_, Tryz.func20, d20⟩
    rw [if_neg e20] at h2
    by_cases e21 : f = 21
    · subst e21; cases h2; exact ⟨_, Tryz.func21, d21⟩
    rw [if_neg e21] at h2
    by_cases e22 : f = 22
    · subst e22; cases h2; exact ⟨_, Tryz.func22, d22⟩
    rw [if_neg e22] at h2
    by_cases e24 : f = 24
    · subst e24; cases h2; exact ⟨_, Tryz.func24, d24⟩
    rw [if_neg e24] at h2
    by_cases e25 : f = 25
    · subst e25; cases h2; exact ⟨_, Tryz.func25, d25⟩
    rw [if_neg e25] at h2
    by_cases e41 : f = 41
    · subst e41; cases h2; exact ⟨_, Tryz.func41, d41⟩
    rw [if_neg e41] at h2
    by_cases e44 : f = 44
    · subst e44; cases h2; exact ⟨_, Tryz.func44, d44⟩
    rw [if_neg e44] at h2
    by_cases e45 : f = 45
    · subst e45; cases h2; exact ⟨_, Tryz.func45, d45⟩
    rw [if_neg e45] at h2
    by_cases e46 : f = 46
    · subst e46; cases h2; exact ⟨_, Tryz.func46, d46⟩
    rw [if_neg e46] at h2
    by_cases e66 : f = 66
    · subst e66; cases h2; exact ⟨_, Tryz.func66, d66⟩
    rw [if_neg e66] at h2
    by_cases e67 : f = 67
    · subst e67; cases h2; exact ⟨_, Tryz.func67, d67⟩
    rw [if_neg e67] at h2
    by_cases e111 : f = 111
    · subst e111; cases h2; exact ⟨_, Tryz.func111, d111⟩
    rw [if_neg e111] at h2
    cases h2
  · unfold OX at hO
    by_cases h42 : f = 42
    · rw [if_pos h42] at hO
      cases hO
      subst h42
      exact OOk.row rfl to42 sort_ok sort_nil
    rw [if_neg h42] at hO
    by_cases h43 : f = 43
    · rw [if_pos h43] at hO
      cases hO
      subst h43
      exact OOk.row rfl to43 compact_ok compact_nil
    rw [if_neg h43] at hO
    split at hO
    · split at hO
      · rename_i h8
        cases hO
        subst h8
        exact OOk.grow to8 rfl rfl (fun φ l h => by cases h; rfl) fun W0 N0 φ g w hg r => awake w (r.shaped hg)
      · cases hO
    · cases hO
end Go.Xe.YtalckpkiplhbcaaGreatDoor
end
