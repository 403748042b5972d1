/-
  A part of the proof: it is imported by YtalckpkiplhbcaaGreatDoorTop. Nothing here is a claim of its own.
-/
import Derived.Test.YtalckpkiplhbcaaGreatDoorK5
import Derived.Shelf.Small.Strs
import Derived.Shelf.Strings.Search1
import Derived.Shelf.Strings.Search2
import Derived.Shelf.Strings.Search3
import Derived.Shelf.LaysM
import Derived.Shelf.Strings.Shaped
import Derived.Test.YtalckpkiplhbcaaGreatDoorProg
section
namespace Go.Xe.YtalckpkiplhbcaaGreatDoor
open Go Go.Xe Go.Xt
set_option linter.unusedVariables false
set_option linter.unusedSimpArgs false
variable {F : FuncId → Option TFun} {O : FuncId → List TV → Option TV}
structure JFits (F : FuncId → Option TFun) : Prop where
  v : VFits F
  h102 : F 102 = some f102
  h154 : F 154 = some f154
  h155 : F 155 = some f155
  h156 : F 156 = some f156
  h45 : F 45 = some f45
  h59 : F 59 = some f59
set_option maxHeartbeats 2000000 in
theorem shaped_t (V : JFits F) (N : Nat) (c : PCore) (bd : List Bool) (p kb vl vb cap : Nat) (t : PTerm) (ht : OkTm t) (hN : 3 * szTm t ≤ N) (hbl : bd.length ≤ 1000) (b : Nat) (σ : Sto)
    (hp : σ.at p = some ⟨vl, .cells (judgeC c kb cap bd) 107⟩) (hb : σ.at kb = some ⟨vb, .cells (bcells bd) 4⟩) :
    tcall F O (N + 1) b 102 [.ptr p 0, .agg (encTm t)] σ = some (.ret (.bool (headB c bd t)), σ) := by
  have hs := szTm_def t
  have hvs := szV_def t.val
  obtain ⟨M, hM⟩ : ∃ M, N = M + 6 := ⟨N - 6, by omega⟩
  have htd := encTm_def t
  have hfree := fun (fr : Int) (hfr : I64 fr) (n : Nat) (hn : n ≤ 4) => free_t (O := O) V.h154 (M + 5) c bd p kb vl vb cap fr hfr n hn (by omega) hbl σ.length σ hp hb
  rw [show M + 5 + 1 = N by omega] at hfree
  refine tcall_pure V.h102 ?_
  obtain ⟨Z, hZ⟩ : ∃ Z, Z = headB c bd t := ⟨_, rfl⟩
  rw [← hZ]
  unfold headB at hZ
  have hlk := hp
  unfold judgeC at hlk
  rw [encC_def] at hlk
  simp only [List.cons_append, List.nil_append] at hlk
  by_cases k1 : t.kind = 1
  · have ek : kidsI c t = 0 := by unfold kidsI; simp [k1]
    have ex : headX c bd t = rightV t.val := by unfold headX; simp [k1]
    rw [ek, ex] at hZ
    by_cases l0 : (t.kids.length : Int) = 0
    case neg =>
      have l0' : ¬ t.kids.length = 0 := by omega
      rw [decide_eq_false (by omega), Bool.false_and] at hZ
      simp [x102, undT, htd, k1, l0, l0', hZ]
    have l0' : t.kids.length = 0 := by omega
    rw [decide_eq_true (by omega), Bool.true_and] at hZ
    have hr := right153 (O := O) V.v (M + 3) t.val σ.length σ (by omega) ht.val
    rw [show M + 3 + 3 = N by omega, encV_def, ← hZ] at hr
    simp [x102, undT, htd, k1, l0, l0', hr]
  by_cases k2 : t.kind = 2
  · have ek : kidsI c t = 0 := by unfold kidsI; simp [k2]
    have ex : headX c bd t = (decide (0 ≤ t.n) && (bd[t.n.toNat]? == some true)) := by unfold headX; simp [k2]
    rw [ek, ex] at hZ
    by_cases l0 : (t.kids.length : Int) = 0
    case neg =>
      have l0' : ¬ t.kids.length = 0 := by omega
      rw [decide_eq_false (by omega), Bool.false_and] at hZ
      simp [x102, undT, htd, k2, l0, l0', hZ]
    have l0' : t.kids.length = 0 := by omega
    rw [decide_eq_true (by omega), Bool.true_and] at hZ
    by_cases h0 : 0 ≤ t.n
    case neg =>
      rw [decide_eq_false h0, Bool.false_and] at hZ
      simp [x102, undT, htd, k2, l0, l0', h0, hZ]
    rw [decide_eq_true h0, Bool.true_and] at hZ
    by_cases h1 : t.n < (bd.length : Int)
    case neg =>
      have e : bd[t.n.toNat]? = none := List.getElem?_eq_none (by omega)
      rw [e] at hZ
      have hZ' : Z = false := by rw [hZ]; rfl
      simp [x102, undT, htd, k2, l0, l0', h0, h1, hlk, hZ']
    obtain ⟨i, hi, hil⟩ := idx_int h0 h1
    have hgb := get_bcells hil
    have hle : (bcells bd).length = bd.length := by simp [bcells]
    have h0' : (0 : Int) ≤ (i : Int) := by omega
    rw [hi, Int.toNat_natCast, List.getElem?_eq_getElem hil] at hZ
    have hZ' : bd[i] = Z := by rw [hZ]; cases bd[i] <;> rfl
    rw [hZ'] at hgb
    generalize bcells bd = B at hb hgb hle
    simp [x102, undT, htd, k2, l0, l0', hi, h0', hil, hlk, hb, hgb]
  by_cases k3 : t.kind = 3
  · have ex : headX c bd t = true := by unfold headX; simp [k3]
    rw [ex, Bool.and_true] at hZ
    unfold kidsI at hZ
    rw [if_neg (by omega), if_pos k3] at hZ
    by_cases h0 : 0 ≤ t.n
    case neg =>
      rw [dif_neg (fun e => h0 e.1), decide_eq_false (by omega)] at hZ
      simp [x102, undT, htd, k3, h0, hZ]
    by_cases h1 : t.n < (c.funs.length : Int)
    case neg =>
      rw [dif_neg (fun e => h1 e.2), decide_eq_false (by omega)] at hZ
      simp [x102, undT, htd, k3, h0, h1, hlk, hZ]
    rw [dif_pos ⟨h0, h1⟩] at hZ
    obtain ⟨i, hi, hil⟩ := idx_int h0 h1
    have h0' : (0 : Int) ≤ (i : Int) := by omega
    simp only [hi, Int.toNat_natCast] at hZ
    by_cases he : (t.kids.length : Int) = c.funs[i].params
    · have he2 : c.funs[i].params = (t.kids.length : Int) := he.symm
      rw [decide_eq_true he2] at hZ
      simp [x102, undT, htd, k3, hi, h0', hil, hlk, encBd_def c.funs[i], he, hZ]
    · have he2 : ¬ c.funs[i].params = (t.kids.length : Int) := fun e => he e.symm
      rw [decide_eq_false he2] at hZ
      simp [x102, undT, htd, k3, hi, h0', hil, hlk, encBd_def c.funs[i], he, hZ]
  by_cases k4 : t.kind = 4
  · have ek : kidsI c t = min (max (t.kids.length : Int) 2) 4 := by unfold kidsI; simp [k4]
    have ex : headX c bd t = true := by unfold headX; simp [k4]
    rw [ek, ex, Bool.and_true] at hZ
    by_cases h1 : (2 : Int) ≤ (t.kids.length : Int)
    · have h1' : 2 ≤ t.kids.length := by omega
      by_cases h2 : (t.kids.length : Int) ≤ 4
      · have h2' : t.kids.length ≤ 4 := by omega
        rw [decide_eq_true (by omega)] at hZ
        simp [x102, undT, htd, k4, h1, h1', h2, h2', hZ]
      · have h2' : ¬ t.kids.length ≤ 4 := by omega
        rw [decide_eq_false (by omega)] at hZ
        simp [x102, undT, htd, k4, h1, h1', h2, h2', hZ]
    · have h1' : ¬ 2 ≤ t.kids.length := by omega
      rw [decide_eq_false (by omega)] at hZ
      simp [x102, undT, htd, k4, h1, h1', hZ]
  by_cases k5 : t.kind = 5
  · have ek : kidsI c t = min (t.kids.length : Int) 32 := by unfold kidsI; simp [k5]
    have ex : headX c bd t = true := by unfold headX; simp [k5]
    rw [ek, ex, Bool.and_true] at hZ
    by_cases h2 : (t.kids.length : Int) ≤ 32
    · have h2' : t.kids.length ≤ 32 := by omega
      rw [decide_eq_true (by omega)] at hZ
      simp [x102, undT, htd, k5, h2, h2', hZ]
    · have h2' : ¬ t.kids.length ≤ 32 := by omega
      rw [decide_eq_false (by omega)] at hZ
      simp [x102, undT, htd, k5, h2, h2', hZ]
  by_cases k6 : t.kind = 6
  · have ex : headX c bd t = true := by unfold headX; simp [k6]
    have ek : kidsI c t = if t.n < 1 ∨ 13 < t.n then -2 else if 12 ≤ t.n then 1 else 2 := by unfold kidsI; simp [k6]
    rw [ek, ex, Bool.and_true] at hZ
    by_cases h1 : 1 ≤ t.n
    case neg =>
      rw [if_pos (.inl (by omega)), decide_eq_false (by omega)] at hZ
      simp [x102, undT, htd, k6, h1, hZ]
    by_cases h2 : t.n ≤ 13
    case neg =>
      rw [if_pos (.inr (by omega)), decide_eq_false (by omega)] at hZ
      simp [x102, undT, htd, k6, h1, h2, hZ]
    rw [if_neg (by omega)] at hZ
    by_cases l1 : (t.kids.length : Int) = 1
    · have l1' : t.kids.length = 1 := by omega
      by_cases n12 : t.n = 12
      · rw [if_pos (by omega), decide_eq_true (by omega)] at hZ
        simp [x102, undT, htd, k6, l1', n12, hZ]
      by_cases n13 : t.n = 13
      · rw [if_pos (by omega), decide_eq_true (by omega)] at hZ
        simp [x102, undT, htd, k6, l1', n13, hZ]
      rw [if_neg (by omega), decide_eq_false (by omega)] at hZ
      simp [x102, undT, htd, k6, h1, h2, l1', n12, n13, hZ]
    have l1' : ¬ t.kids.length = 1 := by omega
    by_cases n12 : t.n = 12
    · rw [if_pos (by omega), decide_eq_false (by omega)] at hZ
      simp [x102, undT, htd, k6, l1, l1', n12, hZ]
    by_cases n13 : t.n = 13
    · rw [if_pos (by omega), decide_eq_false (by omega)] at hZ
      simp [x102, undT, htd, k6, l1, l1', n13, hZ]
    rw [if_neg (by omega)] at hZ
    by_cases l2 : (t.kids.length : Int) = 2
    · have l2' : t.kids.length = 2 := by omega
      rw [decide_eq_true (by omega)] at hZ
      simp [x102, undT, htd, k6, h1, h2, l2', n12, n13, hZ]
    · have l2' : ¬ t.kids.length = 2 := by omega
      rw [decide_eq_false (by omega)] at hZ
      simp [x102, undT, htd, k6, h1, h2, l1, l1', l2, l2', n12, n13, hZ]
  by_cases k7 : t.kind = 7
  · have ek : kidsI c t = 2 := by unfold kidsI; simp [k7]
    have ex : headX c bd t = (decide (1 ≤ t.m ∧ t.m ≤ 4) && freeB bd t.n t.m.toNat) := by unfold headX; simp only [k7]; rfl
    rw [ek, ex] at hZ
    by_cases l2 : (t.kids.length : Int) = 2
    case neg =>
      have l2' : ¬ t.kids.length = 2 := by omega
      rw [decide_eq_false (by omega), Bool.false_and] at hZ
      simp [x102, undT, htd, k7, l2, l2', hZ]
    have l2' : t.kids.length = 2 := by omega
    rw [decide_eq_true (by omega), Bool.true_and] at hZ
    by_cases h1 : 1 ≤ t.m
    case neg =>
      rw [decide_eq_false (by omega), Bool.false_and] at hZ
      simp [x102, undT, htd, k7, l2', h1, hZ]
    by_cases h2 : t.m ≤ 4
    case neg =>
      rw [decide_eq_false (by omega), Bool.false_and] at hZ
      simp [x102, undT, htd, k7, l2', h1, h2, hZ]
    rw [decide_eq_true (by omega), Bool.true_and] at hZ
    have hf := hfree t.n ht.n t.m.toNat (by omega)
    rw [show ((t.m.toNat : Nat) : Int) = t.m by omega, ← hZ] at hf
    simp [x102, undT, htd, k7, l2', h1, h2, hf]
  by_cases k8 : t.kind = 8
  · have ek : kidsI c t = 3 := by unfold kidsI; simp [k8]
    have ex : headX c bd t = true := by unfold headX; simp [k8]
    rw [ek, ex, Bool.and_true] at hZ
    by_cases l3 : (t.kids.length : Int) = 3
    · have l3' : t.kids.length = 3 := by omega
      rw [decide_eq_true (by omega)] at hZ
      simp [x102, undT, htd, k8, l3', hZ]
    · have l3' : ¬ t.kids.length = 3 := by omega
      rw [decide_eq_false (by omega)] at hZ
      simp [x102, undT, htd, k8, l3, l3', hZ]
  by_cases k9 : t.kind = 9
  · have ek : kidsI c t = 3 := by unfold kidsI; simp [k9]
    have ex : headX c bd t = freeB bd t.n 2 := by unfold headX; simp only [k9]; rfl
    rw [ek, ex] at hZ
    by_cases l3 : (t.kids.length : Int) = 3
    case neg =>
      have l3' : ¬ t.kids.length = 3 := by omega
      rw [decide_eq_false (by omega), Bool.false_and] at hZ
      simp [x102, undT, htd, k9, l3, l3', hZ]
    have l3' : t.kids.length = 3 := by omega
    rw [decide_eq_true (by omega), Bool.true_and] at hZ
    have hf := hfree t.n ht.n 2 (by omega)
    rw [← hZ] at hf
    have e2 : ((2 : Nat) : Int) = 2 := rfl
    rw [e2] at hf
    simp [x102, undT, htd, k9, l3', hf]
  by_cases k10 : t.kind = 10
  · have ek : kidsI c t = 2 := by unfold kidsI; simp [k10]
    have ex : headX c bd t = true := by unfold headX; simp [k10]
    rw [ek, ex, Bool.and_true] at hZ
    by_cases l2 : (t.kids.length : Int) = 2
    · have l2' : t.kids.length = 2 := by omega
      rw [decide_eq_true (by omega)] at hZ
      simp [x102, undT, htd, k10, l2', hZ]
    · have l2' : ¬ t.kids.length = 2 := by omega
      rw [decide_eq_false (by omega)] at hZ
      simp [x102, undT, htd, k10, l2, l2', hZ]
  by_cases k11 : t.kind = 11
  · have ek : kidsI c t = 1 := by unfold kidsI; simp [k11]
    have ex : headX c bd t = odds2 t.odds := by unfold headX; simp only [k11]; rfl
    rw [ek, ex] at hZ
    by_cases l1 : (t.kids.length : Int) = 1
    case neg =>
      have l1' : ¬ t.kids.length = 1 := by omega
      rw [decide_eq_false (by omega), Bool.false_and] at hZ
      simp [x102, undT, htd, k11, l1, l1', hZ]
    have l1' : t.kids.length = 1 := by omega
    rw [decide_eq_true (by omega), Bool.true_and] at hZ
    have ho := odds_t (O := O) V.h155 (M + 5) t.odds σ.length σ
    rw [show M + 5 + 1 = N by omega, ← hZ] at ho
    simp [x102, undT, htd, k11, l1', ho]
  by_cases k12 : t.kind = 12
  · have ek : kidsI c t = min (max (t.odds.length : Int) 1) 64 := by unfold kidsI; simp [k12]
    have ex : headX c bd t = (decide (t.odds.length = t.kids.length) && (decide (0 ≤ t.n ∧ t.n < c.sites) && oddsB t.odds)) := by unfold headX; simp only [k12]; rfl
    rw [ek, ex] at hZ
    by_cases h1 : t.odds.length = t.kids.length
    case neg =>
      have h1' : ¬ (t.kids.length : Int) = (t.odds.length : Int) := by omega
      have h1'' : ¬ t.kids.length = t.odds.length := by omega
      rw [decide_eq_false h1, Bool.false_and, Bool.and_false] at hZ
      simp [x102, undT, htd, k12, h1', h1'', hZ]
    rw [decide_eq_true h1, Bool.true_and] at hZ
    have ha := arms_t (O := O) V.h156 (M + 5) t.odds ht.olen (by omega) σ.length σ
    rw [show M + 5 + 1 = N by omega] at ha
    have hde : decide (min (max (t.odds.length : Int) 1) 64 = (t.kids.length : Int)) = decide (1 ≤ t.odds.length ∧ t.odds.length ≤ 64) := by
      apply decide_eq_decide.2; omega
    rw [hde] at hZ
    have hZ2 : Z = ((oddsB t.odds && decide (1 ≤ t.odds.length ∧ t.odds.length ≤ 64)) && decide (0 ≤ t.n ∧ t.n < c.sites)) := by
      rw [hZ]; cases oddsB t.odds <;> cases decide (1 ≤ t.odds.length ∧ t.odds.length ≤ 64) <;> cases decide (0 ≤ t.n ∧ t.n < c.sites) <;> rfl
    generalize (oddsB t.odds && decide (1 ≤ t.odds.length ∧ t.odds.length ≤ 64)) = A at ha hZ2
    cases A with
    | false =>
      rw [Bool.false_and] at hZ2
      simp [x102, undT, htd, k12, h1, ha, hZ2]
    | true =>
      rw [Bool.true_and] at hZ2
      by_cases h2 : 0 ≤ t.n
      case neg =>
        rw [decide_eq_false (fun e => h2 e.1)] at hZ2
        simp [x102, undT, htd, k12, h1, ha, h2, hZ2]
      by_cases h3 : t.n < c.sites
      · rw [decide_eq_true ⟨h2, h3⟩] at hZ2
        simp [x102, undT, htd, k12, h1, ha, h2, h3, hlk, hZ2]
      · rw [decide_eq_false (fun e => h3 e.2)] at hZ2
        simp [x102, undT, htd, k12, h1, ha, h2, h3, hlk, hZ2]
  have ek : kidsI c t = -2 := by unfold kidsI; simp [k1, k2, k3, k4, k5, k6, k7, k8, k9, k10, k11, k12]
  rw [ek, decide_eq_false (by omega), Bool.false_and] at hZ
  simp [x102, undT, htd, k1, k2, k3, k4, k5, k6, k7, k8, k9, k10, k11, k12, hZ]
end Go.Xe.YtalckpkiplhbcaaGreatDoor
end
section
namespace Go.Xe.YtalckpkiplhbcaaGreatDoor
open Go Go.Xe Go.Xt
set_option linter.unusedVariables false
set_option linter.unusedSimpArgs false
variable {F : FuncId → Option TFun} {O : FuncId → List TV → Option TV}
theorem setB_get (bd : List Bool) (f : Nat) (v : Bool) : ∀ (n i : Nat), (setB bd f v n)[i]? = if f ≤ i ∧ i < f + n ∧ i < bd.length then some v else bd[i]?
  | 0, i => by rw [if_neg (by omega)]; rfl
  | n + 1, i => by
    simp only [setB, List.getElem?_set, setB_len]
    by_cases h : f + n = i
    · subst h
      by_cases h2 : f + n < bd.length
      · rw [if_pos rfl, if_pos h2, if_pos (by omega)]
      · rw [if_pos rfl, if_neg h2, if_neg (by omega), List.getElem?_eq_none (by omega)]
    · rw [if_neg h, setB_get bd f v n i]
      by_cases h3 : f ≤ i ∧ i < f + n ∧ i < bd.length
      · rw [if_pos h3, if_pos (by omega)]
      · rw [if_neg h3, if_neg (by omega)]
theorem anyB_get (bd : List Bool) : ∀ (n f i : Nat), anyB bd f n = false → f ≤ i → i < f + n → i < bd.length → bd[i]? = some false
  | 0, f, i, _, _, _, _ => by omega
  | n + 1, f, i, h, h1, h2, h3 => by
    simp only [anyB, Bool.or_eq_false_iff] at h
    by_cases hi : f = i
    · subst hi
      have := h.1
      rw [List.getElem?_eq_getElem h3] at this ⊢
      cases hb : bd[f] with
      | false => rfl
      | true => rw [hb] at this; cases this
    · exact anyB_get bd n (f + 1) i h.2 (by omega) (by omega) h3
theorem reset_B (bd : List Bool) (f n : Nat) (h : anyB bd f n = false) : setB (setB bd f true n) f false n = bd := by
  apply List.ext_getElem?
  intro i
  rw [setB_get, setB_get, setB_len]
  by_cases hi : f ≤ i ∧ i < f + n ∧ i < bd.length
  · rw [if_pos hi, anyB_get bd n f i h hi.1 hi.2.1 hi.2.2]
  · rw [if_neg hi, if_neg hi]
theorem at_set {σ : Sto} {k : Nat} {o x : TObj} (h : σ.at k = some o) : Sto.at (σ.set k (some x)) k = some x := by
  have := Sto.lt h
  simp [Sto.at, this]
def J (v : Nat) (l : List Bool) : Option TObj := some ⟨v, .cells (bcells l) 4⟩
set_option maxHeartbeats 4000000 in
theorem rightr_t (V : JFits F) (c : PCore) : ∀ (N : Nat) (t : PTerm) (left : Nat) (bd : List Bool) (b p kb vl vb cap : Nat) (σ : Sto), 3 * szTm t + 8 ≤ N → OkTm t → left ≤ 200 → kb ≠ p →
    σ.at p = some ⟨vl, .cells (encC c ++ [.int .i64 (bd.length : Int), .ref kb 0 1 bd.length cap]) 107⟩ → σ.at kb = some ⟨vb, .cells (bcells bd) 4⟩ → bd.length ≤ 1000 →
    ∃ v' bd', bd'.length = bd.length ∧ (rightTm c left bd t = true → bd' = bd) ∧ tcall F O N b 59 [.ptr p 0, .agg (encTm t), .int .i64 (left : Int)] σ = some (.ret (.bool (rightTm c left bd t)), σ.set kb (J v' bd'))
  | 0, t, left, bd, b, p, kb, vl, vb, cap, σ, h, _, _, _, _, _, _ => by rw [szTm_def] at h; omega
  | N + 1, t, left, bd, b, p, kb, vl, vb, cap, σ, h, ht, hleft, hkp, hp, hb, hbl => by
    have hs := szTm_def t
    have hvs := szV_def t.val
    have hks := szTms_len t.kids
    obtain ⟨M, hM⟩ : ∃ M, N = M + 1 := ⟨N - 1, by omega⟩
    have hsame : σ.set kb (J vb bd) = σ := Sto.set_same hb
    cases left with
    | zero =>
      refine ⟨vb, bd, rfl, fun _ => rfl, ?_⟩
      rw [hsame]
      refine tcall_pure V.h59 ?_
      unfold rightTm
      simp [x59, undT, encTm_def]
    | succ left =>
    obtain ⟨left', hleft'⟩ : ∃ left' : Int, left' = ((left + 1 : Nat) : Int) := ⟨_, rfl⟩
    have hl1 : ¬ left' < 1 := by omega
    have hsub : IntKind.i64.wrap (left' - 1) = (left : Int) := by rw [wrap_in] <;> omega
    have htd := encTm_def t
    have hsh := shaped_t (O := O) V M c bd p kb vl vb cap t ht (by omega) hbl σ.length σ hp hb
    rw [← hM, htd] at hsh
    obtain ⟨Rf, hRf⟩ : ∃ R, R = rightTm c left := ⟨_, rfl⟩
    have ih : ∀ x ∈ t.kids, ∀ (l : List Bool) (v b : Nat) (σ' : Sto), σ'.at p = some ⟨vl, .cells (encC c ++ [.int .i64 (bd.length : Int), .ref kb 0 1 bd.length cap]) 107⟩ → σ'.at kb = J v l → l.length = bd.length →
        ∃ v' bd', bd'.length = l.length ∧ (Rf l x = true → bd' = l) ∧ tcall F O N b 59 [.ptr p 0, .agg (encTm x), .int .i64 (left : Int)] σ' = some (.ret (.bool (Rf l x)), σ'.set kb (J v' bd')) := by
      intro x hx l v b σ' h1 h2 h3
      have := szTms_mem _ _ hx
      rw [hRf]
      exact rightr_t V c N x left l b p kb vl v cap σ' (by omega) (ht.sub x hx) (by omega) hkp (by rw [h3]; exact h1) h2 (by omega)
    rw [← hleft']
    unfold rightTm
    rw [← hRf]
    cases hhd : headB c bd t with
    | false =>
      rw [hhd] at hsh
      refine ⟨vb, bd, rfl, fun _ => rfl, ?_⟩
      rw [hsame]
      refine tcall_pure V.h59 ?_
      simp [x59, undT, htd, hl1, hsh]
    | true =>
    rw [hhd] at hsh
    rw [Bool.true_and]
    have hbind : bindI t = (bindN t : Int) ∧ bindN t ≤ 4 ∧ (bindN t ≠ 0 → 0 ≤ t.n ∧ t.n + (bindN t : Int) ≤ (bd.length : Int) ∧ anyB bd t.n.toNat (bindN t) = false) := by
      unfold headB at hhd
      rw [Bool.and_eq_true] at hhd
      have hx := hhd.2
      unfold bindI bindN
      by_cases k9 : t.kind = 9
      · unfold headX at hx
        simp only [k9] at hx
        have hx : freeB bd t.n 2 = true := hx
        unfold freeB at hx
        rw [Bool.and_eq_true, decide_eq_true_eq, Bool.not_eq_true'] at hx
        rw [if_pos k9, if_pos k9]
        exact ⟨rfl, by omega, fun _ => ⟨by omega, by omega, hx.2⟩⟩
      rw [if_neg k9, if_neg k9]
      by_cases k7 : t.kind = 7
      · unfold headX at hx
        simp only [k7] at hx
        have hx : (decide (1 ≤ t.m ∧ t.m ≤ 4) && freeB bd t.n t.m.toNat) = true := hx
        unfold freeB at hx
        rw [Bool.and_eq_true, Bool.and_eq_true, decide_eq_true_eq, decide_eq_true_eq, Bool.not_eq_true'] at hx
        rw [if_pos k7, if_neg (by omega), if_neg (by omega)]
        exact ⟨by omega, by omega, fun _ => ⟨by omega, by omega, hx.2.2⟩⟩
      · rw [if_neg k7, if_pos (.inl k7)]
        exact ⟨rfl, by omega, fun h => absurd rfl h⟩
    obtain ⟨inner, hinner⟩ : ∃ inner, inner = setB bd t.n.toNat true (bindN t) := ⟨_, rfl⟩
    rw [← hinner]
    suffices hh : ∃ e σ', tcall F O (N + 1) b 59 [.ptr p 0, .agg (encTm t), .int .i64 left'] σ = some (e, σ') ∧ (e = .ret (.bool (rightKids Rf bd inner t.kids)) ∧ ∃ v' bd', bd'.length = bd.length ∧ (rightKids Rf bd inner t.kids = true → bd' = bd) ∧ σ' = σ.set kb (J v' bd')) by
      obtain ⟨e, σ', q1, rfl, v', bd', q2, q3, rfl⟩ := hh
      exact ⟨v', bd', q2, q3, q1⟩
    refine tcall_of V.h59 ?_
    simp [x59, undT, htd, hl1, hsh]
    obtain ⟨I, hI⟩ : ∃ I : Nat → TAct → Sto → Prop, I = (fun j a' σ' => a'.df = [] ∧ (∃ v, σ' = σ.set kb (J v bd)) ∧ rightKids Rf bd inner (t.kids.drop j) = rightKids Rf bd inner t.kids ∧ a'.tm.get 0 = some (.ptr p 0) ∧ a'.tm.get 2 = some (.int .i64 left') ∧ a'.tm.get 4 = some (.bx 0 (encTm t) 30) ∧ a'.tm.get 7 = some (.int .i64 j)) := ⟨_, rfl⟩
    obtain ⟨Q, hQ⟩ : ∃ R' : TEx → TAct → Sto → Prop, R' = (fun ex a' σ' => a'.df = [] ∧ (ex = .exit 0 ∧ rightKids Rf bd inner t.kids = true ∧ (∃ v, σ' = σ.set kb (J v bd)) ∨ ex = .ret ∧ rightKids Rf bd inner t.kids = false ∧ a'.tm.get 6 = some (.bool false) ∧ ∃ v' bd', bd'.length = bd.length ∧ σ' = σ.set kb (J v' bd'))) := ⟨_, rfl⟩
    refine tw_loop I t.kids.length Q ?_ (by omega) ?_ ?_ ?_
    · rw [hI]
      exact ⟨rfl, ⟨vb, hsame.symm⟩, by rw [List.drop_zero], by simp, by simp, by simp [htd], by simp⟩
    · rw [hI]
      rintro j ⟨tm, df, clk⟩ σ' hj ⟨rfl, ⟨v, rfl⟩, hd, g0, g2, g4, g7⟩
      rw [← hI]
      have hw := wrapJ hj ht.len
      rw [rightKids_step hj] at hd
      have g4' := g4
      rw [encTm_def] at g4
      have hws : IntKind.i64.wrap ((t.kids.length : Int) - 1) = (t.kids.length : Int) - 1 := by rw [wrap_in] <;> (have := ht.len; unfold maxLen at this; omega)
      by_cases hlast : j + 1 = t.kids.length
      · have hlast' : ((j : Int) = (t.kids.length : Int) - 1) = True := eq_true (by omega)
        rw [if_pos hlast] at hd
        obtain ⟨kn, hkd⟩ : ∃ kn, kn = bindN t := ⟨_, rfl⟩
        rw [← hkd] at hbind hinner
        obtain ⟨e8, hk4, hkn⟩ := hbind
        have hkz : setB bd t.n.toNat true kn = inner := hinner.symm
        have hbi := binds_t (O := O) V.h45 M t (σ.set kb (J v bd)).length (σ.set kb (J v bd))
        rw [← hM, htd] at hbi
        have hti := ht.n
        have hwk : IntKind.i64.wrap (t.n + (kn : Int)) = t.n + (kn : Int) := by
          unfold I64 at hti
          by_cases h0 : kn = 0
          · rw [wrap_in] <;> omega
          · have := hkn h0; rw [wrap_in] <;> omega
        rw [e8] at hbi
        have e8 : (kn : Int) = (kn : Int) := rfl
        have hSl : (σ.set kb (J v bd)).length = σ.length := by simp
        rw [hSl] at hbi
        simp [g0, g2, g4, g7, hj, hws, hlast', hbi]
        obtain ⟨I2, hI2⟩ : ∃ I : Nat → TAct → Sto → Prop, I = (fun i a' σ'' => a'.df = [] ∧ (∃ v, σ'' = σ.set kb (J v (setB bd t.n.toNat true i))) ∧ a'.tm.get 0 = some (.ptr p 0) ∧ a'.tm.get 2 = some (.int .i64 left') ∧ a'.tm.get 4 = some (.bx 0 (encTm t) 30) ∧ a'.tm.get 7 = some (.int .i64 j) ∧ a'.tm.get 8 = some (.int .i64 (kn : Int)) ∧ a'.tm.get 9 = some (.int .i64 (t.n + i))) := ⟨_, rfl⟩
        obtain ⟨R2, hR2⟩ : ∃ R : TEx → TAct → Sto → Prop, R = (fun ex a' σ'' => ex = .exit 2 ∧ a'.df = [] ∧ (∃ v, σ'' = σ.set kb (J v (setB bd t.n.toNat true kn))) ∧ a'.tm.get 0 = some (.ptr p 0) ∧ a'.tm.get 2 = some (.int .i64 left') ∧ a'.tm.get 4 = some (.bx 0 (encTm t) 30) ∧ a'.tm.get 7 = some (.int .i64 j) ∧ a'.tm.get 8 = some (.int .i64 (kn : Int))) := ⟨_, rfl⟩
        refine tw_loop I2 kn R2 ?_ (by omega) ?_ ?_ ?_
        · rw [hI2]
          exact ⟨rfl, ⟨v, rfl⟩, by simp [g0], by simp [g2], by simp [g4'], by simp [g7], by simp [e8], by simp⟩
        · rw [hI2]
          rintro i ⟨tm, df, clk⟩ σ'' hi ⟨rfl, ⟨v, rfl⟩, g0, g2, g4, g7, g8, g9⟩
          rw [← hI2]
          obtain ⟨f0, f1, f2⟩ := hkn (by omega)
          obtain ⟨f, hf⟩ : ∃ f : Nat, t.n = (f : Int) := ⟨t.n.toNat, by omega⟩
          obtain ⟨m, hm⟩ : ∃ m, m = f + i := ⟨_, rfl⟩
          have hm' : t.n + (i : Int) = (m : Int) := by omega
          have hmt : t.n.toNat + i = m := by omega
          have hml : m < bd.length := by omega
          have hlt : t.n + (i : Int) < t.n + (kn : Int) := by omega
          rw [hm'] at g9 hlt
          have hw1 : IntKind.i64.wrap ((m : Int) + 1) = t.n + ((i + 1 : Nat) : Int) := by rw [wrap_in] <;> omega
          have hap := at_ne (o := J v (setB bd t.n.toNat true i)) (σ := σ) hkp
          rw [hp] at hap
          have hab : Sto.at (σ.set kb (J v (setB bd t.n.toNat true i))) kb = J v (setB bd t.n.toNat true i) := at_set hb
          have hle : (bcells (setB bd t.n.toNat true i)).length = bd.length := by simp [bcells]
          have hpb := put_bcells (setB bd t.n.toNat true i) m true (by simpa using hml)
          have hm2 : m + 1 ≤ bd.length := by omega
          have g4' := g4
          rw [encTm_def] at g4
          rw [encC_def] at hap
          simp only [List.cons_append, List.nil_append] at hap
          generalize hS : σ.set kb (J v (setB bd t.n.toNat true i)) = S at hap hab
          have hSs : ∀ y, S.set kb y = σ.set kb y := fun y => by rw [← hS, List.set_set]
          unfold J at hab
          generalize bcells (setB bd t.n.toNat true i) = B at hab hle hpb
          simp [g0, g2, g4, g7, g8, g9, hwk, hlt, hap, hab, hle, hml, hm2, hSs, hw1]
          rw [hI2]
          refine ⟨rfl, ⟨v + 1, ?_⟩, by simp [g0], by simp [g2], by simp [g4'], by simp [g7], by simp [g8], by simp⟩
          simp only [J, setB, hmt]
          rw [← hpb]
          simp
        · rw [hI2]
          rintro ⟨tm, df, clk⟩ σ'' ⟨rfl, ⟨v, rfl⟩, g0, g2, g4, g7, g8, g9⟩
          have g4' := g4
          rw [encTm_def] at g4
          simp [g0, g2, g4, g7, g8, g9, hwk]
          rw [hR2]
          exact ⟨rfl, rfl, ⟨v, rfl⟩, by simp [g0], by simp [g2], by simp [g4'], by simp [g7], by simp [g8]⟩
        · rw [hR2]
          rintro ex ⟨tm, df, clk⟩ σ'' ⟨rfl, rfl, ⟨v, rfl⟩, g0, g2, g4, g7, g8⟩
          have hap := at_ne (o := J v (setB bd t.n.toNat true kn)) (σ := σ) hkp
          rw [hp] at hap
          have hab : Sto.at (σ.set kb (J v (setB bd t.n.toNat true kn))) kb = J v (setB bd t.n.toNat true kn) := at_set hb
          have g4' := g4
          rw [encTm_def] at g4
          obtain ⟨v', bd', hl', hr', hcc⟩ := ih t.kids[j] (List.getElem_mem hj) (setB bd t.n.toNat true kn) v σ.length _ hap hab (by simp)
          rw [List.set_set, encTm_def] at hcc
          generalize hS : σ.set kb (J v (setB bd t.n.toNat true kn)) = S at hcc
          rw [← hinner] at hcc
          have hSl : S.length = σ.length := by rw [← hS]; simp
          cases hr : Rf inner t.kids[j] with
          | false =>
            rw [hr] at hd hcc
            simp [g0, g2, g4, g7, g8, hj, hsub, hcc, hSl, encTm_def t.kids[j]]
            rw [hQ]
            exact ⟨rfl, .inr ⟨rfl, by simpa using hd.symm, by simp, v', bd', by rw [hl']; simp, rfl⟩⟩
          | true =>
            rw [hr] at hd hcc
            have hbd := hr' (by rw [← hinner]; exact hr)
            rw [hbd] at hcc
            simp [g0, g2, g4, g7, g8, hj, hsub, hcc, hSl, encTm_def t.kids[j]]
            obtain ⟨I3, hI3⟩ : ∃ I : Nat → TAct → Sto → Prop, I = (fun i a' σ'' => a'.df = [] ∧ (∃ v, σ'' = σ.set kb (J v (setB (setB bd t.n.toNat true kn) t.n.toNat false i))) ∧ a'.tm.get 0 = some (.ptr p 0) ∧ a'.tm.get 2 = some (.int .i64 left') ∧ a'.tm.get 4 = some (.bx 0 (encTm t) 30) ∧ a'.tm.get 7 = some (.int .i64 j) ∧ a'.tm.get 8 = some (.int .i64 (kn : Int)) ∧ a'.tm.get 10 = some (.int .i64 (t.n + i))) := ⟨_, rfl⟩
            obtain ⟨R3, hR3⟩ : ∃ R : TEx → TAct → Sto → Prop, R = (fun ex a' σ'' => ex = .exit 4 ∧ a'.df = [] ∧ (∃ v, σ'' = σ.set kb (J v bd)) ∧ a'.tm.get 0 = some (.ptr p 0) ∧ a'.tm.get 2 = some (.int .i64 left') ∧ a'.tm.get 4 = some (.bx 0 (encTm t) 30) ∧ a'.tm.get 7 = some (.int .i64 j)) := ⟨_, rfl⟩
            refine tw_loop I3 kn R3 ?_ (by omega) ?_ ?_ ?_
            · rw [hI3]
              exact ⟨rfl, ⟨v', rfl⟩, by simp [g0], by simp [g2], by simp [g4'], by simp [g7], by simp [g8], by simp⟩
            · rw [hI3]
              rintro i ⟨tm, df, clk⟩ σ'' hi ⟨rfl, ⟨v, rfl⟩, g0, g2, g4, g7, g8, g9⟩
              rw [← hI3]
              obtain ⟨f0, f1, f2⟩ := hkn (by omega)
              obtain ⟨f, hf⟩ : ∃ f : Nat, t.n = (f : Int) := ⟨t.n.toNat, by omega⟩
              obtain ⟨m, hm⟩ : ∃ m, m = f + i := ⟨_, rfl⟩
              have hm' : t.n + (i : Int) = (m : Int) := by omega
              have hmt : t.n.toNat + i = m := by omega
              have hml : m < bd.length := by omega
              have hlt : t.n + (i : Int) < t.n + (kn : Int) := by omega
              rw [hm'] at g9 hlt
              have hw1 : IntKind.i64.wrap ((m : Int) + 1) = t.n + ((i + 1 : Nat) : Int) := by rw [wrap_in] <;> omega
              have hap := at_ne (o := J v (setB (setB bd t.n.toNat true kn) t.n.toNat false i)) (σ := σ) hkp
              rw [hp] at hap
              have hab : Sto.at (σ.set kb (J v (setB (setB bd t.n.toNat true kn) t.n.toNat false i))) kb = J v (setB (setB bd t.n.toNat true kn) t.n.toNat false i) := at_set hb
              have hle : (bcells (setB (setB bd t.n.toNat true kn) t.n.toNat false i)).length = bd.length := by simp [bcells]
              have hpb := put_bcells (setB (setB bd t.n.toNat true kn) t.n.toNat false i) m false (by simpa using hml)
              have hm2 : m + 1 ≤ bd.length := by omega
              have g4' := g4
              rw [encTm_def] at g4
              rw [encC_def] at hap
              simp only [List.cons_append, List.nil_append] at hap
              generalize hS : σ.set kb (J v (setB (setB bd t.n.toNat true kn) t.n.toNat false i)) = S at hap hab
              have hSs : ∀ y, S.set kb y = σ.set kb y := fun y => by rw [← hS, List.set_set]
              unfold J at hab
              generalize bcells (setB (setB bd t.n.toNat true kn) t.n.toNat false i) = B at hab hle hpb
              simp [g0, g2, g4, g7, g8, g9, hwk, hlt, hap, hab, hle, hml, hm2, hSs, hw1]
              rw [hI3]
              refine ⟨rfl, ⟨v + 1, ?_⟩, by simp [g0], by simp [g2], by simp [g4'], by simp [g7], by simp [g8], by simp⟩
              simp only [J, setB, hmt]
              rw [← hpb]
              simp
            · rw [hI3]
              rintro ⟨tm, df, clk⟩ σ'' ⟨rfl, ⟨v, rfl⟩, g0, g2, g4, g7, g8, g9⟩
              have g4' := g4
              rw [encTm_def] at g4
              have hres : setB (setB bd t.n.toNat true kn) t.n.toNat false kn = bd := by
                by_cases h0 : kn = 0
                · rw [h0]; rfl
                · exact reset_B bd _ kn (hkn h0).2.2
              rw [hres]
              simp [g0, g2, g4, g7, g8, g9, hwk]
              rw [hR3]
              exact ⟨rfl, rfl, ⟨v, rfl⟩, by simp [g0], by simp [g2], by simp [g4'], by simp [g7]⟩
            · rw [hR3]
              rintro ex ⟨tm, df, clk⟩ σ'' ⟨rfl, rfl, ⟨v, rfl⟩, g0, g2, g4, g7⟩
              simp [g7, hw]
              rw [hI]
              exact ⟨rfl, ⟨v, rfl⟩, by simpa using hd, by simp [g0], by simp [g2], by simp [g4], by simp⟩
      · have hlast' : ¬ (j : Int) = (t.kids.length : Int) - 1 := by omega
        rw [if_neg hlast] at hd
        obtain ⟨kn, hkd⟩ : ∃ kn : Nat, kn = 0 := ⟨_, rfl⟩
        have e8 : (kn : Int) = 0 := by omega
        have hk4 : kn ≤ 4 := by omega
        have hkn : kn ≠ 0 → 0 ≤ t.n ∧ t.n + (kn : Int) ≤ (bd.length : Int) ∧ anyB bd t.n.toNat kn = false := fun h => absurd hkd h
        have hkz : bd = setB bd t.n.toNat true kn := by rw [hkd]; rfl
        have hti := ht.n
        have hwk : IntKind.i64.wrap (t.n + (kn : Int)) = t.n + (kn : Int) := by
          unfold I64 at hti
          rw [wrap_in] <;> omega
        simp [g0, g2, g4, g7, hj, hws, hlast']
        obtain ⟨I2, hI2⟩ : ∃ I : Nat → TAct → Sto → Prop, I = (fun i a' σ'' => a'.df = [] ∧ (∃ v, σ'' = σ.set kb (J v (setB bd t.n.toNat true i))) ∧ a'.tm.get 0 = some (.ptr p 0) ∧ a'.tm.get 2 = some (.int .i64 left') ∧ a'.tm.get 4 = some (.bx 0 (encTm t) 30) ∧ a'.tm.get 7 = some (.int .i64 j) ∧ a'.tm.get 8 = some (.int .i64 (kn : Int)) ∧ a'.tm.get 9 = some (.int .i64 (t.n + i))) := ⟨_, rfl⟩
        obtain ⟨R2, hR2⟩ : ∃ R : TEx → TAct → Sto → Prop, R = (fun ex a' σ'' => ex = .exit 2 ∧ a'.df = [] ∧ (∃ v, σ'' = σ.set kb (J v (setB bd t.n.toNat true kn))) ∧ a'.tm.get 0 = some (.ptr p 0) ∧ a'.tm.get 2 = some (.int .i64 left') ∧ a'.tm.get 4 = some (.bx 0 (encTm t) 30) ∧ a'.tm.get 7 = some (.int .i64 j) ∧ a'.tm.get 8 = some (.int .i64 (kn : Int))) := ⟨_, rfl⟩
        refine tw_loop I2 kn R2 ?_ (by omega) ?_ ?_ ?_
        · rw [hI2]
          exact ⟨rfl, ⟨v, rfl⟩, by simp [g0], by simp [g2], by simp [g4'], by simp [g7], by simp [e8], by simp⟩
        · rw [hI2]
          rintro i ⟨tm, df, clk⟩ σ'' hi ⟨rfl, ⟨v, rfl⟩, g0, g2, g4, g7, g8, g9⟩
          rw [← hI2]
          obtain ⟨f0, f1, f2⟩ := hkn (by omega)
          obtain ⟨f, hf⟩ : ∃ f : Nat, t.n = (f : Int) := ⟨t.n.toNat, by omega⟩
          obtain ⟨m, hm⟩ : ∃ m, m = f + i := ⟨_, rfl⟩
          have hm' : t.n + (i : Int) = (m : Int) := by omega
          have hmt : t.n.toNat + i = m := by omega
          have hml : m < bd.length := by omega
          have hlt : t.n + (i : Int) < t.n + (kn : Int) := by omega
          rw [hm'] at g9 hlt
          have hw1 : IntKind.i64.wrap ((m : Int) + 1) = t.n + ((i + 1 : Nat) : Int) := by rw [wrap_in] <;> omega
          have hap := at_ne (o := J v (setB bd t.n.toNat true i)) (σ := σ) hkp
          rw [hp] at hap
          have hab : Sto.at (σ.set kb (J v (setB bd t.n.toNat true i))) kb = J v (setB bd t.n.toNat true i) := at_set hb
          have hle : (bcells (setB bd t.n.toNat true i)).length = bd.length := by simp [bcells]
          have hpb := put_bcells (setB bd t.n.toNat true i) m true (by simpa using hml)
          have hm2 : m + 1 ≤ bd.length := by omega
          have g4' := g4
          rw [encTm_def] at g4
          rw [encC_def] at hap
          simp only [List.cons_append, List.nil_append] at hap
          generalize hS : σ.set kb (J v (setB bd t.n.toNat true i)) = S at hap hab
          have hSs : ∀ y, S.set kb y = σ.set kb y := fun y => by rw [← hS, List.set_set]
          unfold J at hab
          generalize bcells (setB bd t.n.toNat true i) = B at hab hle hpb
          simp [g0, g2, g4, g7, g8, g9, hwk, hlt, hap, hab, hle, hml, hm2, hSs, hw1]
          rw [hI2]
          refine ⟨rfl, ⟨v + 1, ?_⟩, by simp [g0], by simp [g2], by simp [g4'], by simp [g7], by simp [g8], by simp⟩
          simp only [J, setB, hmt]
          rw [← hpb]
          simp
        · rw [hI2]
          rintro ⟨tm, df, clk⟩ σ'' ⟨rfl, ⟨v, rfl⟩, g0, g2, g4, g7, g8, g9⟩
          have g4' := g4
          rw [encTm_def] at g4
          simp [g0, g2, g4, g7, g8, g9, hwk]
          rw [hR2]
          exact ⟨rfl, rfl, ⟨v, rfl⟩, by simp [g0], by simp [g2], by simp [g4'], by simp [g7], by simp [g8]⟩
        · rw [hR2]
          rintro ex ⟨tm, df, clk⟩ σ'' ⟨rfl, rfl, ⟨v, rfl⟩, g0, g2, g4, g7, g8⟩
          have hap := at_ne (o := J v (setB bd t.n.toNat true kn)) (σ := σ) hkp
          rw [hp] at hap
          have hab : Sto.at (σ.set kb (J v (setB bd t.n.toNat true kn))) kb = J v (setB bd t.n.toNat true kn) := at_set hb
          have g4' := g4
          rw [encTm_def] at g4
          obtain ⟨v', bd', hl', hr', hcc⟩ := ih t.kids[j] (List.getElem_mem hj) (setB bd t.n.toNat true kn) v σ.length _ hap hab (by simp)
          rw [List.set_set, encTm_def] at hcc
          generalize hS : σ.set kb (J v (setB bd t.n.toNat true kn)) = S at hcc
          rw [← hkz] at hcc
          have hSl : S.length = σ.length := by rw [← hS]; simp
          cases hr : Rf bd t.kids[j] with
          | false =>
            rw [hr] at hd hcc
            simp [g0, g2, g4, g7, g8, hj, hsub, hcc, hSl, encTm_def t.kids[j]]
            rw [hQ]
            exact ⟨rfl, .inr ⟨rfl, by simpa using hd.symm, by simp, v', bd', by rw [hl']; simp, rfl⟩⟩
          | true =>
            rw [hr] at hd hcc
            have hbd := hr' (by rw [← hkz]; exact hr)
            rw [hbd] at hcc
            simp [g0, g2, g4, g7, g8, hj, hsub, hcc, hSl, encTm_def t.kids[j]]
            obtain ⟨I3, hI3⟩ : ∃ I : Nat → TAct → Sto → Prop, I = (fun i a' σ'' => a'.df = [] ∧ (∃ v, σ'' = σ.set kb (J v (setB (setB bd t.n.toNat true kn) t.n.toNat false i))) ∧ a'.tm.get 0 = some (.ptr p 0) ∧ a'.tm.get 2 = some (.int .i64 left') ∧ a'.tm.get 4 = some (.bx 0 (encTm t) 30) ∧ a'.tm.get 7 = some (.int .i64 j) ∧ a'.tm.get 8 = some (.int .i64 (kn : Int)) ∧ a'.tm.get 10 = some (.int .i64 (t.n + i))) := ⟨_, rfl⟩
            obtain ⟨R3, hR3⟩ : ∃ R : TEx → TAct → Sto → Prop, R = (fun ex a' σ'' => ex = .exit 4 ∧ a'.df = [] ∧ (∃ v, σ'' = σ.set kb (J v bd)) ∧ a'.tm.get 0 = some (.ptr p 0) ∧ a'.tm.get 2 = some (.int .i64 left') ∧ a'.tm.get 4 = some (.bx 0 (encTm t) 30) ∧ a'.tm.get 7 = some (.int .i64 j)) := ⟨_, rfl⟩
            refine tw_loop I3 kn R3 ?_ (by omega) ?_ ?_ ?_
            · rw [hI3]
              exact ⟨rfl, ⟨v', rfl⟩, by simp [g0], by simp [g2], by simp [g4'], by simp [g7], by simp [g8], by simp⟩
            · rw [hI3]
              rintro i ⟨tm, df, clk⟩ σ'' hi ⟨rfl, ⟨v, rfl⟩, g0, g2, g4, g7, g8, g9⟩
              rw [← hI3]
              obtain ⟨f0, f1, f2⟩ := hkn (by omega)
              obtain ⟨f, hf⟩ : ∃ f : Nat, t.n = (f : Int) := ⟨t.n.toNat, by omega⟩
              obtain ⟨m, hm⟩ : ∃ m, m = f + i := ⟨_, rfl⟩
              have hm' : t.n + (i : Int) = (m : Int) := by omega
              have hmt : t.n.toNat + i = m := by omega
              have hml : m < bd.length := by omega
              have hlt : t.n + (i : Int) < t.n + (kn : Int) := by omega
              rw [hm'] at g9 hlt
              have hw1 : IntKind.i64.wrap ((m : Int) + 1) = t.n + ((i + 1 : Nat) : Int) := by rw [wrap_in] <;> omega
              have hap := at_ne (o := J v (setB (setB bd t.n.toNat true kn) t.n.toNat false i)) (σ := σ) hkp
              rw [hp] at hap
              have hab : Sto.at (σ.set kb (J v (setB (setB bd t.n.toNat true kn) t.n.toNat false i))) kb = J v (setB (setB bd t.n.toNat true kn) t.n.toNat false i) := at_set hb
              have hle : (bcells (setB (setB bd t.n.toNat true kn) t.n.toNat false i)).length = bd.length := by simp [bcells]
              have hpb := put_bcells (setB (setB bd t.n.toNat true kn) t.n.toNat false i) m false (by simpa using hml)
              have hm2 : m + 1 ≤ bd.length := by omega
              have g4' := g4
              rw [encTm_def] at g4
              rw [encC_def] at hap
              simp only [List.cons_append, List.nil_append] at hap
              generalize hS : σ.set kb (J v (setB (setB bd t.n.toNat true kn) t.n.toNat false i)) = S at hap hab
              have hSs : ∀ y, S.set kb y = σ.set kb y := fun y => by rw [← hS, List.set_set]
              unfold J at hab
              generalize bcells (setB (setB bd t.n.toNat true kn) t.n.toNat false i) = B at hab hle hpb
              simp [g0, g2, g4, g7, g8, g9, hwk, hlt, hap, hab, hle, hml, hm2, hSs, hw1]
              rw [hI3]
              refine ⟨rfl, ⟨v + 1, ?_⟩, by simp [g0], by simp [g2], by simp [g4'], by simp [g7], by simp [g8], by simp⟩
              simp only [J, setB, hmt]
              rw [← hpb]
              simp
            · rw [hI3]
              rintro ⟨tm, df, clk⟩ σ'' ⟨rfl, ⟨v, rfl⟩, g0, g2, g4, g7, g8, g9⟩
              have g4' := g4
              rw [encTm_def] at g4
              have hres : setB (setB bd t.n.toNat true kn) t.n.toNat false kn = bd := by
                by_cases h0 : kn = 0
                · rw [h0]; rfl
                · exact reset_B bd _ kn (hkn h0).2.2
              rw [hres]
              simp [g0, g2, g4, g7, g8, g9, hwk]
              rw [hR3]
              exact ⟨rfl, rfl, ⟨v, rfl⟩, by simp [g0], by simp [g2], by simp [g4'], by simp [g7]⟩
            · rw [hR3]
              rintro ex ⟨tm, df, clk⟩ σ'' ⟨rfl, rfl, ⟨v, rfl⟩, g0, g2, g4, g7⟩
              simp [g7, hw]
              rw [hI]
              exact ⟨rfl, ⟨v, rfl⟩, by simpa using hd, by simp [g0], by simp [g2], by simp [g4], by simp⟩
    · rw [hI]
      rintro ⟨tm, df, clk⟩ σ' ⟨rfl, hv, hd, g0, g2, g4, g7⟩
      rw [List.drop_of_length_le (Nat.le_refl _)] at hd
      rw [encTm_def] at g4
      simp [g4, g7]
      rw [hQ]
      exact ⟨rfl, .inl ⟨rfl, by rw [← hd]; rfl, hv⟩⟩
    · rw [hQ]
      rintro ex ⟨tm, df, clk⟩ σ' ⟨rfl, ⟨rfl, h, v, rfl⟩ | ⟨rfl, h, g6, v', bd', h1, rfl⟩⟩
      · simp [h]
        exact ⟨v, bd, rfl, rfl, rfl⟩
      · simp [h, g6]
        exact ⟨v', bd', h1, rfl⟩
end Go.Xe.YtalckpkiplhbcaaGreatDoor
end
section
namespace Go.Xe.YtalckpkiplhbcaaGreatDoor
open Go Go.Xe Go.Xt
set_option linter.unusedVariables false
set_option linter.unusedSimpArgs false
variable {F : FuncId → Option TFun} {O : FuncId → List TV → Option TV}
def initB (s n : Nat) : List Bool := setB (List.replicate s false) 0 true n
def bodyB (c : PCore) (d : PBody) : Bool := decide (0 ≤ d.params ∧ d.params ≤ 8 ∧ d.params ≤ d.slots ∧ d.slots ≤ 1000) && rightTm c 200 (initB d.slots.toNat d.params.toNat) d.term
theorem rep_bcells : ∀ s, repT [TV.bool false] s = bcells (List.replicate s false)
  | 0 => rfl
  | s + 1 => by simp only [repT, rep_bcells s]; rfl
theorem at_last {σ τ : Sto} {o : TObj} : Sto.at (σ ++ some o :: τ) σ.length = some o := by simp [Sto.at]
theorem set_last {σ τ : Sto} {o x : Option TObj} : (σ ++ o :: τ).set σ.length x = σ ++ x :: τ := by simp
structure BFits (F : FuncId → Option TFun) : Prop where
  t : TFits F
  h29 : F 29 = some f29
set_option maxHeartbeats 1000000 in
theorem bodyv_t (V : BFits F) (c : PCore) (N : Nat) (d : PBody) (s0 : Int) (b p vl : Nat) (σ : Sto) (hN : 3 * szTm d.term + 10 ≤ N) (hd : OkTm d.term)
    (hp : σ.at p = some ⟨vl, .cells (lookC c s0) 69⟩) :
    ∃ v' s', tcall F O (N + 1) b 29 [.ptr p 0, .agg (encBd d)] σ = some (.ret (.bool (bodyB c d)), σ.set p (some ⟨v', .cells (lookC c s') 69⟩)) := by
  have hsame := Sto.set_same hp
  have hpl := Sto.lt hp
  obtain ⟨Z, hZ⟩ : ∃ Z, Z = bodyB c d := ⟨_, rfl⟩
  rw [← hZ]
  unfold bodyB at hZ
  by_cases h1 : 0 ≤ d.params
  case neg =>
    have h1' : d.params < 0 := by omega
    rw [decide_eq_false (by omega), Bool.false_and] at hZ
    refine ⟨vl, s0, ?_⟩
    rw [hsame]
    refine tcall_pure V.h29 ?_
    simp [x29, undT, encBd_def, h1', hZ]
  have h1' : ¬ d.params < 0 := by omega
  by_cases h2 : d.params ≤ 8
  case neg =>
    have h2' : 8 < d.params := by omega
    rw [decide_eq_false (by omega), Bool.false_and] at hZ
    refine ⟨vl, s0, ?_⟩
    rw [hsame]
    refine tcall_pure V.h29 ?_
    simp [x29, undT, encBd_def, h1', h2', hZ]
  have h2' : ¬ 8 < d.params := by omega
  by_cases h3 : d.params ≤ d.slots
  case neg =>
    have h3' : d.slots < d.params := by omega
    rw [decide_eq_false (by omega), Bool.false_and] at hZ
    refine ⟨vl, s0, ?_⟩
    rw [hsame]
    refine tcall_pure V.h29 ?_
    simp [x29, undT, encBd_def, h1', h2', h3', hZ]
  have h3' : ¬ d.slots < d.params := by omega
  by_cases h4 : d.slots ≤ 1000
  case neg =>
    have h4' : 1000 < d.slots := by omega
    rw [decide_eq_false (by omega), Bool.false_and] at hZ
    refine ⟨vl, s0, ?_⟩
    rw [hsame]
    refine tcall_pure V.h29 ?_
    simp [x29, undT, encBd_def, h1', h2', h3', h4', hZ]
  have h4' : ¬ 1000 < d.slots := by omega
  rw [decide_eq_true (by omega), Bool.true_and] at hZ
  obtain ⟨s, hs⟩ : ∃ s : Nat, d.slots = (s : Int) := ⟨d.slots.toNat, by omega⟩
  obtain ⟨n, hn⟩ : ∃ n : Nat, d.params = (n : Int) := ⟨d.params.toNat, by omega⟩
  rw [hs, hn] at h3' hZ
  rw [hn] at h1' h2'
  rw [hs] at h4'
  rw [Int.toNat_natCast, Int.toNat_natCast] at hZ
  have hns : n ≤ s := by omega
  have hlk := hp
  unfold lookC at hlk
  rw [encC_def] at hlk
  simp only [List.cons_append, List.nil_append] at hlk
  suffices hh : ∃ e σ', tcall F O (N + 1) b 29 [.ptr p 0, .agg (encBd d)] σ = some (e, σ') ∧ (e = .ret (.bool Z) ∧ ∃ v' s', σ' = σ.set p (some ⟨v', .cells (lookC c s') 69⟩)) by
    obtain ⟨e, σ', q1, rfl, v', s', rfl⟩ := hh
    exact ⟨v', s', q1⟩
  refine tcall_of V.h29 ?_
  have hb1 : s ≤ 281474976710656 := by omega
  have hb2 : s ≤ 9223372036854775807 := by omega
  simp [x29, undT, encBd_def, hs, hn, h1', h2', h3', h4', hb1, hb2]
  obtain ⟨B, hB⟩ : ∃ B : List TV, B = [.int .i64 (n : Int), .int .i64 (s : Int), .int .i64 d.term.kind, .int .i64 d.term.n, .int .i64 d.term.m, .int .i64 d.term.val.kind, .int .i64 d.term.val.n, .sl .fz (d.term.val.list.map encV), .sl .fz (d.term.odds.map encI), .sl .fz (d.term.kids.map encTm)] := ⟨_, rfl⟩
  obtain ⟨I, hI⟩ : ∃ I : Nat → TAct → Sto → Prop, I = (fun j a' σ' => a'.df = [] ∧ σ'.take σ.length = σ ∧ (∃ ver, σ'.at σ.length = some ⟨ver, .cells (bcells (initB s j)) 4⟩) ∧ a'.tm.get 0 = some (.ptr p 0) ∧ a'.tm.get 3 = some (.bx 0 B 32) ∧ (∃ cap, a'.tm.get 5 = some (.ref σ.length 0 1 s cap)) ∧ a'.tm.get 31 = some (.int .i64 (n : Int)) ∧ a'.tm.get 32 = some (.int .i64 j)) := ⟨_, rfl⟩
  obtain ⟨Q, hQ⟩ : ∃ R' : TEx → TAct → Sto → Prop, R' = (fun ex a' σ' => ex = .exit 0 ∧ a'.df = [] ∧ σ'.take σ.length = σ ∧ (∃ ver, σ'.at σ.length = some ⟨ver, .cells (bcells (initB s n)) 4⟩) ∧ a'.tm.get 0 = some (.ptr p 0) ∧ a'.tm.get 3 = some (.bx 0 B 32) ∧ (∃ cap, a'.tm.get 5 = some (.ref σ.length 0 1 s cap))) := ⟨_, rfl⟩
  refine tw_loop I n Q ?_ (by omega) ?_ ?_ ?_
  · rw [hI]
    exact ⟨rfl, by simp, ⟨0, by rw [at_last]; simp only [initB, setB, rep_bcells]⟩, by simp, by simp [hB], ⟨_, by simp; rfl⟩, by simp, by simp⟩
  · rw [hI]
    rintro j ⟨tm, df, clk⟩ σ' hj ⟨rfl, htk, ⟨ver, hv⟩, g0, g3, ⟨cap, g5⟩, g31, g32⟩
    rw [← hI]
    have hj' : (j : Int) < (n : Int) := by omega
    have hjs : j < s := by omega
    have hj1 : j + 1 ≤ s := by omega
    have hw : IntKind.i64.wrap ((j : Int) + 1) = ((j + 1 : Nat) : Int) := by rw [wrap_in] <;> omega
    have hle : (bcells (initB s j)).length = s := by simp [bcells, initB]
    have hpb := put_bcells (initB s j) j true (by simp [initB]; exact hjs)
    have hlt := Sto.lt hv
    generalize hB2 : bcells (initB s j) = B2 at hv hle hpb
    simp [g0, g3, g5, g31, g32, hj, hj', hjs, hj1, hw, hv, hle]
    rw [hI]
    refine ⟨rfl, by rw [take_set_ge (Nat.le_refl _)]; exact htk, ⟨ver + 1, ?_⟩, by simp [g0], by simp [g3], ⟨cap, by simp [g5]⟩, by simp [g31], by simp⟩
    have e : initB s (j + 1) = (initB s j).set j true := by simp only [initB, setB, Nat.zero_add]
    rw [e, ← hpb]
    simp [Sto.at, hlt]
  · rw [hI]
    rintro ⟨tm, df, clk⟩ σ' ⟨rfl, htk, hv, g0, g3, g5, g31, g32⟩
    obtain ⟨cap, g5⟩ := g5
    simp [g31, g32]
    rw [hQ]
    exact ⟨rfl, rfl, htk, hv, by simp [g0], by simp [g3], ⟨cap, by simp [g5]⟩⟩
  · rw [hQ]
    rintro ex ⟨tm, df, clk⟩ σ' ⟨rfl, rfl, htk, ⟨ver, hv⟩, g0, g3, ⟨cap, g5⟩⟩
    have hpx := at_take htk hlk
    rw [hB] at g3
    obtain ⟨X, hX⟩ : ∃ X : Option TObj, X = some ⟨vl + 1, .cells (lookC c (s : Int)) 69⟩ := ⟨_, rfl⟩
    have hpl' : p < σ'.length := Sto.lt hpx
    have hSp : Sto.at (σ'.set p X) p = some ⟨vl + 1, .cells (lookC c (s : Int)) 69⟩ := by rw [hX]; simp [Sto.at, hpl']
    have hSb : Sto.at (σ'.set p X) σ.length = some ⟨ver, .cells (bcells (initB s n)) 4⟩ := by rw [at_ne (by omega)]; exact hv
    have hil : (initB s n).length = s := by simp [initB]
    have hcc := rightv_t (O := O) V.t c N d.term 200 (initB s n) σ.length p σ.length (vl + 1) ver cap (σ'.set p X) (by omega) hd (by omega) (by rw [hil]; exact hSp) hSb (by omega)
    rw [hil, ← hZ, encTm_def] at hcc
    have hX' := hX
    unfold lookC at hX'
    rw [encC_def] at hX'
    simp only [List.cons_append, List.nil_append] at hX'
    have e200 : ((200 : Nat) : Int) = 200 := rfl
    rw [e200] at hcc
    simp [g0, g3, g5, hpx, ← hX', hcc]
    refine ⟨vl + 1, s, ?_⟩
    rw [← hX, List.take_set, htk]
end Go.Xe.YtalckpkiplhbcaaGreatDoor
end
section
namespace Go.Xe.YtalckpkiplhbcaaGreatDoor
open Go Go.Xe Go.Xt
set_option linter.unusedVariables false
set_option linter.unusedSimpArgs false
variable {F : FuncId → Option TFun} {O : FuncId → List TV → Option TV}
@[simp] def a31k : Ann := fun d => if d = 32 then 3 else a31 d
def f31k : TFun := ⟨x31, a31k, false⟩
@[simp] theorem f31k_an : f31k.an = a31k := rfl
@[simp] theorem f31k_body : f31k.fn.body = x31.body := rfl
@[simp] theorem f31k_keep : f31k.keep = false := rfl
@[simp] theorem f31k_res : f31k.fn.results = [.tmp 4] := rfl
structure DFits (F : FuncId → Option TFun) : Prop where
  j : JFits F
  h31 : F 31 = some f31k
set_option maxHeartbeats 1000000 in
theorem bodyr_t (V : DFits F) (c : PCore) (N : Nat) (d : PBody) (b : Nat) (σ : Sto) (hN : 3 * szTm d.term + 10 ≤ N) (hd : OkTm d.term) :
    tcall F O (N + 1) b 31 [.agg (encC c), .agg (encBd d)] σ = some (.ret (.bool (bodyB c d)), σ) := by
  obtain ⟨Z, hZ⟩ : ∃ Z, Z = bodyB c d := ⟨_, rfl⟩
  rw [← hZ]
  unfold bodyB at hZ
  by_cases h1 : 0 ≤ d.params
  case neg =>
    have h1' : d.params < 0 := by omega
    rw [decide_eq_false (by omega), Bool.false_and] at hZ
    refine tcall_pure V.h31 ?_
    simp [x31, undT, encBd_def, encC_def, h1', hZ]
  have h1' : ¬ d.params < 0 := by omega
  by_cases h2 : d.params ≤ 8
  case neg =>
    have h2' : 8 < d.params := by omega
    rw [decide_eq_false (by omega), Bool.false_and] at hZ
    refine tcall_pure V.h31 ?_
    simp [x31, undT, encBd_def, encC_def, h1', h2', hZ]
  have h2' : ¬ 8 < d.params := by omega
  by_cases h3 : d.params ≤ d.slots
  case neg =>
    have h3' : d.slots < d.params := by omega
    rw [decide_eq_false (by omega), Bool.false_and] at hZ
    refine tcall_pure V.h31 ?_
    simp [x31, undT, encBd_def, encC_def, h1', h2', h3', hZ]
  have h3' : ¬ d.slots < d.params := by omega
  by_cases h4 : d.slots ≤ 1000
  case neg =>
    have h4' : 1000 < d.slots := by omega
    rw [decide_eq_false (by omega), Bool.false_and] at hZ
    refine tcall_pure V.h31 ?_
    simp [x31, undT, encBd_def, encC_def, h1', h2', h3', h4', hZ]
  have h4' : ¬ 1000 < d.slots := by omega
  rw [decide_eq_true (by omega), Bool.true_and] at hZ
  obtain ⟨s, hs⟩ : ∃ s : Nat, d.slots = (s : Int) := ⟨d.slots.toNat, by omega⟩
  obtain ⟨n, hn⟩ : ∃ n : Nat, d.params = (n : Int) := ⟨d.params.toNat, by omega⟩
  rw [hs, hn] at h3' hZ
  rw [hn] at h1' h2'
  rw [hs] at h4'
  rw [Int.toNat_natCast, Int.toNat_natCast] at hZ
  have hns : n ≤ s := by omega
  refine tcall_pure V.h31 ?_
  have hb1 : s ≤ 281474976710656 := by omega
  have hb2 : s ≤ 9223372036854775807 := by omega
  obtain ⟨EC, hEC⟩ : ∃ EC : List TV, EC = encC c := ⟨_, rfl⟩
  rw [encC_def] at hEC
  obtain ⟨B, hB⟩ : ∃ B : List TV, B = [.int .i64 (n : Int), .int .i64 (s : Int), .int .i64 d.term.kind, .int .i64 d.term.n, .int .i64 d.term.m, .int .i64 d.term.val.kind, .int .i64 d.term.val.n, .sl .fz (d.term.val.list.map encV), .sl .fz (d.term.odds.map encI), .sl .fz (d.term.kids.map encTm)] := ⟨_, rfl⟩
  simp [x31, undT, encBd_def, encC_def, hs, hn, h1', h2', h3', h4', hb1, hb2]
  obtain ⟨I, hI⟩ : ∃ I : Nat → TAct → Sto → Prop, I = (fun j a' σ' => a'.df = [] ∧ σ'.take σ.length = σ ∧ (∃ ver, σ'.at σ.length = some ⟨ver, .cells (bcells (initB s j)) 4⟩) ∧ (∃ cap, σ'.at (σ.length + 1) = some ⟨0, .cells (encC c ++ [.int .i64 (s : Int), .ref σ.length 0 1 s cap]) 107⟩) ∧ a'.tm.get 3 = some (.bx 2 B 32) ∧ a'.tm.get 5 = some (.ptr (σ.length + 1) 0) ∧ a'.tm.get 6 = some (.int .i64 j)) := ⟨_, rfl⟩
  obtain ⟨Q, hQ⟩ : ∃ R' : TEx → TAct → Sto → Prop, R' = (fun ex a' σ' => ex = .exit 0 ∧ a'.df = [] ∧ σ'.take σ.length = σ ∧ (∃ ver, σ'.at σ.length = some ⟨ver, .cells (bcells (initB s n)) 4⟩) ∧ (∃ cap, σ'.at (σ.length + 1) = some ⟨0, .cells (encC c ++ [.int .i64 (s : Int), .ref σ.length 0 1 s cap]) 107⟩) ∧ a'.tm.get 3 = some (.bx 2 B 32) ∧ a'.tm.get 5 = some (.ptr (σ.length + 1) 0)) := ⟨_, rfl⟩
  refine tw_loop I n Q ?_ (by omega) ?_ ?_ ?_
  · rw [hI]
    exact ⟨rfl, by simp, ⟨0, by rw [at_last]; simp only [initB, setB, rep_bcells]⟩, ⟨_, by simp [Sto.at, encC_def]; rfl⟩, by simp [hB], by simp, by simp⟩
  · rw [hI]
    rintro j ⟨tm, df, clk⟩ σ' hj ⟨rfl, htk, ⟨ver, hv⟩, ⟨cap, hjd⟩, g3, g5, g6⟩
    rw [← hI]
    have hj' : (j : Int) < (n : Int) := by omega
    have hjs : j < s := by omega
    have hj1 : j + 1 ≤ s := by omega
    have hw : IntKind.i64.wrap ((j : Int) + 1) = ((j + 1 : Nat) : Int) := by rw [wrap_in] <;> omega
    have hle : (bcells (initB s j)).length = s := by simp [bcells, initB]
    have hpb := put_bcells (initB s j) j true (by simp [initB]; exact hjs)
    have hlt := Sto.lt hv
    have hjd' := hjd
    rw [encC_def] at hjd
    simp only [List.cons_append, List.nil_append] at hjd
    have g3' := g3
    rw [hB] at g3
    generalize hB2 : bcells (initB s j) = B2 at hv hle hpb
    simp [g3, g5, g6, hj, hj', hjs, hj1, hw, hv, hle, hjd]
    rw [hI]
    refine ⟨rfl, by rw [take_set_ge (Nat.le_refl _)]; exact htk, ⟨ver + 1, ?_⟩, ⟨cap, by rw [at_ne (by omega)]; exact hjd'⟩, by simp [g3'], by simp [g5], by simp⟩
    have e : initB s (j + 1) = (initB s j).set j true := by simp only [initB, setB, Nat.zero_add]
    rw [e, ← hpb]
    simp [Sto.at, hlt]
  · rw [hI]
    rintro ⟨tm, df, clk⟩ σ' ⟨rfl, htk, hv, hjd, g3, g5, g6⟩
    have g3' := g3
    rw [hB] at g3
    simp [g3, g6]
    rw [hQ]
    exact ⟨rfl, rfl, htk, hv, hjd, by simp [g3'], by simp [g5]⟩
  · rw [hQ]
    rintro ex ⟨tm, df, clk⟩ σ' ⟨rfl, rfl, htk, ⟨ver, hv⟩, ⟨cap, hjd⟩, g3, g5⟩
    rw [hB] at g3
    have hil : (initB s n).length = s := by simp [initB]
    obtain ⟨v', bd', _, _, hcc⟩ := rightr_t (O := O) V.j c N d.term 200 (initB s n) σ.length (σ.length + 1) σ.length 0 ver cap σ' (by omega) hd (by omega) (by omega) (by rw [hil]; exact hjd) hv (by omega)
    rw [← hZ, encTm_def] at hcc
    have e200 : ((200 : Nat) : Int) = 200 := rfl
    rw [e200] at hcc
    simp [g3, g5, hcc]
    rw [take_set_ge (Nat.le_refl _), htk]
end Go.Xe.YtalckpkiplhbcaaGreatDoor
end
section
namespace Go.Xe.YtalckpkiplhbcaaGreatDoor
open Go Go.Xe Go.Xt
set_option linter.unusedVariables false
set_option linter.unusedSimpArgs false
variable {F : FuncId → Option TFun} {O : FuncId → List TV → Option TV}
def tyB (t : PTyp) : Bool := rightT 40 (embT t)
def coreB (c : PCore) : Bool := decide (c.types.length ≤ 8 ∧ c.funs.length ≤ 40 ∧ 0 ≤ c.sites ∧ c.sites ≤ 100000 ∧ c.query.params = (c.types.length : Int)) && (c.types.all tyB && (c.funs.all (bodyB c) && bodyB c c.query))
structure CFits (F : FuncId → Option TFun) : Prop where
  v : BFits F
  r : DFits F
  h9 : F 9 = some f9
  h10 : F 10 = some f10
  h30 : F 30 = some f30
  h58 : F 58 = some f58
structure Lim (M : Nat) (c : PCore) : Prop where
  types : szTs c.types < M
  funs : ∀ f ∈ c.funs, 3 * szTm f.term + 10 ≤ M
  flen : c.funs.length < M
  query : 3 * szTm c.query.term + 10 ≤ M
set_option maxHeartbeats 1000000 in
theorem corev_t (V : CFits F) (M : Nat) (c : PCore) (b : Nat) (σ : Sto) (hM : Lim M c) (ho : OkC c) :
    tcall F O (M + 2) b 9 [.agg (encC c)] σ = some (.ret (.bool (coreB c)), σ) := by
  have htl := szTs_len c.types
  obtain ⟨Z, hZ⟩ : ∃ Z, Z = coreB c := ⟨_, rfl⟩
  rw [← hZ]
  unfold coreB at hZ
  refine tcall_pure V.h9 ?_
  by_cases h1 : c.types.length ≤ 8
  case neg =>
    have h1' : (8 : Int) < (c.types.length : Int) := by omega
    rw [decide_eq_false (by omega), Bool.false_and] at hZ
    simp [x9, undT, encC_def, h1', hZ]
  have h1' : ¬ (8 : Int) < (c.types.length : Int) := by omega
  by_cases h2 : c.funs.length ≤ 40
  case neg =>
    have h2' : (40 : Int) < (c.funs.length : Int) := by omega
    rw [decide_eq_false (by omega), Bool.false_and] at hZ
    simp [x9, undT, encC_def, h1', h2', hZ]
  have h2' : ¬ (40 : Int) < (c.funs.length : Int) := by omega
  by_cases h3 : 0 ≤ c.sites
  case neg =>
    have h3' : c.sites < 0 := by omega
    rw [decide_eq_false (by omega), Bool.false_and] at hZ
    simp [x9, undT, encC_def, h1', h2', h3', hZ]
  have h3' : ¬ c.sites < 0 := by omega
  by_cases h4 : c.sites ≤ 100000
  case neg =>
    have h4' : 100000 < c.sites := by omega
    rw [decide_eq_false (by omega), Bool.false_and] at hZ
    simp [x9, undT, encC_def, h1', h2', h3', h4', hZ]
  have h4' : ¬ 100000 < c.sites := by omega
  by_cases h5 : c.query.params = (c.types.length : Int)
  case neg =>
    rw [decide_eq_false (fun e => h5 e.2.2.2.2), Bool.false_and] at hZ
    simp [x9, undT, encC_def, h1', h2', h3', h4', h5, hZ]
  rw [decide_eq_true ⟨h1, h2, h3, h4, h5⟩, Bool.true_and] at hZ
  obtain ⟨EC, hEC⟩ : ∃ EC : List TV, EC = encC c := ⟨_, rfl⟩
  have hEC' := hEC
  rw [encC_def] at hEC
  simp [x9, undT, ← hEC']
  simp [x9, undT, hEC, h1', h2', h3', h4', h5]
  obtain ⟨I, hI⟩ : ∃ I : Nat → TAct → Sto → Prop, I = (fun j a σ' => a.df = [] ∧ σ' = σ ∧ (c.types.drop j).all tyB = c.types.all tyB ∧ a.tm.get 1 = some (.bx 0 EC 34) ∧ a.tm.get 38 = some (.sl .fz (c.types.map encT)) ∧ a.tm.get 39 = some (.int .i64 (c.types.length : Int)) ∧ a.tm.get 40 = some (.int .i64 j)) := ⟨_, rfl⟩
  obtain ⟨R, hR⟩ : ∃ R : TEx → TAct → Sto → Prop, R = (fun ex a σ' => a.df = [] ∧ σ' = σ ∧ (ex = .exit 0 ∧ c.types.all tyB = true ∧ a.tm.get 1 = some (.bx 0 EC 34) ∨ ex = .ret ∧ c.types.all tyB = false ∧ a.tm.get 2 = some (.bool false))) := ⟨_, rfl⟩
  refine tw_loop I c.types.length R ?_ (by have := hM.types; omega) ?_ ?_ ?_
  · rw [hI]
    exact ⟨rfl, rfl, by rw [List.drop_zero], by simp [hEC, h5], by simp, by simp, by simp⟩
  · rw [hI]
    rintro j ⟨tm, df, clk⟩ σ' hj ⟨rfl, rfl, hd, g1, g38, g39, g40⟩
    rw [← hI]
    have hw := wrapJ hj ho.tlen
    rw [all_step hj] at hd
    have hsz := szTs_mem _ _ (List.getElem_mem hj)
    have hcc := typeRight_t (O := O) V.v.t.v.h28 V.v.t.v.h56 V.v.t.v.h96 V.v.t.v.h95 V.v.t.v.h149 M (embT c.types[j]) σ'.length σ' (by rw [szQ_emb]; have := hM.types; omega) (okQ_emb _ _ (Nat.le_refl _) (ho.types _ (List.getElem_mem hj)))
    rw [encQ_emb, encT_def] at hcc
    have et : rightT 40 (embT c.types[j]) = tyB c.types[j] := rfl
    rw [et] at hcc
    cases hs : tyB c.types[j] with
    | false =>
      rw [hs] at hd hcc
      simp [g1, g38, g39, g40, hj, hw, hcc, encT_def c.types[j]]
      rw [hR]
      exact ⟨rfl, rfl, .inr ⟨rfl, by simpa using hd.symm, by simp⟩⟩
    | true =>
      rw [hs] at hd hcc
      simp [g1, g38, g39, g40, hj, hw, hcc, encT_def c.types[j]]
      rw [hI]
      exact ⟨rfl, rfl, by simpa using hd, by simp [g1], by simp [g38], by simp [g39], by simp⟩
  · rw [hI]
    rintro ⟨tm, df, clk⟩ σ' ⟨rfl, rfl, hd, g1, g38, g39, g40⟩
    rw [List.drop_of_length_le (Nat.le_refl _)] at hd
    simp [g39, g40]
    rw [hR]
    exact ⟨rfl, rfl, .inl ⟨rfl, by rw [← hd]; rfl, by simp [g1]⟩⟩
  · rw [hR]
    rintro ex ⟨tm, df, clk⟩ σ' ⟨rfl, rfl, ⟨rfl, h, g1⟩ | ⟨rfl, h, g2⟩⟩
    case inr =>
      rw [h, Bool.false_and] at hZ
      simp [g2, hZ]
    rw [h, Bool.true_and] at hZ
    have g1' := g1
    rw [hEC] at g1
    simp [g1]
    obtain ⟨I2, hI2⟩ : ∃ I : Nat → TAct → Sto → Prop, I = (fun j a σ2 => a.df = [] ∧ (∃ v s, σ2 = σ' ++ [some ⟨v, .cells (lookC c s) 69⟩]) ∧ (c.funs.drop j).all (bodyB c) = c.funs.all (bodyB c) ∧ a.tm.get 1 = some (.bx 0 EC 34) ∧ a.tm.get 5 = some (.ptr σ'.length 0) ∧ a.tm.get 52 = some (.sl .fz (c.funs.map encBd)) ∧ a.tm.get 53 = some (.int .i64 (c.funs.length : Int)) ∧ a.tm.get 54 = some (.int .i64 j)) := ⟨_, rfl⟩
    obtain ⟨R2, hR2⟩ : ∃ R : TEx → TAct → Sto → Prop, R = (fun ex a σ2 => a.df = [] ∧ (∃ v s, σ2 = σ' ++ [some ⟨v, .cells (lookC c s) 69⟩]) ∧ (ex = .exit 2 ∧ c.funs.all (bodyB c) = true ∧ a.tm.get 1 = some (.bx 0 EC 34) ∧ a.tm.get 5 = some (.ptr σ'.length 0) ∨ ex = .ret ∧ c.funs.all (bodyB c) = false ∧ a.tm.get 2 = some (.bool false))) := ⟨_, rfl⟩
    refine tw_loop I2 c.funs.length R2 ?_ (by have := hM.flen; omega) ?_ ?_ ?_
    · rw [hI2]
      exact ⟨rfl, ⟨0, 0, by simp [lookC, encC_def]⟩, by rw [List.drop_zero], by simp [g1'], by simp, by simp, by simp, by simp⟩
    · rw [hI2]
      rintro j ⟨tm, df, clk⟩ σ2 hj ⟨rfl, ⟨v, s, rfl⟩, hd, g1, g5, g52, g53, g54⟩
      rw [← hI2]
      have hw := wrapJ hj ho.flen
      rw [all_step hj] at hd
      have hp := at_last (σ := σ') (τ := []) (o := ⟨v, .cells (lookC c s) 69⟩)
      obtain ⟨v', s', hcc⟩ := bodyv_t (O := O) V.v c M c.funs[j] s σ'.length σ'.length v (σ' ++ [some ⟨v, .cells (lookC c s) 69⟩]) (hM.funs _ (List.getElem_mem hj)) (ho.funs _ (List.getElem_mem hj)).term hp
      rw [set_last, encBd_def] at hcc
      cases hs : bodyB c c.funs[j] with
      | false =>
        rw [hs] at hd hcc
        simp [g1, g5, g52, g53, g54, hj, hw, hcc, encBd_def c.funs[j]]
        rw [hR2]
        exact ⟨rfl, ⟨v', s', rfl⟩, .inr ⟨rfl, by simpa using hd.symm, by simp⟩⟩
      | true =>
        rw [hs] at hd hcc
        simp [g1, g5, g52, g53, g54, hj, hw, hcc, encBd_def c.funs[j]]
        rw [hI2]
        exact ⟨rfl, ⟨v', s', rfl⟩, by simpa using hd, by simp [g1], by simp [g5], by simp [g52], by simp [g53], by simp⟩
    · rw [hI2]
      rintro ⟨tm, df, clk⟩ σ2 ⟨rfl, hst, hd, g1, g5, g52, g53, g54⟩
      rw [List.drop_of_length_le (Nat.le_refl _)] at hd
      simp [g53, g54]
      rw [hR2]
      exact ⟨rfl, hst, .inl ⟨rfl, by rw [← hd]; rfl, by simp [g1], by simp [g5]⟩⟩
    · rw [hR2]
      rintro ex ⟨tm, df, clk⟩ σ2 ⟨rfl, ⟨v, s, rfl⟩, ⟨rfl, h, g1, g5⟩ | ⟨rfl, h, g2⟩⟩
      · rw [h, Bool.true_and] at hZ
        have hp := at_last (σ := σ') (τ := []) (o := ⟨v, .cells (lookC c s) 69⟩)
        obtain ⟨v', s', hcc⟩ := bodyv_t (O := O) V.v c M c.query s σ'.length σ'.length v (σ' ++ [some ⟨v, .cells (lookC c s) 69⟩]) hM.query ho.query.term hp
        rw [set_last, encBd_def, ← hZ] at hcc
        rw [hEC] at g1
        simp [g1, g5, hcc]
      · rw [h, Bool.false_and] at hZ
        simp [g2, hZ]
set_option maxHeartbeats 1000000 in
theorem corer_t (V : CFits F) (M : Nat) (c : PCore) (b : Nat) (σ : Sto) (hM : Lim M c) (ho : OkC c) :
    tcall F O (M + 2) b 10 [.agg (encC c)] σ = some (.ret (.bool (coreB c)), σ) := by
  have htl := szTs_len c.types
  obtain ⟨Z, hZ⟩ : ∃ Z, Z = coreB c := ⟨_, rfl⟩
  rw [← hZ]
  unfold coreB at hZ
  refine tcall_pure V.h10 ?_
  by_cases h1 : c.types.length ≤ 8
  case neg =>
    have h1' : (8 : Int) < (c.types.length : Int) := by omega
    rw [decide_eq_false (by omega), Bool.false_and] at hZ
    simp [x10, undT, encC_def, h1', hZ]
  have h1' : ¬ (8 : Int) < (c.types.length : Int) := by omega
  by_cases h2 : c.funs.length ≤ 40
  case neg =>
    have h2' : (40 : Int) < (c.funs.length : Int) := by omega
    rw [decide_eq_false (by omega), Bool.false_and] at hZ
    simp [x10, undT, encC_def, h1', h2', hZ]
  have h2' : ¬ (40 : Int) < (c.funs.length : Int) := by omega
  by_cases h5 : c.query.params = (c.types.length : Int)
  case neg =>
    rw [decide_eq_false (fun e => h5 e.2.2.2.2), Bool.false_and] at hZ
    simp [x10, undT, encC_def, h1', h2', h5, hZ]
  by_cases h3 : 0 ≤ c.sites
  case neg =>
    have h3' : c.sites < 0 := by omega
    rw [decide_eq_false (by omega), Bool.false_and] at hZ
    simp [x10, undT, encC_def, h1', h2', h3', h5, hZ]
  have h3' : ¬ c.sites < 0 := by omega
  by_cases h4 : c.sites ≤ 100000
  case neg =>
    have h4' : 100000 < c.sites := by omega
    rw [decide_eq_false (by omega), Bool.false_and] at hZ
    simp [x10, undT, encC_def, h1', h2', h3', h4', h5, hZ]
  have h4' : ¬ 100000 < c.sites := by omega
  rw [decide_eq_true ⟨h1, h2, h3, h4, h5⟩, Bool.true_and] at hZ
  obtain ⟨EC, hEC⟩ : ∃ EC : List TV, EC = encC c := ⟨_, rfl⟩
  have hEC' := hEC
  rw [encC_def] at hEC
  simp [x10, undT, ← hEC']
  simp [x10, undT, hEC, h1', h2', h3', h4', h5]
  obtain ⟨I, hI⟩ : ∃ I : Nat → TAct → Sto → Prop, I = (fun j a σ' => a.df = [] ∧ σ' = σ ∧ (c.types.drop j).all tyB = c.types.all tyB ∧ a.tm.get 1 = some (.bx 0 EC 34) ∧ a.tm.get 3 = some (.int .i64 j)) := ⟨_, rfl⟩
  obtain ⟨R, hR⟩ : ∃ R : TEx → TAct → Sto → Prop, R = (fun ex a σ' => a.df = [] ∧ σ' = σ ∧ (ex = .exit 0 ∧ c.types.all tyB = true ∧ a.tm.get 1 = some (.bx 0 EC 34) ∨ ex = .ret ∧ c.types.all tyB = false ∧ a.tm.get 2 = some (.bool false))) := ⟨_, rfl⟩
  refine tw_loop I c.types.length R ?_ (by have := hM.types; omega) ?_ ?_ ?_
  · rw [hI]
    exact ⟨rfl, rfl, by rw [List.drop_zero], by simp [hEC, h5], by simp⟩
  · rw [hI]
    rintro j ⟨tm, df, clk⟩ σ' hj ⟨rfl, rfl, hd, g1, g3⟩
    rw [← hI]
    have hw := wrapJ hj ho.tlen
    rw [all_step hj] at hd
    have hsz := szTs_mem _ _ (List.getElem_mem hj)
    have hcc := refTypeRight_t (O := O) V.h30 V.h58 M (embT c.types[j]) σ'.length σ' (by rw [szQ_emb]; have := hM.types; omega) (okQ_emb _ _ (Nat.le_refl _) (ho.types _ (List.getElem_mem hj)))
    rw [encQ_emb, encT_def] at hcc
    have et : rightT 40 (embT c.types[j]) = tyB c.types[j] := rfl
    rw [et] at hcc
    have g1' := g1
    rw [hEC] at g1
    cases hs : tyB c.types[j] with
    | false =>
      rw [hs] at hd hcc
      simp [g1, g3, hj, hw, hcc, encT_def c.types[j]]
      rw [hR]
      exact ⟨rfl, rfl, .inr ⟨rfl, by simpa using hd.symm, by simp⟩⟩
    | true =>
      rw [hs] at hd hcc
      simp [g1, g3, hj, hw, hcc, encT_def c.types[j]]
      rw [hI]
      exact ⟨rfl, rfl, by simpa using hd, by simp [g1'], by simp⟩
  · rw [hI]
    rintro ⟨tm, df, clk⟩ σ' ⟨rfl, rfl, hd, g1, g3⟩
    rw [List.drop_of_length_le (Nat.le_refl _)] at hd
    have g1' := g1
    rw [hEC] at g1
    simp [g1, g3]
    rw [hR]
    exact ⟨rfl, rfl, .inl ⟨rfl, by rw [← hd]; rfl, by simp [g1']⟩⟩
  · rw [hR]
    rintro ex ⟨tm, df, clk⟩ σ' ⟨rfl, rfl, ⟨rfl, h, g1⟩ | ⟨rfl, h, g2⟩⟩
    case inr =>
      rw [h, Bool.false_and] at hZ
      simp [g2, hZ]
    rw [h, Bool.true_and] at hZ
    have g1' := g1
    simp
    obtain ⟨I2, hI2⟩ : ∃ I : Nat → TAct → Sto → Prop, I = (fun j a σ2 => a.df = [] ∧ σ2 = σ' ∧ (c.funs.drop j).all (bodyB c) = c.funs.all (bodyB c) ∧ a.tm.get 1 = some (.bx 0 EC 34) ∧ a.tm.get 4 = some (.int .i64 j)) := ⟨_, rfl⟩
    obtain ⟨R2, hR2⟩ : ∃ R : TEx → TAct → Sto → Prop, R = (fun ex a σ2 => a.df = [] ∧ σ2 = σ' ∧ (ex = .exit 2 ∧ c.funs.all (bodyB c) = true ∧ a.tm.get 1 = some (.bx 0 EC 34) ∨ ex = .ret ∧ c.funs.all (bodyB c) = false ∧ a.tm.get 2 = some (.bool false))) := ⟨_, rfl⟩
    refine tw_loop I2 c.funs.length R2 ?_ (by have := hM.flen; omega) ?_ ?_ ?_
    · rw [hI2]
      exact ⟨rfl, rfl, by rw [List.drop_zero], by simp [g1'], by simp⟩
    · rw [hI2]
      rintro j ⟨tm, df, clk⟩ σ2 hj ⟨rfl, rfl, hd, g1, g4⟩
      rw [← hI2]
      have hw := wrapJ hj ho.flen
      rw [all_step hj] at hd
      have hcc := bodyr_t (O := O) V.r c M c.funs[j] σ2.length σ2 (hM.funs _ (List.getElem_mem hj)) (ho.funs _ (List.getElem_mem hj)).term
      rw [← hEC', hEC, encBd_def] at hcc
      have g1' := g1
      rw [hEC] at g1
      cases hs : bodyB c c.funs[j] with
      | false =>
        rw [hs] at hd hcc
        simp [g1, g4, hj, hw, hcc, encBd_def c.funs[j]]
        rw [hR2]
        exact ⟨rfl, rfl, .inr ⟨rfl, by simpa using hd.symm, by simp⟩⟩
      | true =>
        rw [hs] at hd hcc
        simp [g1, g4, hj, hw, hcc, encBd_def c.funs[j]]
        rw [hI2]
        exact ⟨rfl, rfl, by simpa using hd, by simp [g1'], by simp⟩
    · rw [hI2]
      rintro ⟨tm, df, clk⟩ σ2 ⟨rfl, rfl, hd, g1, g4⟩
      rw [List.drop_of_length_le (Nat.le_refl _)] at hd
      have g1' := g1
      rw [hEC] at g1
      simp [g1, g4]
      rw [hR2]
      exact ⟨rfl, rfl, .inl ⟨rfl, by rw [← hd]; rfl, by simp [g1']⟩⟩
    · rw [hR2]
      rintro ex ⟨tm, df, clk⟩ σ2 ⟨rfl, rfl, ⟨rfl, h, g1⟩ | ⟨rfl, h, g2⟩⟩
      · rw [h, Bool.true_and] at hZ
        have hcc := bodyr_t (O := O) V.r c M c.query σ2.length σ2 hM.query ho.query.term
        rw [← hEC', hEC, encBd_def, ← hZ] at hcc
        rw [hEC] at g1
        simp [g1, hcc]
      · rw [h, Bool.false_and] at hZ
        simp [g2, hZ]
end Go.Xe.YtalckpkiplhbcaaGreatDoor
end
section
namespace Go.Xe.YtalckpkiplhbcaaGreatDoor
open Go Go.Xe Go.Xt
set_option linter.unusedVariables false
set_option linter.unusedSimpArgs false
def FT (f : FuncId) : Option TFun :=
  if f = 3 then some f3 else if f = 6 then some f6 else if f = 7 then some f7 else if f = 9 then some f9 else if f = 10 then some f10 else if f = 11 then some f11 else if f = 12 then some f12 else if f = 23 then some f23 else if f = 24 then some f24 else if f = 25 then some f25 else if f = 28 then some f28 else if f = 29 then some f29 else if f = 30 then some f30 else if f = 31 then some f31k else if f = 32 then some f32 else if f = 33 then some f33 else if f = 34 then some f34 else if f = 45 then some f45 else if f = 47 then some f47 else if f = 56 then some f56 else if f = 57 then some f57 else if f = 58 then some f58 else if f = 59 then some f59 else if f = 60 then some f60 else if f = 61 then some f61 else if f = 62 then some f62 else if f = 63 then some f63 else if f = 95 then some f95 else if f = 96 then some f96 else if f = 97 then some f97 else if f = 98 then some f98 else if f = 99 then some f99 else if f = 100 then some f100 else if f = 101 then some f101k else if f = 102 then some f102 else if f = 103 then some f103 else if f = 104 then some f104 else if f = 105 then some f105 else if f = 149 then some f149 else if f = 150 then some f150 else if f = 151 then some f151 else if f = 152 then some f152 else if f = 153 then some f153 else if f = 154 then some f154 else if f = 155 then some f155 else if f = 156 then some f156 else if f = 157 then some f157 else if f = 178 then some f178 else if f = 179 then some f179 else if f = 190 then some f190 else none
def OT (f : FuncId) (args : List TV) : Option TV :=
  match args with
  | [] => if f = 8 then some (.bool true) else none
  | _ => none
theorem hfits : HFits FT := { h60 := rfl, h104 := rfl, h103 := rfl, h157 := rfl, h32 := rfl }
theorem sfits : SFits FT := { has := hfits, h150 := rfl, h178 := rfl }
theorem pfits : PFits FT := { h62 := rfl, h179 := rfl, h190 := rfl }
theorem vfits : VFits FT := { s := sfits, p := pfits, h98 := rfl, h153 := rfl, h151 := rfl, h28 := rfl, h56 := rfl, h96 := rfl, h95 := rfl, h149 := rfl, h61 := rfl, h63 := rfl, h105 := rfl }
theorem tfits : TFits FT := { v := vfits, h57 := rfl, h97 := rfl, h99 := rfl, h152 := rfl, h100 := rfl, h101 := rfl }
theorem jfits : JFits FT := { v := vfits, h102 := rfl, h154 := rfl, h155 := rfl, h156 := rfl, h45 := rfl, h59 := rfl }
theorem cfits : CFits FT := { v := { t := tfits, h29 := rfl }, r := { j := jfits, h31 := rfl }, h9 := rfl, h10 := rfl, h30 := rfl, h58 := rfl }
theorem lim_mono {M M' : Nat} {c : PCore} (h : Lim M c) (hm : M ≤ M') : Lim M' c :=
  ⟨Nat.lt_of_lt_of_le h.types hm, fun f hf => Nat.le_trans (h.funs f hf) hm, Nat.lt_of_lt_of_le h.flen hm, Nat.le_trans h.query hm⟩
theorem coreRights_t (M : Nat) (c : PCore) (ins : List PVal) (hM : Lim M c) (hc : OkC c) (hi : szVs ins < M) (hil : ins.length ≤ maxLen) (hiv : ∀ v ∈ ins, OkV v) :
    ∃ σ', tcall FT OT (M + 5) 0 3 [.agg (encC c), .sl .fz (ins.map encV)] [] = some (.ret (.bool true), σ') := by
  have hil2 := szVs_len ins
  have htl := szTs_len c.types
  have h8 : ∀ (b : Nat) (σ : Sto), tcall FT OT (M + 4) b 8 [] σ = some (.ret (.bool true), σ) := fun b σ => rfl
  obtain ⟨ra, hra⟩ := fewCore_t (F := FT) (O := OT) rfl rfl rfl rfl rfl rfl (M + 2) c 0 [] 3000 hc (by have := hM.types; omega) (by have := hM.query; omega) (fun f hf => by have := hM.funs f hf; omega) (by have := hM.flen; omega)
  obtain ⟨rb, hrb⟩ := few_t (F := FT) (O := OT) rfl rfl (M + 3) ins 0 [] 1000 (by omega) hil hiv
  have h9 := corev_t (F := FT) (O := OT) cfits (M + 2) c 0 [] (lim_mono hM (by omega)) hc
  have h10 := corer_t (F := FT) (O := OT) cfits (M + 2) c 0 [] (lim_mono hM (by omega)) hc
  have hq : ∀ x ∈ c.types.map embT, szQ x ≤ M ∧ OkQ x := fun x hx => by
    obtain ⟨t, ht, rfl⟩ := List.mem_map.1 hx
    have := szTs_mem _ _ ht
    exact ⟨by rw [szQ_emb]; have := hM.types; omega, okQ_emb _ _ (Nat.le_refl _) (hc.types t ht)⟩
  have hz : ∀ y ∈ ins, szV y ≤ M := fun y hy => by have := szVs_mem _ _ hy; omega
  have h11 := fit11_t (F := FT) (O := OT) rfl rfl M c ins 0 [] hc hil hiv (by have := hM.types; omega) (fun x hx y hy b => has33_t rfl hfits rfl rfl rfl rfl rfl rfl M y x b [] (hz y hy) (hq x hx).1 (hiv y hy) (hq x hx).2)
  have h12 := fit12_t (F := FT) (O := OT) rfl (M + 3) c ins 0 [] hc hil hiv (by omega) (fun x hx y hy b => has34_t rfl rfl rfl rfl rfl rfl (M + 1) y x b [] (by have := hz y hy; omega) (by have := (hq x hx).1; omega) (hiv y hy) (hq x hx).2)
  generalize coreB c = kb at h9 h10
  generalize all2 fitV (c.types.map embT) ins = kf at h11 h12
  rw [encC_def] at hra h9 h10 h11 h12
  suffices hh : ∃ r σ', tcall FT OT (M + 5) 0 3 [.agg (encC c), .sl .fz (ins.map encV)] [] = some (r, σ') ∧ r = .ret (.bool true) by
    obtain ⟨r, σ', h1, rfl⟩ := hh
    exact ⟨σ', h1⟩
  refine tcall_of (fn := f3) rfl ?_
  cases ra with
  | false => simp [x3, undT, encC_def, hra, h8]
  | true =>
    cases rb with
    | false => simp [x3, undT, encC_def, hra, hrb, h8]
    | true => simp [x3, undT, encC_def, hra, hrb, h8, h9, h10, h11, h12]
end Go.Xe.YtalckpkiplhbcaaGreatDoor
end
section
namespace Go.Proofs
open Go.Shelf
def Tryz.lays137_ren : Go.Shelf.Ren := ⟨fun | 137 => 186 | 217 => 193 | 266 => 199 | n => n, fun | 9 => 9 | 5 => 5 | 3 => 3 | n => n, fun | n => n⟩
theorem Tryz.lays137 : Go.Proofs.Lays.n137 Tryz.prog Tryz.lays137_ren := {
  mixed := by kernel_rfl
  f137 := Tryz.func186.trans (congrArg some (by kernel_rfl))
  f217 := Tryz.func193.trans (congrArg some (by kernel_rfl))
  f266 := Tryz.func199.trans (congrArg some (by kernel_rfl))
  t3 := Tryz.underlying3
  a3 := Tryz.isAgg3
  z3 := Tryz.sizeOf3
  v3 := Tryz.zeroValue3
  t5 := Tryz.underlying5
  a5 := Tryz.isAgg5
  z5 := Tryz.sizeOf5
  v5 := Tryz.zeroValue5
  t9 := Tryz.underlying9
  a9 := Tryz.isAgg9
  z9 := Tryz.sizeOf9
  v9 := Tryz.zeroValue9 }
open Go.RowKit in
theorem Tryz.strings_IndexByte (s : ByteArray) (c : Int) (w : World) :
    Calls Tryz.prog 186 #[.string s, .int .u8 c] w fun e w' => e = .returned (.int .i64 (Lib.indexByte s.data.toList c.toNat.toUInt8)) ∧ w' = w := Any.strings_IndexByte Tryz.lays137 s c w
open Go.RowKit Go.Lib in
open Go.RowKit Go.Lib in
open Go.RowKit Go.Lib in
open Go.RowKit Go.Lib in
open Go.RowKit Go.Lib in
open Go.RowKit Go.Lib in
open Go.RowKit Go.Lib in
open Go.RowKit Go.Lib in
open Go.RowKit Go.Lib in
open Go.RowKit Go.Lib in
open Go.RowKit Go.Lib in
open Go.RowKit Go.Lib in
def Tryz.laysM144_ren : Go.Shelf.Ren := ⟨fun | 144 => 168 | 143 => 184 | 219 => 191 | 217 => 193 | 225 => 196 | 224 => 197 | 267 => 198 | 266 => 199 | 314 => 200 | n => n, fun | 9 => 9 | 4 => 4 | 3 => 3 | 5 => 5 | 46 => 114 | 146 => 235 | 51 => 169 | n => n, fun | 1 => 1 | n => n⟩
theorem Tryz.laysM144 : Go.Proofs.LaysM.n144 Tryz.prog Tryz.laysM144_ren := {
  mixed := by kernel_rfl
  f143 := Tryz.func184.trans (congrArg some (by kernel_rfl))
  f144 := Tryz.func168.trans (congrArg some (by kernel_rfl))
  f217 := Tryz.func193.trans (congrArg some (by kernel_rfl))
  f219 := Tryz.func191.trans (congrArg some (by kernel_rfl))
  f224 := Tryz.func197.trans (congrArg some (by kernel_rfl))
  f225 := Tryz.func196.trans (congrArg some (by kernel_rfl))
  f266 := Tryz.func199.trans (congrArg some (by kernel_rfl))
  f267 := Tryz.func198.trans (congrArg some (by kernel_rfl))
  f314 := Tryz.func200.trans (congrArg some (by kernel_rfl))
  t3 := Tryz.underlying3
  a3 := Tryz.isAgg3
  z3 := Tryz.sizeOf3
  v3 := Tryz.zeroValue3
  t4 := Tryz.underlying4
  a4 := Tryz.isAgg4
  z4 := Tryz.sizeOf4
  v4 := Tryz.zeroValue4
  t5 := Tryz.underlying5
  a5 := Tryz.isAgg5
  z5 := Tryz.sizeOf5
  v5 := Tryz.zeroValue5
  t9 := Tryz.underlying9
  a9 := Tryz.isAgg9
  z9 := Tryz.sizeOf9
  v9 := Tryz.zeroValue9
  t46 := Tryz.underlying114
  a46 := Tryz.isAgg114
  z46 := Tryz.sizeOf114
  v46 := Tryz.zeroValue114
  t51 := Tryz.underlying169
  a51 := Tryz.isAgg169
  z51 := Tryz.sizeOf169
  v51 := Tryz.zeroValue169
  t146 := Tryz.underlying235
  a146 := Tryz.isAgg235
  z146 := Tryz.sizeOf235
  v146 := Tryz.zeroValue235
  g1 := by kernel_rfl
  i3 := by kernel_rfl
  i4 := by kernel_rfl
  i5 := by kernel_rfl
  i9 := by kernel_rfl
  i46 := by kernel_rfl
  i51 := by kernel_rfl
  i146 := by kernel_rfl
  m1 := by kernel_rfl
  s1_3 := fun w h => Go.Proofs.cell_of_shapedOpen_int (zero := #[.int .i64 0]) (t := 3) h (of_decide_eq_true (by kernel_rfl)) (by kernel_rfl) rfl (by kernel_rfl) (by kernel_rfl) Tryz.underlying3 }
open Go.RowKit Go.Lib in
theorem Tryz.strings_Contains_shaped (s sub : ByteArray) (w : World) (h : w.ShapedOpen Tryz.prog) (hs : s.size < 4294967281) :
    Calls Tryz.prog 168 #[.string s, .string sub] w fun e w' => e = .returned (.bool (Lib.contains s.data.toList sub.data.toList)) ∧ w' = w := Any.strings_Contains_shaped Tryz.laysM144 s sub w h hs
end Go.Proofs
end
section
namespace Go.Xe.YtalckpkiplhbcaaGreatDoor
open Go Go.Xe Go.Proofs Go.RowKit
set_option linter.unusedVariables false
def orc (f : FuncId) (args : List Value) : Option Value :=
  match Nat.beq f 168, Nat.beq f 186, args with
  | true, _, [.string s, .string t] => match Nat.ble s.data.toList.length 4000000000 with
    | true => some (.bool (containsL t.data.toList s.data.toList))
    | false => none
  | _, true, [.string s, .int .u8 (.ofNat n)] => match Nat.blt n 256 with
    | true => some (.int .i64 (match findB n s.data.toList 0 with | some i => .ofNat i | none => .negSucc 0))
    | false => none
  | _, _, _ => none
noncomputable def F (f : FuncId) : Option XFun :=
  match Nat.beq f 168 || Nat.beq f 186 with
  | true => none
  | false => match Tryz.prog.funcs[f]? with
    | some fn => compFun Tryz.prog glb fn
    | none => none
theorem to168 : CallTo Tryz.prog 168 := ⟨Tryz.f168, Tryz.func168, by decide, rfl⟩
theorem to186 : CallTo Tryz.prog 186 := ⟨Tryz.f186, Tryz.func186, by decide, rfl⟩
theorem flat2 {u v : Value} (hu : ∀ φ x, VRel φ u x → x = u) (hv : ∀ φ x, VRel φ v x → x = v) (φ : Loc) (l : List Value) (h : VRels φ [u, v] l) : l = [u, v] := by
  cases h with
  | cons h1 h => cases h with
    | cons h2 h => cases h; rw [hu φ _ h1, hv φ _ h2]
theorem env : Env Tryz.prog glb F orc := by
  refine ⟨by kernel_rfl, fun f x h => ?_, fun f args v hF hO => ?_⟩
  · unfold F at h
    split at h
    · cases h
    · split at h
      · rename_i fn hfn; exact ⟨fn, hfn, h⟩
      · cases h
  · unfold orc at hO
    split at hO
    · rename_i _ s t hf
      rw [beqNat] at hf
      obtain rfl := of_decide_eq_true hf
      split at hO
      · rename_i hle
        rw [bleNat] at hle
        have hle := of_decide_eq_true hle
        cases hO
        refine OOk.still to168 rfl rfl (fun φ l h => flat2 (fun φ x h => by cases h; rfl) (fun φ x h => by cases h; rfl) φ l h) fun W0 N0 φ g w hg r => ?_
        have hs : s.size < 4294967281 := by
          have : s.size = s.data.toList.length := by rw [Array.length_toList]; rfl
          omega
        have := Tryz.strings_Contains_shaped s t w (r.shaped hg) hs
        rw [← containsL_eq] at this
        exact this
      · cases hO
    · rename_i _ s n hf
      rw [beqNat] at hf
      obtain rfl := of_decide_eq_true hf
      split at hO
      · rename_i hlt
        rw [bltNat] at hlt
        have hlt := of_decide_eq_true hlt
        cases hO
        refine OOk.still to186 rfl rfl (fun φ l h => flat2 (fun φ x h => by cases h; rfl) (fun φ x h => by cases h; rfl) φ l h) fun W0 N0 φ g w hg r => ?_
        have := Tryz.strings_IndexByte s (Int.ofNat n) w
        have e : (match findB n s.data.toList 0 with | some i => Int.ofNat i | none => Int.negSucc 0) = Lib.indexByte s.data.toList (Int.ofNat n).toNat.toUInt8 := by
          have hge := Lib.indexByte_ge s.data.toList n.toUInt8
          rw [findB_eq n hlt]
          show _ = Lib.indexByte s.data.toList n.toUInt8
          by_cases h : Lib.indexByte s.data.toList n.toUInt8 = -1
          · rw [if_pos h, h]; rfl
          · rw [if_neg h]
            show ((0 + (Lib.indexByte s.data.toList n.toUInt8).toNat : Nat) : Int) = _
            omega
        rw [e]
        exact this
      · cases hO
    · cases hO
theorem awake_run : fcall F orc 100000 8 [] (fun _ => none) .nil 1 isTrue = true := by kernel_rfl
theorem awake (w : World) (h : w.ShapedOpen Tryz.prog) : Calls Tryz.prog 8 #[] w fun E w' => E = .returned (.bool true) ∧ Below w.heap.size w w' :=
  closed_true_gl env (φ := fun i => if i = 0 then some (0, 0, 0) else none) (nx := 1) (fun i h => by
      have h : Nat.beq i 0 = true := h
      rw [beqNat] at h
      exact ⟨0, by simp [of_decide_eq_true h]⟩) (fun i h => by
      have : i ≠ 0 := by omega
      simp [this]) awake_run ⟨rfl, h⟩
end Go.Xe.YtalckpkiplhbcaaGreatDoor
end
section
namespace Go.Xe.YtalckpkiplhbcaaGreatDoor
open Go Go.Xe Go.Xt Go.Proofs Go.RowKit
def FX (f : FuncId) : Option XFun := (FT f).map TFun.fn
def OX (f : FuncId) (args : List Value) : Option Value :=
  match args with
  | [] => if f = 8 then some (.bool true) else none
  | _ => none
theorem fits : Fits FT OT FX OX := by
  refine ⟨fun f tf h => by unfold FX; rw [h]; rfl, fun f h => by unfold FX; rw [h]; rfl, fun f args v h g μ Z args' ha => ?_⟩
  unfold OT at h
  split at h
  · cases ha
    split at h
    · rename_i h9
      cases h
      exact ⟨.bool true, by unfold OX; simp [h9], .bool true⟩
    · cases h
  · cases h
theorem to8 : CallTo Tryz.prog 8 := ⟨Tryz.f8, Tryz.func8, by decide, rfl⟩
theorem envX : Env Tryz.prog glo FX OX := by
  refine ⟨by kernel_rfl, fun f x h => ?_, fun f args v hF hO => ?_⟩
  · unfold FX at h
    obtain ⟨tf, h2, rfl⟩ := Option.map_eq_some_iff.1 h
    clear h
    unfold FT at h2
    by_cases e3 : f = 3
    · subst e3; cases h2; exact ⟨_, Tryz.func3, d3⟩
    rw [if_neg e3] at h2
    by_cases e6 : f = 6
    · subst e6; cases h2; exact ⟨_, Tryz.func6, d6⟩
    rw [if_neg e6] at h2
    by_cases e7 : f = 7
    · subst e7; cases h2; exact ⟨_, Tryz.func7, d7⟩
    rw [if_neg e7] at h2
    by_cases e9 : f = 9
    · subst e9; cases h2; exact ⟨_, Tryz.func9, d9⟩
    rw [if_neg e9] at h2
    by_cases e10 : f = 10
    · subst e10; cases h2; exact ⟨_, Tryz.func10, d10⟩
    rw [if_neg e10] at h2
    by_cases e11 : f = 11
    · subst e11; cases h2; exact ⟨_, Tryz.func11, d11⟩
    rw [if_neg e11] at h2
    by_cases e12 : f = 12
    · subst e12; cases h2; exact ⟨_, Tryz.func12, d12⟩
    rw [if_neg e12] at h2
    by_cases e23 : f = 23
    · subst e23; cases h2; exact ⟨_, Tryz.func23, d23⟩
    rw [if_neg e23] at h2
    by_cases e24 : f = 24
    · subst e24; cases h2; exact ⟨_, Tryz.func24, d24⟩
    rw [if_neg e24] at h2
    by_cases e25 : f = 25
    · subst e25; cases h2; exact ⟨_, Tryz.func25, d25⟩
    rw [if_neg e25] at h2
    by_cases e28 : f = 28
    · subst e28; cases h2; exact ⟨_, Tryz.func28, d28⟩
    rw [if_neg e28] at h2
    by_cases e29 : f = 29
    · subst e29; cases h2; exact ⟨_, Tryz.func29, d29⟩
    rw [if_neg e29] at h2
    by_cases e30 : f = 30
    · subst e30; cases h2; exact ⟨_, Tryz.func30, d30⟩
    rw [if_neg e30] at h2
    by_cases e31 : f = 31
    · subst e31; cases h2; exact ⟨_, Tryz.func31, d31⟩
    rw [if_neg e31] at h2
    by_cases e32 : f = 32
    · subst e32; cases h2; exact ⟨_, Tryz.func32, d32⟩
    rw [if_neg e32] at h2
    by_cases e33 : f = 33
    · subst e33; cases h2; exact ⟨_, Tryz.func33, d33⟩
    rw [if_neg e33] at h2
    by_cases e34 : f = 34
    · subst e34; cases h2; exact ⟨_, Tryz.func34, d34⟩
    rw [if_neg e34] at h2
    by_cases e45 : f = 45
    · subst e45; cases h2; exact ⟨_, Tryz.func45, d45⟩
    rw [if_neg e45] at h2
    by_cases e47 : f = 47
    · subst e47; cases h2; exact ⟨_, Tryz.func47, d47⟩
    rw [if_neg e47] at h2
    by_cases e56 : f = 56
    · subst e56; cases h2; exact ⟨_, Tryz.func56, d56⟩
    rw [if_neg e56] at h2
    by_cases e57 : f = 57
    · subst e57; cases h2; exact ⟨_, Tryz.func57, d57⟩
    rw [if_neg e57] at h2
    by_cases e58 : f = 58
    · subst e58; cases h2; exact ⟨_, Tryz.func58, d58⟩
    rw [if_neg e58] at h2
    by_cases e59 : f = 59
    · subst e59; cases h2; exact ⟨_, Tryz.func59, d59⟩
    rw [if_neg e59] at h2
    by_cases e60 : f = 60
    · subst e60; cases h2; exact ⟨_, Tryz.func60, d60⟩
    rw [if_neg e60] at h2
    by_cases e61 : f = 61
    · subst e61; cases h2; exact ⟨_, Tryz.func61, d61⟩
    rw [if_neg e61] at h2
    by_cases e62 : f = 62
    · subst e62; cases h2; exact ⟨_, Tryz.func62, d62⟩
    rw [if_neg e62] at h2
    by_cases e63 : f = 63
    · subst e63; cases h2; exact ⟨_, Tryz.func63, d63⟩
    rw [if_neg e63] at h2
    by_cases e95 : f = 95
    · subst e95; cases h2; exact ⟨_, Tryz.func95, d95⟩
    rw [if_neg e95] at h2
    by_cases e96 : f = 96
    · subst e96; cases h2; exact ⟨_, Tryz.func96, d96⟩
    rw [if_neg e96] at h2
    by_cases e97 : f = 97
    · subst e97; cases h2; exact ⟨_, Tryz.func97, d97⟩
    rw [if_neg e97] at h2
    by_cases e98 : f = 98
    · subst e98; cases h2; exact ⟨_, Tryz.func98, d98⟩
    rw [if_neg e98] at h2
    by_cases e99 : f = 99
    · subst e99; cases h2; exact ⟨_, Tryz.func99, d99⟩
    rw [if_neg e99] at h2
    by_cases e100 : f = 100
    · subst e100; cases h2; exact ⟨_, Tryz.func100, d100⟩
    rw [if_neg e100] at h2
    by_cases e101 : f = 101
    · subst e101; cases h2; exact ⟨_, Tryz.func101, d101⟩
    rw [if_neg e101] at h2
    by_cases e102 : f = 102
    · subst e102; cases h2; exact ⟨_, Tryz.func102, d102⟩
    rw [if_neg e102] at h2
    by_cases e103 : f = 103
    · subst e103; cases h2; exact ⟨_, Tryz.func103, d103⟩
    rw [if_neg e103] at h2
    by_cases e104 : f = 104
    · subst e104; cases h2; exact ⟨_, Tryz.func104, d104⟩
    rw [if_neg e104] at h2
    by_cases e105 : f = 105
    · subst e105; cases h2; exact ⟨_, Tryz.func105, d105⟩
    rw [if_neg e105] at h2
    by_cases e149 : f = 149
    · subst e149; cases h2; exact ⟨_, Tryz.func149, d149⟩
    rw [if_neg e149] at h2
    by_cases e150 : f = 150
    · subst e150; cases h2; exact ⟨_, Tryz.func150, d150⟩
    rw [if_neg e150] at h2
    by_cases e151 : f = 151
    · subst e151; cases h2; exact ⟨_, Tryz.func151, d151⟩
    rw [if_neg e151] at h2
    by_cases e152 : f = 152
    · subst e152; cases h2; exact ⟨_, Tryz.func152, d152⟩
    rw [if_neg e152] at h2
    by_cases e153 : f = 153
    · subst e153; cases h2; exact ⟨_, Tryz.func153, d153⟩
    rw [if_neg e153] at h2
    by_cases e154 : f = 154
    · subst e154; cases h2; exact ⟨_, Tryz.func154, d154⟩
    rw [if_neg e154] at h2
    by_cases e155 : f = 155
    · subst e155; cases h2; exact ⟨_, Tryz.func155, d155⟩
    rw [if_neg e155] at h2
    by_cases e156 : f = 156
    · subst e156; cases h2; exact ⟨_, Tryz.func156, d156⟩
    rw [if_neg e156] at h2
    by_cases e157 : f = 157
    · subst e157; cases h2; exact ⟨_, Tryz.func157, d157⟩
    rw [if_neg e157] at h2
    by_cases e178 : f = 178
    · subst e178; cases h2; exact ⟨_, Tryz.func178, d178⟩
    rw [if_neg e178] at h2
    by_cases e179 : f = 179
    · subst e179; cases h2; exact ⟨_, Tryz.func179, d179⟩
    rw [if_neg e179] at h2
    by_cases e190 : f = 190
    · subst e190; cases h2; exact ⟨_, Tryz.func190, d190⟩
    rw [if_neg e190] at h2
    cases h2
  · unfold OX at hO
    split at hO
    · split at hO
      · rename_i h8
        cases hO
        subst h8
        exact OOk.grow to8 rfl (fun φ l h => by cases h; rfl) fun W0 N0 φ g w hg r => awake w (r.shaped hg)
      · cases hO
    · cases hO
end Go.Xe.YtalckpkiplhbcaaGreatDoor
end
