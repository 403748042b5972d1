/-
  A part of the proof: it is imported by YtjdiibhkdanbiaaTop. Nothing here is a claim of its own.
-/
import Derived.Test.YtjdiibhkdanbiaaK5
import Derived.Shelf.Small.Strs
import Derived.Shelf.Strings.Search1
import Derived.Shelf.Strings.Search2
import Derived.Shelf.Strings.Search3
import Derived.Shelf.LaysM
import Derived.Shelf.Strings.Shaped
import Derived.Test.YtjdiibhkdanbiaaProg
section
namespace Go.Xt
open Go Go.Xe
set_option linter.unusedVariables false
inductive Kt where
  | seq (y : XCode)
  | blk (id : Nat)
section
variable (an : Ann) (b : Nat) (C : TCallee) (n : Nat) (Q : TEx → TAct → Sto → Prop)
def Cont : List Kt → TEx → TAct → Sto → Prop
  | [], e, a, σ => Q e a σ
  | .seq y :: ks, e, a, σ => match e with
    | .normal => ∃ e' a' σ', tcode an b C n y a σ = some (e', a', σ') ∧ Cont ks e' a' σ'
    | e => Cont ks e a σ
  | .blk id :: ks, e, a, σ => match e with
    | .exit k => match Nat.beq k id with
      | true => Cont ks .normal a σ
      | false => Cont ks (.exit k) a σ
    | e => Cont ks e a σ
def Tw (ks : List Kt) (r : Option (TEx × TAct × Sto)) : Prop := ∃ e a σ, r = some (e, a, σ) ∧ Cont an b C n Q ks e a σ
def TwC (v : TV) (ks : List Kt) (x y : XCode) (a : TAct) (σ : Sto) : Prop :=
  match v with
  | .bool true => Tw an b C n Q ks (tcode an b C n x a σ)
  | .bool false => Tw an b C n Q ks (tcode an b C n y a σ)
  | _ => False
end
section
variable {an : Ann} {b : Nat} {C : TCallee} {n : Nat} {a : TAct} {σ : Sto} {Q : TEx → TAct → Sto → Prop} {ks : List Kt}
theorem tw_some (e : TEx) : Tw an b C n Q ks (some (e, a, σ)) ↔ Cont an b C n Q ks e a σ :=
  ⟨fun ⟨_, _, _, h, q⟩ => by cases h; exact q, fun q => ⟨e, a, σ, rfl, q⟩⟩
theorem tw_none : Tw an b C n Q ks none ↔ False := ⟨fun ⟨_, _, _, h, _⟩ => (by cases h), fun h => False.elim h⟩
theorem tw_nil (e : TEx) : Cont an b C n Q [] e a σ ↔ Q e a σ := Iff.rfl
theorem tw_k {y : XCode} : Cont an b C n Q (.seq y :: ks) .normal a σ ↔ Tw an b C n Q ks (tcode an b C n y a σ) := Iff.rfl
theorem tw_k_exit {y : XCode} (id : Nat) : Cont an b C n Q (.seq y :: ks) (.exit id) a σ ↔ Cont an b C n Q ks (.exit id) a σ := Iff.rfl
theorem tw_k_ret {y : XCode} : Cont an b C n Q (.seq y :: ks) .ret a σ ↔ Cont an b C n Q ks .ret a σ := Iff.rfl
theorem tw_k_panic {y : XCode} (v : TV) : Cont an b C n Q (.seq y :: ks) (.panic v) a σ ↔ Cont an b C n Q ks (.panic v) a σ := Iff.rfl
theorem tw_b {id : Nat} : Cont an b C n Q (.blk id :: ks) .normal a σ ↔ Cont an b C n Q ks .normal a σ := Iff.rfl
theorem tw_b_ret {id : Nat} : Cont an b C n Q (.blk id :: ks) .ret a σ ↔ Cont an b C n Q ks .ret a σ := Iff.rfl
theorem tw_b_panic {id : Nat} (v : TV) : Cont an b C n Q (.blk id :: ks) (.panic v) a σ ↔ Cont an b C n Q ks (.panic v) a σ := Iff.rfl
theorem tw_b_exit {id k : Nat} : Cont an b C n Q (.blk id :: ks) (.exit k) a σ ↔ Cont an b C n Q ks (if k = id then .normal else .exit k) a σ := by
  simp only [Cont]
  rw [beqNat]
  by_cases h : k = id <;> simp [h]
theorem tw_seq {x y : XCode} : Tw an b C n Q ks (tcode an b C n (.seq x y) a σ) ↔ Tw an b C n Q (.seq y :: ks) (tcode an b C n x a σ) := by
  simp only [tcode]
  constructor
  · rintro ⟨e, a2, σ2, h, q⟩
    split at h
    · rename_i a1 σ1 h1; exact ⟨.normal, a1, σ1, h1, e, a2, σ2, h, q⟩
    · rename_i r hr
      refine ⟨e, a2, σ2, h, ?_⟩
      cases e with
      | normal => exact absurd h (hr _ _)
      | _ => exact q
  · rintro ⟨e, a1, σ1, h, q⟩
    rw [h]
    cases e with
    | normal => exact q
    | _ => exact ⟨_, _, _, rfl, q⟩
theorem tw_block {id : Nat} {c : XCode} : Tw an b C n Q ks (tcode an b C n (.block id c) a σ) ↔ Tw an b C n Q (.blk id :: ks) (tcode an b C n c a σ) := by
  simp only [tcode]
  constructor
  · rintro ⟨e, a2, σ2, h, q⟩
    split at h
    · rename_i k a1 σ1 h1
      refine ⟨.exit k, a1, σ1, h1, ?_⟩
      simp only [Cont]
      split at h
      · rename_i hb; rw [hb]; cases h; exact q
      · rename_i hb; rw [hb]; cases h; exact q
    · rename_i r hr
      refine ⟨e, a2, σ2, h, ?_⟩
      cases e with
      | exit k => exact absurd h (hr _ _ _)
      | _ => exact q
  · rintro ⟨e, a1, σ1, h, q⟩
    rw [h]
    cases e with
    | exit k =>
      simp only [Cont] at q
      simp only
      split at q
      · rename_i hb; rw [hb]; exact ⟨_, _, _, rfl, q⟩
      · rename_i hb; rw [hb]; exact ⟨_, _, _, rfl, q⟩
    | _ => exact ⟨_, _, _, rfl, q⟩
theorem tw_cond {c : Operand} {x y : XCode} : Tw an b C n Q ks (tcode an b C n (.cond c x y) a σ) ↔ TwC an b C n Q (a.ev c) ks x y a σ := by
  simp only [tcode]
  unfold TwC
  cases a.ev c <;> first | exact tw_none | skip
  rename_i t; cases t <;> exact Iff.rfl
theorem twc_true {x y : XCode} : TwC an b C n Q (.bool true) ks x y a σ ↔ Tw an b C n Q ks (tcode an b C n x a σ) := Iff.rfl
theorem twc_false {x y : XCode} : TwC an b C n Q (.bool false) ks x y a σ ↔ Tw an b C n Q ks (tcode an b C n y a σ) := Iff.rfl
theorem twc_split {x y : XCode} {t : Bool} (h1 : t = true → Tw an b C n Q ks (tcode an b C n x a σ)) (h2 : t = false → Tw an b C n Q ks (tcode an b C n y a σ)) : TwC an b C n Q (.bool t) ks x y a σ := by
  cases t
  · exact h2 rfl
  · exact h1 rfl
theorem tw_skip : Tw an b C n Q ks (tcode an b C n .skip a σ) ↔ Cont an b C n Q ks .normal a σ := tw_some _
theorem tw_exit {id : Nat} : Tw an b C n Q ks (tcode an b C n (.exit id) a σ) ↔ Cont an b C n Q ks (.exit id) a σ := tw_some _
theorem tw_ret : Tw an b C n Q ks (tcode an b C n .ret a σ) ↔ Cont an b C n Q ks .ret a σ := tw_some _
theorem tw_region {ops : List XOper} : Tw an b C n Q ks (tcode an b C n (.region ops) a σ) ↔ Tw an b C n Q ks (tops an b C ops a σ) := Iff.rfl
theorem tw_tloop (I : Nat → TAct → Sto → Prop) (len : Nat) {c : XCode} (R : TEx → TAct → Sto → Prop)
    (step : ∀ j a σ, j < len → I j a σ → Tw an b C n (fun e a σ => match e with | .normal => I (j + 1) a σ | e => R e a σ) [] (tcode an b C n c a σ))
    (stop : ∀ a σ, I len a σ → Tw an b C n (fun e a σ => match e with | .normal => False | e => R e a σ) [] (tcode an b C n c a σ)) :
    ∀ (m j : Nat) (a : TAct) (σ : Sto), len < j + m → j ≤ len → I j a σ → ∃ e a' σ', tloop (tcode an b C n c) m a σ = some (e, a', σ') ∧ R e a' σ'
  | 0, j, a, σ, h, h2, hI => by omega
  | m + 1, j, a, σ, h, h2, hI => by
    simp only [tloop]
    by_cases hj : j < len
    · obtain ⟨e, a1, σ1, h3, q⟩ := step j a σ hj hI
      rw [h3]
      cases e with
      | normal => exact tw_tloop I len R step stop m (j + 1) a1 σ1 (by omega) (by omega) q
      | _ => exact ⟨_, _, _, rfl, q⟩
    · obtain rfl : j = len := by omega
      obtain ⟨e, a1, σ1, h3, q⟩ := stop a σ hI
      rw [h3]
      cases e with
      | normal => exact q.elim
      | _ => exact ⟨_, _, _, rfl, q⟩
theorem tw_loop (I : Nat → TAct → Sto → Prop) (len : Nat) {c : XCode} (R : TEx → TAct → Sto → Prop) (h0 : I 0 a σ) (hn : len < n)
    (step : ∀ j a σ, j < len → I j a σ → Tw an b C n (fun e a σ => match e with | .normal => I (j + 1) a σ | e => R e a σ) [] (tcode an b C n c a σ))
    (stop : ∀ a σ, I len a σ → Tw an b C n (fun e a σ => match e with | .normal => False | e => R e a σ) [] (tcode an b C n c a σ))
    (next : ∀ e a σ, R e a σ → Cont an b C n Q ks e a σ) : Tw an b C n Q ks (tcode an b C n (.loop c) a σ) := by
  obtain ⟨e, a', σ', h1, h2⟩ := tw_tloop I len R step stop n 0 a σ (by omega) (Nat.zero_le _) h0
  exact ⟨e, a', σ', h1, next _ _ _ h2⟩
theorem tw_tloopB (I : Nat → TAct → Sto → Prop) (B : Nat) {c : XCode} (R : TEx → TAct → Sto → Prop) (bd : ∀ j a σ, I j a σ → j ≤ B)
    (step : ∀ j a σ, I j a σ → Tw an b C n (fun e a σ => match e with | .normal => I (j + 1) a σ | e => R e a σ) [] (tcode an b C n c a σ)) :
    ∀ (m j : Nat) (a : TAct) (σ : Sto), B < j + m → I j a σ → ∃ e a' σ', tloop (tcode an b C n c) m a σ = some (e, a', σ') ∧ R e a' σ'
  | 0, j, a, σ, h, hI => by have := bd j a σ hI; omega
  | m + 1, j, a, σ, h, hI => by
    simp only [tloop]
    obtain ⟨e, a1, σ1, h3, q⟩ := step j a σ hI
    rw [h3]
    cases e with
    | normal => exact tw_tloopB I B R bd step m (j + 1) a1 σ1 (by omega) q
    | _ => exact ⟨_, _, _, rfl, q⟩
theorem tw_loopB (I : Nat → TAct → Sto → Prop) (B : Nat) {c : XCode} (R : TEx → TAct → Sto → Prop) (h0 : I 0 a σ) (hn : B < n) (bd : ∀ j a σ, I j a σ → j ≤ B)
    (step : ∀ j a σ, I j a σ → Tw an b C n (fun e a σ => match e with | .normal => I (j + 1) a σ | e => R e a σ) [] (tcode an b C n c a σ))
    (next : ∀ e a σ, R e a σ → Cont an b C n Q ks e a σ) : Tw an b C n Q ks (tcode an b C n (.loop c) a σ) := by
  obtain ⟨e, a', σ', h1, h2⟩ := tw_tloopB I B R bd step n 0 a σ (by omega) h0
  exact ⟨e, a', σ', h1, next _ _ _ h2⟩
theorem Tw.done {r : Option (TEx × TAct × Sto)} (h : Tw an b C n Q [] r) : ∃ e a σ, r = some (e, a, σ) ∧ Q e a σ := h
theorem cont_cut (P : TAct → Sto → Prop) {y : XCode} (h : P a σ) (k : ∀ a σ, P a σ → Tw an b C n Q ks (tcode an b C n y a σ)) : Cont an b C n Q (.seq y :: ks) .normal a σ := k a σ h
end
def topsE (an : Ann) (b : Nat) (C : TCallee) : List XOper → TAct → Sto → Option (TAct × Sto)
  | [], a, σ => some (a, σ)
  | o :: r, a, σ =>
    match wantedT a o.guard with
    | none => none
    | some false => topsE an b C r (a.put o.dst undT) σ
    | some true => match o.op with
      | .call f args => match gives (args.map a.ev) with
        | some vs => match C b f vs σ with
          | some (.ret v, σ') => topsE an b C r ((frzs a args).tick.put o.dst v) σ'
          | _ => none
        | none => none
      | .callV x args => match gives (args.map a.ev) with
        | some vs => match targetT (a.ev x) vs with
          | some (f, l') => match C b f l' σ with
            | some (.ret v, σ') => topsE an b C r ((frzs a args).tick.put o.dst v) σ'
            | _ => none
          | none => none
        | none => none
      | op => match tdo (an.md o.dst) b a σ op with
        | some (v, a', σ') => topsE an b C r (a'.put o.dst v) σ'
        | none => none
theorem topsD_E (an : Ann) (b : Nat) (C : TCallee) : ∀ (ops : List XOper) (a : TAct) (σ : Sto) (l : List TRec) {a' : TAct} {σ' : Sto}, topsE an b C ops a σ = some (a', σ') → ∃ l', topsD an b C ops a σ l = some (a', σ', l')
  | [], a, σ, l, a', σ', h => by simp only [topsE] at h; cases h; exact ⟨_, rfl⟩
  | ⟨dst, op, guard⟩ :: ops, a, σ, l, a', σ', h => by
    have ih := topsD_E an b C ops
    rw [topsE] at h
    rw [topsD]
    cases hg : wantedT a guard with
    | none => simp only [hg] at h; cases h
    | some c =>
      cases c with
      | false => simp only [hg] at h ⊢; exact ih _ _ _ h
      | true =>
        simp only [hg] at h ⊢
        cases op
        case call f args =>
          simp only at h ⊢
          split at h
          · rename_i vs hgv
            rw [hgv]
            split at h
            · rename_i v σ1 hc
              simp only [hc]; exact ih _ _ _ h
            · cases h
          · cases h
        case callV x args =>
          simp only at h ⊢
          split at h
          · rename_i vs hgv
            rw [hgv]
            split at h
            · rename_i f l' ht
              simp only [ht]
              split at h
              · rename_i v σ1 hc
                simp only [hc]; exact ih _ _ _ h
              · cases h
            · cases h
          · cases h
        all_goals
          simp only at h ⊢
          split at h
          · rename_i v a1 σ1 hd
            simp only [hd]; exact ih _ _ _ h
          · cases h
section
variable (an : Ann) (b : Nat) (C : TCallee) (n : Nat) (Q : TEx → TAct → Sto → Prop)
def TwE (ks : List Kt) (r : Option (TAct × Sto)) : Prop := ∃ a σ, r = some (a, σ) ∧ Cont an b C n Q ks .normal a σ
def TwD (ps : List (Nat × Nat)) (ks : List Kt) (r : Option (TAct × Sto × List TRec)) : Prop := ∃ a σ l, r = some (a, σ, l) ∧ pairsOkT l ps = true ∧ Cont an b C n Q ks .normal a σ
end
section
variable {an : Ann} {b : Nat} {C : TCallee} {n : Nat} {a : TAct} {σ : Sto} {Q : TEx → TAct → Sto → Prop} {ks : List Kt}
theorem twE_some : TwE an b C n Q ks (some (a, σ)) ↔ Cont an b C n Q ks .normal a σ :=
  ⟨fun ⟨_, _, h, q⟩ => by cases h; exact q, fun q => ⟨a, σ, rfl, q⟩⟩
theorem twE_none : TwE an b C n Q ks none ↔ False := ⟨fun ⟨_, _, h, _⟩ => (by cases h), fun h => False.elim h⟩
theorem twD_some {ps : List (Nat × Nat)} {l : List TRec} : TwD an b C n Q ps ks (some (a, σ, l)) ↔ pairsOkT l ps = true ∧ Cont an b C n Q ks .normal a σ :=
  ⟨fun ⟨_, _, _, h, q⟩ => by cases h; exact q, fun q => ⟨a, σ, l, rfl, q⟩⟩
theorem twD_none {ps : List (Nat × Nat)} : TwD an b C n Q ps ks none ↔ False := ⟨fun ⟨_, _, _, h, _⟩ => (by cases h), fun h => False.elim h⟩
theorem topsD_E' : ∀ (ops : List XOper) (a : TAct) (σ : Sto) (l : List TRec) {a' : TAct} {σ' : Sto} {l' : List TRec}, topsD an b C ops a σ l = some (a', σ', l') → topsE an b C ops a σ = some (a', σ')
  | [], a, σ, l, a', σ', l', h => by simp only [topsD] at h; cases h; rfl
  | ⟨dst, op, guard⟩ :: ops, a, σ, l, a', σ', l', h => by
    have ih := @topsD_E' ops
    rw [topsD] at h
    rw [topsE]
    cases hg : wantedT a guard with
    | none => simp only [hg] at h; cases h
    | some c =>
      cases c with
      | false => simp only [hg] at h ⊢; exact ih _ _ _ h
      | true =>
        simp only [hg] at h ⊢
        cases op
        case call f args =>
          simp only at h ⊢
          split at h
          · rename_i vs hgv
            rw [hgv]
            split at h
            · rename_i v σ1 hc
              simp only [hc]; exact ih _ _ _ h
            · cases h
          · cases h
        case callV x args =>
          simp only at h ⊢
          split at h
          · rename_i vs hgv
            rw [hgv]
            split at h
            · rename_i f l' ht
              simp only [ht]
              split at h
              · rename_i v σ1 hc
                simp only [hc]; exact ih _ _ _ h
              · cases h
            · cases h
          · cases h
        all_goals
          simp only at h ⊢
          split at h
          · rename_i v a1 σ1 hd
            simp only [hd]; exact ih _ _ _ h
          · cases h
theorem tw_regionE {ops : List XOper} : Tw an b C n Q ks (tcode an b C n (.regionD ops []) a σ) ↔ TwE an b C n Q ks (topsE an b C ops a σ) := by
  simp only [tcode, pairsOkT]
  constructor
  · rintro ⟨e, a2, σ2, h, q⟩
    split at h
    · rename_i a1 σ1 l hd
      cases h
      exact ⟨_, _, topsD_E' _ _ _ _ hd, q⟩
    · cases h
  · rintro ⟨a1, σ1, h, q⟩
    obtain ⟨l', hl⟩ := topsD_E an b C ops a σ [] h
    rw [hl]
    exact ⟨_, _, _, rfl, q⟩
theorem tw_regionD {ops : List XOper} {p : Nat × Nat} {ps : List (Nat × Nat)} : Tw an b C n Q ks (tcode an b C n (.regionD ops (p :: ps)) a σ) ↔ TwD an b C n Q (p :: ps) ks (topsD an b C ops a σ []) := by
  simp only [tcode]
  constructor
  · rintro ⟨e, a2, σ2, h, q⟩
    split at h
    · rename_i a1 σ1 l hd
      split at h
      · rename_i hp; cases h; exact ⟨_, _, _, hd, hp, q⟩
      · cases h
    · cases h
  · rintro ⟨a1, σ1, l, h, hp, q⟩
    rw [h]
    simp only [hp]
    exact ⟨_, _, _, rfl, q⟩
end
theorem tbin_add (k : IntKind) (a b : Int) : tbin .add (.int k a) (.int k b) = some (.int k (k.wrap (a + b))) := by cases k <;> rfl
theorem tbin_sub (k : IntKind) (a b : Int) : tbin .sub (.int k a) (.int k b) = some (.int k (k.wrap (a - b))) := by cases k <;> rfl
theorem tbin_mul (k : IntKind) (a b : Int) : tbin .mul (.int k a) (.int k b) = some (.int k (k.wrap (a * b))) := by cases k <;> rfl
theorem tbin_eql (k : IntKind) (a b : Int) : tbin .eql (.int k a) (.int k b) = some (.bool (decide (a = b))) := by rw [← beqInt_eq]; cases k <;> rfl
theorem tbin_neq (k : IntKind) (a b : Int) : tbin .neq (.int k a) (.int k b) = some (.bool (!(decide (a = b)))) := by rw [← beqInt_eq]; cases k <;> rfl
theorem tbin_lss (k : IntKind) (a b : Int) : tbin .lss (.int k a) (.int k b) = some (.bool (decide (a < b))) := by rw [← ltInt_eq]; cases k <;> rfl
theorem tbin_gtr (k : IntKind) (a b : Int) : tbin .gtr (.int k a) (.int k b) = some (.bool (decide (b < a))) := by rw [← ltInt_eq]; cases k <;> rfl
theorem tbin_leq (k : IntKind) (a b : Int) : tbin .leq (.int k a) (.int k b) = some (.bool (decide (a ≤ b))) := by
  have h : tbin .leq (.int k a) (.int k b) = some (.bool (leInt a b)) := by cases k <;> rfl
  rw [h, leInt, ltInt_eq]; congr 2; by_cases h : a ≤ b <;> simp [h] <;> omega
theorem tbin_geq (k : IntKind) (a b : Int) : tbin .geq (.int k a) (.int k b) = some (.bool (decide (b ≤ a))) := by
  have h : tbin .geq (.int k a) (.int k b) = some (.bool (leInt b a)) := by cases k <;> rfl
  rw [h, leInt, ltInt_eq]; congr 2; by_cases h : b ≤ a <;> simp [h] <;> omega
theorem beqBytes_spec (x y : List UInt8) : beqBytes x y = decide (x = y) := by
  rw [Xe.beqBytes_eq]
  by_cases h : x = y
  · subst h; simp
  · simp [h]
theorem beqBytes_eq (x y : ByteArray) : beqBytes x.data.toList y.data.toList = decide (x = y) := by
  rw [beqBytes_spec]
  congr 1
  apply propext
  constructor
  · intro h
    have : x.data = y.data := Array.ext' h
    cases x; cases y; simpa using this
  · rintro rfl; rfl
theorem tbin_seql (x y : ByteArray) : tbin .eql (.str x) (.str y) = some (.bool (decide (x = y))) := by rw [← beqBytes_eq]; rfl
theorem tbin_sneq (x y : ByteArray) : tbin .neq (.str x) (.str y) = some (.bool (!(decide (x = y)))) := by rw [← beqBytes_eq]; rfl
theorem bleT (a b : Nat) : Nat.ble a b = decide (a ≤ b) := bleNat a b
theorem bltT (a b : Nat) : Nat.blt a b = decide (a < b) := bltNat a b
theorem beqT (a b : Nat) : Nat.beq a b = decide (a = b) := beqNat a b
theorem wrap_in (n : Int) (h0 : -9223372036854775808 ≤ n) (h1 : n ≤ 9223372036854775807) : IntKind.i64.wrap n = n := Xe.wrap_small n h0 h1
end Go.Xt
end
section
namespace Go.Xe.Ytjdiibhkdanbiaa
open Go Go.Xe Go.Xt
@[simp] def a3 : Ann := fun d => if d = 2 then 1 else if d = 3 then 1 else if d = 4 then 1 else if d = 5 then 1 else if d = 6 then 1 else if d = 7 then 1 else if d = 8 then 1 else if d = 9 then 1 else if d = 27 then 1 else if d = 34 then 2 else if d = 38 then 2 else if d = 51 then 2 else if d = 58 then 2 else if d = 66 then 2 else if d = 73 then 2 else if d = 75 then 2 else if d = 79 then 2 else 0
def f3 : TFun := ⟨x3, a3, false⟩
@[simp] theorem f3_an : f3.an = a3 := rfl
@[simp] theorem f3_body : f3.fn.body = x3.body := rfl
@[simp] theorem f3_keep : f3.keep = false := rfl
@[simp] theorem f3_res : f3.fn.results = [.tmp 2] := rfl
@[simp] def a8 : Ann := fun d => if d = 4 then 1 else if d = 5 then 1 else if d = 6 then 1 else if d = 7 then 1 else if d = 8 then 1 else if d = 9 then 1 else if d = 14 then 1 else if d = 23 then 2 else if d = 28 then 2 else if d = 30 then 1 else if d = 39 then 2 else if d = 44 then 2 else if d = 54 then 1 else if d = 63 then 1 else if d = 72 then 2 else if d = 81 then 2 else if d = 83 then 1 else if d = 96 then 2 else if d = 97 then 2 else if d = 99 then 1 else if d = 100 then 2 else if d = 101 then 2 else 0
def f8 : TFun := ⟨x8, a8, false⟩
@[simp] theorem f8_an : f8.an = a8 := rfl
@[simp] theorem f8_body : f8.fn.body = x8.body := rfl
@[simp] theorem f8_keep : f8.keep = false := rfl
@[simp] theorem f8_res : f8.fn.results = [.tmp 4] := rfl
@[simp] def a10 : Ann := fun d => if d = 2 then 1 else if d = 3 then 1 else if d = 4 then 1 else if d = 6 then 1 else if d = 7 then 1 else if d = 8 then 1 else if d = 9 then 1 else if d = 14 then 1 else if d = 16 then 1 else if d = 19 then 2 else if d = 33 then 3 else if d = 36 then 2 else if d = 39 then 2 else if d = 41 then 1 else if d = 43 then 1 else if d = 45 then 1 else if d = 46 then 1 else if d = 47 then 1 else if d = 48 then 1 else if d = 52 then 1 else if d = 53 then 1 else if d = 57 then 1 else 0
def f10 : TFun := ⟨x10, a10, false⟩
@[simp] theorem f10_an : f10.an = a10 := rfl
@[simp] theorem f10_body : f10.fn.body = x10.body := rfl
@[simp] theorem f10_keep : f10.keep = false := rfl
@[simp] theorem f10_res : f10.fn.results = [.tmp 2] := rfl
@[simp] def a11 : Ann := fun d => if d = 2 then 1 else if d = 3 then 1 else if d = 4 then 1 else if d = 5 then 1 else if d = 6 then 1 else if d = 7 then 1 else if d = 8 then 2 else if d = 13 then 2 else if d = 18 then 3 else if d = 19 then 2 else if d = 31 then 2 else if d = 32 then 2 else if d = 37 then 2 else if d = 38 then 2 else if d = 40 then 3 else if d = 41 then 2 else if d = 45 then 2 else if d = 51 then 1 else if d = 52 then 1 else if d = 55 then 1 else if d = 56 then 1 else if d = 59 then 1 else 0
def f11 : TFun := ⟨x11, a11, true⟩
@[simp] theorem f11_an : f11.an = a11 := rfl
@[simp] theorem f11_body : f11.fn.body = x11.body := rfl
@[simp] theorem f11_keep : f11.keep = true := rfl
@[simp] theorem f11_res : f11.fn.results = [.tmp 2] := rfl
@[simp] def a12 : Ann := fun d => if d = 2 then 1 else if d = 3 then 3 else if d = 4 then 3 else if d = 5 then 3 else if d = 13 then 2 else if d = 19 then 2 else if d = 21 then 1 else 0
def f12 : TFun := ⟨x12, a12, false⟩
@[simp] theorem f12_an : f12.an = a12 := rfl
@[simp] theorem f12_body : f12.fn.body = x12.body := rfl
@[simp] theorem f12_keep : f12.keep = false := rfl
@[simp] theorem f12_res : f12.fn.results = [.tmp 2] := rfl
@[simp] def a13 : Ann := fun d => if d = 2 then 1 else if d = 3 then 1 else if d = 4 then 1 else if d = 5 then 1 else if d = 6 then 1 else if d = 7 then 1 else if d = 19 then 1 else if d = 20 then 2 else if d = 24 then 2 else if d = 29 then 1 else if d = 33 then 2 else if d = 38 then 1 else if d = 44 then 1 else 0
def f13 : TFun := ⟨x13, a13, false⟩
@[simp] theorem f13_an : f13.an = a13 := rfl
@[simp] theorem f13_body : f13.fn.body = x13.body := rfl
@[simp] theorem f13_keep : f13.keep = false := rfl
@[simp] theorem f13_res : f13.fn.results = [.tmp 2] := rfl
@[simp] def a20 : Ann := fun d => if d = 4 then 1 else if d = 5 then 1 else if d = 6 then 1 else if d = 7 then 2 else if d = 11 then 2 else if d = 17 then 2 else if d = 18 then 2 else if d = 20 then 2 else if d = 21 then 2 else 0
def f20 : TFun := ⟨x20, a20, false⟩
@[simp] theorem f20_an : f20.an = a20 := rfl
@[simp] theorem f20_body : f20.fn.body = x20.body := rfl
@[simp] theorem f20_keep : f20.keep = false := rfl
@[simp] theorem f20_res : f20.fn.results = [.tmp 4] := rfl
@[simp] def a24 : Ann := fun d => if d = 4 then 1 else if d = 5 then 1 else if d = 6 then 1 else if d = 7 then 2 else if d = 11 then 2 else if d = 17 then 2 else if d = 18 then 2 else if d = 20 then 2 else if d = 21 then 2 else 0
def f24 : TFun := ⟨x24, a24, false⟩
@[simp] theorem f24_an : f24.an = a24 := rfl
@[simp] theorem f24_body : f24.fn.body = x24.body := rfl
@[simp] theorem f24_keep : f24.keep = false := rfl
@[simp] theorem f24_res : f24.fn.results = [.tmp 4] := rfl
@[simp] def a26 : Ann := fun d => if d = 6 then 1 else if d = 11 then 2 else if d = 14 then 2 else if d = 16 then 1 else if d = 18 then 1 else if d = 22 then 2 else if d = 24 then 2 else if d = 27 then 1 else if d = 31 then 2 else if d = 33 then 1 else if d = 39 then 2 else 0
def f26 : TFun := ⟨x26, a26, false⟩
@[simp] theorem f26_an : f26.an = a26 := rfl
@[simp] theorem f26_body : f26.fn.body = x26.body := rfl
@[simp] theorem f26_keep : f26.keep = false := rfl
@[simp] theorem f26_res : f26.fn.results = [] := rfl
@[simp] def a27 : Ann := fun d => if d = 6 then 1 else if d = 7 then 1 else if d = 9 then 2 else if d = 11 then 2 else if d = 15 then 2 else if d = 21 then 2 else if d = 23 then 2 else if d = 28 then 2 else if d = 33 then 2 else if d = 40 then 2 else if d = 41 then 2 else 0
def f27 : TFun := ⟨x27, a27, false⟩
@[simp] theorem f27_an : f27.an = a27 := rfl
@[simp] theorem f27_body : f27.fn.body = x27.body := rfl
@[simp] theorem f27_keep : f27.keep = false := rfl
@[simp] theorem f27_res : f27.fn.results = [] := rfl
@[simp] def a28 : Ann := fun d => if d = 6 then 1 else if d = 7 then 2 else if d = 9 then 1 else if d = 12 then 1 else if d = 16 then 2 else if d = 21 then 2 else if d = 25 then 2 else 0
def f28 : TFun := ⟨x28, a28, false⟩
@[simp] theorem f28_an : f28.an = a28 := rfl
@[simp] theorem f28_body : f28.fn.body = x28.body := rfl
@[simp] theorem f28_keep : f28.keep = false := rfl
@[simp] theorem f28_res : f28.fn.results = [] := rfl
@[simp] def a47 : Ann := fun d => if d = 1 then 1 else if d = 6 then 1 else if d = 7 then 1 else if d = 8 then 2 else if d = 10 then 2 else if d = 15 then 1 else if d = 16 then 2 else if d = 17 then 2 else if d = 20 then 2 else if d = 27 then 2 else if d = 28 then 2 else if d = 30 then 1 else 0
def f47 : TFun := ⟨x47, a47, false⟩
@[simp] theorem f47_an : f47.an = a47 := rfl
@[simp] theorem f47_body : f47.fn.body = x47.body := rfl
@[simp] theorem f47_keep : f47.keep = false := rfl
@[simp] theorem f47_res : f47.fn.results = [.tmp 6] := rfl
@[simp] def a48 : Ann := fun d => if d = 1 then 1 else if d = 6 then 1 else if d = 7 then 1 else if d = 8 then 2 else if d = 18 then 2 else if d = 23 then 1 else if d = 24 then 2 else if d = 25 then 2 else if d = 28 then 2 else if d = 35 then 2 else if d = 36 then 2 else if d = 38 then 1 else 0
def f48 : TFun := ⟨x48, a48, false⟩
@[simp] theorem f48_an : f48.an = a48 := rfl
@[simp] theorem f48_body : f48.fn.body = x48.body := rfl
@[simp] theorem f48_keep : f48.keep = false := rfl
@[simp] theorem f48_res : f48.fn.results = [.tmp 6] := rfl
end Go.Xe.Ytjdiibhkdanbiaa
end
section
namespace Go.Xt
open Go Go.Xe
set_option linter.unusedVariables false
attribute [simp] Function.comp_def small Xe.ones tops wantedT tdo TAct.ev TAct.at TAct.put TAct.tick taken isOwn frz frz1 frzs Tri.ofList Tri.get_set Tri.get_nil TV.cells onesT stok Ann.md ofV ofV.ofVs boxAt boxPut tLoad1 tLoadN tStore tMove tLen tVal tNew
  tIndex tSlice srcT tAppend apm slOk bytesSrc Md.app plGet velAt plSet ownChs reSl give gives fillT putAt chop repT boundT optB hiB boundsT tLookup tMapUpdate targetT enterT tres tresults packedT tleave tfinish canon canon.canons below below.belows
  below.belowss okSz tun teq teqs baseOk Pl.old baseOf Pl.offX isStr
  topsE topsD pairsOkT pairOkT freeT stays sepT kindOf twE_some twE_none twD_some twD_none tw_regionE tw_regionD
  tw_some tw_none tw_nil tw_k tw_k_exit tw_k_ret tw_k_panic tw_b tw_b_ret tw_b_panic tw_b_exit tw_seq tw_block tw_cond twc_true twc_false tw_skip tw_exit tw_ret tw_region
  tbin_add tbin_sub tbin_mul tbin_eql tbin_neq tbin_lss tbin_gtr tbin_leq tbin_geq tbin_seql tbin_sneq bleT bltT beqT
def Fin (fn : TFun) (k : Nat) (P : TEnd → Sto → Prop) : TEx → TAct → Sto → Prop
  | .normal, a, σ => a.df = [] ∧ ∃ e σ', tfinish a fn k σ .ret = some (e, σ') ∧ P e σ'
  | .ret, a, σ => a.df = [] ∧ ∃ e σ', tfinish a fn k σ .ret = some (e, σ') ∧ P e σ'
  | .panic v, a, σ => a.df = [] ∧ ∃ e σ', tfinish a fn k σ (.panicking v) = some (e, σ') ∧ P e σ'
  | .exit _, _, _ => False
theorem fin_normal (fn : TFun) (k : Nat) (P : TEnd → Sto → Prop) (a : TAct) (σ : Sto) : Fin fn k P .normal a σ ↔ a.df = [] ∧ ∃ e σ', tfinish a fn k σ .ret = some (e, σ') ∧ P e σ' := Iff.rfl
theorem fin_ret (fn : TFun) (k : Nat) (P : TEnd → Sto → Prop) (a : TAct) (σ : Sto) : Fin fn k P .ret a σ ↔ a.df = [] ∧ ∃ e σ', tfinish a fn k σ .ret = some (e, σ') ∧ P e σ' := Iff.rfl
theorem fin_panic (fn : TFun) (k : Nat) (P : TEnd → Sto → Prop) (v : TV) (a : TAct) (σ : Sto) : Fin fn k P (.panic v) a σ ↔ a.df = [] ∧ ∃ e σ', tfinish a fn k σ (.panicking v) = some (e, σ') ∧ P e σ' := Iff.rfl
attribute [simp] fin_normal fin_ret fin_panic
@[simp] theorem ex2 {α β : Type} {x : α} {y : β} {P : α → β → Prop} : (∃ e s, (x = e ∧ y = s) ∧ P e s) ↔ P x y :=
  ⟨fun ⟨_, _, ⟨h1, h2⟩, h⟩ => by subst h1; subst h2; exact h, fun h => ⟨x, y, ⟨rfl, rfl⟩, h⟩⟩
theorem tcall_of {F : FuncId → Option TFun} {O : FuncId → List TV → Option TV} {N b : Nat} {f : FuncId} {args : List TV} {σ : Sto} {fn : TFun} (hF : F f = some fn) {P : TEnd → Sto → Prop}
    (h : Tw fn.an (baseOf fn.keep b σ.length) (tcall F O N) N (Fin fn σ.length P) [] (tcode fn.an (baseOf fn.keep b σ.length) (tcall F O N) N fn.fn.body (enterT args) σ)) :
    ∃ e σ', tcall F O (N + 1) b f args σ = some (e, σ') ∧ P e σ' := by
  obtain ⟨e, a, σ1, h1, h2⟩ := h
  simp only [tcall, hF]
  cases e with
  | normal => obtain ⟨h3, e, σ', h4, h5⟩ := h2; refine ⟨e, σ', ?_, h5⟩; rw [h1]; simp only [h3, tdefers]; exact h4
  | ret => obtain ⟨h3, e, σ', h4, h5⟩ := h2; refine ⟨e, σ', ?_, h5⟩; rw [h1]; simp only [h3, tdefers]; exact h4
  | panic v => obtain ⟨h3, e, σ', h4, h5⟩ := h2; refine ⟨e, σ', ?_, h5⟩; rw [h1]; simp only [h3, tdefers]; exact h4
  | exit id => exact h2.elim
theorem tcall_pure {F : FuncId → Option TFun} {O : FuncId → List TV → Option TV} {N b : Nat} {f : FuncId} {args : List TV} {σ : Sto} {fn : TFun} (hF : F f = some fn) {v : TV}
    (h : Tw fn.an (baseOf fn.keep b σ.length) (tcall F O N) N (Fin fn σ.length fun e σ' => e = .ret v ∧ σ' = σ) [] (tcode fn.an (baseOf fn.keep b σ.length) (tcall F O N) N fn.fn.body (enterT args) σ)) :
    tcall F O (N + 1) b f args σ = some (.ret v, σ) := by
  obtain ⟨e, σ', h1, rfl, rfl⟩ := tcall_of hF h
  exact h1
theorem below_encT (b : Nat) : (∀ t, below.belows b (encT t) = true) ∧ ∀ l, below.belowss b (encTs l) = true := by
  have h : ∀ n, (∀ t, szT t ≤ n → below.belows b (encT t) = true) ∧ ∀ l, szTs l ≤ n → below.belowss b (encTs l) = true := by
    intro n
    induction n with
    | zero => exact ⟨fun t h => by rw [szT_def] at h; omega, fun l h => by cases l <;> simp_all [szTs, encTs, below.belowss]⟩
    | succ n ih =>
      constructor
      · intro t h
        cases t with
        | mk k l => simp only [szT] at h; simp [encT, below.belows, below, ih.2 l (by omega)]
      · intro l h
        cases l with
        | nil => rfl
        | cons t l => simp only [szTs] at h; simp [encTs, below.belowss, ih.1 t (by omega), ih.2 l (by omega)]
  exact ⟨fun t => (h _).1 t (Nat.le_refl _), fun l => (h _).2 l (Nat.le_refl _)⟩
theorem below_map {α : Type} (b : Nat) (f : α → List TV) (h : ∀ x, below.belows b (f x) = true) : ∀ l : List α, below.belowss b (l.map f) = true
  | [] => rfl
  | x :: l => by simp only [List.map_cons, below.belowss, h, below_map b f h l, Bool.and_self]
theorem below_encS (b : Nat) (s : Str) : below.belows b (encS s) = true := rfl
theorem below_encI (b : Nat) (s : Int) : below.belows b (encI s) = true := rfl
theorem below_encB (b : Nat) (s : Bool) : below.belows b (encB s) = true := rfl
@[simp] theorem all_tt {α : Type} (l : List α) : (l.all fun _ => true) = true := List.all_eq_true.2 fun _ _ => rfl
@[simp] theorem any_ff {α : Type} (l : List α) : (l.any fun _ => false) = false := List.any_eq_false.2 fun _ _ => by simp
@[simp] theorem take_set_len (σ : Sto) (i : Nat) (x : Option TObj) : List.take (List.length σ) (List.set σ i x) = List.set σ i x := List.take_of_length_le (by simp)
@[simp] theorem take_app_len (σ τ : Sto) : List.take (List.length σ) (σ ++ τ) = σ := by simp
@[simp] theorem take_map_len {α β : Type} (f : α → β) (l : List α) : List.take l.length (l.map f) = l.map f := List.take_of_length_le (by simp)
theorem Sto.lt {σ : Sto} {k : Nat} {o : TObj} (h : σ.at k = some o) : k < σ.length := by
  unfold Sto.at at h
  split at h
  · rename_i x hx; exact (List.getElem?_eq_some_iff.1 hx).1
  · cases h
theorem at_ne {σ : Sto} {k j : Nat} {o : Option TObj} (h : k ≠ j) : Sto.at (σ.set k o) j = σ.at j := by simp only [Sto.at]; rw [List.getElem?_set_ne h]
theorem Sto.set_same {σ : Sto} {k : Nat} {o : TObj} (h : σ.at k = some o) : σ.set k (some o) = σ := by
  have hk := Sto.lt h
  unfold Sto.at at h
  split at h
  · rename_i x hx
    cases h
    have := (List.getElem?_eq_some_iff.1 hx).2
    rw [← this]; simp
  · cases h
def tk {α : Type} (l : List α) (j : Nat) : List α := l.take j
theorem tk_zero {α : Type} (l : List α) : tk l 0 = [] := rfl
theorem tk_all {α : Type} (l : List α) : tk l l.length = l := List.take_length
theorem tk_succ {α : Type} {l : List α} {j : Nat} (h : j < l.length) : tk l (j + 1) = tk l j ++ [l[j]] := by unfold tk; simp
theorem tk_len {α : Type} {l : List α} {j : Nat} (h : j ≤ l.length) : (tk l j).length = j := by unfold tk; simp; omega
inductive Bld (e s : Nat) : List (List TV) → TV → Prop
  | nl : Bld e s [] (.sl .nl [])
  | own (l : List (List TV)) : Bld e s l (.sl (.own e s) l)
theorem Bld.inv {e s : Nat} {l : List (List TV)} {v : TV} (h : Bld e s l v) : (l = [] ∧ v = .sl .nl []) ∨ v = .sl (.own e s) l := by
  cases h
  · exact .inl ⟨rfl, rfl⟩
  · exact .inr rfl
end Go.Xt
end
section
namespace Go.Xe.Ytjdiibhkdanbiaa
open Go Go.Xe Go.Xt
set_option linter.unusedVariables false
set_option linter.unusedSimpArgs false
variable {F : FuncId → Option TFun} {O : FuncId → List TV → Option TV}
mutual
def sizeT : PTyp → Int → Int → Int
  | .mk _ list, n, most => sizeTs list (IntKind.i64.wrap (n + 1)) most
def sizeTs : List PTyp → Int → Int → Int
  | [], n, _ => n
  | k :: r, n, most => if n ≤ most then sizeTs r (sizeT k n most) most else n
end
mutual
def sizeE : PExpr → Int → Int → Int
  | .mk _ _ _ names odds kids _ _, n, most => sizeEs kids (IntKind.i64.wrap (IntKind.i64.wrap (IntKind.i64.wrap (n + 1) + (names.length : Int)) + (odds.length : Int))) most
def sizeEs : List PExpr → Int → Int → Int
  | [], n, _ => n
  | k :: r, n, most => if n ≤ most then sizeEs r (sizeE k n most) most else n
end
theorem sizeT_def (e : PTyp) (n most : Int) : sizeT e n most = sizeTs e.list (IntKind.i64.wrap (n + 1)) most := by
  cases e; simp only [sizeT, PTyp.list]
theorem sizeE_def (e : PExpr) (n most : Int) : sizeE e n most = sizeEs e.kids (IntKind.i64.wrap (IntKind.i64.wrap (IntKind.i64.wrap (n + 1) + (e.names.length : Int)) + (e.odds.length : Int))) most := by
  cases e; simp only [sizeE, PExpr.kids, PExpr.names, PExpr.odds]
theorem wrapJ {j n : Nat} (h : j < n) (hn : n ≤ maxLen) : IntKind.i64.wrap ((j : Int) + 1) = ((j + 1 : Nat) : Int) := by
  unfold maxLen at hn
  rw [wrap_in] <;> omega
theorem typeSize_t (hF : F 47 = some f47) : ∀ (N : Nat) (e : PTyp) (b : Nat) (σ : Sto) (m most : Int), szT e ≤ N → OkT e →
    tcall F O N b 47 [.agg (encT e), .int .i64 m, .int .i64 most] σ = some (.ret (.int .i64 (sizeT e m most)), σ)
  | 0, e, b, σ, m, most, h, _ => by rw [szT_def] at h; omega
  | N + 1, e, b, σ, m, most, h, hb => by
    have ih := typeSize_t hF N
    have hk := szTs_len e.list
    have hs := szT_def e
    refine tcall_pure hF ?_
    simp [x47, a47, encT_def]
    refine tw_loop (I := fun j a σ' => a.df = [] ∧ σ' = σ ∧ ∃ acc, sizeTs (e.list.drop j) acc most = sizeT e m most ∧ a.tm.get 1 = some (.int .i64 acc) ∧ a.tm.get 2 = some (.int .i64 most) ∧ a.tm.get 3 = some (.bx 0 (encT e) 45) ∧ a.tm.get 7 = some (.int .i64 j)) e.list.length
      (R := fun ex a σ' => ex = .exit 0 ∧ a.df = [] ∧ σ' = σ ∧ a.tm.get 1 = some (.int .i64 (sizeT e m most))) ?_ ?_ ?_ ?_ ?_
    · simp [encT_def, sizeT_def]
    · omega
    · rintro j ⟨tm, df, clk⟩ σ' hj ⟨rfl, rfl, acc, hacc, h1, h2, h3, h7⟩
      have hd := List.drop_eq_getElem_cons hj
      rw [hd, sizeTs] at hacc
      have hm := szTs_mem e.list e.list[j] (List.getElem_mem hj)
      have hw := wrapJ hj hb.len
      have hc := ih e.list[j] σ'.length σ' acc most (by omega) (hb.sub _ (List.getElem_mem hj))
      rw [encT_def] at h3 hc
      by_cases ha : acc ≤ most
      · rw [if_pos ha] at hacc
        simp [h1, h2, h3, h7, hj, ha, hc, hw, encT_def, hacc]
      · rw [if_neg ha] at hacc
        subst hacc
        simp [h1, h2, h3, h7, hj, ha]
    · rintro ⟨tm, df, clk⟩ σ' ⟨rfl, rfl, acc, hacc, h1, h2, h3, h7⟩
      rw [encT_def] at h3
      simp [sizeTs] at hacc
      simp [h1, h2, h3, h7, hacc]
    · rintro ex ⟨tm, df, clk⟩ σ' ⟨rfl, rfl, rfl, h1⟩
      simp [h1]
theorem size_t (hF : F 48 = some f48) : ∀ (N : Nat) (e : PExpr) (b : Nat) (σ : Sto) (m most : Int), szE e ≤ N → OkE e →
    tcall F O N b 48 [.agg (encE e), .int .i64 m, .int .i64 most] σ = some (.ret (.int .i64 (sizeE e m most)), σ)
  | 0, e, b, σ, m, most, h, _ => by rw [szE_def] at h; omega
  | N + 1, e, b, σ, m, most, h, hb => by
    have ih := size_t hF N
    have hk := szEs_len e.kids
    have hs := szE_def e
    refine tcall_pure hF ?_
    simp [x48, a48, encE_def]
    refine tw_loop (I := fun j a σ' => a.df = [] ∧ σ' = σ ∧ ∃ acc, sizeEs (e.kids.drop j) acc most = sizeE e m most ∧ a.tm.get 1 = some (.int .i64 acc) ∧ a.tm.get 2 = some (.int .i64 most) ∧ a.tm.get 3 = some (.bx 0 (encE e) 28) ∧ a.tm.get 7 = some (.int .i64 j)) e.kids.length
      (R := fun ex a σ' => ex = .exit 0 ∧ a.df = [] ∧ σ' = σ ∧ a.tm.get 1 = some (.int .i64 (sizeE e m most))) ?_ ?_ ?_ ?_ ?_
    · simp [encE_def, sizeE_def]
    · omega
    · rintro j ⟨tm, df, clk⟩ σ' hj ⟨rfl, rfl, acc, hacc, h1, h2, h3, h7⟩
      have hd := List.drop_eq_getElem_cons hj
      rw [hd, sizeEs] at hacc
      have hm := szEs_mem e.kids e.kids[j] (List.getElem_mem hj)
      have hw := wrapJ hj hb.kids
      have hc := ih e.kids[j] σ'.length σ' acc most (by omega) (hb.sub _ (List.getElem_mem hj))
      rw [encE_def] at h3 hc
      by_cases ha : acc ≤ most
      · rw [if_pos ha] at hacc
        simp [h1, h2, h3, h7, hj, ha, hc, hw, encE_def, hacc]
      · rw [if_neg ha] at hacc
        subst hacc
        simp [h1, h2, h3, h7, hj, ha]
    · rintro ⟨tm, df, clk⟩ σ' ⟨rfl, rfl, acc, hacc, h1, h2, h3, h7⟩
      rw [encE_def] at h3
      simp [sizeEs] at hacc
      simp [h1, h2, h3, h7, hacc]
    · rintro ex ⟨tm, df, clk⟩ σ' ⟨rfl, rfl, rfl, h1⟩
      simp [h1]
theorem few_t (hF : F 24 = some f24) (hS : F 48 = some f48) (N : Nat) (l : List PExpr) (b : Nat) (σ : Sto) (most : Int) (h : szEs l < N) (hl : l.length ≤ maxLen) (hok : ∀ e ∈ l, OkE e) :
    ∃ r, tcall F O (N + 1) b 24 [.int .i64 most, .sl .fz (l.map encE)] σ = some (.ret (.bool r), σ) := by
  have hk := szEs_len l
  suffices hh : ∃ e σ', tcall F O (N + 1) b 24 [.int .i64 most, .sl .fz (l.map encE)] σ = some (e, σ') ∧ ∃ r, e = .ret (.bool r) ∧ σ' = σ by
    obtain ⟨e, σ', h1, r, rfl, rfl⟩ := hh
    exact ⟨r, h1⟩
  refine tcall_of hF ?_
  simp [x24, a24]
  refine tw_loop (I := fun j a σ' => a.df = [] ∧ σ' = σ ∧ ∃ acc, a.tm.get 0 = some (.int .i64 most) ∧ a.tm.get 1 = some (.sl .fz (l.map encE)) ∧ a.tm.get 5 = some (.int .i64 acc) ∧ a.tm.get 6 = some (.int .i64 j)) l.length
    (R := fun ex a σ' => ex = .exit 0 ∧ a.df = [] ∧ σ' = σ ∧ ∃ acc, a.tm.get 0 = some (.int .i64 most) ∧ a.tm.get 5 = some (.int .i64 acc)) ?_ ?_ ?_ ?_ ?_
  · simp
  · omega
  · rintro j ⟨tm, df, clk⟩ σ' hj ⟨rfl, rfl, acc, h0, h1, h5, h6⟩
    have hm := szEs_mem l l[j] (List.getElem_mem hj)
    have hw := wrapJ hj hl
    have hc := size_t (O := O) hS N l[j] σ'.length σ' acc most (by omega) (hok _ (List.getElem_mem hj))
    rw [encE_def] at hc
    simp [h0, h1, h5, h6, hj, hc, hw, encE_def]
  · rintro ⟨tm, df, clk⟩ σ' ⟨rfl, rfl, acc, h0, h1, h5, h6⟩
    simp [h0, h1, h5, h6]
  · rintro ex ⟨tm, df, clk⟩ σ' ⟨rfl, rfl, rfl, acc, h0, h5⟩
    simp [h0, h5]
    omega
theorem fewTypes_t (hF : F 20 = some f20) (hS : F 47 = some f47) (N : Nat) (l : List PTyp) (b : Nat) (σ : Sto) (most : Int) (h : szTs l < N) (hl : l.length ≤ maxLen) (hok : ∀ e ∈ l, OkT e) :
    ∃ r, tcall F O (N + 1) b 20 [.int .i64 most, .sl .fz (l.map encT)] σ = some (.ret (.bool r), σ) := by
  have hk := szTs_len l
  suffices hh : ∃ e σ', tcall F O (N + 1) b 20 [.int .i64 most, .sl .fz (l.map encT)] σ = some (e, σ') ∧ ∃ r, e = .ret (.bool r) ∧ σ' = σ by
    obtain ⟨e, σ', h1, r, rfl, rfl⟩ := hh
    exact ⟨r, h1⟩
  refine tcall_of hF ?_
  simp [x20, a20]
  refine tw_loop (I := fun j a σ' => a.df = [] ∧ σ' = σ ∧ ∃ acc, a.tm.get 0 = some (.int .i64 most) ∧ a.tm.get 1 = some (.sl .fz (l.map encT)) ∧ a.tm.get 5 = some (.int .i64 acc) ∧ a.tm.get 6 = some (.int .i64 j)) l.length
    (R := fun ex a σ' => ex = .exit 0 ∧ a.df = [] ∧ σ' = σ ∧ ∃ acc, a.tm.get 0 = some (.int .i64 most) ∧ a.tm.get 5 = some (.int .i64 acc)) ?_ ?_ ?_ ?_ ?_
  · simp
  · omega
  · rintro j ⟨tm, df, clk⟩ σ' hj ⟨rfl, rfl, acc, h0, h1, h5, h6⟩
    have hm := szTs_mem l l[j] (List.getElem_mem hj)
    have hw := wrapJ hj hl
    have hc := typeSize_t (O := O) hS N l[j] σ'.length σ' acc most (by omega) (hok _ (List.getElem_mem hj))
    rw [encT_def] at hc
    simp [h0, h1, h5, h6, hj, hc, hw, encT_def]
  · rintro ⟨tm, df, clk⟩ σ' ⟨rfl, rfl, acc, h0, h1, h5, h6⟩
    simp [h0, h1, h5, h6]
  · rintro ex ⟨tm, df, clk⟩ σ' ⟨rfl, rfl, rfl, acc, h0, h5⟩
    simp [h0, h5]
    omega
theorem fewTypes_nl (hF : F 20 = some f20) (N : Nat) (b : Nat) (σ : Sto) (most : Int) :
    ∃ r, tcall F O (N + 2) b 20 [.int .i64 most, .sl .nl []] σ = some (.ret (.bool r), σ) := by
  suffices hh : ∃ e σ', tcall F O (N + 2) b 20 [.int .i64 most, .sl .nl []] σ = some (e, σ') ∧ ∃ r, e = .ret (.bool r) ∧ σ' = σ by
    obtain ⟨e, σ', h1, r, rfl, rfl⟩ := hh
    exact ⟨r, h1⟩
  refine tcall_of hF ?_
  simp [x20, a20]
  refine tw_loop (I := fun j a σ' => a.df = [] ∧ σ' = σ ∧ a.tm.get 0 = some (.int .i64 most) ∧ a.tm.get 1 = some (.sl .nl []) ∧ a.tm.get 5 = some (.int .i64 0) ∧ a.tm.get 6 = some (.int .i64 j)) 0
    (R := fun ex a σ' => ex = .exit 0 ∧ a.df = [] ∧ σ' = σ ∧ a.tm.get 0 = some (.int .i64 most) ∧ a.tm.get 5 = some (.int .i64 0)) ?_ ?_ ?_ ?_ ?_
  · simp
  · omega
  · rintro j ⟨tm, df, clk⟩ σ' hj
    omega
  · rintro ⟨tm, df, clk⟩ σ' ⟨rfl, rfl, h0, h1, h5, h6⟩
    simp at h6
    simp [h0, h1, h5, h6]
  · rintro ex ⟨tm, df, clk⟩ σ' ⟨rfl, rfl, rfl, h0, h5⟩
    simp [h0, h5]
    omega
end Go.Xe.Ytjdiibhkdanbiaa
end
section
namespace Go.Xe.Ytjdiibhkdanbiaa
open Go Go.Xe Go.Xt
set_option linter.unusedVariables false
set_option linter.unusedSimpArgs false
variable {F : FuncId → Option TFun} {O : FuncId → List TV → Option TV}
def funT (f : PFun) : List PTyp := f.result :: f.params.map PFld.type
def allT (p : PProg) : List PTyp := p.inputs.map PFld.type ++ p.funs.flatMap funT
def allE (p : PProg) : List PExpr := p.query :: p.funs.map PFun.body
theorem small_eq : small = 1073741824 := rfl
theorem fewProgram_t (hF : F 8 = some f8) (h24 : F 24 = some f24) (h48 : F 48 = some f48) (h20 : F 20 = some f20) (h47 : F 47 = some f47) (N : Nat) (p : PProg) (b : Nat) (σ : Sto) (most : Int) (hok : OkP p)
    (h1 : szEs (allE p) + p.inputs.length + p.funs.length + 200 < N) (h2 : szTs (allT p) < N) :
    ∃ r, tcall F O (N + 2) b 8 [.int .i64 most, .agg (encP p)] σ = some (.ret (.bool r), σ) ∧ (r = true → p.funs.length ≤ 100) := by
  suffices hh : ∃ e σ', tcall F O (N + 2) b 8 [.int .i64 most, .agg (encP p)] σ = some (e, σ') ∧ ∃ r, e = .ret (.bool r) ∧ σ' = σ ∧ (r = true → p.funs.length ≤ 100) by
    obtain ⟨e, σ', h1, r, rfl, rfl, h2⟩ := hh
    exact ⟨r, h1, h2⟩
  refine tcall_of hF ?_
  by_cases hi : (100 : Int) < (p.inputs.length : Int)
  · simp [x8, a8, encP_def, hi]
  · by_cases hf : (100 : Int) < (p.funs.length : Int)
    · simp [x8, a8, encP_def, hi, hf]
    · have hi' : p.inputs.length ≤ 100 := by omega
      have hf' : p.funs.length ≤ 100 := by omega
      have hil : p.inputs.length ≤ maxLen := hok.ilen
      have hfl : p.funs.length ≤ maxLen := hok.flen
      simp [x8, a8, encP_def, hi, hf, encE_def, small_eq]
      refine tw_loop (I := fun j a σ' => a.df = [] ∧ σ' = σ ∧ a.tm.get 0 = some (.int .i64 most) ∧ a.tm.get 3 = some (.bx 0 (encP p) 30) ∧ a.tm.get 5 = some (.sl (.own 28 8) ([p.query].map encE)) ∧ a.tm.get 7 = some (.int .i64 j) ∧
          ∃ v, Bld 45 2 ((tk p.inputs j).map fun x => encT x.type) v ∧ a.tm.get 6 = some v) p.inputs.length
        (R := fun ex a σ' => ex = .exit 0 ∧ a.df = [] ∧ σ' = σ ∧ a.tm.get 0 = some (.int .i64 most) ∧ a.tm.get 3 = some (.bx 0 (encP p) 30) ∧ a.tm.get 5 = some (.sl (.own 28 8) ([p.query].map encE)) ∧
          ∃ v, Bld 45 2 (p.inputs.map fun x => encT x.type) v ∧ a.tm.get 6 = some v) ?_ ?_ ?_ ?_ ?_
      · simp [encP_def, encE_def, tk_zero, Bld.nl]
      · omega
      · rintro j ⟨tm, df, clk⟩ σ' hj ⟨rfl, rfl, h0, h3, h5, h7, v, hv, h6⟩
        have ht := tk_succ hj
        have htl := tk_len (Nat.le_of_lt hj)
        have hw := wrapJ hj hil
        have hs : j + 1 ≤ 1073741824 := by omega
        rw [encP_def] at h3
        rw [ht]
        rcases hv.inv with ⟨hl, rfl⟩ | rfl
        · have hl0 : tk p.inputs j = [] := by simpa using hl
          simp [h0, h3, h5, h6, h7, hj, hw, encF_def, encT_def, encP_def, small_eq, a8, hl0, Bld.own]
        · simp [h0, h3, h5, h6, h7, hj, hw, encF_def, encT_def, encP_def, small_eq, hs, htl, a8, Bld.own]
      · rintro ⟨tm, df, clk⟩ σ' ⟨rfl, rfl, h0, h3, h5, h7, v, hv, h6⟩
        rw [encP_def] at h3
        rw [tk_all] at hv
        simp [h0, h3, h5, h6, h7, encP_def]
        exact hv
      · rintro ex ⟨tm, df, clk⟩ σ' ⟨rfl, rfl, rfl, h0, h3, h5, v, hv, h6⟩
        rw [encP_def] at h3
        simp [h0, h3, h5, h6]
        obtain ⟨I, hI⟩ : ∃ I : Nat → TAct → Sto → Prop, I = (fun j a σ1 => a.df = [] ∧ σ1 = σ' ∧ a.tm.get 0 = some (.int .i64 most) ∧ a.tm.get 3 = some (.bx 0 (encP p) 30) ∧ a.tm.get 8 = some (.int .i64 j) ∧
            a.tm.get 5 = some (.sl (.own 28 8) ((p.query :: (tk p.funs j).map PFun.body).map encE)) ∧
            ∃ ts : List PTyp, ts = p.inputs.map PFld.type ++ (tk p.funs j).flatMap funT ∧ ts.length ≤ 100 + 101 * j ∧ ∃ v, Bld 45 2 (ts.map encT) v ∧ a.tm.get 6 = some v) := ⟨_, rfl⟩
        obtain ⟨R, hR⟩ : ∃ R : TEx → TAct → Sto → Prop, R = (fun ex a σ1 => a.df = [] ∧ σ1 = σ' ∧ (ex = .ret ∧ a.tm.get 4 = some (.bool false) ∨ ex = .exit 2 ∧ a.tm.get 0 = some (.int .i64 most) ∧ a.tm.get 5 = some (.sl (.own 28 8) ((allE p).map encE)) ∧
            (allT p).length ≤ maxLen ∧ ∃ v, Bld 45 2 ((allT p).map encT) v ∧ a.tm.get 6 = some v)) := ⟨_, rfl⟩
        refine tw_loop I p.funs.length R ?_ ?_ ?_ ?_ ?_
        · rw [hI]
          refine ⟨by simp, by simp, by simp [h0], by simp [h3, encP_def], by simp, by simp [h5, tk_zero], p.inputs.map PFld.type, by simp [tk_zero], by simp; omega, v, ?_, by simp [h6]⟩
          simpa [List.map_map] using hv
        · omega
        · rw [hI]
          rintro j ⟨tm, df, clk⟩ σ1 hj ⟨rfl, rfl, h0, h3, h8, h5, ts, hts, hlen, v, hv, h6⟩
          rw [← hI]
          have ht := tk_succ hj
          have htl := tk_len (Nat.le_of_lt hj)
          have hw := wrapJ hj hfl
          rw [encP_def] at h3
          have hs : j + 1 + 1 ≤ 1073741824 := by omega
          have hs2 : ts.length + 1 ≤ 1073741824 := by omega
          have hpl : p.funs[j].params.length ≤ maxLen := (hok.funs _ (List.getElem_mem hj)).plen
          by_cases hp : (100 : Int) < (p.funs[j].params.length : Int)
          · simp [h0, h3, h5, h6, h8, hj, hw, encFun_def, hp]
            rw [hR]; simp
          · obtain ⟨J, hJ⟩ : ∃ J : Nat → TAct → Sto → Prop, J = (fun k a σ2 => a.df = [] ∧ σ2 = σ1 ∧ a.tm.get 0 = some (.int .i64 most) ∧ a.tm.get 3 = some (.bx 0 (encP p) 30) ∧ a.tm.get 8 = some (.int .i64 j) ∧ a.tm.get 9 = some (.int .i64 k) ∧
                a.tm.get 5 = some (.sl (.own 28 8) ((p.query :: (tk p.funs (j + 1)).map PFun.body).map encE)) ∧ a.tm.get 6 = some (.sl (.own 45 2) ((ts ++ p.funs[j].result :: (tk p.funs[j].params k).map PFld.type).map encT))) := ⟨_, rfl⟩
            obtain ⟨S, hS⟩ : ∃ S : TEx → TAct → Sto → Prop, S = (fun ex a σ2 => ex = .exit 4 ∧ a.df = [] ∧ σ2 = σ1 ∧ a.tm.get 0 = some (.int .i64 most) ∧ a.tm.get 3 = some (.bx 0 (encP p) 30) ∧ a.tm.get 8 = some (.int .i64 j) ∧
                a.tm.get 5 = some (.sl (.own 28 8) ((p.query :: (tk p.funs (j + 1)).map PFun.body).map encE)) ∧ a.tm.get 6 = some (.sl (.own 45 2) ((ts ++ funT p.funs[j]).map encT))) := ⟨_, rfl⟩
            have htp : (tk p.funs[j].params 0).map PFld.type = [] := rfl
            have step : ∀ k a σ2, k < p.funs[j].params.length → J k a σ2 → True := fun _ _ _ _ _ => trivial
            rcases hv.inv with ⟨hl, rfl⟩ | rfl
            · have hl0 : ts = [] := by simpa using hl
              simp [h0, h3, h5, h6, h8, hj, hw, encFun_def, encT_def, encE_def, hp, hs, htl]
              refine tw_loop J p.funs[j].params.length S ?_ ?_ ?_ ?_ ?_
              · rw [hJ]
                refine ⟨rfl, rfl, by simp [h0], by simp [h3, encP_def], by simp [h8], by simp, by simp [ht, encE_def], by simp [htp, hl0, encT_def]⟩
              · omega
              · rw [hJ]
                rintro k ⟨tm, df, clk⟩ σ2 hk ⟨rfl, rfl, h0, h3, h8, h9, h5, h6⟩
                rw [← hJ]
                rw [encP_def] at h3
                have ht2 := tk_succ hk
                have htl2 := tk_len (Nat.le_of_lt hk)
                have hw2 := wrapJ hk hpl
                have hs3 : ts.length + (k + 1) + 1 ≤ 1073741824 := by omega
                simp [h0, h3, h5, h6, h8, h9, hj, hk, hw2, encFun_def, encF_def, encT_def, hs3, htl2]
                rw [hJ]
                refine ⟨rfl, rfl, by simp [h0], by simp [h3, encP_def], by simp [h8], by simp, by simp [h5], by simp [ht2, encT_def]⟩
              · rw [hJ]
                rintro ⟨tm, df, clk⟩ σ2 ⟨rfl, rfl, h0, h3, h8, h9, h5, h6⟩
                rw [encP_def] at h3
                rw [tk_all] at h6
                simp [h0, h3, h5, h6, h8, h9, hj, encFun_def]
                rw [hS]
                refine ⟨rfl, rfl, rfl, by simp [h0], by simp [h3, encP_def], by simp [h8], by simp [h5], by simp [h6, funT]⟩
              · rw [hS]
                rintro ex ⟨tm, df, clk⟩ σ2 ⟨rfl, rfl, rfl, h0, h3, h8, h5, h6⟩
                simp [h0, h3, h5, h6, h8, hw]
                rw [hI]
                refine ⟨rfl, rfl, by simp [h0], by simp [h3], by simp, by simp [h5], ts ++ funT p.funs[j], by rw [hts, ht]; simp, ?_, _, Bld.own _, by simp [h6]⟩
                rw [List.length_append]
                simp [funT]; omega
            · simp [h0, h3, h5, h6, h8, hj, hw, encFun_def, encT_def, encE_def, hp, hs, hs2, htl]
              refine tw_loop J p.funs[j].params.length S ?_ ?_ ?_ ?_ ?_
              · rw [hJ]
                refine ⟨rfl, rfl, by simp [h0], by simp [h3, encP_def], by simp [h8], by simp, by simp [ht, encE_def], by simp [htp, encT_def]⟩
              · omega
              · rw [hJ]
                rintro k ⟨tm, df, clk⟩ σ2 hk ⟨rfl, rfl, h0, h3, h8, h9, h5, h6⟩
                rw [← hJ]
                rw [encP_def] at h3
                have ht2 := tk_succ hk
                have htl2 := tk_len (Nat.le_of_lt hk)
                have hw2 := wrapJ hk hpl
                have hs3 : ts.length + (k + 1) + 1 ≤ 1073741824 := by omega
                simp [h0, h3, h5, h6, h8, h9, hj, hk, hw2, encFun_def, encF_def, encT_def, hs3, htl2]
                rw [hJ]
                refine ⟨rfl, rfl, by simp [h0], by simp [h3, encP_def], by simp [h8], by simp, by simp [h5], by simp [ht2, encT_def]⟩
              · rw [hJ]
                rintro ⟨tm, df, clk⟩ σ2 ⟨rfl, rfl, h0, h3, h8, h9, h5, h6⟩
                rw [encP_def] at h3
                rw [tk_all] at h6
                simp [h0, h3, h5, h6, h8, h9, hj, encFun_def]
                rw [hS]
                refine ⟨rfl, rfl, rfl, by simp [h0], by simp [h3, encP_def], by simp [h8], by simp [h5], by simp [h6, funT]⟩
              · rw [hS]
                rintro ex ⟨tm, df, clk⟩ σ2 ⟨rfl, rfl, rfl, h0, h3, h8, h5, h6⟩
                simp [h0, h3, h5, h6, h8, hw]
                rw [hI]
                refine ⟨rfl, rfl, by simp [h0], by simp [h3], by simp, by simp [h5], ts ++ funT p.funs[j], by rw [hts, ht]; simp, ?_, _, Bld.own _, by simp [h6]⟩
                rw [List.length_append]
                simp [funT]; omega
        · rw [hI]
          rintro ⟨tm, df, clk⟩ σ1 ⟨rfl, rfl, h0, h3, h8, h5, ts, hts, hlen, v, hv, h6⟩
          rw [encP_def] at h3
          rw [tk_all] at hts h5
          subst hts
          simp [h0, h3, h5, h6, h8]
          rw [hR]
          exact ⟨rfl, rfl, .inr ⟨rfl, by simp [h0], by simp [h5, allE], by unfold allT maxLen; omega, v, hv, by simp [h6]⟩⟩
        · rw [hR]
          rintro ex ⟨tm, df, clk⟩ σ1 ⟨rfl, rfl, ⟨rfl, h4⟩ | ⟨rfl, h0, h5, hlen, v, hv, h6⟩⟩
          · simp [h4]
          · obtain ⟨r1, hc1⟩ := few_t (O := O) h24 h48 N (allE p) σ1.length σ1 most (by omega) (by simp [allE]; unfold maxLen; omega) (by
              intro e he
              rcases List.mem_cons.1 he with rfl | he
              · exact hok.query
              · obtain ⟨f, hf, rfl⟩ := List.mem_map.1 he
                exact (hok.funs f hf).body)
            obtain ⟨r2, hc2⟩ := fewTypes_t (O := O) h20 h47 N (allT p) σ1.length σ1 most (by omega) hlen (by
              intro e he
              rcases List.mem_append.1 he with he | he
              · obtain ⟨f, hf, rfl⟩ := List.mem_map.1 he
                exact (hok.inputs f hf).type
              · obtain ⟨f, hf, he⟩ := List.mem_flatMap.1 he
                rcases List.mem_cons.1 he with rfl | he
                · exact (hok.funs f hf).result
                · obtain ⟨g, hg, rfl⟩ := List.mem_map.1 he
                  exact ((hok.funs f hf).params g hg).type)
            rcases hv.inv with ⟨hl, rfl⟩ | rfl
            · obtain ⟨r3, hc3⟩ := fewTypes_nl (F := F) (O := O) h20 (N - 1) σ1.length σ1 most
              rw [show N - 1 + 2 = N + 1 by omega] at hc3
              cases r1 <;> cases r3 <;> simp [h0, h5, h6, hc1, hc3, hf']
            · cases r1 <;> cases r2 <;> simp [h0, h5, h6, hc1, hc2, hf']
end Go.Xe.Ytjdiibhkdanbiaa
end
section
namespace Go.Xe.Ytjdiibhkdanbiaa
open Go Go.Xe Go.Xt
set_option linter.unusedVariables false
set_option linter.unusedSimpArgs false
variable {F : FuncId → Option TFun} {O : FuncId → List TV → Option TV}
def findF : List PFun → Str → Nat → Option Nat
  | [], _, _ => none
  | f :: l, s, i => if f.name = s then some i else findF l s (i + 1)
def hit (fs : List PFun) (s : Str) (out : List Bool) : List Bool :=
  match findF fs s 0 with
  | some i => out.set i true
  | none => out
mutual
def markE (fs : List PFun) : PExpr → List Bool → List Bool
  | .mk k _ s _ _ kids _ _, out => markEs fs kids (if k = 4 then hit fs s out else out)
def markEs (fs : List PFun) : List PExpr → List Bool → List Bool
  | [], out => out
  | e :: l, out => markEs fs l (markE fs e out)
end
theorem markE_def (fs : List PFun) (e : PExpr) (out : List Bool) : markE fs e out = markEs fs e.kids (if e.kind = 4 then hit fs e.name out else out) := by
  cases e; simp only [markE, PExpr.kids, PExpr.kind, PExpr.name]; rfl
theorem hit_len (fs : List PFun) (s : Str) (out : List Bool) : (hit fs s out).length = out.length := by
  unfold hit; split <;> simp
mutual
theorem mark_len (fs : List PFun) : ∀ (e : PExpr) (out : List Bool), (markE fs e out).length = out.length
  | .mk k n s ns od kids ln c, out => by
    simp only [markE]
    rw [marks_len fs kids]
    split
    · exact hit_len _ _ _
    · rfl
theorem marks_len (fs : List PFun) : ∀ (l : List PExpr) (out : List Bool), (markEs fs l out).length = out.length
  | [], out => by simp only [markEs]
  | e :: l, out => by simp only [markEs]; rw [marks_len fs l, mark_len fs e]
end
theorem findF_drop {fs : List PFun} {s : Str} : ∀ (j i : Nat), (∀ k, (h : k < fs.length) → k < j → fs[k].name ≠ s) → findF fs s i = findF (fs.drop j) s (i + j)
  | 0, i, _ => by simp
  | j + 1, i, h => by
    rw [findF_drop j i (fun k hk hj => h k hk (by omega))]
    by_cases hj : j < fs.length
    · rw [List.drop_eq_getElem_cons hj, findF, if_neg (h j hj (by omega))]; rfl
    · rw [List.drop_of_length_le (by omega), List.drop_of_length_le (by omega)]; rfl
theorem hit_found {fs : List PFun} {s : Str} {j : Nat} (hj : j < fs.length) (h : ∀ k, (h : k < fs.length) → k < j → fs[k].name ≠ s) (he : fs[j].name = s) (out : List Bool) : hit fs s out = out.set j true := by
  unfold hit
  rw [findF_drop j 0 h, List.drop_eq_getElem_cons hj, findF, if_pos he]; simp
theorem hit_none {fs : List PFun} {s : Str} (h : ∀ k, (h : k < fs.length) → k < fs.length → fs[k].name ≠ s) (out : List Bool) : hit fs s out = out := by
  unfold hit
  rw [findF_drop fs.length 0 (fun k hk _ => h k hk hk)]
  simp [findF]
theorem putB (out : List Bool) (j : Nat) (h : j < out.length) : putAt (out.map TV.bool) j [.bool true] = (out.set j true).map TV.bool := by
  rw [← putAt_dead _ (by simpa using h), List.map_set]
  apply List.ext_getElem?
  intro i
  by_cases hi : i = j
  · subst hi; rw [List.getElem?_set_self (by rw [putAt_len (by simp; omega)]; simpa using h), List.getElem?_set_self (by simpa using h)]
  · rw [List.getElem?_set_ne (fun e => hi e.symm), List.getElem?_set_ne (fun e => hi e.symm), putAt_get (by simp; omega)]
    simp only [List.length_cons, List.length_nil]
    split
    · rfl
    · rw [if_neg (by omega)]
theorem calls_t (hF : F 26 = some f26) (p : PProg) (hp : OkP p) : ∀ (N : Nat) (e : PExpr) (b : Nat) (σ : Sto) (out : List Bool) (ko ver c : Nat), szE e + p.funs.length + 5 ≤ N → OkE e → out.length = p.funs.length → σ.at ko = some ⟨ver, .cells (out.map TV.bool) 4⟩ →
    ∃ ver', tcall F O N b 26 [.agg (encP p), .agg (encE e), .ref ko 0 1 out.length c] σ = some (.ret (.tuple []), σ.set ko (some ⟨ver', .cells ((markE p.funs e out).map TV.bool) 4⟩))
  | 0, e, b, σ, out, ko, ver, c, h, hb, hl, hat => by omega
  | N + 1, e, b, σ, out, ko, ver, c, h, hb, hl, hat => by
    have ih := calls_t hF p hp N
    have hk := szEs_len e.kids
    have hs := szE_def e
    have hko := Sto.lt hat
    suffices hh : ∃ r σ', tcall F O (N + 1) b 26 [.agg (encP p), .agg (encE e), .ref ko 0 1 out.length c] σ = some (r, σ') ∧ r = .ret (.tuple []) ∧ ∃ ver', σ' = σ.set ko (some ⟨ver', .cells ((markE p.funs e out).map TV.bool) 4⟩) by
      obtain ⟨r, σ', h1, rfl, ver', rfl⟩ := hh
      exact ⟨ver', h1⟩
    refine tcall_of hF ?_
    obtain ⟨I, hI⟩ : ∃ I : Nat → TAct → Sto → Prop, I = (fun j a σ' => a.df = [] ∧ a.tm.get 2 = some (.ref ko 0 1 out.length c) ∧ a.tm.get 3 = some (.bx 0 (encP p) 30) ∧ a.tm.get 31 = some (.sl .fz (e.kids.map encE)) ∧ a.tm.get 32 = some (.int .i64 (e.kids.length : Int)) ∧ a.tm.get 33 = some (.int .i64 j) ∧
        ∃ ver' out', σ' = σ.set ko (some ⟨ver', .cells (out'.map TV.bool) 4⟩) ∧ out'.length = out.length ∧ markEs p.funs (e.kids.drop j) out' = markE p.funs e out) := ⟨_, rfl⟩
    obtain ⟨R, hR⟩ : ∃ R : TEx → TAct → Sto → Prop, R = (fun ex a σ' => ex = .exit 2 ∧ a.df = [] ∧ ∃ ver', σ' = σ.set ko (some ⟨ver', .cells ((markE p.funs e out).map TV.bool) 4⟩)) := ⟨_, rfl⟩
    by_cases h4 : e.kind = 4
    · simp [x26, encP_def, encE_def, h4]
      obtain ⟨J, hJ⟩ : ∃ J : Nat → TAct → Sto → Prop, J = (fun j a σ' => a.df = [] ∧ σ' = σ ∧ a.tm.get 2 = some (.ref ko 0 1 out.length c) ∧ a.tm.get 3 = some (.bx 0 (encP p) 30) ∧ a.tm.get 4 = some (.bx 2 (encE e) 28) ∧ a.tm.get 14 = some (.sl .fz (p.funs.map encFun)) ∧ a.tm.get 15 = some (.int .i64 (p.funs.length : Int)) ∧ a.tm.get 16 = some (.int .i64 j) ∧
          ∀ k, (h : k < p.funs.length) → k < j → p.funs[k].name ≠ e.name) := ⟨_, rfl⟩
      obtain ⟨S, hS⟩ : ∃ S : TEx → TAct → Sto → Prop, S = (fun ex a σ' => ex = .exit 0 ∧ a.df = [] ∧ a.tm.get 2 = some (.ref ko 0 1 out.length c) ∧ a.tm.get 3 = some (.bx 0 (encP p) 30) ∧ a.tm.get 4 = some (.bx 2 (encE e) 28) ∧ ∃ ver', σ' = σ.set ko (some ⟨ver', .cells ((hit p.funs e.name out).map TV.bool) 4⟩)) := ⟨_, rfl⟩
      refine tw_loop J p.funs.length S ?_ ?_ ?_ ?_ ?_
      · rw [hJ]
        exact ⟨rfl, rfl, by simp, by simp [encP_def], by simp [encE_def, h4], by simp, by simp, by simp, fun k _ hk => by omega⟩
      · omega
      · rw [hJ]
        rintro j ⟨tm, df, clk⟩ σ1 hj ⟨rfl, rfl, h2, h3, h4', h14, h15, h16, hno⟩
        rw [← hJ]
        have hw := wrapJ hj hp.flen
        have hjo : j < out.length := by omega
        have hjo2 : j + 1 ≤ out.length := by omega
        rw [encE_def] at h4'
        by_cases hn : p.funs[j].name = e.name
        · simp [h2, h3, h4', h14, h15, h16, hj, hw, encFun_def, hn, hat, hjo, hjo2]
          rw [hS]
          refine ⟨rfl, rfl, by simp [h2], by simp [h3], by simp [h4', encE_def], ver + 1, ?_⟩
          rw [hit_found hj (fun k h hk => hno k h hk) hn, ← putB out j hjo]
          simp
        · simp [h2, h3, h4', h14, h15, h16, hj, hw, encFun_def, hn]
          rw [hJ]
          exact ⟨rfl, rfl, by simp [h2], by simp [h3], by simp [h4', encE_def], by simp [h14], by simp [h15], by simp, fun k hk hk2 => by
            by_cases hkj : k = j
            · subst hkj; exact hn
            · exact hno k hk (by omega)⟩
      · rw [hJ]
        rintro ⟨tm, df, clk⟩ σ1 ⟨rfl, rfl, h2, h3, h4', h14, h15, h16, hno⟩
        simp [h2, h3, h4', h14, h15, h16]
        rw [hS]
        exact ⟨rfl, rfl, by simp [h2], by simp [h3], by simp [h4'], ver, by rw [hit_none (fun k h _ => hno k h h), Sto.set_same hat]⟩
      · rw [hS]
        rintro ex ⟨tm, df, clk⟩ σ1 ⟨rfl, rfl, h2, h3, h4', ver1, rfl⟩
        rw [encE_def] at h4'
        simp [h2, h3, h4']
        refine tw_loop I e.kids.length R ?_ ?_ ?_ ?_ ?_
        · rw [hI]
          exact ⟨rfl, by simp [h2], by simp [h3], by simp, by simp, by simp, ver1, hit p.funs e.name out, rfl, hit_len _ _ _, by rw [markE_def, if_pos h4]; rfl⟩
        · omega
        · rw [hI]
          rintro j ⟨tm, df, clk⟩ σ1 hj ⟨rfl, h2, h3, h31, h32, h33, ver1, out1, rfl, hl1, hm⟩
          rw [← hI]
          have hd := List.drop_eq_getElem_cons hj
          rw [hd, markEs] at hm
          have hmem := szEs_mem e.kids e.kids[j] (List.getElem_mem hj)
          have hw := wrapJ hj hb.kids
          obtain ⟨ver2, hc⟩ := ih e.kids[j] (List.length (σ.set ko (some ⟨ver1, .cells (out1.map TV.bool) 4⟩))) (σ.set ko (some ⟨ver1, .cells (out1.map TV.bool) 4⟩)) out1 ko ver1 c (by omega) (hb.sub _ (List.getElem_mem hj)) (by omega) (at_set hko _)
          rw [encP_def, encE_def, hl1] at hc
          rw [encP_def] at h3
          simp at hc
          simp [h2, h3, h31, h32, h33, hj, hw, encE_def, hc]
          rw [hI]
          refine ⟨rfl, by simp [h2], by simp [h3, encP_def], by simp [h31], by simp [h32], by simp, ver2, markE p.funs e.kids[j] out1, by simp, ?_, hm⟩
          rw [mark_len]; exact hl1
        · rw [hI]
          rintro ⟨tm, df, clk⟩ σ1 ⟨rfl, h2, h3, h31, h32, h33, ver1, out1, rfl, hl1, hm⟩
          simp [markEs] at hm
          simp [h2, h3, h31, h32, h33]
          rw [hR]
          exact ⟨rfl, rfl, ver1, by rw [hm]⟩
        · rw [hR]
          rintro ex ⟨tm, df, clk⟩ σ1 ⟨rfl, rfl, ver1, rfl⟩
          simp
          exact ⟨ver1, rfl⟩
    · simp [x26, encP_def, encE_def, h4]
      refine tw_loop I e.kids.length R ?_ ?_ ?_ ?_ ?_
      · rw [hI]
        exact ⟨rfl, by simp, by simp [encP_def], by simp, by simp, by simp, ver, out, by rw [Sto.set_same hat], rfl, by rw [markE_def, if_neg h4]; rfl⟩
      · omega
      · rw [hI]
        rintro j ⟨tm, df, clk⟩ σ1 hj ⟨rfl, h2, h3, h31, h32, h33, ver1, out1, rfl, hl1, hm⟩
        rw [← hI]
        have hd := List.drop_eq_getElem_cons hj
        rw [hd, markEs] at hm
        have hmem := szEs_mem e.kids e.kids[j] (List.getElem_mem hj)
        have hw := wrapJ hj hb.kids
        obtain ⟨ver2, hc⟩ := ih e.kids[j] (List.length (σ.set ko (some ⟨ver1, .cells (out1.map TV.bool) 4⟩))) (σ.set ko (some ⟨ver1, .cells (out1.map TV.bool) 4⟩)) out1 ko ver1 c (by omega) (hb.sub _ (List.getElem_mem hj)) (by omega) (at_set hko _)
        rw [encP_def, encE_def, hl1] at hc
        rw [encP_def] at h3
        simp at hc
        simp [h2, h3, h31, h32, h33, hj, hw, encE_def, hc]
        rw [hI]
        refine ⟨rfl, by simp [h2], by simp [h3, encP_def], by simp [h31], by simp [h32], by simp, ver2, markE p.funs e.kids[j] out1, by simp, ?_, hm⟩
        rw [mark_len]; exact hl1
      · rw [hI]
        rintro ⟨tm, df, clk⟩ σ1 ⟨rfl, h2, h3, h31, h32, h33, ver1, out1, rfl, hl1, hm⟩
        simp [markEs] at hm
        simp [h2, h3, h31, h32, h33]
        rw [hR]
        exact ⟨rfl, rfl, ver1, by rw [hm]⟩
      · rw [hR]
        rintro ex ⟨tm, df, clk⟩ σ1 ⟨rfl, rfl, ver1, rfl⟩
        simp
        exact ⟨ver1, rfl⟩
end Go.Xe.Ytjdiibhkdanbiaa
end
section
namespace Go.Xe.Ytjdiibhkdanbiaa
open Go Go.Xe Go.Xt
set_option linter.unusedVariables false
set_option linter.unusedSimpArgs false
variable {F : FuncId → Option TFun} {O : FuncId → List TV → Option TV}
theorem callsR_t (hF : F 27 = some f27) (fs : List PFun) (hfl : fs.length ≤ maxLen) : ∀ (N : Nat) (e : PExpr) (b : Nat) (σ : Sto) (out : List Bool) (ko ver c : Nat), szE e + fs.length + 5 ≤ N → OkE e → out.length = fs.length → σ.at ko = some ⟨ver, .cells (out.map TV.bool) 4⟩ →
    ∃ ver', tcall F O N b 27 [.agg (encE e), .sl .fz (fs.map encFun), .ref ko 0 1 out.length c] σ = some (.ret (.tuple []), σ.set ko (some ⟨ver', .cells ((markE fs e out).map TV.bool) 4⟩))
  | 0, e, b, σ, out, ko, ver, c, h, hb, hl, hat => by omega
  | N + 1, e, b, σ, out, ko, ver, c, h, hb, hl, hat => by
    have ih := callsR_t hF fs hfl N
    have hk := szEs_len e.kids
    have hs := szE_def e
    have hko := Sto.lt hat
    suffices hh : ∃ r σ', tcall F O (N + 1) b 27 [.agg (encE e), .sl .fz (fs.map encFun), .ref ko 0 1 out.length c] σ = some (r, σ') ∧ r = .ret (.tuple []) ∧ ∃ ver', σ' = σ.set ko (some ⟨ver', .cells ((markE fs e out).map TV.bool) 4⟩) by
      obtain ⟨r, σ', h1, rfl, ver', rfl⟩ := hh
      exact ⟨ver', h1⟩
    refine tcall_of hF ?_
    obtain ⟨I, hI⟩ : ∃ I : Nat → TAct → Sto → Prop, I = (fun j a σ' => a.df = [] ∧ a.tm.get 1 = some (.sl .fz (fs.map encFun)) ∧ a.tm.get 2 = some (.ref ko 0 1 out.length c) ∧ a.tm.get 3 = some (.bx 0 (encE e) 28) ∧ a.tm.get 7 = some (.int .i64 j) ∧
        ∃ ver' out', σ' = σ.set ko (some ⟨ver', .cells (out'.map TV.bool) 4⟩) ∧ out'.length = out.length ∧ markEs fs (e.kids.drop j) out' = markE fs e out) := ⟨_, rfl⟩
    obtain ⟨R, hR⟩ : ∃ R : TEx → TAct → Sto → Prop, R = (fun ex a σ' => ex = .exit 2 ∧ a.df = [] ∧ ∃ ver', σ' = σ.set ko (some ⟨ver', .cells ((markE fs e out).map TV.bool) 4⟩)) := ⟨_, rfl⟩
    by_cases h4 : e.kind = 4
    · simp [x27, encE_def, h4]
      obtain ⟨J, hJ⟩ : ∃ J : Nat → TAct → Sto → Prop, J = (fun j a σ' => a.df = [] ∧ σ' = σ ∧ a.tm.get 1 = some (.sl .fz (fs.map encFun)) ∧ a.tm.get 2 = some (.ref ko 0 1 out.length c) ∧ a.tm.get 3 = some (.bx 0 (encE e) 28) ∧ a.tm.get 6 = some (.int .i64 j) ∧
          ∀ k, (h : k < fs.length) → k < j → fs[k].name ≠ e.name) := ⟨_, rfl⟩
      obtain ⟨S, hS⟩ : ∃ S : TEx → TAct → Sto → Prop, S = (fun ex a σ' => ex = .exit 0 ∧ a.df = [] ∧ a.tm.get 1 = some (.sl .fz (fs.map encFun)) ∧ a.tm.get 2 = some (.ref ko 0 1 out.length c) ∧ a.tm.get 3 = some (.bx 0 (encE e) 28) ∧ ∃ ver', σ' = σ.set ko (some ⟨ver', .cells ((hit fs e.name out).map TV.bool) 4⟩)) := ⟨_, rfl⟩
      refine tw_loop J fs.length S ?_ ?_ ?_ ?_ ?_
      · rw [hJ]
        exact ⟨rfl, rfl, by simp, by simp, by simp [encE_def, h4], by simp, fun k _ hk => by omega⟩
      · omega
      · rw [hJ]
        rintro j ⟨tm, df, clk⟩ σ1 hj ⟨rfl, rfl, h1, h2, h3, h6, hno⟩
        rw [← hJ]
        have hw := wrapJ hj hfl
        have hjo : j < out.length := by omega
        have hjo2 : j + 1 ≤ out.length := by omega
        rw [encE_def] at h3
        by_cases hn : fs[j].name = e.name
        · simp [h1, h2, h3, h6, hj, hw, encFun_def, hn, hat, hjo, hjo2]
          rw [hS]
          refine ⟨rfl, rfl, by simp [h1], by simp [h2], by simp [h3, encE_def], ver + 1, ?_⟩
          rw [hit_found hj (fun k h hk => hno k h hk) hn, ← putB out j hjo]
          simp
        · simp [h1, h2, h3, h6, hj, hw, encFun_def, hn]
          rw [hJ]
          exact ⟨rfl, rfl, by simp [h1], by simp [h2], by simp [h3, encE_def], by simp, fun k hk hk2 => by
            by_cases hkj : k = j
            · subst hkj; exact hn
            · exact hno k hk (by omega)⟩
      · rw [hJ]
        rintro ⟨tm, df, clk⟩ σ1 ⟨rfl, rfl, h1, h2, h3, h6, hno⟩
        simp [h1, h2, h3, h6]
        rw [hS]
        exact ⟨rfl, rfl, by simp [h1], by simp [h2], by simp [h3], ver, by rw [hit_none (fun k h _ => hno k h h), Sto.set_same hat]⟩
      · rw [hS]
        rintro ex ⟨tm, df, clk⟩ σ1 ⟨rfl, rfl, h1, h2, h3, ver1, rfl⟩
        rw [encE_def] at h3
        simp [h1, h2, h3]
        refine tw_loop I e.kids.length R ?_ ?_ ?_ ?_ ?_
        · rw [hI]
          exact ⟨rfl, by simp [h1], by simp [h2], by simp [h3, encE_def], by simp, ver1, hit fs e.name out, rfl, hit_len _ _ _, by rw [markE_def, if_pos h4]; rfl⟩
        · omega
        · rw [hI]
          rintro j ⟨tm, df, clk⟩ σ1 hj ⟨rfl, h1, h2, h3, h7, ver1, out1, rfl, hl1, hm⟩
          rw [← hI]
          have hd := List.drop_eq_getElem_cons hj
          rw [hd, markEs] at hm
          have hmem := szEs_mem e.kids e.kids[j] (List.getElem_mem hj)
          have hw := wrapJ hj hb.kids
          obtain ⟨ver2, hc⟩ := ih e.kids[j] (List.length (σ.set ko (some ⟨ver1, .cells (out1.map TV.bool) 4⟩))) (σ.set ko (some ⟨ver1, .cells (out1.map TV.bool) 4⟩)) out1 ko ver1 c (by omega) (hb.sub _ (List.getElem_mem hj)) (by omega) (at_set hko _)
          rw [encE_def, hl1] at hc
          rw [encE_def] at h3
          simp at hc
          simp [h1, h2, h3, h7, hj, hw, encE_def, hc]
          rw [hI]
          refine ⟨rfl, by simp [h1], by simp [h2], by simp [h3, encE_def], by simp, ver2, markE fs e.kids[j] out1, by simp, ?_, hm⟩
          rw [mark_len]; exact hl1
        · rw [hI]
          rintro ⟨tm, df, clk⟩ σ1 ⟨rfl, h1, h2, h3, h7, ver1, out1, rfl, hl1, hm⟩
          simp [markEs] at hm
          rw [encE_def] at h3
          simp [h1, h2, h3, h7]
          rw [hR]
          exact ⟨rfl, rfl, ver1, by rw [hm]⟩
        · rw [hR]
          rintro ex ⟨tm, df, clk⟩ σ1 ⟨rfl, rfl, ver1, rfl⟩
          simp
          exact ⟨ver1, rfl⟩
    · simp [x27, encE_def, h4]
      refine tw_loop I e.kids.length R ?_ ?_ ?_ ?_ ?_
      · rw [hI]
        exact ⟨rfl, by simp, by simp, by simp [encE_def], by simp, ver, out, by rw [Sto.set_same hat], rfl, by rw [markE_def, if_neg h4]; rfl⟩
      · omega
      · rw [hI]
        rintro j ⟨tm, df, clk⟩ σ1 hj ⟨rfl, h1, h2, h3, h7, ver1, out1, rfl, hl1, hm⟩
        rw [← hI]
        have hd := List.drop_eq_getElem_cons hj
        rw [hd, markEs] at hm
        have hmem := szEs_mem e.kids e.kids[j] (List.getElem_mem hj)
        have hw := wrapJ hj hb.kids
        obtain ⟨ver2, hc⟩ := ih e.kids[j] (List.length (σ.set ko (some ⟨ver1, .cells (out1.map TV.bool) 4⟩))) (σ.set ko (some ⟨ver1, .cells (out1.map TV.bool) 4⟩)) out1 ko ver1 c (by omega) (hb.sub _ (List.getElem_mem hj)) (by omega) (at_set hko _)
        rw [encE_def, hl1] at hc
        rw [encE_def] at h3
        simp at hc
        simp [h1, h2, h3, h7, hj, hw, encE_def, hc]
        rw [hI]
        refine ⟨rfl, by simp [h1], by simp [h2], by simp [h3, encE_def], by simp, ver2, markE fs e.kids[j] out1, by simp, ?_, hm⟩
        rw [mark_len]; exact hl1
      · rw [hI]
        rintro ⟨tm, df, clk⟩ σ1 ⟨rfl, h1, h2, h3, h7, ver1, out1, rfl, hl1, hm⟩
        simp [markEs] at hm
        rw [encE_def] at h3
        simp [h1, h2, h3, h7]
        rw [hR]
        exact ⟨rfl, rfl, ver1, by rw [hm]⟩
      · rw [hR]
        rintro ex ⟨tm, df, clk⟩ σ1 ⟨rfl, rfl, ver1, rfl⟩
        simp
        exact ⟨ver1, rfl⟩
def trues : List Bool → Nat → List Nat
  | [], _ => []
  | b :: l, i => if b = true then i :: trues l (i + 1) else trues l (i + 1)
def bodyAt (p : PProg) (i : Nat) : PExpr := match p.funs[i]? with | some f => f.body | none => p.query
def rowAt (p : PProg) (i : Nat) : List Nat := trues (markE p.funs (bodyAt p i) (List.replicate p.funs.length false)) 0
def encN (n : Nat) : List TV := [.int .i64 n]
def encRow (l : List Nat) : List TV := [.sl .fz (l.map encN)]
theorem trues_drop {l : List Bool} {i j : Nat} (h : j < l.length) : trues (l.drop j) i = if l[j] = true then i :: trues (l.drop (j + 1)) (i + 1) else trues (l.drop (j + 1)) (i + 1) := by
  rw [List.drop_eq_getElem_cons h, trues]
theorem trues_len : ∀ (l : List Bool) (i : Nat), (trues l i).length ≤ l.length
  | [], i => Nat.le_refl _
  | b :: l, i => by
    have := trues_len l (i + 1)
    simp only [trues]; split <;> simp <;> omega
end Go.Xe.Ytjdiibhkdanbiaa
end
section
namespace Go.Xe.Ytjdiibhkdanbiaa
open Go Go.Xe Go.Xt
set_option linter.unusedVariables false
set_option linter.unusedSimpArgs false
variable {F : FuncId → Option TFun} {O : FuncId → List TV → Option TV}
theorem repT_bool : ∀ n, repT [TV.bool false] n = (List.replicate n false).map TV.bool
  | 0 => rfl
  | n + 1 => by rw [repT, repT_bool n]; rfl
def rowsT (p : PProg) (m : Nat) : List (List TV) := (List.range m).map fun i => encRow (rowAt p i)
theorem rows_succ (p : PProg) (i : Nat) : rowsT p (i + 1) = rowsT p i ++ [[.sl .fz ((rowAt p i).map encN)]] := by
  unfold rowsT; rw [List.range_succ, List.map_append]; rfl
theorem rows_len (p : PProg) (i : Nat) : (rowsT p i).length = i := by simp [rowsT]
theorem rows_ok (p : PProg) (i : Nat) : ((rowsT p i).all fun c => decide (c.length = 1)) = true := by
  simp [rowsT, encRow]
theorem below_encN (b : Nat) (n : Nat) : below.belows b (encN n) = true := rfl
theorem below_row (b : Nat) (l : List Nat) : below.belows b (encRow l) = true := by
  simp [encRow, below.belows, below, below_map b encN (below_encN b) l]
theorem rows_below (b : Nat) (p : PProg) (m : Nat) : below.belowss b (rowsT p m) = true := below_map b _ (fun i => below_row b _) _
theorem callsAll_t (hF : F 10 = some f10) (h26 : F 26 = some f26) (p : PProg) (hp : OkP p) (N : Nat) (b : Nat) (σ : Sto) (hN : szEs (allE p) + p.funs.length + 20 ≤ N) (h100 : p.funs.length ≤ 100) :
    tcall F O (N + 1) b 10 [.agg (encP p)] σ = some (.ret (.sl .fz (rowsT p (p.funs.length + 1))), σ) := by
  refine tcall_pure hF ?_
  have hpl := hp.flen
  obtain ⟨m, hm⟩ : ∃ m, m = p.funs.length + 1 := ⟨_, rfl⟩
  have hw0 : IntKind.i64.wrap ((p.funs.length : Int) + 1) = (m : Int) := by unfold maxLen at hpl; rw [wrap_in] <;> omega
  rw [← hm]
  obtain ⟨I, hI⟩ : ∃ I : Nat → TAct → Sto → Prop, I = (fun i a σ' => a.df = [] ∧ a.tm.get 1 = some (.bx 0 (encP p) 30) ∧ a.tm.get 13 = some (.int .i64 (m : Int)) ∧ a.tm.get 14 = some (.int .i64 i) ∧ (∃ τ, σ' = σ ++ τ) ∧
      ∃ v, Bld 25 1 (rowsT p i) v ∧ a.tm.get 3 = some v) := ⟨_, rfl⟩
  obtain ⟨R, hR⟩ : ∃ R : TEx → TAct → Sto → Prop, R = (fun ex a σ' => ex = .exit 0 ∧ a.df = [] ∧ (∃ τ, σ' = σ ++ τ) ∧ ∃ v, Bld 25 1 (rowsT p m) v ∧ a.tm.get 3 = some v) := ⟨_, rfl⟩
  simp [x10, encP_def, encE_def, hw0]
  refine tw_loop I m R ?_ ?_ ?_ ?_ ?_
  · rw [hI]
    exact ⟨rfl, by simp [encP_def, encE_def], by simp, by simp, ⟨[], by simp⟩, _, .nl, by simp⟩
  · omega
  · rw [hI]
    rintro i ⟨tm, df, clk⟩ σ1 hi ⟨rfl, h1, h13, h14, ⟨τ, rfl⟩, v, hv, h3⟩
    rw [← hI]
    rw [encP_def] at h1
    have hw : IntKind.i64.wrap ((i : Int) + 1) = ((i + 1 : Nat) : Int) := by rw [wrap_in] <;> omega
    have hil : i + 1 ≤ 1073741824 := by omega
    have hcap : p.funs.length ≤ 281474976710656 := by omega
    have hcap2 : p.funs.length ≤ 9223372036854775807 := by omega
    by_cases hin : i < p.funs.length
    · have hin' : (i : Int) < (p.funs.length : Int) := by omega
      have hbody : bodyAt p i = p.funs[i].body := by simp [bodyAt, hin]
      obtain ⟨ms, hms⟩ : ∃ ms, ms = markE p.funs (bodyAt p i) (List.replicate p.funs.length false) := ⟨_, rfl⟩
      have hml : ms.length = p.funs.length := by rw [hms, mark_len]; simp
      have hszb : szE (bodyAt p i) ≤ szEs (allE p) := by
        rw [hbody]; have := szEs_mem (allE p) p.funs[i].body (by simp [allE]; exact .inr ⟨_, List.getElem_mem hin, rfl⟩); omega
      obtain ⟨ver2, hc⟩ := calls_t (O := O) h26 p hp N (bodyAt p i) (List.length σ) ((σ ++ τ) ++ [some ⟨0, .cells ((List.replicate p.funs.length false).map TV.bool) 4⟩]) (List.replicate p.funs.length false) (σ ++ τ).length 0 p.funs.length (by omega) (by rw [hbody]; exact (hp.funs _ (List.getElem_mem hin)).body) (by simp) at_app
      rw [← hms, hbody, encP_def, encE_def] at hc
      simp at hc
      obtain ⟨τ2, hτ2⟩ : ∃ τ2 : Sto, τ2 = ((σ ++ τ : Sto) ++ [some (TObj.mk 0 (.cells ((List.replicate p.funs.length false).map TV.bool) 4))]).set (σ ++ τ).length (some (TObj.mk ver2 (.cells (ms.map TV.bool) 4))) := ⟨_, rfl⟩
      simp at hτ2
      rw [← hτ2] at hc
      have hat2 : τ2.at (List.length σ + List.length τ) = some ⟨ver2, .cells (ms.map TV.bool) 4⟩ := by
        rw [hτ2]; simp [Sto.at]
      have hx2 : ∃ τ' : Sto, τ2 = σ ++ τ' := ⟨τ ++ [some (TObj.mk ver2 (.cells (ms.map TV.bool) 4))], by rw [hτ2]⟩
      simp [h1, h13, h14, h3, hi, hin, hin', encE_def, encFun_def, hcap, hcap2, repT_bool, hc]
      obtain ⟨J, hJ⟩ : ∃ J : Nat → TAct → Sto → Prop, J = (fun k a σ2 => a.df = [] ∧ σ2 = τ2 ∧ a.tm.get 1 = some (.bx 0 (encP p) 30) ∧ a.tm.get 3 = some v ∧ a.tm.get 13 = some (.int .i64 (m : Int)) ∧ a.tm.get 14 = some (.int .i64 i) ∧
          a.tm.get 39 = some (.ref ((List.length σ + List.length τ)) 0 1 p.funs.length p.funs.length) ∧ a.tm.get 40 = some (.int .i64 (p.funs.length : Int)) ∧ a.tm.get 41 = some (.int .i64 k) ∧ ∃ acc : List Nat, acc.length ≤ k ∧ acc ++ trues (ms.drop k) k = rowAt p i ∧ a.tm.get 7 = some (.sl (.own 3 1) (acc.map encN))) := ⟨_, rfl⟩
      obtain ⟨S, hS⟩ : ∃ S : TEx → TAct → Sto → Prop, S = (fun ex a σ2 => ex = .exit 2 ∧ a.df = [] ∧ σ2 = τ2 ∧ a.tm.get 1 = some (.bx 0 (encP p) 30) ∧ a.tm.get 3 = some v ∧ a.tm.get 13 = some (.int .i64 (m : Int)) ∧ a.tm.get 14 = some (.int .i64 i) ∧
          a.tm.get 7 = some (.sl (.own 3 1) ((rowAt p i).map encN))) := ⟨_, rfl⟩
      refine tw_loop J p.funs.length S ?_ ?_ ?_ ?_ ?_
      · rw [hJ]
        refine ⟨rfl, rfl, by simp [h1, encP_def], by simp [h3], by simp [h13], by simp [h14], by simp, by simp, by simp, [], by simp, by simp [rowAt, hms], by simp⟩
      · omega
      · rw [hJ]
        rintro k ⟨tm, df, clk⟩ σ2 hk ⟨rfl, rfl, h1, h3, h13, h14, h39, h40, h41, acc, hal, hacc, h7⟩
        rw [← hJ]
        have hw2 := wrapJ hk hpl
        have hkm : k < ms.length := by omega
        have hgk : (ms.map TV.bool)[k]? = some (.bool ms[k]) := by simp [hkm]
        rw [trues_drop hkm] at hacc
        have hac : acc.length + 1 ≤ 1073741824 := by omega
        cases hb : ms[k] with
        | true =>
          rw [hb] at hgk hacc
          simp at hgk
          simp [h1, h3, h13, h14, h39, h40, h41, h7, hk, hw2, hat2, hgk, hac, encN]
          rw [hJ]
          refine ⟨rfl, rfl, by simp [h1], by simp [h3], by simp [h13], by simp [h14], by simp [h39], by simp [h40], by simp, acc ++ [k], by simp; omega, ?_, by simp [encN]⟩
          simpa using hacc
        | false =>
          rw [hb] at hgk hacc
          simp at hgk
          simp [h1, h3, h13, h14, h39, h40, h41, h7, hk, hw2, hat2, hgk, hac]
          rw [hJ]
          refine ⟨rfl, rfl, by simp [h1], by simp [h3], by simp [h13], by simp [h14], by simp [h39], by simp [h40], by simp, acc, by omega, ?_, by simp [h7]⟩
          simpa using hacc
      · rw [hJ]
        rintro ⟨tm, df, clk⟩ σ2 ⟨rfl, rfl, h1, h3, h13, h14, h39, h40, h41, acc, hal, hacc, h7⟩
        have hd0 : ms.drop p.funs.length = [] := List.drop_of_length_le (by omega)
        rw [hd0] at hacc
        simp [trues] at hacc
        simp [h39, h40, h41]
        rw [hS]
        exact ⟨rfl, rfl, rfl, by simp [h1], by simp [h3], by simp [h13], by simp [h14], by simp [h7, hacc]⟩
      · rw [hS]
        rintro ex ⟨tm, df, clk⟩ σ2 ⟨rfl, rfl, rfl, h1, h3, h13, h14, h7⟩
        rcases hv.inv with ⟨hl0, rfl⟩ | rfl
        · simp [h1, h3, h13, h14, h7, hw, hil]
          rw [hI]
          refine ⟨rfl, by simp [h1], by simp [h13], by simp, hx2, _, Bld.own (rowsT p (i + 1)), by simp [rows_succ, hl0]⟩
        · simp [h1, h3, h13, h14, h7, hw, hil, rows_len, rows_ok]
          rw [hI]
          refine ⟨rfl, by simp [h1], by simp [h13], by simp, hx2, _, Bld.own (rowsT p (i + 1)), by simp [rows_succ]⟩
    · have hin' : ¬ (i : Int) < (p.funs.length : Int) := by omega
      have hbody : bodyAt p i = p.query := by simp [bodyAt, hin]
      obtain ⟨ms, hms⟩ : ∃ ms, ms = markE p.funs (bodyAt p i) (List.replicate p.funs.length false) := ⟨_, rfl⟩
      have hml : ms.length = p.funs.length := by rw [hms, mark_len]; simp
      have hszb : szE (bodyAt p i) ≤ szEs (allE p) := by
        rw [hbody]; have := szEs_mem (allE p) p.query (by simp [allE]); omega
      obtain ⟨ver2, hc⟩ := calls_t (O := O) h26 p hp N (bodyAt p i) (List.length σ) ((σ ++ τ) ++ [some ⟨0, .cells ((List.replicate p.funs.length false).map TV.bool) 4⟩]) (List.replicate p.funs.length false) (σ ++ τ).length 0 p.funs.length (by omega) (by rw [hbody]; exact hp.query) (by simp) at_app
      rw [← hms, hbody, encP_def, encE_def] at hc
      simp at hc
      obtain ⟨τ2, hτ2⟩ : ∃ τ2 : Sto, τ2 = ((σ ++ τ : Sto) ++ [some (TObj.mk 0 (.cells ((List.replicate p.funs.length false).map TV.bool) 4))]).set (σ ++ τ).length (some (TObj.mk ver2 (.cells (ms.map TV.bool) 4))) := ⟨_, rfl⟩
      simp at hτ2
      rw [← hτ2] at hc
      have hat2 : τ2.at (List.length σ + List.length τ) = some ⟨ver2, .cells (ms.map TV.bool) 4⟩ := by
        rw [hτ2]; simp [Sto.at]
      have hx2 : ∃ τ' : Sto, τ2 = σ ++ τ' := ⟨τ ++ [some (TObj.mk ver2 (.cells (ms.map TV.bool) 4))], by rw [hτ2]⟩
      simp [h1, h13, h14, h3, hi, hin, hin', encE_def, encFun_def, hcap, hcap2, repT_bool, hc]
      obtain ⟨J, hJ⟩ : ∃ J : Nat → TAct → Sto → Prop, J = (fun k a σ2 => a.df = [] ∧ σ2 = τ2 ∧ a.tm.get 1 = some (.bx 0 (encP p) 30) ∧ a.tm.get 3 = some v ∧ a.tm.get 13 = some (.int .i64 (m : Int)) ∧ a.tm.get 14 = some (.int .i64 i) ∧
          a.tm.get 39 = some (.ref ((List.length σ + List.length τ)) 0 1 p.funs.length p.funs.length) ∧ a.tm.get 40 = some (.int .i64 (p.funs.length : Int)) ∧ a.tm.get 41 = some (.int .i64 k) ∧ ∃ acc : List Nat, acc.length ≤ k ∧ acc ++ trues (ms.drop k) k = rowAt p i ∧ a.tm.get 7 = some (.sl (.own 3 1) (acc.map encN))) := ⟨_, rfl⟩
      obtain ⟨S, hS⟩ : ∃ S : TEx → TAct → Sto → Prop, S = (fun ex a σ2 => ex = .exit 2 ∧ a.df = [] ∧ σ2 = τ2 ∧ a.tm.get 1 = some (.bx 0 (encP p) 30) ∧ a.tm.get 3 = some v ∧ a.tm.get 13 = some (.int .i64 (m : Int)) ∧ a.tm.get 14 = some (.int .i64 i) ∧
          a.tm.get 7 = some (.sl (.own 3 1) ((rowAt p i).map encN))) := ⟨_, rfl⟩
      refine tw_loop J p.funs.length S ?_ ?_ ?_ ?_ ?_
      · rw [hJ]
        refine ⟨rfl, rfl, by simp [h1, encP_def], by simp [h3], by simp [h13], by simp [h14], by simp, by simp, by simp, [], by simp, by simp [rowAt, hms], by simp⟩
      · omega
      · rw [hJ]
        rintro k ⟨tm, df, clk⟩ σ2 hk ⟨rfl, rfl, h1, h3, h13, h14, h39, h40, h41, acc, hal, hacc, h7⟩
        rw [← hJ]
        have hw2 := wrapJ hk hpl
        have hkm : k < ms.length := by omega
        have hgk : (ms.map TV.bool)[k]? = some (.bool ms[k]) := by simp [hkm]
        rw [trues_drop hkm] at hacc
        have hac : acc.length + 1 ≤ 1073741824 := by omega
        cases hb : ms[k] with
        | true =>
          rw [hb] at hgk hacc
          simp at hgk
          simp [h1, h3, h13, h14, h39, h40, h41, h7, hk, hw2, hat2, hgk, hac, encN]
          rw [hJ]
          refine ⟨rfl, rfl, by simp [h1], by simp [h3], by simp [h13], by simp [h14], by simp [h39], by simp [h40], by simp, acc ++ [k], by simp; omega, ?_, by simp [encN]⟩
          simpa using hacc
        | false =>
          rw [hb] at hgk hacc
          simp at hgk
          simp [h1, h3, h13, h14, h39, h40, h41, h7, hk, hw2, hat2, hgk, hac]
          rw [hJ]
          refine ⟨rfl, rfl, by simp [h1], by simp [h3], by simp [h13], by simp [h14], by simp [h39], by simp [h40], by simp, acc, by omega, ?_, by simp [h7]⟩
          simpa using hacc
      · rw [hJ]
        rintro ⟨tm, df, clk⟩ σ2 ⟨rfl, rfl, h1, h3, h13, h14, h39, h40, h41, acc, hal, hacc, h7⟩
        have hd0 : ms.drop p.funs.length = [] := List.drop_of_length_le (by omega)
        rw [hd0] at hacc
        simp [trues] at hacc
        simp [h39, h40, h41]
        rw [hS]
        exact ⟨rfl, rfl, rfl, by simp [h1], by simp [h3], by simp [h13], by simp [h14], by simp [h7, hacc]⟩
      · rw [hS]
        rintro ex ⟨tm, df, clk⟩ σ2 ⟨rfl, rfl, rfl, h1, h3, h13, h14, h7⟩
        rcases hv.inv with ⟨hl0, rfl⟩ | rfl
        · simp [h1, h3, h13, h14, h7, hw, hil]
          rw [hI]
          refine ⟨rfl, by simp [h1], by simp [h13], by simp, hx2, _, Bld.own (rowsT p (i + 1)), by simp [rows_succ, hl0]⟩
        · simp [h1, h3, h13, h14, h7, hw, hil, rows_len, rows_ok]
          rw [hI]
          refine ⟨rfl, by simp [h1], by simp [h13], by simp, hx2, _, Bld.own (rowsT p (i + 1)), by simp [rows_succ]⟩
  · rw [hI]
    rintro ⟨tm, df, clk⟩ σ1 ⟨rfl, h1, h13, h14, hx, v, hv, h3⟩
    simp [h13, h14]
    rw [hR]
    exact ⟨rfl, rfl, hx, v, hv, by simp [h3]⟩
  · rw [hR]
    rintro ex ⟨tm, df, clk⟩ σ1 ⟨rfl, rfl, ⟨τ, rfl⟩, v, hv, h3⟩
    rcases hv.inv with ⟨hl0, rfl⟩ | rfl
    · simp [h3, hl0]
    · simp [h3, rows_below]
end Go.Xe.Ytjdiibhkdanbiaa
end
section
namespace Go.Xe.Ytjdiibhkdanbiaa
open Go Go.Xe Go.Xt
set_option linter.unusedVariables false
set_option linter.unusedSimpArgs false
variable {F : FuncId → Option TFun} {O : FuncId → List TV → Option TV}
def Ext (σ σ' : Sto) : Prop := ∃ τ : Sto, σ' = σ ++ τ
theorem Ext.refl (σ : Sto) : Ext σ σ := ⟨[], by simp⟩
theorem Ext.trans {a b c : Sto} (h : Ext a b) (k : Ext b c) : Ext a c := by
  obtain ⟨τ, rfl⟩ := h; obtain ⟨τ', rfl⟩ := k; exact ⟨τ ++ τ', by simp⟩
theorem Ext.le {a b : Sto} (h : Ext a b) : List.length a ≤ List.length b := by obtain ⟨τ, rfl⟩ := h; simp
theorem Ext.app {a b : Sto} (h : Ext a b) (o : Option TObj) : Ext a (b ++ [o]) := by obtain ⟨τ, rfl⟩ := h; exact ⟨τ ++ [o], by simp⟩
theorem Ext.set {a b : Sto} (h : Ext a b) {k : Nat} (hk : List.length a ≤ k) (o : Option TObj) : Ext a (List.set b k o) := by
  obtain ⟨τ, rfl⟩ := h
  exact ⟨τ.set (k - List.length a) o, by rw [List.set_append_right _ _ hk]⟩
theorem Ext.at {a b : Sto} (h : Ext a b) {k : Nat} {o : TObj} (e : Sto.at a k = some o) : Sto.at b k = some o := by
  have hk := Sto.lt e
  obtain ⟨τ, rfl⟩ := h
  unfold Sto.at at e ⊢
  rw [List.getElem?_append_left hk]; exact e
def RowOk (σ : Sto) (k c : Nat) (l : List Nat) : Prop := (∃ ver, σ.at k = some ⟨ver, .cells (l.map fun x : Nat => TV.int .i64 x) 3⟩) ∧ (c = capU + 1 ∨ c = 0 ∧ l = [])
theorem RowOk.ext {σ σ' : Sto} {k c : Nat} {l : List Nat} (r : RowOk σ k c l) (h : Ext σ σ') : RowOk σ' k c l := ⟨by obtain ⟨v, e⟩ := r.1; exact ⟨v, h.at e⟩, r.2⟩
structure Refs (σ : Sto) (p : PProg) (lo m : Nat) (vs : List (List TV)) : Prop where
  len : vs.length = m
  ex : ∃ ks cs : Nat → Nat, ∀ j, j < m → vs[j]? = some [.ref (ks j) 0 1 (rowAt p j).length (cs j)] ∧ RowOk σ (ks j) (cs j) (rowAt p j) ∧ lo ≤ ks j ∧ ∀ j', j' < j → ks j' < ks j
theorem Refs.ext {σ σ' : Sto} {p : PProg} {lo m : Nat} {vs : List (List TV)} (r : Refs σ p lo m vs) (h : Ext σ σ') : Refs σ' p lo m vs := by
  obtain ⟨ks, cs, hh⟩ := r.ex
  exact ⟨r.len, ks, cs, fun j hj => ⟨(hh j hj).1, (hh j hj).2.1.ext h, (hh j hj).2.2⟩⟩
theorem Refs.ok {σ : Sto} {p : PProg} {lo m : Nat} {vs : List (List TV)} (r : Refs σ p lo m vs) : (vs.all fun c => decide (c.length = 1)) = true := by
  obtain ⟨ks, cs, hh⟩ := r.ex
  rw [List.all_eq_true]
  intro c hc
  obtain ⟨j, hj⟩ := List.getElem?_of_mem hc
  have hlt : j < m := by rw [← r.len]; exact (List.getElem?_eq_some_iff.1 hj).1
  rw [(hh j hlt).1] at hj; cases hj; rfl
theorem Refs.snoc {σ σ1 : Sto} {p : PProg} {lo m : Nat} {vs : List (List TV)} {kr c : Nat} (r : Refs σ1 p lo m vs) (hx : Ext σ1 σ) (h : RowOk σ kr c (rowAt p m)) (hk : List.length σ1 ≤ kr) (hlo : lo ≤ kr) : Refs σ p lo (m + 1) (vs ++ [[.ref kr 0 1 (rowAt p m).length c]]) := by
  obtain ⟨ks, cs, hh⟩ := r.ex
  refine ⟨by simp [r.len], fun j => if j = m then kr else ks j, fun j => if j = m then c else cs j, fun j hj => ?_⟩
  have hlen := r.len
  by_cases hm : j = m
  · subst hm
    refine ⟨by simp [hlen], by simpa using h, by simpa using hlo, fun j' hj' => ?_⟩
    have : j' ≠ j := by omega
    simp only [if_true, if_neg this]
    obtain ⟨_, ⟨⟨ver, e⟩, _⟩, _⟩ := hh j' hj'
    have := Sto.lt e
    omega
  · obtain ⟨q1, q2, q3, q4⟩ := hh j (by omega)
    simp only [if_neg hm]
    refine ⟨by rw [List.getElem?_append_left (by omega)]; exact q1, q2.ext hx, q3, fun j' hj' => ?_⟩
    rw [if_neg (by omega)]; exact q4 j' hj'
theorem callsAllR_t (hF : F 11 = some f11) (h27 : F 27 = some f27) (p : PProg) (hp : OkP p) (N : Nat) (b : Nat) (σ : Sto) (hN : szEs (allE p) + p.funs.length + 20 ≤ N) (h100 : p.funs.length ≤ 100) :
    ∃ σ' vs, tcall F O (N + 1) b 11 [.agg (encP p)] σ = some (.ret (.sl .fz vs), σ') ∧ Ext σ σ' ∧ Refs σ' p σ.length (p.funs.length + 1) vs := by
  suffices hh : ∃ r σ', tcall F O (N + 1) b 11 [.agg (encP p)] σ = some (r, σ') ∧ ∃ vs, r = .ret (.sl .fz vs) ∧ Ext σ σ' ∧ Refs σ' p σ.length (p.funs.length + 1) vs by
    obtain ⟨r, σ', h1, vs, rfl, h2⟩ := hh
    exact ⟨σ', vs, h1, h2⟩
  refine tcall_of hF ?_
  have hpl := hp.flen
  obtain ⟨m, hm⟩ : ∃ m, m = p.funs.length + 1 := ⟨_, rfl⟩
  rw [← hm]
  obtain ⟨I, hI⟩ : ∃ I : Nat → TAct → Sto → Prop, I = (fun i a σ' => a.df = [] ∧ a.tm.get 1 = some (.bx 0 (encP p) 30) ∧ a.tm.get 4 = some (.int .i64 i) ∧ Ext σ σ' ∧ ∃ vs, Refs σ' p σ.length i vs ∧ ∃ v, Bld 25 1 vs v ∧ a.tm.get 3 = some v) := ⟨_, rfl⟩
  obtain ⟨R, hR⟩ : ∃ R : TEx → TAct → Sto → Prop, R = (fun ex a σ' => ex = .exit 0 ∧ a.df = [] ∧ Ext σ σ' ∧ ∃ vs, Refs σ' p σ.length m vs ∧ a.tm.get 3 = some (.sl (.own 25 1) vs)) := ⟨_, rfl⟩
  simp [x11, encP_def, encE_def]
  refine tw_loop I m R ?_ ?_ ?_ ?_ ?_
  · rw [hI]
    exact ⟨rfl, by simp [encP_def, encE_def], by simp, Ext.refl _, [], ⟨rfl, fun _ => 0, fun _ => 0, fun j hj => by omega⟩, _, .nl, by simp⟩
  · omega
  · rw [hI]
    rintro i ⟨tm, df, clk⟩ σ1 hi ⟨rfl, h1, h4, hx0, vs, hvs, v, hv, h3⟩
    rw [← hI]
    rw [encP_def] at h1
    have hw : IntKind.i64.wrap ((i : Int) + 1) = ((i + 1 : Nat) : Int) := by rw [wrap_in] <;> omega
    have hil : i + 1 ≤ 1073741824 := by omega
    have hcap : p.funs.length ≤ 281474976710656 := by omega
    have hcap2 : p.funs.length ≤ 9223372036854775807 := by omega
    have hile : (i : Int) ≤ (p.funs.length : Int) := by omega
    by_cases hin : i < p.funs.length
    · have hin' : (i : Int) < (p.funs.length : Int) := by omega
      have hbody : bodyAt p i = p.funs[i].body := by simp [bodyAt, hin]
      obtain ⟨ms, hms⟩ : ∃ ms, ms = markE p.funs (bodyAt p i) (List.replicate p.funs.length false) := ⟨_, rfl⟩
      have hml : ms.length = p.funs.length := by rw [hms, mark_len]; simp
      have hszb : szE (bodyAt p i) ≤ szEs (allE p) := by
        rw [hbody]; have := szEs_mem (allE p) p.funs[i].body (by simp [allE]; exact .inr ⟨_, List.getElem_mem hin, rfl⟩); omega
      obtain ⟨L, hL⟩ : ∃ L, L = List.length σ1 := ⟨_, rfl⟩
      obtain ⟨ver2, hc⟩ := callsR_t (O := O) h27 p.funs hpl N (bodyAt p i) b (σ1 ++ [some (TObj.mk 0 (.cells ((List.replicate p.funs.length false).map TV.bool) 4))]) (List.replicate p.funs.length false) L 0 p.funs.length (by omega) (by rw [hbody]; exact (hp.funs _ (List.getElem_mem hin)).body) (by simp) (by rw [hL]; exact at_app)
      rw [← hms, hbody, encE_def] at hc
      simp at hc
      obtain ⟨σ2, hσ2⟩ : ∃ σ2 : Sto, σ2 = (σ1 ++ [some (TObj.mk 0 (.cells ((List.replicate p.funs.length false).map TV.bool) 4))] : Sto).set L (some (TObj.mk ver2 (.cells (ms.map TV.bool) 4))) := ⟨_, rfl⟩
      simp at hσ2
      rw [← hσ2] at hc
      have hx2 : Ext σ1 σ2 := by
        rw [hσ2]
        exact (Ext.app ⟨[], by simp⟩ _).set (by omega) _
      have hat2 : Sto.at σ2 L = some ⟨ver2, .cells (ms.map TV.bool) 4⟩ := by
        rw [hσ2]; exact at_set (by rw [hL]; simp) _
      simp [h1, h3, h4, hi, hin, hin', hile, encE_def, encFun_def, hcap, hcap2, repT_bool, ← hL, hc]
      obtain ⟨J, hJ⟩ : ∃ J : Nat → TAct → Sto → Prop, J = (fun k a σ3 => a.df = [] ∧ Ext σ2 σ3 ∧ a.tm.get 1 = some (.bx 0 (encP p) 30) ∧ a.tm.get 3 = some v ∧ a.tm.get 4 = some (.int .i64 i) ∧
          a.tm.get 5 = some (.ref L 0 1 p.funs.length p.funs.length) ∧ a.tm.get 7 = some (.int .i64 k) ∧ ∃ (acc : List Nat) (kr c : Nat), acc.length ≤ k ∧ acc ++ trues (ms.drop k) k = rowAt p i ∧ σ2.length ≤ kr ∧ RowOk σ3 kr c acc ∧ a.tm.get 6 = some (.ref kr 0 1 acc.length c)) := ⟨_, rfl⟩
      obtain ⟨S, hS⟩ : ∃ S : TEx → TAct → Sto → Prop, S = (fun ex a σ3 => ex = .exit 2 ∧ a.df = [] ∧ Ext σ2 σ3 ∧ a.tm.get 1 = some (.bx 0 (encP p) 30) ∧ a.tm.get 3 = some v ∧ a.tm.get 4 = some (.int .i64 i) ∧
          ∃ (kr c : Nat), σ2.length ≤ kr ∧ RowOk σ3 kr c (rowAt p i) ∧ a.tm.get 6 = some (.ref kr 0 1 (rowAt p i).length c)) := ⟨_, rfl⟩
      refine tw_loop J p.funs.length S ?_ ?_ ?_ ?_ ?_
      · rw [hJ]
        refine ⟨rfl, ⟨_, rfl⟩, by simp [h1, encP_def], by simp [h3], by simp [h4], by simp [hL], by simp, [], σ2.length, 0, by simp, by simp [rowAt, hms], Nat.le_refl _, ⟨⟨0, by simp [Sto.at]⟩, .inr ⟨rfl, rfl⟩⟩, by simp⟩
      · omega
      · rw [hJ]
        rintro k ⟨tm, df, clk⟩ σ3 hk ⟨rfl, hx, h1, h3, h4, h5, h7, acc, kr, c, hal, hacc, hkr, ⟨⟨ver3, hat3⟩, hc3⟩, h6⟩
        rw [← hJ]
        have hw2 := wrapJ hk hpl
        have hkm : k < ms.length := by omega
        have hgk : (ms.map TV.bool)[k]? = some (.bool ms[k]) := by simp [hkm]
        have hatL : Sto.at σ3 L = some ⟨ver2, .cells (ms.map TV.bool) 4⟩ := hx.at hat2
        rw [trues_drop hkm] at hacc
        have hac : acc.length + 1 ≤ 1073741824 := by omega
        cases hb : ms[k] with
        | true =>
          rw [hb] at hgk hacc
          simp at hgk
          rcases hc3 with rfl | ⟨rfl, rfl⟩
          · simp [h1, h3, h4, h5, h6, h7, hk, hw2, hatL, hgk, hat3, hac]
            rw [hJ]
            refine ⟨rfl, (hx.set hkr _).app _, by simp [h1], by simp [h3], by simp [h4], by simp [h5], by simp, acc ++ [k], List.length σ3, capU + 1, by simp; omega, by simpa using hacc, hx.le, ⟨⟨0, by simp [Sto.at, encN]⟩, .inl rfl⟩, by simp⟩
          · simp [h1, h3, h4, h5, h6, h7, hk, hw2, hatL, hgk, hat3, hac]
            rw [hJ]
            refine ⟨rfl, hx.app _, by simp [h1], by simp [h3], by simp [h4], by simp [h5], by simp, [k], List.length σ3, capU + 1, by simp, by simpa using hacc, hx.le, ⟨⟨0, by simp [Sto.at, encN]⟩, .inl rfl⟩, by simp⟩
        | false =>
          rw [hb] at hgk hacc
          simp at hgk
          simp [h1, h3, h4, h5, h6, h7, hk, hw2, hatL, hgk, hat3]
          rw [hJ]
          refine ⟨rfl, hx, by simp [h1], by simp [h3], by simp [h4], by simp [h5], by simp, acc, kr, c, by omega, by simpa using hacc, hkr, ⟨⟨ver3, hat3⟩, hc3⟩, by simp [h6]⟩
      · rw [hJ]
        rintro ⟨tm, df, clk⟩ σ3 ⟨rfl, hx, h1, h3, h4, h5, h7, acc, kr, c, hal, hacc, hkr, hro, h6⟩
        have hd0 : ms.drop p.funs.length = [] := List.drop_of_length_le (by omega)
        rw [hd0] at hacc
        simp [trues] at hacc
        simp [h5, h7]
        rw [hS]
        exact ⟨rfl, rfl, hx, by simp [h1], by simp [h3], by simp [h4], kr, c, hkr, by rw [← hacc]; exact hro, by simp [h6, hacc]⟩
      · rw [hS]
        rintro ex ⟨tm, df, clk⟩ σ3 ⟨rfl, rfl, hx, h1, h3, h4, kr, c, hkr, hro, h6⟩
        have hx1 : Ext σ1 σ3 := hx2.trans hx
        have hv2 : Refs σ3 p σ.length (i + 1) (vs ++ [[.ref kr 0 1 (rowAt p i).length c]]) := hvs.snoc hx1 hro (Nat.le_trans hx2.le hkr) (Nat.le_trans hx0.le (Nat.le_trans hx2.le hkr))
        have hvl := hvs.len
        rcases hv.inv with ⟨hl0, rfl⟩ | rfl
        · simp [h1, h3, h4, h6, hw]
          rw [hI]
          exact ⟨rfl, by simp [h1], by simp, hx0.trans hx1, _, hv2, _, Bld.own (vs ++ [[.ref kr 0 1 (rowAt p i).length c]]), by simp [hl0]⟩
        · have hok := hvs.ok
          simp [h1, h3, h4, h6, hw, hvl, hil, hok]
          rw [hI]
          exact ⟨rfl, by simp [h1], by simp, hx0.trans hx1, _, hv2, _, Bld.own (vs ++ [[.ref kr 0 1 (rowAt p i).length c]]), by simp⟩
    · have hin' : ¬ (i : Int) < (p.funs.length : Int) := by omega
      have hbody : bodyAt p i = p.query := by simp [bodyAt, hin]
      obtain ⟨ms, hms⟩ : ∃ ms, ms = markE p.funs (bodyAt p i) (List.replicate p.funs.length false) := ⟨_, rfl⟩
      have hml : ms.length = p.funs.length := by rw [hms, mark_len]; simp
      have hszb : szE (bodyAt p i) ≤ szEs (allE p) := by
        rw [hbody]; have := szEs_mem (allE p) p.query (by simp [allE]); omega
      obtain ⟨L, hL⟩ : ∃ L, L = List.length σ1 := ⟨_, rfl⟩
      obtain ⟨ver2, hc⟩ := callsR_t (O := O) h27 p.funs hpl N (bodyAt p i) b (σ1 ++ [some (TObj.mk 0 (.cells ((List.replicate p.funs.length false).map TV.bool) 4))]) (List.replicate p.funs.length false) L 0 p.funs.length (by omega) (by rw [hbody]; exact hp.query) (by simp) (by rw [hL]; exact at_app)
      rw [← hms, hbody, encE_def] at hc
      simp at hc
      obtain ⟨σ2, hσ2⟩ : ∃ σ2 : Sto, σ2 = (σ1 ++ [some (TObj.mk 0 (.cells ((List.replicate p.funs.length false).map TV.bool) 4))] : Sto).set L (some (TObj.mk ver2 (.cells (ms.map TV.bool) 4))) := ⟨_, rfl⟩
      simp at hσ2
      rw [← hσ2] at hc
      have hx2 : Ext σ1 σ2 := by
        rw [hσ2]
        exact (Ext.app ⟨[], by simp⟩ _).set (by omega) _
      have hat2 : Sto.at σ2 L = some ⟨ver2, .cells (ms.map TV.bool) 4⟩ := by
        rw [hσ2]; exact at_set (by rw [hL]; simp) _
      simp [h1, h3, h4, hi, hin, hin', hile, encE_def, encFun_def, hcap, hcap2, repT_bool, ← hL, hc]
      obtain ⟨J, hJ⟩ : ∃ J : Nat → TAct → Sto → Prop, J = (fun k a σ3 => a.df = [] ∧ Ext σ2 σ3 ∧ a.tm.get 1 = some (.bx 0 (encP p) 30) ∧ a.tm.get 3 = some v ∧ a.tm.get 4 = some (.int .i64 i) ∧
          a.tm.get 5 = some (.ref L 0 1 p.funs.length p.funs.length) ∧ a.tm.get 7 = some (.int .i64 k) ∧ ∃ (acc : List Nat) (kr c : Nat), acc.length ≤ k ∧ acc ++ trues (ms.drop k) k = rowAt p i ∧ σ2.length ≤ kr ∧ RowOk σ3 kr c acc ∧ a.tm.get 6 = some (.ref kr 0 1 acc.length c)) := ⟨_, rfl⟩
      obtain ⟨S, hS⟩ : ∃ S : TEx → TAct → Sto → Prop, S = (fun ex a σ3 => ex = .exit 2 ∧ a.df = [] ∧ Ext σ2 σ3 ∧ a.tm.get 1 = some (.bx 0 (encP p) 30) ∧ a.tm.get 3 = some v ∧ a.tm.get 4 = some (.int .i64 i) ∧
          ∃ (kr c : Nat), σ2.length ≤ kr ∧ RowOk σ3 kr c (rowAt p i) ∧ a.tm.get 6 = some (.ref kr 0 1 (rowAt p i).length c)) := ⟨_, rfl⟩
      refine tw_loop J p.funs.length S ?_ ?_ ?_ ?_ ?_
      · rw [hJ]
        refine ⟨rfl, ⟨_, rfl⟩, by simp [h1, encP_def], by simp [h3], by simp [h4], by simp [hL], by simp, [], σ2.length, 0, by simp, by simp [rowAt, hms], Nat.le_refl _, ⟨⟨0, by simp [Sto.at]⟩, .inr ⟨rfl, rfl⟩⟩, by simp⟩
      · omega
      · rw [hJ]
        rintro k ⟨tm, df, clk⟩ σ3 hk ⟨rfl, hx, h1, h3, h4, h5, h7, acc, kr, c, hal, hacc, hkr, ⟨⟨ver3, hat3⟩, hc3⟩, h6⟩
        rw [← hJ]
        have hw2 := wrapJ hk hpl
        have hkm : k < ms.length := by omega
        have hgk : (ms.map TV.bool)[k]? = some (.bool ms[k]) := by simp [hkm]
        have hatL : Sto.at σ3 L = some ⟨ver2, .cells (ms.map TV.bool) 4⟩ := hx.at hat2
        rw [trues_drop hkm] at hacc
        have hac : acc.length + 1 ≤ 1073741824 := by omega
        cases hb : ms[k] with
        | true =>
          rw [hb] at hgk hacc
          simp at hgk
          rcases hc3 with rfl | ⟨rfl, rfl⟩
          · simp [h1, h3, h4, h5, h6, h7, hk, hw2, hatL, hgk, hat3, hac]
            rw [hJ]
            refine ⟨rfl, (hx.set hkr _).app _, by simp [h1], by simp [h3], by simp [h4], by simp [h5], by simp, acc ++ [k], List.length σ3, capU + 1, by simp; omega, by simpa using hacc, hx.le, ⟨⟨0, by simp [Sto.at, encN]⟩, .inl rfl⟩, by simp⟩
          · simp [h1, h3, h4, h5, h6, h7, hk, hw2, hatL, hgk, hat3, hac]
            rw [hJ]
            refine ⟨rfl, hx.app _, by simp [h1], by simp [h3], by simp [h4], by simp [h5], by simp, [k], List.length σ3, capU + 1, by simp, by simpa using hacc, hx.le, ⟨⟨0, by simp [Sto.at, encN]⟩, .inl rfl⟩, by simp⟩
        | false =>
          rw [hb] at hgk hacc
          simp at hgk
          simp [h1, h3, h4, h5, h6, h7, hk, hw2, hatL, hgk, hat3]
          rw [hJ]
          refine ⟨rfl, hx, by simp [h1], by simp [h3], by simp [h4], by simp [h5], by simp, acc, kr, c, by omega, by simpa using hacc, hkr, ⟨⟨ver3, hat3⟩, hc3⟩, by simp [h6]⟩
      · rw [hJ]
        rintro ⟨tm, df, clk⟩ σ3 ⟨rfl, hx, h1, h3, h4, h5, h7, acc, kr, c, hal, hacc, hkr, hro, h6⟩
        have hd0 : ms.drop p.funs.length = [] := List.drop_of_length_le (by omega)
        rw [hd0] at hacc
        simp [trues] at hacc
        simp [h5, h7]
        rw [hS]
        exact ⟨rfl, rfl, hx, by simp [h1], by simp [h3], by simp [h4], kr, c, hkr, by rw [← hacc]; exact hro, by simp [h6, hacc]⟩
      · rw [hS]
        rintro ex ⟨tm, df, clk⟩ σ3 ⟨rfl, rfl, hx, h1, h3, h4, kr, c, hkr, hro, h6⟩
        have hx1 : Ext σ1 σ3 := hx2.trans hx
        have hv2 : Refs σ3 p σ.length (i + 1) (vs ++ [[.ref kr 0 1 (rowAt p i).length c]]) := hvs.snoc hx1 hro (Nat.le_trans hx2.le hkr) (Nat.le_trans hx0.le (Nat.le_trans hx2.le hkr))
        have hvl := hvs.len
        rcases hv.inv with ⟨hl0, rfl⟩ | rfl
        · simp [h1, h3, h4, h6, hw]
          rw [hI]
          exact ⟨rfl, by simp [h1], by simp, hx0.trans hx1, _, hv2, _, Bld.own (vs ++ [[.ref kr 0 1 (rowAt p i).length c]]), by simp [hl0]⟩
        · have hok := hvs.ok
          simp [h1, h3, h4, h6, hw, hvl, hil, hok]
          rw [hI]
          exact ⟨rfl, by simp [h1], by simp, hx0.trans hx1, _, hv2, _, Bld.own (vs ++ [[.ref kr 0 1 (rowAt p i).length c]]), by simp⟩
  · rw [hI]
    rintro ⟨tm, df, clk⟩ σ1 ⟨rfl, h1, h4, hx0, vs, hvs, v, hv, h3⟩
    rw [encP_def] at h1
    have hnle : ¬ (m : Int) ≤ (p.funs.length : Int) := by omega
    rcases hv.inv with ⟨hl0, rfl⟩ | rfl
    · have := hvs.len; rw [hl0] at this; simp at this; omega
    · simp [h1, h4, hnle]
      rw [hR]
      exact ⟨rfl, rfl, hx0, vs, hvs, by simp [h3]⟩
  · rw [hR]
    rintro ex ⟨tm, df, clk⟩ σ1 ⟨rfl, rfl, hx0, vs, hvs, h3⟩
    simp [h3]
    exact ⟨hx0, hvs⟩
end Go.Xe.Ytjdiibhkdanbiaa
end
section
namespace Go.Xe.Ytjdiibhkdanbiaa
open Go Go.Xe Go.Xt
set_option linter.unusedVariables false
set_option linter.unusedSimpArgs false
variable {F : FuncId → Option TFun} {O : FuncId → List TV → Option TV}
inductive From (p : PProg) (l : List Nat) : Nat → Prop
  | base {k : Nat} : k ∈ l → From p l k
  | step {j k : Nat} : From p l j → k ∈ rowAt p j → From p l k
theorem From.mono {p : PProg} {l m : List Nat} (h : ∀ k ∈ l, From p m k) {k : Nat} (r : From p l k) : From p m k := by
  induction r with
  | base hk => exact h _ hk
  | step _ hk ih => exact .step ih hk
theorem cnt_set : ∀ (l : List Bool) (i : Nat), l[i]? = some false → (l.set i true).count false + 1 = l.count false
  | [], i, h => by simp at h
  | b :: l, 0, h => by
    simp at h; subst h
    simp
  | b :: l, i + 1, h => by
    have := cnt_set l i (by simpa using h)
    simp only [List.set_cons_succ, List.count_cons]
    omega
structure Visit (p : PProg) (l : List Nat) (out out' : List Bool) : Prop where
  len : out'.length = out.length
  cnt : out'.count false ≤ out.count false
  mono : ∀ k : Nat, out[k]? = some true → out'[k]? = some true
  all : ∀ k : Nat, k ∈ l → out'[k]? = some true
  clo : ∀ k : Nat, out'[k]? = some true → out[k]? ≠ some true → ∀ j ∈ rowAt p k, out'[j]? = some true
  snd : ∀ k : Nat, out'[k]? = some true → out[k]? = some true ∨ From p l k
theorem Visit.nil (p : PProg) (out : List Bool) : Visit p [] out out := ⟨rfl, Nat.le_refl _, fun _ h => h, fun _ h => by simp at h, fun k h h' => absurd h h', fun k h => .inl h⟩
theorem Visit.skip {p : PProg} {l : List Nat} {out out1 : List Bool} (v : Visit p l out out1) {x : Nat} (h : out1[x]? = some true) : Visit p (l ++ [x]) out out1 := by
  refine ⟨v.len, v.cnt, v.mono, fun k hk => ?_, v.clo, fun k hk => (v.snd k hk).imp id (From.mono fun j hj => .base (by simp [hj]))⟩
  rcases List.mem_append.1 hk with hk | hk
  · exact v.all k hk
  · simp at hk; subst hk; exact h
theorem set_true {l : List Bool} {x k : Nat} (h : l[k]? = some true) : (l.set x true)[k]? = some true := by
  by_cases e : x = k
  · subst e; rw [List.getElem?_set_self (List.getElem?_eq_some_iff.1 h).1]
  · rw [List.getElem?_set_ne e]; exact h
theorem Visit.go {p : PProg} {l : List Nat} {out out1 out3 : List Bool} (v : Visit p l out out1) {x : Nat} (h : out1[x]? = some false) (w : Visit p (rowAt p x) (out1.set x true) out3) : Visit p (l ++ [x]) out out3 := by
  have hx : (out1.set x true)[x]? = some true := List.getElem?_set_self (List.getElem?_eq_some_iff.1 h).1
  have hset : ∀ k : Nat, (out1.set x true)[k]? = some true → k = x ∨ out1[k]? = some true := fun k hk => by
    by_cases e : x = k
    · exact .inl e.symm
    · rw [List.getElem?_set_ne e] at hk; exact .inr hk
  refine ⟨by rw [w.len, List.length_set, v.len], ?_, fun k hk => w.mono k (set_true (v.mono k hk)), fun k hk => ?_, fun k hk hk' j hj => ?_, fun k hk => ?_⟩
  · have := cnt_set out1 x h; have := w.cnt; have := v.cnt; omega
  · rcases List.mem_append.1 hk with hk | hk
    · exact w.mono k (set_true (v.all k hk))
    · simp at hk; subst hk; exact w.mono _ hx
  · by_cases h1 : (out1.set x true)[k]? = some true
    · rcases hset k h1 with rfl | h2
      · exact w.all j hj
      · exact w.mono j (set_true (v.clo k h2 hk' j hj))
    · exact w.clo k hk h1 j hj
  · rcases w.snd k hk with h1 | h1
    · rcases hset k h1 with rfl | h2
      · exact .inr (.base (by simp))
      · exact (v.snd k h2).imp id (From.mono fun j hj => .base (by simp [hj]))
    · exact .inr (h1.mono fun j hj => .step (.base (by simp)) hj)
def Full (p : PProg) (out : List Bool) : Prop := out.length = p.funs.length ∧ ∀ k : Nat, out[k]? = some true ↔ From p (rowAt p p.funs.length) k
theorem Visit.full {p : PProg} {out : List Bool} (v : Visit p (rowAt p p.funs.length) (List.replicate p.funs.length false) out) : Full p out := by
  have hno : ∀ k : Nat, (List.replicate p.funs.length false)[k]? ≠ some true := fun k h => by
    rw [List.getElem?_replicate] at h; split at h <;> cases h
  refine ⟨by rw [v.len]; simp, fun k => ⟨fun h => (v.snd k h).resolve_left (hno k), fun h => ?_⟩⟩
  induction h with
  | base hk => exact v.all _ hk
  | step _ hk ih => exact v.clo _ ih (hno _) _ hk
theorem Full.eq {p : PProg} {a b : List Bool} (h : Full p a) (k : Full p b) : a = b := by
  apply List.ext_getElem?
  intro i
  by_cases hi : i < p.funs.length
  · have ha : i < a.length := by rw [h.1]; exact hi
    have hb : i < b.length := by rw [k.1]; exact hi
    have h1 := h.2 i
    have k1 := k.2 i
    rw [← k1] at h1
    rw [List.getElem?_eq_getElem ha, List.getElem?_eq_getElem hb] at h1 ⊢
    simp only [Option.some.injEq] at h1 ⊢
    cases ha' : a[i] <;> cases hb' : b[i] <;> rw [ha', hb'] at h1 <;> simp at h1 <;> rfl
  · rw [List.getElem?_eq_none (by rw [h.1]; omega), List.getElem?_eq_none (by rw [k.1]; omega)]
theorem trues_mem : ∀ (l : List Bool) (i k : Nat), k ∈ trues l i → i ≤ k ∧ k < i + l.length
  | [], i, k, h => by simp [trues] at h
  | b :: l, i, k, h => by
    simp only [trues] at h
    have ih := trues_mem l (i + 1) k
    simp only [List.length_cons]
    split at h
    · rcases List.mem_cons.1 h with rfl | h
      · omega
      · have := ih h; omega
    · have := ih h; omega
theorem row_mem {p : PProg} {i k : Nat} (h : k ∈ rowAt p i) : k < p.funs.length := by
  have := trues_mem _ _ _ h
  rw [mark_len] at this
  simp at this; omega
theorem row_len (p : PProg) (i : Nat) : (rowAt p i).length ≤ p.funs.length := by
  have := trues_len (markE p.funs (bodyAt p i) (List.replicate p.funs.length false)) 0
  rw [mark_len, List.length_replicate] at this; exact this
theorem rows_get {p : PProg} {m i : Nat} (h : i < m) : (rowsT p m)[i]? = some (encRow (rowAt p i)) := by
  simp [rowsT, h]
theorem visit_t (hF : F 28 = some f28) (p : PProg) (h100 : p.funs.length ≤ 100) : ∀ (N : Nat) (l : List Nat) (b : Nat) (σ : Sto) (out : List Bool) (ko kv ka ver ver2 ver3 : Nat), out.count false + p.funs.length + 5 ≤ N → (∀ k ∈ l, k < p.funs.length) → l.length ≤ p.funs.length → out.length = p.funs.length →
    σ.at ko = some ⟨ver, .cells [.sl (.own 4 1) (out.map encB)] 35⟩ → σ.at kv = some ⟨ver2, .cells [.func 28 [] [.ptr ko 0, .ptr kv 0, .ptr ka 0]] 65⟩ → σ.at ka = some ⟨ver3, .cells [.sl .fz (rowsT p (p.funs.length + 1))] 33⟩ → ko ≠ kv → ko ≠ ka →
    ∃ out', Visit p l out out' ∧ tcall F O N b 28 [.sl .fz (l.map encN), .ptr ko 0, .ptr kv 0, .ptr ka 0] σ = some (.ret (.tuple []), σ.set ko (some ⟨ver, .cells [.sl (.own 4 1) (out'.map encB)] 35⟩))
  | 0, l, b, σ, out, ko, kv, ka, ver, ver2, ver3, h, hl, hll, hol, ho, hv, ha, h1, h2 => by omega
  | N + 1, l, b, σ, out, ko, kv, ka, ver, ver2, ver3, h, hl, hll, hol, ho, hv, ha, h1, h2 => by
    have ih := visit_t hF p h100 N
    have hko := Sto.lt ho
    suffices hh : ∃ r σ', tcall F O (N + 1) b 28 [.sl .fz (l.map encN), .ptr ko 0, .ptr kv 0, .ptr ka 0] σ = some (r, σ') ∧ ∃ out', r = .ret (.tuple []) ∧ Visit p l out out' ∧ σ' = σ.set ko (some ⟨ver, .cells [.sl (.own 4 1) (out'.map encB)] 35⟩) by
      obtain ⟨r, σ', q1, out', rfl, q2, rfl⟩ := hh
      exact ⟨out', q2, q1⟩
    refine tcall_of hF ?_
    have hll2 : l.length ≤ maxLen := by unfold maxLen; omega
    obtain ⟨I, hI⟩ : ∃ I : Nat → TAct → Sto → Prop, I = (fun j a σ' => a.df = [] ∧ a.tm.get 1 = some (.ptr ko 0) ∧ a.tm.get 2 = some (.ptr kv 0) ∧ a.tm.get 3 = some (.ptr ka 0) ∧ a.tm.get 7 = some (.sl .fz (l.map encN)) ∧ a.tm.get 8 = some (.int .i64 (l.length : Int)) ∧ a.tm.get 9 = some (.int .i64 j) ∧
        ∃ out1, Visit p (tk l j) out out1 ∧ σ' = σ.set ko (some ⟨ver, .cells [.sl (.own 4 1) (out1.map encB)] 35⟩)) := ⟨_, rfl⟩
    obtain ⟨R, hR⟩ : ∃ R : TEx → TAct → Sto → Prop, R = (fun ex a σ' => ex = .exit 0 ∧ a.df = [] ∧ ∃ out1, Visit p l out out1 ∧ σ' = σ.set ko (some ⟨ver, .cells [.sl (.own 4 1) (out1.map encB)] 35⟩)) := ⟨_, rfl⟩
    simp [x28]
    refine tw_loop I l.length R ?_ ?_ ?_ ?_ ?_
    · rw [hI]
      exact ⟨rfl, by simp, by simp, by simp, by simp, by simp, by simp, out, Visit.nil p out, (Sto.set_same ho).symm⟩
    · omega
    · rw [hI]
      rintro j ⟨tm, df, clk⟩ σ1 hj ⟨rfl, g1, g2, g3, g7, g8, g9, out1, hvis, hσ1⟩
      rw [← hI]
      have hw := wrapJ hj hll2
      have hlk := hl _ (List.getElem_mem hj)
      have ht := tk_succ hj
      have hat1 : Sto.at σ1 ko = some ⟨ver, .cells [.sl (.own 4 1) (out1.map encB)] 35⟩ := by rw [hσ1]; exact at_set hko _
      have hatv : Sto.at σ1 kv = some ⟨ver2, .cells [.func 28 [] [.ptr ko 0, .ptr kv 0, .ptr ka 0]] 65⟩ := by rw [hσ1, at_ne h1]; exact hv
      have hata : Sto.at σ1 ka = some ⟨ver3, .cells [.sl .fz (rowsT p (p.funs.length + 1))] 33⟩ := by rw [hσ1, at_ne h2]; exact ha
      have hk1 : l[j] < out1.length := by rw [hvis.len, hol]; exact hlk
      have hlj : (l.map encN)[j]? = some (encN l[j]) := by simp [hj]
      have hoj : (out1.map encB)[l[j]]? = some (encB out1[l[j]]) := by simp [hk1]
      cases hb : out1[l[j]] with
      | true =>
        rw [hb] at hoj
        have hvs : out1[l[j]]? = some true := by rw [List.getElem?_eq_getElem hk1, hb]
        simp [g1, g2, g3, g7, g8, g9, hj, hw, hat1, hlj, hoj, encN, encB]
        rw [hI]
        exact ⟨rfl, by simp [g1], by simp [g2], by simp [g3], by simp [g7], by simp [g8], by simp, out1, by rw [ht]; exact hvis.skip hvs, hσ1⟩
      | false =>
        rw [hb] at hoj
        have hvs : out1[l[j]]? = some false := by rw [List.getElem?_eq_getElem hk1, hb]
        have hcnt := cnt_set out1 l[j] hvs
        have hcle := hvis.cnt
        have hko1 : ko < List.length σ1 := by rw [hσ1]; simpa using hko
        have hallj : (rowsT p (p.funs.length + 1))[l[j]]? = some (encRow (rowAt p l[j])) := rows_get (by omega)
        obtain ⟨out3, hv3, hc⟩ := ih (rowAt p l[j]) (List.length σ) (σ1.set ko (some ⟨ver, .cells [.sl (.own 4 1) ((out1.map encB).set l[j] (encB true))] 35⟩)) (out1.set l[j] true) ko kv ka ver ver2 ver3 (by omega) (fun k hk => row_mem hk) (row_len p _)
          (by rw [List.length_set, hvis.len, hol]) (by rw [at_set hko1, List.map_set]) (by rw [at_ne h1]; exact hatv) (by rw [at_ne h2]; exact hata) h1 h2
        have hatv2 : ∀ x, Sto.at (σ1.set ko x) kv = some ⟨ver2, .cells [.func 28 [] [.ptr ko 0, .ptr kv 0, .ptr ka 0]] 65⟩ := fun x => by rw [at_ne h1]; exact hatv
        have hata2 : ∀ x, Sto.at (σ1.set ko x) ka = some ⟨ver3, .cells [.sl .fz (rowsT p (p.funs.length + 1))] 33⟩ := fun x => by rw [at_ne h2]; exact hata
        simp [encB] at hc
        simp [g1, g2, g3, g7, g8, g9, hj, hw, hat1, hlj, hoj, encN, encB, hatv2, hata2, hallj, encRow, hc]
        rw [hI]
        exact ⟨rfl, by simp [g1], by simp [g2], by simp [g3], by simp [g7], by simp [g8], by simp, out3, by rw [ht]; exact hvis.go hvs hv3, by rw [hσ1]; simp [encB]⟩
    · rw [hI]
      rintro ⟨tm, df, clk⟩ σ1 ⟨rfl, g1, g2, g3, g7, g8, g9, out1, hvis, hσ1⟩
      rw [tk_all] at hvis
      simp [g8, g9]
      rw [hR]
      exact ⟨rfl, rfl, out1, hvis, hσ1⟩
    · rw [hR]
      rintro ex ⟨tm, df, clk⟩ σ1 ⟨rfl, rfl, out1, hvis, rfl⟩
      simp
      exact ⟨out1, hvis, rfl⟩
end Go.Xe.Ytjdiibhkdanbiaa
end
section
namespace Go.Xe.Ytjdiibhkdanbiaa
open Go Go.Xe Go.Xt
set_option linter.unusedVariables false
set_option linter.unusedSimpArgs false
variable {F : FuncId → Option TFun} {O : FuncId → List TV → Option TV}
theorem rep_enc (n : Nat) : List.replicate n [TV.bool false] = (List.replicate n false).map encB := by simp [encB]
theorem reached_t (hF : F 12 = some f12) (h10 : F 10 = some f10) (h26 : F 26 = some f26) (h28 : F 28 = some f28) (p : PProg) (hp : OkP p) (N : Nat) (b : Nat) (σ : Sto) (hN : szEs (allE p) + p.funs.length + p.funs.length + 30 ≤ N) (h100 : p.funs.length ≤ 100) :
    ∃ out, Full p out ∧ tcall F O (N + 2) b 12 [.agg (encP p)] σ = some (.ret (.sl .fz (out.map encB)), σ) := by
  have hc := callsAll_t (O := O) h10 h26 p hp N (List.length σ) σ (by omega) h100
  have hcap : p.funs.length ≤ 281474976710656 := by omega
  have hcap2 : p.funs.length ≤ 9223372036854775807 := by omega
  obtain ⟨σ1, hσ1⟩ : ∃ σ1 : Sto, σ1 = (σ ++ [some ⟨1, .cells [.sl .fz (rowsT p (p.funs.length + 1))] 33⟩] ++ [some ⟨1, .cells [.sl (.own 4 1) ((List.replicate p.funs.length false).map encB)] 35⟩] ++ [some ⟨1, .cells [.func 28 [] [.ptr (List.length σ + 1) 0, .ptr (List.length σ + 2) 0, .ptr (List.length σ) 0]] 65⟩] : Sto) := ⟨_, rfl⟩
  have hrow : (rowsT p (p.funs.length + 1))[p.funs.length]? = some (encRow (rowAt p p.funs.length)) := rows_get (by omega)
  obtain ⟨out, hv, hc2⟩ := visit_t (O := O) h28 p h100 (N + 1) (rowAt p p.funs.length) (List.length σ) σ1 (List.replicate p.funs.length false) (List.length σ + 1) (List.length σ + 2) (List.length σ) 1 1 1 (by
      have : (List.replicate p.funs.length false).count false ≤ p.funs.length := by have := List.count_le_length (a := false) (l := List.replicate p.funs.length false); simp
      omega) (fun k hk => row_mem hk) (row_len p _) (by simp) (by rw [hσ1]; simp [Sto.at]) (by rw [hσ1]; simp [Sto.at]) (by rw [hσ1]; simp [Sto.at]) (by omega) (by omega)
  rw [encP_def] at hc
  refine ⟨out, hv.full, tcall_pure hF ?_⟩
  rw [hσ1] at hc2
  simp at hc2
  simp [x12, encP_def, encE_def, hc, hcap, hcap2, rep_enc, Sto.at, hrow, encRow, hc2, below_map _ encB (below_encB _) out]
structure Work (p : PProg) (rl : List Nat) (i : Nat) (out : List Bool) : Prop where
  le : i ≤ rl.length
  len : out.length = p.funs.length
  lt : ∀ x, x ∈ rl → x < p.funs.length
  root : ∀ x, x ∈ rowAt p p.funs.length → x ∈ rl
  done : ∀ (j x : Nat), j < i → rl[j]? = some x → out[x]? = some true
  mark : ∀ x : Nat, out[x]? = some true → ∀ y, y ∈ rowAt p x → y ∈ rl
  snd : ∀ x, x ∈ rl → From p (rowAt p p.funs.length) x
  frm : ∀ x : Nat, out[x]? = some true → From p (rowAt p p.funs.length) x
  cnt : rl.length + p.funs.length * out.count false ≤ p.funs.length + p.funs.length * p.funs.length
theorem Work.start (p : PProg) : Work p (rowAt p p.funs.length) 0 (List.replicate p.funs.length false) := by
  have hno : ∀ k : Nat, (List.replicate p.funs.length false)[k]? ≠ some true := fun k h => by
    rw [List.getElem?_replicate] at h; split at h <;> cases h
  refine ⟨Nat.zero_le _, by simp, fun x hx => row_mem hx, fun x h => h, fun j x h => by omega, fun x h => absurd h (hno x), fun x h => .base h, fun x h => absurd h (hno x), ?_⟩
  have := row_len p p.funs.length
  simp only [List.count_replicate_self]
  omega
theorem Work.skip {p : PProg} {rl : List Nat} {i : Nat} {out : List Bool} (w : Work p rl i out) {x : Nat} (hx : rl[i]? = some x) (h : out[x]? = some true) : Work p rl (i + 1) out := by
  refine ⟨(List.getElem?_eq_some_iff.1 hx).1, w.len, w.lt, w.root, fun j y hj hy => ?_, w.mark, w.snd, w.frm, w.cnt⟩
  by_cases e : j = i
  · subst e; rw [hx] at hy; cases hy; exact h
  · exact w.done j y (by omega) hy
theorem Work.go {p : PProg} {rl : List Nat} {i : Nat} {out : List Bool} (w : Work p rl i out) {x : Nat} (hx : rl[i]? = some x) (h : out[x]? = some false) : Work p (rl ++ rowAt p x) (i + 1) (out.set x true) := by
  have hlt := (List.getElem?_eq_some_iff.1 hx).1
  have hxs : (out.set x true)[x]? = some true := List.getElem?_set_self (List.getElem?_eq_some_iff.1 h).1
  have hset : ∀ k : Nat, (out.set x true)[k]? = some true → k = x ∨ out[k]? = some true := fun k hk => by
    by_cases e : x = k
    · exact .inl e.symm
    · rw [List.getElem?_set_ne e] at hk; exact .inr hk
  have hfx : From p (rowAt p p.funs.length) x := w.snd x (List.mem_of_getElem? hx)
  refine ⟨by simp; omega, by rw [List.length_set, w.len], fun y hy => ?_, fun y hy => List.mem_append.2 (.inl (w.root y hy)), fun j y hj hy => ?_, fun k hk y hy => ?_, fun y hy => ?_, fun k hk => ?_, ?_⟩
  · rcases List.mem_append.1 hy with hy | hy
    · exact w.lt y hy
    · exact row_mem hy
  · rw [List.getElem?_append_left (by omega)] at hy
    by_cases e : j = i
    · subst e; rw [hx] at hy; cases hy; exact hxs
    · exact set_true (w.done j y (by omega) hy)
  · rcases hset k hk with rfl | hk
    · exact List.mem_append.2 (.inr hy)
    · exact List.mem_append.2 (.inl (w.mark k hk y hy))
  · rcases List.mem_append.1 hy with hy | hy
    · exact w.snd y hy
    · exact .step hfx hy
  · rcases hset k hk with rfl | hk
    · exact hfx
    · exact w.frm k hk
  · have h1 := cnt_set out x h
    have h2 := row_len p x
    have h3 := w.cnt
    rw [← h1, Nat.mul_add, Nat.mul_one] at h3
    rw [List.length_append]
    omega
theorem Work.full {p : PProg} {rl : List Nat} {out : List Bool} (w : Work p rl rl.length out) : Full p out := by
  have hall : ∀ x, x ∈ rl → out[x]? = some true := fun x hx => by
    obtain ⟨j, hj⟩ := List.getElem?_of_mem hx
    exact w.done j x (List.getElem?_eq_some_iff.1 hj).1 hj
  refine ⟨w.len, fun k => ⟨w.frm k, fun h => ?_⟩⟩
  induction h with
  | base hk => exact hall _ (w.root _ hk)
  | step _ hk ih => exact hall _ (w.mark _ ih _ hk)
theorem Work.small {p : PProg} {rl : List Nat} {i : Nat} {out : List Bool} (w : Work p rl i out) (h100 : p.funs.length ≤ 100) : rl.length ≤ 10100 := by
  have := w.cnt
  have h2 : p.funs.length * p.funs.length ≤ 100 * 100 := Nat.mul_le_mul h100 h100
  omega
theorem chop_row : ∀ l : List Nat, chop 1 l.length (l.map fun x : Nat => TV.int .i64 x) = l.map encN
  | [] => rfl
  | x :: l => by simp only [List.length_cons, List.map_cons, chop, List.take_succ_cons, List.take_zero, List.drop_succ_cons, List.drop_zero, chop_row l]; rfl
theorem encN_len (x : Nat) : (encN x).length = 1 := rfl
theorem flat_encN : ∀ l : List Nat, (l.map encN).flatten = l.map fun x : Nat => TV.int .i64 x
  | [] => rfl
  | x :: l => by simp only [List.map_cons, List.flatten_cons, flat_encN l]; rfl
theorem RowOk.del {σ : Sto} {k c kr : Nat} {l : List Nat} (r : RowOk σ k c l) (h : k ≠ kr) (o : Option TObj) : RowOk ((σ.set kr none) ++ [o]) k c l := by
  obtain ⟨⟨ver, e⟩, h2⟩ := r
  refine ⟨⟨ver, ?_⟩, h2⟩
  have hk := Sto.lt e
  unfold Sto.at at e ⊢
  rw [List.getElem?_append_left (by simpa using hk), List.getElem?_set_ne (fun e => h e.symm)]; exact e
theorem reachedR_t (hF : F 13 = some f13) (h11 : F 11 = some f11) (h27 : F 27 = some f27) (p : PProg) (hp : OkP p) (N : Nat) (b : Nat) (σ : Sto) (hN : szEs (allE p) + p.funs.length + 10200 ≤ N) (h100 : p.funs.length ≤ 100) :
    ∃ out, Full p out ∧ tcall F O (N + 2) b 13 [.agg (encP p)] σ = some (.ret (.sl .fz (out.map encB)), σ) := by
  suffices hh : ∃ r σ', tcall F O (N + 2) b 13 [.agg (encP p)] σ = some (r, σ') ∧ ∃ out, r = .ret (.sl .fz (out.map encB)) ∧ σ' = σ ∧ Full p out by
    obtain ⟨r, σ', h1, out, rfl, rfl, h2⟩ := hh
    exact ⟨out, h2, h1⟩
  refine tcall_of hF ?_
  obtain ⟨σ1, vs, hc, hx1, hrefs⟩ := callsAllR_t (O := O) h11 h27 p hp N (List.length σ) σ (by omega) h100
  have hcap : p.funs.length ≤ 281474976710656 := by omega
  have hcap2 : p.funs.length ≤ 9223372036854775807 := by omega
  obtain ⟨ks, cs, hks⟩ := hrefs.ex
  have hrow := (hks p.funs.length (by omega)).1
  obtain ⟨I, hI⟩ : ∃ I : Nat → TAct → Sto → Prop, I = (fun i a σ' => a.df = [] ∧ Ext σ σ' ∧ a.tm.get 3 = some (.sl .fz vs) ∧ a.tm.get 6 = some (.int .i64 i) ∧ ∃ (rl : List Nat) (out : List Bool) (kr c : Nat), Work p rl i out ∧ RowOk σ' kr c rl ∧ a.tm.get 5 = some (.ref kr 0 1 rl.length c) ∧ a.tm.get 4 = some (.sl (.own 4 1) (out.map encB)) ∧
      ∀ j, j < p.funs.length → RowOk σ' (ks j) (cs j) (rowAt p j) ∧ ks j < kr ∧ σ.length ≤ kr) := ⟨_, rfl⟩
  obtain ⟨R, hR⟩ : ∃ R : TEx → TAct → Sto → Prop, R = (fun ex a σ' => ex = .exit 0 ∧ a.df = [] ∧ Ext σ σ' ∧ ∃ out : List Bool, Full p out ∧ a.tm.get 4 = some (.sl (.own 4 1) (out.map encB))) := ⟨_, rfl⟩
  rw [encP_def] at hc
  simp [x13, encP_def, encE_def, hc, hcap, hcap2, rep_enc, hrow]
  refine tw_loopB I 10100 R ?_ (by omega) ?_ ?_ ?_
  · rw [hI]
    refine ⟨rfl, hx1, by simp, by simp, rowAt p p.funs.length, List.replicate p.funs.length false, ks p.funs.length, cs p.funs.length, Work.start p, (hks _ (by omega)).2.1, by simp, by simp [encB], fun j hj => ⟨(hks j (by omega)).2.1, (hks p.funs.length (by omega)).2.2.2 j hj, (hks _ (by omega)).2.2.1⟩⟩
  · rw [hI]
    rintro i a σ2 ⟨_, _, _, _, rl, out, kr, c, w, _⟩
    have := w.small h100
    have := w.le
    omega
  · rw [hI]
    rintro i ⟨tm, df, clk⟩ σ2 ⟨rfl, hx, g3, g6, rl, out, kr, c, w, ⟨⟨ver, hat⟩, hc2⟩, g5, g4, hrows⟩
    rw [← hI]
    have hsm := w.small h100
    have hw : IntKind.i64.wrap ((i : Int) + 1) = ((i + 1 : Nat) : Int) := by have := w.le; rw [wrap_in] <;> omega
    by_cases hi : i < rl.length
    · have hx0 : rl[i]? = some rl[i] := List.getElem?_eq_getElem hi
      have hlt : rl[i] < p.funs.length := w.lt _ (List.getElem_mem hi)
      have hlo : rl[i] < out.length := by rw [w.len]; exact hlt
      have hoj : (out.map encB)[rl[i]]? = some (encB out[rl[i]]) := by simp [hlo]
      cases hb : out[rl[i]] with
      | true =>
        rw [hb] at hoj
        simp [g3, g4, g5, g6, hi, hw, hat, hoj, encB]
        rw [hI]
        exact ⟨rfl, hx, by simp [g3], by simp, rl, out, kr, c, w.skip hx0 (by rw [List.getElem?_eq_getElem hlo, hb]), ⟨⟨ver, hat⟩, hc2⟩, by simp [g5], by simp [g4], hrows⟩
      | false =>
        rw [hb] at hoj
        obtain ⟨⟨⟨verj, hatj⟩, hcj⟩, hkj, hkr⟩ := hrows rl[i] hlt
        have hvj := (hks rl[i] (by omega)).1
        have w2 := w.go hx0 (by rw [List.getElem?_eq_getElem hlo, hb])
        have hsm2 := w2.small h100
        have hset : (out.map encB).set rl[i] [TV.bool true] = (out.set rl[i] true).map encB := by rw [List.map_set]; rfl
        have hcu : c = capU + 1 := by
          rcases hc2 with h | ⟨_, h⟩
          · exact h
          · rw [h] at hi; simp at hi
        subst hcu
        have hchop := chop_row (rowAt p rl[i])
        cases hre : rowAt p rl[i] with
        | nil =>
          rw [hre] at hvj hatj hchop
          simp at hvj hatj hchop
          rw [hre, List.append_nil] at w2
          simp [g3, g4, g5, g6, hi, hw, hat, hoj, encB, hvj, hatj, hchop]
          rw [hI]
          exact ⟨rfl, hx, by simp [g3], by simp, rl, out.set rl[i] true, kr, capU + 1, w2, ⟨⟨ver, hat⟩, .inl rfl⟩, by simp [g5], by simp [encB], hrows⟩
        | cons y ys =>
          have hpos : 0 < (rowAt p rl[i]).length := by rw [hre]; simp
          have hemp : (rowAt p rl[i]).isEmpty = false := by rw [hre]; rfl
          have hne : rowAt p rl[i] ≠ [] := by rw [hre]; simp
          rw [← hre] at *
          have hs2 : rl.length + (rowAt p rl[i]).length ≤ 1073741824 := by rw [← List.length_append]; omega
          simp [g3, g4, g5, g6, hi, hw, hat, hoj, encB, hvj, hatj, hchop, hpos, hemp, hne, hs2, flat_encN, encN_len]
          rw [hI]
          refine ⟨rfl, (hx.set hkr _).app _, by simp [g3], by simp, rl ++ rowAt p rl[i], out.set rl[i] true, List.length σ2, capU + 1, w2, ⟨⟨0, by simp [Sto.at]⟩, .inl rfl⟩, by simp, by simp [encB], fun j hj => ?_⟩
          obtain ⟨q1, q2, q3⟩ := hrows j hj
          have hlt2 : ks j < List.length σ2 := by obtain ⟨⟨_, e⟩, _⟩ := q1; exact Sto.lt e
          exact ⟨q1.del (by omega) _, hlt2, hx.le⟩
    · have hie : rl.length = i := by have := w.le; omega
      subst hie
      simp [g3, g4, g5, g6]
      rw [hR]
      exact ⟨rfl, rfl, hx, out, w.full, by simp [g4]⟩
  · rw [hR]
    rintro ex ⟨tm, df, clk⟩ σ2 ⟨rfl, rfl, ⟨τ, rfl⟩, out, hf, g4⟩
    simp [g4, below_map _ encB (below_encB _) out]
    exact ⟨out, rfl, hf⟩
end Go.Xe.Ytjdiibhkdanbiaa
end
section
namespace Go.Xe.Ytjdiibhkdanbiaa
open Go Go.Xe Go.Xt
set_option linter.unusedVariables false
set_option linter.unusedSimpArgs false
def FT (f : FuncId) : Option TFun :=
  if f = 3 then some f3 else if f = 8 then some f8 else if f = 10 then some f10 else if f = 11 then some f11 else if f = 12 then some f12 else if f = 13 then some f13 else if f = 20 then some f20 else if f = 24 then some f24 else
  if f = 26 then some f26 else if f = 27 then some f27 else if f = 28 then some f28 else if f = 47 then some f47 else if f = 48 then some f48 else none
def OT (f : FuncId) (args : List TV) : Option TV :=
  match args with
  | [] => if f = 9 then some (.bool true) else none
  | _ => none
theorem teq_bb (σ : Sto) (a b : Bool) : teq σ .bool (.bool a) (.bool b) = some (a == b) := by unfold teq; rfl
theorem checkCalls_t (p : PProg) (hp : OkP p) (N : Nat) (hN : szEs (allE p) + szTs (allT p) + p.inputs.length + p.funs.length + p.funs.length + 11000 ≤ N) :
    ∃ σ', tcall FT OT (N + 4) 0 3 [.agg (encP p)] [] = some (.ret (.bool true), σ') := by
  have h9 : ∀ (b : Nat) (σ : Sto), tcall FT OT (N + 3) b 9 [] σ = some (.ret (.bool true), σ) := fun b σ => rfl
  suffices hh : ∃ r σ', tcall FT OT (N + 4) 0 3 [.agg (encP p)] [] = some (r, σ') ∧ r = .ret (.bool true) by
    obtain ⟨r, σ', h1, rfl⟩ := hh
    exact ⟨σ', h1⟩
  refine tcall_of (fn := f3) rfl ?_
  obtain ⟨r, h8, hr⟩ := fewProgram_t (F := FT) (O := OT) rfl rfl rfl rfl rfl (N + 1) p 0 [] 2000 hp (by omega) (by omega)
  rw [encP_def] at h8
  cases r with
  | false => simp [x3, encP_def, h8, h9]
  | true =>
    have h100 := hr rfl
    have hpl := hp.flen
    have h10 := callsAll_t (F := FT) (O := OT) rfl rfl p hp (N + 2) 0 [] (by omega) h100
    obtain ⟨σ1, vs, h11, hx1, hrefs⟩ := callsAllR_t (F := FT) (O := OT) rfl rfl p hp (N + 2) 0 [] (by omega) h100
    obtain ⟨out, hfull, h12⟩ := reached_t (F := FT) (O := OT) rfl rfl rfl rfl p hp (N + 1) 0 σ1 (by omega) h100
    obtain ⟨out', hfull', h13⟩ := reachedR_t (F := FT) (O := OT) rfl rfl rfl p hp (N + 1) 0 σ1 (by omega) h100
    have heq := hfull'.eq hfull
    subst heq
    have hol := hfull.1
    have hvl := hrefs.len
    obtain ⟨ks, cs, hks⟩ := hrefs.ex
    obtain ⟨m, hm⟩ : ∃ m, m = p.funs.length + 1 := ⟨_, rfl⟩
    have hm100 : m ≤ 101 := by omega
    rw [← hm] at h10 hks hvl
    have hrl := rows_len p m
    have hbs : ∀ k, k < out'.length → ∃ t, (out'.map encB)[k]? = some [.bool t] := fun k hk => ⟨out'[k], by simp [hk, encB]⟩
    have hbl : (out'.map encB).length = out'.length := by simp
    generalize out'.map encB = bs at h12 h13 hbs hbl
    rw [encP_def] at h10 h11 h12 h13
    simp [x3, encP_def, h8, h9, h10, h11, h12, h13, hvl, hrl, hbl]
    obtain ⟨I, hI⟩ : ∃ I : Nat → TAct → Sto → Prop, I = (fun i a σ' => a.df = [] ∧ σ' = σ1 ∧ a.tm.get 3 = some (.sl .fz (rowsT p m)) ∧ a.tm.get 4 = some (.sl .fz vs) ∧ a.tm.get 5 = some (.sl .fz bs) ∧ a.tm.get 6 = some (.sl .fz bs) ∧ a.tm.get 7 = some (.int .i64 i)) := ⟨_, rfl⟩
    obtain ⟨R, hR⟩ : ∃ R : TEx → TAct → Sto → Prop, R = (fun ex a σ' => ex = .exit 0 ∧ a.df = [] ∧ σ' = σ1 ∧ a.tm.get 5 = some (.sl .fz bs) ∧ a.tm.get 6 = some (.sl .fz bs)) := ⟨_, rfl⟩
    refine tw_loop I m R ?_ ?_ ?_ ?_ ?_
    · rw [hI]
      exact ⟨rfl, rfl, by simp, by simp, by simp, by simp, by simp⟩
    · omega
    · rw [hI]
      rintro i ⟨tm, df, clk⟩ σ2 hi ⟨rfl, rfl, g3, g4, g5, g6, g7⟩
      rw [← hI]
      have hw : IntKind.i64.wrap ((i : Int) + 1) = ((i + 1 : Nat) : Int) := by rw [wrap_in] <;> omega
      obtain ⟨q1, ⟨⟨ver, q2⟩, _⟩, _⟩ := hks i hi
      have q3 : (rowsT p m)[i]? = some (encRow (rowAt p i)) := rows_get hi
      have q4 := row_len p i
      have q5 : (rowsT p m)[i]'(by rw [hrl]; exact hi) = encRow (rowAt p i) := (List.getElem_eq_iff _).2 q3
      have q6 : vs[i]'(by rw [hvl]; exact hi) = [.ref (ks i) 0 1 (rowAt p i).length (cs i)] := (List.getElem_eq_iff _).2 q1
      obtain ⟨J, hJ⟩ : ∃ J : Nat → TAct → Sto → Prop, J = (fun k a σ' => a.df = [] ∧ σ' = σ2 ∧ a.tm.get 3 = some (.sl .fz (rowsT p m)) ∧ a.tm.get 4 = some (.sl .fz vs) ∧ a.tm.get 5 = some (.sl .fz bs) ∧ a.tm.get 6 = some (.sl .fz bs) ∧ a.tm.get 7 = some (.int .i64 i) ∧ a.tm.get 8 = some (.int .i64 k)) := ⟨_, rfl⟩
      obtain ⟨S, hS⟩ : ∃ S : TEx → TAct → Sto → Prop, S = (fun ex a σ' => ex = .exit 2 ∧ a.df = [] ∧ σ' = σ2 ∧ a.tm.get 3 = some (.sl .fz (rowsT p m)) ∧ a.tm.get 4 = some (.sl .fz vs) ∧ a.tm.get 5 = some (.sl .fz bs) ∧ a.tm.get 6 = some (.sl .fz bs) ∧ a.tm.get 7 = some (.int .i64 i)) := ⟨_, rfl⟩
      simp [g3, g4, g5, g6, g7, hi, hrl, hvl, q1, q3, q5, q6, encRow]
      refine tw_loop J (rowAt p i).length S ?_ ?_ ?_ ?_ ?_
      · rw [hJ]
        exact ⟨rfl, rfl, by simp [g3], by simp [g4], by simp [g5], by simp [g6], by simp [g7], by simp⟩
      · omega
      · rw [hJ]
        rintro k ⟨tm, df, clk⟩ σ3 hk ⟨rfl, rfl, g3, g4, g5, g6, g7, g8⟩
        rw [← hJ]
        have hw2 : IntKind.i64.wrap ((k : Int) + 1) = ((k + 1 : Nat) : Int) := by rw [wrap_in] <;> omega
        simp [g3, g4, g5, g6, g7, g8, hi, hrl, hvl, hk, q1, q2, q3, q5, q6, encRow, encN, hw2]
        rw [hJ]
        exact ⟨rfl, rfl, by simp [g3], by simp [g4], by simp [g5], by simp [g6], by simp [g7], by simp⟩
      · rw [hJ]
        rintro ⟨tm, df, clk⟩ σ3 ⟨rfl, rfl, g3, g4, g5, g6, g7, g8⟩
        simp [g3, g4, g5, g6, g7, g8, hi, hrl, hvl, q1, q2, q3, q5, q6, encRow]
        rw [hS]
        exact ⟨rfl, rfl, rfl, by simp [g3], by simp [g4], by simp [g5], by simp [g6], by simp [g7]⟩
      · rw [hS]
        rintro ex ⟨tm, df, clk⟩ σ3 ⟨rfl, rfl, rfl, g3, g4, g5, g6, g7⟩
        simp [g3, g4, g5, g6, g7, hw]
        rw [hI]
        exact ⟨rfl, rfl, by simp [g3], by simp [g4], by simp [g5], by simp [g6], by simp⟩
    · rw [hI]
      rintro ⟨tm, df, clk⟩ σ2 ⟨rfl, rfl, g3, g4, g5, g6, g7⟩
      simp [g3, g4, g5, g6, g7, hrl]
      rw [hR]
      exact ⟨rfl, rfl, rfl, by simp [g5], by simp [g6]⟩
    · rw [hR]
      rintro ex ⟨tm, df, clk⟩ σ2 ⟨rfl, rfl, rfl, g5, g6⟩
      simp [g5, g6]
      obtain ⟨J, hJ⟩ : ∃ J : Nat → TAct → Sto → Prop, J = (fun k a σ' => a.df = [] ∧ σ' = σ2 ∧ a.tm.get 5 = some (.sl .fz bs) ∧ a.tm.get 6 = some (.sl .fz bs) ∧ a.tm.get 9 = some (.int .i64 k)) := ⟨_, rfl⟩
      obtain ⟨S, hS⟩ : ∃ S : TEx → TAct → Sto → Prop, S = (fun ex a σ' => ex = .exit 4 ∧ a.df = [] ∧ σ' = σ2) := ⟨_, rfl⟩
      refine tw_loop J out'.length S ?_ ?_ ?_ ?_ ?_
      · rw [hJ]
        exact ⟨rfl, rfl, by simp [g5], by simp [g6], by simp⟩
      · omega
      · rw [hJ]
        rintro k ⟨tm, df, clk⟩ σ3 hk ⟨rfl, rfl, g5, g6, g9⟩
        rw [← hJ]
        have hw2 : IntKind.i64.wrap ((k : Int) + 1) = ((k + 1 : Nat) : Int) := by rw [wrap_in] <;> omega
        obtain ⟨t, hot⟩ := hbs k hk
        have hkl : k < bs.length := by omega
        have hoe : bs[k] = [.bool t] := (List.getElem_eq_iff _).2 hot
        cases t
        · simp [-teq, teq_bb, g5, g6, g9, hk, hbl, hot, hoe, hw2]
          rw [hJ]
          exact ⟨rfl, rfl, by simp [g5], by simp [g6], by simp⟩
        · simp [-teq, teq_bb, g5, g6, g9, hk, hbl, hot, hoe, hw2]
          rw [hJ]
          exact ⟨rfl, rfl, by simp [g5], by simp [g6], by simp⟩
      · rw [hJ]
        rintro ⟨tm, df, clk⟩ σ3 ⟨rfl, rfl, g5, g6, g9⟩
        simp [g5, g6, g9, hbl]
        rw [hS]
        exact ⟨rfl, rfl, rfl⟩
      · rw [hS]
        rintro ex ⟨tm, df, clk⟩ σ3 ⟨rfl, rfl, rfl⟩
        simp [h9]
end Go.Xe.Ytjdiibhkdanbiaa
end
section
namespace Go.Proofs
open Go.Shelf
def Try.lays137_ren : Go.Shelf.Ren := ⟨fun | 137 => 96 | 217 => 101 | 266 => 108 | n => n, fun | 9 => 9 | 5 => 5 | 3 => 3 | n => n, fun | n => n⟩
theorem Try.lays137 : Go.Proofs.Lays.n137 Try.prog Try.lays137_ren := {
  mixed := by kernel_rfl
  f137 := Try.func96.trans (congrArg some (by kernel_rfl))
  f217 := Try.func101.trans (congrArg some (by kernel_rfl))
  f266 := Try.func108.trans (congrArg some (by kernel_rfl))
  t3 := Try.underlying3
  a3 := Try.isAgg3
  z3 := Try.sizeOf3
  v3 := Try.zeroValue3
  t5 := Try.underlying5
  a5 := Try.isAgg5
  z5 := Try.sizeOf5
  v5 := Try.zeroValue5
  t9 := Try.underlying9
  a9 := Try.isAgg9
  z9 := Try.sizeOf9
  v9 := Try.zeroValue9 }
open Go.RowKit in
theorem Try.strings_IndexByte (s : ByteArray) (c : Int) (w : World) :
    Calls Try.prog 96 #[.string s, .int .u8 c] w fun e w' => e = .returned (.int .i64 (Lib.indexByte s.data.toList c.toNat.toUInt8)) ∧ w' = w := Any.strings_IndexByte Try.lays137 s c w
def Try.lays217_ren : Go.Shelf.Ren := ⟨fun | 217 => 101 | 266 => 108 | n => n, fun | 9 => 9 | 5 => 5 | 3 => 3 | n => n, fun | n => n⟩
theorem Try.lays217 : Go.Proofs.Lays.n217 Try.prog Try.lays217_ren := {
  mixed := by kernel_rfl
  f217 := Try.func101.trans (congrArg some (by kernel_rfl))
  f266 := Try.func108.trans (congrArg some (by kernel_rfl))
  t3 := Try.underlying3
  a3 := Try.isAgg3
  z3 := Try.sizeOf3
  v3 := Try.zeroValue3
  t5 := Try.underlying5
  a5 := Try.isAgg5
  z5 := Try.sizeOf5
  v5 := Try.zeroValue5
  t9 := Try.underlying9
  a9 := Try.isAgg9
  z9 := Try.sizeOf9
  v9 := Try.zeroValue9 }
open Go.RowKit Go.Lib in
theorem Try.stringslite_IndexByte (s : ByteArray) (c : Int) (w : World) :
    Calls Try.prog 101 #[.string s, .int .u8 c] w fun e w' => e = .returned (.int .i64 (Lib.indexByte s.data.toList c.toNat.toUInt8)) ∧ w' = w := Any.stringslite_IndexByte Try.lays217 s c w
def Try.lays224_ren : Go.Shelf.Ren := ⟨fun | 224 => 106 | n => n, fun | 3 => 3 | n => n, fun | n => n⟩
theorem Try.lays224 : Go.Proofs.Lays.n224 Try.prog Try.lays224_ren := {
  mixed := by kernel_rfl
  f224 := Try.func106.trans (congrArg some (by kernel_rfl))
  t3 := Try.underlying3
  a3 := Try.isAgg3
  z3 := Try.sizeOf3
  v3 := Try.zeroValue3 }
open Go.RowKit Go.Lib in
theorem Try.bytealg_Cutover (n : Int) (h0 : 0 ≤ n) (h1 : n < 4611686018427387904) (w : World) :
    Calls Try.prog 106 #[.int .i64 n] w fun e w' => e = .returned (.int .i64 ((n + 16) / 8)) ∧ w' = w := Any.bytealg_Cutover Try.lays224 n h0 h1 w
def Try.lays314_ren : Go.Shelf.Ren := ⟨fun | 314 => 109 | n => n, fun | 9 => 9 | 51 => 144 | 3 => 3 | 4 => 4 | 5 => 5 | 46 => 143 | n => n, fun | n => n⟩
theorem Try.lays314 : Go.Proofs.Lays.n314 Try.prog Try.lays314_ren := {
  mixed := by kernel_rfl
  f314 := Try.func109.trans (congrArg some (by kernel_rfl))
  t3 := Try.underlying3
  a3 := Try.isAgg3
  z3 := Try.sizeOf3
  v3 := Try.zeroValue3
  t4 := Try.underlying4
  a4 := Try.isAgg4
  z4 := Try.sizeOf4
  v4 := Try.zeroValue4
  t5 := Try.underlying5
  a5 := Try.isAgg5
  z5 := Try.sizeOf5
  v5 := Try.zeroValue5
  t9 := Try.underlying9
  a9 := Try.isAgg9
  z9 := Try.sizeOf9
  v9 := Try.zeroValue9
  t46 := Try.underlying143
  a46 := Try.isAgg143
  z46 := Try.sizeOf143
  v46 := Try.zeroValue143
  t51 := Try.underlying144
  a51 := Try.isAgg144
  z51 := Try.sizeOf144
  v51 := Try.zeroValue144 }
open Go.RowKit Go.Lib in
theorem Try.bytealg_hashStr (sep : ByteArray) (hs : sep.size < 4294967281) (w : World) :
    Calls Try.prog 109 #[.string sep] w fun e w' => e = .returned (.tuple #[.int .u32 (RK.H sep.data.toList % 4294967296), .int .u32 (16777619 ^ sep.size % 4294967296)]) ∧ w' = w := Any.bytealg_hashStr Try.lays314 sep hs w
def Try.lays267_ren : Go.Shelf.Ren := ⟨fun | 267 => 107 | 314 => 109 | n => n, fun | 9 => 9 | 3 => 3 | 146 => 145 | 51 => 144 | 4 => 4 | 5 => 5 | 46 => 143 | n => n, fun | n => n⟩
theorem Try.lays267 : Go.Proofs.Lays.n267 Try.prog Try.lays267_ren := {
  mixed := by kernel_rfl
  f267 := Try.func107.trans (congrArg some (by kernel_rfl))
  f314 := Try.func109.trans (congrArg some (by kernel_rfl))
  t3 := Try.underlying3
  a3 := Try.isAgg3
  z3 := Try.sizeOf3
  v3 := Try.zeroValue3
  t4 := Try.underlying4
  a4 := Try.isAgg4
  z4 := Try.sizeOf4
  v4 := Try.zeroValue4
  t5 := Try.underlying5
  a5 := Try.isAgg5
  z5 := Try.sizeOf5
  v5 := Try.zeroValue5
  t9 := Try.underlying9
  a9 := Try.isAgg9
  z9 := Try.sizeOf9
  v9 := Try.zeroValue9
  t46 := Try.underlying143
  a46 := Try.isAgg143
  z46 := Try.sizeOf143
  v46 := Try.zeroValue143
  t51 := Try.underlying144
  a51 := Try.isAgg144
  z51 := Try.sizeOf144
  v51 := Try.zeroValue144
  t146 := Try.underlying145
  a146 := Try.isAgg145
  z146 := Try.sizeOf145
  v146 := Try.zeroValue145 }
open Go.RowKit Go.Lib in
theorem Try.bytealg_IndexRabinKarp (s sep : ByteArray) (h1 : 1 ≤ sep.size) (h2 : sep.size ≤ s.size) (hs : s.size < 4294967281) (w : World) :
    Calls Try.prog 107 #[.string s, .string sep] w fun e w' => e = .returned (.int .i64 (Lib.index s.data.toList sep.data.toList)) ∧ w' = w := Any.bytealg_IndexRabinKarp Try.lays267 s sep h1 h2 hs w
def Try.lays219_ren : Go.Shelf.Ren := ⟨fun | 219 => 99 | 217 => 101 | 225 => 105 | 224 => 106 | 267 => 107 | 266 => 108 | 314 => 109 | n => n, fun | 9 => 9 | 3 => 3 | 4 => 4 | 5 => 5 | 46 => 143 | 146 => 145 | 51 => 144 | n => n, fun | 1 => 0 | n => n⟩
theorem Try.lays219 : Go.Proofs.Lays.n219 Try.prog Try.lays219_ren := {
  mixed := by kernel_rfl
  f217 := Try.func101.trans (congrArg some (by kernel_rfl))
  f219 := Try.func99.trans (congrArg some (by kernel_rfl))
  f224 := Try.func106.trans (congrArg some (by kernel_rfl))
  f225 := Try.func105.trans (congrArg some (by kernel_rfl))
  f266 := Try.func108.trans (congrArg some (by kernel_rfl))
  f267 := Try.func107.trans (congrArg some (by kernel_rfl))
  f314 := Try.func109.trans (congrArg some (by kernel_rfl))
  t3 := Try.underlying3
  a3 := Try.isAgg3
  z3 := Try.sizeOf3
  v3 := Try.zeroValue3
  t4 := Try.underlying4
  a4 := Try.isAgg4
  z4 := Try.sizeOf4
  v4 := Try.zeroValue4
  t5 := Try.underlying5
  a5 := Try.isAgg5
  z5 := Try.sizeOf5
  v5 := Try.zeroValue5
  t9 := Try.underlying9
  a9 := Try.isAgg9
  z9 := Try.sizeOf9
  v9 := Try.zeroValue9
  t46 := Try.underlying143
  a46 := Try.isAgg143
  z46 := Try.sizeOf143
  v46 := Try.zeroValue143
  t51 := Try.underlying144
  a51 := Try.isAgg144
  z51 := Try.sizeOf144
  v51 := Try.zeroValue144
  t146 := Try.underlying145
  a146 := Try.isAgg145
  z146 := Try.sizeOf145
  v146 := Try.zeroValue145
  g1 := by kernel_rfl }
open Go.RowKit Go.Lib in
theorem Try.stringslite_Index_one (s : ByteArray) (c : UInt8) (w : World) :
    Calls Try.prog 99 #[.string s, .string ⟨#[c]⟩] w fun e w' => e = .returned (.int .i64 (Lib.indexByte s.data.toList c)) ∧ w' = w := Any.stringslite_Index_one Try.lays219 s c w
open Go.RowKit Go.Lib in
theorem Try.stringslite_Index (s sub : ByteArray) (m : Int) (w : World) (hs : s.size < 4294967281) (hm : w.cell? ⟨0, 0, none⟩ = some (.int .i64 m)) :
    Calls Try.prog 99 #[.string s, .string sub] w fun e w' => e = .returned (.int .i64 (Lib.index s.data.toList sub.data.toList)) ∧ w' = w := Any.stringslite_Index Try.lays219 s sub m w hs hm
def Try.lays143_ren : Go.Shelf.Ren := ⟨fun | 143 => 94 | 219 => 99 | 217 => 101 | 225 => 105 | 224 => 106 | 267 => 107 | 266 => 108 | 314 => 109 | n => n, fun | 9 => 9 | 3 => 3 | 4 => 4 | 5 => 5 | 46 => 143 | 146 => 145 | 51 => 144 | n => n, fun | 1 => 0 | n => n⟩
theorem Try.lays143 : Go.Proofs.Lays.n143 Try.prog Try.lays143_ren := {
  mixed := by kernel_rfl
  f143 := Try.func94.trans (congrArg some (by kernel_rfl))
  f217 := Try.func101.trans (congrArg some (by kernel_rfl))
  f219 := Try.func99.trans (congrArg some (by kernel_rfl))
  f224 := Try.func106.trans (congrArg some (by kernel_rfl))
  f225 := Try.func105.trans (congrArg some (by kernel_rfl))
  f266 := Try.func108.trans (congrArg some (by kernel_rfl))
  f267 := Try.func107.trans (congrArg some (by kernel_rfl))
  f314 := Try.func109.trans (congrArg some (by kernel_rfl))
  t3 := Try.underlying3
  a3 := Try.isAgg3
  z3 := Try.sizeOf3
  v3 := Try.zeroValue3
  t4 := Try.underlying4
  a4 := Try.isAgg4
  z4 := Try.sizeOf4
  v4 := Try.zeroValue4
  t5 := Try.underlying5
  a5 := Try.isAgg5
  z5 := Try.sizeOf5
  v5 := Try.zeroValue5
  t9 := Try.underlying9
  a9 := Try.isAgg9
  z9 := Try.sizeOf9
  v9 := Try.zeroValue9
  t46 := Try.underlying143
  a46 := Try.isAgg143
  z46 := Try.sizeOf143
  v46 := Try.zeroValue143
  t51 := Try.underlying144
  a51 := Try.isAgg144
  z51 := Try.sizeOf144
  v51 := Try.zeroValue144
  t146 := Try.underlying145
  a146 := Try.isAgg145
  z146 := Try.sizeOf145
  v146 := Try.zeroValue145
  g1 := by kernel_rfl }
open Go.RowKit Go.Lib in
theorem Try.strings_Index_one (s : ByteArray) (c : UInt8) (w : World) :
    Calls Try.prog 94 #[.string s, .string ⟨#[c]⟩] w fun e w' => e = .returned (.int .i64 (Lib.indexByte s.data.toList c)) ∧ w' = w := Any.strings_Index_one Try.lays143 s c w
open Go.RowKit Go.Lib in
theorem Try.strings_Index (s sub : ByteArray) (m : Int) (w : World) (hs : s.size < 4294967281) (hm : w.cell? ⟨0, 0, none⟩ = some (.int .i64 m)) :
    Calls Try.prog 94 #[.string s, .string sub] w fun e w' => e = .returned (.int .i64 (Lib.index s.data.toList sub.data.toList)) ∧ w' = w := Any.strings_Index Try.lays143 s sub m w hs hm
def Try.lays144_ren : Go.Shelf.Ren := ⟨fun | 144 => 88 | 143 => 94 | 219 => 99 | 217 => 101 | 225 => 105 | 224 => 106 | 267 => 107 | 266 => 108 | 314 => 109 | n => n, fun | 9 => 9 | 4 => 4 | 3 => 3 | 5 => 5 | 46 => 143 | 146 => 145 | 51 => 144 | n => n, fun | 1 => 0 | n => n⟩
theorem Try.lays144 : Go.Proofs.Lays.n144 Try.prog Try.lays144_ren := {
  mixed := by kernel_rfl
  f143 := Try.func94.trans (congrArg some (by kernel_rfl))
  f144 := Try.func88.trans (congrArg some (by kernel_rfl))
  f217 := Try.func101.trans (congrArg some (by kernel_rfl))
  f219 := Try.func99.trans (congrArg some (by kernel_rfl))
  f224 := Try.func106.trans (congrArg some (by kernel_rfl))
  f225 := Try.func105.trans (congrArg some (by kernel_rfl))
  f266 := Try.func108.trans (congrArg some (by kernel_rfl))
  f267 := Try.func107.trans (congrArg some (by kernel_rfl))
  f314 := Try.func109.trans (congrArg some (by kernel_rfl))
  t3 := Try.underlying3
  a3 := Try.isAgg3
  z3 := Try.sizeOf3
  v3 := Try.zeroValue3
  t4 := Try.underlying4
  a4 := Try.isAgg4
  z4 := Try.sizeOf4
  v4 := Try.zeroValue4
  t5 := Try.underlying5
  a5 := Try.isAgg5
  z5 := Try.sizeOf5
  v5 := Try.zeroValue5
  t9 := Try.underlying9
  a9 := Try.isAgg9
  z9 := Try.sizeOf9
  v9 := Try.zeroValue9
  t46 := Try.underlying143
  a46 := Try.isAgg143
  z46 := Try.sizeOf143
  v46 := Try.zeroValue143
  t51 := Try.underlying144
  a51 := Try.isAgg144
  z51 := Try.sizeOf144
  v51 := Try.zeroValue144
  t146 := Try.underlying145
  a146 := Try.isAgg145
  z146 := Try.sizeOf145
  v146 := Try.zeroValue145
  g1 := by kernel_rfl }
open Go.RowKit Go.Lib in
theorem Try.strings_Contains_one (s : ByteArray) (c : UInt8) (w : World) :
    Calls Try.prog 88 #[.string s, .string ⟨#[c]⟩] w fun e w' => e = .returned (.bool (decide (0 ≤ Lib.indexByte s.data.toList c))) ∧ w' = w := Any.strings_Contains_one Try.lays144 s c w
open Go.RowKit Go.Lib in
theorem Try.strings_Contains (s sub : ByteArray) (m : Int) (w : World) (hs : s.size < 4294967281) (hm : w.cell? ⟨0, 0, none⟩ = some (.int .i64 m)) :
    Calls Try.prog 88 #[.string s, .string sub] w fun e w' => e = .returned (.bool (Lib.contains s.data.toList sub.data.toList)) ∧ w' = w := Any.strings_Contains Try.lays144 s sub m w hs hm
def Try.laysM219_ren : Go.Shelf.Ren := ⟨fun | 219 => 99 | 217 => 101 | 225 => 105 | 224 => 106 | 267 => 107 | 266 => 108 | 314 => 109 | n => n, fun | 9 => 9 | 3 => 3 | 4 => 4 | 5 => 5 | 46 => 143 | 146 => 145 | 51 => 144 | n => n, fun | 1 => 0 | n => n⟩
theorem Try.laysM219 : Go.Proofs.LaysM.n219 Try.prog Try.laysM219_ren := {
  mixed := by kernel_rfl
  f217 := Try.func101.trans (congrArg some (by kernel_rfl))
  f219 := Try.func99.trans (congrArg some (by kernel_rfl))
  f224 := Try.func106.trans (congrArg some (by kernel_rfl))
  f225 := Try.func105.trans (congrArg some (by kernel_rfl))
  f266 := Try.func108.trans (congrArg some (by kernel_rfl))
  f267 := Try.func107.trans (congrArg some (by kernel_rfl))
  f314 := Try.func109.trans (congrArg some (by kernel_rfl))
  t3 := Try.underlying3
  a3 := Try.isAgg3
  z3 := Try.sizeOf3
  v3 := Try.zeroValue3
  t4 := Try.underlying4
  a4 := Try.isAgg4
  z4 := Try.sizeOf4
  v4 := Try.zeroValue4
  t5 := Try.underlying5
  a5 := Try.isAgg5
  z5 := Try.sizeOf5
  v5 := Try.zeroValue5
  t9 := Try.underlying9
  a9 := Try.isAgg9
  z9 := Try.sizeOf9
  v9 := Try.zeroValue9
  t46 := Try.underlying143
  a46 := Try.isAgg143
  z46 := Try.sizeOf143
  v46 := Try.zeroValue143
  t51 := Try.underlying144
  a51 := Try.isAgg144
  z51 := Try.sizeOf144
  v51 := Try.zeroValue144
  t146 := Try.underlying145
  a146 := Try.isAgg145
  z146 := Try.sizeOf145
  v146 := Try.zeroValue145
  g1 := by kernel_rfl
  i3 := by kernel_rfl
  i4 := by kernel_rfl
  i5 := by kernel_rfl
  i9 := by kernel_rfl
  i46 := by kernel_rfl
  i51 := by kernel_rfl
  i146 := by kernel_rfl
  m1 := by kernel_rfl
  s1_3 := fun w h => Go.Proofs.cell_of_shapedOpen_int (zero := #[.int .i64 0]) (t := 3) h (of_decide_eq_true (by kernel_rfl)) (by kernel_rfl) rfl (by kernel_rfl) (by kernel_rfl) Try.underlying3 }
open Go.RowKit Go.Lib in
theorem Try.stringslite_Index_shaped (s sub : ByteArray) (w : World) (h : w.ShapedOpen Try.prog) (hs : s.size < 4294967281) :
    Calls Try.prog 99 #[.string s, .string sub] w fun e w' => e = .returned (.int .i64 (Lib.index s.data.toList sub.data.toList)) ∧ w' = w := Any.stringslite_Index_shaped Try.laysM219 s sub w h hs
def Try.laysM143_ren : Go.Shelf.Ren := ⟨fun | 143 => 94 | 219 => 99 | 217 => 101 | 225 => 105 | 224 => 106 | 267 => 107 | 266 => 108 | 314 => 109 | n => n, fun | 9 => 9 | 3 => 3 | 4 => 4 | 5 => 5 | 46 => 143 | 146 => 145 | 51 => 144 | n => n, fun | 1 => 0 | n => n⟩
theorem Try.laysM143 : Go.Proofs.LaysM.n143 Try.prog Try.laysM143_ren := {
  mixed := by kernel_rfl
  f143 := Try.func94.trans (congrArg some (by kernel_rfl))
  f217 := Try.func101.trans (congrArg some (by kernel_rfl))
  f219 := Try.func99.trans (congrArg some (by kernel_rfl))
  f224 := Try.func106.trans (congrArg some (by kernel_rfl))
  f225 := Try.func105.trans (congrArg some (by kernel_rfl))
  f266 := Try.func108.trans (congrArg some (by kernel_rfl))
  f267 := Try.func107.trans (congrArg some (by kernel_rfl))
  f314 := Try.func109.trans (congrArg some (by kernel_rfl))
  t3 := Try.underlying3
  a3 := Try.isAgg3
  z3 := Try.sizeOf3
  v3 := Try.zeroValue3
  t4 := Try.underlying4
  a4 := Try.isAgg4
  z4 := Try.sizeOf4
  v4 := Try.zeroValue4
  t5 := Try.underlying5
  a5 := Try.isAgg5
  z5 := Try.sizeOf5
  v5 := Try.zeroValue5
  t9 := Try.underlying9
  a9 := Try.isAgg9
  z9 := Try.sizeOf9
  v9 := Try.zeroValue9
  t46 := Try.underlying143
  a46 := Try.isAgg143
  z46 := Try.sizeOf143
  v46 := Try.zeroValue143
  t51 := Try.underlying144
  a51 := Try.isAgg144
  z51 := Try.sizeOf144
  v51 := Try.zeroValue144
  t146 := Try.underlying145
  a146 := Try.isAgg145
  z146 := Try.sizeOf145
  v146 := Try.zeroValue145
  g1 := by kernel_rfl
  i3 := by kernel_rfl
  i4 := by kernel_rfl
  i5 := by kernel_rfl
  i9 := by kernel_rfl
  i46 := by kernel_rfl
  i51 := by kernel_rfl
  i146 := by kernel_rfl
  m1 := by kernel_rfl
  s1_3 := fun w h => Go.Proofs.cell_of_shapedOpen_int (zero := #[.int .i64 0]) (t := 3) h (of_decide_eq_true (by kernel_rfl)) (by kernel_rfl) rfl (by kernel_rfl) (by kernel_rfl) Try.underlying3 }
open Go.RowKit Go.Lib in
theorem Try.strings_Index_shaped (s sub : ByteArray) (w : World) (h : w.ShapedOpen Try.prog) (hs : s.size < 4294967281) :
    Calls Try.prog 94 #[.string s, .string sub] w fun e w' => e = .returned (.int .i64 (Lib.index s.data.toList sub.data.toList)) ∧ w' = w := Any.strings_Index_shaped Try.laysM143 s sub w h hs
def Try.laysM144_ren : Go.Shelf.Ren := ⟨fun | 144 => 88 | 143 => 94 | 219 => 99 | 217 => 101 | 225 => 105 | 224 => 106 | 267 => 107 | 266 => 108 | 314 => 109 | n => n, fun | 9 => 9 | 4 => 4 | 3 => 3 | 5 => 5 | 46 => 143 | 146 => 145 | 51 => 144 | n => n, fun | 1 => 0 | n => n⟩
theorem Try.laysM144 : Go.Proofs.LaysM.n144 Try.prog Try.laysM144_ren := {
  mixed := by kernel_rfl
  f143 := Try.func94.trans (congrArg some (by kernel_rfl))
  f144 := Try.func88.trans (congrArg some (by kernel_rfl))
  f217 := Try.func101.trans (congrArg some (by kernel_rfl))
  f219 := Try.func99.trans (congrArg some (by kernel_rfl))
  f224 := Try.func106.trans (congrArg some (by kernel_rfl))
  f225 := Try.func105.trans (congrArg some (by kernel_rfl))
  f266 := Try.func108.trans (congrArg some (by kernel_rfl))
  f267 := Try.func107.trans (congrArg some (by kernel_rfl))
  f314 := Try.func109.trans (congrArg some (by kernel_rfl))
  t3 := Try.underlying3
  a3 := Try.isAgg3
  z3 := Try.sizeOf3
  v3 := Try.zeroValue3
  t4 := Try.underlying4
  a4 := Try.isAgg4
  z4 := Try.sizeOf4
  v4 := Try.zeroValue4
  t5 := Try.underlying5
  a5 := Try.isAgg5
  z5 := Try.sizeOf5
  v5 := Try.zeroValue5
  t9 := Try.underlying9
  a9 := Try.isAgg9
  z9 := Try.sizeOf9
  v9 := Try.zeroValue9
  t46 := Try.underlying143
  a46 := Try.isAgg143
  z46 := Try.sizeOf143
  v46 := Try.zeroValue143
  t51 := Try.underlying144
  a51 := Try.isAgg144
  z51 := Try.sizeOf144
  v51 := Try.zeroValue144
  t146 := Try.underlying145
  a146 := Try.isAgg145
  z146 := Try.sizeOf145
  v146 := Try.zeroValue145
  g1 := by kernel_rfl
  i3 := by kernel_rfl
  i4 := by kernel_rfl
  i5 := by kernel_rfl
  i9 := by kernel_rfl
  i46 := by kernel_rfl
  i51 := by kernel_rfl
  i146 := by kernel_rfl
  m1 := by kernel_rfl
  s1_3 := fun w h => Go.Proofs.cell_of_shapedOpen_int (zero := #[.int .i64 0]) (t := 3) h (of_decide_eq_true (by kernel_rfl)) (by kernel_rfl) rfl (by kernel_rfl) (by kernel_rfl) Try.underlying3 }
open Go.RowKit Go.Lib in
theorem Try.strings_Contains_shaped (s sub : ByteArray) (w : World) (h : w.ShapedOpen Try.prog) (hs : s.size < 4294967281) :
    Calls Try.prog 88 #[.string s, .string sub] w fun e w' => e = .returned (.bool (Lib.contains s.data.toList sub.data.toList)) ∧ w' = w := Any.strings_Contains_shaped Try.laysM144 s sub w h hs
end Go.Proofs
end
section
namespace Go.Xe.Ytjdiibhkdanbiaa
open Go Go.Xe Go.Proofs Go.RowKit
set_option linter.unusedVariables false
def orc (f : FuncId) (args : List Value) : Option Value :=
  match Nat.beq f 88, Nat.beq f 96, args with
  | true, _, [.string s, .string t] => match Nat.ble s.data.toList.length 4000000000 with
    | true => some (.bool (containsL t.data.toList s.data.toList))
    | false => none
  | _, true, [.string s, .int .u8 (.ofNat n)] => match Nat.blt n 256 with
    | true => some (.int .i64 (match findB n s.data.toList 0 with | some i => .ofNat i | none => .negSucc 0))
    | false => none
  | _, _, _ => none
noncomputable def F (f : FuncId) : Option XFun := fget (pathOf f) tab
theorem to88 : CallTo Try.prog 88 := ⟨Try.f88, Try.func88, by decide, rfl⟩
theorem to96 : CallTo Try.prog 96 := ⟨Try.f96, Try.func96, by decide, rfl⟩
theorem flat2 {u v : Value} (hu : ∀ φ x, VRel φ u x → x = u) (hv : ∀ φ x, VRel φ v x → x = v) (φ : Loc) (l : List Value) (h : VRels φ [u, v] l) : l = [u, v] := by
  cases h with
  | cons h1 h => cases h with
    | cons h2 h => cases h; rw [hu φ _ h1, hv φ _ h2]
theorem env : Env Try.prog glb F orc := by
  refine ⟨by kernel_rfl, fun f x h => ?_, fun f args v hF hO => ?_⟩
  · unfold F at h
    rw [fget_eq, ← tab_eq] at h
    rcases get_ofPairs tabL .nil f x h with h | h
    · exact tabL_ok.mem f x h
    · rw [Tri.get_nil] at h; cases h
  · unfold orc at hO
    split at hO
    · rename_i _ s t hf
      rw [beqNat] at hf
      obtain rfl := of_decide_eq_true hf
      split at hO
      · rename_i hle
        rw [bleNat] at hle
        have hle := of_decide_eq_true hle
        cases hO
        refine OOk.still to88 rfl rfl (fun φ l h => flat2 (fun φ x h => by cases h; rfl) (fun φ x h => by cases h; rfl) φ l h) fun W0 N0 φ g w hg r => ?_
        have hs : s.size < 4294967281 := by
          have : s.size = s.data.toList.length := by rw [Array.length_toList]; rfl
          omega
        have := Try.strings_Contains_shaped s t w (r.shaped hg) hs
        rw [← containsL_eq] at this
        exact this
      · cases hO
    · rename_i _ s n hf
      rw [beqNat] at hf
      obtain rfl := of_decide_eq_true hf
      split at hO
      · rename_i hlt
        rw [bltNat] at hlt
        have hlt := of_decide_eq_true hlt
        cases hO
        refine OOk.still to96 rfl rfl (fun φ l h => flat2 (fun φ x h => by cases h; rfl) (fun φ x h => by cases h; rfl) φ l h) fun W0 N0 φ g w hg r => ?_
        have := Try.strings_IndexByte s (Int.ofNat n) w
        have e : (match findB n s.data.toList 0 with | some i => Int.ofNat i | none => Int.negSucc 0) = Lib.indexByte s.data.toList (Int.ofNat n).toNat.toUInt8 := by
          have hge := Lib.indexByte_ge s.data.toList n.toUInt8
          rw [findB_eq n hlt]
          show _ = Lib.indexByte s.data.toList n.toUInt8
          by_cases h : Lib.indexByte s.data.toList n.toUInt8 = -1
          · rw [if_pos h, h]; rfl
          · rw [if_neg h]
            show ((0 + (Lib.indexByte s.data.toList n.toUInt8).toNat : Nat) : Int) = _
            omega
        rw [e]
        exact this
      · cases hO
    · cases hO
theorem awake_run : fcall F orc 100000 9 [] (fun _ => none) .nil 0 isTrue = true := by kernel_rfl
theorem awake (w : World) (h : w.ShapedOpen Try.prog) : Calls Try.prog 9 #[] w fun E w' => E = .returned (.bool true) ∧ Below w.heap.size w w' :=
  closed_true env (fun _ => rfl) awake_run ⟨rfl, h⟩
end Go.Xe.Ytjdiibhkdanbiaa
end
section
namespace Go.Xe
open Go Go.Proofs Go.RowKit
theorem OOk.grow {P : Program} {gl : Glb} {f : FuncId} {args : List Value} {v : Value} (hto : CallTo P f) (hv : plainV v = true) (hflat : ∀ φ args', VRels φ args args' → args' = args)
    (h : ∀ W0 N0 φ g w, gl.good W0 N0 → Rel W0 N0 φ g w → Calls P f args.toArray w fun E w' => E = .returned v ∧ Below w.heap.size w w') : OOk P gl f args v := by
  refine ⟨hto, fun W0 N0 φ s w args' hi ha => ?_⟩
  rw [hflat φ args' ha]
  refine Calls.mono (h W0 N0 φ s.get w hi.good hi.rel) ?_
  rintro E w' ⟨rfl, hb⟩
  have hr := hi.rel
  have hsz := hb.size
  refine ⟨v, rfl, VRel.plain φ v hv, ⟨⟨Nat.le_trans hr.n0 hsz, fun b hb' => ?_, hb.os.trans hr.os, hb.tape.trans hr.tape, hb.output.trans hr.output, fun i o hio => ?_, hr.inj⟩, hi.dm, hi.glob, hi.good⟩, ⟨Loc.le_refl φ, fun _ _ => rfl, hsz, fun b hb' _ => hb.block b hb', fun i b d t hg hφ => .inr ⟨i, d, t, hg, hφ⟩⟩⟩
  · rw [hb.block b (Nat.lt_of_lt_of_le hb' hr.n0)]; exact hr.fixed b hb'
  · obtain ⟨b, d, t, ob, h1, h2, h3, h4⟩ := hr.obj i o hio
    refine ⟨b, d, t, ob, h1, ?_, h3, h4⟩
    have : b < w.heap.size := by
      rcases Nat.lt_or_ge b w.heap.size with h | h
      · exact h
      · rw [Array.getElem?_eq_none h] at h2; cases h2
    rw [hb.block b this]; exact h2
end Go.Xe
namespace Go.Xe.Ytjdiibhkdanbiaa
open Go Go.Xe Go.Xt Go.Proofs Go.RowKit
def FX (f : FuncId) : Option XFun := (FT f).map TFun.fn
def OX (f : FuncId) (args : List Value) : Option Value :=
  match args with
  | [] => if f = 9 then some (.bool true) else none
  | _ => none
theorem fits : Fits FT OT FX OX := by
  refine ⟨fun f tf h => by unfold FX; rw [h]; rfl, fun f h => by unfold FX; rw [h]; rfl, fun f args v h g μ Z args' ha => ?_⟩
  unfold OT at h
  split at h
  · cases ha
    split at h
    · rename_i h9
      cases h
      exact ⟨.bool true, by unfold OX; simp [h9], .bool true⟩
    · cases h
  · cases h
theorem to9 : CallTo Try.prog 9 := ⟨Try.f9, Try.func9, by decide, rfl⟩
theorem envX : Env Try.prog glb FX OX := by
  refine ⟨by kernel_rfl, fun f x h => ?_, fun f args v hF hO => ?_⟩
  · unfold FX at h
    obtain ⟨tf, h2, rfl⟩ := Option.map_eq_some_iff.1 h
    clear h
    unfold FT at h2
    by_cases e3 : f = 3
    · subst e3; cases h2; exact ⟨_, Try.func3, c3⟩
    rw [if_neg e3] at h2
    by_cases e8 : f = 8
    · subst e8; cases h2; exact ⟨_, Try.func8, c8⟩
    rw [if_neg e8] at h2
    by_cases e10 : f = 10
    · subst e10; cases h2; exact ⟨_, Try.func10, c10⟩
    rw [if_neg e10] at h2
    by_cases e11 : f = 11
    · subst e11; cases h2; exact ⟨_, Try.func11, c11⟩
    rw [if_neg e11] at h2
    by_cases e12 : f = 12
    · subst e12; cases h2; exact ⟨_, Try.func12, c12⟩
    rw [if_neg e12] at h2
    by_cases e13 : f = 13
    · subst e13; cases h2; exact ⟨_, Try.func13, c13⟩
    rw [if_neg e13] at h2
    by_cases e20 : f = 20
    · subst e20; cases h2; exact ⟨_, Try.func20, c20⟩
    rw [if_neg e20] at h2
    by_cases e24 : f = 24
    · subst e24; cases h2; exact ⟨_, Try.func24, c24⟩
    rw [if_neg e24] at h2
    by_cases e26 : f = 26
    · subst e26; cases h2; exact ⟨_, Try.func26, c26⟩
    rw [if_neg e26] at h2
    by_cases e27 : f = 27
    · subst e27; cases h2; exact ⟨_, Try.func27, c27⟩
    rw [if_neg e27] at h2
    by_cases e28 : f = 28
    · subst e28; cases h2; exact ⟨_, Try.func28, c28⟩
    rw [if_neg e28] at h2
    by_cases e47 : f = 47
    · subst e47; cases h2; exact ⟨_, Try.func47, c47⟩
    rw [if_neg e47] at h2
    by_cases e48 : f = 48
    · subst e48; cases h2; exact ⟨_, Try.func48, c48⟩
    rw [if_neg e48] at h2
    cases h2
  · unfold OX at hO
    split at hO
    · split at hO
      · rename_i h9
        cases hO
        subst h9
        exact OOk.grow to9 rfl (fun φ l h => by cases h; rfl) fun W0 N0 φ g w hg r => awake w (r.shaped hg)
      · cases hO
    · cases hO
end Go.Xe.Ytjdiibhkdanbiaa
end
