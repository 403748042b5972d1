/-
  A part of the proof: it is imported by YtalckpkiplhbcaaGreatDoorTop. Nothing here is a claim of its own.
-/
import Derived.Test.YtalckpkiplhbcaaGreatDoorK5
import Derived.Shelf.Small.Strs
import Derived.Shelf.Strings.Search1
import Derived.Shelf.Strings.Search2
import Derived.Shelf.Strings.Search3
import Derived.Shelf.LaysM
import Derived.Shelf.Strings.Shaped
import Derived.Test.YtalckpkiplhbcaaGreatDoorProg
section
namespace Go.Xt
open Go Go.Xe
set_option linter.unusedVariables false
set_option linter.unusedSimpArgs false
section
variable {Pr : Nat → Prop} {μ μ' : List Nat} {w w' : Own} {a a' : TAct} {σ σ' : Sto} {ax ax' : Xe.Act} {s s' : AS}
def BodyOk (t : TAct → Sto → Option (TEx × TAct × Sto)) (x : Xe.Act → AS → Option (Xe.Ex × Xe.Act × AS)) : Prop :=
  ∀ (Pr : Nat → Prop) (μ : List Nat) (w : Own) (a : TAct) (σ : Sto) (ax : Xe.Act) (s : AS) (e : TEx) (a' : TAct) (σ' : Sto), t a σ = some (e, a', σ') → Rl Pr μ w a σ ax s → (∀ i, Pr i → i < s.next) → Res Pr μ w s e a' σ' (x ax s)
theorem tloop_sound {t : TAct → Sto → Option (TEx × TAct × Sto)} {x : Xe.Act → AS → Option (Xe.Ex × Xe.Act × AS)} (hb : BodyOk t x) : ∀ n, BodyOk (tloop t n) (xloop x n)
  | 0, Pr, μ, w, a, σ, ax, s, e, a', σ', h, r, hP => by simp only [tloop] at h; cases h
  | n + 1, Pr, μ, w, a, σ, ax, s, e, a', σ', h, r, hP => by
    simp only [tloop] at h
    simp only [xloop]
    cases ht : t a σ with
    | none => rw [ht] at h; cases h
    | some p =>
      obtain ⟨e1, a1, σ1⟩ := p
      rw [ht] at h
      obtain ⟨e', ax1, s1, μ1, w1, k1, k2, k3, k4⟩ := hb Pr μ w a σ ax s e1 a1 σ1 ht r hP
      rw [k1]
      cases e1 with
      | normal =>
        cases e' <;> first | (exact k4.elim) | skip
        exact (tloop_sound hb n Pr μ1 w1 a1 σ1 ax1 s1 e a' σ' h k2 (k3.hP hP)).after k3
      | exit k =>
        cases h
        cases e' <;> first | (exact k4.elim) | skip
        exact ⟨_, ax1, s1, μ1, w1, rfl, k2, k3, k4⟩
      | ret =>
        cases h
        cases e' <;> first | (exact k4.elim) | skip
        exact ⟨_, ax1, s1, μ1, w1, rfl, k2, k3, k4⟩
      | panic v =>
        cases h
        cases e' <;> first | (exact k4.elim) | skip
        exact ⟨_, ax1, s1, μ1, w1, rfl, k2, k3, k4⟩
theorem tcode_sound {C : TCallee} {X : Xe.Callee} (hC : CallOk C X) {an : Ann} {b n : Nat} : ∀ c : XCode, BodyOk (tcode an b C n c) (xcode X n c)
  | .skip, Pr, μ, w, a, σ, ax, s, e, a', σ', h, r, hP => by
    simp only [tcode] at h; cases h
    exact ⟨.normal, ax, s, μ, w, rfl, r, After.refl _ _ _, trivial⟩
  | .exit id, Pr, μ, w, a, σ, ax, s, e, a', σ', h, r, hP => by
    simp only [tcode] at h; cases h
    exact ⟨.exit id, ax, s, μ, w, rfl, r, After.refl _ _ _, rfl⟩
  | .ret, Pr, μ, w, a, σ, ax, s, e, a', σ', h, r, hP => by
    simp only [tcode] at h; cases h
    exact ⟨.ret, ax, s, μ, w, rfl, r, After.refl _ _ _, trivial⟩
  | .region ops, Pr, μ, w, a, σ, ax, s, e, a', σ', h, r, hP => by
    simp only [tcode] at h
    simp only [xcode]
    exact tops_sound hC ops h r hP
  | .regionD ops ps, Pr, μ, w, a, σ, ax, s, e, a', σ', h, r, hP => by
    simp only [tcode] at h
    simp only [xcode]
    split at h
    · rename_i a1 σ1 l hd
      split at h
      · rename_i hp
        cases h
        obtain ⟨ax', s', μ', w', tl, rl, q1, q2, q3, q4, q5⟩ := topsD_sound hC ops (lr := []) hd r hP
        simp only [List.reverse_nil, List.nil_append] at q1 q2
        subst q2
        simp only [q1, pairs_ok q3 ps hp]
        exact ⟨.normal, ax', s', μ', w', rfl, q4, q5, trivial⟩
      · cases h
    · cases h
  | .seq x y, Pr, μ, w, a, σ, ax, s, e, a', σ', h, r, hP => by
    have h1 := tcode_sound hC (an := an) (b := b) (n := n) x
    have h2 := tcode_sound hC (an := an) (b := b) (n := n) y
    simp only [tcode] at h
    simp only [xcode]
    cases ht : tcode an b C n x a σ with
    | none => rw [ht] at h; cases h
    | some p =>
      obtain ⟨e1, a1, σ1⟩ := p
      rw [ht] at h
      obtain ⟨e', ax1, s1, μ1, w1, k1, k2, k3, k4⟩ := h1 Pr μ w a σ ax s e1 a1 σ1 ht r hP
      rw [k1]
      cases e1 with
      | normal =>
        cases e' <;> first | (exact k4.elim) | skip
        exact (h2 Pr μ1 w1 a1 σ1 ax1 s1 e a' σ' h k2 (k3.hP hP)).after k3
      | exit k =>
        cases h
        cases e' <;> first | (exact k4.elim) | skip
        exact ⟨_, ax1, s1, μ1, w1, rfl, k2, k3, k4⟩
      | ret =>
        cases h
        cases e' <;> first | (exact k4.elim) | skip
        exact ⟨_, ax1, s1, μ1, w1, rfl, k2, k3, k4⟩
      | panic v =>
        cases h
        cases e' <;> first | (exact k4.elim) | skip
        exact ⟨_, ax1, s1, μ1, w1, rfl, k2, k3, k4⟩
  | .cond c x y, Pr, μ, w, a, σ, ax, s, e, a', σ', h, r, hP => by
    have h1 := tcode_sound hC (an := an) (b := b) (n := n) x
    have h2 := tcode_sound hC (an := an) (b := b) (n := n) y
    simp only [tcode] at h
    simp only [xcode]
    split at h
    · rename_i hc
      have := r.plainOf hc rfl
      revert this; generalize ax.ev c = z; intro this; cases this
      exact h1 Pr μ w a σ ax s e a' σ' h r hP
    · rename_i hc
      have := r.plainOf hc rfl
      revert this; generalize ax.ev c = z; intro this; cases this
      exact h2 Pr μ w a σ ax s e a' σ' h r hP
    · cases h
  | .block id c, Pr, μ, w, a, σ, ax, s, e, a', σ', h, r, hP => by
    have h1 := tcode_sound hC (an := an) (b := b) (n := n) c
    simp only [tcode] at h
    simp only [xcode]
    cases ht : tcode an b C n c a σ with
    | none => rw [ht] at h; cases h
    | some p =>
      obtain ⟨e1, a1, σ1⟩ := p
      rw [ht] at h
      obtain ⟨e', ax1, s1, μ1, w1, k1, k2, k3, k4⟩ := h1 Pr μ w a σ ax s e1 a1 σ1 ht r hP
      rw [k1]
      cases e1 with
      | normal =>
        cases h
        cases e' <;> first | (exact k4.elim) | skip
        exact ⟨_, ax1, s1, μ1, w1, rfl, k2, k3, k4⟩
      | exit k =>
        cases e' <;> first | (exact k4.elim) | skip
        have k4 : _ = k := k4
        subst k4
        simp only at h ⊢
        split at h
        · rename_i hb
          cases h
          simp only [hb]
          exact ⟨.normal, ax1, s1, μ1, w1, rfl, k2, k3, trivial⟩
        · rename_i hb
          cases h
          simp only [hb]
          exact ⟨_, ax1, s1, μ1, w1, rfl, k2, k3, rfl⟩
      | ret =>
        cases h
        cases e' <;> first | (exact k4.elim) | skip
        exact ⟨_, ax1, s1, μ1, w1, rfl, k2, k3, k4⟩
      | panic v =>
        cases h
        cases e' <;> first | (exact k4.elim) | skip
        exact ⟨_, ax1, s1, μ1, w1, rfl, k2, k3, k4⟩
  | .loop c, Pr, μ, w, a, σ, ax, s, e, a', σ', h, r, hP => by
    have h1 := tcode_sound hC (an := an) (b := b) (n := n) c
    simp only [tcode] at h
    simp only [xcode]
    exact tloop_sound h1 n Pr μ w a σ ax s e a' σ' h r hP
def RMd (g : Hp) (μ : List Nat) (Z : Nat → Prop) : TMode → Xe.Mode → Prop
  | .ret, .ret => True
  | .panicking v, .panicking v' => RV g μ Z v v'
  | .recovered, .recovered => True
  | _, _ => False
theorem RMd.mono {g g' : Hp} {Z Z' : Nat → Prop} (mo : Mo g μ Z g' μ' Z') : ∀ {m : TMode} {m' : Xe.Mode}, RMd g μ Z m m' → RMd g' μ' Z' m m'
  | .ret, .ret, _ => trivial
  | .panicking _, .panicking _, h => RV.mono mo h
  | .recovered, .recovered, _ => trivial
  | .ret, .panicking _, h => h.elim
  | .ret, .recovered, h => h.elim
  | .panicking _, .ret, h => h.elim
  | .panicking _, .recovered, h => h.elim
  | .recovered, .ret, h => h.elim
  | .recovered, .panicking _, h => h.elim
def ResR (Pr : Nat → Prop) (μ : List Nat) (w : Own) (s : AS) (e : TEx) (a : TAct) (σ : Sto) (m : TMode) (x : Option (Xe.Ex × Xe.Act × AS × Xe.Mode)) : Prop :=
  ∃ e' ax s' μ' w' m', x = some (e', ax, s', m') ∧ Rl Pr μ' w' a σ ax s' ∧ After w w' μ μ' s s' ∧ REx s'.get μ' (Zo w' Pr) e e' ∧ RMd s'.get μ' (Zo w' Pr) m m'
theorem ResR.after {w1 : Own} {μ1 : List Nat} {s1 : AS} {e : TEx} {m : TMode} {x : Option (Xe.Ex × Xe.Act × AS × Xe.Mode)} (h : After w w1 μ μ1 s s1) (k : ResR Pr μ1 w1 s1 e a σ m x) : ResR Pr μ w s e a σ m x := by
  obtain ⟨e', ax, s', μ', w', m', k1, k2, k3, k4⟩ := k
  exact ⟨e', ax, s', μ', w', m', k1, k2, h.trans k3, k4⟩
theorem xopsR_other {X : Xe.Callee} {dst : Option Nat} {op : XOp} {guard : Option (Nat × Bool)} {ops : List XOper} {m : Xe.Mode} (hw : wantedX ax guard = true) (h : op ≠ .recover) : xopsR X (⟨dst, op, guard⟩ :: ops) ax s m = (match xops X [⟨dst, op, guard⟩] ax s with
        | some (.normal, a, s) => xopsR X ops a s m
        | some (e, a, s) => some (e, a, s, m)
        | none => none) := by
  rw [xopsR.eq_def]
  simp only [hw]
  cases op <;> first | rfl | exact absurd rfl h
theorem topsR_sound {C : TCallee} {X : Xe.Callee} (hC : CallOk C X) {an : Ann} {b : Nat} : ∀ (ops : List XOper) {Pr : Nat → Prop} {μ : List Nat} {w : Own} {a : TAct} {σ : Sto} {ax : Xe.Act} {s : AS} {m : TMode} {mx : Xe.Mode} {e : TEx} {a' : TAct} {σ' : Sto} {m' : TMode},
    topsR an b C ops a σ m = some (e, a', σ', m') → Rl Pr μ w a σ ax s → (∀ i, Pr i → i < s.next) → RMd s.get μ (Zo w Pr) m mx → ResR Pr μ w s e a' σ' m' (xopsR X ops ax s mx)
  | [], Pr, μ, w, a, σ, ax, s, m, mx, e, a', σ', m', h, r, hP, hm => by
    simp only [topsR] at h
    cases h
    exact ⟨.normal, ax, s, μ, w, mx, rfl, r, After.refl _ _ _, trivial, hm⟩
  | ⟨dst, op, guard⟩ :: ops, Pr, μ, w, a, σ, ax, s, m, mx, e, a', σ', m', h, r, hP, hm => by
    have ih := @topsR_sound C X hC an b ops
    rw [topsR.eq_def] at h
    cases hg : wantedT a guard with
    | none => simp only [hg] at h; cases h
    | some c =>
      have hw := r.wanted hg
      cases c with
      | false =>
        rw [xopsR.eq_def]
        simp only [hg] at h
        simp only [hw]
        obtain ⟨w1, r1, h1⟩ := r.putD dst (undef_rv _ _)
        exact (ih h r1 (h1.hP hP) (hm.mono (h1.mo r.dm))).after h1
      | true =>
        simp only [hg] at h
        have other : op ≠ .recover → (match tops an b C [⟨dst, op, guard⟩] a σ with
            | some (.normal, a, σ) => topsR an b C ops a σ m
            | some (e, a, σ) => some (e, a, σ, m)
            | none => none) = some (e, a', σ', m') → ResR Pr μ w s e a' σ' m' (xopsR X (⟨dst, op, guard⟩ :: ops) ax s mx) := by
          intro hne h
          rw [xopsR_other hw hne]
          cases ht : tops an b C [⟨dst, op, guard⟩] a σ with
          | none => rw [ht] at h; cases h
          | some p =>
            obtain ⟨e1, a1, σ1⟩ := p
            rw [ht] at h
            obtain ⟨e', ax1, s1, μ1, w1, k1, k2, k3, k4⟩ := tops_sound hC _ ht r hP
            rw [k1]
            have hm1 := hm.mono (k3.mo r.dm)
            cases e1 with
            | normal =>
              cases e' <;> first | (exact k4.elim) | skip
              exact (ih h k2 (k3.hP hP) hm1).after k3
            | exit k =>
              cases h
              cases e' <;> first | (exact k4.elim) | skip
              exact ⟨_, ax1, s1, μ1, w1, mx, rfl, k2, k3, k4, hm1⟩
            | ret =>
              cases h
              cases e' <;> first | (exact k4.elim) | skip
              exact ⟨_, ax1, s1, μ1, w1, mx, rfl, k2, k3, k4, hm1⟩
            | panic v =>
              cases h
              cases e' <;> first | (exact k4.elim) | skip
              exact ⟨_, ax1, s1, μ1, w1, mx, rfl, k2, k3, k4, hm1⟩
        cases op
        case recover =>
          rw [xopsR.eq_def]
          simp only [hw]
          cases m with
          | panicking v =>
            cases mx <;> first | (exact hm.elim) | skip
            simp only at h ⊢
            obtain ⟨w1, r1, h1⟩ := r.putD dst (show RV s.get μ (Zo w Pr) v _ from hm)
            exact (ih (mx := .recovered) h r1 (h1.hP hP) trivial).after h1
          | ret =>
            cases mx <;> first | (exact hm.elim) | skip
            simp only at h ⊢
            obtain ⟨w1, r1, h1⟩ := r.putD dst (tv := .nili) (v := .nilIface) .nili
            exact (ih (mx := .ret) h r1 (h1.hP hP) trivial).after h1
          | recovered =>
            cases mx <;> first | (exact hm.elim) | skip
            simp only at h ⊢
            obtain ⟨w1, r1, h1⟩ := r.putD dst (tv := .nili) (v := .nilIface) .nili
            exact (ih (mx := .recovered) h r1 (h1.hP hP) trivial).after h1
        all_goals exact other (by simp) h
theorem tcodeR_sound {C : TCallee} {X : Xe.Callee} (hC : CallOk C X) {an : Ann} {b n : Nat} : ∀ (c : XCode) {Pr : Nat → Prop} {μ : List Nat} {w : Own} {a : TAct} {σ : Sto} {ax : Xe.Act} {s : AS} {m : TMode} {mx : Xe.Mode} {e : TEx} {a' : TAct} {σ' : Sto} {m' : TMode},
    tcodeR an b C n c a σ m = some (e, a', σ', m') → Rl Pr μ w a σ ax s → (∀ i, Pr i → i < s.next) → RMd s.get μ (Zo w Pr) m mx → ResR Pr μ w s e a' σ' m' (xcodeR X n c ax s mx) := by
  intro c
  have other : ∀ (c : XCode), (∀ Pr μ w a σ ax s m mx e a' σ' m', (match tcode an b C n c a σ with | some (e, a, σ) => some (e, a, σ, m) | none => none) = some (e, a', σ', m') → Rl Pr μ w a σ ax s → (∀ i, Pr i → i < s.next) → RMd s.get μ (Zo w Pr) m mx →
      ResR Pr μ w s e a' σ' m' (match xcode X n c ax s with | some (e, a, s) => some (e, a, s, mx) | none => none)) := by
    intro c Pr μ w a σ ax s m mx e a' σ' m' h r hP hm
    split at h
    · rename_i e1 a1 σ1 ht
      cases h
      obtain ⟨e', ax1, s1, μ1, w1, k1, k2, k3, k4⟩ := tcode_sound hC c Pr μ w a σ ax s _ _ _ ht r hP
      rw [k1]
      exact ⟨e', ax1, s1, μ1, w1, mx, rfl, k2, k3, k4, hm.mono (k3.mo r.dm)⟩
    · cases h
  induction c with
  | skip => intro Pr μ w a σ ax s m mx e a' σ' m' h r hP hm; rw [tcodeR.eq_def] at h; rw [xcodeR.eq_def]; simp only at h ⊢; exact other .skip _ _ _ _ _ _ _ _ _ _ _ _ _ h r hP hm
  | exit id => intro Pr μ w a σ ax s m mx e a' σ' m' h r hP hm; rw [tcodeR.eq_def] at h; rw [xcodeR.eq_def]; simp only at h ⊢; exact other (.exit id) _ _ _ _ _ _ _ _ _ _ _ _ _ h r hP hm
  | ret => intro Pr μ w a σ ax s m mx e a' σ' m' h r hP hm; rw [tcodeR.eq_def] at h; rw [xcodeR.eq_def]; simp only at h ⊢; exact other .ret _ _ _ _ _ _ _ _ _ _ _ _ _ h r hP hm
  | loop c ih => intro Pr μ w a σ ax s m mx e a' σ' m' h r hP hm; rw [tcodeR.eq_def] at h; rw [xcodeR.eq_def]; simp only at h ⊢; exact other (.loop c) _ _ _ _ _ _ _ _ _ _ _ _ _ h r hP hm
  | regionD ops ps => intro Pr μ w a σ ax s m mx e a' σ' m' h r hP hm; rw [tcodeR.eq_def] at h; rw [xcodeR.eq_def]; simp only at h ⊢; exact other (.regionD ops ps) _ _ _ _ _ _ _ _ _ _ _ _ _ h r hP hm
  | region ops =>
    intro Pr μ w a σ ax s m mx e a' σ' m' h r hP hm
    rw [tcodeR.eq_def] at h; rw [xcodeR.eq_def]; simp only at h ⊢
    exact topsR_sound hC ops h r hP hm
  | seq x y ihx ihy =>
    intro Pr μ w a σ ax s m mx e a' σ' m' h r hP hm
    rw [tcodeR.eq_def] at h; rw [xcodeR.eq_def]; simp only at h ⊢
    cases ht : tcodeR an b C n x a σ m with
    | none => rw [ht] at h; cases h
    | some p =>
      obtain ⟨e1, a1, σ1, m1⟩ := p
      rw [ht] at h
      obtain ⟨e', ax1, s1, μ1, w1, mx1, k1, k2, k3, k4, k5⟩ := ihx ht r hP hm
      rw [k1]
      cases e1 with
      | normal =>
        cases e' <;> first | (exact k4.elim) | skip
        exact (ihy h k2 (k3.hP hP) k5).after k3
      | exit k =>
        cases h
        cases e' <;> first | (exact k4.elim) | skip
        exact ⟨_, ax1, s1, μ1, w1, mx1, rfl, k2, k3, k4, k5⟩
      | ret =>
        cases h
        cases e' <;> first | (exact k4.elim) | skip
        exact ⟨_, ax1, s1, μ1, w1, mx1, rfl, k2, k3, k4, k5⟩
      | panic v =>
        cases h
        cases e' <;> first | (exact k4.elim) | skip
        exact ⟨_, ax1, s1, μ1, w1, mx1, rfl, k2, k3, k4, k5⟩
  | cond c x y ihx ihy =>
    intro Pr μ w a σ ax s m mx e a' σ' m' h r hP hm
    rw [tcodeR.eq_def] at h; rw [xcodeR.eq_def]; simp only at h ⊢
    split at h
    · rename_i hc
      have := r.plainOf hc rfl
      revert this; generalize ax.ev c = z; intro this; cases this
      exact ihx h r hP hm
    · rename_i hc
      have := r.plainOf hc rfl
      revert this; generalize ax.ev c = z; intro this; cases this
      exact ihy h r hP hm
    · cases h
  | block id c ih =>
    intro Pr μ w a σ ax s m mx e a' σ' m' h r hP hm
    rw [tcodeR.eq_def] at h; rw [xcodeR.eq_def]; simp only at h ⊢
    cases ht : tcodeR an b C n c a σ m with
    | none => rw [ht] at h; cases h
    | some p =>
      obtain ⟨e1, a1, σ1, m1⟩ := p
      rw [ht] at h
      obtain ⟨e', ax1, s1, μ1, w1, mx1, k1, k2, k3, k4, k5⟩ := ih ht r hP hm
      rw [k1]
      cases e1 with
      | normal =>
        cases h
        cases e' <;> first | (exact k4.elim) | skip
        exact ⟨_, ax1, s1, μ1, w1, mx1, rfl, k2, k3, k4, k5⟩
      | exit k =>
        cases e' <;> first | (exact k4.elim) | skip
        have k4 : _ = k := k4
        subst k4
        simp only at h ⊢
        split at h
        · rename_i hb
          cases h
          simp only [hb]
          exact ⟨.normal, ax1, s1, μ1, w1, mx1, rfl, k2, k3, trivial, k5⟩
        · rename_i hb
          cases h
          simp only [hb]
          exact ⟨_, ax1, s1, μ1, w1, mx1, rfl, k2, k3, rfl, k5⟩
      | ret =>
        cases h
        cases e' <;> first | (exact k4.elim) | skip
        exact ⟨_, ax1, s1, μ1, w1, mx1, rfl, k2, k3, k4, k5⟩
      | panic v =>
        cases h
        cases e' <;> first | (exact k4.elim) | skip
        exact ⟨_, ax1, s1, μ1, w1, mx1, rfl, k2, k3, k4, k5⟩
end
end Go.Xt
end
section
namespace Go.Xt
open Go Go.Xe
set_option linter.unusedVariables false
set_option linter.unusedSimpArgs false
theorem belows_iff {k : Nat} : ∀ {l : List TV}, below.belows k l = true ↔ ∀ v ∈ l, below k v = true
  | [] => by simp [below.belows]
  | v :: l => by simp [below.belows, belows_iff (l := l)]
theorem belowss_iff {k : Nat} : ∀ {l : List (List TV)}, below.belowss k l = true ↔ ∀ c ∈ l, below.belows k c = true
  | [] => by simp [below.belowss]
  | v :: l => by simp [below.belowss, belowss_iff (l := l)]
mutual
theorem below0 (k : Nat) : ∀ v : TV, below 0 v = true → below k v = true
  | .ptr i o, h => by simp [below, bltNat] at h
  | .ref i _ _ _ _, h => by simp [below, bltNat] at h
  | .map i, h => by simp [below, bltNat] at h
  | .elt ch _, h => by simp only [below] at h ⊢; exact belows0 k ch h
  | .sl _ chs, h => by simp only [below] at h ⊢; exact belowss0 k chs h
  | .func _ x y, h => by simp only [below, Bool.and_eq_true] at h ⊢; exact ⟨belows0 k x h.1, belows0 k y h.2⟩
  | .iface _ v, h => by simp only [below] at h ⊢; exact below0 k v h
  | .agg l, h => by simp only [below] at h ⊢; exact belows0 k l h
  | .tuple l, h => by simp only [below] at h ⊢; exact belows0 k l h
  | .int _ _, _ => rfl
  | .bool _, _ => rfl
  | .str _, _ => rfl
  | .nilp, _ => rfl
  | .via _ _, _ => rfl
  | .vel _ _ _ _, _ => rfl
  | .bx _ _ _, _ => rfl
  | .vpt _ _ _, _ => rfl
  | .nilm, _ => rfl
  | .nilf, _ => rfl
  | .nili, _ => rfl
  | .dead, _ => rfl
theorem belows0 (k : Nat) : ∀ l : List TV, below.belows 0 l = true → below.belows k l = true
  | [], _ => rfl
  | v :: l, h => by
    simp only [below.belows, Bool.and_eq_true] at h ⊢
    exact ⟨below0 k v h.1, belows0 k l h.2⟩
theorem belowss0 (k : Nat) : ∀ l : List (List TV), below.belowss 0 l = true → below.belowss k l = true
  | [], _ => rfl
  | v :: l, h => by
    simp only [below.belowss, Bool.and_eq_true] at h ⊢
    exact ⟨belows0 k v h.1, belowss0 k l h.2⟩
end
theorem below_frz (k : Nat) (v : TV) : below k (frz v) = below k v := by
  cases v <;> first | rfl | skip
  rename_i m c; cases m <;> rfl
def belowO (k : Nat) (o : TObj) : Bool :=
  match o.body with
  | .cells vs _ => below.belows k vs
  | .map es _ => es.all fun e => below k e.1 && below k e.2.1
  | .iter _ _ => true
structure Inv (k : Nat) (σ : Sto) : Prop where
  le : k ≤ σ.length
  obj : ∀ k' o, k' < k → σ.at k' = some o → belowO k o = true
section
variable {a a' : TAct} {σ σ' : Sto} {k b : Nat}
theorem Sto.at_set (σ : Sto) (i : Nat) (o : TObj) (j : Nat) (x : TObj) (h : Sto.at (σ.set i (some o)) j = some x) : (j = i ∧ x = o) ∨ σ.at j = some x := by
  unfold Sto.at at h ⊢
  rw [List.getElem?_set] at h
  by_cases e : i = j
  · subst e
    rw [if_pos rfl] at h
    split at h
    · rename_i y hy
      split at hy
      · cases hy; cases h; exact .inl ⟨rfl, rfl⟩
      · cases hy
    · cases h
  · rw [if_neg e] at h; exact .inr h
theorem Sto.at_app (σ : Sto) (o : TObj) (j : Nat) (x : TObj) (h : Sto.at (σ ++ [some o]) j = some x) : j = σ.length ∨ σ.at j = some x := by
  by_cases hj : j < σ.length
  · right; unfold Sto.at at h ⊢; rwa [List.getElem?_append_left hj] at h
  · left
    unfold Sto.at at h
    split at h
    · rename_i y hy
      have := (List.getElem?_eq_some_iff.1 hy).1
      simp at this; omega
    · cases h
theorem Inv.set (h : Inv k σ) (i : Nat) (o : TObj) (ho : i < k → belowO k o = true) : Inv k (σ.set i (some o)) :=
  ⟨by simp; exact h.le, fun k' x hk e => by
    rcases Sto.at_set σ i o k' x e with ⟨rfl, rfl⟩ | e
    · exact ho hk
    · exact h.obj k' x hk e⟩
theorem Inv.app (h : Inv k σ) (o : TObj) : Inv k (σ ++ [some o]) :=
  ⟨by simp; have := h.le; omega, fun k' x hk e => by
    rcases Sto.at_app σ o k' x e with rfl | e
    · have := h.le; omega
    · exact h.obj k' x hk e⟩
theorem belows_put {vs l : List TV} {o : Nat} (h : below.belows k vs = true) (hl : below.belows k l = true) : below.belows k (putAt vs o l) = true := by
  rw [belows_iff] at h hl ⊢
  intro v hv
  unfold putAt at hv
  rcases List.mem_append.1 hv with hv | hv
  · rcases List.mem_append.1 hv with hv | hv
    · exact h v (List.mem_of_mem_take hv)
    · exact hl v hv
  · exact h v (List.mem_of_mem_drop hv)
theorem belows_set {vs : List TV} {o : Nat} {v : TV} (h : below.belows k vs = true) (hl : below k v = true) : below.belows k (vs.set o v) = true := by
  rw [belows_iff] at h ⊢
  intro x hx
  rcases List.mem_or_eq_of_mem_set hx with hx | rfl
  · exact h x hx
  · exact hl
theorem belows_sub {vs l : List TV} (h : below.belows k vs = true) (hs : ∀ x ∈ l, x ∈ vs) : below.belows k l = true := by
  rw [belows_iff] at h ⊢
  exact fun x hx => h x (hs x hx)
theorem belows_frz {l : List TV} (h : below.belows k l = true) : below.belows k (l.map frz) = true := by
  rw [belows_iff] at h ⊢
  intro x hx
  obtain ⟨y, hy, rfl⟩ := List.mem_map.1 hx
  rw [below_frz]; exact h y hy
theorem base_below {i : Nat} {l : List TV} (h : baseOk b i l = true) (hk : i < k) (hb : k ≤ b) : below.belows k l = true := by
  unfold baseOk at h
  rw [bleNat, decide_eq_false (show ¬ b ≤ i by omega)] at h
  exact belows0 k l h
theorem Inv.del (h : Inv k σ) (i : Nat) : Inv k (σ.set i none) :=
  ⟨by simp; exact h.le, fun k' x hk e => h.obj k' x hk (by
    unfold Sto.at at e ⊢
    rw [List.getElem?_set] at e
    by_cases hi : i = k'
    · rw [if_pos hi] at e; split at e
      · rename_i y hy; split at hy <;> cases hy
      · cases e
    · rw [if_neg hi] at e; exact e)⟩
theorem plSet_inv (h : Inv k σ) {f : TV → TV} {p : Pl} (hf : ∀ i o v vs ver e, p = .cell i o → i < k → σ.at i = some ⟨ver, .cells vs e⟩ → vs[o]? = some v → below k v = true → below k (f v) = true) : Inv k (plSet a σ f p).2 := by
  cases p with
  | tmp t => exact h
  | tcell t o s =>
    simp only [plSet]
    split
    · split <;> exact h
    · exact h
  | cell i o =>
    simp only [plSet]
    split
    · rename_i ver vs e hat
      split
      · rename_i v hv
        refine h.set _ _ fun hk => ?_
        have := h.obj i _ hk hat
        simp only [belowO] at this ⊢
        exact belows_set this (hf i o v vs ver e rfl hk hat hv (belows_iff.1 this v (List.mem_of_getElem? hv)))
      · exact h
    · exact h
theorem tdo_inv {md : Nat} {op : XOp} {v : TV} (h : tdo md b a σ op = some (v, a', σ')) (hb : k ≤ b) (hi : Inv k σ) : Inv k σ' := by
  cases op <;> simp only [tdo, tVal, tNew] at h <;> try (first | (cases h; exact hi) | ((repeat' split at h) <;> first | (cases h; exact hi) | (cases h; done) | (cases h; exact hi.app _)))
  case move x =>
    simp only [tMove] at h
    (repeat' split at h) <;> first | (cases h; exact hi) | (cases h; done)
  case load1 p =>
    revert h; generalize a.at p = q; intro h
    cases q <;> simp only [tLoad1] at h <;> ((repeat' split at h) <;> first | (cases h; exact hi) | (cases h; done) | skip)
    · rename_i i o _ ver vs e hat _ v0 hv0 _ _ _
      cases h
      refine hi.set _ _ fun hk => ?_
      have := hi.obj i _ hk hat
      simp only [belowO] at this ⊢
      exact belows_set this rfl
    · rename_i i o _ ver vs e hat _ v0 hv0 _ _ _
      cases h
      refine hi.set _ _ fun hk => ?_
      have := hi.obj i _ hk hat
      simp only [belowO] at this ⊢
      exact belows_set this (by rw [below_frz]; exact belows_iff.1 this v0 (List.mem_of_getElem? hv0))
  case loadN n p =>
    revert h; generalize a.at p = q; intro h
    cases q <;> simp only [tLoadN] at h <;> ((repeat' split at h) <;> first | (cases h; exact hi) | (cases h; done) | skip)
    rename_i i o _ ver vs e hat _ _ _ _
    cases h
    refine hi.set _ _ fun hk => ?_
    have := hi.obj i _ hk hat
    simp only [belowO] at this ⊢
    exact belows_put this (belows_frz (belows_sub this fun x hx => List.mem_of_mem_drop (List.mem_of_mem_take hx)))
  case store n p x =>
    revert h; generalize a.at p = q; intro h
    cases q <;> simp only [tStore] at h <;> ((repeat' split at h) <;> first | (cases h; exact hi) | (cases h; done) | skip)
    · rename_i i o _ ver vs e hat _ hc
      cases h
      simp only [Bool.and_eq_true] at hc
      refine hi.set _ _ fun hk => ?_
      have := hi.obj i _ hk hat
      simp only [belowO] at this ⊢
      exact belows_put this (base_below hc.2 hk hb)
    · rename_i pp c j o _ hcc _ _ chs gv hp hgv _ ch hch _ hc
      cases h
      simp only [Bool.and_eq_true] at hc
      refine plSet_inv hi fun i o' v0 vs ver e hpp hk hat hv0 hbl => ?_
      subst hpp
      simp only [plGet, hat, hv0] at hp
      obtain ⟨_, e', sz, rfl⟩ := ownChs_some hp
      simp only [reSl, below] at hbl ⊢
      rw [belowss_iff] at hbl ⊢
      intro x hx
      rcases List.mem_or_eq_of_mem_set hx with hx | rfl
      · exact hbl x hx
      · exact belows_put (hbl ch (List.mem_of_getElem? hch)) (base_below hc.2 hk hb)
  case slice size x lo hi' mx =>
    revert h; generalize a.ev x = q; intro h
    cases q <;> simp only [tSlice] at h <;> ((repeat' split at h) <;> first | (cases h; exact hi) | (cases h; done) | skip)
    cases h
    exact plSet_inv hi fun i o' v0 vs ver e hpp hk hat hv0 hbl => by rw [below_frz]; exact hbl
  case indexAddr size x i =>
    split at h
    · revert h; generalize a.ev x = q; intro h
      cases q <;> (try (rename_i m c; cases m)) <;> simp only [tIndex] at h <;> (repeat' split at h) <;> first | (cases h; exact hi) | (cases h; done)
    · cases h
  case mapUpdate kk m x v =>
    split at h
    · rename_i r hr
      cases h
      simp only [tMapUpdate] at hr
      split at hr
      · rename_i i x1 v1 hm gx gv
        split at hr
        · rename_i ver es ck hat
          split at hr
          · rename_i hbo
            split at hr
            · cases hr
              refine hi.set _ _ fun hk => ?_
              have h1 := hi.obj i _ hk hat
              have h2 := base_below hbo hk hb
              simp only [belowO, below.belows, Bool.and_true, Bool.and_eq_true] at h1 h2 ⊢
              rw [List.all_eq_true] at h1 ⊢
              intro y hy
              obtain ⟨j, hj⟩ := List.getElem?_of_mem hy
              rw [List.getElem?_modify] at hj
              cases hz : es[j]? with
              | none => rw [hz] at hj; cases hj
              | some z =>
                rw [hz] at hj
                simp only [Option.map_eq_map, Option.map_some, Option.some.injEq] at hj
                have := h1 z (List.mem_of_getElem? hz)
                subst hj
                split
                · simp [h2.1, h2.2]
                · exact this
            · cases hr
              refine hi.set _ _ fun hk => ?_
              have h1 := hi.obj i _ hk hat
              have h2 := base_below hbo hk hb
              simp only [belowO, below.belows, Bool.and_true, Bool.and_eq_true] at h1 h2 ⊢
              rw [List.all_append, h1]
              simp [h2.1, h2.2]
            · cases hr
          · cases hr
        · cases hr
      · cases hr
    · cases h
  case append e size bytes x y =>
    split at h
    · unfold tAppend at h
      (repeat' split at h) <;> first | (cases h; exact hi) | (cases h; done) | (cases h; exact (hi.del _).app _) | (cases h; exact hi.app _)
    · cases h
  case appendZ e z bytes x n =>
    split at h
    · split at h
      · unfold tAppend at h
        (repeat' split at h) <;> first | (cases h; exact hi) | (cases h; done) | (cases h; exact (hi.del _).app _) | (cases h; exact hi.app _)
      · cases h
    · cases h
  case copy size x y =>
    split at h
    · unfold tCopy at h
      split at h
      · rename_i i o sz n c hx
        split at h
        · rename_i ver vs e hat
          split at h
          · rename_i hc
            simp only [Bool.and_eq_true] at hc
            split at h
            · cases h; exact hi
            · rename_i m hm
              cases h
              refine hi.set _ _ fun hk => ?_
              have h1 := hi.obj i _ hk hat
              have h2 := base_below hc.2 hk hb
              simp only [belowO] at h1 ⊢
              rw [hm] at h2
              exact belows_put h1 h2
          · cases h
        · cases h
      · cases h
    · cases h
end
end Go.Xt
end
section
namespace Go.Xt
open Go Go.Xe
set_option linter.unusedVariables false
set_option linter.unusedSimpArgs false
structure InvC (C : TCallee) : Prop where
  call : ∀ {b f : Nat} {args : List TV} {σ : Sto} {e : TEnd} {σ' : Sto} {k : Nat}, C b f args σ = some (e, σ') → k ≤ b → Inv k σ → Inv k σ'
section
variable {C : TCallee} {an : Ann} {b n k : Nat}
theorem tops_inv (hC : InvC C) (hb : k ≤ b) : ∀ (ops : List XOper) {a : TAct} {σ : Sto} {e : TEx} {a' : TAct} {σ' : Sto}, tops an b C ops a σ = some (e, a', σ') → Inv k σ → Inv k σ'
  | [], a, σ, e, a', σ', h, hi => by simp only [tops] at h; cases h; exact hi
  | ⟨dst, op, guard⟩ :: ops, a, σ, e, a', σ', h, hi => by
    have ih := @tops_inv hC hb ops
    rw [tops] at h
    cases hg : wantedT a guard with
    | none => simp only [hg] at h; cases h
    | some c =>
      cases c with
      | false => simp only [hg] at h; exact ih h hi
      | true =>
        simp only [hg] at h
        cases op
        case call f args =>
          simp only at h
          split at h
          · split at h
            · rename_i hc; exact ih h (hC.call hc hb hi)
            · rename_i hc; cases h; exact hC.call hc hb hi
            · cases h
          · cases h
        case callV x args =>
          simp only at h
          split at h
          · split at h
            · split at h
              · rename_i hc; exact ih h (hC.call hc hb hi)
              · rename_i hc; cases h; exact hC.call hc hb hi
              · cases h
            · cases h
          · cases h
        case panic x =>
          simp only at h
          split at h
          · cases h; exact hi
          · cases h
        case defer x args =>
          simp only at h
          split at h
          · split at h
            · exact ih h hi
            · cases h
          · cases h
        all_goals
          simp only at h
          split at h
          · rename_i hd; exact ih h (tdo_inv hd hb hi)
          · cases h
theorem topsD_inv (hC : InvC C) (hb : k ≤ b) : ∀ (ops : List XOper) {a : TAct} {σ : Sto} {l l' : List TRec} {a' : TAct} {σ' : Sto}, topsD an b C ops a σ l = some (a', σ', l') → Inv k σ → Inv k σ'
  | [], a, σ, l, l', a', σ', h, hi => by simp only [topsD] at h; cases h; exact hi
  | ⟨dst, op, guard⟩ :: ops, a, σ, l, l', a', σ', h, hi => by
    have ih := @topsD_inv hC hb ops
    rw [topsD] at h
    cases hg : wantedT a guard with
    | none => simp only [hg] at h; cases h
    | some c =>
      cases c with
      | false => simp only [hg] at h; exact ih h hi
      | true =>
        simp only [hg] at h
        cases op
        case call f args =>
          simp only at h
          split at h
          · split at h
            · rename_i hc; exact ih h (hC.call hc hb hi)
            · cases h
          · cases h
        case callV x args =>
          simp only at h
          split at h
          · split at h
            · split at h
              · rename_i hc; exact ih h (hC.call hc hb hi)
              · cases h
            · cases h
          · cases h
        all_goals
          simp only at h
          split at h
          · rename_i hd; exact ih h (tdo_inv hd hb hi)
          · cases h
theorem tloop_inv {t : TAct → Sto → Option (TEx × TAct × Sto)} (ht : ∀ a σ e a' σ', t a σ = some (e, a', σ') → Inv k σ → Inv k σ') : ∀ n a σ e a' σ', tloop t n a σ = some (e, a', σ') → Inv k σ → Inv k σ'
  | 0, a, σ, e, a', σ', h, hi => by simp only [tloop] at h; cases h
  | n + 1, a, σ, e, a', σ', h, hi => by
    simp only [tloop] at h
    split at h
    · rename_i h1; exact tloop_inv ht n _ _ _ _ _ h (ht _ _ _ _ _ h1 hi)
    · exact ht _ _ _ _ _ h hi
theorem tcode_inv (hC : InvC C) (hb : k ≤ b) : ∀ (c : XCode) (a : TAct) (σ : Sto) (e : TEx) (a' : TAct) (σ' : Sto), tcode an b C n c a σ = some (e, a', σ') → Inv k σ → Inv k σ'
  | .skip, a, σ, e, a', σ', h, hi => by simp only [tcode] at h; cases h; exact hi
  | .exit id, a, σ, e, a', σ', h, hi => by simp only [tcode] at h; cases h; exact hi
  | .ret, a, σ, e, a', σ', h, hi => by simp only [tcode] at h; cases h; exact hi
  | .region ops, a, σ, e, a', σ', h, hi => by simp only [tcode] at h; exact tops_inv hC hb ops h hi
  | .regionD ops ps, a, σ, e, a', σ', h, hi => by
    simp only [tcode] at h
    split at h
    · rename_i hd
      split at h
      · cases h; exact topsD_inv hC hb ops hd hi
      · cases h
    · cases h
  | .seq x y, a, σ, e, a', σ', h, hi => by
    simp only [tcode] at h
    split at h
    · rename_i h1; exact tcode_inv hC hb y _ _ _ _ _ h (tcode_inv hC hb x _ _ _ _ _ h1 hi)
    · exact tcode_inv hC hb x _ _ _ _ _ h hi
  | .cond c x y, a, σ, e, a', σ', h, hi => by
    simp only [tcode] at h
    split at h
    · exact tcode_inv hC hb x _ _ _ _ _ h hi
    · exact tcode_inv hC hb y _ _ _ _ _ h hi
    · cases h
  | .block id c, a, σ, e, a', σ', h, hi => by
    simp only [tcode] at h
    split at h
    · rename_i h1
      have := tcode_inv hC hb c _ _ _ _ _ h1 hi
      split at h <;> (cases h; exact this)
    · exact tcode_inv hC hb c _ _ _ _ _ h hi
  | .loop c, a, σ, e, a', σ', h, hi => by
    simp only [tcode] at h
    exact tloop_inv (fun a σ e a' σ' h hi => tcode_inv hC hb c a σ e a' σ' h hi) n _ _ _ _ _ h hi
theorem topsR_inv (hC : InvC C) (hb : k ≤ b) : ∀ (ops : List XOper) {a : TAct} {σ : Sto} {m : TMode} {e : TEx} {a' : TAct} {σ' : Sto} {m' : TMode}, topsR an b C ops a σ m = some (e, a', σ', m') → Inv k σ → Inv k σ'
  | [], a, σ, m, e, a', σ', m', h, hi => by simp only [topsR] at h; cases h; exact hi
  | ⟨dst, op, guard⟩ :: ops, a, σ, m, e, a', σ', m', h, hi => by
    have ih := @topsR_inv hC hb ops
    rw [topsR.eq_def] at h
    cases hg : wantedT a guard with
    | none => simp only [hg] at h; cases h
    | some c =>
      cases c with
      | false => simp only [hg] at h; exact ih h hi
      | true =>
        simp only [hg] at h
        cases op
        case recover =>
          simp only at h
          split at h
          · exact ih h hi
          · exact ih h hi
        all_goals
          simp only at h
          split at h
          · rename_i h1; exact ih h (tops_inv hC hb _ h1 hi)
          · rename_i h1; cases h; exact tops_inv hC hb _ h1 hi
          · cases h
theorem tcodeR_inv (hC : InvC C) (hb : k ≤ b) (c : XCode) : ∀ (a : TAct) (σ : Sto) (m : TMode) (e : TEx) (a' : TAct) (σ' : Sto) (m' : TMode), tcodeR an b C n c a σ m = some (e, a', σ', m') → Inv k σ → Inv k σ' := by
  induction c with
  | region ops => intro a σ m e a' σ' m' h hi; rw [tcodeR.eq_def] at h; simp only at h; exact topsR_inv hC hb ops h hi
  | seq x y ihx ihy =>
    intro a σ m e a' σ' m' h hi
    rw [tcodeR.eq_def] at h; simp only at h
    split at h
    · rename_i h1; exact ihy _ _ _ _ _ _ _ h (ihx _ _ _ _ _ _ _ h1 hi)
    · exact ihx _ _ _ _ _ _ _ h hi
  | cond c x y ihx ihy =>
    intro a σ m e a' σ' m' h hi
    rw [tcodeR.eq_def] at h; simp only at h
    split at h
    · exact ihx _ _ _ _ _ _ _ h hi
    · exact ihy _ _ _ _ _ _ _ h hi
    · cases h
  | block id c ih =>
    intro a σ m e a' σ' m' h hi
    rw [tcodeR.eq_def] at h; simp only at h
    split at h
    · rename_i h1
      have := ih _ _ _ _ _ _ _ h1 hi
      split at h <;> (cases h; exact this)
    · exact ih _ _ _ _ _ _ _ h hi
  | _ =>
    intro a σ m e a' σ' m' h hi
    rw [tcodeR.eq_def] at h; simp only at h
    split at h
    · rename_i h1; cases h; exact tcode_inv hC hb _ _ _ _ _ _ h1 hi
    · cases h
theorem tdefers_inv (hC : InvC C) {F : FuncId → Option TFun} (hb : k ≤ b) : ∀ (l : List TDfr) (σ : Sto) (m : TMode) (σ' : Sto) (m' : TMode), tdefers C F b n l σ m = some (σ', m') → Inv k σ → Inv k σ'
  | [], σ, m, σ', m', h, hi => by simp only [tdefers] at h; cases h; exact hi
  | d :: r, σ, m, σ', m', h, hi => by
    simp only [tdefers] at h
    split at h
    · split at h
      · rename_i h1
        have := tcodeR_inv hC hb _ _ _ _ _ _ _ _ h1 hi
        split at h
        · exact tdefers_inv hC hb r _ _ _ _ h this
        · exact tdefers_inv hC hb r _ _ _ _ h this
        · cases h
      · cases h
    · cases h
theorem Inv.take {σ σ' : Sto} (h : Inv k σ') (h0 : Inv k σ) : Inv k (σ'.take σ.length) := by
  refine ⟨by rw [List.length_take]; have := h.le; have := h0.le; omega, fun k' o hk e => h.obj k' o hk ?_⟩
  unfold Sto.at at e ⊢
  rw [List.getElem?_take] at e
  split at e
  · rename_i y hy
    split at hy
    · rw [hy]; exact e
    · cases hy
  · cases e
theorem tleave_inv {keep : Bool} {σ σ' σ2 : Sto} {v v' : TV} (h : tleave keep σ.length σ' v = some (v', σ2)) (hi : Inv k σ') (h0 : Inv k σ) : Inv k σ2 := by
  unfold tleave at h
  split at h
  · cases h; exact hi
  · split at h
    · cases h; exact hi.take h0
    · cases h
theorem tfinish_inv {a : TAct} {fn : TFun} {σ σ' σ2 : Sto} {m : TMode} {e : TEnd} (h : tfinish a fn σ.length σ' m = some (e, σ2)) (hi : Inv k σ') (h0 : Inv k σ) : Inv k σ2 := by
  unfold tfinish at h
  split at h
  · split at h
    · rename_i h1; cases h; exact tleave_inv h1 hi h0
    · cases h
  · split at h
    · split at h
      · split at h
        · rename_i h1; cases h; exact tleave_inv h1 hi h0
        · cases h
      · cases h
    · cases h
theorem tcall_inv {F : FuncId → Option TFun} {O : FuncId → List TV → Option TV} : ∀ n, InvC (tcall F O n)
  | 0 => ⟨fun h _ _ => by simp only [tcall] at h; cases h⟩
  | n + 1 => ⟨fun {b f args σ e σ' k} h hb hi => by
    have ih := @tcall_inv F O n
    simp only [tcall] at h
    split at h
    · rename_i fn hf
      have hb2 : k ≤ baseOf fn.keep b σ.length := by
        unfold baseOf; split
        · exact hb
        · exact hi.le
      split at h
      · rename_i h1
        have i1 := tcode_inv ih hb2 _ _ _ _ _ _ h1 hi
        split at h
        · rename_i h2; exact tfinish_inv h (tdefers_inv ih hb2 _ _ _ _ _ h2 i1) hi
        · cases h
      · rename_i h1
        have i1 := tcode_inv ih hb2 _ _ _ _ _ _ h1 hi
        split at h
        · rename_i h2; exact tfinish_inv h (tdefers_inv ih hb2 _ _ _ _ _ h2 i1) hi
        · cases h
      · rename_i h1
        have i1 := tcode_inv ih hb2 _ _ _ _ _ _ h1 hi
        split at h
        · rename_i h2; exact tfinish_inv h (tdefers_inv ih hb2 _ _ _ _ _ h2 i1) hi
        · cases h
      · cases h
    · split at h
      · cases h; exact hi
      · cases h⟩
end
end Go.Xt
end
section
namespace Go.Xt
open Go Go.Xe
set_option linter.unusedVariables false
set_option linter.unusedSimpArgs false
theorem belows_flat {k : Nat} : ∀ {chs : List (List TV)}, below.belows k chs.flatten = below.belowss k chs
  | [] => rfl
  | c :: chs => by
    have h : ∀ x y : List TV, below.belows k (x ++ y) = (below.belows k x && below.belows k y) := by
      intro x y
      induction x with
      | nil => simp [below.belows]
      | cons v x ih => simp [below.belows, ih, Bool.and_assoc]
    rw [List.flatten_cons, h, belows_flat]; rfl
theorem belows_append {k : Nat} {x y : List TV} : below.belows k (x ++ y) = (below.belows k x && below.belows k y) := by
  induction x with
  | nil => simp [below.belows]
  | cons v x ih => simp [below.belows, ih, Bool.and_assoc]
section
variable {g : Hp} {μ : List Nat} {Z Z' : Nat → Prop}
mutual
theorem RV.isBelow : ∀ {tv : TV} {v : Value}, RV g μ Z tv v → Xt.below μ.length tv = true
  | _, _, .int k n => rfl
  | _, _, .bool b => rfl
  | _, _, .str s => rfl
  | _, _, .nilp => rfl
  | _, _, .ptr e => by simp only [Xt.below, bltNat]; exact decide_eq_true (List.getElem?_eq_some_iff.1 e).1
  | _, _, .elt a b c d => by simp only [Xt.below]; exact d.areBelow
  | _, _, .fz a b c d e f m k => by simp only [Xt.below]; rw [← belows_flat]; exact k.areBelow
  | _, _, .fz0 b c => rfl
  | _, _, .nl => rfl
  | _, _, .ref e n => by simp only [Xt.below, bltNat]; exact decide_eq_true (List.getElem?_eq_some_iff.1 e).1
  | _, _, .nilm => rfl
  | _, _, .map e => by simp only [Xt.below, bltNat]; exact decide_eq_true (List.getElem?_eq_some_iff.1 e).1
  | _, _, .nilf => rfl
  | _, _, .func f a b => by simp only [Xt.below, a.areBelow, b.areBelow, Bool.and_self]
  | _, _, .nili => rfl
  | _, _, .iface t a => by simp only [Xt.below]; exact a.isBelow
  | _, _, .agg a => by simp only [Xt.below]; exact a.areBelow
  | _, _, .tuple a => by simp only [Xt.below]; exact a.areBelow
  | _, _, .dead v => rfl
theorem RVs.areBelow : ∀ {l : List TV} {l' : List Value}, RVs g μ Z l l' → below.belows μ.length l = true
  | _, _, .nil => rfl
  | _, _, .cons a b => by simp only [below.belows, a.isBelow, b.areBelow, Bool.and_self]
end
mutual
theorem RV.cut {ν : List Nat} (hz : ∀ i, Z i → Z' i) : ∀ {tv : TV} {v : Value}, RV g (μ ++ ν) Z tv v → Xt.below μ.length tv = true → RV g μ Z' tv v
  | _, _, .int k n, _ => .int k n
  | _, _, .bool b, _ => .bool b
  | _, _, .str s, _ => .str s
  | _, _, .nilp, _ => .nilp
  | _, _, .ptr e, h => by
    simp only [Xt.below, bltNat] at h
    rw [List.getElem?_append_left (of_decide_eq_true h)] at e
    exact .ptr e
  | _, _, .elt a b c d, h => by simp only [Xt.below] at h; exact .elt (hz _ a) b c (d.cut hz h)
  | _, _, .fz a b c d e f m k, h => by simp only [Xt.below] at h; rw [← belows_flat] at h; exact .fz (hz _ a) b c d e f m (k.cut hz h)
  | _, _, .fz0 b c, _ => .fz0 b c
  | _, _, .nl, _ => .nl
  | _, _, .ref e n, h => by
    simp only [Xt.below, bltNat] at h
    rw [List.getElem?_append_left (of_decide_eq_true h)] at e
    exact .ref e n
  | _, _, .nilm, _ => .nilm
  | _, _, .map e, h => by
    simp only [Xt.below, bltNat] at h
    rw [List.getElem?_append_left (of_decide_eq_true h)] at e
    exact .map e
  | _, _, .nilf, _ => .nilf
  | _, _, .func f a b, h => by simp only [Xt.below, Bool.and_eq_true] at h; exact .func f (a.cut hz h.1) (b.cut hz h.2)
  | _, _, .nili, _ => .nili
  | _, _, .iface t a, h => by simp only [Xt.below] at h; exact .iface t (a.cut hz h)
  | _, _, .agg a, h => by simp only [Xt.below] at h; exact .agg (a.cut hz h)
  | _, _, .tuple a, h => by simp only [Xt.below] at h; exact .tuple (a.cut hz h)
  | _, _, .dead v, _ => .dead v
theorem RVs.cut {ν : List Nat} (hz : ∀ i, Z i → Z' i) : ∀ {l : List TV} {l' : List Value}, RVs g (μ ++ ν) Z l l' → below.belows μ.length l = true → RVs g μ Z' l l'
  | _, _, .nil, _ => .nil
  | _, _, .cons a b, h => by simp only [below.belows, Bool.and_eq_true] at h; exact .cons (a.cut hz h.1) (b.cut hz h.2)
end
mutual
theorem RV.canon : ∀ {tv : TV} {v : Value}, RV g μ Z tv v → RV g μ Z (Xt.canon tv) v
  | _, _, .int k n => .int k n
  | _, _, .bool b => .bool b
  | _, _, .str s => .str s
  | _, _, .nilp => .nilp
  | _, _, .ptr e => .ptr e
  | _, _, .elt a b c d => .elt a b c d
  | _, _, .fz a b c d e f m k => .fz a b c d e f m k
  | _, _, .fz0 b c => .fz0 b c
  | _, _, .nl => .fz0 none 0
  | _, _, .ref e n => .ref e n
  | _, _, .nilm => .nilm
  | _, _, .map e => .map e
  | _, _, .nilf => .nilf
  | _, _, .func f a b => .func f a b
  | _, _, .nili => .nili
  | _, _, .iface t a => .iface t a
  | _, _, .agg a => .agg a.canon
  | _, _, .tuple a => .tuple a.canon
  | _, _, .dead v => .dead v
theorem RVs.canon : ∀ {l : List TV} {l' : List Value}, RVs g μ Z l l' → RVs g μ Z (canon.canons l) l'
  | _, _, .nil => .nil
  | _, _, .cons a b => .cons a.canon b.canon
end
theorem RO.isBelow {i : Nat} {tv : TV} {v : Value} (h : RO g μ Z i tv v) : Xt.below μ.length tv = true := by
  cases h with
  | mk a b c d e f k => simp only [Xt.below]; rw [← belows_flat]; exact k.areBelow
theorem RO.cut {ν : List Nat} (hz : ∀ i, Z i → Z' i) {i : Nat} {tv : TV} {v : Value} (h : RO g (μ ++ ν) Z i tv v) (hb : Xt.below μ.length tv = true) : RO g μ Z' i tv v := by
  cases h with
  | mk a b c d e f k => simp only [Xt.below] at hb; rw [← belows_flat] at hb; exact .mk a b c d e f (k.cut hz hb)
theorem RCs.areBelow {ow : Nat → Option Nat} {cs : List TV} {vs : List Value} (r : RCs g μ Z ow cs vs) : below.belows μ.length cs = true := by
  rw [belows_iff]
  intro v hv
  obtain ⟨j, hj⟩ := List.getElem?_of_mem hv
  obtain ⟨v', h1, h2⟩ := r.at hj
  revert h2
  cases ow j with
  | none => exact RV.isBelow
  | some i => exact RO.isBelow
end
section
variable {Pr : Nat → Prop} {μ μ' : List Nat} {w w' : Own} {a a' : TAct} {σ σ' : Sto} {ax ax' : Xe.Act} {s s' : AS}
theorem Rs.inv (r : Rs Pr μ w σ s) : Inv σ.length σ := by
  refine ⟨Nat.le_refl _, fun k o hk e => ?_⟩
  obtain ⟨i, b, h1, h2, h3⟩ := r.obj k o e
  rw [← r.len]
  unfold belowO
  revert h3
  cases o.body <;> cases b <;> intro h3 <;> simp only [RB] at h3 <;> first | (exact h3.elim) | skip
  · exact h3.2.2.areBelow
  · rw [List.all_eq_true]
    intro x hx
    obtain ⟨j, hj⟩ := List.getElem?_of_mem hx
    rename_i es ck es' ck'
    have hlt := (List.getElem?_eq_some_iff.1 hj).1
    have : es'[j]? = some es'[j] := List.getElem?_eq_getElem (by rw [h3.2.1]; exact hlt)
    obtain ⟨q1, q2, _⟩ := h3.2.2.1 j _ _ hj this
    simp only [q1.isBelow, q2.isBelow, Bool.and_self]
  · rfl
def cutO (k : Nat) (w : Own) : Own
  | .obj k' => if k' < k then w (.obj k') else none
  | .cell k' c => if k' < k then w (.cell k' c) else none
  | _ => none
theorem cutO_le (k : Nat) (w : Own) (p : Pc) (i : Nat) (h : cutO k w p = some i) : w p = some i := by
  cases p <;> simp only [cutO] at h <;> first | (cases h; done) | (split at h <;> first | exact h | cases h)
theorem cutO_only (k : Nat) (w : Own) : OnlyS (cutO k w) := ⟨fun _ => rfl, fun _ _ => rfl, fun _ => rfl⟩
theorem Rs.cutS {ν : List Nat} (r : Rs Pr (μ ++ ν) w σ s) (hi : Inv μ.length σ) : Rs Pr μ (cutO μ.length w) (σ.take μ.length) s := by
  have hsub := cutO_le μ.length w
  have hz : ∀ i, Zo w Pr i → Zo (cutO μ.length w) Pr i := fun i z => z.sub hsub
  have hat : ∀ k o, Sto.at (σ.take μ.length) k = some o → k < μ.length ∧ σ.at k = some o := fun k o e => by
    unfold Sto.at at e ⊢
    rw [List.getElem?_take] at e
    by_cases h : k < μ.length
    · rw [if_pos h] at e; exact ⟨h, e⟩
    · rw [if_neg h] at e; simp at e
  refine ⟨r.dm, by rw [List.length_take]; have := hi.le; omega, fun p q i e f => r.inj p q i (hsub p i e) (hsub q i f), fun p i e => r.pr p i (hsub p i e), fun p i e => r.live p i (hsub p i e), fun k => ?_, fun k c hk => ?_, fun k o e => ?_, trivial⟩
  · simp only [cutO]
    by_cases h : k < μ.length
    · rw [if_pos h, r.wobj, List.getElem?_append_left h]
    · rw [if_neg h, List.getElem?_eq_none (by omega)]
  · rw [List.length_take] at hk
    have := hi.le
    simp only [cutO]; rw [if_neg (by omega)]
  · obtain ⟨hk, e⟩ := hat k o e
    obtain ⟨i, b, h1, h2, h3⟩ := r.obj k o e
    rw [List.getElem?_append_left hk] at h1
    refine ⟨i, b, h1, h2, ?_⟩
    have hb := hi.obj k o hk e
    unfold belowO at hb
    revert h3 hb
    have hc : ∀ c, cutO μ.length w (.cell k c) = w (.cell k c) := fun c => by simp only [cutO, if_pos hk]
    cases o.body <;> cases b <;> intro h3 hb <;> simp only [RB] at h3 ⊢ <;> first | (exact h3.elim) | skip
    · refine ⟨h3.1, h3.2.1, h3.2.2.len, fun j tv v q1 q2 => ?_, fun j hj => (hc j).trans (h3.2.2.out j hj)⟩
      have q3 := h3.2.2.get j tv v q1 q2
      have q4 := belows_iff.1 hb tv (List.mem_of_getElem? q1)
      simp only [hc]
      revert q3
      cases w (.cell k j) with
      | none => exact fun q3 => RV.cut hz q3 q4
      | some i => exact fun q3 => RO.cut hz q3 q4
    · refine ⟨h3.1, h3.2.1, fun j x y q1 q2 => ?_, fun c => (hc c).trans (h3.2.2.2 c)⟩
      obtain ⟨p1, p2, p3⟩ := h3.2.2.1 j x y q1 q2
      have := List.all_eq_true.1 hb x (List.mem_of_getElem? q1)
      simp only [Bool.and_eq_true] at this
      exact ⟨p1.cut hz this.1, p2.cut hz this.2, p3⟩
    · exact ⟨h3.1, h3.2.1, fun c => (hc c).trans (h3.2.2 c)⟩
theorem ofList_get {α : Type} : ∀ (l : List α) (k : Nat) (t : Tri α) (j : Nat), (Tri.ofList l k t).get j = if k ≤ j ∧ j < k + l.length then l[j - k]? else t.get j
  | [], k, t, j => by
    simp only [Tri.ofList, List.length_nil, Nat.add_zero]
    rw [if_neg (by omega)]
  | x :: l, k, t, j => by
    rw [Tri.ofList, ofList_get l (k + 1) (t.set k x) j, Tri.get_set]
    simp only [List.length_cons]
    by_cases h1 : k = j
    · subst h1
      rw [if_neg (by omega), if_pos rfl, if_pos (by omega)]; simp
    · by_cases h2 : k + 1 ≤ j ∧ j < k + 1 + l.length
      · rw [if_pos h2, if_pos (by omega), show j - k = (j - (k + 1)) + 1 by omega]; simp
      · rw [if_neg h2, if_neg h1, if_neg (by omega)]
theorem Rs.enter (r : Rs Pr μ w σ s) (ho : OnlyS w) {args : List TV} {args' : List Value} (ha : RVs s.get μ (Zo w Pr) args args') : Rl Pr μ w (enterT args) σ (enterX args') s := by
  have hrv : ∀ t, RV s.get μ (Zo w Pr) ((enterT args).ev (.tmp t)) ((enterX args').ev (.tmp t)) := by
    intro t
    simp only [enterT, enterX, TAct.ev, Act.ev, ofList_get, ha.length]
    by_cases h : 0 ≤ t ∧ t < 0 + args.length
    · rw [if_pos h, if_pos h]
      have hlt : t - 0 < args.length := by have := h.2; rw [Nat.zero_add] at this; exact this
      obtain ⟨v', h1, h2⟩ := ha.get (List.getElem?_eq_getElem hlt)
      rw [List.getElem?_eq_getElem hlt, h1]
      exact h2
    · rw [if_neg h, if_neg h, Tri.get_nil, Tri.get_nil]
      exact undef_rv _ _
  refine ⟨r, fun t => .plain (hrv t) (ho.tmp t) (ho.tcell t), fun t => ?_, trivial⟩
  have := (hrv t).notown.2.2.1
  revert this
  generalize (enterT args).ev (.tmp t) = x
  intro this
  cases x <;> first | trivial | cases this
theorem sto_sub (w : Own) : ∀ p i, sto w p = some i → w p = some i := sto_le w
theorem Rs.out' (r : Rs Pr μ w σ s) : Rs Pr μ (sto w) σ s := r.sub (sto_le w) (fun _ => rfl) (fun _ _ => rfl)
theorem give_pl {v v' : TV} (h : give v = some v') (hp : pl v = true) : v' = v := by
  cases v <;> simp only [give] at h <;> first | (cases h; rfl) | (cases h; done) | (simp [pl] at hp; done) | skip
  rename_i m c; cases m <;> simp only [give] at h <;> first | (cases h; rfl) | (simp [pl] at hp)
theorem tres_rel (r : Rl Pr μ w a σ ax s) {x : XRes} {tv tv' : TV} (h : tres a σ x = some tv) (hg : give tv = some tv') : ∃ v, xres ax s x = some v ∧ RV s.get μ (Zo (sto w) Pr) tv' v := by
  have hmo := Mo.sub (g := s.get) (μ := μ) (Pr := Pr) (sto_le w)
  have hz : ∀ {p : Pc} {i : Nat}, w p = some i → (∀ k, p ≠ .obj k) → (∀ k c, p ≠ .cell k c) → Zo (sto w) Pr i := fun {p i} e h1 h2 => ⟨fun q f => by
    have := r.inj _ _ _ (sto_le w q i f) e
    subst this
    cases q <;> first | (cases f; done) | (exact h1 _ rfl) | (exact h2 _ _ rfl), r.pr _ _ e⟩
  cases x with
  | tmp t =>
    simp only [tres, Option.some.injEq] at h
    refine ⟨ax.ev (.tmp t), rfl, ?_⟩
    subst h
    cases ho : isOwn (a.ev (.tmp t)) with
    | true =>
      obtain ⟨i, h1, h2⟩ := r.ownOf ho
      obtain ⟨g1, g2⟩ := give_frz hg
      rw [g1]
      exact RO.frz (h2.mono hmo rfl) (hz h1 (by simp) (by simp))
    | false =>
      obtain ⟨g1, g2⟩ := give_frz hg
      rw [frz_same ho] at g1
      exact (r.plainOf g1.symm g2).mono hmo
  | cell1 t =>
    simp only [tres] at h
    simp only [xres]
    split at h
    · rename_i ser cs e hb
      obtain ⟨hbx, i, ver, vs, k1, k2, k3, k4⟩ := r.boxOf (boxAt_of hb)
      obtain ⟨v', q1, q2⟩ := k4.at h
      rw [k2]
      simp only [load_one k3 q1]
      refine ⟨v', rfl, ?_⟩
      cases ho : isOwn tv with
      | true =>
        obtain ⟨j, q3, q4⟩ := q2.ownOf ho
        obtain ⟨g1, g2⟩ := give_frz hg
        rw [g1]
        exact RO.frz (q4.mono hmo rfl) (hz q3 (by simp) (by simp))
      | false =>
        obtain ⟨_, q3⟩ := q2.plainOf ho
        rw [give_pl hg q3.pl]; exact q3.mono hmo
    · rename_i k o hp
      split at h
      · rename_i ver cs e hat
        split at h
        · rename_i v0 hv0
          split at h
          · cases h
          · rename_i ho
            cases h
            have h1 := r.plainOf hp rfl
            revert h1; generalize ax.ev (.tmp t) = y; intro h1; cases h1
            rename_i i hm
            obtain ⟨i', vs, k1, k2, k3⟩ := r.objOf hat
            rw [hm] at k1; cases k1
            obtain ⟨v', q1, q2⟩ := k3.at hv0
            simp only [load_one k2 q1]
            obtain ⟨_, q3⟩ := q2.plainOf ho
            exact ⟨v', rfl, by rw [give_pl hg q3.pl]; exact q3.mono hmo⟩
        · cases h
      · cases h
    · cases h
  | cellN t n =>
    simp only [tres] at h
    simp only [xres]
    split at h
    · rename_i ser cs e hb
      split at h
      · rename_i hle
        rw [bleNat] at hle
        have hle := of_decide_eq_true hle
        cases h
        obtain ⟨hbx, i, ver, vs, k1, k2, k3, k4⟩ := r.boxOf (boxAt_of hb)
        rw [k2]
        simp only [loadList_of k3 (o := 0) (n := n) (by rw [k4.len]; omega)]
        refine ⟨_, rfl, ?_⟩
        simp only [give] at hg
        cases hg
        have := frzRange (w' := sto w) (P := fun o => .tcell t o) (o := 0) (n := n) k4 r.inj r.pr (by omega) (sto_le w) (fun j _ _ => rfl)
        rw [List.drop_zero] at this
        exact .agg this
      · cases h
    · rename_i k o hp
      split at h
      · rename_i ver cs e hat
        split at h
        · rename_i hb
          simp only [Bool.and_eq_true] at hb
          cases h
          obtain ⟨b1, b2⟩ := hb
          rw [bleNat] at b1
          have b1 := of_decide_eq_true b1
          have h1 := r.plainOf hp rfl
          revert h1; generalize ax.ev (.tmp t) = y; intro h1; cases h1
          rename_i i hm
          obtain ⟨i', vs, k1, k2, k3⟩ := r.objOf hat
          rw [hm] at k1; cases k1
          simp only [loadList_of k2 (o := o) (n := n) (by rw [k3.len]; exact b1)]
          refine ⟨_, rfl, ?_⟩
          simp only [give] at hg
          cases hg
          exact .agg ((k3.plain b1 (by simpa using b2)).mono hmo)
        · cases h
      · cases h
    · cases h
theorem tresults_rel (r : Rl Pr μ w a σ ax s) : ∀ (l : List XRes) {vs vs' : List TV}, tresults a σ l = some vs → gives vs = some vs' → ∃ l', xresults ax s l = some l' ∧ RVs s.get μ (Zo (sto w) Pr) vs' l'
  | [], vs, vs', h, hg => by
    simp only [tresults] at h; cases h
    simp only [gives] at hg; cases hg
    exact ⟨[], rfl, .nil⟩
  | x :: l, vs, vs', h, hg => by
    simp only [tresults] at h
    split at h
    · rename_i v vs1 h1 h2
      cases h
      simp only [gives] at hg
      split at hg
      · rename_i v1 l1 g1 g2
        cases hg
        obtain ⟨v', q1, q2⟩ := tres_rel r h1 g1
        obtain ⟨l', q3, q4⟩ := tresults_rel r l h2 g2
        exact ⟨v' :: l', by simp only [xresults, q1, q3], .cons q2 q4⟩
      · cases hg
    · cases h
theorem tres_some (r : Rl Pr μ w a σ ax s) {x : XRes} {tv : TV} (h : tres a σ x = some tv) : ∃ v, xres ax s x = some v := by
  cases x with
  | tmp t => exact ⟨_, rfl⟩
  | cell1 t =>
    simp only [tres] at h
    simp only [xres]
    split at h
    · rename_i ser cs e hb
      obtain ⟨hbx, i, ver, vs, k1, k2, k3, k4⟩ := r.boxOf (boxAt_of hb)
      obtain ⟨v', q1, q2⟩ := k4.at h
      rw [k2]
      simp only [load_one k3 q1]
      exact ⟨v', rfl⟩
    · rename_i k o hp
      split at h
      · rename_i ver cs e hat
        split at h
        · rename_i v0 hv0
          have h1 := r.plainOf hp rfl
          revert h1; generalize ax.ev (.tmp t) = y; intro h1; cases h1
          rename_i i hm
          obtain ⟨i', vs, k1, k2, k3⟩ := r.objOf hat
          rw [hm] at k1; cases k1
          obtain ⟨v', q1, q2⟩ := k3.at hv0
          simp only [load_one k2 q1]
          exact ⟨v', rfl⟩
        · cases h
      · cases h
    · cases h
  | cellN t n =>
    simp only [tres] at h
    simp only [xres]
    split at h
    · rename_i ser cs e hb
      split at h
      · rename_i hle
        rw [bleNat] at hle
        have hle := of_decide_eq_true hle
        obtain ⟨hbx, i, ver, vs, k1, k2, k3, k4⟩ := r.boxOf (boxAt_of hb)
        rw [k2]
        simp only [loadList_of k3 (o := 0) (n := n) (by rw [k4.len]; omega)]
        exact ⟨_, rfl⟩
      · cases h
    · rename_i k o hp
      split at h
      · rename_i ver cs e hat
        split at h
        · rename_i hb
          simp only [Bool.and_eq_true] at hb
          obtain ⟨b1, b2⟩ := hb
          rw [bleNat] at b1
          have b1 := of_decide_eq_true b1
          have h1 := r.plainOf hp rfl
          revert h1; generalize ax.ev (.tmp t) = y; intro h1; cases h1
          rename_i i hm
          obtain ⟨i', vs, k1, k2, k3⟩ := r.objOf hat
          rw [hm] at k1; cases k1
          simp only [loadList_of k2 (o := o) (n := n) (by rw [k3.len]; exact b1)]
          exact ⟨_, rfl⟩
        · cases h
      · cases h
    · cases h
theorem tresults_some (r : Rl Pr μ w a σ ax s) : ∀ (l : List XRes) {vs : List TV}, tresults a σ l = some vs → ∃ l', xresults ax s l = some l'
  | [], vs, h => ⟨[], rfl⟩
  | x :: l, vs, h => by
    simp only [tresults] at h
    split at h
    · rename_i v vs1 h1 h2
      obtain ⟨v', q1⟩ := tres_some r h1
      obtain ⟨l', q3⟩ := tresults_some r l h2
      exact ⟨v' :: l', by simp only [xresults, q1, q3]⟩
    · cases h
end
end Go.Xt
end
section
namespace Go.Xt
open Go Go.Xe
set_option linter.unusedVariables false
set_option linter.unusedSimpArgs false
structure Fits (F : FuncId → Option TFun) (O : FuncId → List TV → Option TV) (Fx : FuncId → Option XFun) (Ox : FuncId → List Value → Option Value) : Prop where
  some : ∀ f tf, F f = some tf → Fx f = some tf.fn
  none : ∀ f, F f = none → Fx f = none
  orc : ∀ f args v, O f args = .some v → ∀ (g : Hp) (μ : List Nat) (Z : Nat → Prop) args', RVs g μ Z args args' → ∃ v', Ox f args' = .some v' ∧ RV g μ Z v v'
section
variable {Pr : Nat → Prop} {μ μ' : List Nat} {w w' : Own} {a a' : TAct} {σ σ' : Sto} {ax ax' : Xe.Act} {s s' : AS}
variable {F : FuncId → Option TFun} {O : FuncId → List TV → Option TV} {Fx : FuncId → Option XFun} {Ox : FuncId → List Value → Option Value}
theorem After.out (h : After w w' μ μ' s s') : After w (sto w') μ μ' s s' :=
  ⟨h.le, h.keep, fun p i e hi => h.own p i (sto_le w' p i e) hi, h.mu⟩
theorem RMd.settle {g : Hp} {Z : Nat → Prop} {m : TMode} {m' : Xe.Mode} (h : RMd g μ Z m m') : RMd g μ Z m.settle m'.settle := by
  cases m <;> cases m' <;> first | exact h.elim | exact h | trivial
theorem tdefers_sound {C : TCallee} {X : Xe.Callee} (hC : CallOk C X) (hF : Fits F O Fx Ox) {b n : Nat} : ∀ (l : List TDfr) {l' : List Dfr} {μ : List Nat} {w : Own} {a : TAct} {σ : Sto} {s : AS} {m : TMode} {mx : Xe.Mode} {σ' : Sto} {m' : TMode},
    tdefers C F b n l σ m = some (σ', m') → Rl Pr μ w a σ ax s → (∀ i, Pr i → i < s.next) → RDf s.get μ (Zo w Pr) l l' → RMd s.get μ (Zo w Pr) m mx →
    ∃ s' μ' w' a' mx', xdefers X Fx n l' s mx = some (s', mx') ∧ Rl Pr μ' w' a' σ' ax s' ∧ (∀ t, a'.ev (.tmp t) = a.ev (.tmp t)) ∧ After w w' μ μ' s s' ∧ RMd s'.get μ' (Zo w' Pr) m' mx'
  | [], [], μ, w, a, σ, s, m, mx, σ', m', h, r, hP, hd, hm => by
    simp only [tdefers] at h; cases h
    exact ⟨s, μ, w, a, mx, rfl, r, fun _ => rfl, After.refl _ _ _, hm⟩
  | [], _ :: _, μ, w, a, σ, s, m, mx, σ', m', h, r, hP, hd, hm => hd.elim
  | _ :: _, [], μ, w, a, σ, s, m, mx, σ', m', h, r, hP, hd, hm => hd.elim
  | d :: l, d' :: l', μ, w, a, σ, s, m, mx, σ', m', h, r, hP, ⟨hd1, hd2, hd3⟩, hm => by
    simp only [tdefers] at h
    simp only [xdefers]
    split at h
    · rename_i fn hf
      rw [hd1, hF.some _ _ hf]
      split at h
      · rename_i e1 a1 σ1 m1 h1
        have r0 := r.toRs.stoOf.enter (sto_only w) (args := d.args) (args' := d'.args) (by rw [zo_sto]; exact hd2)
        obtain ⟨e', ax1, s1, μ1, w1, mx1, k1, k2, k3, k4, k5⟩ := tcodeR_sound hC fn.fn.body h1 r0 (r.hP2 hP) (by rw [zo_sto]; exact hm)
        simp only [k1]
        have go : ∀ {l0 : List TV}, a1.df = [] → (e1 = .normal ∨ e1 = .ret) → tresults a1 σ1 fn.fn.results = some l0 → tdefers C F b n l σ1 m1.settle = some (σ', m') →
            ∃ s' μ' w' a' mx', (match ax1.df, e', xresults ax1 s1 fn.fn.results with
              | [], .normal, some _ => xdefers X Fx n l' s1 mx1.settle
              | [], .ret, some _ => xdefers X Fx n l' s1 mx1.settle
              | _, _, _ => none) = some (s', mx') ∧ Rl Pr μ' w' a' σ' ax s' ∧ (∀ t, a'.ev (.tmp t) = a.ev (.tmp t)) ∧ After w w' μ μ' s s' ∧ RMd s'.get μ' (Zo w' Pr) m' mx' := by
          intro l0 q1 q2 q3 q4
          have hdf : ax1.df = [] := by
            have := k2.df
            rw [q1] at this
            revert this
            cases ax1.df with
            | nil => intro _; rfl
            | cons => intro h; exact h.elim
          obtain ⟨l1, p1⟩ := tresults_some k2 _ q3
          obtain ⟨b1, b2, b3, b4⟩ := r.back hP k2.toRs.out' (sto_only w1) k3.out
          have hm1 : RMd s1.get μ1 (Zo (both w (sto w1)) Pr) m1.settle mx1.settle := by
            rw [b3]; exact (k5.mono (Mo.sub (sto_le w1))).settle
          obtain ⟨s', μ', w', a', mx', c1, c2, c3, c4, c5⟩ := tdefers_sound hC hF l q4 b1 (b2.hP hP) (hd3.mono (b2.mo r.dm)) hm1
          refine ⟨s', μ', w', a', mx', ?_, c2, c3, b2.trans c4, c5⟩
          rw [hdf, p1]
          rcases q2 with rfl | rfl
          · cases e' <;> first | exact k4.elim | exact c1
          · cases e' <;> first | exact k4.elim | exact c1
        split at h
        · rename_i q1 q3
          exact go q1 (.inl rfl) q3 h
        · rename_i q1 q3
          exact go q1 (.inr rfl) q3 h
        · cases h
      · cases h
    · cases h
theorem packed_rel {g : Hp} {Z : Nat → Prop} {l : List TV} {l' : List Value} (h : RVs g μ Z l l') : RV g μ Z (packedT l) (packed l') := by
  cases h with
  | nil => exact .tuple .nil
  | cons a b =>
    cases b with
    | nil => exact a
    | cons c d => exact .tuple (.cons a (.cons c d))
theorem tleave_rel {ν : List Nat} (r : Rl Pr (μ ++ ν) w a σ ax s) (hi : Inv μ.length σ) {keep : Bool} {v v2 : TV} {v' : Value} {σ2 : Sto} (h : tleave keep μ.length σ v = some (v2, σ2)) (hv : RV s.get (μ ++ ν) (Zo (sto w) Pr) v v') :
    ∃ ν2 w2, Rs Pr (μ ++ ν2) w2 σ2 s ∧ OnlyS w2 ∧ (∀ p i, w2 p = some i → w p = some i) ∧ RV s.get (μ ++ ν2) (Zo w2 Pr) v2 v' := by
  unfold tleave at h
  split at h
  · cases h
    exact ⟨ν, sto w, r.toRs.out', sto_only w, sto_le w, hv⟩
  · split at h
    · rename_i hb
      cases h
      refine ⟨[], cutO μ.length w, ?_, cutO_only _ _, cutO_le _ _, ?_⟩
      · rw [List.append_nil]; exact r.toRs.cutS hi
      · rw [List.append_nil]
        refine RV.cut (fun i z => ?_) hv.canon hb
        refine ⟨fun p e => z.1 p ?_, z.2⟩
        cases p <;> first | (cases e; done) | skip
        · simp only [cutO] at e; split at e
          · exact e
          · cases e
        · simp only [cutO] at e; split at e
          · exact e
          · cases e
    · cases h
theorem tfinish_rel {ν : List Nat} (r : Rl Pr (μ ++ ν) w a σ ax s) (hi : Inv μ.length σ) {fn : TFun} {m : TMode} {mx : Xe.Mode} {e : TEnd} {σ2 : Sto} (h : tfinish a fn μ.length σ m = some (e, σ2)) (hm : RMd s.get (μ ++ ν) (Zo w Pr) m mx) :
    ∃ e' ν2 w2, xfinish ax fn.fn s mx = some (e', s) ∧ Rs Pr (μ ++ ν2) w2 σ2 s ∧ OnlyS w2 ∧ (∀ p i, w2 p = some i → w p = some i) ∧ REnd s.get (μ ++ ν2) (Zo w2 Pr) e e' := by
  have ret : ∀ {m0 : Xe.Mode}, (∀ v, m0 ≠ .panicking v) → (match tresults a σ fn.fn.results with
      | some l => match gives l with
        | some l => match tleave fn.keep μ.length σ (packedT l) with
          | some (v, σ) => some (TEnd.ret v, σ)
          | none => none
        | none => none
      | none => none) = some (e, σ2) → ∃ e' ν2 w2, xfinish ax fn.fn s m0 = some (e', s) ∧ Rs Pr (μ ++ ν2) w2 σ2 s ∧ OnlyS w2 ∧ (∀ p i, w2 p = some i → w p = some i) ∧ REnd s.get (μ ++ ν2) (Zo w2 Pr) e e' := by
    intro m0 hm0 h
    split at h
    · rename_i l h1
      split at h
      · rename_i l2 h2
        split at h
        · rename_i v σ3 h3
          cases h
          obtain ⟨l', q1, q2⟩ := tresults_rel r _ h1 h2
          obtain ⟨ν2, w2, p1, p2, p3, p4⟩ := tleave_rel r hi h3 (packed_rel q2)
          refine ⟨.ret (packed l'), ν2, w2, ?_, p1, p2, p3, p4⟩
          unfold xfinish
          cases m0 with
          | panicking v => exact absurd rfl (hm0 v)
          | ret => simp only [q1]
          | recovered => simp only [q1]
        · cases h
      · cases h
    · cases h
  unfold tfinish at h
  cases m with
  | panicking v =>
    cases mx <;> first | exact hm.elim | skip
    rename_i v'
    simp only at h
    split at h
    · rename_i v1 σ3 h3
      cases h
      have hv : RV s.get (μ ++ ν) (Zo w Pr) v v' := hm
      obtain ⟨ν2, w2, p1, p2, p3, p4⟩ := tleave_rel r hi h3 (hv.mono (Mo.sub (sto_le w)))
      exact ⟨.panic v', ν2, w2, rfl, p1, p2, p3, p4⟩
    · cases h
  | ret =>
    cases mx <;> first | exact hm.elim | skip
    exact ret (fun v => by simp) h
  | recovered =>
    cases mx <;> first | exact hm.elim | skip
    exact ret (fun v => by simp) h
theorem tcall_sound (hF : Fits F O Fx Ox) : ∀ n, CallOk (tcall F O n) (xcall Fx Ox n)
  | 0 => ⟨fun h => by simp only [tcall] at h; cases h⟩
  | n + 1 => ⟨fun {b f args σ e σ'} h {Pr μ w s args'} r ho hP ha => by
    have ih := tcall_sound hF n
    have hinv := @tcall_inv F O n
    simp only [tcall] at h
    simp only [xcall]
    split at h
    · rename_i fn hf
      rw [hF.some _ _ hf]
      simp only
      have r0 := r.enter ho ha
      have hlen : σ.length = μ.length := r.len.symm
      have i0 : Inv σ.length σ := r.inv
      have fin : ∀ {e1 : TEx} {a1 : TAct} {σ1 : Sto} {m0 : TMode} {ex : Xe.Ex} {ax1 : Xe.Act} {s1 : AS} {μ1 : List Nat} {w1 : Own} {mx0 : Xe.Mode},
          tcode fn.an (baseOf fn.keep b σ.length) (tcall F O n) n fn.fn.body (enterT args) σ = some (e1, a1, σ1) → Rl Pr μ1 w1 a1 σ1 ax1 s1 → After w w1 μ μ1 s s1 → RMd s1.get μ1 (Zo w1 Pr) m0 mx0 →
          (match tdefers (tcall F O n) F (baseOf fn.keep b σ.length) n a1.df σ1 m0 with
            | some (σ2, m) => tfinish a1 fn σ.length σ2 m
            | none => none) = some (e, σ') →
          ∃ e' s' μ' w', (match xdefers (xcall Fx Ox n) Fx n ax1.df s1 mx0 with
            | some (s, m) => xfinish ax1 fn.fn s m
            | none => none) = some (e', s') ∧ Rs Pr μ' w' σ' s' ∧ OnlyS w' ∧ After w w' μ μ' s s' ∧ REnd s'.get μ' (Zo w' Pr) e e' := by
        intro e1 a1 σ1 m0 ex ax1 s1 μ1 w1 mx0 hc r1 haf hm h
        split at h
        · rename_i σ2 m2 hd
          obtain ⟨s2, μ2, w2, a2, mx2, c1, c2, c3, c4, c5⟩ := tdefers_sound ih hF _ hd r1 (haf.hP hP) r1.df hm
          have haf2 := haf.trans c4
          obtain ⟨ν, hν⟩ := haf2.mu
          subst hν
          have hft : tfinish a2 fn μ.length σ2 m2 = some (e, σ') := by
            rw [← hlen]
            have htr : ∀ l, tresults a2 σ2 l = tresults a1 σ2 l := by
              intro l
              induction l with
              | nil => rfl
              | cons x l ihl =>
                simp only [tresults, ihl]
                cases x <;> simp only [tres, c3]
            revert h
            unfold tfinish
            rw [htr]
            exact id
          have hbase : baseOf fn.keep b σ.length = baseOf fn.keep b σ.length := rfl
          by_cases hk : fn.keep = true
          · have h2 : ∃ ν2, (μ ++ ν) = (μ ++ ν) ++ ν2 := ⟨[], by simp⟩
            have hft' : ∀ k, tfinish a2 fn k σ2 m2 = some (e, σ') := by
              intro k
              revert hft
              unfold tfinish tleave
              rw [hk]
              exact id
            have hlen2 : σ2.length = (μ ++ ν).length := c2.len.symm
            have r2 : Rl Pr ((μ ++ ν) ++ []) w2 a2 σ2 ax1 s2 := by rw [List.append_nil]; exact c2
            obtain ⟨e', ν2, w3, f1, f2, f3, f4, f5⟩ := tfinish_rel (μ := μ ++ ν) (ν := []) r2 (by rw [← hlen2]; exact c2.toRs.inv) (hft' _) (by rw [List.append_nil]; exact c5)
            refine ⟨e', s2, (μ ++ ν) ++ ν2, w3, ?_, f2, f3, ⟨haf2.le, haf2.keep, fun p i e hi => haf2.own p i (f4 p i e) hi, ν ++ ν2, by rw [List.append_assoc]⟩, f5⟩
            simp only [c1]; exact f1
          · have hk : fn.keep = false := by simpa using hk
            have hb2 : baseOf fn.keep b σ.length = σ.length := by rw [hk]; rfl
            have i1 : Inv μ.length σ2 := by
              rw [← hlen]
              refine tdefers_inv hinv ?_ _ _ _ _ _ hd (tcode_inv hinv ?_ _ _ _ _ _ _ hc i0) <;> rw [hb2] <;> exact Nat.le_refl _
            obtain ⟨e', ν2, w3, f1, f2, f3, f4, f5⟩ := tfinish_rel c2 i1 hft c5
            refine ⟨e', s2, μ ++ ν2, w3, ?_, f2, f3, ⟨haf2.le, haf2.keep, fun p i e hi => haf2.own p i (f4 p i e) hi, ν2, rfl⟩, f5⟩
            simp only [c1]; exact f1
        · cases h
      split at h
      · rename_i a1 σ1 hc
        obtain ⟨e', ax1, s1, μ1, w1, k1, k2, k3, k4⟩ := tcode_sound ih _ _ _ _ _ _ _ _ _ _ _ hc r0 hP
        rw [k1]
        cases e' <;> first | exact k4.elim | skip
        exact fin (ex := .normal) (m0 := .ret) hc k2 k3 (mx0 := .ret) trivial h
      · rename_i a1 σ1 hc
        obtain ⟨e', ax1, s1, μ1, w1, k1, k2, k3, k4⟩ := tcode_sound ih _ _ _ _ _ _ _ _ _ _ _ hc r0 hP
        rw [k1]
        cases e' <;> first | exact k4.elim | skip
        exact fin (ex := .ret) (m0 := .ret) hc k2 k3 (mx0 := .ret) trivial h
      · rename_i v a1 σ1 hc
        obtain ⟨e', ax1, s1, μ1, w1, k1, k2, k3, k4⟩ := tcode_sound ih _ _ _ _ _ _ _ _ _ _ _ hc r0 hP
        rw [k1]
        cases e' <;> first | exact k4.elim | skip
        rename_i v'
        exact fin (ex := .panic v') (m0 := .panicking v) hc k2 k3 (mx0 := .panicking v') k4 h
      · cases h
    · rename_i hf
      rw [hF.none _ hf]
      simp only
      split at h
      · rename_i v hv
        cases h
        obtain ⟨v', q1, q2⟩ := hF.orc _ _ _ hv s.get μ (Zo w Pr) args' ha
        rw [q1]
        exact ⟨.ret v', s, μ, w, rfl, r, ho, After.refl _ _ _, q2⟩
      · cases h⟩
end
end Go.Xt
end
section
namespace Go.Xt
open Go Go.Xe
set_option linter.unusedVariables false
set_option linter.unusedSimpArgs false
inductive Sh (P : Program) : TypeId → List TV → Prop
  | bool {t : TypeId} (b : Bool) : P.underlying t = some .bool → Sh P t [.bool b]
  | int {t : TypeId} {k : IntKind} (n : Int) : P.underlying t = some (.int k) → (Lit.int k n).wf = true → Sh P t [.int k n]
  | str {t : TypeId} (s : ByteArray) : P.underlying t = some .string → s.size ≤ maxLen → Sh P t [.str s]
  | slice {t e : TypeId} (chs : List (List TV)) : P.underlying t = some (.slice e) → chs.length ≤ maxLen → (∀ c, c ∈ chs → Sh P e c) → Sh P t [.sl .fz chs]
  | struct {t : TypeId} {fs : Array Field} (cs : List TV) : P.underlying t = some (.struct fs) → cs.length = P.cellsOf t → (∀ (i : Nat) (f : Field), fs[i]? = some f → Sh P f.type ((cs.drop f.offset).take (P.cellsOf f.type))) → Sh P t cs
theorem list_of {α : Type} {n : Nat} {R : Nat → α → Prop} (h : ∀ i, i < n → ∃ x, R i x) : ∃ l : List α, l.length = n ∧ ∀ i x, l[i]? = some x → R i x := by
  induction n with
  | zero => exact ⟨[], rfl, fun i x e => by simp at e⟩
  | succ n ih =>
    obtain ⟨l, h1, h2⟩ := ih (fun i hi => h i (by omega))
    obtain ⟨x, hx⟩ := h n (by omega)
    refine ⟨l ++ [x], by simp [h1], fun i y e => ?_⟩
    by_cases hi : i < l.length
    · rw [List.getElem?_append_left hi] at e; exact h2 i y e
    · have := (List.getElem?_eq_some_iff.1 e).1
      have hin : i = n := by simp at this; omega
      subst hin
      rw [List.getElem?_append_right (by omega), h1] at e
      simp at e; subst e; exact hx
section
variable {g : Hp} {μ : List Nat} {Z : Nat → Prop}
theorem rows_rel {vs : List Value} {k : Nat} : ∀ (chs : List (List TV)) (o : Nat), (∀ i c, chs[i]? = some c → RVs g μ Z c ((vs.drop (o + i * k)).take k) ∧ c.length = k) → RVs g μ Z chs.flatten ((vs.drop o).take (chs.length * k))
  | [], o, _ => by simp; exact .nil
  | c :: chs, o, h => by
    rw [List.flatten_cons, List.length_cons, Nat.succ_mul, Nat.add_comm, List.take_add, List.drop_drop]
    refine RVs.append ?_ (rows_rel chs (o + k) fun i c' e => ?_)
    · have := (h 0 c rfl).1
      simpa using this
    · have := h (i + 1) c' (by simpa using e)
      rwa [show o + (i + 1) * k = o + k + i * k by rw [Nat.succ_mul]; omega] at this
theorem fields_rel {P : Program} {cs : List Value} : ∀ (fs : List Field) (o e : Nat), tiles P o fs = some e → e ≤ cs.length → (∀ (i : Nat) (f : Field), fs[i]? = some f → ∃ l, RVs g μ Z l ((cs.drop f.offset).take (P.cellsOf f.type)) ∧ Sh P f.type l) →
    ∃ l, RVs g μ Z l ((cs.drop o).take (e - o)) ∧ o ≤ e ∧ l.length = e - o ∧ ∀ (i : Nat) (f : Field), fs[i]? = some f → o ≤ f.offset ∧ Sh P f.type ((l.drop (f.offset - o)).take (P.cellsOf f.type))
  | [], o, e, ht, he, h => by
    simp only [tiles] at ht; cases ht
    exact ⟨[], by simp; exact .nil, Nat.le_refl _, by simp, fun i f e => by simp at e⟩
  | f :: fs, o, e, ht, he, h => by
    simp only [tiles] at ht
    split at ht
    · rename_i hb
      have ho := beq_of hb
      obtain ⟨l0, k1, k2⟩ := h 0 f rfl
      obtain ⟨l, q1, q2, q3, q4⟩ := fields_rel fs (o + P.cellsOf f.type) e ht he (fun i f' hf => h (i + 1) f' (by simpa using hf))
      have hl0 : l0.length = P.cellsOf f.type := by
        rw [← k1.length, List.length_take, List.length_drop]; omega
      have hsplit : (cs.drop o).take (e - o) = (cs.drop f.offset).take (P.cellsOf f.type) ++ (cs.drop (o + P.cellsOf f.type)).take (e - (o + P.cellsOf f.type)) := by
        rw [ho, show e - o = P.cellsOf f.type + (e - (o + P.cellsOf f.type)) by omega, List.take_add, List.drop_drop]
      refine ⟨l0 ++ l, by rw [hsplit]; exact k1.append q1, by omega, by rw [List.length_append, hl0, q3]; omega, fun i f' hf => ?_⟩
      cases i with
      | zero =>
        simp at hf; subst hf
        refine ⟨by omega, ?_⟩
        rw [ho, Nat.sub_self, List.drop_zero, List.take_append_of_le_length (by omega), List.take_of_length_le (by omega)]
        exact k2
      | succ i =>
        obtain ⟨p1, p2⟩ := q4 i f' (by simpa using hf)
        refine ⟨by omega, ?_⟩
        have : f'.offset - o = P.cellsOf f.type + (f'.offset - (o + P.cellsOf f.type)) := by omega
        rw [this, ← hl0, List.drop_append]
        rw [show l0.length + (f'.offset - (o + l0.length)) - l0.length = f'.offset - (o + l0.length) by omega]
        have hd0 : l0.drop (l0.length + (f'.offset - (o + l0.length))) = [] := List.drop_of_length_le (by omega)
        rw [hd0, List.nil_append, hl0]
        exact p2
    · cases ht
theorem tree_of {P : Program} {T : List TypeId} (hT : T.all (Xe.plainT P T) = true) {H : Type} {t : TypeId} {cs : List Value} {d : DataW H} (r : Rdx P g t cs d) : T.contains t = true → ∃ l, RVs g μ (fun _ => True) l cs ∧ Sh P t l := by
  induction r with
  | bool b ht => exact fun _ => ⟨[.bool b], .cons (.bool b) .nil, .bool b ht⟩
  | int n ht hw => exact fun _ => ⟨[.int _ n], .cons (.int _ n) .nil, .int n ht hw⟩
  | str s ht hs => exact fun _ => ⟨[.str s], .cons (.str s) .nil, .str s ht hs⟩
  | nil ht => exact fun _ => ⟨[.sl .fz []], .cons (.fz0 none 0) .nil, .slice [] ht (Nat.zero_le _) (fun c h => by simp at h)⟩
  | @slice t e id len cap ds sp C ht hl hc hm h1 h2 ih =>
    intro hc'
    have hp := List.all_eq_true.1 hT t (by simpa using hc')
    unfold Xe.plainT at hp
    rw [ht] at hp
    simp only [Bool.and_eq_true] at hp
    have hex : ∀ i, i < len → ∃ c, RVs g μ (fun _ => True) c (C i) ∧ Sh P e c := fun i hi => by
      have hlt : i < ds.length := by omega
      exact ih i ds[i] (List.getElem?_eq_getElem hlt) hp.1
    obtain ⟨chs, k1, k2⟩ := list_of hex
    have hload : ∀ i, i < len → ∃ ver vs el ro, g id = some ⟨ver, .cells vs el ro⟩ ∧ i * P.cellsOf e + P.cellsOf e ≤ vs.length ∧ (vs.drop (i * P.cellsOf e)).take (P.cellsOf e) = C i := fun i hi => by
      have hlt : i < ds.length := by omega
      obtain ⟨i', o, ver, vs, el, ro, q0, q1, q2, q3⟩ := loadList_some (h1 i ds[i] (List.getElem?_eq_getElem hlt))
      cases q0
      exact ⟨ver, vs, el, ro, q1, q2, q3.symm⟩
    refine ⟨[.sl .fz chs], .cons ?_ .nil, .slice chs ht (by omega) (fun c hcm => ?_)⟩
    · by_cases h0 : len = 0
      · have : chs = [] := List.eq_nil_of_length_eq_zero (by omega)
        subst this; subst h0
        exact .fz0 _ _
      · obtain ⟨ver, vs, el, ro, q1, q2, q3⟩ := hload (len - 1) (by omega)
        have hlen : len * P.cellsOf e ≤ vs.length := by
          have : (len - 1) * P.cellsOf e + P.cellsOf e = len * P.cellsOf e := by rw [← Nat.succ_mul]; congr 1; omega
          omega
        refine .fz (s := P.cellsOf e) trivial q1 ?_ k1 (fun _ => hc) (fun h => by unfold capU at h; unfold maxLen at hm; omega) (by omega) ?_
        · refine List.all_eq_true.2 fun c hcm => ?_
          obtain ⟨i, hi⟩ := List.getElem?_of_mem hcm
          have hil : i < len := by have := (List.getElem?_eq_some_iff.1 hi).1; omega
          have := (k2 i c hi).1.length
          obtain ⟨_, vs', _, _, p1, p2, p3⟩ := hload i hil
          rw [beqNat]
          refine decide_eq_true ?_
          rw [← this, ← p3, List.length_take, List.length_drop]; omega
        · rw [← k1]
          refine rows_rel chs 0 fun i c hi => ?_
          have hil : i < len := by have := (List.getElem?_eq_some_iff.1 hi).1; omega
          obtain ⟨_, vs', _, _, p1, p2, p3⟩ := hload i hil
          rw [q1] at p1; cases p1
          have hr := (k2 i c hi).1
          rw [Nat.zero_add, p3]
          refine ⟨hr, ?_⟩
          rw [← hr.length, ← p3, List.length_take, List.length_drop]; omega
    · obtain ⟨i, hi⟩ := List.getElem?_of_mem hcm
      exact (k2 i c hi).2
  | @struct t fs cs ds ht hl hn h2 ih =>
    intro hc'
    have hp := List.all_eq_true.1 hT t (by simpa using hc')
    unfold Xe.plainT at hp
    rw [ht] at hp
    simp only [Bool.and_eq_true, List.all_eq_true] at hp
    have htl : tiles P 0 fs.toList = some (P.cellsOf t) := by
      have h2 := hp.2
      split at h2
      · rename_i m hm; rw [beqNat] at h2; rw [hm, of_decide_eq_true h2]
      · cases h2
    obtain ⟨l, k1, _, k3, k4⟩ := fields_rel (g := g) (μ := μ) (Z := fun _ => True) (P := P) (cs := cs) fs.toList 0 (P.cellsOf t) htl (by omega) (fun i f hf => by
      have hi : i < ds.length := by have := (List.getElem?_eq_some_iff.1 hf).1; simp at this; omega
      exact ih i f ds[i] (by simpa using hf) (List.getElem?_eq_getElem hi) (hp.1 f (List.mem_of_getElem? hf)))
    rw [List.drop_zero, Nat.sub_zero, List.take_of_length_le (by omega)] at k1
    refine ⟨l, k1, .struct l ht (by omega) fun i f hf => ?_⟩
    have := (k4 i f (by simpa using hf)).2
    rwa [Nat.sub_zero] at this
end
theorem tree_true {F : FuncId → Option TFun} {O : FuncId → List TV → Option TV} {Fx : FuncId → Option XFun} {Ox : FuncId → List Value → Option Value} (hF : Fits F O Fx Ox) {L : Lst} {args : List TV} {args' : List Value} (ha : RVs (gL L) [] (fun _ => True) args args') {n f : Nat} {σ' : Sto}
    (h : tcall F O n 0 f args [] = some (.ret (.bool true), σ')) : ∃ s', xcall Fx Ox n f args' ⟨gL L, .nil, L.length⟩ = some (.ret (.bool true), s') := by
  have hget : (AS.mk (gL L) .nil L.length).get = gL L := by
    funext k
    simp only [AS.get, Tri.get_nil]
  have hz : Zo (fun _ => none) (fun _ => False) = fun _ => True := by
    funext i
    exact propext ⟨fun _ => trivial, fun _ => ⟨fun p e => (by cases e), fun h => h⟩⟩
  have rs : Rs (fun _ => False) [] (fun _ => none) [] ⟨gL L, .nil, L.length⟩ := by
    refine ⟨fun i hi => ?_, rfl, fun p q i e => (by cases e), fun p i e => (by cases e), fun p i e => (by cases e), fun k => (by simp), fun k c _ => rfl, fun k o e => (by simp [Sto.at] at e), trivial⟩
    rw [hget]
    unfold gL
    rw [List.getElem?_eq_none (by exact hi)]; rfl
  obtain ⟨e', s', μ', w', h1, h2, h3, h4, h5⟩ := (tcall_sound hF n).call h rs ⟨fun _ => rfl, fun _ _ => rfl, fun _ => rfl⟩ (fun _ h => h.elim) (args' := args') (by rw [hget, hz]; exact ha)
  cases e' with
  | panic v => exact h5.elim
  | ret v =>
    have h5 : RV _ _ _ (.bool true) v := h5
    cases h5
    exact ⟨s', h1⟩
end Go.Xt
end
section
namespace Go.Xt
open Go Go.Xe
set_option linter.unusedVariables false
set_option linter.unusedSimpArgs false
def I64 (n : Int) : Prop := -9223372036854775808 ≤ n ∧ n ≤ 9223372036854775807
inductive OkT : PTyp → Prop
  | mk {k : Int} {l : List PTyp} : I64 k → l.length ≤ maxLen → (∀ t ∈ l, OkT t) → OkT (.mk k l)
inductive OkE : PExpr → Prop
  | mk {k n : Int} {s : Str} {ns : List Str} {od : List Int} {l : List PExpr} {ln c : Int} : I64 k → I64 n → I64 ln → I64 c → s.size ≤ maxLen → ns.length ≤ maxLen → (∀ x ∈ ns, x.size ≤ maxLen) → od.length ≤ maxLen → (∀ x ∈ od, I64 x) → l.length ≤ maxLen → (∀ e ∈ l, OkE e) → OkE (.mk k n s ns od l ln c)
theorem OkT.len {t : PTyp} (h : OkT t) : t.list.length ≤ maxLen := by cases h; assumption
theorem OkT.sub {t : PTyp} (h : OkT t) : ∀ x ∈ t.list, OkT x := by cases h; assumption
theorem OkE.kids {e : PExpr} (h : OkE e) : e.kids.length ≤ maxLen := by cases h; assumption
theorem OkE.sub {e : PExpr} (h : OkE e) : ∀ x ∈ e.kids, OkE x := by cases h; assumption
theorem OkE.names {e : PExpr} (h : OkE e) : e.names.length ≤ maxLen := by cases h; assumption
theorem OkE.odds {e : PExpr} (h : OkE e) : e.odds.length ≤ maxLen := by cases h; assumption
structure OkFld (f : PFld) : Prop where
  name : f.name.size ≤ maxLen
  type : OkT f.type
  line : I64 f.line
  col : I64 f.col
structure OkFun (f : PFun) : Prop where
  name : f.name.size ≤ maxLen
  plen : f.params.length ≤ maxLen
  params : ∀ x ∈ f.params, OkFld x
  result : OkT f.result
  body : OkE f.body
  line : I64 f.line
  col : I64 f.col
structure OkP (p : PProg) : Prop where
  ilen : p.inputs.length ≤ maxLen
  inputs : ∀ x ∈ p.inputs, OkFld x
  flen : p.funs.length ≤ maxLen
  funs : ∀ x ∈ p.funs, OkFun x
  query : OkE p.query
def IsSt (P : Program) (t : TypeId) (n : Nat) (fs : List (Nat × TypeId × Nat)) : Prop :=
  ∃ a : Array Field, P.underlying t = some (.struct a) ∧ P.cellsOf t = n ∧ a.toList.map (fun f => (f.offset, f.type, P.cellsOf f.type)) = fs
theorem Sh.st {P : Program} {t : TypeId} {n : Nat} {fs : List (Nat × TypeId × Nat)} (h : IsSt P t n fs) {l : List TV} (s : Sh P t l) : l.length = n ∧ ∀ x ∈ fs, Sh P x.2.1 ((l.drop x.1).take x.2.2) := by
  obtain ⟨a, h1, h2, h3⟩ := h
  cases s with
  | bool _ h => rw [h1] at h; cases h
  | int _ h => rw [h1] at h; cases h
  | str _ h => rw [h1] at h; cases h
  | slice _ h => rw [h1] at h; cases h
  | struct _ h hl hf =>
    rw [h1] at h; cases h
    refine ⟨hl.trans h2, fun x hx => ?_⟩
    rw [← h3] at hx
    obtain ⟨f, hf', rfl⟩ := List.mem_map.1 hx
    obtain ⟨i, hi⟩ := List.getElem?_of_mem hf'
    exact hf i f (by simpa using hi)
theorem Sh.intOf {P : Program} {t : TypeId} {k : IntKind} (h : P.underlying t = some (.int k)) {l : List TV} (s : Sh P t l) : ∃ n, l = [.int k n] ∧ (Lit.int k n).wf = true := by
  cases s with
  | bool _ h' => rw [h] at h'; cases h'
  | int n h' w => rw [h] at h'; cases h'; exact ⟨n, rfl, w⟩
  | str _ h' => rw [h] at h'; cases h'
  | slice _ h' => rw [h] at h'; cases h'
  | struct _ h' => rw [h] at h'; cases h'
theorem Sh.boolOf {P : Program} {t : TypeId} (h : P.underlying t = some .bool) {l : List TV} (s : Sh P t l) : ∃ b, l = [.bool b] := by
  cases s with
  | bool b h' => exact ⟨b, rfl⟩
  | int n h' w => rw [h] at h'; cases h'
  | str _ h' => rw [h] at h'; cases h'
  | slice _ h' => rw [h] at h'; cases h'
  | struct _ h' => rw [h] at h'; cases h'
theorem Sh.strOf {P : Program} {t : TypeId} (h : P.underlying t = some .string) {l : List TV} (s : Sh P t l) : ∃ b, l = [.str b] ∧ b.size ≤ maxLen := by
  cases s with
  | bool b h' => rw [h] at h'; cases h'
  | int n h' w => rw [h] at h'; cases h'
  | str b h' hs => exact ⟨b, rfl, hs⟩
  | slice _ h' => rw [h] at h'; cases h'
  | struct _ h' => rw [h] at h'; cases h'
theorem Sh.sliceOf {P : Program} {t e : TypeId} (h : P.underlying t = some (.slice e)) {l : List TV} (s : Sh P t l) : ∃ chs, l = [.sl .fz chs] ∧ chs.length ≤ maxLen ∧ ∀ c ∈ chs, Sh P e c := by
  cases s with
  | bool b h' => rw [h] at h'; cases h'
  | int n h' w => rw [h] at h'; cases h'
  | str b h' hs => rw [h] at h'; cases h'
  | slice chs h' hl hc => rw [h] at h'; cases h'; exact ⟨chs, rfl, hl, hc⟩
  | struct _ h' => rw [h] at h'; cases h'
theorem i64_wf {n : Int} (h : (Lit.int .i64 n).wf = true) : I64 n := by
  simp only [Lit.wf, Bool.and_eq_true, decide_eq_true_eq] at h
  have h1 : IntKind.i64.min = -9223372036854775808 := by decide
  have h2 : IntKind.i64.max = 9223372036854775807 := by decide
  rw [h1, h2] at h
  exact h
theorem map_of {α β : Type} {f : α → β} {R : α → Prop} : ∀ (l : List β), (∀ x ∈ l, ∃ y, x = f y ∧ R y) → ∃ m : List α, l = m.map f ∧ ∀ y ∈ m, R y
  | [], _ => ⟨[], rfl, fun y h => by cases h⟩
  | x :: l, h => by
    obtain ⟨y, rfl, hy⟩ := h x (by simp)
    obtain ⟨m, rfl, hm⟩ := map_of l (fun z hz => h z (by simp [hz]))
    exact ⟨y :: m, rfl, fun z hz => by
      rcases List.mem_cons.1 hz with rfl | hz
      · exact hy
      · exact hm z hz⟩
structure ApiT (P : Program) where
  int : TypeId
  str : TypeId
  strs : TypeId
  ints : TypeId
  typ : TypeId
  typs : TypeId
  exp : TypeId
  exps : TypeId
  fld : TypeId
  flds : TypeId
  fn : TypeId
  fns : TypeId
  prog : TypeId
  hint : P.underlying int = some (.int .i64)
  hstr : P.underlying str = some .string
  hstrs : P.underlying strs = some (.slice str)
  hints : P.underlying ints = some (.slice int)
  htyp : IsSt P typ 2 [(0, int, 1), (1, typs, 1)]
  htyps : P.underlying typs = some (.slice typ)
  hexp : IsSt P exp 8 [(0, int, 1), (1, int, 1), (2, str, 1), (3, strs, 1), (4, ints, 1), (5, exps, 1), (6, int, 1), (7, int, 1)]
  hexps : P.underlying exps = some (.slice exp)
  hfld : IsSt P fld 5 [(0, str, 1), (1, typ, 2), (3, int, 1), (4, int, 1)]
  hflds : P.underlying flds = some (.slice fld)
  hfn : IsSt P fn 14 [(0, str, 1), (1, flds, 1), (2, typ, 2), (4, exp, 8), (12, int, 1), (13, int, 1)]
  hfns : P.underlying fns = some (.slice fn)
  hprog : IsSt P prog 10 [(0, flds, 1), (1, fns, 1), (2, exp, 8)]
theorem len2 {α : Type} {l : List α} (h : l.length = 2) : ∃ a b, l = [a, b] := by
  match l, h with | [a, b], _ => exact ⟨a, b, rfl⟩
theorem len5 {α : Type} {l : List α} (h : l.length = 5) : ∃ a b c d e, l = [a, b, c, d, e] := by
  match l, h with | [a, b, c, d, e], _ => exact ⟨a, b, c, d, e, rfl⟩
theorem len8 {α : Type} {l : List α} (h : l.length = 8) : ∃ a b c d e f g i, l = [a, b, c, d, e, f, g, i] := by
  match l, h with | [a, b, c, d, e, f, g, i], _ => exact ⟨a, b, c, d, e, f, g, i, rfl⟩
theorem sz_head {chs : List (List TV)} {c : List TV} (h : c ∈ chs) {l : List TV} (m : Md) (hl : TV.sl m chs ∈ l) : SizeOf.sizeOf c < SizeOf.sizeOf l := by
  have h1 := List.sizeOf_lt_of_mem h
  have h2 := List.sizeOf_lt_of_mem hl
  simp at h2
  omega
section
variable {P : Program} (A : ApiT P)
theorem sh_typ : ∀ (n : Nat) (l : List TV), SizeOf.sizeOf l < n → Sh P A.typ l → ∃ t, l = encT t ∧ OkT t
  | 0, l, hn, h => by omega
  | n + 1, l, hn, h => by
    obtain ⟨h1, h2⟩ := h.st A.htyp
    obtain ⟨a, b, rfl⟩ := len2 h1
    obtain ⟨k, q1, q2⟩ := (h2 (0, A.int, 1) (by simp)).intOf A.hint
    obtain ⟨chs, q3, q4, q5⟩ := (h2 (1, A.typs, 1) (by simp)).sliceOf A.htyps
    simp at q1 q3
    subst q1; subst q3
    obtain ⟨m, rfl, hm⟩ := map_of (f := encT) (R := OkT) chs (fun c hc => sh_typ n c (by
      have := sz_head (l := [TV.int .i64 k, .sl .fz chs]) hc .fz (by simp)
      omega) (q5 c hc))
    exact ⟨.mk k m, by rw [encT_def]; rfl, .mk (i64_wf q2) (by simpa using q4) hm⟩
theorem sh_exp : ∀ (n : Nat) (l : List TV), SizeOf.sizeOf l < n → Sh P A.exp l → ∃ t, l = encE t ∧ OkE t
  | 0, l, hn, h => by omega
  | n + 1, l, hn, h => by
    obtain ⟨h1, h2⟩ := h.st A.hexp
    obtain ⟨a0, a1, a2, a3, a4, a5, a6, a7, rfl⟩ := len8 h1
    obtain ⟨k0, p0, w0⟩ := (h2 (0, A.int, 1) (by simp)).intOf A.hint
    obtain ⟨k1, p1, w1⟩ := (h2 (1, A.int, 1) (by simp)).intOf A.hint
    obtain ⟨k2, p2, w2⟩ := (h2 (2, A.str, 1) (by simp)).strOf A.hstr
    obtain ⟨c3, p3, w3, x3⟩ := (h2 (3, A.strs, 1) (by simp)).sliceOf A.hstrs
    obtain ⟨c4, p4, w4, x4⟩ := (h2 (4, A.ints, 1) (by simp)).sliceOf A.hints
    obtain ⟨c5, p5, w5, x5⟩ := (h2 (5, A.exps, 1) (by simp)).sliceOf A.hexps
    obtain ⟨k6, p6, w6⟩ := (h2 (6, A.int, 1) (by simp)).intOf A.hint
    obtain ⟨k7, p7, w7⟩ := (h2 (7, A.int, 1) (by simp)).intOf A.hint
    simp at p0 p1 p2 p3 p4 p5 p6 p7
    subst p0 p1 p2 p3 p4 p5 p6 p7
    obtain ⟨m3, rfl, y3⟩ := map_of (f := encS) (R := fun s => s.size ≤ maxLen) c3 (fun c hc => (x3 c hc).strOf A.hstr)
    obtain ⟨m4, rfl, y4⟩ := map_of (f := encI) (R := I64) c4 (fun c hc => by
      obtain ⟨n, e1, e2⟩ := (x4 c hc).intOf A.hint
      exact ⟨n, e1, i64_wf e2⟩)
    obtain ⟨m5, rfl, y5⟩ := map_of (f := encE) (R := OkE) c5 (fun c hc => sh_exp n c (by
      have := sz_head hc (l := [TV.int .i64 k0, .int .i64 k1, .str k2, .sl .fz (m3.map encS), .sl .fz (m4.map encI), .sl .fz c5, .int .i64 k6, .int .i64 k7]) .fz (by simp)
      omega) (x5 c hc))
    exact ⟨.mk k0 k1 k2 m3 m4 m5 k6 k7, by rw [encE_def]; rfl, .mk (i64_wf w0) (i64_wf w1) (i64_wf w6) (i64_wf w7) w2 (by simpa using w3) y3 (by simpa using w4) y4 (by simpa using w5) y5⟩
theorem sh_fld {l : List TV} (h : Sh P A.fld l) : ∃ t, l = encF t ∧ OkFld t := by
  obtain ⟨h1, h2⟩ := h.st A.hfld
  obtain ⟨a0, a1, a2, a3, a4, rfl⟩ := len5 h1
  obtain ⟨k0, p0, w0⟩ := (h2 (0, A.str, 1) (by simp)).strOf A.hstr
  obtain ⟨t, p1, w1⟩ := sh_typ A _ _ (Nat.lt_succ_self _) (h2 (1, A.typ, 2) (by simp))
  obtain ⟨k3, p3, w3⟩ := (h2 (3, A.int, 1) (by simp)).intOf A.hint
  obtain ⟨k4, p4, w4⟩ := (h2 (4, A.int, 1) (by simp)).intOf A.hint
  simp at p0 p1 p3 p4
  subst p0 p3 p4
  refine ⟨⟨k0, t, k3, k4⟩, ?_, w0, w1, i64_wf w3, i64_wf w4⟩
  simp only [encF, ← p1, List.cons_append, List.nil_append]
theorem sh_fun {l : List TV} (h : Sh P A.fn l) : ∃ t, l = encFun t ∧ OkFun t := by
  obtain ⟨h1, h2⟩ := h.st A.hfn
  have hl : l = l.take 1 ++ ((l.drop 1).take 1 ++ ((l.drop 2).take 2 ++ ((l.drop 4).take 8 ++ ((l.drop 12).take 1 ++ (l.drop 13).take 1)))) := by
    match l, h1 with | [_, _, _, _, _, _, _, _, _, _, _, _, _, _], _ => rfl
  obtain ⟨k0, p0, w0⟩ := (h2 (0, A.str, 1) (by simp)).strOf A.hstr
  obtain ⟨c1, p1, w1, x1⟩ := (h2 (1, A.flds, 1) (by simp)).sliceOf A.hflds
  obtain ⟨t, p2, w2⟩ := sh_typ A _ _ (Nat.lt_succ_self _) (h2 (2, A.typ, 2) (by simp))
  obtain ⟨e, p3, w3⟩ := sh_exp A _ _ (Nat.lt_succ_self _) (h2 (4, A.exp, 8) (by simp))
  obtain ⟨k4, p4, w4⟩ := (h2 (12, A.int, 1) (by simp)).intOf A.hint
  obtain ⟨k5, p5, w5⟩ := (h2 (13, A.int, 1) (by simp)).intOf A.hint
  obtain ⟨m, rfl, hm⟩ := map_of (f := encF) (R := OkFld) c1 (fun c hc => sh_fld A (x1 c hc))
  refine ⟨⟨k0, m, t, e, k4, k5⟩, ?_, w0, by simpa using w1, hm, w2, w3, i64_wf w4, i64_wf w5⟩
  simp only [List.drop_zero] at p0 p1 p2 p3 p4 p5
  rw [hl, p0, p1, p2, p3, p4, p5]
  simp only [encFun, List.cons_append, List.nil_append, List.append_assoc]
theorem sh_prog {l : List TV} (h : Sh P A.prog l) : ∃ t, l = encP t ∧ OkP t := by
  obtain ⟨h1, h2⟩ := h.st A.hprog
  have hl : l = l.take 1 ++ ((l.drop 1).take 1 ++ (l.drop 2).take 8) := by
    match l, h1 with | [_, _, _, _, _, _, _, _, _, _], _ => rfl
  obtain ⟨c0, p0, w0, x0⟩ := (h2 (0, A.flds, 1) (by simp)).sliceOf A.hflds
  obtain ⟨c1, p1, w1, x1⟩ := (h2 (1, A.fns, 1) (by simp)).sliceOf A.hfns
  obtain ⟨e, p2, w2⟩ := sh_exp A _ _ (Nat.lt_succ_self _) (h2 (2, A.exp, 8) (by simp))
  obtain ⟨m0, rfl, hm0⟩ := map_of (f := encF) (R := OkFld) c0 (fun c hc => sh_fld A (x0 c hc))
  obtain ⟨m1, rfl, hm1⟩ := map_of (f := encFun) (R := OkFun) c1 (fun c hc => sh_fun A (x1 c hc))
  refine ⟨⟨m0, m1, e⟩, ?_, by simpa using w0, hm0, by simpa using w1, hm1, w2⟩
  simp only [List.drop_zero] at p0 p1 p2
  rw [hl, p0, p1, p2]
  simp only [encP, List.cons_append, List.nil_append]
end
end Go.Xt
end
section
namespace Go.Xt
open Go Go.Xe
set_option linter.unusedVariables false
inductive Kt where
  | seq (y : XCode)
  | blk (id : Nat)
section
variable (an : Ann) (b : Nat) (C : TCallee) (n : Nat) (Q : TEx → TAct → Sto → Prop)
def Cont : List Kt → TEx → TAct → Sto → Prop
  | [], e, a, σ => Q e a σ
  | .seq y :: ks, e, a, σ => match e with
    | .normal => ∃ e' a' σ', tcode an b C n y a σ = some (e', a', σ') ∧ Cont ks e' a' σ'
    | e => Cont ks e a σ
  | .blk id :: ks, e, a, σ => match e with
    | .exit k => match Nat.beq k id with
      | true => Cont ks .normal a σ
      | false => Cont ks (.exit k) a σ
    | e => Cont ks e a σ
def Tw (ks : List Kt) (r : Option (TEx × TAct × Sto)) : Prop := ∃ e a σ, r = some (e, a, σ) ∧ Cont an b C n Q ks e a σ
def TwC (v : TV) (ks : List Kt) (x y : XCode) (a : TAct) (σ : Sto) : Prop :=
  match v with
  | .bool true => Tw an b C n Q ks (tcode an b C n x a σ)
  | .bool false => Tw an b C n Q ks (tcode an b C n y a σ)
  | _ => False
end
section
variable {an : Ann} {b : Nat} {C : TCallee} {n : Nat} {a : TAct} {σ : Sto} {Q : TEx → TAct → Sto → Prop} {ks : List Kt}
theorem tw_some (e : TEx) : Tw an b C n Q ks (some (e, a, σ)) ↔ Cont an b C n Q ks e a σ :=
  ⟨fun ⟨_, _, _, h, q⟩ => by cases h; exact q, fun q => ⟨e, a, σ, rfl, q⟩⟩
theorem tw_none : Tw an b C n Q ks none ↔ False := ⟨fun ⟨_, _, _, h, _⟩ => (by cases h), fun h => False.elim h⟩
theorem tw_nil (e : TEx) : Cont an b C n Q [] e a σ ↔ Q e a σ := Iff.rfl
theorem tw_k {y : XCode} : Cont an b C n Q (.seq y :: ks) .normal a σ ↔ Tw an b C n Q ks (tcode an b C n y a σ) := Iff.rfl
theorem tw_k_exit {y : XCode} (id : Nat) : Cont an b C n Q (.seq y :: ks) (.exit id) a σ ↔ Cont an b C n Q ks (.exit id) a σ := Iff.rfl
theorem tw_k_ret {y : XCode} : Cont an b C n Q (.seq y :: ks) .ret a σ ↔ Cont an b C n Q ks .ret a σ := Iff.rfl
theorem tw_k_panic {y : XCode} (v : TV) : Cont an b C n Q (.seq y :: ks) (.panic v) a σ ↔ Cont an b C n Q ks (.panic v) a σ := Iff.rfl
theorem tw_b {id : Nat} : Cont an b C n Q (.blk id :: ks) .normal a σ ↔ Cont an b C n Q ks .normal a σ := Iff.rfl
theorem tw_b_ret {id : Nat} : Cont an b C n Q (.blk id :: ks) .ret a σ ↔ Cont an b C n Q ks .ret a σ := Iff.rfl
theorem tw_b_panic {id : Nat} (v : TV) : Cont an b C n Q (.blk id :: ks) (.panic v) a σ ↔ Cont an b C n Q ks (.panic v) a σ := Iff.rfl
theorem tw_b_exit {id k : Nat} : Cont an b C n Q (.blk id :: ks) (.exit k) a σ ↔ Cont an b C n Q ks (if k = id then .normal else .exit k) a σ := by
  simp only [Cont]
  rw [beqNat]
  by_cases h : k = id <;> simp [h]
theorem tw_seq {x y : XCode} : Tw an b C n Q ks (tcode an b C n (.seq x y) a σ) ↔ Tw an b C n Q (.seq y :: ks) (tcode an b C n x a σ) := by
  simp only [tcode]
  constructor
  · rintro ⟨e, a2, σ2, h, q⟩
    split at h
    · rename_i a1 σ1 h1; exact ⟨.normal, a1, σ1, h1, e, a2, σ2, h, q⟩
    · rename_i r hr
      refine ⟨e, a2, σ2, h, ?_⟩
      cases e with
      | normal => exact absurd h (hr _ _)
      | _ => exact q
  · rintro ⟨e, a1, σ1, h, q⟩
    rw [h]
    cases e with
    | normal => exact q
    | _ => exact ⟨_, _, _, rfl, q⟩
theorem tw_block {id : Nat} {c : XCode} : Tw an b C n Q ks (tcode an b C n (.block id c) a σ) ↔ Tw an b C n Q (.blk id :: ks) (tcode an b C n c a σ) := by
  simp only [tcode]
  constructor
  · rintro ⟨e, a2, σ2, h, q⟩
    split at h
    · rename_i k a1 σ1 h1
      refine ⟨.exit k, a1, σ1, h1, ?_⟩
      simp only [Cont]
      split at h
      · rename_i hb; rw [hb]; cases h; exact q
      · rename_i hb; rw [hb]; cases h; exact q
    · rename_i r hr
      refine ⟨e, a2, σ2, h, ?_⟩
      cases e with
      | exit k => exact absurd h (hr _ _ _)
      | _ => exact q
  · rintro ⟨e, a1, σ1, h, q⟩
    rw [h]
    cases e with
    | exit k =>
      simp only [Cont] at q
      simp only
      split at q
      · rename_i hb; rw [hb]; exact ⟨_, _, _, rfl, q⟩
      · rename_i hb; rw [hb]; exact ⟨_, _, _, rfl, q⟩
    | _ => exact ⟨_, _, _, rfl, q⟩
theorem tw_cond {c : Operand} {x y : XCode} : Tw an b C n Q ks (tcode an b C n (.cond c x y) a σ) ↔ TwC an b C n Q (a.ev c) ks x y a σ := by
  simp only [tcode]
  unfold TwC
  cases a.ev c <;> first | exact tw_none | skip
  rename_i t; cases t <;> exact Iff.rfl
theorem twc_true {x y : XCode} : TwC an b C n Q (.bool true) ks x y a σ ↔ Tw an b C n Q ks (tcode an b C n x a σ) := Iff.rfl
theorem twc_false {x y : XCode} : TwC an b C n Q (.bool false) ks x y a σ ↔ Tw an b C n Q ks (tcode an b C n y a σ) := Iff.rfl
theorem twc_split {x y : XCode} {t : Bool} (h1 : t = true → Tw an b C n Q ks (tcode an b C n x a σ)) (h2 : t = false → Tw an b C n Q ks (tcode an b C n y a σ)) : TwC an b C n Q (.bool t) ks x y a σ := by
  cases t
  · exact h2 rfl
  · exact h1 rfl
theorem tw_skip : Tw an b C n Q ks (tcode an b C n .skip a σ) ↔ Cont an b C n Q ks .normal a σ := tw_some _
theorem tw_exit {id : Nat} : Tw an b C n Q ks (tcode an b C n (.exit id) a σ) ↔ Cont an b C n Q ks (.exit id) a σ := tw_some _
theorem tw_ret : Tw an b C n Q ks (tcode an b C n .ret a σ) ↔ Cont an b C n Q ks .ret a σ := tw_some _
theorem tw_region {ops : List XOper} : Tw an b C n Q ks (tcode an b C n (.region ops) a σ) ↔ Tw an b C n Q ks (tops an b C ops a σ) := Iff.rfl
theorem tw_tloop (I : Nat → TAct → Sto → Prop) (len : Nat) {c : XCode} (R : TEx → TAct → Sto → Prop)
    (step : ∀ j a σ, j < len → I j a σ → Tw an b C n (fun e a σ => match e with | .normal => I (j + 1) a σ | e => R e a σ) [] (tcode an b C n c a σ))
    (stop : ∀ a σ, I len a σ → Tw an b C n (fun e a σ => match e with | .normal => False | e => R e a σ) [] (tcode an b C n c a σ)) :
    ∀ (m j : Nat) (a : TAct) (σ : Sto), len < j + m → j ≤ len → I j a σ → ∃ e a' σ', tloop (tcode an b C n c) m a σ = some (e, a', σ') ∧ R e a' σ'
  | 0, j, a, σ, h, h2, hI => by omega
  | m + 1, j, a, σ, h, h2, hI => by
    simp only [tloop]
    by_cases hj : j < len
    · obtain ⟨e, a1, σ1, h3, q⟩ := step j a σ hj hI
      rw [h3]
      cases e with
      | normal => exact tw_tloop I len R step stop m (j + 1) a1 σ1 (by omega) (by omega) q
      | _ => exact ⟨_, _, _, rfl, q⟩
    · obtain rfl : j = len := by omega
      obtain ⟨e, a1, σ1, h3, q⟩ := stop a σ hI
      rw [h3]
      cases e with
      | normal => exact q.elim
      | _ => exact ⟨_, _, _, rfl, q⟩
theorem tw_loop (I : Nat → TAct → Sto → Prop) (len : Nat) {c : XCode} (R : TEx → TAct → Sto → Prop) (h0 : I 0 a σ) (hn : len < n)
    (step : ∀ j a σ, j < len → I j a σ → Tw an b C n (fun e a σ => match e with | .normal => I (j + 1) a σ | e => R e a σ) [] (tcode an b C n c a σ))
    (stop : ∀ a σ, I len a σ → Tw an b C n (fun e a σ => match e with | .normal => False | e => R e a σ) [] (tcode an b C n c a σ))
    (next : ∀ e a σ, R e a σ → Cont an b C n Q ks e a σ) : Tw an b C n Q ks (tcode an b C n (.loop c) a σ) := by
  obtain ⟨e, a', σ', h1, h2⟩ := tw_tloop I len R step stop n 0 a σ (by omega) (Nat.zero_le _) h0
  exact ⟨e, a', σ', h1, next _ _ _ h2⟩
theorem tw_tloopB (I : Nat → TAct → Sto → Prop) (B : Nat) {c : XCode} (R : TEx → TAct → Sto → Prop) (bd : ∀ j a σ, I j a σ → j ≤ B)
    (step : ∀ j a σ, I j a σ → Tw an b C n (fun e a σ => match e with | .normal => I (j + 1) a σ | e => R e a σ) [] (tcode an b C n c a σ)) :
    ∀ (m j : Nat) (a : TAct) (σ : Sto), B < j + m → I j a σ → ∃ e a' σ', tloop (tcode an b C n c) m a σ = some (e, a', σ') ∧ R e a' σ'
  | 0, j, a, σ, h, hI => by have := bd j a σ hI; omega
  | m + 1, j, a, σ, h, hI => by
    simp only [tloop]
    obtain ⟨e, a1, σ1, h3, q⟩ := step j a σ hI
    rw [h3]
    cases e with
    | normal => exact tw_tloopB I B R bd step m (j + 1) a1 σ1 (by omega) q
    | _ => exact ⟨_, _, _, rfl, q⟩
theorem tw_loopB (I : Nat → TAct → Sto → Prop) (B : Nat) {c : XCode} (R : TEx → TAct → Sto → Prop) (h0 : I 0 a σ) (hn : B < n) (bd : ∀ j a σ, I j a σ → j ≤ B)
    (step : ∀ j a σ, I j a σ → Tw an b C n (fun e a σ => match e with | .normal => I (j + 1) a σ | e => R e a σ) [] (tcode an b C n c a σ))
    (next : ∀ e a σ, R e a σ → Cont an b C n Q ks e a σ) : Tw an b C n Q ks (tcode an b C n (.loop c) a σ) := by
  obtain ⟨e, a', σ', h1, h2⟩ := tw_tloopB I B R bd step n 0 a σ (by omega) h0
  exact ⟨e, a', σ', h1, next _ _ _ h2⟩
theorem Tw.done {r : Option (TEx × TAct × Sto)} (h : Tw an b C n Q [] r) : ∃ e a σ, r = some (e, a, σ) ∧ Q e a σ := h
theorem cont_cut (P : TAct → Sto → Prop) {y : XCode} (h : P a σ) (k : ∀ a σ, P a σ → Tw an b C n Q ks (tcode an b C n y a σ)) : Cont an b C n Q (.seq y :: ks) .normal a σ := k a σ h
end
def topsE (an : Ann) (b : Nat) (C : TCallee) : List XOper → TAct → Sto → Option (TAct × Sto)
  | [], a, σ => some (a, σ)
  | o :: r, a, σ =>
    match wantedT a o.guard with
    | none => none
    | some false => topsE an b C r (a.put o.dst undT) σ
    | some true => match o.op with
      | .call f args => match gives (args.map a.ev) with
        | some vs => match C b f vs σ with
          | some (.ret v, σ') => topsE an b C r ((frzs a args).tick.put o.dst v) σ'
          | _ => none
        | none => none
      | .callV x args => match gives (args.map a.ev) with
        | some vs => match targetT (a.ev x) vs with
          | some (f, l') => match C b f l' σ with
            | some (.ret v, σ') => topsE an b C r ((frzs a args).tick.put o.dst v) σ'
            | _ => none
          | none => none
        | none => none
      | op => match tdo (an.md o.dst) b a σ op with
        | some (v, a', σ') => topsE an b C r (a'.put o.dst v) σ'
        | none => none
theorem topsD_E (an : Ann) (b : Nat) (C : TCallee) : ∀ (ops : List XOper) (a : TAct) (σ : Sto) (l : List TRec) {a' : TAct} {σ' : Sto}, topsE an b C ops a σ = some (a', σ') → ∃ l', topsD an b C ops a σ l = some (a', σ', l')
  | [], a, σ, l, a', σ', h => by simp only [topsE] at h; cases h; exact ⟨_, rfl⟩
  | ⟨dst, op, guard⟩ :: ops, a, σ, l, a', σ', h => by
    have ih := topsD_E an b C ops
    rw [topsE] at h
    rw [topsD]
    cases hg : wantedT a guard with
    | none => simp only [hg] at h; cases h
    | some c =>
      cases c with
      | false => simp only [hg] at h ⊢; exact ih _ _ _ h
      | true =>
        simp only [hg] at h ⊢
        cases op
        case call f args =>
          simp only at h ⊢
          split at h
          · rename_i vs hgv
            rw [hgv]
            split at h
            · rename_i v σ1 hc
              simp only [hc]; exact ih _ _ _ h
            · cases h
          · cases h
        case callV x args =>
          simp only at h ⊢
          split at h
          · rename_i vs hgv
            rw [hgv]
            split at h
            · rename_i f l' ht
              simp only [ht]
              split at h
              · rename_i v σ1 hc
                simp only [hc]; exact ih _ _ _ h
              · cases h
            · cases h
          · cases h
        all_goals
          simp only at h ⊢
          split at h
          · rename_i v a1 σ1 hd
            simp only [hd]; exact ih _ _ _ h
          · cases h
section
variable (an : Ann) (b : Nat) (C : TCallee) (n : Nat) (Q : TEx → TAct → Sto → Prop)
def TwE (ks : List Kt) (r : Option (TAct × Sto)) : Prop := ∃ a σ, r = some (a, σ) ∧ Cont an b C n Q ks .normal a σ
def TwD (ps : List (Nat × Nat)) (ks : List Kt) (r : Option (TAct × Sto × List TRec)) : Prop := ∃ a σ l, r = some (a, σ, l) ∧ pairsOkT l ps = true ∧ Cont an b C n Q ks .normal a σ
end
section
variable {an : Ann} {b : Nat} {C : TCallee} {n : Nat} {a : TAct} {σ : Sto} {Q : TEx → TAct → Sto → Prop} {ks : List Kt}
theorem twE_some : TwE an b C n Q ks (some (a, σ)) ↔ Cont an b C n Q ks .normal a σ :=
  ⟨fun ⟨_, _, h, q⟩ => by cases h; exact q, fun q => ⟨a, σ, rfl, q⟩⟩
theorem twE_none : TwE an b C n Q ks none ↔ False := ⟨fun ⟨_, _, h, _⟩ => (by cases h), fun h => False.elim h⟩
theorem twD_some {ps : List (Nat × Nat)} {l : List TRec} : TwD an b C n Q ps ks (some (a, σ, l)) ↔ pairsOkT l ps = true ∧ Cont an b C n Q ks .normal a σ :=
  ⟨fun ⟨_, _, _, h, q⟩ => by cases h; exact q, fun q => ⟨a, σ, l, rfl, q⟩⟩
theorem twD_none {ps : List (Nat × Nat)} : TwD an b C n Q ps ks none ↔ False := ⟨fun ⟨_, _, _, h, _⟩ => (by cases h), fun h => False.elim h⟩
theorem topsD_E' : ∀ (ops : List XOper) (a : TAct) (σ : Sto) (l : List TRec) {a' : TAct} {σ' : Sto} {l' : List TRec}, topsD an b C ops a σ l = some (a', σ', l') → topsE an b C ops a σ = some (a', σ')
  | [], a, σ, l, a', σ', l', h => by simp only [topsD] at h; cases h; rfl
  | ⟨dst, op, guard⟩ :: ops, a, σ, l, a', σ', l', h => by
    have ih := @topsD_E' ops
    rw [topsD] at h
    rw [topsE]
    cases hg : wantedT a guard with
    | none => simp only [hg] at h; cases h
    | some c =>
      cases c with
      | false => simp only [hg] at h ⊢; exact ih _ _ _ h
      | true =>
        simp only [hg] at h ⊢
        cases op
        case call f args =>
          simp only at h ⊢
          split at h
          · rename_i vs hgv
            rw [hgv]
            split at h
            · rename_i v σ1 hc
              simp only [hc]; exact ih _ _ _ h
            · cases h
          · cases h
        case callV x args =>
          simp only at h ⊢
          split at h
          · rename_i vs hgv
            rw [hgv]
            split at h
            · rename_i f l' ht
              simp only [ht]
              split at h
              · rename_i v σ1 hc
                simp only [hc]; exact ih _ _ _ h
              · cases h
            · cases h
          · cases h
        all_goals
          simp only at h ⊢
          split at h
          · rename_i v a1 σ1 hd
            simp only [hd]; exact ih _ _ _ h
          · cases h
theorem tw_regionE {ops : List XOper} : Tw an b C n Q ks (tcode an b C n (.regionD ops []) a σ) ↔ TwE an b C n Q ks (topsE an b C ops a σ) := by
  simp only [tcode, pairsOkT]
  constructor
  · rintro ⟨e, a2, σ2, h, q⟩
    split at h
    · rename_i a1 σ1 l hd
      cases h
      exact ⟨_, _, topsD_E' _ _ _ _ hd, q⟩
    · cases h
  · rintro ⟨a1, σ1, h, q⟩
    obtain ⟨l', hl⟩ := topsD_E an b C ops a σ [] h
    rw [hl]
    exact ⟨_, _, _, rfl, q⟩
theorem tw_regionD {ops : List XOper} {p : Nat × Nat} {ps : List (Nat × Nat)} : Tw an b C n Q ks (tcode an b C n (.regionD ops (p :: ps)) a σ) ↔ TwD an b C n Q (p :: ps) ks (topsD an b C ops a σ []) := by
  simp only [tcode]
  constructor
  · rintro ⟨e, a2, σ2, h, q⟩
    split at h
    · rename_i a1 σ1 l hd
      split at h
      · rename_i hp; cases h; exact ⟨_, _, _, hd, hp, q⟩
      · cases h
    · cases h
  · rintro ⟨a1, σ1, l, h, hp, q⟩
    rw [h]
    simp only [hp]
    exact ⟨_, _, _, rfl, q⟩
end
theorem tbin_add (k : IntKind) (a b : Int) : tbin .add (.int k a) (.int k b) = some (.int k (k.wrap (a + b))) := by cases k <;> rfl
theorem tbin_sub (k : IntKind) (a b : Int) : tbin .sub (.int k a) (.int k b) = some (.int k (k.wrap (a - b))) := by cases k <;> rfl
theorem tbin_mul (k : IntKind) (a b : Int) : tbin .mul (.int k a) (.int k b) = some (.int k (k.wrap (a * b))) := by cases k <;> rfl
theorem tbin_eql (k : IntKind) (a b : Int) : tbin .eql (.int k a) (.int k b) = some (.bool (decide (a = b))) := by rw [← beqInt_eq]; cases k <;> rfl
theorem tbin_neq (k : IntKind) (a b : Int) : tbin .neq (.int k a) (.int k b) = some (.bool (!(decide (a = b)))) := by rw [← beqInt_eq]; cases k <;> rfl
theorem tbin_lss (k : IntKind) (a b : Int) : tbin .lss (.int k a) (.int k b) = some (.bool (decide (a < b))) := by rw [← ltInt_eq]; cases k <;> rfl
theorem tbin_gtr (k : IntKind) (a b : Int) : tbin .gtr (.int k a) (.int k b) = some (.bool (decide (b < a))) := by rw [← ltInt_eq]; cases k <;> rfl
theorem tbin_leq (k : IntKind) (a b : Int) : tbin .leq (.int k a) (.int k b) = some (.bool (decide (a ≤ b))) := by
  have h : tbin .leq (.int k a) (.int k b) = some (.bool (leInt a b)) := by cases k <;> rfl
  rw [h, leInt, ltInt_eq]; congr 2; by_cases h : a ≤ b <;> simp [h] <;> omega
theorem tbin_geq (k : IntKind) (a b : Int) : tbin .geq (.int k a) (.int k b) = some (.bool (decide (b ≤ a))) := by
  have h : tbin .geq (.int k a) (.int k b) = some (.bool (leInt b a)) := by cases k <;> rfl
  rw [h, leInt, ltInt_eq]; congr 2; by_cases h : b ≤ a <;> simp [h] <;> omega
theorem beqBytes_spec (x y : List UInt8) : beqBytes x y = decide (x = y) := by
  rw [Xe.beqBytes_eq]
  by_cases h : x = y
  · subst h; simp
  · simp [h]
theorem beqBytes_eq (x y : ByteArray) : beqBytes x.data.toList y.data.toList = decide (x = y) := by
  rw [beqBytes_spec]
  congr 1
  apply propext
  constructor
  · intro h
    have : x.data = y.data := Array.ext' h
    cases x; cases y; simpa using this
  · rintro rfl; rfl
theorem tbin_seql (x y : ByteArray) : tbin .eql (.str x) (.str y) = some (.bool (decide (x = y))) := by rw [← beqBytes_eq]; rfl
theorem tbin_sneq (x y : ByteArray) : tbin .neq (.str x) (.str y) = some (.bool (!(decide (x = y)))) := by rw [← beqBytes_eq]; rfl
theorem bleT (a b : Nat) : Nat.ble a b = decide (a ≤ b) := bleNat a b
theorem bltT (a b : Nat) : Nat.blt a b = decide (a < b) := bltNat a b
theorem beqT (a b : Nat) : Nat.beq a b = decide (a = b) := beqNat a b
theorem wrap_in (n : Int) (h0 : -9223372036854775808 ≤ n) (h1 : n ≤ 9223372036854775807) : IntKind.i64.wrap n = n := Xe.wrap_small n h0 h1
end Go.Xt
end
section
namespace Go.Xe.YtalckpkiplhbcaaGreatDoor
open Go Go.Xe Go.Xt
@[simp] def a4 : Ann := fun d => if d = 4 then 1 else if d = 8 then 1 else if d = 21 then 1 else if d = 26 then 1 else 0
def f4 : TFun := ⟨x4, a4, false⟩
@[simp] theorem f4_an : f4.an = a4 := rfl
@[simp] theorem f4_body : f4.fn.body = x4.body := rfl
@[simp] theorem f4_keep : f4.keep = false := rfl
@[simp] theorem f4_res : f4.fn.results = [.tmp 4] := rfl
@[simp] def a6 : Ann := fun d => if d = 4 then 1 else if d = 5 then 1 else if d = 6 then 1 else if d = 11 then 1 else if d = 17 then 1 else if d = 18 then 2 else if d = 20 then 2 else if d = 27 then 2 else if d = 29 then 2 else if d = 34 then 1 else if d = 35 then 2 else if d = 36 then 2 else if d = 39 then 2 else if d = 47 then 2 else if d = 48 then 2 else if d = 50 then 2 else if d = 51 then 2 else 0
def f6 : TFun := ⟨x6, a6, false⟩
@[simp] theorem f6_an : f6.an = a6 := rfl
@[simp] theorem f6_body : f6.fn.body = x6.body := rfl
@[simp] theorem f6_keep : f6.keep = false := rfl
@[simp] theorem f6_res : f6.fn.results = [.tmp 4] := rfl
@[simp] def a7 : Ann := fun d => if d = 4 then 1 else if d = 5 then 1 else if d = 6 then 1 else if d = 7 then 2 else if d = 11 then 2 else if d = 17 then 2 else if d = 18 then 2 else if d = 20 then 2 else if d = 21 then 2 else 0
def f7 : TFun := ⟨x7, a7, false⟩
@[simp] theorem f7_an : f7.an = a7 := rfl
@[simp] theorem f7_body : f7.fn.body = x7.body := rfl
@[simp] theorem f7_keep : f7.keep = false := rfl
@[simp] theorem f7_res : f7.fn.results = [.tmp 4] := rfl
@[simp] def a13 : Ann := fun d => if d = 4 then 1 else if d = 6 then 2 else if d = 8 then 2 else if d = 10 then 1 else if d = 12 then 2 else if d = 14 then 2 else if d = 17 then 1 else if d = 24 then 1 else if d = 26 then 2 else if d = 28 then 2 else 0
def f13 : TFun := ⟨x13, a13, false⟩
@[simp] theorem f13_an : f13.an = a13 := rfl
@[simp] theorem f13_body : f13.fn.body = x13.body := rfl
@[simp] theorem f13_keep : f13.keep = false := rfl
@[simp] theorem f13_res : f13.fn.results = [.tmp 4] := rfl
@[simp] def a14 : Ann := fun d => if d = 5 then 1 else if d = 6 then 1 else if d = 14 then 1 else if d = 23 then 1 else if d = 25 then 2 else if d = 27 then 2 else if d = 30 then 1 else if d = 38 then 2 else if d = 43 then 2 else if d = 57 then 2 else if d = 62 then 2 else 0
def f14 : TFun := ⟨x14, a14, false⟩
@[simp] theorem f14_an : f14.an = a14 := rfl
@[simp] theorem f14_body : f14.fn.body = x14.body := rfl
@[simp] theorem f14_keep : f14.keep = false := rfl
@[simp] theorem f14_res : f14.fn.results = [.tmp 4] := rfl
@[simp] def a23 : Ann := fun d => if d = 4 then 1 else if d = 5 then 1 else if d = 6 then 1 else if d = 7 then 2 else if d = 11 then 2 else if d = 17 then 2 else if d = 18 then 2 else if d = 20 then 2 else if d = 21 then 2 else 0
def f23 : TFun := ⟨x23, a23, false⟩
@[simp] theorem f23_an : f23.an = a23 := rfl
@[simp] theorem f23_body : f23.fn.body = x23.body := rfl
@[simp] theorem f23_keep : f23.keep = false := rfl
@[simp] theorem f23_res : f23.fn.results = [.tmp 4] := rfl
@[simp] def a24 : Ann := fun d => if d = 1 then 1 else if d = 6 then 1 else if d = 7 then 1 else if d = 8 then 2 else if d = 14 then 2 else if d = 20 then 2 else if d = 22 then 2 else if d = 27 then 1 else if d = 28 then 2 else if d = 29 then 2 else if d = 32 then 2 else if d = 39 then 2 else if d = 40 then 2 else if d = 42 then 1 else 0
def f24 : TFun := ⟨x24, a24, false⟩
@[simp] theorem f24_an : f24.an = a24 := rfl
@[simp] theorem f24_body : f24.fn.body = x24.body := rfl
@[simp] theorem f24_keep : f24.keep = false := rfl
@[simp] theorem f24_res : f24.fn.results = [.tmp 6] := rfl
@[simp] def a25 : Ann := fun d => if d = 1 then 1 else if d = 6 then 1 else if d = 7 then 1 else if d = 8 then 2 else if d = 10 then 2 else if d = 15 then 1 else if d = 16 then 2 else if d = 17 then 2 else if d = 20 then 2 else if d = 27 then 2 else if d = 28 then 2 else if d = 30 then 1 else 0
def f25 : TFun := ⟨x25, a25, false⟩
@[simp] theorem f25_an : f25.an = a25 := rfl
@[simp] theorem f25_body : f25.fn.body = x25.body := rfl
@[simp] theorem f25_keep : f25.keep = false := rfl
@[simp] theorem f25_res : f25.fn.results = [.tmp 6] := rfl
@[simp] def a35 : Ann := fun d => if d = 7 then 1 else if d = 15 then 2 else if d = 17 then 1 else if d = 19 then 1 else if d = 23 then 1 else if d = 26 then 2 else 0
def f35 : TFun := ⟨x35, a35, false⟩
@[simp] theorem f35_an : f35.an = a35 := rfl
@[simp] theorem f35_body : f35.fn.body = x35.body := rfl
@[simp] theorem f35_keep : f35.keep = false := rfl
@[simp] theorem f35_res : f35.fn.results = [.tmp 6] := rfl
@[simp] def a36 : Ann := fun d => if d = 4 then 1 else if d = 6 then 2 else if d = 8 then 2 else if d = 10 then 1 else if d = 12 then 2 else if d = 14 then 2 else 0
def f36 : TFun := ⟨x36, a36, false⟩
@[simp] theorem f36_an : f36.an = a36 := rfl
@[simp] theorem f36_body : f36.fn.body = x36.body := rfl
@[simp] theorem f36_keep : f36.keep = false := rfl
@[simp] theorem f36_res : f36.fn.results = [.tmp 4] := rfl
@[simp] def a37 : Ann := fun d => if d = 7 then 1 else if d = 15 then 2 else if d = 17 then 1 else if d = 19 then 1 else if d = 23 then 1 else if d = 26 then 2 else 0
def f37 : TFun := ⟨x37, a37, false⟩
@[simp] theorem f37_an : f37.an = a37 := rfl
@[simp] theorem f37_body : f37.fn.body = x37.body := rfl
@[simp] theorem f37_keep : f37.keep = false := rfl
@[simp] theorem f37_res : f37.fn.results = [.tmp 6] := rfl
@[simp] def a38 : Ann := fun d => if d = 4 then 1 else if d = 6 then 2 else if d = 8 then 2 else if d = 10 then 1 else if d = 12 then 2 else if d = 14 then 2 else if d = 17 then 1 else 0
def f38 : TFun := ⟨x38, a38, false⟩
@[simp] theorem f38_an : f38.an = a38 := rfl
@[simp] theorem f38_body : f38.fn.body = x38.body := rfl
@[simp] theorem f38_keep : f38.keep = false := rfl
@[simp] theorem f38_res : f38.fn.results = [.tmp 4] := rfl
@[simp] def a39 : Ann := fun d => if d = 4 then 1 else if d = 6 then 2 else if d = 8 then 2 else if d = 10 then 1 else if d = 12 then 2 else if d = 14 then 2 else if d = 17 then 1 else 0
def f39 : TFun := ⟨x39, a39, false⟩
@[simp] theorem f39_an : f39.an = a39 := rfl
@[simp] theorem f39_body : f39.fn.body = x39.body := rfl
@[simp] theorem f39_keep : f39.keep = false := rfl
@[simp] theorem f39_res : f39.fn.results = [.tmp 4] := rfl
@[simp] def a40 : Ann := fun d => if d = 5 then 1 else if d = 7 then 2 else if d = 9 then 2 else if d = 11 then 1 else if d = 20 then 2 else if d = 25 then 2 else 0
def f40 : TFun := ⟨x40, a40, false⟩
@[simp] theorem f40_an : f40.an = a40 := rfl
@[simp] theorem f40_body : f40.fn.body = x40.body := rfl
@[simp] theorem f40_keep : f40.keep = false := rfl
@[simp] theorem f40_res : f40.fn.results = [.tmp 4] := rfl
@[simp] def a47 : Ann := fun d => if d = 1 then 1 else if d = 6 then 1 else if d = 7 then 1 else if d = 8 then 2 else if d = 10 then 2 else if d = 15 then 1 else if d = 16 then 2 else if d = 17 then 2 else if d = 20 then 2 else if d = 27 then 2 else if d = 28 then 2 else if d = 30 then 1 else 0
def f47 : TFun := ⟨x47, a47, false⟩
@[simp] theorem f47_an : f47.an = a47 := rfl
@[simp] theorem f47_body : f47.fn.body = x47.body := rfl
@[simp] theorem f47_keep : f47.keep = false := rfl
@[simp] theorem f47_res : f47.fn.results = [.tmp 6] := rfl
@[simp] def a64 : Ann := fun d => if d = 4 then 1 else if d = 6 then 2 else if d = 8 then 2 else if d = 10 then 1 else if d = 12 then 2 else if d = 14 then 2 else if d = 17 then 1 else if d = 19 then 2 else if d = 21 then 2 else if d = 24 then 1 else if d = 31 then 1 else if d = 33 then 2 else if d = 35 then 2 else if d = 38 then 1 else if d = 40 then 2 else if d = 42 then 2 else 0
def f64 : TFun := ⟨x64, a64, false⟩
@[simp] theorem f64_an : f64.an = a64 := rfl
@[simp] theorem f64_body : f64.fn.body = x64.body := rfl
@[simp] theorem f64_keep : f64.keep = false := rfl
@[simp] theorem f64_res : f64.fn.results = [.tmp 4] := rfl
@[simp] def a65 : Ann := fun d => if d = 5 then 1 else if d = 7 then 2 else if d = 9 then 2 else if d = 11 then 1 else if d = 13 then 2 else if d = 15 then 2 else if d = 18 then 1 else if d = 20 then 2 else if d = 22 then 2 else if d = 25 then 1 else if d = 33 then 1 else if d = 35 then 2 else if d = 37 then 2 else if d = 41 then 1 else if d = 50 then 2 else if d = 55 then 2 else 0
def f65 : TFun := ⟨x65, a65, false⟩
@[simp] theorem f65_an : f65.an = a65 := rfl
@[simp] theorem f65_body : f65.fn.body = x65.body := rfl
@[simp] theorem f65_keep : f65.keep = false := rfl
@[simp] theorem f65_res : f65.fn.results = [.tmp 4] := rfl
@[simp] def a106 : Ann := fun d => if d = 4 then 1 else 0
def f106 : TFun := ⟨x106, a106, false⟩
@[simp] theorem f106_an : f106.an = a106 := rfl
@[simp] theorem f106_body : f106.fn.body = x106.body := rfl
@[simp] theorem f106_keep : f106.keep = false := rfl
@[simp] theorem f106_res : f106.fn.results = [.tmp 4] := rfl
@[simp] def a107 : Ann := fun d => if d = 5 then 1 else if d = 13 then 1 else if d = 15 then 1 else if d = 19 then 2 else if d = 23 then 2 else 0
def f107 : TFun := ⟨x107, a107, false⟩
@[simp] theorem f107_an : f107.an = a107 := rfl
@[simp] theorem f107_body : f107.fn.body = x107.body := rfl
@[simp] theorem f107_keep : f107.keep = false := rfl
@[simp] theorem f107_res : f107.fn.results = [.tmp 4] := rfl
@[simp] def a108 : Ann := fun d => if d = 7 then 1 else if d = 15 then 2 else if d = 17 then 1 else if d = 19 then 1 else if d = 23 then 1 else if d = 26 then 2 else 0
def f108 : TFun := ⟨x108, a108, false⟩
@[simp] theorem f108_an : f108.an = a108 := rfl
@[simp] theorem f108_body : f108.fn.body = x108.body := rfl
@[simp] theorem f108_keep : f108.keep = false := rfl
@[simp] theorem f108_res : f108.fn.results = [.tmp 6] := rfl
@[simp] def a109 : Ann := fun d => if d = 4 then 1 else 0
def f109 : TFun := ⟨x109, a109, false⟩
@[simp] theorem f109_an : f109.an = a109 := rfl
@[simp] theorem f109_body : f109.fn.body = x109.body := rfl
@[simp] theorem f109_keep : f109.keep = false := rfl
@[simp] theorem f109_res : f109.fn.results = [.tmp 4] := rfl
@[simp] def a110 : Ann := fun d => if d = 5 then 1 else if d = 11 then 2 else if d = 15 then 2 else if d = 20 then 2 else if d = 24 then 2 else 0
def f110 : TFun := ⟨x110, a110, false⟩
@[simp] theorem f110_an : f110.an = a110 := rfl
@[simp] theorem f110_body : f110.fn.body = x110.body := rfl
@[simp] theorem f110_keep : f110.keep = false := rfl
@[simp] theorem f110_res : f110.fn.results = [.tmp 4] := rfl
@[simp] def a158 : Ann := fun d => if d = 4 then 1 else if d = 5 then 1 else if d = 7 then 2 else if d = 9 then 2 else if d = 11 then 2 else if d = 14 then 2 else if d = 16 then 2 else if d = 18 then 2 else if d = 21 then 2 else if d = 23 then 2 else if d = 25 then 1 else 0
def f158 : TFun := ⟨x158, a158, false⟩
@[simp] theorem f158_an : f158.an = a158 := rfl
@[simp] theorem f158_body : f158.fn.body = x158.body := rfl
@[simp] theorem f158_keep : f158.keep = false := rfl
@[simp] theorem f158_res : f158.fn.results = [.tmp 4] := rfl
@[simp] def a159 : Ann := fun d => if d = 4 then 1 else if d = 5 then 1 else if d = 6 then 1 else if d = 8 then 2 else if d = 10 then 2 else if d = 12 then 2 else if d = 15 then 2 else if d = 17 then 2 else if d = 19 then 2 else if d = 21 then 1 else if d = 22 then 2 else if d = 28 then 1 else if d = 29 then 2 else if d = 35 then 2 else if d = 48 then 2 else if d = 57 then 1 else 0
def f159 : TFun := ⟨x159, a159, false⟩
@[simp] theorem f159_an : f159.an = a159 := rfl
@[simp] theorem f159_body : f159.fn.body = x159.body := rfl
@[simp] theorem f159_keep : f159.keep = false := rfl
@[simp] theorem f159_res : f159.fn.results = [.tmp 4] := rfl
@[simp] def a165 : Ann := fun d => if d = 2 then 1 else if d = 3 then 2 else if d = 4 then 2 else 0
def f165 : TFun := ⟨x165, a165, false⟩
@[simp] theorem f165_an : f165.an = a165 := rfl
@[simp] theorem f165_body : f165.fn.body = x165.body := rfl
@[simp] theorem f165_keep : f165.keep = false := rfl
@[simp] theorem f165_res : f165.fn.results = [.tmp 2] := rfl
@[simp] def a180 : Ann := fun d => if d = 5 then 1 else if d = 6 then 1 else if d = 7 then 2 else if d = 9 then 2 else if d = 11 then 1 else if d = 14 then 2 else if d = 15 then 2 else if d = 17 then 2 else if d = 18 then 2 else 0
def f180 : TFun := ⟨x180, a180, false⟩
@[simp] theorem f180_an : f180.an = a180 := rfl
@[simp] theorem f180_body : f180.fn.body = x180.body := rfl
@[simp] theorem f180_keep : f180.keep = false := rfl
@[simp] theorem f180_res : f180.fn.results = [.tmp 4] := rfl
@[simp] def a181 : Ann := fun d => if d = 6 then 1 else if d = 7 then 1 else if d = 10 then 1 else if d = 11 then 2 else if d = 13 then 1 else if d = 15 then 1 else if d = 18 then 2 else if d = 26 then 2 else if d = 30 then 2 else if d = 32 then 1 else 0
def f181 : TFun := ⟨x181, a181, false⟩
@[simp] theorem f181_an : f181.an = a181 := rfl
@[simp] theorem f181_body : f181.fn.body = x181.body := rfl
@[simp] theorem f181_keep : f181.keep = false := rfl
@[simp] theorem f181_res : f181.fn.results = [.tmp 6] := rfl
@[simp] def a182 : Ann := fun d => if d = 5 then 1 else if d = 6 then 2 else if d = 7 then 2 else if d = 9 then 1 else if d = 10 then 2 else if d = 11 then 2 else 0
def f182 : TFun := ⟨x182, a182, false⟩
@[simp] theorem f182_an : f182.an = a182 := rfl
@[simp] theorem f182_body : f182.fn.body = x182.body := rfl
@[simp] theorem f182_keep : f182.keep = false := rfl
@[simp] theorem f182_res : f182.fn.results = [.tmp 4] := rfl
end Go.Xe.YtalckpkiplhbcaaGreatDoor
end
section
namespace Go.Xt
open Go Go.Xe
set_option linter.unusedVariables false
attribute [simp] Function.comp_def small Xe.ones tops wantedT tdo TAct.ev TAct.at TAct.put TAct.tick taken isOwn frz frz1 frzs Tri.ofList Tri.get_set Tri.get_nil TV.cells onesT stok Ann.md ofV ofV.ofVs boxAt boxPut tLoad1 tLoadN tStore tMove tLen tVal tNew
  tIndex tSlice srcT tAppend apm slOk bytesSrc Md.app plGet velAt plSet ownChs reSl give gives fillT putAt chop repT boundT optB hiB boundsT tLookup tMapUpdate targetT enterT tres tresults packedT tleave tfinish canon canon.canons below below.belows
  below.belowss okSz tun teq teqs baseOk Pl.old baseOf Pl.offX isStr
  topsE topsD pairsOkT pairOkT freeT stays sepT kindOf twE_some twE_none twD_some twD_none tw_regionE tw_regionD
  tw_some tw_none tw_nil tw_k tw_k_exit tw_k_ret tw_k_panic tw_b tw_b_ret tw_b_panic tw_b_exit tw_seq tw_block tw_cond twc_true twc_false tw_skip tw_exit tw_ret tw_region
  tbin_add tbin_sub tbin_mul tbin_eql tbin_neq tbin_lss tbin_gtr tbin_leq tbin_geq tbin_seql tbin_sneq bleT bltT beqT
def Fin (fn : TFun) (k : Nat) (P : TEnd → Sto → Prop) : TEx → TAct → Sto → Prop
  | .normal, a, σ => a.df = [] ∧ ∃ e σ', tfinish a fn k σ .ret = some (e, σ') ∧ P e σ'
  | .ret, a, σ => a.df = [] ∧ ∃ e σ', tfinish a fn k σ .ret = some (e, σ') ∧ P e σ'
  | .panic v, a, σ => a.df = [] ∧ ∃ e σ', tfinish a fn k σ (.panicking v) = some (e, σ') ∧ P e σ'
  | .exit _, _, _ => False
theorem fin_normal (fn : TFun) (k : Nat) (P : TEnd → Sto → Prop) (a : TAct) (σ : Sto) : Fin fn k P .normal a σ ↔ a.df = [] ∧ ∃ e σ', tfinish a fn k σ .ret = some (e, σ') ∧ P e σ' := Iff.rfl
theorem fin_ret (fn : TFun) (k : Nat) (P : TEnd → Sto → Prop) (a : TAct) (σ : Sto) : Fin fn k P .ret a σ ↔ a.df = [] ∧ ∃ e σ', tfinish a fn k σ .ret = some (e, σ') ∧ P e σ' := Iff.rfl
theorem fin_panic (fn : TFun) (k : Nat) (P : TEnd → Sto → Prop) (v : TV) (a : TAct) (σ : Sto) : Fin fn k P (.panic v) a σ ↔ a.df = [] ∧ ∃ e σ', tfinish a fn k σ (.panicking v) = some (e, σ') ∧ P e σ' := Iff.rfl
attribute [simp] fin_normal fin_ret fin_panic
@[simp] theorem ex2 {α β : Type} {x : α} {y : β} {P : α → β → Prop} : (∃ e s, (x = e ∧ y = s) ∧ P e s) ↔ P x y :=
  ⟨fun ⟨_, _, ⟨h1, h2⟩, h⟩ => by subst h1; subst h2; exact h, fun h => ⟨x, y, ⟨rfl, rfl⟩, h⟩⟩
theorem tcall_of {F : FuncId → Option TFun} {O : FuncId → List TV → Option TV} {N b : Nat} {f : FuncId} {args : List TV} {σ : Sto} {fn : TFun} (hF : F f = some fn) {P : TEnd → Sto → Prop}
    (h : Tw fn.an (baseOf fn.keep b σ.length) (tcall F O N) N (Fin fn σ.length P) [] (tcode fn.an (baseOf fn.keep b σ.length) (tcall F O N) N fn.fn.body (enterT args) σ)) :
    ∃ e σ', tcall F O (N + 1) b f args σ = some (e, σ') ∧ P e σ' := by
  obtain ⟨e, a, σ1, h1, h2⟩ := h
  simp only [tcall, hF]
  cases e with
  | normal => obtain ⟨h3, e, σ', h4, h5⟩ := h2; refine ⟨e, σ', ?_, h5⟩; rw [h1]; simp only [h3, tdefers]; exact h4
  | ret => obtain ⟨h3, e, σ', h4, h5⟩ := h2; refine ⟨e, σ', ?_, h5⟩; rw [h1]; simp only [h3, tdefers]; exact h4
  | panic v => obtain ⟨h3, e, σ', h4, h5⟩ := h2; refine ⟨e, σ', ?_, h5⟩; rw [h1]; simp only [h3, tdefers]; exact h4
  | exit id => exact h2.elim
theorem tcall_pure {F : FuncId → Option TFun} {O : FuncId → List TV → Option TV} {N b : Nat} {f : FuncId} {args : List TV} {σ : Sto} {fn : TFun} (hF : F f = some fn) {v : TV}
    (h : Tw fn.an (baseOf fn.keep b σ.length) (tcall F O N) N (Fin fn σ.length fun e σ' => e = .ret v ∧ σ' = σ) [] (tcode fn.an (baseOf fn.keep b σ.length) (tcall F O N) N fn.fn.body (enterT args) σ)) :
    tcall F O (N + 1) b f args σ = some (.ret v, σ) := by
  obtain ⟨e, σ', h1, rfl, rfl⟩ := tcall_of hF h
  exact h1
theorem below_encT (b : Nat) : (∀ t, below.belows b (encT t) = true) ∧ ∀ l, below.belowss b (encTs l) = true := by
  have h : ∀ n, (∀ t, szT t ≤ n → below.belows b (encT t) = true) ∧ ∀ l, szTs l ≤ n → below.belowss b (encTs l) = true := by
    intro n
    induction n with
    | zero => exact ⟨fun t h => by rw [szT_def] at h; omega, fun l h => by cases l <;> simp_all [szTs, encTs, below.belowss]⟩
    | succ n ih =>
      constructor
      · intro t h
        cases t with
        | mk k l => simp only [szT] at h; simp [encT, below.belows, below, ih.2 l (by omega)]
      · intro l h
        cases l with
        | nil => rfl
        | cons t l => simp only [szTs] at h; simp [encTs, below.belowss, ih.1 t (by omega), ih.2 l (by omega)]
  exact ⟨fun t => (h _).1 t (Nat.le_refl _), fun l => (h _).2 l (Nat.le_refl _)⟩
theorem below_map {α : Type} (b : Nat) (f : α → List TV) (h : ∀ x, below.belows b (f x) = true) : ∀ l : List α, below.belowss b (l.map f) = true
  | [] => rfl
  | x :: l => by simp only [List.map_cons, below.belowss, h, below_map b f h l, Bool.and_self]
theorem below_encS (b : Nat) (s : Str) : below.belows b (encS s) = true := rfl
theorem below_encI (b : Nat) (s : Int) : below.belows b (encI s) = true := rfl
theorem below_encB (b : Nat) (s : Bool) : below.belows b (encB s) = true := rfl
@[simp] theorem all_tt {α : Type} (l : List α) : (l.all fun _ => true) = true := List.all_eq_true.2 fun _ _ => rfl
@[simp] theorem any_ff {α : Type} (l : List α) : (l.any fun _ => false) = false := List.any_eq_false.2 fun _ _ => by simp
@[simp] theorem take_set_len (σ : Sto) (i : Nat) (x : Option TObj) : List.take (List.length σ) (List.set σ i x) = List.set σ i x := List.take_of_length_le (by simp)
@[simp] theorem take_app_len (σ τ : Sto) : List.take (List.length σ) (σ ++ τ) = σ := by simp
@[simp] theorem take_map_len {α β : Type} (f : α → β) (l : List α) : List.take l.length (l.map f) = l.map f := List.take_of_length_le (by simp)
theorem Sto.lt {σ : Sto} {k : Nat} {o : TObj} (h : σ.at k = some o) : k < σ.length := by
  unfold Sto.at at h
  split at h
  · rename_i x hx; exact (List.getElem?_eq_some_iff.1 hx).1
  · cases h
theorem at_ne {σ : Sto} {k j : Nat} {o : Option TObj} (h : k ≠ j) : Sto.at (σ.set k o) j = σ.at j := by simp only [Sto.at]; rw [List.getElem?_set_ne h]
theorem Sto.set_same {σ : Sto} {k : Nat} {o : TObj} (h : σ.at k = some o) : σ.set k (some o) = σ := by
  have hk := Sto.lt h
  unfold Sto.at at h
  split at h
  · rename_i x hx
    cases h
    have := (List.getElem?_eq_some_iff.1 hx).2
    rw [← this]; simp
  · cases h
def tk {α : Type} (l : List α) (j : Nat) : List α := l.take j
theorem tk_zero {α : Type} (l : List α) : tk l 0 = [] := rfl
theorem tk_all {α : Type} (l : List α) : tk l l.length = l := List.take_length
theorem tk_succ {α : Type} {l : List α} {j : Nat} (h : j < l.length) : tk l (j + 1) = tk l j ++ [l[j]] := by unfold tk; simp
theorem tk_len {α : Type} {l : List α} {j : Nat} (h : j ≤ l.length) : (tk l j).length = j := by unfold tk; simp; omega
inductive Bld (e s : Nat) : List (List TV) → TV → Prop
  | nl : Bld e s [] (.sl .nl [])
  | own (l : List (List TV)) : Bld e s l (.sl (.own e s) l)
theorem Bld.inv {e s : Nat} {l : List (List TV)} {v : TV} (h : Bld e s l v) : (l = [] ∧ v = .sl .nl []) ∨ v = .sl (.own e s) l := by
  cases h
  · exact .inl ⟨rfl, rfl⟩
  · exact .inr rfl
end Go.Xt
end
section
namespace Go.Xt
open Go Go.Xe
set_option linter.unusedVariables false
set_option linter.unusedSimpArgs false
inductive PVal where
  | mk (kind n : Int) (list : List PVal)
namespace PVal
def kind : PVal → Int | .mk k _ _ => k
def n : PVal → Int | .mk _ n _ => n
def list : PVal → List PVal | .mk _ _ l => l
end PVal
inductive PTerm where
  | mk (kind n m : Int) (val : PVal) (odds : List Int) (kids : List PTerm)
namespace PTerm
def kind : PTerm → Int | .mk k _ _ _ _ _ => k
def n : PTerm → Int | .mk _ n _ _ _ _ => n
def m : PTerm → Int | .mk _ _ m _ _ _ => m
def val : PTerm → PVal | .mk _ _ _ v _ _ => v
def odds : PTerm → List Int | .mk _ _ _ _ o _ => o
def kids : PTerm → List PTerm | .mk _ _ _ _ _ l => l
end PTerm
structure PBody where
  params : Int
  slots : Int
  term : PTerm
structure PCore where
  types : List PTyp
  funs : List PBody
  query : PBody
  sites : Int
mutual
def encV : PVal → List TV
  | .mk k n l => [.int .i64 k, .int .i64 n, .sl .fz (encVs l)]
def encVs : List PVal → List (List TV)
  | [] => []
  | t :: l => encV t :: encVs l
end
theorem encVs_eq : ∀ l, encVs l = l.map encV
  | [] => rfl
  | t :: l => by simp only [encVs, List.map_cons, encVs_eq l]
theorem encV_def (t : PVal) : encV t = [.int .i64 t.kind, .int .i64 t.n, .sl .fz (t.list.map encV)] := by cases t; simp only [encV, encVs_eq, PVal.kind, PVal.n, PVal.list]
mutual
def encTm : PTerm → List TV
  | .mk k n m v o l => .int .i64 k :: .int .i64 n :: .int .i64 m :: (encV v ++ [.sl .fz (o.map encI), .sl .fz (encTms l)])
def encTms : List PTerm → List (List TV)
  | [] => []
  | t :: l => encTm t :: encTms l
end
theorem encTms_eq : ∀ l, encTms l = l.map encTm
  | [] => rfl
  | t :: l => by simp only [encTms, List.map_cons, encTms_eq l]
theorem encTm_mk (t : PTerm) : encTm t = .int .i64 t.kind :: .int .i64 t.n :: .int .i64 t.m :: (encV t.val ++ [.sl .fz (t.odds.map encI), .sl .fz (t.kids.map encTm)]) := by
  cases t; simp only [encTm, encTms_eq, PTerm.kind, PTerm.n, PTerm.m, PTerm.val, PTerm.odds, PTerm.kids]
theorem encTm_def (t : PTerm) : encTm t = [.int .i64 t.kind, .int .i64 t.n, .int .i64 t.m, .int .i64 t.val.kind, .int .i64 t.val.n, .sl .fz (t.val.list.map encV), .sl .fz (t.odds.map encI), .sl .fz (t.kids.map encTm)] := by
  rw [encTm_mk, encV_def]; rfl
def encBd (b : PBody) : List TV := .int .i64 b.params :: .int .i64 b.slots :: encTm b.term
def encC (c : PCore) : List TV := .sl .fz (c.types.map encT) :: .sl .fz (c.funs.map encBd) :: (encBd c.query ++ [.int .i64 c.sites])
theorem encBd_def (b : PBody) : encBd b = [.int .i64 b.params, .int .i64 b.slots, .int .i64 b.term.kind, .int .i64 b.term.n, .int .i64 b.term.m, .int .i64 b.term.val.kind, .int .i64 b.term.val.n, .sl .fz (b.term.val.list.map encV), .sl .fz (b.term.odds.map encI), .sl .fz (b.term.kids.map encTm)] := by
  simp only [encBd, encTm_def]
theorem encC_def (c : PCore) : encC c = [.sl .fz (c.types.map encT), .sl .fz (c.funs.map encBd), .int .i64 c.query.params, .int .i64 c.query.slots, .int .i64 c.query.term.kind, .int .i64 c.query.term.n, .int .i64 c.query.term.m, .int .i64 c.query.term.val.kind, .int .i64 c.query.term.val.n,
    .sl .fz (c.query.term.val.list.map encV), .sl .fz (c.query.term.odds.map encI), .sl .fz (c.query.term.kids.map encTm), .int .i64 c.sites] := by
  simp only [encC, encBd_def]; rfl
mutual
def szV : PVal → Nat
  | .mk _ _ l => szVs l + 4
def szVs : List PVal → Nat
  | [] => 0
  | t :: l => szV t + 1 + szVs l
end
mutual
def szTm : PTerm → Nat
  | .mk _ _ _ v o l => szTms l + szV v + o.length + 8
def szTms : List PTerm → Nat
  | [] => 0
  | t :: l => szTm t + 1 + szTms l
end
theorem szVs_len : ∀ l, l.length ≤ szVs l
  | [] => Nat.le_refl _
  | t :: l => by simp only [szVs, List.length_cons]; have := szVs_len l; omega
theorem szVs_mem : ∀ (l : List PVal) (t : PVal), t ∈ l → szV t + 1 ≤ szVs l
  | [], t, h => by cases h
  | x :: l, t, h => by
    simp only [szVs]
    rcases List.mem_cons.1 h with rfl | h
    · omega
    · have := szVs_mem l t h; omega
theorem szTms_len : ∀ l, l.length ≤ szTms l
  | [] => Nat.le_refl _
  | t :: l => by simp only [szTms, List.length_cons]; have := szTms_len l; omega
theorem szTms_mem : ∀ (l : List PTerm) (t : PTerm), t ∈ l → szTm t + 1 ≤ szTms l
  | [], t, h => by cases h
  | x :: l, t, h => by
    simp only [szTms]
    rcases List.mem_cons.1 h with rfl | h
    · omega
    · have := szTms_mem l t h; omega
theorem szV_def (t : PVal) : szV t = szVs t.list + 4 := by cases t; simp only [szV, PVal.list]
theorem szTm_def (t : PTerm) : szTm t = szTms t.kids + szV t.val + t.odds.length + 8 := by cases t; simp only [szTm, PTerm.kids, PTerm.val, PTerm.odds]
inductive OkV : PVal → Prop
  | mk {k n : Int} {l : List PVal} : I64 k → I64 n → l.length ≤ maxLen → (∀ t ∈ l, OkV t) → OkV (.mk k n l)
theorem OkV.kind {t : PVal} (h : OkV t) : I64 t.kind := by cases h; assumption
theorem OkV.n {t : PVal} (h : OkV t) : I64 t.n := by cases h; assumption
theorem OkV.len {t : PVal} (h : OkV t) : t.list.length ≤ maxLen := by cases h; assumption
theorem OkV.sub {t : PVal} (h : OkV t) : ∀ x ∈ t.list, OkV x := by cases h; assumption
inductive OkTm : PTerm → Prop
  | mk {k n m : Int} {v : PVal} {o : List Int} {l : List PTerm} : I64 k → I64 n → I64 m → OkV v → o.length ≤ maxLen → (∀ x ∈ o, I64 x) → l.length ≤ maxLen → (∀ t ∈ l, OkTm t) → OkTm (.mk k n m v o l)
theorem OkTm.kind {t : PTerm} (h : OkTm t) : I64 t.kind := by cases h; assumption
theorem OkTm.n {t : PTerm} (h : OkTm t) : I64 t.n := by cases h; assumption
theorem OkTm.m {t : PTerm} (h : OkTm t) : I64 t.m := by cases h; assumption
theorem OkTm.val {t : PTerm} (h : OkTm t) : OkV t.val := by cases h; assumption
theorem OkTm.olen {t : PTerm} (h : OkTm t) : t.odds.length ≤ maxLen := by cases h; assumption
theorem OkTm.odds {t : PTerm} (h : OkTm t) : ∀ x ∈ t.odds, I64 x := by cases h; assumption
theorem OkTm.len {t : PTerm} (h : OkTm t) : t.kids.length ≤ maxLen := by cases h; assumption
theorem OkTm.sub {t : PTerm} (h : OkTm t) : ∀ x ∈ t.kids, OkTm x := by cases h; assumption
structure OkBd (b : PBody) : Prop where
  params : I64 b.params
  slots : I64 b.slots
  term : OkTm b.term
structure OkC (c : PCore) : Prop where
  tlen : c.types.length ≤ maxLen
  types : ∀ t ∈ c.types, OkT t
  flen : c.funs.length ≤ maxLen
  funs : ∀ t ∈ c.funs, OkBd t
  query : OkBd c.query
  sites : I64 c.sites
structure ApiC (P : Program) extends ApiT P where
  val : TypeId
  vals : TypeId
  term : TypeId
  terms : TypeId
  body : TypeId
  bodies : TypeId
  core : TypeId
  hval : IsSt P val 3 [(0, int, 1), (1, int, 1), (2, vals, 1)]
  hvals : P.underlying vals = some (.slice val)
  hterm : IsSt P term 8 [(0, int, 1), (1, int, 1), (2, int, 1), (3, val, 3), (6, ints, 1), (7, terms, 1)]
  hterms : P.underlying terms = some (.slice term)
  hbody : IsSt P body 10 [(0, int, 1), (1, int, 1), (2, term, 8)]
  hbodies : P.underlying bodies = some (.slice body)
  hcore : IsSt P core 13 [(0, typs, 1), (1, bodies, 1), (2, body, 10), (12, int, 1)]
theorem len3 {α : Type} {l : List α} (h : l.length = 3) : ∃ a b c, l = [a, b, c] := by
  match l, h with | [a, b, c], _ => exact ⟨a, b, c, rfl⟩
theorem sz_drop (l : List TV) (k : Nat) : SizeOf.sizeOf (l.drop k) ≤ SizeOf.sizeOf l := by
  induction l generalizing k with
  | nil => simp
  | cons a l ih =>
    cases k with
    | zero => simp
    | succ k => have := ih k; simp only [List.drop_succ_cons]; simp; omega
section
variable {P : Program} (A : ApiC P)
theorem sh_val : ∀ (n : Nat) (l : List TV), SizeOf.sizeOf l < n → Sh P A.val l → ∃ t, l = encV t ∧ OkV t
  | 0, l, hn, h => by omega
  | n + 1, l, hn, h => by
    obtain ⟨h1, h2⟩ := h.st A.hval
    obtain ⟨a, b, c, rfl⟩ := len3 h1
    obtain ⟨k, q1, w1⟩ := (h2 (0, A.int, 1) (by simp)).intOf A.hint
    obtain ⟨m, q2, w2⟩ := (h2 (1, A.int, 1) (by simp)).intOf A.hint
    obtain ⟨chs, q3, q4, q5⟩ := (h2 (2, A.vals, 1) (by simp)).sliceOf A.hvals
    simp at q1 q2 q3
    subst q1 q2 q3
    obtain ⟨l, rfl, hm⟩ := map_of (f := encV) (R := OkV) chs (fun c hc => sh_val n c (by
      have := sz_head (l := [TV.int .i64 k, TV.int .i64 m, .sl .fz chs]) hc .fz (by simp)
      omega) (q5 c hc))
    exact ⟨.mk k m l, by rw [encV_def]; rfl, .mk (i64_wf w1) (i64_wf w2) (by simpa using q4) hm⟩
theorem sh_term : ∀ (n : Nat) (l : List TV), SizeOf.sizeOf l < n → Sh P A.term l → ∃ t, l = encTm t ∧ OkTm t
  | 0, l, hn, h => by omega
  | n + 1, l, hn, h => by
    obtain ⟨h1, h2⟩ := h.st A.hterm
    obtain ⟨a0, a1, a2, a3, a4, a5, a6, a7, rfl⟩ := len8 h1
    obtain ⟨k0, p0, w0⟩ := (h2 (0, A.int, 1) (by simp)).intOf A.hint
    obtain ⟨k1, p1, w1⟩ := (h2 (1, A.int, 1) (by simp)).intOf A.hint
    obtain ⟨k2, p2, w2⟩ := (h2 (2, A.int, 1) (by simp)).intOf A.hint
    obtain ⟨v, p3, w3⟩ := sh_val A _ _ (Nat.lt_succ_self _) (h2 (3, A.val, 3) (by simp))
    obtain ⟨c4, p4, w4, x4⟩ := (h2 (6, A.ints, 1) (by simp)).sliceOf A.hints
    obtain ⟨c5, p5, w5, x5⟩ := (h2 (7, A.terms, 1) (by simp)).sliceOf A.hterms
    simp at p0 p1 p2 p3 p4 p5
    subst p0 p1 p2 p4 p5
    obtain ⟨m4, rfl, y4⟩ := map_of (f := encI) (R := I64) c4 (fun c hc => by
      obtain ⟨n, e1, e2⟩ := (x4 c hc).intOf A.hint
      exact ⟨n, e1, i64_wf e2⟩)
    obtain ⟨m5, rfl, y5⟩ := map_of (f := encTm) (R := OkTm) c5 (fun c hc => sh_term n c (by
      have := sz_head hc (l := [TV.int .i64 k0, .int .i64 k1, .int .i64 k2, a3, a4, a5, .sl .fz (m4.map encI), .sl .fz c5]) .fz (by simp)
      omega) (x5 c hc))
    refine ⟨.mk k0 k1 k2 v m4 m5, ?_, .mk (i64_wf w0) (i64_wf w1) (i64_wf w2) w3 (by simpa using w4) y4 (by simpa using w5) y5⟩
    rw [encTm_mk]
    simp only [PTerm.kind, PTerm.n, PTerm.m, PTerm.val, PTerm.odds, PTerm.kids, ← p3, List.cons_append, List.nil_append]
theorem sh_body {l : List TV} (h : Sh P A.body l) : ∃ t, l = encBd t ∧ OkBd t := by
  obtain ⟨h1, h2⟩ := h.st A.hbody
  have hl : l = l.take 1 ++ ((l.drop 1).take 1 ++ (l.drop 2).take 8) := by
    match l, h1 with | [_, _, _, _, _, _, _, _, _, _], _ => rfl
  obtain ⟨k0, p0, w0⟩ := (h2 (0, A.int, 1) (by simp)).intOf A.hint
  obtain ⟨k1, p1, w1⟩ := (h2 (1, A.int, 1) (by simp)).intOf A.hint
  obtain ⟨t, p2, w2⟩ := sh_term A _ _ (Nat.lt_succ_self _) (h2 (2, A.term, 8) (by simp))
  refine ⟨⟨k0, k1, t⟩, ?_, i64_wf w0, i64_wf w1, w2⟩
  simp only [List.drop_zero] at p0 p1 p2
  rw [hl, p0, p1, p2]
  simp only [encBd, List.cons_append, List.nil_append]
theorem sh_core {l : List TV} (h : Sh P A.core l) : ∃ t, l = encC t ∧ OkC t := by
  obtain ⟨h1, h2⟩ := h.st A.hcore
  have hl : l = l.take 1 ++ ((l.drop 1).take 1 ++ ((l.drop 2).take 10 ++ (l.drop 12).take 1)) := by
    match l, h1 with | [_, _, _, _, _, _, _, _, _, _, _, _, _], _ => rfl
  obtain ⟨c0, p0, w0, x0⟩ := (h2 (0, A.typs, 1) (by simp)).sliceOf A.htyps
  obtain ⟨c1, p1, w1, x1⟩ := (h2 (1, A.bodies, 1) (by simp)).sliceOf A.hbodies
  obtain ⟨e, p2, w2⟩ := sh_body A (h2 (2, A.body, 10) (by simp))
  obtain ⟨k3, p3, w3⟩ := (h2 (12, A.int, 1) (by simp)).intOf A.hint
  obtain ⟨m0, rfl, hm0⟩ := map_of (f := encT) (R := OkT) c0 (fun c hc => sh_typ A.toApiT _ _ (Nat.lt_succ_self _) (x0 c hc))
  obtain ⟨m1, rfl, hm1⟩ := map_of (f := encBd) (R := OkBd) c1 (fun c hc => sh_body A (x1 c hc))
  refine ⟨⟨m0, m1, e, k3⟩, ?_, by simpa using w0, hm0, by simpa using w1, hm1, w2, i64_wf w3⟩
  simp only [List.drop_zero] at p0 p1 p2 p3
  rw [hl, p0, p1, p2, p3]
  simp only [encC, List.cons_append, List.nil_append]
end
end Go.Xt
end
section
namespace Go.Xt
open Go Go.Xe
set_option linter.unusedVariables false
def all2 {α β : Type} (f : α → β → Bool) : List α → List β → Bool
  | [], [] => true
  | a :: l, b :: m => f a b && all2 f l m
  | _, _ => false
theorem all2_ne {α β : Type} {f : α → β → Bool} : ∀ {l : List α} {m : List β}, l.length ≠ m.length → all2 f l m = false
  | [], [], h => absurd rfl h
  | [], _ :: _, _ => rfl
  | _ :: _, [], _ => rfl
  | a :: l, b :: m, h => by
    simp only [all2]
    rw [all2_ne (l := l) (m := m) (fun e => h (by simp [e])), Bool.and_false]
theorem all2_step {α β : Type} {f : α → β → Bool} {l : List α} {m : List β} {k : Nat} (h : k < l.length) (h' : k < m.length) : all2 f (l.drop k) (m.drop k) = (f l[k] m[k] && all2 f (l.drop (k + 1)) (m.drop (k + 1))) := by
  rw [List.drop_eq_getElem_cons h, List.drop_eq_getElem_cons h']
  rfl
theorem all2_end {α β : Type} {f : α → β → Bool} {l : List α} {m : List β} {k : Nat} (h : l.length ≤ k) (h' : m.length ≤ k) : all2 f (l.drop k) (m.drop k) = true := by
  rw [List.drop_of_length_le h, List.drop_of_length_le h']; rfl
mutual
def sameT : PTyp → PTyp → Bool
  | .mk k l, .mk k' l' => decide (k = k') && sameTs l l'
def sameTs : List PTyp → List PTyp → Bool
  | [], [] => true
  | a :: l, b :: m => sameT a b && sameTs l m
  | _, _ => false
end
mutual
def sameV : PVal → PVal → Bool
  | .mk k n l, .mk k' n' l' => decide (k = k') && (decide (n = n') && sameVs l l')
def sameVs : List PVal → List PVal → Bool
  | [], [] => true
  | a :: l, b :: m => sameV a b && sameVs l m
  | _, _ => false
end
mutual
def sameTm : PTerm → PTerm → Bool
  | .mk k n m v o l, .mk k' n' m' v' o' l' => decide (k = k') && (decide (n = n') && (decide (m = m') && (sameV v v' && (all2 (fun a b : Int => decide (a = b)) o o' && sameTms l l'))))
def sameTms : List PTerm → List PTerm → Bool
  | [], [] => true
  | a :: l, b :: m => sameTm a b && sameTms l m
  | _, _ => false
end
theorem sameTs_eq : ∀ l m, sameTs l m = all2 sameT l m
  | [], [] => rfl
  | [], _ :: _ => rfl
  | _ :: _, [] => rfl
  | a :: l, b :: m => by simp only [sameTs, all2, sameTs_eq l m]
theorem sameVs_eq : ∀ l m, sameVs l m = all2 sameV l m
  | [], [] => rfl
  | [], _ :: _ => rfl
  | _ :: _, [] => rfl
  | a :: l, b :: m => by simp only [sameVs, all2, sameVs_eq l m]
theorem sameTms_eq : ∀ l m, sameTms l m = all2 sameTm l m
  | [], [] => rfl
  | [], _ :: _ => rfl
  | _ :: _, [] => rfl
  | a :: l, b :: m => by simp only [sameTms, all2, sameTms_eq l m]
theorem sameT_def (a b : PTyp) : sameT a b = (decide (a.kind = b.kind) && all2 sameT a.list b.list) := by
  cases a; cases b; simp only [sameT, sameTs_eq, PTyp.kind, PTyp.list]; rfl
theorem sameV_def (a b : PVal) : sameV a b = (decide (a.kind = b.kind) && (decide (a.n = b.n) && all2 sameV a.list b.list)) := by
  cases a; cases b; simp only [sameV, sameVs_eq, PVal.kind, PVal.n, PVal.list]; rfl
theorem sameTm_def (a b : PTerm) : sameTm a b = (decide (a.kind = b.kind) && (decide (a.n = b.n) && (decide (a.m = b.m) && (sameV a.val b.val && (all2 (fun a b : Int => decide (a = b)) a.odds b.odds && all2 sameTm a.kids b.kids))))) := by
  cases a; cases b; simp only [sameTm, sameTms_eq, PTerm.kind, PTerm.n, PTerm.m, PTerm.val, PTerm.odds, PTerm.kids]; rfl
def sameBd (a b : PBody) : Bool := decide (a.params = b.params) && (decide (a.slots = b.slots) && sameTm a.term b.term)
def sameC (a b : PCore) : Bool := all2 sameT a.types b.types && (all2 sameBd a.funs b.funs && (sameBd a.query b.query && decide (a.sites = b.sites)))
theorem all2_refl {α : Type} {f : α → α → Bool} : ∀ (l : List α), (∀ a ∈ l, f a a = true) → all2 f l l = true
  | [], _ => rfl
  | a :: l, h => by
    simp only [all2]
    rw [h a (by simp), all2_refl l (fun b hb => h b (by simp [hb]))]; rfl
theorem sameT_refl : ∀ (n : Nat) (a : PTyp), szT a ≤ n → sameT a a = true
  | 0, a, h => by rw [szT_def] at h; omega
  | n + 1, a, h => by
    rw [szT_def] at h
    rw [sameT_def, all2_refl a.list (fun b hb => sameT_refl n b (by have := szTs_mem _ _ hb; omega))]
    simp
theorem sameV_refl : ∀ (n : Nat) (a : PVal), szV a ≤ n → sameV a a = true
  | 0, a, h => by rw [szV_def] at h; omega
  | n + 1, a, h => by
    rw [szV_def] at h
    rw [sameV_def, all2_refl a.list (fun b hb => sameV_refl n b (by have := szVs_mem _ _ hb; omega))]
    simp
theorem sameTm_refl : ∀ (n : Nat) (a : PTerm), szTm a ≤ n → sameTm a a = true
  | 0, a, h => by rw [szTm_def] at h; omega
  | n + 1, a, h => by
    rw [szTm_def] at h
    rw [sameTm_def, all2_refl a.kids (fun b hb => sameTm_refl n b (by have := szTms_mem _ _ hb; omega)), sameV_refl _ a.val (Nat.le_refl _), all2_refl a.odds (fun b _ => by simp)]
    simp
theorem sameC_refl (c : PCore) : sameC c c = true := by
  have hb : ∀ b : PBody, sameBd b b = true := fun b => by simp [sameBd, sameTm_refl _ b.term (Nat.le_refl _)]
  simp [sameC, hb, all2_refl c.types (fun t _ => sameT_refl _ t (Nat.le_refl _)), all2_refl c.funs (fun t _ => hb t)]
end Go.Xt
end
section
namespace Go.Xe.YtalckpkiplhbcaaGreatDoor
open Go Go.Xe Go.Xt
set_option linter.unusedVariables false
set_option linter.unusedSimpArgs false
variable {F : FuncId → Option TFun} {O : FuncId → List TV → Option TV}
theorem wrapJ {j n : Nat} (h : j < n) (hn : n ≤ maxLen) : IntKind.i64.wrap ((j : Int) + 1) = ((j + 1 : Nat) : Int) := by
  unfold maxLen at hn
  rw [wrap_in] <;> omega
theorem typeSize_t (hF : F 47 = some f47) : ∀ (N : Nat) (e : PTyp) (b : Nat) (σ : Sto) (m most : Int), szT e ≤ N → OkT e →
    ∃ r : Int, tcall F O N b 47 [.agg (encT e), .int .i64 m, .int .i64 most] σ = some (.ret (.int .i64 r), σ)
  | 0, e, b, σ, m, most, h, _ => by rw [szT_def] at h; omega
  | N + 1, e, b, σ, m, most, h, hb => by
    have ih := typeSize_t hF N
    have hk := szTs_len e.list
    have hs := szT_def e
    suffices hh : ∃ e' σ', tcall F O (N + 1) b 47 [.agg (encT e), .int .i64 m, .int .i64 most] σ = some (e', σ') ∧ ∃ r : Int, e' = .ret (.int .i64 r) ∧ σ' = σ by
      obtain ⟨e', σ', h1, r, rfl, rfl⟩ := hh
      exact ⟨r, h1⟩
    refine tcall_of hF ?_
    simp [x47, encT_def]
    refine tw_loop (I := fun j a σ' => a.df = [] ∧ σ' = σ ∧ ∃ acc : Int, a.tm.get 1 = some (.int .i64 acc) ∧ a.tm.get 2 = some (.int .i64 most) ∧ a.tm.get 3 = some (.bx 0 (encT e) 65) ∧ a.tm.get 7 = some (.int .i64 j)) e.list.length
      (R := fun ex a σ' => ex = .exit 0 ∧ a.df = [] ∧ σ' = σ ∧ ∃ acc : Int, a.tm.get 1 = some (.int .i64 acc)) ?_ ?_ ?_ ?_ ?_
    · simp [encT_def]
    · omega
    · rintro j ⟨tm, df, clk⟩ σ' hj ⟨rfl, rfl, acc, h1, h2, h3, h7⟩
      have hm := szTs_mem e.list e.list[j] (List.getElem_mem hj)
      have hw := wrapJ hj hb.len
      obtain ⟨r, hc⟩ := ih e.list[j] σ'.length σ' acc most (by omega) (hb.sub _ (List.getElem_mem hj))
      rw [encT_def] at h3 hc
      by_cases ha : acc ≤ most
      · simp [h1, h2, h3, h7, hj, ha, hc, hw, encT_def]
      · simp [h1, h2, h3, h7, hj, ha]
    · rintro ⟨tm, df, clk⟩ σ' ⟨rfl, rfl, acc, h1, h2, h3, h7⟩
      rw [encT_def] at h3
      simp [h1, h2, h3, h7]
    · rintro ex ⟨tm, df, clk⟩ σ' ⟨rfl, rfl, rfl, acc, h1⟩
      simp [h1]
theorem valSize_t (hF : F 25 = some f25) : ∀ (N : Nat) (e : PVal) (b : Nat) (σ : Sto) (m most : Int), szV e ≤ N → OkV e →
    ∃ r : Int, tcall F O N b 25 [.agg (encV e), .int .i64 m, .int .i64 most] σ = some (.ret (.int .i64 r), σ)
  | 0, e, b, σ, m, most, h, _ => by rw [szV_def] at h; omega
  | N + 1, e, b, σ, m, most, h, hb => by
    have ih := valSize_t hF N
    have hk := szVs_len e.list
    have hs := szV_def e
    suffices hh : ∃ e' σ', tcall F O (N + 1) b 25 [.agg (encV e), .int .i64 m, .int .i64 most] σ = some (e', σ') ∧ ∃ r : Int, e' = .ret (.int .i64 r) ∧ σ' = σ by
      obtain ⟨e', σ', h1, r, rfl, rfl⟩ := hh
      exact ⟨r, h1⟩
    refine tcall_of hF ?_
    simp [x25, encV_def]
    refine tw_loop (I := fun j a σ' => a.df = [] ∧ σ' = σ ∧ ∃ acc : Int, a.tm.get 1 = some (.int .i64 acc) ∧ a.tm.get 2 = some (.int .i64 most) ∧ a.tm.get 3 = some (.bx 0 (encV e) 26) ∧ a.tm.get 7 = some (.int .i64 j)) e.list.length
      (R := fun ex a σ' => ex = .exit 0 ∧ a.df = [] ∧ σ' = σ ∧ ∃ acc : Int, a.tm.get 1 = some (.int .i64 acc)) ?_ ?_ ?_ ?_ ?_
    · simp [encV_def]
    · omega
    · rintro j ⟨tm, df, clk⟩ σ' hj ⟨rfl, rfl, acc, h1, h2, h3, h7⟩
      have hm := szVs_mem e.list e.list[j] (List.getElem_mem hj)
      have hw := wrapJ hj hb.len
      obtain ⟨r, hc⟩ := ih e.list[j] σ'.length σ' acc most (by omega) (hb.sub _ (List.getElem_mem hj))
      rw [encV_def] at h3 hc
      by_cases ha : acc ≤ most
      · simp [h1, h2, h3, h7, hj, ha, hc, hw, encV_def]
      · simp [h1, h2, h3, h7, hj, ha]
    · rintro ⟨tm, df, clk⟩ σ' ⟨rfl, rfl, acc, h1, h2, h3, h7⟩
      rw [encV_def] at h3
      simp [h1, h2, h3, h7]
    · rintro ex ⟨tm, df, clk⟩ σ' ⟨rfl, rfl, rfl, acc, h1⟩
      simp [h1]
theorem few_t (hF : F 7 = some f7) (hS : F 25 = some f25) (N : Nat) (l : List PVal) (b : Nat) (σ : Sto) (most : Int) (h : szVs l < N) (hl : l.length ≤ maxLen) (hok : ∀ e ∈ l, OkV e) :
    ∃ r, tcall F O (N + 1) b 7 [.int .i64 most, .sl .fz (l.map encV)] σ = some (.ret (.bool r), σ) := by
  have hk := szVs_len l
  suffices hh : ∃ e σ', tcall F O (N + 1) b 7 [.int .i64 most, .sl .fz (l.map encV)] σ = some (e, σ') ∧ ∃ r, e = .ret (.bool r) ∧ σ' = σ by
    obtain ⟨e, σ', h1, r, rfl, rfl⟩ := hh
    exact ⟨r, h1⟩
  refine tcall_of hF ?_
  simp [x7]
  refine tw_loop (I := fun j a σ' => a.df = [] ∧ σ' = σ ∧ ∃ acc, a.tm.get 0 = some (.int .i64 most) ∧ a.tm.get 1 = some (.sl .fz (l.map encV)) ∧ a.tm.get 5 = some (.int .i64 acc) ∧ a.tm.get 6 = some (.int .i64 j)) l.length
    (R := fun ex a σ' => ex = .exit 0 ∧ a.df = [] ∧ σ' = σ ∧ ∃ acc, a.tm.get 0 = some (.int .i64 most) ∧ a.tm.get 5 = some (.int .i64 acc)) ?_ ?_ ?_ ?_ ?_
  · simp
  · omega
  · rintro j ⟨tm, df, clk⟩ σ' hj ⟨rfl, rfl, acc, h0, h1, h5, h6⟩
    have hm := szVs_mem l l[j] (List.getElem_mem hj)
    have hw := wrapJ hj hl
    obtain ⟨r, hc⟩ := valSize_t (O := O) hS N l[j] σ'.length σ' acc most (by omega) (hok _ (List.getElem_mem hj))
    rw [encV_def] at hc
    simp [h0, h1, h5, h6, hj, hc, hw, encV_def]
  · rintro ⟨tm, df, clk⟩ σ' ⟨rfl, rfl, acc, h0, h1, h5, h6⟩
    simp [h0, h1, h5, h6]
  · rintro ex ⟨tm, df, clk⟩ σ' ⟨rfl, rfl, rfl, acc, h0, h5⟩
    simp [h0, h5]
    omega
theorem fewTypes_t (hF : F 23 = some f23) (hS : F 47 = some f47) (N : Nat) (l : List PTyp) (b : Nat) (σ : Sto) (most : Int) (h : szTs l < N) (hl : l.length ≤ maxLen) (hok : ∀ e ∈ l, OkT e) :
    ∃ r, tcall F O (N + 1) b 23 [.int .i64 most, .sl .fz (l.map encT)] σ = some (.ret (.bool r), σ) := by
  have hk := szTs_len l
  suffices hh : ∃ e σ', tcall F O (N + 1) b 23 [.int .i64 most, .sl .fz (l.map encT)] σ = some (e, σ') ∧ ∃ r, e = .ret (.bool r) ∧ σ' = σ by
    obtain ⟨e, σ', h1, r, rfl, rfl⟩ := hh
    exact ⟨r, h1⟩
  refine tcall_of hF ?_
  simp [x23]
  refine tw_loop (I := fun j a σ' => a.df = [] ∧ σ' = σ ∧ ∃ acc, a.tm.get 0 = some (.int .i64 most) ∧ a.tm.get 1 = some (.sl .fz (l.map encT)) ∧ a.tm.get 5 = some (.int .i64 acc) ∧ a.tm.get 6 = some (.int .i64 j)) l.length
    (R := fun ex a σ' => ex = .exit 0 ∧ a.df = [] ∧ σ' = σ ∧ ∃ acc, a.tm.get 0 = some (.int .i64 most) ∧ a.tm.get 5 = some (.int .i64 acc)) ?_ ?_ ?_ ?_ ?_
  · simp
  · omega
  · rintro j ⟨tm, df, clk⟩ σ' hj ⟨rfl, rfl, acc, h0, h1, h5, h6⟩
    have hm := szTs_mem l l[j] (List.getElem_mem hj)
    have hw := wrapJ hj hl
    obtain ⟨r, hc⟩ := typeSize_t (O := O) hS N l[j] σ'.length σ' acc most (by omega) (hok _ (List.getElem_mem hj))
    rw [encT_def] at hc
    simp [h0, h1, h5, h6, hj, hc, hw, encT_def]
  · rintro ⟨tm, df, clk⟩ σ' ⟨rfl, rfl, acc, h0, h1, h5, h6⟩
    simp [h0, h1, h5, h6]
  · rintro ex ⟨tm, df, clk⟩ σ' ⟨rfl, rfl, rfl, acc, h0, h5⟩
    simp [h0, h5]
    omega
theorem termSize_t (hF : F 24 = some f24) (h7 : F 7 = some f7) (h25 : F 25 = some f25) : ∀ (N : Nat) (e : PTerm) (b : Nat) (σ : Sto) (m most : Int), szTm e ≤ N → OkTm e →
    ∃ r : Int, tcall F O N b 24 [.agg (encTm e), .int .i64 m, .int .i64 most] σ = some (.ret (.int .i64 r), σ)
  | 0, e, b, σ, m, most, h, _ => by rw [szTm_def] at h; omega
  | N + 1, e, b, σ, m, most, h, hb => by
    have ih := termSize_t hF h7 h25 N
    have hk := szTms_len e.kids
    have hs := szTm_def e
    have hv := szV_def e.val
    obtain ⟨M, rfl⟩ : ∃ M, N = M + 1 := ⟨N - 1, by omega⟩
    obtain ⟨rf, hf⟩ := few_t (O := O) h7 h25 M [e.val] σ.length σ most (by simp only [szVs]; omega) (by simp [maxLen]) (by intro x hx; simp at hx; subst hx; exact hb.val)
    suffices hh : ∃ e' σ', tcall F O (M + 1 + 1) b 24 [.agg (encTm e), .int .i64 m, .int .i64 most] σ = some (e', σ') ∧ ∃ r : Int, e' = .ret (.int .i64 r) ∧ σ' = σ by
      obtain ⟨e', σ', h1, r, rfl, rfl⟩ := hh
      exact ⟨r, h1⟩
    refine tcall_of hF ?_
    simp [encV_def] at hf
    cases rf with
    | false => simp [x24, encTm_def, hf]
    | true =>
      simp [x24, encTm_def, hf]
      refine tw_loop (I := fun j a σ' => a.df = [] ∧ σ' = σ ∧ ∃ acc : Int, a.tm.get 1 = some (.int .i64 acc) ∧ a.tm.get 2 = some (.int .i64 most) ∧ a.tm.get 3 = some (.bx 0 (encTm e) 30) ∧ a.tm.get 7 = some (.int .i64 j)) e.kids.length
        (R := fun ex a σ' => ex = .exit 0 ∧ a.df = [] ∧ σ' = σ ∧ ∃ acc : Int, a.tm.get 1 = some (.int .i64 acc)) ?_ ?_ ?_ ?_ ?_
      · simp [encTm_def]
      · omega
      · rintro j ⟨tm, df, clk⟩ σ' hj ⟨rfl, rfl, acc, h1, h2, h3, h7'⟩
        have hm := szTms_mem e.kids e.kids[j] (List.getElem_mem hj)
        have hw := wrapJ hj hb.len
        obtain ⟨r, hc⟩ := ih e.kids[j] σ'.length σ' acc most (by omega) (hb.sub _ (List.getElem_mem hj))
        rw [encTm_def] at h3 hc
        by_cases ha : acc ≤ most
        · simp [h1, h2, h3, h7', hj, ha, hc, hw, encTm_def]
        · simp [h1, h2, h3, h7', hj, ha]
      · rintro ⟨tm, df, clk⟩ σ' ⟨rfl, rfl, acc, h1, h2, h3, h7'⟩
        rw [encTm_def] at h3
        simp [h1, h2, h3, h7']
      · rintro ex ⟨tm, df, clk⟩ σ' ⟨rfl, rfl, rfl, acc, h1⟩
        simp [h1]
theorem fewCore_t (h6 : F 6 = some f6) (h23 : F 23 = some f23) (h47 : F 47 = some f47) (h24 : F 24 = some f24) (h7 : F 7 = some f7) (h25 : F 25 = some f25) (N : Nat) (c : PCore) (b : Nat) (σ : Sto) (most : Int) (hok : OkC c)
    (h1 : szTs c.types < N) (h2 : szTm c.query.term ≤ N) (h3 : ∀ f ∈ c.funs, szTm f.term ≤ N) (hn : c.funs.length ≤ N) :
    ∃ r, tcall F O (N + 2) b 6 [.int .i64 most, .agg (encC c)] σ = some (.ret (.bool r), σ) := by
  obtain ⟨rt, ht⟩ := fewTypes_t (O := O) h23 h47 N c.types σ.length σ most h1 hok.tlen hok.types
  obtain ⟨rq, hq⟩ := termSize_t (O := O) h24 h7 h25 (N + 1) c.query.term σ.length σ 0 most (by omega) hok.query.term
  suffices hh : ∃ e' σ', tcall F O (N + 2) b 6 [.int .i64 most, .agg (encC c)] σ = some (e', σ') ∧ ∃ r, e' = .ret (.bool r) ∧ σ' = σ by
    obtain ⟨e', σ', h1, r, rfl, rfl⟩ := hh
    exact ⟨r, h1⟩
  refine tcall_of h6 ?_
  rw [encTm_def] at hq
  by_cases hf : (100 : Int) < (c.funs.length : Int)
  · simp [x6, encC_def, hf]
  by_cases htt : (100 : Int) < (c.types.length : Int)
  · simp [x6, encC_def, hf, htt]
  cases rt with
  | false => simp [x6, encC_def, hf, htt, ht]
  | true =>
    simp [x6, encC_def, hf, htt, ht, hq]
    refine tw_loop (I := fun j a σ' => a.df = [] ∧ σ' = σ ∧ ∃ acc : Int, a.tm.get 0 = some (.int .i64 most) ∧ a.tm.get 3 = some (.bx 0 (encC c) 34) ∧ a.tm.get 5 = some (.int .i64 acc) ∧ a.tm.get 6 = some (.int .i64 j)) c.funs.length
      (R := fun ex a σ' => ex = .exit 0 ∧ a.df = [] ∧ σ' = σ ∧ ∃ acc : Int, a.tm.get 0 = some (.int .i64 most) ∧ a.tm.get 5 = some (.int .i64 acc)) ?_ ?_ ?_ ?_ ?_
    · simp [encC_def]
    · omega
    · rintro j ⟨tm, df, clk⟩ σ' hj ⟨rfl, rfl, acc, g0, g3, g5, g6⟩
      have hw := wrapJ hj hok.flen
      have hmem := List.getElem_mem hj
      obtain ⟨r, hc⟩ := termSize_t (O := O) h24 h7 h25 (N + 1) c.funs[j].term σ'.length σ' acc most (Nat.le_succ_of_le (h3 _ hmem)) (hok.funs _ hmem).term
      rw [encTm_def] at hc
      rw [encC_def] at g3
      by_cases ha : acc ≤ most
      · simp [g0, g3, g5, g6, hj, ha, hc, hw, encC_def, encBd_def]
      · simp [g0, g3, g5, g6, hj, ha]
    · rintro ⟨tm, df, clk⟩ σ' ⟨rfl, rfl, acc, g0, g3, g5, g6⟩
      rw [encC_def] at g3
      simp [g0, g3, g5, g6]
    · rintro ex ⟨tm, df, clk⟩ σ' ⟨rfl, rfl, rfl, acc, g0, g5⟩
      simp [g0, g5]
      omega
end Go.Xe.YtalckpkiplhbcaaGreatDoor
end
section
namespace Go.Xe.YtalckpkiplhbcaaGreatDoor
open Go Go.Xe Go.Xt
set_option linter.unusedVariables false
set_option linter.unusedSimpArgs false
variable {F : FuncId → Option TFun} {O : FuncId → List TV → Option TV}
theorem eqTypes (hF : F 35 = some f35) (G N : Nat) (S : PTyp → PTyp → Bool) (b : Nat) (σ : Sto) (l m : List PTyp) (hl : l.length ≤ maxLen) (hm : m.length ≤ maxLen) (hn : l.length < N)
    (hc : ∀ x ∈ l, ∀ y ∈ m, ∀ b, tcall F O N b G [.agg (encT x), .agg (encT y)] σ = some (.ret (.bool (S x y)), σ)) :
    tcall F O (N + 1) b 35 [.sl .fz (l.map encT), .sl .fz (m.map encT), .func G [] []] σ = some (.ret (.bool (all2 S l m)), σ) := by
  refine tcall_pure hF ?_
  by_cases hlm : (l.length : Int) = (m.length : Int)
  case neg =>
    have hne : l.length ≠ m.length := by omega
    simp [x35, hlm, hne, all2_ne hne]
  have hlm' : l.length = m.length := by omega
  simp [x35, hlm']
  obtain ⟨I, hI⟩ : ∃ I : Nat → TAct → Sto → Prop, I = (fun j a σ' => a.df = [] ∧ σ' = σ ∧ all2 S (l.drop j) (m.drop j) = all2 S l m ∧ a.tm.get 1 = some (.sl .fz (m.map encT)) ∧ a.tm.get 2 = some (.func G [] []) ∧ a.tm.get 15 = some (.sl .fz (l.map encT)) ∧ a.tm.get 16 = some (.int .i64 (m.length : Int)) ∧ a.tm.get 17 = some (.int .i64 j)) := ⟨_, rfl⟩
  obtain ⟨R, hR⟩ : ∃ R : TEx → TAct → Sto → Prop, R = (fun ex a σ' => a.df = [] ∧ σ' = σ ∧ (ex = .exit 0 ∧ all2 S l m = true ∨ ex = .ret ∧ all2 S l m = false ∧ a.tm.get 6 = some (.bool false))) := ⟨_, rfl⟩
  refine tw_loop I m.length R ?_ ?_ ?_ ?_ ?_
  · rw [hI]
    simp
  · omega
  · rw [hI]
    rintro j ⟨tm, df, clk⟩ σ' hj ⟨rfl, rfl, hd, h1, h2, h15, h16, h17⟩
    rw [← hI]
    have hjl : j < l.length := by omega
    have hw := wrapJ hj hm
    rw [all2_step hjl hj] at hd
    have hcc := hc l[j] (List.getElem_mem hjl) m[j] (List.getElem_mem hj) σ'.length
    rw [encT_def, encT_def] at hcc
    cases hs : S l[j] m[j] with
    | true =>
      rw [hs] at hd hcc
      simp [h1, h2, h15, h16, h17, hj, hjl, hcc, hw, encT_def]
      rw [hI]
      simpa [h1, h2, h15, h16] using hd
    | false =>
      rw [hs] at hd hcc
      simp [h1, h2, h15, h16, h17, hj, hjl, hcc, hw, encT_def]
      rw [hR]
      simpa using hd.symm
  · rw [hI]
    rintro ⟨tm, df, clk⟩ σ' ⟨rfl, rfl, hd, h1, h2, h15, h16, h17⟩
    rw [all2_end (by omega) (by omega)] at hd
    simp [h1, h2, h15, h16, h17]
    rw [hR]
    exact ⟨rfl, rfl, .inl ⟨rfl, hd.symm⟩⟩
  · rw [hR]
    rintro ex ⟨tm, df, clk⟩ σ' ⟨rfl, rfl, ⟨rfl, h⟩ | ⟨rfl, h, h6⟩⟩
    · simp [h]
    · simp [h, h6]
theorem eqTerms (hF : F 108 = some f108) (G N : Nat) (S : PTerm → PTerm → Bool) (b : Nat) (σ : Sto) (l m : List PTerm) (hl : l.length ≤ maxLen) (hm : m.length ≤ maxLen) (hn : l.length < N)
    (hc : ∀ x ∈ l, ∀ y ∈ m, ∀ b, tcall F O N b G [.agg (encTm x), .agg (encTm y)] σ = some (.ret (.bool (S x y)), σ)) :
    tcall F O (N + 1) b 108 [.sl .fz (l.map encTm), .sl .fz (m.map encTm), .func G [] []] σ = some (.ret (.bool (all2 S l m)), σ) := by
  refine tcall_pure hF ?_
  by_cases hlm : (l.length : Int) = (m.length : Int)
  case neg =>
    have hne : l.length ≠ m.length := by omega
    simp [x108, hlm, hne, all2_ne hne]
  have hlm' : l.length = m.length := by omega
  simp [x108, hlm']
  obtain ⟨I, hI⟩ : ∃ I : Nat → TAct → Sto → Prop, I = (fun j a σ' => a.df = [] ∧ σ' = σ ∧ all2 S (l.drop j) (m.drop j) = all2 S l m ∧ a.tm.get 1 = some (.sl .fz (m.map encTm)) ∧ a.tm.get 2 = some (.func G [] []) ∧ a.tm.get 15 = some (.sl .fz (l.map encTm)) ∧ a.tm.get 16 = some (.int .i64 (m.length : Int)) ∧ a.tm.get 17 = some (.int .i64 j)) := ⟨_, rfl⟩
  obtain ⟨R, hR⟩ : ∃ R : TEx → TAct → Sto → Prop, R = (fun ex a σ' => a.df = [] ∧ σ' = σ ∧ (ex = .exit 0 ∧ all2 S l m = true ∨ ex = .ret ∧ all2 S l m = false ∧ a.tm.get 6 = some (.bool false))) := ⟨_, rfl⟩
  refine tw_loop I m.length R ?_ ?_ ?_ ?_ ?_
  · rw [hI]
    simp
  · omega
  · rw [hI]
    rintro j ⟨tm, df, clk⟩ σ' hj ⟨rfl, rfl, hd, h1, h2, h15, h16, h17⟩
    rw [← hI]
    have hjl : j < l.length := by omega
    have hw := wrapJ hj hm
    rw [all2_step hjl hj] at hd
    have hcc := hc l[j] (List.getElem_mem hjl) m[j] (List.getElem_mem hj) σ'.length
    rw [encTm_def, encTm_def] at hcc
    cases hs : S l[j] m[j] with
    | true =>
      rw [hs] at hd hcc
      simp [h1, h2, h15, h16, h17, hj, hjl, hcc, hw, encTm_def]
      rw [hI]
      simpa [h1, h2, h15, h16] using hd
    | false =>
      rw [hs] at hd hcc
      simp [h1, h2, h15, h16, h17, hj, hjl, hcc, hw, encTm_def]
      rw [hR]
      simpa using hd.symm
  · rw [hI]
    rintro ⟨tm, df, clk⟩ σ' ⟨rfl, rfl, hd, h1, h2, h15, h16, h17⟩
    rw [all2_end (by omega) (by omega)] at hd
    simp [h1, h2, h15, h16, h17]
    rw [hR]
    exact ⟨rfl, rfl, .inl ⟨rfl, hd.symm⟩⟩
  · rw [hR]
    rintro ex ⟨tm, df, clk⟩ σ' ⟨rfl, rfl, ⟨rfl, h⟩ | ⟨rfl, h, h6⟩⟩
    · simp [h]
    · simp [h, h6]
theorem eqBodies (hF : F 37 = some f37) (G N : Nat) (S : PBody → PBody → Bool) (b : Nat) (σ : Sto) (l m : List PBody) (hl : l.length ≤ maxLen) (hm : m.length ≤ maxLen) (hn : l.length < N)
    (hc : ∀ x ∈ l, ∀ y ∈ m, ∀ b, tcall F O N b G [.agg (encBd x), .agg (encBd y)] σ = some (.ret (.bool (S x y)), σ)) :
    tcall F O (N + 1) b 37 [.sl .fz (l.map encBd), .sl .fz (m.map encBd), .func G [] []] σ = some (.ret (.bool (all2 S l m)), σ) := by
  refine tcall_pure hF ?_
  by_cases hlm : (l.length : Int) = (m.length : Int)
  case neg =>
    have hne : l.length ≠ m.length := by omega
    simp [x37, hlm, hne, all2_ne hne]
  have hlm' : l.length = m.length := by omega
  simp [x37, hlm']
  obtain ⟨I, hI⟩ : ∃ I : Nat → TAct → Sto → Prop, I = (fun j a σ' => a.df = [] ∧ σ' = σ ∧ all2 S (l.drop j) (m.drop j) = all2 S l m ∧ a.tm.get 1 = some (.sl .fz (m.map encBd)) ∧ a.tm.get 2 = some (.func G [] []) ∧ a.tm.get 15 = some (.sl .fz (l.map encBd)) ∧ a.tm.get 16 = some (.int .i64 (m.length : Int)) ∧ a.tm.get 17 = some (.int .i64 j)) := ⟨_, rfl⟩
  obtain ⟨R, hR⟩ : ∃ R : TEx → TAct → Sto → Prop, R = (fun ex a σ' => a.df = [] ∧ σ' = σ ∧ (ex = .exit 0 ∧ all2 S l m = true ∨ ex = .ret ∧ all2 S l m = false ∧ a.tm.get 6 = some (.bool false))) := ⟨_, rfl⟩
  refine tw_loop I m.length R ?_ ?_ ?_ ?_ ?_
  · rw [hI]
    simp
  · omega
  · rw [hI]
    rintro j ⟨tm, df, clk⟩ σ' hj ⟨rfl, rfl, hd, h1, h2, h15, h16, h17⟩
    rw [← hI]
    have hjl : j < l.length := by omega
    have hw := wrapJ hj hm
    rw [all2_step hjl hj] at hd
    have hcc := hc l[j] (List.getElem_mem hjl) m[j] (List.getElem_mem hj) σ'.length
    rw [encBd_def, encBd_def] at hcc
    cases hs : S l[j] m[j] with
    | true =>
      rw [hs] at hd hcc
      simp [h1, h2, h15, h16, h17, hj, hjl, hcc, hw, encBd_def]
      rw [hI]
      simpa [h1, h2, h15, h16] using hd
    | false =>
      rw [hs] at hd hcc
      simp [h1, h2, h15, h16, h17, hj, hjl, hcc, hw, encBd_def]
      rw [hR]
      simpa using hd.symm
  · rw [hI]
    rintro ⟨tm, df, clk⟩ σ' ⟨rfl, rfl, hd, h1, h2, h15, h16, h17⟩
    rw [all2_end (by omega) (by omega)] at hd
    simp [h1, h2, h15, h16, h17]
    rw [hR]
    exact ⟨rfl, rfl, .inl ⟨rfl, hd.symm⟩⟩
  · rw [hR]
    rintro ex ⟨tm, df, clk⟩ σ' ⟨rfl, rfl, ⟨rfl, h⟩ | ⟨rfl, h, h6⟩⟩
    · simp [h]
    · simp [h, h6]
end Go.Xe.YtalckpkiplhbcaaGreatDoor
end
section
namespace Go.Xe.YtalckpkiplhbcaaGreatDoor
open Go Go.Xe Go.Xt
set_option linter.unusedVariables false
set_option linter.unusedSimpArgs false
variable {F : FuncId → Option TFun} {O : FuncId → List TV → Option TV}
theorem typeSame_t (h36 : F 36 = some f36) (h35 : F 35 = some f35) : ∀ (N : Nat) (a c : PTyp) (b : Nat) (σ : Sto), szT a ≤ N → OkT a → OkT c →
    tcall F O N b 36 [.agg (encT a), .agg (encT c)] σ = some (.ret (.bool (sameT a c)), σ)
  | 0, a, c, b, σ, h, _, _ => by rw [szT_def] at h; omega
  | 1, a, c, b, σ, h, _, _ => by rw [szT_def] at h; omega
  | N + 2, a, c, b, σ, h, ha, hc => by
    have ih := typeSame_t h36 h35 N
    have hs := szT_def a
    have hk := szTs_len a.list
    refine tcall_pure h36 ?_
    have hq := eqTypes (O := O) h35 36 N sameT σ.length σ a.list c.list ha.len hc.len (by omega) (fun x hx y hy b => ih x y b σ (by have := szTs_mem _ _ hx; omega) (ha.sub x hx) (hc.sub y hy))
    by_cases hk : a.kind = c.kind
    · simp [x36, encT_def, sameT_def, hk, hq]
    · simp [x36, encT_def, sameT_def, hk]
theorem refTypeSame_t (h40 : F 40 = some f40) : ∀ (N : Nat) (a c : PTyp) (b : Nat) (σ : Sto), szT a ≤ N → OkT a → OkT c →
    tcall F O N b 40 [.agg (encT a), .agg (encT c)] σ = some (.ret (.bool (sameT a c)), σ)
  | 0, a, c, b, σ, h, _, _ => by rw [szT_def] at h; omega
  | N + 1, a, c, b, σ, h, ha, hc => by
    have ih := refTypeSame_t h40 N
    have hs := szT_def a
    have hk := szTs_len a.list
    refine tcall_pure h40 ?_
    by_cases hk : a.kind = c.kind
    case neg => simp [x40, encT_def, sameT_def, hk]
    by_cases hlm : (a.list.length : Int) = (c.list.length : Int)
    case neg =>
      have hne : a.list.length ≠ c.list.length := by omega
      simp [x40, encT_def, sameT_def, hk, hlm, hne, all2_ne hne]
    have hlm' : a.list.length = c.list.length := by omega
    simp [x40, encT_def, sameT_def, hk, hlm']
    obtain ⟨I, hI⟩ : ∃ I : Nat → TAct → Sto → Prop, I = (fun j a' σ' => a'.df = [] ∧ σ' = σ ∧ all2 sameT (a.list.drop j) (c.list.drop j) = all2 sameT a.list c.list ∧ a'.tm.get 2 = some (.bx 0 (encT a) 65) ∧ a'.tm.get 3 = some (.bx 2 (encT c) 65) ∧ a'.tm.get 5 = some (.int .i64 j)) := ⟨_, rfl⟩
    obtain ⟨R, hR⟩ : ∃ R : TEx → TAct → Sto → Prop, R = (fun ex a' σ' => a'.df = [] ∧ σ' = σ ∧ (ex = .exit 0 ∧ all2 sameT a.list c.list = true ∨ ex = .ret ∧ all2 sameT a.list c.list = false ∧ a'.tm.get 4 = some (.bool false))) := ⟨_, rfl⟩
    refine tw_loop I c.list.length R ?_ ?_ ?_ ?_ ?_
    · rw [hI]
      simp [encT_def, hk]
    · omega
    · rw [hI]
      rintro j ⟨tm, df, clk⟩ σ' hj ⟨rfl, rfl, hd, h2, h3, h5⟩
      rw [← hI]
      have hjl : j < a.list.length := by omega
      have hw := wrapJ hj hc.len
      rw [all2_step hjl hj] at hd
      have hcc := ih a.list[j] c.list[j] σ'.length σ' (by have := szTs_mem _ _ (List.getElem_mem hjl); omega) (ha.sub _ (List.getElem_mem hjl)) (hc.sub _ (List.getElem_mem hj))
      rw [encT_def, encT_def c.list[j]] at hcc
      rw [encT_def] at h2 h3
      cases hs : sameT a.list[j] c.list[j] with
      | true =>
        rw [hs] at hd hcc
        simp [h2, h3, h5, hj, hjl, hlm', hcc, hw, encT_def]
        rw [hI]
        simpa [h2, h3, encT_def] using hd
      | false =>
        rw [hs] at hd hcc
        simp [h2, h3, h5, hj, hjl, hlm', hcc, hw, encT_def]
        rw [hR]
        simpa using hd.symm
    · rw [hI]
      rintro ⟨tm, df, clk⟩ σ' ⟨rfl, rfl, hd, h2, h3, h5⟩
      rw [all2_end (by omega) (by omega)] at hd
      rw [encT_def] at h2 h3
      simp [h2, h3, h5, hlm']
      rw [hR]
      exact ⟨rfl, rfl, .inl ⟨rfl, hd.symm⟩⟩
    · rw [hR]
      rintro ex ⟨tm, df, clk⟩ σ' ⟨rfl, rfl, ⟨rfl, h⟩ | ⟨rfl, h, h6⟩⟩
      · simp [h]
      · simp [h, h6]
end Go.Xe.YtalckpkiplhbcaaGreatDoor
end
section
namespace Go.Xe.YtalckpkiplhbcaaGreatDoor
open Go Go.Xe Go.Xt
set_option linter.unusedVariables false
set_option linter.unusedSimpArgs false
variable {F : FuncId → Option TFun} {O : FuncId → List TV → Option TV}
def sameI (a b : Int) : Bool := decide (a = b)
theorem encI_def (n : Int) : encI n = [.int .i64 n] := rfl
theorem ints_t (hF : F 110 = some f110) (N : Nat) (b : Nat) (σ : Sto) (l m : List Int) (hl : l.length ≤ maxLen) (hm : m.length ≤ maxLen) (hn : l.length < N) :
    tcall F O (N + 1) b 110 [.sl .fz (l.map encI), .sl .fz (m.map encI)] σ = some (.ret (.bool (all2 sameI l m)), σ) := by
  refine tcall_pure hF ?_
  by_cases hlm : (l.length : Int) = (m.length : Int)
  case neg =>
    have hne : l.length ≠ m.length := by omega
    simp [x110, hlm, hne, all2_ne hne]
  have hlm' : l.length = m.length := by omega
  simp [x110, hlm']
  obtain ⟨I, hI⟩ : ∃ I : Nat → TAct → Sto → Prop, I = (fun j a σ' => a.df = [] ∧ σ' = σ ∧ all2 sameI (l.drop j) (m.drop j) = all2 sameI l m ∧ a.tm.get 0 = some (.sl .fz (l.map encI)) ∧ a.tm.get 1 = some (.sl .fz (m.map encI)) ∧ a.tm.get 5 = some (.int .i64 j)) := ⟨_, rfl⟩
  obtain ⟨R, hR⟩ : ∃ R : TEx → TAct → Sto → Prop, R = (fun ex a σ' => a.df = [] ∧ σ' = σ ∧ (ex = .exit 0 ∧ all2 sameI l m = true ∨ ex = .ret ∧ all2 sameI l m = false ∧ a.tm.get 4 = some (.bool false))) := ⟨_, rfl⟩
  refine tw_loop I m.length R ?_ ?_ ?_ ?_ ?_
  · rw [hI]
    simp
  · omega
  · rw [hI]
    rintro j ⟨tm, df, clk⟩ σ' hj ⟨rfl, rfl, hd, h0, h1, h5⟩
    rw [← hI]
    have hjl : j < l.length := by omega
    have hw := wrapJ hj hm
    have e1 : (l.map encI)[j]? = some [.int .i64 l[j]] := by simp [hjl, encI]
    have e2 : (m.map encI)[j]? = some [.int .i64 m[j]] := by simp [hj, encI]
    rw [all2_step hjl hj] at hd
    by_cases hs : l[j] = m[j]
    · have hs' : sameI l[j] m[j] = true := by simp [sameI, hs]
      rw [hs', Bool.true_and] at hd
      simp [h0, h1, h5, hj, hjl, hlm', hw, e1, e2, hs, encI]
      rw [hI]
      simpa [h0, h1] using hd
    · have hs' : sameI l[j] m[j] = false := by simp [sameI, hs]
      rw [hs', Bool.false_and] at hd
      simp [h0, h1, h5, hj, hjl, hlm', hw, e1, e2, hs, encI]
      rw [hR]
      simpa using hd.symm
  · rw [hI]
    rintro ⟨tm, df, clk⟩ σ' ⟨rfl, rfl, hd, h0, h1, h5⟩
    rw [all2_end (by omega) (by omega)] at hd
    simp [h0, h1, h5, hlm']
    rw [hR]
    exact ⟨rfl, rfl, .inl ⟨rfl, hd.symm⟩⟩
  · rw [hR]
    rintro ex ⟨tm, df, clk⟩ σ' ⟨rfl, rfl, ⟨rfl, h⟩ | ⟨rfl, h, h6⟩⟩
    · simp [h]
    · simp [h, h6]
theorem eqInts_t (hF : F 107 = some f107) (N : Nat) (b : Nat) (σ : Sto) (l m : List Int) (hl : l.length ≤ maxLen) (hm : m.length ≤ maxLen) (hn : l.length < N) :
    tcall F O (N + 1) b 107 [.sl .fz (l.map encI), .sl .fz (m.map encI)] σ = some (.ret (.bool (all2 sameI l m)), σ) := by
  refine tcall_pure hF ?_
  by_cases hlm : (l.length : Int) = (m.length : Int)
  case neg =>
    have hne : l.length ≠ m.length := by omega
    simp [x107, hlm, hne, all2_ne hne]
  have hlm' : l.length = m.length := by omega
  simp [x107, hlm']
  obtain ⟨I, hI⟩ : ∃ I : Nat → TAct → Sto → Prop, I = (fun j a σ' => a.df = [] ∧ σ' = σ ∧ all2 sameI (l.drop j) (m.drop j) = all2 sameI l m ∧ a.tm.get 0 = some (.sl .fz (l.map encI)) ∧ a.tm.get 1 = some (.sl .fz (m.map encI)) ∧ a.tm.get 13 = some (.int .i64 j)∧ a.tm.get 11 = some (.sl .fz (l.map encI)) ∧ a.tm.get 12 = some (.int .i64 (m.length : Int))) := ⟨_, rfl⟩
  obtain ⟨R, hR⟩ : ∃ R : TEx → TAct → Sto → Prop, R = (fun ex a σ' => a.df = [] ∧ σ' = σ ∧ (ex = .exit 0 ∧ all2 sameI l m = true ∨ ex = .ret ∧ all2 sameI l m = false ∧ a.tm.get 4 = some (.bool false))) := ⟨_, rfl⟩
  refine tw_loop I m.length R ?_ ?_ ?_ ?_ ?_
  · rw [hI]
    simp
  · omega
  · rw [hI]
    rintro j ⟨tm, df, clk⟩ σ' hj ⟨rfl, rfl, hd, h0, h1, h5, h11, h12⟩
    rw [← hI]
    have hjl : j < l.length := by omega
    have hw := wrapJ hj hm
    have e1 : (l.map encI)[j]? = some [.int .i64 l[j]] := by simp [hjl, encI]
    have e2 : (m.map encI)[j]? = some [.int .i64 m[j]] := by simp [hj, encI]
    rw [all2_step hjl hj] at hd
    by_cases hs : l[j] = m[j]
    · have hs' : sameI l[j] m[j] = true := by simp [sameI, hs]
      rw [hs', Bool.true_and] at hd
      simp [h0, h1, h5, hj, hjl, hlm', hw, e1, e2, hs, encI, h11, h12]
      rw [hI]
      simpa [h0, h1, h11, h12] using hd
    · have hs' : sameI l[j] m[j] = false := by simp [sameI, hs]
      rw [hs', Bool.false_and] at hd
      simp [h0, h1, h5, hj, hjl, hlm', hw, e1, e2, hs, encI, h11, h12]
      rw [hR]
      simpa using hd.symm
  · rw [hI]
    rintro ⟨tm, df, clk⟩ σ' ⟨rfl, rfl, hd, h0, h1, h5, h11, h12⟩
    rw [all2_end (by omega) (by omega)] at hd
    simp [h0, h1, h5, hlm', h11, h12]
    rw [hR]
    exact ⟨rfl, rfl, .inl ⟨rfl, hd.symm⟩⟩
  · rw [hR]
    rintro ex ⟨tm, df, clk⟩ σ' ⟨rfl, rfl, ⟨rfl, h⟩ | ⟨rfl, h, h6⟩⟩
    · simp [h]
    · simp [h, h6]
theorem nan_t (hF : F 165 = some f165) (N b : Nat) (σ : Sto) (x : Int) : tcall F O (N + 1) b 165 [.int .i64 x] σ = some (.ret (.bool false), σ) := by
  refine tcall_pure hF ?_
  simp [x165]
def cmpI (x y : Int) : Int := if x < y then -1 else if y < x then 1 else 0
theorem cmpI_zero (x y : Int) : decide (cmpI x y = 0) = decide (x = y) := by
  unfold cmpI
  by_cases h : x < y
  · have : x ≠ y := by omega
    simp [h, this]
  · by_cases h2 : y < x
    · have : x ≠ y := by omega
      simp [h, h2, this]
    · have : x = y := by omega
      simp [this]
theorem cmp_t (hF : F 180 = some f180) (h165 : F 165 = some f165) (N b : Nat) (σ : Sto) (x y : Int) : tcall F O (N + 2) b 180 [.int .i64 x, .int .i64 y] σ = some (.ret (.int .i64 (cmpI x y)), σ) := by
  have hx := nan_t (O := O) h165 N σ.length σ x
  have hy := nan_t (O := O) h165 N σ.length σ y
  refine tcall_pure hF ?_
  unfold cmpI
  by_cases h : x < y
  · simp [x180, hx, hy, h]
  · by_cases h2 : y < x
    · simp [x180, hx, hy, h, h2]
    · simp [x180, hx, hy, h, h2]
theorem order_t (hF : F 182 = some f182) (N b : Nat) (σ : Sto) (x y : Int) : tcall F O (N + 1) b 182 [.int .i64 x, .int .i64 y] σ = some (.ret (.int .i64 (cmpI x y)), σ) := by
  refine tcall_pure hF ?_
  unfold cmpI
  by_cases h : x < y
  · simp [x182, h]
  · by_cases h2 : y < x
    · simp [x182, h, h2]
    · simp [x182, h, h2]
end Go.Xe.YtalckpkiplhbcaaGreatDoor
end
section
namespace Go.Xe.YtalckpkiplhbcaaGreatDoor
open Go Go.Xe Go.Xt
set_option linter.unusedVariables false
set_option linter.unusedSimpArgs false
variable {F : FuncId → Option TFun} {O : FuncId → List TV → Option TV}
theorem cmpFunc (hF : F 181 = some f181) (G N : Nat) (S : PVal → PVal → Bool) (b : Nat) (σ : Sto) (l m : List PVal) (hl : l.length ≤ maxLen) (hm : m.length ≤ maxLen) (hn : l.length < N)
    (hc : ∀ x ∈ l, ∀ y ∈ m, ∀ b, ∃ r : Int, tcall F O N b G [.agg (encV x), .agg (encV y)] σ = some (.ret (.int .i64 r), σ) ∧ decide (r = 0) = S x y) :
    ∃ r : Int, tcall F O (N + 1) b 181 [.sl .fz (l.map encV), .sl .fz (m.map encV), .func G [] []] σ = some (.ret (.int .i64 r), σ) ∧ decide (r = 0) = all2 S l m := by
  suffices hh : ∃ e' σ', tcall F O (N + 1) b 181 [.sl .fz (l.map encV), .sl .fz (m.map encV), .func G [] []] σ = some (e', σ') ∧ ∃ r : Int, e' = .ret (.int .i64 r) ∧ σ' = σ ∧ decide (r = 0) = all2 S l m by
    obtain ⟨e', σ', h1, r, rfl, rfl, h2⟩ := hh
    exact ⟨r, h1, h2⟩
  refine tcall_of hF ?_
  simp [x181]
  obtain ⟨I, hI⟩ : ∃ I : Nat → TAct → Sto → Prop, I = (fun j a σ' => a.df = [] ∧ σ' = σ ∧ all2 S (l.drop j) (m.drop j) = all2 S l m ∧ a.tm.get 0 = some (.sl .fz (l.map encV)) ∧ a.tm.get 1 = some (.sl .fz (m.map encV)) ∧ a.tm.get 2 = some (.func G [] []) ∧ a.tm.get 11 = some (.sl .fz (l.map encV)) ∧ a.tm.get 12 = some (.int .i64 (l.length : Int)) ∧ a.tm.get 13 = some (.int .i64 j)) := ⟨_, rfl⟩
  obtain ⟨R, hR⟩ : ∃ R : TEx → TAct → Sto → Prop, R = (fun ex a σ' => a.df = [] ∧ σ' = σ ∧ (ex = .exit 0 ∧ all2 S (l.drop l.length) (m.drop l.length) = all2 S l m ∧ a.tm.get 0 = some (.sl .fz (l.map encV)) ∧ a.tm.get 1 = some (.sl .fz (m.map encV)) ∨ ex = .ret ∧ ∃ r : Int, decide (r = 0) = all2 S l m ∧ a.tm.get 6 = some (.int .i64 r))) := ⟨_, rfl⟩
  refine tw_loop I l.length R ?_ ?_ ?_ ?_ ?_
  · rw [hI]
    simp
  · omega
  · rw [hI]
    rintro j ⟨tm, df, clk⟩ σ' hj ⟨rfl, rfl, hd, h0, h1, h2, h11, h12, h13⟩
    rw [← hI]
    have hw := wrapJ hj hl
    by_cases hjm : (m.length : Int) ≤ (j : Int)
    · have hne : all2 S (l.drop j) (m.drop j) = false := all2_ne (by rw [List.length_drop, List.length_drop]; omega)
      rw [hne] at hd
      have hjm' : m.length ≤ j := by omega
      simp [h0, h1, h2, h11, h12, h13, hj, hjm, hjm', encV_def]
      rw [hR]
      exact ⟨rfl, rfl, .inr ⟨rfl, 1, by simpa using hd, by simp⟩⟩
    · have hjm2 : j < m.length := by omega
      have hjm' : ¬ m.length ≤ j := by omega
      rw [all2_step hj hjm2] at hd
      obtain ⟨r, hcc, hr⟩ := hc l[j] (List.getElem_mem hj) m[j] (List.getElem_mem hjm2) σ'.length
      rw [encV_def, encV_def] at hcc
      by_cases h0r : r = 0
      · have hs : S l[j] m[j] = true := by rw [← hr]; simp [h0r]
        rw [hs, Bool.true_and] at hd
        simp [h0, h1, h2, h11, h12, h13, hj, hjm, hjm', hjm2, hcc, h0r, hw, encV_def]
        rw [hI]
        simpa [h0, h1, h2, h11, h12] using hd
      · have hs : S l[j] m[j] = false := by rw [← hr]; simp [h0r]
        rw [hs, Bool.false_and] at hd
        simp [h0, h1, h2, h11, h12, h13, hj, hjm, hjm', hjm2, hcc, h0r, hw, encV_def]
        rw [hR]
        exact ⟨rfl, rfl, .inr ⟨rfl, r, by rw [← hd]; simp [h0r], by simp⟩⟩
  · rw [hI]
    rintro ⟨tm, df, clk⟩ σ' ⟨rfl, rfl, hd, h0, h1, h2, h11, h12, h13⟩
    simp [h0, h1, h2, h11, h12, h13]
    rw [hR]
    exact ⟨rfl, rfl, .inl ⟨rfl, hd, by simp [h0], by simp [h1]⟩⟩
  · rw [hR]
    rintro ex ⟨tm, df, clk⟩ σ' ⟨rfl, rfl, ⟨rfl, hd, h0, h1⟩ | ⟨rfl, r, hd, h6⟩⟩
    · by_cases hlt : (l.length : Int) < (m.length : Int)
      · have hne : all2 S (l.drop l.length) (m.drop l.length) = false := all2_ne (by rw [List.length_drop, List.length_drop]; omega)
        rw [hne] at hd
        have hlt' : l.length < m.length := by omega
        simp [h0, h1, hlt, hlt', ← hd]
      · have hlt' : ¬ l.length < m.length := by omega
        rw [all2_end (Nat.le_refl _) (by omega)] at hd
        simp [h0, h1, hlt, hlt', ← hd]
    · simp [h6, hd]
theorem compare_t (h158 : F 158 = some f158) (h180 : F 180 = some f180) (h165 : F 165 = some f165) (h181 : F 181 = some f181) : ∀ (N : Nat) (a c : PVal) (b : Nat) (σ : Sto), szV a ≤ N → OkV a → OkV c →
    ∃ r : Int, tcall F O N b 158 [.agg (encV a), .agg (encV c)] σ = some (.ret (.int .i64 r), σ) ∧ decide (r = 0) = sameV a c
  | 0, a, c, b, σ, h, _, _ => by rw [szV_def] at h; omega
  | 1, a, c, b, σ, h, _, _ => by rw [szV_def] at h; omega
  | 2, a, c, b, σ, h, _, _ => by rw [szV_def] at h; omega
  | N + 3, a, c, b, σ, h, ha, hc => by
    have hs := szV_def a
    have hk := szVs_len a.list
    obtain ⟨r, hq, hr⟩ := cmpFunc (O := O) h181 158 (N + 1) sameV σ.length σ a.list c.list ha.len hc.len (by omega) (fun x hx y hy b => compare_t h158 h180 h165 h181 (N + 1) x y b σ (by have := szVs_mem _ _ hx; omega) (ha.sub x hx) (hc.sub y hy))
    have h1 := cmp_t (O := O) h180 h165 N σ.length σ a.kind c.kind
    have h2 := cmp_t (O := O) h180 h165 N σ.length σ a.n c.n
    have z1 := cmpI_zero a.kind c.kind
    have z2 := cmpI_zero a.n c.n
    suffices hh : ∃ e' σ', tcall F O (N + 3) b 158 [.agg (encV a), .agg (encV c)] σ = some (e', σ') ∧ ∃ r : Int, e' = .ret (.int .i64 r) ∧ σ' = σ ∧ decide (r = 0) = sameV a c by
      obtain ⟨e', σ', q1, r', rfl, rfl, q2⟩ := hh
      exact ⟨r', q1, q2⟩
    refine tcall_of h158 ?_
    generalize cmpI a.kind c.kind = r1 at h1 z1
    generalize cmpI a.n c.n = r2 at h2 z2
    by_cases e1 : r1 = 0
    case neg =>
      simp [x158, encV_def, sameV_def, h1, e1, ← z1]
    by_cases e2 : r2 = 0
    case neg =>
      simp [x158, encV_def, sameV_def, h1, h2, e1, e2, ← z1, ← z2]
    simp [x158, encV_def, sameV_def, h1, h2, e1, e2, ← z1, ← z2, hq, hr]
theorem refCompare_t (h159 : F 159 = some f159) (h182 : F 182 = some f182) : ∀ (N : Nat) (a c : PVal) (b : Nat) (σ : Sto), szV a ≤ N → OkV a → OkV c →
    ∃ r : Int, tcall F O N b 159 [.agg (encV a), .agg (encV c)] σ = some (.ret (.int .i64 r), σ) ∧ decide (r = 0) = sameV a c
  | 0, a, c, b, σ, h, _, _ => by rw [szV_def] at h; omega
  | 1, a, c, b, σ, h, _, _ => by rw [szV_def] at h; omega
  | N + 2, a, c, b, σ, h, ha, hc => by
    have ih := refCompare_t h159 h182 (N + 1)
    have hs := szV_def a
    have hk := szVs_len a.list
    have h1 := order_t (O := O) h182 N σ.length σ a.kind c.kind
    have h2 := order_t (O := O) h182 N σ.length σ a.n c.n
    have h3 := order_t (O := O) h182 N σ.length σ (a.list.length : Int) (c.list.length : Int)
    have z1 := cmpI_zero a.kind c.kind
    have z2 := cmpI_zero a.n c.n
    have z3 := cmpI_zero (a.list.length : Int) (c.list.length : Int)
    suffices hh : ∃ e' σ', tcall F O (N + 2) b 159 [.agg (encV a), .agg (encV c)] σ = some (e', σ') ∧ ∃ r : Int, e' = .ret (.int .i64 r) ∧ σ' = σ ∧ decide (r = 0) = sameV a c by
      obtain ⟨e', σ', q1, r', rfl, rfl, q2⟩ := hh
      exact ⟨r', q1, q2⟩
    refine tcall_of h159 ?_
    generalize cmpI a.kind c.kind = r1 at h1 z1
    generalize cmpI a.n c.n = r2 at h2 z2
    generalize cmpI (a.list.length : Int) (c.list.length : Int) = r3 at h3 z3
    have hdef := sameV_def a c
    rw [← z1, ← z2] at hdef
    by_cases e1 : r1 = 0
    case neg =>
      have hS : sameV a c = false := by rw [hdef]; simp [e1]
      simp [x159, encV_def, h1, e1]
      obtain ⟨I, hI⟩ : ∃ I : Nat → TAct → Sto → Prop, I = (fun j a' σ' => a'.df = [] ∧ σ' = σ ∧ ∃ v : Int, (v = 0 → sameV a c = all2 sameV (a.list.drop j) (c.list.drop j)) ∧ (v ≠ 0 → sameV a c = false) ∧ a'.tm.get 2 = some (.bx 0 (encV a) 26) ∧ a'.tm.get 3 = some (.bx 2 (encV c) 26) ∧ a'.tm.get 5 = some (.int .i64 v) ∧ a'.tm.get 6 = some (.int .i64 j)) := ⟨_, rfl⟩
      obtain ⟨R, hR⟩ : ∃ R : TEx → TAct → Sto → Prop, R = (fun ex a' σ' => ex = .exit 0 ∧ a'.df = [] ∧ σ' = σ ∧ ∃ v : Int, (v = 0 → sameV a c = decide (a.list.length = c.list.length)) ∧ (v ≠ 0 → sameV a c = false) ∧ a'.tm.get 2 = some (.bx 0 (encV a) 26) ∧ a'.tm.get 3 = some (.bx 2 (encV c) 26) ∧ a'.tm.get 5 = some (.int .i64 v)) := ⟨_, rfl⟩
      refine tw_loop I (min a.list.length c.list.length) R ?_ ?_ ?_ ?_ ?_
      · rw [hI]
        exact ⟨rfl, rfl, r1, fun h => absurd h e1, fun _ => hS, by simp [encV_def], by simp [encV_def], by simp, by simp⟩
      · omega
      · rw [hI]
        rintro j ⟨tm, df, clk⟩ σ' hj ⟨rfl, rfl, v, hv0, hv1, g2, g3, g5, g6⟩
        rw [← hI]
        rw [encV_def] at g2 g3
        by_cases e0 : v = 0
        · have hja : j < a.list.length := by omega
          have hjc : j < c.list.length := by omega
          have hw := wrapJ hja ha.len
          obtain ⟨r, hcc, hr⟩ := ih a.list[j] c.list[j] σ'.length σ' (by have := szVs_mem _ _ (List.getElem_mem hja); omega) (ha.sub _ (List.getElem_mem hja)) (hc.sub _ (List.getElem_mem hjc))
          rw [encV_def, encV_def c.list[j]] at hcc
          have hd := hv0 e0
          rw [all2_step hja hjc, ← hr] at hd
          subst e0
          simp [g2, g3, g5, g6, hja, hjc, hcc, hw, encV_def]
          rw [hI]
          refine ⟨rfl, rfl, r, fun h => by rw [hd]; simp [h], fun h => by rw [hd]; simp [h], by simp [g2, encV_def], by simp [g3, encV_def], by simp, by simp⟩
        · simp [g2, g3, g5, g6, e0]
          rw [hR]
          exact ⟨rfl, rfl, rfl, v, fun h => absurd h e0, hv1, by simp [g2, encV_def], by simp [g3, encV_def], by simp [g5]⟩
      · rw [hI]
        rintro ⟨tm, df, clk⟩ σ' ⟨rfl, rfl, v, hv0, hv1, g2, g3, g5, g6⟩
        rw [encV_def] at g2 g3
        have hend : v = 0 → sameV a c = decide (a.list.length = c.list.length) := fun h => by
          rw [hv0 h]
          by_cases hlen : a.list.length = c.list.length
          · rw [all2_end (by omega) (by omega)]; simp [hlen]
          · rw [all2_ne (by rw [List.length_drop, List.length_drop]; omega)]; simp [hlen]
        by_cases e0 : v = 0
        · subst e0
          by_cases hja : ((min a.list.length c.list.length : Nat) : Int) < (a.list.length : Int)
          · have hjc : ¬ ((min a.list.length c.list.length : Nat) : Int) < (c.list.length : Int) := by omega
            generalize min a.list.length c.list.length = mn at g6 hja hjc
            simp [g2, g3, g5, g6, hja, hjc]
            rw [hR]
            exact ⟨rfl, rfl, rfl, 0, hend, hv1, by simp [g2, encV_def], by simp [g3, encV_def], by simp [g5]⟩
          · generalize min a.list.length c.list.length = mn at g6 hja
            simp [g2, g3, g5, g6, hja]
            rw [hR]
            exact ⟨rfl, rfl, rfl, 0, hend, hv1, by simp [g2, encV_def], by simp [g3, encV_def], by simp [g5]⟩
        · simp [g2, g3, g5, g6, e0]
          rw [hR]
          exact ⟨rfl, rfl, rfl, v, hend, hv1, by simp [g2, encV_def], by simp [g3, encV_def], by simp [g5]⟩
      · rw [hR]
        rintro ex ⟨tm, df, clk⟩ σ' ⟨rfl, rfl, rfl, v, hv0, hv1, g2, g3, g5⟩
        rw [encV_def] at g2 g3
        by_cases e0 : v = 0
        · subst e0
          have hd := hv0 rfl
          have z3' : decide (r3 = 0) = decide (a.list.length = c.list.length) := by rw [z3]; simp [Int.ofNat_inj]
          simp [g2, g3, g5, h3, hd]
          exact decide_eq_decide.1 z3'
        · simp [g2, g3, g5, e0, hv1 e0]
    by_cases e2 : r2 = 0
    case neg =>
      have hS : sameV a c = false := by rw [hdef]; simp [e2]
      simp [x159, encV_def, h1, h2, e1, e2]
      obtain ⟨I, hI⟩ : ∃ I : Nat → TAct → Sto → Prop, I = (fun j a' σ' => a'.df = [] ∧ σ' = σ ∧ ∃ v : Int, (v = 0 → sameV a c = all2 sameV (a.list.drop j) (c.list.drop j)) ∧ (v ≠ 0 → sameV a c = false) ∧ a'.tm.get 2 = some (.bx 0 (encV a) 26) ∧ a'.tm.get 3 = some (.bx 2 (encV c) 26) ∧ a'.tm.get 5 = some (.int .i64 v) ∧ a'.tm.get 6 = some (.int .i64 j)) := ⟨_, rfl⟩
      obtain ⟨R, hR⟩ : ∃ R : TEx → TAct → Sto → Prop, R = (fun ex a' σ' => ex = .exit 0 ∧ a'.df = [] ∧ σ' = σ ∧ ∃ v : Int, (v = 0 → sameV a c = decide (a.list.length = c.list.length)) ∧ (v ≠ 0 → sameV a c = false) ∧ a'.tm.get 2 = some (.bx 0 (encV a) 26) ∧ a'.tm.get 3 = some (.bx 2 (encV c) 26) ∧ a'.tm.get 5 = some (.int .i64 v)) := ⟨_, rfl⟩
      refine tw_loop I (min a.list.length c.list.length) R ?_ ?_ ?_ ?_ ?_
      · rw [hI]
        exact ⟨rfl, rfl, r2, fun h => absurd h e2, fun _ => hS, by simp [encV_def], by simp [encV_def], by simp, by simp⟩
      · omega
      · rw [hI]
        rintro j ⟨tm, df, clk⟩ σ' hj ⟨rfl, rfl, v, hv0, hv1, g2, g3, g5, g6⟩
        rw [← hI]
        rw [encV_def] at g2 g3
        by_cases e0 : v = 0
        · have hja : j < a.list.length := by omega
          have hjc : j < c.list.length := by omega
          have hw := wrapJ hja ha.len
          obtain ⟨r, hcc, hr⟩ := ih a.list[j] c.list[j] σ'.length σ' (by have := szVs_mem _ _ (List.getElem_mem hja); omega) (ha.sub _ (List.getElem_mem hja)) (hc.sub _ (List.getElem_mem hjc))
          rw [encV_def, encV_def c.list[j]] at hcc
          have hd := hv0 e0
          rw [all2_step hja hjc, ← hr] at hd
          subst e0
          simp [g2, g3, g5, g6, hja, hjc, hcc, hw, encV_def]
          rw [hI]
          refine ⟨rfl, rfl, r, fun h => by rw [hd]; simp [h], fun h => by rw [hd]; simp [h], by simp [g2, encV_def], by simp [g3, encV_def], by simp, by simp⟩
        · simp [g2, g3, g5, g6, e0]
          rw [hR]
          exact ⟨rfl, rfl, rfl, v, fun h => absurd h e0, hv1, by simp [g2, encV_def], by simp [g3, encV_def], by simp [g5]⟩
      · rw [hI]
        rintro ⟨tm, df, clk⟩ σ' ⟨rfl, rfl, v, hv0, hv1, g2, g3, g5, g6⟩
        rw [encV_def] at g2 g3
        have hend : v = 0 → sameV a c = decide (a.list.length = c.list.length) := fun h => by
          rw [hv0 h]
          by_cases hlen : a.list.length = c.list.length
          · rw [all2_end (by omega) (by omega)]; simp [hlen]
          · rw [all2_ne (by rw [List.length_drop, List.length_drop]; omega)]; simp [hlen]
        by_cases e0 : v = 0
        · subst e0
          by_cases hja : ((min a.list.length c.list.length : Nat) : Int) < (a.list.length : Int)
          · have hjc : ¬ ((min a.list.length c.list.length : Nat) : Int) < (c.list.length : Int) := by omega
            generalize min a.list.length c.list.length = mn at g6 hja hjc
            simp [g2, g3, g5, g6, hja, hjc]
            rw [hR]
            exact ⟨rfl, rfl, rfl, 0, hend, hv1, by simp [g2, encV_def], by simp [g3, encV_def], by simp [g5]⟩
          · generalize min a.list.length c.list.length = mn at g6 hja
            simp [g2, g3, g5, g6, hja]
            rw [hR]
            exact ⟨rfl, rfl, rfl, 0, hend, hv1, by simp [g2, encV_def], by simp [g3, encV_def], by simp [g5]⟩
        · simp [g2, g3, g5, g6, e0]
          rw [hR]
          exact ⟨rfl, rfl, rfl, v, hend, hv1, by simp [g2, encV_def], by simp [g3, encV_def], by simp [g5]⟩
      · rw [hR]
        rintro ex ⟨tm, df, clk⟩ σ' ⟨rfl, rfl, rfl, v, hv0, hv1, g2, g3, g5⟩
        rw [encV_def] at g2 g3
        by_cases e0 : v = 0
        · subst e0
          have hd := hv0 rfl
          have z3' : decide (r3 = 0) = decide (a.list.length = c.list.length) := by rw [z3]; simp [Int.ofNat_inj]
          simp [g2, g3, g5, h3, hd]
          exact decide_eq_decide.1 z3'
        · simp [g2, g3, g5, e0, hv1 e0]
    have hS : sameV a c = all2 sameV a.list c.list := by rw [hdef]; simp [e1, e2]
    simp [x159, encV_def, h1, h2, e1, e2]
    obtain ⟨I, hI⟩ : ∃ I : Nat → TAct → Sto → Prop, I = (fun j a' σ' => a'.df = [] ∧ σ' = σ ∧ ∃ v : Int, (v = 0 → sameV a c = all2 sameV (a.list.drop j) (c.list.drop j)) ∧ (v ≠ 0 → sameV a c = false) ∧ a'.tm.get 2 = some (.bx 0 (encV a) 26) ∧ a'.tm.get 3 = some (.bx 2 (encV c) 26) ∧ a'.tm.get 5 = some (.int .i64 v) ∧ a'.tm.get 6 = some (.int .i64 j)) := ⟨_, rfl⟩
    obtain ⟨R, hR⟩ : ∃ R : TEx → TAct → Sto → Prop, R = (fun ex a' σ' => ex = .exit 0 ∧ a'.df = [] ∧ σ' = σ ∧ ∃ v : Int, (v = 0 → sameV a c = decide (a.list.length = c.list.length)) ∧ (v ≠ 0 → sameV a c = false) ∧ a'.tm.get 2 = some (.bx 0 (encV a) 26) ∧ a'.tm.get 3 = some (.bx 2 (encV c) 26) ∧ a'.tm.get 5 = some (.int .i64 v)) := ⟨_, rfl⟩
    refine tw_loop I (min a.list.length c.list.length) R ?_ ?_ ?_ ?_ ?_
    · rw [hI]
      exact ⟨rfl, rfl, 0, fun _ => hS, fun h => absurd rfl h, by simp [encV_def], by simp [encV_def], by simp, by simp⟩
    · omega
    · rw [hI]
      rintro j ⟨tm, df, clk⟩ σ' hj ⟨rfl, rfl, v, hv0, hv1, g2, g3, g5, g6⟩
      rw [← hI]
      rw [encV_def] at g2 g3
      by_cases e0 : v = 0
      · have hja : j < a.list.length := by omega
        have hjc : j < c.list.length := by omega
        have hw := wrapJ hja ha.len
        obtain ⟨r, hcc, hr⟩ := ih a.list[j] c.list[j] σ'.length σ' (by have := szVs_mem _ _ (List.getElem_mem hja); omega) (ha.sub _ (List.getElem_mem hja)) (hc.sub _ (List.getElem_mem hjc))
        rw [encV_def, encV_def c.list[j]] at hcc
        have hd := hv0 e0
        rw [all2_step hja hjc, ← hr] at hd
        subst e0
        simp [g2, g3, g5, g6, hja, hjc, hcc, hw, encV_def]
        rw [hI]
        refine ⟨rfl, rfl, r, fun h => by rw [hd]; simp [h], fun h => by rw [hd]; simp [h], by simp [g2, encV_def], by simp [g3, encV_def], by simp, by simp⟩
      · simp [g2, g3, g5, g6, e0]
        rw [hR]
        exact ⟨rfl, rfl, rfl, v, fun h => absurd h e0, hv1, by simp [g2, encV_def], by simp [g3, encV_def], by simp [g5]⟩
    · rw [hI]
      rintro ⟨tm, df, clk⟩ σ' ⟨rfl, rfl, v, hv0, hv1, g2, g3, g5, g6⟩
      rw [encV_def] at g2 g3
      have hend : v = 0 → sameV a c = decide (a.list.length = c.list.length) := fun h => by
        rw [hv0 h]
        by_cases hlen : a.list.length = c.list.length
        · rw [all2_end (by omega) (by omega)]; simp [hlen]
        · rw [all2_ne (by rw [List.length_drop, List.length_drop]; omega)]; simp [hlen]
      by_cases e0 : v = 0
      · subst e0
        by_cases hja : ((min a.list.length c.list.length : Nat) : Int) < (a.list.length : Int)
        · have hjc : ¬ ((min a.list.length c.list.length : Nat) : Int) < (c.list.length : Int) := by omega
          generalize min a.list.length c.list.length = mn at g6 hja hjc
          simp [g2, g3, g5, g6, hja, hjc]
          rw [hR]
          exact ⟨rfl, rfl, rfl, 0, hend, hv1, by simp [g2, encV_def], by simp [g3, encV_def], by simp [g5]⟩
        · generalize min a.list.length c.list.length = mn at g6 hja
          simp [g2, g3, g5, g6, hja]
          rw [hR]
          exact ⟨rfl, rfl, rfl, 0, hend, hv1, by simp [g2, encV_def], by simp [g3, encV_def], by simp [g5]⟩
      · simp [g2, g3, g5, g6, e0]
        rw [hR]
        exact ⟨rfl, rfl, rfl, v, hend, hv1, by simp [g2, encV_def], by simp [g3, encV_def], by simp [g5]⟩
    · rw [hR]
      rintro ex ⟨tm, df, clk⟩ σ' ⟨rfl, rfl, rfl, v, hv0, hv1, g2, g3, g5⟩
      rw [encV_def] at g2 g3
      by_cases e0 : v = 0
      · subst e0
        have hd := hv0 rfl
        have z3' : decide (r3 = 0) = decide (a.list.length = c.list.length) := by rw [z3]; simp [Int.ofNat_inj]
        simp [g2, g3, g5, h3, hd]
        exact decide_eq_decide.1 z3'
      · simp [g2, g3, g5, e0, hv1 e0]
theorem same_t (h106 : F 106 = some f106) (h158 : F 158 = some f158) (h180 : F 180 = some f180) (h165 : F 165 = some f165) (h181 : F 181 = some f181) (N : Nat) (a c : PVal) (b : Nat) (σ : Sto) (h : szV a ≤ N) (ha : OkV a) (hc : OkV c) :
    tcall F O (N + 1) b 106 [.agg (encV a), .agg (encV c)] σ = some (.ret (.bool (sameV a c)), σ) := by
  obtain ⟨r, hq, hr⟩ := compare_t (O := O) h158 h180 h165 h181 N a c σ.length σ h ha hc
  rw [encV_def, encV_def c] at hq
  refine tcall_pure h106 ?_
  simp [x106, encV_def, hq, ← hr]
theorem refSame_t (h109 : F 109 = some f109) (h159 : F 159 = some f159) (h182 : F 182 = some f182) (N : Nat) (a c : PVal) (b : Nat) (σ : Sto) (h : szV a ≤ N) (ha : OkV a) (hc : OkV c) :
    tcall F O (N + 1) b 109 [.agg (encV a), .agg (encV c)] σ = some (.ret (.bool (sameV a c)), σ) := by
  obtain ⟨r, hq, hr⟩ := refCompare_t (O := O) h159 h182 N a c σ.length σ h ha hc
  rw [encV_def, encV_def c] at hq
  refine tcall_pure h109 ?_
  simp [x109, encV_def, hq, ← hr]
end Go.Xe.YtalckpkiplhbcaaGreatDoor
end
section
namespace Go.Xe.YtalckpkiplhbcaaGreatDoor
open Go Go.Xe Go.Xt
set_option linter.unusedVariables false
set_option linter.unusedSimpArgs false
variable {F : FuncId → Option TFun} {O : FuncId → List TV → Option TV}
structure VFits (F : FuncId → Option TFun) : Prop where
  h106 : F 106 = some f106
  h158 : F 158 = some f158
  h180 : F 180 = some f180
  h165 : F 165 = some f165
  h181 : F 181 = some f181
  h107 : F 107 = some f107
  h109 : F 109 = some f109
  h159 : F 159 = some f159
  h182 : F 182 = some f182
  h110 : F 110 = some f110
theorem sameTm_def' (a b : PTerm) : sameTm a b = (decide (a.kind = b.kind) && (decide (a.n = b.n) && (decide (a.m = b.m) && (sameV a.val b.val && (all2 sameI a.odds b.odds && all2 sameTm a.kids b.kids))))) := sameTm_def a b
theorem sameTerm_t (V : VFits F) (h64 : F 64 = some f64) (h108 : F 108 = some f108) : ∀ (N : Nat) (a c : PTerm) (b : Nat) (σ : Sto), szTm a ≤ N → OkTm a → OkTm c →
    tcall F O N b 64 [.agg (encTm a), .agg (encTm c)] σ = some (.ret (.bool (sameTm a c)), σ)
  | 0, a, c, b, σ, h, _, _ => by rw [szTm_def] at h; omega
  | 1, a, c, b, σ, h, _, _ => by rw [szTm_def] at h; omega
  | N + 2, a, c, b, σ, h, ha, hc => by
    have ih := sameTerm_t V h64 h108 N
    have hs := szTm_def a
    have hk := szTms_len a.kids
    have hV := same_t (O := O) V.h106 V.h158 V.h180 V.h165 V.h181 N a.val c.val σ.length σ (by omega) ha.val hc.val
    have hI := eqInts_t (O := O) V.h107 N σ.length σ a.odds c.odds ha.olen hc.olen (by omega)
    have hK := eqTerms (O := O) h108 64 N sameTm σ.length σ a.kids c.kids ha.len hc.len (by omega) (fun x hx y hy b => ih x y b σ (by have := szTms_mem _ _ hx; omega) (ha.sub x hx) (hc.sub y hy))
    rw [encV_def, encV_def c.val] at hV
    refine tcall_pure h64 ?_
    by_cases hk : a.kind = c.kind
    case neg => simp [x64, encTm_def, sameTm_def', hk]
    by_cases hn : a.n = c.n
    case neg => simp [x64, encTm_def, sameTm_def', hk, hn]
    by_cases hm : a.m = c.m
    case neg => simp [x64, encTm_def, sameTm_def', hk, hn, hm]
    cases hv : sameV a.val c.val with
    | false =>
      rw [hv] at hV
      simp [x64, encTm_def, sameTm_def', hk, hn, hm, hV, hv]
    | true =>
      rw [hv] at hV
      cases hi : all2 sameI a.odds c.odds with
      | false =>
        rw [hi] at hI
        simp [x64, encTm_def, sameTm_def', hk, hn, hm, hV, hv, hI, hi]
      | true =>
        rw [hi] at hI
        simp [x64, encTm_def, sameTm_def', hk, hn, hm, hV, hv, hI, hi, hK]
theorem refSameTerm_t (V : VFits F) (h65 : F 65 = some f65) : ∀ (N : Nat) (a c : PTerm) (b : Nat) (σ : Sto), szTm a ≤ N → OkTm a → OkTm c →
    tcall F O N b 65 [.agg (encTm a), .agg (encTm c)] σ = some (.ret (.bool (sameTm a c)), σ)
  | 0, a, c, b, σ, h, _, _ => by rw [szTm_def] at h; omega
  | 1, a, c, b, σ, h, _, _ => by rw [szTm_def] at h; omega
  | N + 2, a, c, b, σ, h, ha, hc => by
    have ih := refSameTerm_t V h65 (N + 1)
    have hs := szTm_def a
    have hk := szTms_len a.kids
    have hV := refSame_t (O := O) V.h109 V.h159 V.h182 N a.val c.val σ.length σ (by omega) ha.val hc.val
    have hI := ints_t (O := O) V.h110 N σ.length σ a.odds c.odds ha.olen hc.olen (by omega)
    rw [encV_def, encV_def c.val] at hV
    refine tcall_pure h65 ?_
    by_cases hk : a.kind = c.kind
    case neg => simp [x65, encTm_def, sameTm_def', hk]
    by_cases hn : a.n = c.n
    case neg => simp [x65, encTm_def, sameTm_def', hk, hn]
    by_cases hm : a.m = c.m
    case neg => simp [x65, encTm_def, sameTm_def', hk, hn, hm]
    cases hv : sameV a.val c.val with
    | false =>
      rw [hv] at hV
      simp [x65, encTm_def, sameTm_def', hk, hn, hm, hV, hv]
    | true =>
      rw [hv] at hV
      cases hi : all2 sameI a.odds c.odds with
      | false =>
        rw [hi] at hI
        simp [x65, encTm_def, sameTm_def', hk, hn, hm, hV, hv, hI, hi]
      | true =>
        rw [hi] at hI
        by_cases hlm : (a.kids.length : Int) = (c.kids.length : Int)
        case neg =>
          have hne : a.kids.length ≠ c.kids.length := by omega
          simp [x65, encTm_def, sameTm_def', hk, hn, hm, hV, hv, hI, hi, hlm, hne, all2_ne hne]
        have hlm' : a.kids.length = c.kids.length := by omega
        simp [x65, encTm_def, sameTm_def', hk, hn, hm, hV, hv, hI, hi, hlm']
        obtain ⟨I, hI⟩ : ∃ I : Nat → TAct → Sto → Prop, I = (fun j a' σ' => a'.df = [] ∧ σ' = σ ∧ all2 sameTm (a.kids.drop j) (c.kids.drop j) = all2 sameTm a.kids c.kids ∧ a'.tm.get 2 = some (.bx 0 (encTm a) 30) ∧ a'.tm.get 3 = some (.bx 2 (encTm c) 30) ∧ a'.tm.get 5 = some (.int .i64 j)) := ⟨_, rfl⟩
        obtain ⟨R, hR⟩ : ∃ R : TEx → TAct → Sto → Prop, R = (fun ex a' σ' => a'.df = [] ∧ σ' = σ ∧ (ex = .exit 0 ∧ all2 sameTm a.kids c.kids = true ∨ ex = .ret ∧ all2 sameTm a.kids c.kids = false ∧ a'.tm.get 4 = some (.bool false))) := ⟨_, rfl⟩
        refine tw_loop I c.kids.length R ?_ ?_ ?_ ?_ ?_
        · rw [hI]
          simp [encTm_def, hk, hn, hm]
        · omega
        · rw [hI]
          rintro j ⟨tm, df, clk⟩ σ' hj ⟨rfl, rfl, hd, h2, h3, h5⟩
          rw [← hI]
          have hjl : j < a.kids.length := by omega
          have hw := wrapJ hj hc.len
          rw [all2_step hjl hj] at hd
          have hcc := ih a.kids[j] c.kids[j] σ'.length σ' (by have := szTms_mem _ _ (List.getElem_mem hjl); omega) (ha.sub _ (List.getElem_mem hjl)) (hc.sub _ (List.getElem_mem hj))
          rw [encTm_def, encTm_def c.kids[j]] at hcc
          rw [encTm_def] at h2 h3
          cases hs : sameTm a.kids[j] c.kids[j] with
          | true =>
            rw [hs] at hd hcc
            simp [h2, h3, h5, hj, hjl, hlm', hcc, hw, encTm_def]
            rw [hI]
            simpa [h2, h3, encTm_def] using hd
          | false =>
            rw [hs] at hd hcc
            simp [h2, h3, h5, hj, hjl, hlm', hcc, hw, encTm_def]
            rw [hR]
            simpa using hd.symm
        · rw [hI]
          rintro ⟨tm, df, clk⟩ σ' ⟨rfl, rfl, hd, h2, h3, h5⟩
          rw [all2_end (by omega) (by omega)] at hd
          rw [encTm_def] at h2 h3
          simp [h2, h3, h5, hlm']
          rw [hR]
          exact ⟨rfl, rfl, .inl ⟨rfl, hd.symm⟩⟩
        · rw [hR]
          rintro ex ⟨tm, df, clk⟩ σ' ⟨rfl, rfl, ⟨rfl, h⟩ | ⟨rfl, h, h6⟩⟩
          · simp [h]
          · simp [h, h6]
end Go.Xe.YtalckpkiplhbcaaGreatDoor
end
section
namespace Go.Xe.YtalckpkiplhbcaaGreatDoor
open Go Go.Xe Go.Xt
set_option linter.unusedVariables false
set_option linter.unusedSimpArgs false
variable {F : FuncId → Option TFun} {O : FuncId → List TV → Option TV}
theorem sameBody_t (V : VFits F) (hF : F 38 = some f38) (h64 : F 64 = some f64) (h108 : F 108 = some f108) (N : Nat) (a c : PBody) (b : Nat) (σ : Sto) (h : szTm a.term ≤ N) (ha : OkBd a) (hc : OkBd c) :
    tcall F O (N + 1) b 38 [.agg (encBd a), .agg (encBd c)] σ = some (.ret (.bool (sameBd a c)), σ) := by
  have hT := sameTerm_t (O := O) V h64 h108 N a.term c.term σ.length σ h ha.term hc.term
  rw [encTm_def, encTm_def c.term] at hT
  refine tcall_pure hF ?_
  by_cases hp : a.params = c.params
  case neg => simp [x38, encBd_def, sameBd, hp]
  by_cases hs : a.slots = c.slots
  case neg => simp [x38, encBd_def, sameBd, hp, hs]
  simp [x38, encBd_def, sameBd, hp, hs, hT]
theorem refSameBody_t (V : VFits F) (hF : F 39 = some f39) (h65 : F 65 = some f65) (N : Nat) (a c : PBody) (b : Nat) (σ : Sto) (h : szTm a.term ≤ N) (ha : OkBd a) (hc : OkBd c) :
    tcall F O (N + 1) b 39 [.agg (encBd a), .agg (encBd c)] σ = some (.ret (.bool (sameBd a c)), σ) := by
  have hT := refSameTerm_t (O := O) V h65 N a.term c.term σ.length σ h ha.term hc.term
  rw [encTm_def, encTm_def c.term] at hT
  refine tcall_pure hF ?_
  by_cases hp : a.params = c.params
  case neg => simp [x39, encBd_def, sameBd, hp]
  by_cases hs : a.slots = c.slots
  case neg => simp [x39, encBd_def, sameBd, hp, hs]
  simp [x39, encBd_def, sameBd, hp, hs, hT]
structure Lim (M : Nat) (c : PCore) : Prop where
  types : szTs c.types < M
  funs : ∀ f ∈ c.funs, szTm f.term ≤ M
  flen : c.funs.length < M
  query : szTm c.query.term ≤ M
structure SFits (F : FuncId → Option TFun) extends VFits F where
  h36 : F 36 = some f36
  h35 : F 35 = some f35
  h37 : F 37 = some f37
  h38 : F 38 = some f38
  h39 : F 39 = some f39
  h40 : F 40 = some f40
  h64 : F 64 = some f64
  h65 : F 65 = some f65
  h108 : F 108 = some f108
theorem same13_t (V : SFits F) (hF : F 13 = some f13) (M : Nat) (a c : PCore) (b : Nat) (σ : Sto) (hM : Lim M a) (ha : OkC a) (hc : OkC c) :
    tcall F O (M + 3) b 13 [.agg (encC a), .agg (encC c)] σ = some (.ret (.bool (sameC a c)), σ) := by
  have hk := szTs_len a.types
  have hT := eqTypes (O := O) V.h35 36 (M + 1) sameT σ.length σ a.types c.types ha.tlen hc.tlen (by have := hM.types; omega) (fun x hx y hy b => typeSame_t V.h36 V.h35 (M + 1) x y b σ (by have := szTs_mem _ _ hx; have := hM.types; omega) (ha.types x hx) (hc.types y hy))
  have hB := eqBodies (O := O) V.h37 38 (M + 1) sameBd σ.length σ a.funs c.funs ha.flen hc.flen (by have := hM.flen; omega) (fun x hx y hy b => sameBody_t V.toVFits V.h38 V.h64 V.h108 M x y b σ (hM.funs x hx) (ha.funs x hx) (hc.funs y hy))
  have hQ := sameBody_t (O := O) V.toVFits V.h38 V.h64 V.h108 (M + 1) a.query c.query σ.length σ (by have := hM.query; omega) ha.query hc.query
  rw [encBd_def, encBd_def c.query] at hQ
  refine tcall_pure hF ?_
  cases ht : all2 sameT a.types c.types with
  | false =>
    rw [ht] at hT
    simp [x13, encC_def, sameC, hT, ht]
  | true =>
    rw [ht] at hT
    cases hb : all2 sameBd a.funs c.funs with
    | false =>
      rw [hb] at hB
      simp [x13, encC_def, sameC, hT, ht, hB, hb]
    | true =>
      rw [hb] at hB
      cases hq : sameBd a.query c.query with
      | false =>
        rw [hq] at hQ
        simp [x13, encC_def, sameC, hT, ht, hB, hb, hQ, hq]
      | true =>
        rw [hq] at hQ
        simp [x13, encC_def, sameC, hT, ht, hB, hb, hQ, hq]
theorem same14_t (V : SFits F) (hF : F 14 = some f14) (M : Nat) (a c : PCore) (b : Nat) (σ : Sto) (hM : Lim M a) (ha : OkC a) (hc : OkC c) :
    tcall F O (M + 3) b 14 [.agg (encC a), .agg (encC c)] σ = some (.ret (.bool (sameC a c)), σ) := by
  have hk := szTs_len a.types
  have hQ := refSameBody_t (O := O) V.toVFits V.h39 V.h65 (M + 1) a.query c.query σ.length σ (by have := hM.query; omega) ha.query hc.query
  rw [encBd_def, encBd_def c.query] at hQ
  refine tcall_pure hF ?_
  by_cases hl1 : (a.types.length : Int) = (c.types.length : Int)
  case neg =>
    have hne : a.types.length ≠ c.types.length := by omega
    simp [x14, encC_def, sameC, hl1, hne, all2_ne hne]
  have hl1' : a.types.length = c.types.length := by omega
  by_cases hl2 : (a.funs.length : Int) = (c.funs.length : Int)
  case neg =>
    have hne : a.funs.length ≠ c.funs.length := by omega
    simp [x14, encC_def, sameC, hl1', hl2, hne, all2_ne hne]
  have hl2' : a.funs.length = c.funs.length := by omega
  by_cases hs : a.sites = c.sites
  case neg => simp [x14, encC_def, sameC, hl1', hl2', hs]
  cases hq : sameBd a.query c.query with
  | false =>
    rw [hq] at hQ
    simp [x14, encC_def, sameC, hl1', hl2', hs, hQ, hq]
  | true =>
    rw [hq] at hQ
    have hdef : sameC a c = (all2 sameT a.types c.types && all2 sameBd a.funs c.funs) := by simp [sameC, hq, hs]
    simp [x14, encC_def, hl1', hl2', hs, hQ]
    obtain ⟨I, hI⟩ : ∃ I : Nat → TAct → Sto → Prop, I = (fun j a' σ' => a'.df = [] ∧ σ' = σ ∧ all2 sameT (a.types.drop j) (c.types.drop j) = all2 sameT a.types c.types ∧ a'.tm.get 2 = some (.bx 0 (encC a) 34) ∧ a'.tm.get 3 = some (.bx 2 (encC c) 34) ∧ a'.tm.get 5 = some (.int .i64 j)) := ⟨_, rfl⟩
    obtain ⟨R, hR⟩ : ∃ R : TEx → TAct → Sto → Prop, R = (fun ex a' σ' => a'.df = [] ∧ σ' = σ ∧ (ex = .exit 0 ∧ all2 sameT a.types c.types = true ∧ a'.tm.get 2 = some (.bx 0 (encC a) 34) ∧ a'.tm.get 3 = some (.bx 2 (encC c) 34) ∨ ex = .ret ∧ all2 sameT a.types c.types = false ∧ a'.tm.get 4 = some (.bool false))) := ⟨_, rfl⟩
    refine tw_loop I c.types.length R ?_ ?_ ?_ ?_ ?_
    · rw [hI]
      simp [encC_def, hs]
    · have := hM.types
      omega
    · rw [hI]
      rintro j ⟨tm, df, clk⟩ σ' hj ⟨rfl, rfl, hd, h2, h3, h5⟩
      rw [← hI]
      have hjl : j < a.types.length := by omega
      have hw := wrapJ hj hc.tlen
      rw [all2_step hjl hj] at hd
      have hcc := refTypeSame_t (O := O) V.h40 (M + 2) a.types[j] c.types[j] σ'.length σ' (by have := szTs_mem _ _ (List.getElem_mem hjl); have := hM.types; omega) (ha.types _ (List.getElem_mem hjl)) (hc.types _ (List.getElem_mem hj))
      rw [encT_def, encT_def c.types[j]] at hcc
      rw [encC_def] at h2 h3
      cases hs : sameT a.types[j] c.types[j] with
      | true =>
        rw [hs] at hd hcc
        simp [h2, h3, h5, hj, hjl, hl1', hl2', hcc, hw, encT_def]
        rw [hI]
        simpa [h2, h3, encC_def] using hd
      | false =>
        rw [hs] at hd hcc
        simp [h2, h3, h5, hj, hjl, hl1', hl2', hcc, hw, encT_def]
        rw [hR]
        simpa using hd.symm
    · rw [hI]
      rintro ⟨tm, df, clk⟩ σ' ⟨rfl, rfl, hd, h2, h3, h5⟩
      rw [all2_end (by omega) (by omega)] at hd
      rw [encC_def] at h2 h3
      simp [h2, h3, h5, hl1', hl2']
      rw [hR]
      exact ⟨rfl, rfl, .inl ⟨rfl, hd.symm, by simp [h2, encC_def], by simp [h3, encC_def]⟩⟩
    · rw [hR]
      rintro ex ⟨tm, df, clk⟩ σ1 ⟨rfl, he, hor⟩
      obtain rfl : σ = σ1 := he.symm
      rcases hor with ⟨rfl, hall, h2, h3⟩ | ⟨rfl, hall, h4⟩
      · simp [h2, h3]
        obtain ⟨I, hI⟩ : ∃ I : Nat → TAct → Sto → Prop, I = (fun j a' σ' => a'.df = [] ∧ σ' = σ ∧ all2 sameBd (a.funs.drop j) (c.funs.drop j) = all2 sameBd a.funs c.funs ∧ a'.tm.get 2 = some (.bx 0 (encC a) 34) ∧ a'.tm.get 3 = some (.bx 2 (encC c) 34) ∧ a'.tm.get 6 = some (.int .i64 j)) := ⟨_, rfl⟩
        obtain ⟨R, hR⟩ : ∃ R : TEx → TAct → Sto → Prop, R = (fun ex a' σ' => a'.df = [] ∧ σ' = σ ∧ (ex = .exit 2 ∧ all2 sameBd a.funs c.funs = true ∧ a'.tm.get 2 = some (.bx 0 (encC a) 34) ∧ a'.tm.get 3 = some (.bx 2 (encC c) 34) ∨ ex = .ret ∧ all2 sameBd a.funs c.funs = false ∧ a'.tm.get 4 = some (.bool false))) := ⟨_, rfl⟩
        refine tw_loop I c.funs.length R ?_ ?_ ?_ ?_ ?_
        · rw [hI]
          simp [encC_def, h2, h3]
        · have := hM.flen
          omega
        · rw [hI]
          rintro j ⟨tm, df, clk⟩ σ' hj ⟨rfl, rfl, hd, h2, h3, h5⟩
          rw [← hI]
          have hjl : j < a.funs.length := by omega
          have hw := wrapJ hj hc.flen
          rw [all2_step hjl hj] at hd
          have hcc := refSameBody_t (O := O) V.toVFits V.h39 V.h65 (M + 1) a.funs[j] c.funs[j] σ'.length σ' (by have := hM.funs _ (List.getElem_mem hjl); omega) (ha.funs _ (List.getElem_mem hjl)) (hc.funs _ (List.getElem_mem hj))
          rw [encBd_def, encBd_def c.funs[j]] at hcc
          rw [encC_def] at h2 h3
          cases hs : sameBd a.funs[j] c.funs[j] with
          | true =>
            rw [hs] at hd hcc
            simp [h2, h3, h5, hj, hjl, hl1', hl2', hcc, hw, encBd_def]
            rw [hI]
            simpa [h2, h3, encC_def] using hd
          | false =>
            rw [hs] at hd hcc
            simp [h2, h3, h5, hj, hjl, hl1', hl2', hcc, hw, encBd_def]
            rw [hR]
            simpa using hd.symm
        · rw [hI]
          rintro ⟨tm, df, clk⟩ σ' ⟨rfl, rfl, hd, h2, h3, h5⟩
          rw [all2_end (by omega) (by omega)] at hd
          rw [encC_def] at h2 h3
          simp [h2, h3, h5, hl1', hl2']
          rw [hR]
          exact ⟨rfl, rfl, .inl ⟨rfl, hd.symm, by simp [h2, encC_def], by simp [h3, encC_def]⟩⟩
        · rw [hR]
          rintro ex ⟨tm, df, clk⟩ σ' ⟨rfl, rfl, ⟨rfl, hall2, h2, h3⟩ | ⟨rfl, hall2, h4⟩⟩
          · simp [hdef, hall, hall2]
          · simp [hdef, hall, hall2, h4]
      · simp [hdef, hall, h4]
def FT (f : FuncId) : Option TFun :=
  if f = 4 then some f4 else if f = 6 then some f6 else if f = 7 then some f7 else if f = 13 then some f13 else if f = 14 then some f14 else if f = 23 then some f23 else if f = 24 then some f24 else if f = 25 then some f25 else if f = 35 then some f35 else if f = 36 then some f36 else if f = 37 then some f37 else if f = 38 then some f38 else if f = 39 then some f39 else if f = 40 then some f40 else if f = 47 then some f47 else if f = 64 then some f64 else if f = 65 then some f65 else if f = 106 then some f106 else if f = 107 then some f107 else if f = 108 then some f108 else if f = 109 then some f109 else if f = 110 then some f110 else if f = 158 then some f158 else if f = 159 then some f159 else if f = 165 then some f165 else if f = 180 then some f180 else if f = 181 then some f181 else if f = 182 then some f182 else none
def OT (f : FuncId) (args : List TV) : Option TV :=
  match args with
  | [] => if f = 8 then some (.bool true) else none
  | _ => none
theorem sfits : SFits FT := { h106 := rfl, h158 := rfl, h180 := rfl, h165 := rfl, h181 := rfl, h107 := rfl, h109 := rfl, h159 := rfl, h182 := rfl, h110 := rfl, h36 := rfl, h35 := rfl, h37 := rfl, h38 := rfl, h39 := rfl, h40 := rfl, h64 := rfl, h65 := rfl, h108 := rfl }
theorem coreSames_t (M : Nat) (a c : PCore) (hMa : Lim M a) (hMc : Lim M c) (ha : OkC a) (hc : OkC c) : ∃ σ', tcall FT OT (M + 4) 0 4 [.agg (encC a), .agg (encC c)] [] = some (.ret (.bool true), σ') := by
  have h8 : ∀ (b : Nat) (σ : Sto), tcall FT OT (M + 3) b 8 [] σ = some (.ret (.bool true), σ) := fun b σ => rfl
  obtain ⟨ra, hra⟩ := fewCore_t (F := FT) (O := OT) rfl rfl rfl rfl rfl rfl (M + 1) a 0 [] 3000 ha (by have := hMa.types; omega) (by have := hMa.query; omega) (fun f hf => by have := hMa.funs f hf; omega) (by have := hMa.flen; omega)
  obtain ⟨rc, hrc⟩ := fewCore_t (F := FT) (O := OT) rfl rfl rfl rfl rfl rfl (M + 1) c 0 [] 3000 hc (by have := hMc.types; omega) (by have := hMc.query; omega) (fun f hf => by have := hMc.funs f hf; omega) (by have := hMc.flen; omega)
  have h13 := same13_t (F := FT) (O := OT) sfits rfl M a c 0 [] hMa ha hc
  have h13' := same13_t (F := FT) (O := OT) sfits rfl M a a 0 [] hMa ha ha
  have h14 := same14_t (F := FT) (O := OT) sfits rfl M a c 0 [] hMa ha hc
  rw [sameC_refl] at h13'
  rw [encC_def] at hra hrc h13' h13 h14
  rw [encC_def c] at h13 h14
  suffices hh : ∃ r σ', tcall FT OT (M + 4) 0 4 [.agg (encC a), .agg (encC c)] [] = some (r, σ') ∧ r = .ret (.bool true) by
    obtain ⟨r, σ', h1, rfl⟩ := hh
    exact ⟨σ', h1⟩
  refine tcall_of (fn := f4) rfl ?_
  cases ra with
  | false => simp [x4, encC_def, hra, h8]
  | true =>
    cases rc with
    | false => simp [x4, encC_def, hra, hrc, h8]
    | true =>
      cases hs : sameC a c with
      | false =>
        rw [hs] at h13 h14
        simp [x4, encC_def, hra, hrc, h8, h13, h14, h13']
      | true =>
        rw [hs] at h13 h14
        simp [x4, encC_def, hra, hrc, h8, h13, h14, h13']
end Go.Xe.YtalckpkiplhbcaaGreatDoor
end
section
namespace Go.Proofs
open Go.Shelf
def Tryz.lays137_ren : Go.Shelf.Ren := ⟨fun | 137 => 186 | 217 => 193 | 266 => 199 | n => n, fun | 9 => 9 | 5 => 5 | 3 => 3 | n => n, fun | n => n⟩
theorem Tryz.lays137 : Go.Proofs.Lays.n137 Tryz.prog Tryz.lays137_ren := {
  mixed := by kernel_rfl
  f137 := Tryz.func186.trans (congrArg some (by kernel_rfl))
  f217 := Tryz.func193.trans (congrArg some (by kernel_rfl))
  f266 := Tryz.func199.trans (congrArg some (by kernel_rfl))
  t3 := Tryz.underlying3
  a3 := Tryz.isAgg3
  z3 := Tryz.sizeOf3
  v3 := Tryz.zeroValue3
  t5 := Tryz.underlying5
  a5 := Tryz.isAgg5
  z5 := Tryz.sizeOf5
  v5 := Tryz.zeroValue5
  t9 := Tryz.underlying9
  a9 := Tryz.isAgg9
  z9 := Tryz.sizeOf9
  v9 := Tryz.zeroValue9 }
open Go.RowKit in
theorem Tryz.strings_IndexByte (s : ByteArray) (c : Int) (w : World) :
    Calls Tryz.prog 186 #[.string s, .int .u8 c] w fun e w' => e = .returned (.int .i64 (Lib.indexByte s.data.toList c.toNat.toUInt8)) ∧ w' = w := Any.strings_IndexByte Tryz.lays137 s c w
def Tryz.lays217_ren : Go.Shelf.Ren := ⟨fun | 217 => 193 | 266 => 199 | n => n, fun | 9 => 9 | 5 => 5 | 3 => 3 | n => n, fun | n => n⟩
theorem Tryz.lays217 : Go.Proofs.Lays.n217 Tryz.prog Tryz.lays217_ren := {
  mixed := by kernel_rfl
  f217 := Tryz.func193.trans (congrArg some (by kernel_rfl))
  f266 := Tryz.func199.trans (congrArg some (by kernel_rfl))
  t3 := Tryz.underlying3
  a3 := Tryz.isAgg3
  z3 := Tryz.sizeOf3
  v3 := Tryz.zeroValue3
  t5 := Tryz.underlying5
  a5 := Tryz.isAgg5
  z5 := Tryz.sizeOf5
  v5 := Tryz.zeroValue5
  t9 := Tryz.underlying9
  a9 := Tryz.isAgg9
  z9 := Tryz.sizeOf9
  v9 := Tryz.zeroValue9 }
open Go.RowKit Go.Lib in
theorem Tryz.stringslite_IndexByte (s : ByteArray) (c : Int) (w : World) :
    Calls Tryz.prog 193 #[.string s, .int .u8 c] w fun e w' => e = .returned (.int .i64 (Lib.indexByte s.data.toList c.toNat.toUInt8)) ∧ w' = w := Any.stringslite_IndexByte Tryz.lays217 s c w
def Tryz.lays224_ren : Go.Shelf.Ren := ⟨fun | 224 => 197 | n => n, fun | 3 => 3 | n => n, fun | n => n⟩
theorem Tryz.lays224 : Go.Proofs.Lays.n224 Tryz.prog Tryz.lays224_ren := {
  mixed := by kernel_rfl
  f224 := Tryz.func197.trans (congrArg some (by kernel_rfl))
  t3 := Tryz.underlying3
  a3 := Tryz.isAgg3
  z3 := Tryz.sizeOf3
  v3 := Tryz.zeroValue3 }
open Go.RowKit Go.Lib in
theorem Tryz.bytealg_Cutover (n : Int) (h0 : 0 ≤ n) (h1 : n < 4611686018427387904) (w : World) :
    Calls Tryz.prog 197 #[.int .i64 n] w fun e w' => e = .returned (.int .i64 ((n + 16) / 8)) ∧ w' = w := Any.bytealg_Cutover Tryz.lays224 n h0 h1 w
def Tryz.lays314_ren : Go.Shelf.Ren := ⟨fun | 314 => 200 | n => n, fun | 9 => 9 | 51 => 169 | 3 => 3 | 4 => 4 | 5 => 5 | 46 => 114 | n => n, fun | n => n⟩
theorem Tryz.lays314 : Go.Proofs.Lays.n314 Tryz.prog Tryz.lays314_ren := {
  mixed := by kernel_rfl
  f314 := Tryz.func200.trans (congrArg some (by kernel_rfl))
  t3 := Tryz.underlying3
  a3 := Tryz.isAgg3
  z3 := Tryz.sizeOf3
  v3 := Tryz.zeroValue3
  t4 := Tryz.underlying4
  a4 := Tryz.isAgg4
  z4 := Tryz.sizeOf4
  v4 := Tryz.zeroValue4
  t5 := Tryz.underlying5
  a5 := Tryz.isAgg5
  z5 := Tryz.sizeOf5
  v5 := Tryz.zeroValue5
  t9 := Tryz.underlying9
  a9 := Tryz.isAgg9
  z9 := Tryz.sizeOf9
  v9 := Tryz.zeroValue9
  t46 := Tryz.underlying114
  a46 := Tryz.isAgg114
  z46 := Tryz.sizeOf114
  v46 := Tryz.zeroValue114
  t51 := Tryz.underlying169
  a51 := Tryz.isAgg169
  z51 := Tryz.sizeOf169
  v51 := Tryz.zeroValue169 }
open Go.RowKit Go.Lib in
theorem Tryz.bytealg_hashStr (sep : ByteArray) (hs : sep.size < 4294967281) (w : World) :
    Calls Tryz.prog 200 #[.string sep] w fun e w' => e = .returned (.tuple #[.int .u32 (RK.H sep.data.toList % 4294967296), .int .u32 (16777619 ^ sep.size % 4294967296)]) ∧ w' = w := Any.bytealg_hashStr Tryz.lays314 sep hs w
def Tryz.lays267_ren : Go.Shelf.Ren := ⟨fun | 267 => 198 | 314 => 200 | n => n, fun | 9 => 9 | 3 => 3 | 146 => 235 | 51 => 169 | 4 => 4 | 5 => 5 | 46 => 114 | n => n, fun | n => n⟩
theorem Tryz.lays267 : Go.Proofs.Lays.n267 Tryz.prog Tryz.lays267_ren := {
  mixed := by kernel_rfl
  f267 := Tryz.func198.trans (congrArg some (by kernel_rfl))
  f314 := Tryz.func200.trans (congrArg some (by kernel_rfl))
  t3 := Tryz.underlying3
  a3 := Tryz.isAgg3
  z3 := Tryz.sizeOf3
  v3 := Tryz.zeroValue3
  t4 := Tryz.underlying4
  a4 := Tryz.isAgg4
  z4 := Tryz.sizeOf4
  v4 := Tryz.zeroValue4
  t5 := Tryz.underlying5
  a5 := Tryz.isAgg5
  z5 := Tryz.sizeOf5
  v5 := Tryz.zeroValue5
  t9 := Tryz.underlying9
  a9 := Tryz.isAgg9
  z9 := Tryz.sizeOf9
  v9 := Tryz.zeroValue9
  t46 := Tryz.underlying114
  a46 := Tryz.isAgg114
  z46 := Tryz.sizeOf114
  v46 := Tryz.zeroValue114
  t51 := Tryz.underlying169
  a51 := Tryz.isAgg169
  z51 := Tryz.sizeOf169
  v51 := Tryz.zeroValue169
  t146 := Tryz.underlying235
  a146 := Tryz.isAgg235
  z146 := Tryz.sizeOf235
  v146 := Tryz.zeroValue235 }
open Go.RowKit Go.Lib in
theorem Tryz.bytealg_IndexRabinKarp (s sep : ByteArray) (h1 : 1 ≤ sep.size) (h2 : sep.size ≤ s.size) (hs : s.size < 4294967281) (w : World) :
    Calls Tryz.prog 198 #[.string s, .string sep] w fun e w' => e = .returned (.int .i64 (Lib.index s.data.toList sep.data.toList)) ∧ w' = w := Any.bytealg_IndexRabinKarp Tryz.lays267 s sep h1 h2 hs w
def Tryz.lays219_ren : Go.Shelf.Ren := ⟨fun | 219 => 191 | 217 => 193 | 225 => 196 | 224 => 197 | 267 => 198 | 266 => 199 | 314 => 200 | n => n, fun | 9 => 9 | 3 => 3 | 4 => 4 | 5 => 5 | 46 => 114 | 146 => 235 | 51 => 169 | n => n, fun | 1 => 1 | n => n⟩
theorem Tryz.lays219 : Go.Proofs.Lays.n219 Tryz.prog Tryz.lays219_ren := {
  mixed := by kernel_rfl
  f217 := Tryz.func193.trans (congrArg some (by kernel_rfl))
  f219 := Tryz.func191.trans (congrArg some (by kernel_rfl))
  f224 := Tryz.func197.trans (congrArg some (by kernel_rfl))
  f225 := Tryz.func196.trans (congrArg some (by kernel_rfl))
  f266 := Tryz.func199.trans (congrArg some (by kernel_rfl))
  f267 := Tryz.func198.trans (congrArg some (by kernel_rfl))
  f314 := Tryz.func200.trans (congrArg some (by kernel_rfl))
  t3 := Tryz.underlying3
  a3 := Tryz.isAgg3
  z3 := Tryz.sizeOf3
  v3 := Tryz.zeroValue3
  t4 := Tryz.underlying4
  a4 := Tryz.isAgg4
  z4 := Tryz.sizeOf4
  v4 := Tryz.zeroValue4
  t5 := Tryz.underlying5
  a5 := Tryz.isAgg5
  z5 := Tryz.sizeOf5
  v5 := Tryz.zeroValue5
  t9 := Tryz.underlying9
  a9 := Tryz.isAgg9
  z9 := Tryz.sizeOf9
  v9 := Tryz.zeroValue9
  t46 := Tryz.underlying114
  a46 := Tryz.isAgg114
  z46 := Tryz.sizeOf114
  v46 := Tryz.zeroValue114
  t51 := Tryz.underlying169
  a51 := Tryz.isAgg169
  z51 := Tryz.sizeOf169
  v51 := Tryz.zeroValue169
  t146 := Tryz.underlying235
  a146 := Tryz.isAgg235
  z146 := Tryz.sizeOf235
  v146 := Tryz.zeroValue235
  g1 := by kernel_rfl }
open Go.RowKit Go.Lib in
theorem Tryz.stringslite_Index_one (s : ByteArray) (c : UInt8) (w : World) :
    Calls Tryz.prog 191 #[.string s, .string ⟨#[c]⟩] w fun e w' => e = .returned (.int .i64 (Lib.indexByte s.data.toList c)) ∧ w' = w := Any.stringslite_Index_one Tryz.lays219 s c w
open Go.RowKit Go.Lib in
theorem Tryz.stringslite_Index (s sub : ByteArray) (m : Int) (w : World) (hs : s.size < 4294967281) (hm : w.cell? ⟨1, 0, none⟩ = some (.int .i64 m)) :
    Calls Tryz.prog 191 #[.string s, .string sub] w fun e w' => e = .returned (.int .i64 (Lib.index s.data.toList sub.data.toList)) ∧ w' = w := Any.stringslite_Index Tryz.lays219 s sub m w hs hm
def Tryz.lays143_ren : Go.Shelf.Ren := ⟨fun | 143 => 184 | 219 => 191 | 217 => 193 | 225 => 196 | 224 => 197 | 267 => 198 | 266 => 199 | 314 => 200 | n => n, fun | 9 => 9 | 3 => 3 | 4 => 4 | 5 => 5 | 46 => 114 | 146 => 235 | 51 => 169 | n => n, fun | 1 => 1 | n => n⟩
theorem Tryz.lays143 : Go.Proofs.Lays.n143 Tryz.prog Tryz.lays143_ren := {
  mixed := by kernel_rfl
  f143 := Tryz.func184.trans (congrArg some (by kernel_rfl))
  f217 := Tryz.func193.trans (congrArg some (by kernel_rfl))
  f219 := Tryz.func191.trans (congrArg some (by kernel_rfl))
  f224 := Tryz.func197.trans (congrArg some (by kernel_rfl))
  f225 := Tryz.func196.trans (congrArg some (by kernel_rfl))
  f266 := Tryz.func199.trans (congrArg some (by kernel_rfl))
  f267 := Tryz.func198.trans (congrArg some (by kernel_rfl))
  f314 := Tryz.func200.trans (congrArg some (by kernel_rfl))
  t3 := Tryz.underlying3
  a3 := Tryz.isAgg3
  z3 := Tryz.sizeOf3
  v3 := Tryz.zeroValue3
  t4 := Tryz.underlying4
  a4 := Tryz.isAgg4
  z4 := Tryz.sizeOf4
  v4 := Tryz.zeroValue4
  t5 := Tryz.underlying5
  a5 := Tryz.isAgg5
  z5 := Tryz.sizeOf5
  v5 := Tryz.zeroValue5
  t9 := Tryz.underlying9
  a9 := Tryz.isAgg9
  z9 := Tryz.sizeOf9
  v9 := Tryz.zeroValue9
  t46 := Tryz.underlying114
  a46 := Tryz.isAgg114
  z46 := Tryz.sizeOf114
  v46 := Tryz.zeroValue114
  t51 := Tryz.underlying169
  a51 := Tryz.isAgg169
  z51 := Tryz.sizeOf169
  v51 := Tryz.zeroValue169
  t146 := Tryz.underlying235
  a146 := Tryz.isAgg235
  z146 := Tryz.sizeOf235
  v146 := Tryz.zeroValue235
  g1 := by kernel_rfl }
open Go.RowKit Go.Lib in
theorem Tryz.strings_Index_one (s : ByteArray) (c : UInt8) (w : World) :
    Calls Tryz.prog 184 #[.string s, .string ⟨#[c]⟩] w fun e w' => e = .returned (.int .i64 (Lib.indexByte s.data.toList c)) ∧ w' = w := Any.strings_Index_one Tryz.lays143 s c w
open Go.RowKit Go.Lib in
theorem Tryz.strings_Index (s sub : ByteArray) (m : Int) (w : World) (hs : s.size < 4294967281) (hm : w.cell? ⟨1, 0, none⟩ = some (.int .i64 m)) :
    Calls Tryz.prog 184 #[.string s, .string sub] w fun e w' => e = .returned (.int .i64 (Lib.index s.data.toList sub.data.toList)) ∧ w' = w := Any.strings_Index Tryz.lays143 s sub m w hs hm
def Tryz.lays144_ren : Go.Shelf.Ren := ⟨fun | 144 => 168 | 143 => 184 | 219 => 191 | 217 => 193 | 225 => 196 | 224 => 197 | 267 => 198 | 266 => 199 | 314 => 200 | n => n, fun | 9 => 9 | 4 => 4 | 3 => 3 | 5 => 5 | 46 => 114 | 146 => 235 | 51 => 169 | n => n, fun | 1 => 1 | n => n⟩
theorem Tryz.lays144 : Go.Proofs.Lays.n144 Tryz.prog Tryz.lays144_ren := {
  mixed := by kernel_rfl
  f143 := Tryz.func184.trans (congrArg some (by kernel_rfl))
  f144 := Tryz.func168.trans (congrArg some (by kernel_rfl))
  f217 := Tryz.func193.trans (congrArg some (by kernel_rfl))
  f219 := Tryz.func191.trans (congrArg some (by kernel_rfl))
  f224 := Tryz.func197.trans (congrArg some (by kernel_rfl))
  f225 := Tryz.func196.trans (congrArg some (by kernel_rfl))
  f266 := Tryz.func199.trans (congrArg some (by kernel_rfl))
  f267 := Tryz.func198.trans (congrArg some (by kernel_rfl))
  f314 := Tryz.func200.trans (congrArg some (by kernel_rfl))
  t3 := Tryz.underlying3
  a3 := Tryz.isAgg3
  z3 := Tryz.sizeOf3
  v3 := Tryz.zeroValue3
  t4 := Tryz.underlying4
  a4 := Tryz.isAgg4
  z4 := Tryz.sizeOf4
  v4 := Tryz.zeroValue4
  t5 := Tryz.underlying5
  a5 := Tryz.isAgg5
  z5 := Tryz.sizeOf5
  v5 := Tryz.zeroValue5
  t9 := Tryz.underlying9
  a9 := Tryz.isAgg9
  z9 := Tryz.sizeOf9
  v9 := Tryz.zeroValue9
  t46 := Tryz.underlying114
  a46 := Tryz.isAgg114
  z46 := Tryz.sizeOf114
  v46 := Tryz.zeroValue114
  t51 := Tryz.underlying169
  a51 := Tryz.isAgg169
  z51 := Tryz.sizeOf169
  v51 := Tryz.zeroValue169
  t146 := Tryz.underlying235
  a146 := Tryz.isAgg235
  z146 := Tryz.sizeOf235
  v146 := Tryz.zeroValue235
  g1 := by kernel_rfl }
open Go.RowKit Go.Lib in
theorem Tryz.strings_Contains_one (s : ByteArray) (c : UInt8) (w : World) :
    Calls Tryz.prog 168 #[.string s, .string ⟨#[c]⟩] w fun e w' => e = .returned (.bool (decide (0 ≤ Lib.indexByte s.data.toList c))) ∧ w' = w := Any.strings_Contains_one Tryz.lays144 s c w
open Go.RowKit Go.Lib in
theorem Tryz.strings_Contains (s sub : ByteArray) (m : Int) (w : World) (hs : s.size < 4294967281) (hm : w.cell? ⟨1, 0, none⟩ = some (.int .i64 m)) :
    Calls Tryz.prog 168 #[.string s, .string sub] w fun e w' => e = .returned (.bool (Lib.contains s.data.toList sub.data.toList)) ∧ w' = w := Any.strings_Contains Tryz.lays144 s sub m w hs hm
def Tryz.laysM219_ren : Go.Shelf.Ren := ⟨fun | 219 => 191 | 217 => 193 | 225 => 196 | 224 => 197 | 267 => 198 | 266 => 199 | 314 => 200 | n => n, fun | 9 => 9 | 3 => 3 | 4 => 4 | 5 => 5 | 46 => 114 | 146 => 235 | 51 => 169 | n => n, fun | 1 => 1 | n => n⟩
theorem Tryz.laysM219 : Go.Proofs.LaysM.n219 Tryz.prog Tryz.laysM219_ren := {
  mixed := by kernel_rfl
  f217 := Tryz.func193.trans (congrArg some (by kernel_rfl))
  f219 := Tryz.func191.trans (congrArg some (by kernel_rfl))
  f224 := Tryz.func197.trans (congrArg some (by kernel_rfl))
  f225 := Tryz.func196.trans (congrArg some (by kernel_rfl))
  f266 := Tryz.func199.trans (congrArg some (by kernel_rfl))
  f267 := Tryz.func198.trans (congrArg some (by kernel_rfl))
  f314 := Tryz.func200.trans (congrArg some (by kernel_rfl))
  t3 := Tryz.underlying3
  a3 := Tryz.isAgg3
  z3 := Tryz.sizeOf3
  v3 := Tryz.zeroValue3
  t4 := Tryz.underlying4
  a4 := Tryz.isAgg4
  z4 := Tryz.sizeOf4
  v4 := Tryz.zeroValue4
  t5 := Tryz.underlying5
  a5 := Tryz.isAgg5
  z5 := Tryz.sizeOf5
  v5 := Tryz.zeroValue5
  t9 := Tryz.underlying9
  a9 := Tryz.isAgg9
  z9 := Tryz.sizeOf9
  v9 := Tryz.zeroValue9
  t46 := Tryz.underlying114
  a46 := Tryz.isAgg114
  z46 := Tryz.sizeOf114
  v46 := Tryz.zeroValue114
  t51 := Tryz.underlying169
  a51 := Tryz.isAgg169
  z51 := Tryz.sizeOf169
  v51 := Tryz.zeroValue169
  t146 := Tryz.underlying235
  a146 := Tryz.isAgg235
  z146 := Tryz.sizeOf235
  v146 := Tryz.zeroValue235
  g1 := by kernel_rfl
  i3 := by kernel_rfl
  i4 := by kernel_rfl
  i5 := by kernel_rfl
  i9 := by kernel_rfl
  i46 := by kernel_rfl
  i51 := by kernel_rfl
  i146 := by kernel_rfl
  m1 := by kernel_rfl
  s1_3 := fun w h => Go.Proofs.cell_of_shapedOpen_int (zero := #[.int .i64 0]) (t := 3) h (of_decide_eq_true (by kernel_rfl)) (by kernel_rfl) rfl (by kernel_rfl) (by kernel_rfl) Tryz.underlying3 }
open Go.RowKit Go.Lib in
theorem Tryz.stringslite_Index_shaped (s sub : ByteArray) (w : World) (h : w.ShapedOpen Tryz.prog) (hs : s.size < 4294967281) :
    Calls Tryz.prog 191 #[.string s, .string sub] w fun e w' => e = .returned (.int .i64 (Lib.index s.data.toList sub.data.toList)) ∧ w' = w := Any.stringslite_Index_shaped Tryz.laysM219 s sub w h hs
def Tryz.laysM143_ren : Go.Shelf.Ren := ⟨fun | 143 => 184 | 219 => 191 | 217 => 193 | 225 => 196 | 224 => 197 | 267 => 198 | 266 => 199 | 314 => 200 | n => n, fun | 9 => 9 | 3 => 3 | 4 => 4 | 5 => 5 | 46 => 114 | 146 => 235 | 51 => 169 | n => n, fun | 1 => 1 | n => n⟩
theorem Tryz.laysM143 : Go.Proofs.LaysM.n143 Tryz.prog Tryz.laysM143_ren := {
  mixed := by kernel_rfl
  f143 := Tryz.func184.trans (congrArg some (by kernel_rfl))
  f217 := Tryz.func193.trans (congrArg some (by kernel_rfl))
  f219 := Tryz.func191.trans (congrArg some (by kernel_rfl))
  f224 := Tryz.func197.trans (congrArg some (by kernel_rfl))
  f225 := Tryz.func196.trans (congrArg some (by kernel_rfl))
  f266 := Tryz.func199.trans (congrArg some (by kernel_rfl))
  f267 := Tryz.func198.trans (congrArg some (by kernel_rfl))
  f314 := Tryz.func200.trans (congrArg some (by kernel_rfl))
  t3 := Tryz.underlying3
  a3 := Tryz.isAgg3
  z3 := Tryz.sizeOf3
  v3 := Tryz.zeroValue3
  t4 := Tryz.underlying4
  a4 := Tryz.isAgg4
  z4 := Tryz.sizeOf4
  v4 := Tryz.zeroValue4
  t5 := Tryz.underlying5
  a5 := Tryz.isAgg5
  z5 := Tryz.sizeOf5
  v5 := Tryz.zeroValue5
  t9 := Tryz.underlying9
  a9 := Tryz.isAgg9
  z9 := Tryz.sizeOf9
  v9 := Tryz.zeroValue9
  t46 := Tryz.underlying114
  a46 := Tryz.isAgg114
  z46 := Tryz.sizeOf114
  v46 := Tryz.zeroValue114
  t51 := Tryz.underlying169
  a51 := Tryz.isAgg169
  z51 := Tryz.sizeOf169
  v51 := Tryz.zeroValue169
  t146 := Tryz.underlying235
  a146 := Tryz.isAgg235
  z146 := Tryz.sizeOf235
  v146 := Tryz.zeroValue235
  g1 := by kernel_rfl
  i3 := by kernel_rfl
  i4 := by kernel_rfl
  i5 := by kernel_rfl
  i9 := by kernel_rfl
  i46 := by kernel_rfl
  i51 := by kernel_rfl
  i146 := by kernel_rfl
  m1 := by kernel_rfl
  s1_3 := fun w h => Go.Proofs.cell_of_shapedOpen_int (zero := #[.int .i64 0]) (t := 3) h (of_decide_eq_true (by kernel_rfl)) (by kernel_rfl) rfl (by kernel_rfl) (by kernel_rfl) Tryz.underlying3 }
open Go.RowKit Go.Lib in
theorem Tryz.strings_Index_shaped (s sub : ByteArray) (w : World) (h : w.ShapedOpen Tryz.prog) (hs : s.size < 4294967281) :
    Calls Tryz.prog 184 #[.string s, .string sub] w fun e w' => e = .returned (.int .i64 (Lib.index s.data.toList sub.data.toList)) ∧ w' = w := Any.strings_Index_shaped Tryz.laysM143 s sub w h hs
def Tryz.laysM144_ren : Go.Shelf.Ren := ⟨fun | 144 => 168 | 143 => 184 | 219 => 191 | 217 => 193 | 225 => 196 | 224 => 197 | 267 => 198 | 266 => 199 | 314 => 200 | n => n, fun | 9 => 9 | 4 => 4 | 3 => 3 | 5 => 5 | 46 => 114 | 146 => 235 | 51 => 169 | n => n, fun | 1 => 1 | n => n⟩
theorem Tryz.laysM144 : Go.Proofs.LaysM.n144 Tryz.prog Tryz.laysM144_ren := {
  mixed := by kernel_rfl
  f143 := Tryz.func184.trans (congrArg some (by kernel_rfl))
  f144 := Tryz.func168.trans (congrArg some (by kernel_rfl))
  f217 := Tryz.func193.trans (congrArg some (by kernel_rfl))
  f219 := Tryz.func191.trans (congrArg some (by kernel_rfl))
  f224 := Tryz.func197.trans (congrArg some (by kernel_rfl))
  f225 := Tryz.func196.trans (congrArg some (by kernel_rfl))
  f266 := Tryz.func199.trans (congrArg some (by kernel_rfl))
  f267 := Tryz.func198.trans (congrArg some (by kernel_rfl))
  f314 := Tryz.func200.trans (congrArg some (by kernel_rfl))
  t3 := Tryz.underlying3
  a3 := Tryz.isAgg3
  z3 := Tryz.sizeOf3
  v3 := Tryz.zeroValue3
  t4 := Tryz.underlying4
  a4 := Tryz.isAgg4
  z4 := Tryz.sizeOf4
  v4 := Tryz.zeroValue4
  t5 := Tryz.underlying5
  a5 := Tryz.isAgg5
  z5 := Tryz.sizeOf5
  v5 := Tryz.zeroValue5
  t9 := Tryz.underlying9
  a9 := Tryz.isAgg9
  z9 := Tryz.sizeOf9
  v9 := Tryz.zeroValue9
  t46 := Tryz.underlying114
  a46 := Tryz.isAgg114
  z46 := Tryz.sizeOf114
  v46 := Tryz.zeroValue114
  t51 := Tryz.underlying169
  a51 := Tryz.isAgg169
  z51 := Tryz.sizeOf169
  v51 := Tryz.zeroValue169
  t146 := Tryz.underlying235
  a146 := Tryz.isAgg235
  z146 := Tryz.sizeOf235
  v146 := Tryz.zeroValue235
  g1 := by kernel_rfl
  i3 := by kernel_rfl
  i4 := by kernel_rfl
  i5 := by kernel_rfl
  i9 := by kernel_rfl
  i46 := by kernel_rfl
  i51 := by kernel_rfl
  i146 := by kernel_rfl
  m1 := by kernel_rfl
  s1_3 := fun w h => Go.Proofs.cell_of_shapedOpen_int (zero := #[.int .i64 0]) (t := 3) h (of_decide_eq_true (by kernel_rfl)) (by kernel_rfl) rfl (by kernel_rfl) (by kernel_rfl) Tryz.underlying3 }
open Go.RowKit Go.Lib in
theorem Tryz.strings_Contains_shaped (s sub : ByteArray) (w : World) (h : w.ShapedOpen Tryz.prog) (hs : s.size < 4294967281) :
    Calls Tryz.prog 168 #[.string s, .string sub] w fun e w' => e = .returned (.bool (Lib.contains s.data.toList sub.data.toList)) ∧ w' = w := Any.strings_Contains_shaped Tryz.laysM144 s sub w h hs
end Go.Proofs
end
section
namespace Go.Xe.YtalckpkiplhbcaaGreatDoor
open Go Go.Xe Go.Proofs Go.RowKit
set_option linter.unusedVariables false
def orc (f : FuncId) (args : List Value) : Option Value :=
  match Nat.beq f 168, Nat.beq f 186, args with
  | true, _, [.string s, .string t] => match Nat.ble s.data.toList.length 4000000000 with
    | true => some (.bool (containsL t.data.toList s.data.toList))
    | false => none
  | _, true, [.string s, .int .u8 (.ofNat n)] => match Nat.blt n 256 with
    | true => some (.int .i64 (match findB n s.data.toList 0 with | some i => .ofNat i | none => .negSucc 0))
    | false => none
  | _, _, _ => none
noncomputable def F (f : FuncId) : Option XFun := fget (pathOf f) tab
theorem to168 : CallTo Tryz.prog 168 := ⟨Tryz.f168, Tryz.func168, by decide, rfl⟩
theorem to186 : CallTo Tryz.prog 186 := ⟨Tryz.f186, Tryz.func186, by decide, rfl⟩
theorem flat2 {u v : Value} (hu : ∀ φ x, VRel φ u x → x = u) (hv : ∀ φ x, VRel φ v x → x = v) (φ : Loc) (l : List Value) (h : VRels φ [u, v] l) : l = [u, v] := by
  cases h with
  | cons h1 h => cases h with
    | cons h2 h => cases h; rw [hu φ _ h1, hv φ _ h2]
theorem env : Env Tryz.prog glb F orc := by
  refine ⟨by kernel_rfl, fun f x h => ?_, fun f args v hF hO => ?_⟩
  · unfold F at h
    rw [fget_eq, ← tab_eq] at h
    rcases get_ofPairs tabL .nil f x h with h | h
    · exact tabL_ok.mem f x h
    · rw [Tri.get_nil] at h; cases h
  · unfold orc at hO
    split at hO
    · rename_i _ s t hf
      rw [beqNat] at hf
      obtain rfl := of_decide_eq_true hf
      split at hO
      · rename_i hle
        rw [bleNat] at hle
        have hle := of_decide_eq_true hle
        cases hO
        refine OOk.still to168 rfl rfl (fun φ l h => flat2 (fun φ x h => by cases h; rfl) (fun φ x h => by cases h; rfl) φ l h) fun W0 N0 φ g w hg r => ?_
        have hs : s.size < 4294967281 := by
          have : s.size = s.data.toList.length := by rw [Array.length_toList]; rfl
          omega
        have := Tryz.strings_Contains_shaped s t w (r.shaped hg) hs
        rw [← containsL_eq] at this
        exact this
      · cases hO
    · rename_i _ s n hf
      rw [beqNat] at hf
      obtain rfl := of_decide_eq_true hf
      split at hO
      · rename_i hlt
        rw [bltNat] at hlt
        have hlt := of_decide_eq_true hlt
        cases hO
        refine OOk.still to186 rfl rfl (fun φ l h => flat2 (fun φ x h => by cases h; rfl) (fun φ x h => by cases h; rfl) φ l h) fun W0 N0 φ g w hg r => ?_
        have := Tryz.strings_IndexByte s (Int.ofNat n) w
        have e : (match findB n s.data.toList 0 with | some i => Int.ofNat i | none => Int.negSucc 0) = Lib.indexByte s.data.toList (Int.ofNat n).toNat.toUInt8 := by
          have hge := Lib.indexByte_ge s.data.toList n.toUInt8
          rw [findB_eq n hlt]
          show _ = Lib.indexByte s.data.toList n.toUInt8
          by_cases h : Lib.indexByte s.data.toList n.toUInt8 = -1
          · rw [if_pos h, h]; rfl
          · rw [if_neg h]
            show ((0 + (Lib.indexByte s.data.toList n.toUInt8).toNat : Nat) : Int) = _
            omega
        rw [e]
        exact this
      · cases hO
    · cases hO
theorem awake_run : fcall F orc 100000 8 [] (fun _ => none) .nil 1 isTrue = true := by kernel_rfl
theorem awake (w : World) (h : w.ShapedOpen Tryz.prog) : Calls Tryz.prog 8 #[] w fun E w' => E = .returned (.bool true) ∧ Below w.heap.size w w' :=
  closed_true_gl env (φ := fun i => if i = 0 then some (0, 0, 0) else none) (nx := 1) (fun i h => by
      have h : Nat.beq i 0 = true := h
      rw [beqNat] at h
      exact ⟨0, by simp [of_decide_eq_true h]⟩) (fun i h => by
      have : i ≠ 0 := by omega
      simp [this]) awake_run ⟨rfl, h⟩
end Go.Xe.YtalckpkiplhbcaaGreatDoor
end
section
namespace Go.Xe.YtalckpkiplhbcaaGreatDoor
open Go Go.Xe Go.Xt Go.Proofs Go.RowKit
def FX (f : FuncId) : Option XFun := (FT f).map TFun.fn
def OX (f : FuncId) (args : List Value) : Option Value :=
  match args with
  | [] => if f = 8 then some (.bool true) else none
  | _ => none
theorem fits : Fits FT OT FX OX := by
  refine ⟨fun f tf h => by unfold FX; rw [h]; rfl, fun f h => by unfold FX; rw [h]; rfl, fun f args v h g μ Z args' ha => ?_⟩
  unfold OT at h
  split at h
  · cases ha
    split at h
    · rename_i h9
      cases h
      exact ⟨.bool true, by unfold OX; simp [h9], .bool true⟩
    · cases h
  · cases h
theorem to8 : CallTo Tryz.prog 8 := ⟨Tryz.f8, Tryz.func8, by decide, rfl⟩
theorem envX : Env Tryz.prog glo FX OX := by
  refine ⟨by kernel_rfl, fun f x h => ?_, fun f args v hF hO => ?_⟩
  · unfold FX at h
    obtain ⟨tf, h2, rfl⟩ := Option.map_eq_some_iff.1 h
    clear h
    unfold FT at h2
    by_cases e4 : f = 4
    · subst e4; cases h2; exact ⟨_, Tryz.func4, d4⟩
    rw [if_neg e4] at h2
    by_cases e6 : f = 6
    · subst e6; cases h2; exact ⟨_, Tryz.func6, d6⟩
    rw [if_neg e6] at h2
    by_cases e7 : f = 7
    · subst e7; cases h2; exact ⟨_, Tryz.func7, d7⟩
    rw [if_neg e7] at h2
    by_cases e13 : f = 13
    · subst e13; cases h2; exact ⟨_, Tryz.func13, d13⟩
    rw [if_neg e13] at h2
    by_cases e14 : f = 14
    · subst e14; cases h2; exact ⟨_, Tryz.func14, d14⟩
    rw [if_neg e14] at h2
    by_cases e23 : f = 23
    · subst e23; cases h2; exact ⟨_, Tryz.func23, d23⟩
    rw [if_neg e23] at h2
    by_cases e24 : f = 24
    · subst e24; cases h2; exact ⟨_, Tryz.func24, d24⟩
    rw [if_neg e24] at h2
    by_cases e25 : f = 25
    · subst e25; cases h2; exact ⟨_, Tryz.func25, d25⟩
    rw [if_neg e25] at h2
    by_cases e35 : f = 35
    · subst e35; cases h2; exact ⟨_, Tryz.func35, d35⟩
    rw [if_neg e35] at h2
    by_cases e36 : f = 36
    · subst e36; cases h2; exact ⟨_, Tryz.func36, d36⟩
    rw [if_neg e36] at h2
    by_cases e37 : f = 37
    · subst e37; cases h2; exact ⟨_, Tryz.func37, d37⟩
    rw [if_neg e37] at h2
    by_cases e38 : f = 38
    · subst e38; cases h2; exact ⟨_, Tryz.func38, d38⟩
    rw [if_neg e38] at h2
    by_cases e39 : f = 39
    · subst e39; cases h2; exact ⟨_, Tryz.func39, d39⟩
    rw [if_neg e39] at h2
    by_cases e40 : f = 40
    · subst e40; cases h2; exact ⟨_, Tryz.func40, d40⟩
    rw [if_neg e40] at h2
    by_cases e47 : f = 47
    · subst e47; cases h2; exact ⟨_, Tryz.func47, d47⟩
    rw [if_neg e47] at h2
    by_cases e64 : f = 64
    · subst e64; cases h2; exact ⟨_, Tryz.func64, d64⟩
    rw [if_neg e64] at h2
    by_cases e65 : f = 65
    · subst e65; cases h2; exact ⟨_, Tryz.func65, d65⟩
    rw [if_neg e65] at h2
    by_cases e106 : f = 106
    · subst e106; cases h2; exact ⟨_, Tryz.func106, d106⟩
    rw [if_neg e106] at h2
    by_cases e107 : f = 107
    · subst e107; cases h2; exact ⟨_, Tryz.func107, d107⟩
    rw [if_neg e107] at h2
    by_cases e108 : f = 108
    · subst e108; cases h2; exact ⟨_, Tryz.func108, d108⟩
    rw [if_neg e108] at h2
    by_cases e109 : f = 109
    · subst e109; cases h2; exact ⟨_, Tryz.func109, d109⟩
    rw [if_neg e109] at h2
    by_cases e110 : f = 110
    · subst e110; cases h2; exact ⟨_, Tryz.func110, d110⟩
    rw [if_neg e110] at h2
    by_cases e158 : f = 158
    · subst e158; cases h2; exact ⟨_, Tryz.func158, d158⟩
    rw [if_neg e158] at h2
    by_cases e159 : f = 159
    · subst e159; cases h2; exact ⟨_, Tryz.func159, d159⟩
    rw [if_neg e159] at h2
    by_cases e165 : f = 165
    · subst e165; cases h2; exact ⟨_, Tryz.func165, d165⟩
    rw [if_neg e165] at h2
    by_cases e180 : f = 180
    · subst e180; cases h2; exact ⟨_, Tryz.func180, d180⟩
    rw [if_neg e180] at h2
    by_cases e181 : f = 181
    · subst e181; cases h2; exact ⟨_, Tryz.func181, d181⟩
    rw [if_neg e181] at h2
    by_cases e182 : f = 182
    · subst e182; cases h2; exact ⟨_, Tryz.func182, d182⟩
    rw [if_neg e182] at h2
    cases h2
  · unfold OX at hO
    split at hO
    · split at hO
      · rename_i h8
        cases hO
        subst h8
        exact OOk.grow to8 rfl (fun φ l h => by cases h; rfl) fun W0 N0 φ g w hg r => awake w (r.shaped hg)
      · cases hO
    · cases hO
end Go.Xe.YtalckpkiplhbcaaGreatDoor
end
