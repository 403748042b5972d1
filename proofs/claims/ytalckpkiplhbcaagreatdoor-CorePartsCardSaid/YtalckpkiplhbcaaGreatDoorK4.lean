/-
  A part of the proof: it is imported by YtalckpkiplhbcaaGreatDoorTop. Nothing here is a claim of its own.
-/
import Derived.Test.YtalckpkiplhbcaaGreatDoorK3
import Derived.SizedLaws
section
namespace Go.Xt
open Go Go.Xe
set_option linter.unusedVariables false
set_option linter.unusedSimpArgs false
section
variable {Pr : Nat → Prop} {μ μ' : List Nat} {w w' : Own} {a a' : TAct} {σ σ' : Sto} {ax ax' : Xe.Act} {s s' : AS}
theorem src_of {g : Hp} {Z : Nat → Prop} {size i o n c ver e : Nat} {ro : Bool} {vs : List Value} {chs : List (List TV)} (hg : g i = some ⟨ver, .cells vs e ro⟩) (hn : chs.length = n) (hle : o + n * size ≤ vs.length) (hv : RVs g μ Z chs.flatten ((vs.drop o).take (n * size))) :
    ∃ l, srcCells g size (.slice (some ⟨i, o, none⟩) n c) = some (chs.length, l) ∧ RVs g μ Z chs.flatten l := by
  cases n with
  | zero =>
    have : chs = [] := List.eq_nil_of_length_eq_zero hn
    subst this
    exact ⟨[], rfl, .nil⟩
  | succ n =>
    exact ⟨_, by simp only [srcCells, loadList_of hg hle, hn], hv⟩
theorem sz_of {s sz : Nat} {chs : List (List TV)} (h : okSz s chs = true) (k : okSz sz chs = true) : chs = [] ∨ s = sz := by
  cases chs with
  | nil => exact .inl rfl
  | cons c chs =>
    simp only [okSz, List.all_cons, Bool.and_eq_true] at h k
    rw [← beq_of h.1, beq_of k.1]; exact .inr rfl
theorem RO.src {g : Hp} {Z : Nat → Prop} {size i : Nat} {m : Md} {chs : List (List TV)} {v : Value} (h : RO g μ Z i (.sl m chs) v) (hok : okSz size chs = true) : ∃ l, srcCells g size v = some (chs.length, l) ∧ RVs g μ Z chs.flatten l := by
  cases h with
  | mk m1 m2 m3 m4 m5 m6 m7 =>
    rcases sz_of m2 hok with rfl | rfl
    · simp at m3; subst m3; exact ⟨[], rfl, .nil⟩
    · exact src_of m1 m3 m6 m7
theorem RV.src {g : Hp} {Z : Nat → Prop} {size : Nat} {m : Md} {chs : List (List TV)} {v : Value} (h : RV g μ Z (.sl m chs) v) (hok : okSz size chs = true) : ∃ l, srcCells g size v = some (chs.length, l) ∧ RVs g μ Z chs.flatten l := by
  cases h with
  | fz z hg ok hn hc hu hle hv =>
    rcases sz_of ok hok with rfl | rfl
    · simp at hn; subst hn; exact ⟨[], rfl, .nil⟩
    · exact src_of hg hn hle hv
  | fz0 b c => cases b <;> exact ⟨[], rfl, .nil⟩
  | nl => exact ⟨[], rfl, .nil⟩
theorem Rl.src (r : Rl Pr μ w a σ ax s) {size : Nat} {y : Operand} {new : List (List TV)} (h : srcT a σ size (a.ev y) = some new) (hok : okSz size new = true) :
    ∃ l, srcCells s.get size (ax.ev y) = some (new.length, l) ∧ RVs s.get μ (Zo w Pr) new.flatten l := by
  cases hy : a.ev y <;> rw [hy] at h <;> simp only [srcT] at h <;> first | (cases h; done) | skip
  case sl m c =>
    cases h
    cases ho : isOwn (a.ev y) with
    | false => exact (r.plainOf hy (by rw [hy] at ho; cases m <;> first | rfl | (simp [isOwn] at ho))).src hok
    | true =>
      obtain ⟨t, rfl⟩ := isOwn_tmp ho
      obtain ⟨i, h1, h2⟩ := r.ownOf ho
      rw [hy] at h2
      exact h2.src hok
  case via p ck =>
    split at h
    · rename_i hc
      have ha : a.at y = .via p ck := by unfold TAct.at; rw [hy]
      obtain ⟨i, e, sz, h1, h2⟩ := r.viaOf (r.atAl ha rfl) hc h
      exact h2.src hok
    · cases h
  case ref k o sz n c =>
    split at h
    · rename_i ver vs e hob
      split at h
      · rename_i hb
        simp only [Bool.and_eq_true] at hb
        obtain ⟨⟨b1, b2⟩, b3⟩ := hb
        cases h
        have hsz := beq_of b1
        subst hsz
        rw [bleNat] at b2
        have b2 := of_decide_eq_true b2
        have h1 := r.plainOf hy rfl
        revert h1; generalize ax.ev y = yy; intro h1; cases h1
        rename_i i hm hnc
        obtain ⟨i', vs', k1, k2, k3⟩ := r.objOf hob
        rw [hm] at k1; cases k1
        have := k3.plain b2 (by simpa using b3)
        refine src_of k2 (chop_len _ _ _) (by rw [k3.len]; exact b2) ?_
        rw [chop_flat]; exact this
      · cases h
    · cases h
  case str st =>
    have h1 := r.plainOf hy rfl
    revert h1; generalize ax.ev y = yy; intro h1; cases h1
    split at h
    · cases h
      refine ⟨st.data.toList.map fun b => .int .u8 b.toNat, by simp only [srcCells, List.length_map], RVs.u8 _⟩
    · cases h
theorem okSz_app {sz : Nat} {x y : List (List TV)} (h : okSz sz x = true) (k : okSz sz y = true) : okSz sz (x ++ y) = true := by
  unfold okSz at *; rw [List.all_append, h, k]; rfl
theorem Rl.newOwn (r : Rl Pr μ w a σ ax s) (hf : Fresh a) (hP : ∀ i, Pr i → i < s.next) {chs : List (List TV)} {vs : List Value} {e sz n : Nat} (hok : okSz sz chs = true) (hn : chs.length = n) (hl : n * sz ≤ vs.length) (hv : RVs s.get μ (Zo w Pr) chs.flatten (vs.take (n * sz))) (d : Option Nat) :
    ∃ w', Rl Pr μ w' (a.put d (.sl (.own e sz) chs)) σ (ax.put d (.slice (some ⟨s.next, 0, none⟩) n (capU + sz))) (s.upd [(s.next, some ⟨0, .cells vs e false⟩)] (s.next + 1)) ∧ ∀ p i, w' p = some i → i < s.next → ∃ q, w q = some i := by
  have hnp : ¬ Pr s.next := fun h => Nat.lt_irrefl _ (hP _ h)
  have r1 := r.alloc ⟨0, .cells vs e false⟩ hnp
  have hro : RO (s.upd [(s.next, some ⟨0, .cells vs e false⟩)] (s.next + 1)).get μ (Zo (holds w s.next) Pr) s.next (.sl (.own e sz) chs) (.slice (some ⟨s.next, 0, none⟩) n (capU + sz)) :=
    .mk (ver := 0) (vs := vs) (by rw [heapNew, if_pos rfl]) hok hn (fun h => by omega) (fun h => rfl) (by omega) (by rw [List.drop_zero]; exact hv.mono (r.moNew _))
  obtain ⟨w', k1, k2⟩ := r1.putHand hf (holds_hand w _) hro d
  exact ⟨w', k1, fun p i e hi => by obtain ⟨q, e⟩ := k2 p i e; exact holds_own q i e hi⟩
theorem Rl.appOwn (r : Rl Pr μ w a σ ax s) (hf : Fresh a) (hP : ∀ i, Pr i → i < s.next) {i e sz bytes : Nat} {chs new : List (List TV)} {v : Value} {l : List Value} (hi : w (.hand 0) = some i) (hro : RO s.get μ (Zo w Pr) i (.sl (.own e sz) chs) v) (hok : okSz sz new = true) (hl : RVs s.get μ (Zo w Pr) new.flatten l)
    (hsm : Nat.ble (chs.length + new.length) small = true) (hby : Nat.ble bytes 65536 = true) (d : Option Nat) :
    ∃ p, xappend s.get s.next e sz bytes v new.length l = some p ∧ ∃ w', Rl Pr μ w' (a.put d (.sl (.own e sz) (chs ++ new))) σ (ax.put d p.v) (s.upd p.δ p.nx) ∧ After w w' μ μ s (s.upd p.δ p.nx) := by
  have hll : l.length = new.length * sz := by rw [hl.length, flat_len hok]
  cases hro with
  | mk m1 m2 m3 m4 m5 m6 m7 =>
    rename_i n o c ver vs
    subst m3
    by_cases hn : new.length = 0
    · have hnew : new = [] := List.eq_nil_of_length_eq_zero hn
      subst hnew
      refine ⟨_, rfl, ?_⟩
      obtain ⟨w', k1, k2⟩ := r.putHand hf hi (.mk m1 m2 rfl m4 m5 m6 m7) d
      rw [List.append_nil]
      exact ⟨w', k1, Nat.le_refl _, fun _ _ _ => rfl, fun p i e _ => k2 p i e, mu_self⟩
    · obtain ⟨k, hk⟩ : ∃ k, new.length = k + 1 := ⟨new.length - 1, by omega⟩
      have hold := loadList_of m1 m6
      have hsm' := hsm
      have hcl : okSz sz (chs ++ new) = true := okSz_app m2 hok
      have hlen : (chs ++ new).length = chs.length + new.length := List.length_append
      have hmul : (chs.length + new.length) * sz = chs.length * sz + l.length := by rw [hll, Nat.add_mul]
      have hold2 : ((vs.drop o).take (chs.length * sz)).length = chs.length * sz := by simp; omega
      by_cases hcap : capU ≤ c
      · have hc := m5 hcap
        have hwr : writable s.get i e = true := by simp only [writable, m1, beqNat, decide_true]
        refine ⟨⟨.slice (some ⟨s.next, 0, none⟩) (chs.length + new.length) (capU + sz), [(i, none), (s.next, some ⟨0, .cells ((vs.drop o).take (chs.length * sz) ++ l) e false⟩)], s.next + 1⟩, ?_, ?_⟩
        · rw [hk] at hsm ⊢
          simp only [xappend, bleNat, decide_eq_true hcap, hold]
          rw [bleNat] at hsm hby
          simp only [hsm, hby, hc, beqNat, decide_true, hwr, Bool.and_self]
        · have r1 := r.handSet hi none
          have mo1 := r.moOwn hi none
          have hv2 : RVs (s.upd [(i, none)] s.next).get μ (Zo w Pr) (chs ++ new).flatten (((vs.drop o).take (chs.length * sz) ++ l).take ((chs.length + new.length) * sz)) := by
            rw [List.take_of_length_le (by rw [List.length_append, hold2, hmul]; exact Nat.le_refl _), List.flatten_append]
            exact (m7.mono mo1).append (hl.mono mo1)
          obtain ⟨w', k1, k2⟩ := r1.newOwn hf hP (e := e) hcl hlen (by rw [List.length_append, hold2, hmul]; exact Nat.le_refl _) hv2 d
          refine ⟨w', k1, Nat.le_succ _, fun j hj hn => ?_, fun p j e hj => k2 p j e hj, mu_self⟩
          have h1 : ((s.upd [(i, none)] s.next).upd [(s.next, some ⟨0, .cells ((vs.drop o).take (chs.length * sz) ++ l) e false⟩)] (s.next + 1)).get j = (s.upd [(i, none)] s.next).get j := by
            rw [AS.upd_get]; simp only [Hp.upd]; exact Hp.set1_ne _ _ (by omega)
          refine Eq.trans h1 ?_
          rw [heapSet, if_neg]; rintro rfl; exact hn _ hi
      · have hlt : c < capU := by omega
        obtain ⟨q1, q2⟩ := m4 hlt
        by_cases hroom : chs.length + new.length ≤ c
        · have hmulc : (chs.length + new.length) * sz ≤ c * sz := Nat.mul_le_mul_right sz hroom
          have hst := storeList_of m1 (o := o + chs.length * sz) (xs := l) (by omega)
          refine ⟨⟨.slice (some ⟨i, o, none⟩) (chs.length + new.length) c, [(i, some ⟨ver + 1, .cells (setList vs (o + chs.length * sz) l) e false⟩)], s.next⟩, ?_, ?_⟩
          · rw [hk] at hroom ⊢
            simp only [xappend, bleNat, decide_eq_false hcap, decide_eq_true hroom, add_none, hst]
          · have r1 := r.handSet hi (some ⟨ver + 1, .cells (setList vs (o + chs.length * sz) l) e false⟩)
            have mo1 := r.moOwn hi (some ⟨ver + 1, .cells (setList vs (o + chs.length * sz) l) e false⟩)
            have hro : RO (s.upd [(i, some ⟨ver + 1, .cells (setList vs (o + chs.length * sz) l) e false⟩)] s.next).get μ (Zo w Pr) i (.sl (.own e sz) (chs ++ new)) (.slice (some ⟨i, o, none⟩) (chs.length + new.length) c) := by
              refine .mk (by rw [heapSet, if_pos rfl]) hcl hlen (fun _ => ⟨hroom, by rw [setList_length]; exact q2⟩) (fun h => absurd h hcap) (by rw [setList_length]; omega) ?_
              rw [hmul, setList_tail _ _ _ _ (by omega), List.flatten_append]
              exact (m7.mono mo1).append (hl.mono mo1)
            obtain ⟨w', k1, k2⟩ := r1.putHand hf hi hro d
            exact ⟨w', k1, after_set hi _ k2⟩
        · refine ⟨⟨.slice (some ⟨s.next, 0, none⟩) (chs.length + new.length) (capU + sz), [(s.next, some ⟨0, .cells ((vs.drop o).take (chs.length * sz) ++ l) e false⟩)], s.next + 1⟩, ?_, ?_⟩
          · rw [hk] at hsm hroom ⊢
            simp only [xappend, bleNat, decide_eq_false hcap, decide_eq_false hroom, hold]
            rw [bleNat] at hsm hby
            simp only [hsm, hby, Bool.and_self]
          · obtain ⟨w', k1, k2⟩ := r.newOwn hf hP (e := e) (vs := (vs.drop o).take (chs.length * sz) ++ l) hcl hlen (by rw [List.length_append, hold2, hmul]; exact Nat.le_refl _) (by
              rw [List.take_of_length_le (by rw [List.length_append, hold2, hmul]; exact Nat.le_refl _), List.flatten_append]
              exact m7.append hl) d
            exact ⟨w', k1, after_new _ k2 mu_self⟩
theorem s_appRef (r : Rl Pr μ w a σ ax s) (hP : ∀ i, Pr i → i < s.next) {e size bytes : Nat} {x : Operand} {new : List (List TV)} {l : List Value} {v : TV} {k o sz n c : Nat} (hx : a.ev x = .ref k o sz n c) (h : tAppend a σ e size bytes x new = some (v, a', σ')) (hl : RVs s.get μ (Zo w Pr) new.flatten l) (d : Option Nat) :
    ∃ p, xappend s.get s.next e size bytes (ax.ev x) new.length l = some p ∧ Done Pr μ w ax s d v a' σ' p := by
  simp only [tAppend, hx] at h
  split at h
  · rename_i hemp
    have hnil : new = [] := by simpa using hemp
    subst hnil
    cases h
    have h1 := r.plainOf hx rfl
    have hv : RV s.get μ (Zo w Pr) (.ref k o sz n c) (ax.ev x) := h1
    revert h1 hv; generalize ax.ev x = y; intro h1 hv; cases h1
    exact ⟨_, rfl, done_val r d hv⟩
  · rename_i ver cs e' hemp hob
    split at h
    · rename_i hb
      simp only [Bool.and_eq_true] at hb
      obtain ⟨⟨⟨⟨⟨⟨⟨b1, b2⟩, b3⟩, b4⟩, b5⟩, b6⟩, b7⟩, b8⟩ := hb
      have hsz := beq_of b1
      have he := beq_of b2
      subst hsz; subst he
      rw [bleNat] at b5
      have b5 := of_decide_eq_true b5
      rw [bltNat] at b4
      have b4 := of_decide_eq_true b4
      obtain ⟨q, hq⟩ : ∃ q, new.length = q + 1 := ⟨new.length - 1, by omega⟩
      have h1 := r.plainOf hx rfl
      revert h1; generalize ax.ev x = y; intro h1; cases h1
      rename_i i hm hnc
      obtain ⟨i', vs, k1, k2, k3⟩ := r.objOf hob
      rw [hm] at k1; cases k1
      have hw : w (.obj k) = some i := (r.wobj k).trans hm
      have hpl := k3.plain b5 (by simpa using b6)
      have hld := loadList_of k2 (o := o) (n := n * sz) (by rw [k3.len]; exact b5)
      have hwr : writable s.get i e' = true := by simp only [writable, k2, beqNat, decide_true]
      have b7' := b7
      have b8' := b8
      rw [bleNat] at b7 b8
      have hv2 : RVs s.get μ (Zo w Pr) ((cs.drop o).take (n * sz) ++ new.flatten) ((vs.drop o).take (n * sz) ++ l) := hpl.append hl
      split at h
      · rename_i hc
        have hc := beq_of hc
        cases h
        have hcap : capU ≤ c := by omega
        refine ⟨⟨.slice (some ⟨s.next, 0, none⟩) (n + new.length) (capU + sz), [(i, none), (s.next, some ⟨0, .cells ((vs.drop o).take (n * sz) ++ l) e' false⟩)], s.next + 1⟩, ?_, ?_⟩
        · rw [hq] at b7 ⊢
          simp only [xappend, bleNat, decide_eq_true hcap, hld, b7, b8, hc, beqNat, decide_true, hwr, Bool.and_self]
          rw [decide_eq_true (show capU ≤ capU + sz by omega)]
        · have mo1 := r.moOwn hw none
          have hne : ∀ p j, w p = some j → p ≠ .obj k → (s.upd [(i, none)] s.next).get j = s.get j := fun p j e h => by
            rw [heapSet, if_neg]; rintro rfl; exact h (r.inj _ _ _ e hw)
          have r1 := r.objStep mo1 (r.toRs.setN (k := k) mo1 (r.dmSet hw _) (Nat.le_refl _) (fun k' j hk' h => by
            rcases h with h | ⟨cc, h⟩
            · exact hne _ _ h (by simpa using hk')
            · exact hne _ _ h (by simp))) (fun _ => rfl) (fun _ _ => rfl) (fun t j h => by
            rcases h with h | ⟨cc, h⟩
            · exact hne _ _ h (by simp)
            · exact hne _ _ h (by simp))
          have hlen : (σ.set k none).length = σ.length := List.length_set
          have r2 := r1.newObj (o := ⟨0, .cells ((cs.drop o).take (n * sz) ++ new.flatten) e'⟩) (b := .cells ((vs.drop o).take (n * sz) ++ l) e' false) (s := s.upd [(i, none)] s.next) hP (rb_cells (hv2.mono mo1))
          have r3 := r2.put d (tv := .ref σ.length 0 sz (n + new.length) (capU + sz)) (v := .slice (some ⟨s.next, 0, none⟩) (n + new.length) (capU + sz)) (.inl (.ref (by rw [← hlen]; exact r1.muNew _) (by have := of_decide_eq_true b7; unfold small at this; unfold capU; omega)))
          refine ⟨_, _, r3, Nat.le_succ _, fun j hj hn => ?_, fun p j e hj => ?_, ⟨_, rfl⟩⟩
          · have h1 : ((s.upd [(i, none)] s.next).upd [(s.next, some ⟨0, .cells ((vs.drop o).take (n * sz) ++ l) e' false⟩)] (s.next + 1)).get j = (s.upd [(i, none)] s.next).get j := by
              rw [AS.upd_get]; simp only [Hp.upd]; exact Hp.set1_ne _ _ (by omega)
            refine Eq.trans h1 ?_
            rw [heapSet, if_neg]; rintro rfl; exact hn _ hw
          · exact newO_own p j (rel_le _ _ _ _ e) hj
      · split at h
        · rename_i hc hlt
          rw [bltNat] at hlt
          have hlt := of_decide_eq_true hlt
          cases h
          have hcap : ¬ capU ≤ c := by have := of_decide_eq_true b7; unfold small at this; unfold capU; omega
          refine ⟨⟨.slice (some ⟨s.next, 0, none⟩) (n + new.length) (capU + sz), [(s.next, some ⟨0, .cells ((vs.drop o).take (n * sz) ++ l) e' false⟩)], s.next + 1⟩, ?_, ?_⟩
          · rw [hq] at b7 hlt ⊢
            simp only [xappend, bleNat, decide_eq_false hcap, decide_eq_false (show ¬ n + (q + 1) ≤ c by omega), hld, b7, b8, Bool.and_self]
          · have r2 := r.tick
            exact done_obj (o := ⟨0, .cells ((cs.drop o).take (n * sz) ++ new.flatten) e'⟩) (b := .cells ((vs.drop o).take (n * sz) ++ l) e' false) r2 hP (rb_cells hv2) (tv := .ref σ.length 0 sz (n + new.length) (capU + sz)) (fun g Z => .ref (r.muNew _) (by have := of_decide_eq_true b7; unfold small at this; unfold capU; omega)) d
        · cases h
    · cases h
  · cases h
theorem s_app (r : Rl Pr μ w a σ ax s) (hP : ∀ i, Pr i → i < s.next) {e size bytes : Nat} {x : Operand} {new : List (List TV)} {l : List Value} {v : TV} (h : tAppend a σ e size bytes x new = some (v, a', σ')) (hl : RVs s.get μ (Zo w Pr) new.flatten l) (d : Option Nat) :
    ∃ p, xappend s.get s.next e size bytes (ax.ev x) new.length l = some p ∧ Done Pr μ w ax s d v a' σ' p := by
  have hcopy := h
  unfold tAppend at h
  split at h
  · rename_i m c hx
    split at h
    · rename_i hb
      simp only [Bool.and_eq_true] at hb
      obtain ⟨⟨⟨⟨b1, b2⟩, b3⟩, b4⟩, b5⟩ := hb
      cases h
      cases m with
      | fz => simp [Md.app] at b1
      | nl =>
        have h1 := r.plainOf hx rfl
        have ho : isOwn (a.ev x) = false := by rw [hx]; rfl
        rw [taken_same ho]
        revert h1; generalize ax.ev x = y; intro h1; cases h1
        cases new with
        | nil => exact ⟨_, rfl, done_val r.tick d .nl⟩
        | cons c0 new =>
          have hll : l.length = (c0 :: new).length * size := by rw [hl.length, flat_len b3]
          refine ⟨⟨.slice (some ⟨s.next, 0, none⟩) (0 + (new.length + 1)) (capU + size), [(s.next, some ⟨0, .cells ([] ++ l) e false⟩)], s.next + 1⟩, ?_, ?_⟩
          · simp only [List.length_nil] at b4
            rw [bleNat] at b4 b5
            simp only [List.length_cons] at b4 ⊢
            simp only [xappend, bleNat, decide_eq_false (show ¬ capU ≤ 0 by unfold capU; omega), decide_eq_false (show ¬ 0 + (new.length + 1) ≤ 0 by omega), b4, b5, Bool.and_self]
          · obtain ⟨w', k1, k2⟩ := r.tick.newOwn (fresh_tick r) hP (e := e) (sz := size) (n := 0 + (new.length + 1)) (vs := [] ++ l) b3 (by simp) (by simp at hll ⊢; omega) (by simp only [List.nil_append]; rw [List.take_of_length_le (by simp at hll ⊢; omega)]; exact hl) d
            exact ⟨μ, w', k1, after_new _ k2 mu_self⟩
      | own e' s' =>
        simp only [Md.app, Bool.and_eq_true] at b1
        have he := beq_of b1.1
        have hs := beq_of b1.2
        subst he; subst hs
        have ho : isOwn (a.ev x) = true := by rw [hx]; rfl
        obtain ⟨t, rfl⟩ := isOwn_tmp ho
        obtain ⟨i, h1, h2, h3, h4⟩ := r.takeTmp ho
        rw [hx] at h2
        rw [taken_own ho]
        obtain ⟨p, k1, w', k2, k3⟩ := h3.tick.appOwn (fresh_tick h3) hP ((mv_to w (by simp)).trans h1) h2 b3 (hl.mono (Mo.mv _ _)) b4 b5 d
        have hap : apm e' s' (.own e' s') new = .own e' s' := by cases new <;> rfl
        refine ⟨p, k1, μ, w', by rw [hap]; exact k2, k3.le, fun j hj hn => k3.keep j hj (fun q e => ?_), fun q j e hj => ?_, k3.mu⟩
        · obtain ⟨q', e⟩ := mv_owned e; exact hn q' e
        · obtain ⟨q', e⟩ := k3.own q j e hj; exact mv_owned e
    · cases h
  · rename_i hx; exact s_appRef r hP hx hcopy hl d
  · cases h
theorem tAppend_ok {e size bytes : Nat} {x : Operand} {new : List (List TV)} {v : TV} (h : tAppend a σ e size bytes x new = some (v, a', σ')) : okSz size new = true := by
  unfold tAppend at h
  split at h
  · split at h
    · rename_i hb; simp only [Bool.and_eq_true] at hb; exact hb.1.1.2
    · cases h
  · split at h
    · rename_i hemp
      have hnil : new = [] := by simpa using hemp
      subst hnil; rfl
    · split at h
      · rename_i hb; simp only [Bool.and_eq_true] at hb; exact hb.1.1.1.1.1.2
      · cases h
    · cases h
  · cases h
theorem s_appNew (r : Rl Pr μ w a σ ax s) (hP : ∀ i, Pr i → i < s.next) {e size bytes : Nat} {x : Operand} {new : List (List TV)} {l : List Value} {v : TV} (h : tAppNew a σ e size bytes x new = some (v, a', σ')) (hl : RVs s.get μ (Zo w Pr) new.flatten l) (d : Option Nat) :
    ∃ p, xappend s.get s.next e size bytes (ax.ev x) new.length l = some p ∧ Done Pr μ w ax s d v a' σ' p := by
  unfold tAppNew at h
  split at h
  · rename_i c0 new' hx
    split at h
    · rename_i hb
      simp only [Bool.and_eq_true] at hb
      obtain ⟨⟨b3, b4⟩, b5⟩ := hb
      cases h
      have h1 := r.plainOf hx rfl
      revert h1; generalize ax.ev x = y; intro h1; cases h1
      rw [bleNat] at b4 b5
      have hsm := of_decide_eq_true b4
      refine ⟨⟨.slice (some ⟨s.next, 0, none⟩) (0 + (new'.length + 1)) (capU + size), [(s.next, some ⟨0, .cells ([] ++ l) e false⟩)], s.next + 1⟩, ?_, ?_⟩
      · have b4' : decide (0 + (new'.length + 1) ≤ small) = true := by rw [Nat.zero_add]; exact b4
        simp only [List.length_cons] at b4 ⊢
        simp only [xappend, bleNat, decide_eq_false (show ¬ capU ≤ 0 by unfold capU; omega), decide_eq_false (show ¬ 0 + (new'.length + 1) ≤ 0 by omega), b4', b5, Bool.and_self]
      · have r2 := r.tick
        rw [Nat.zero_add]
        exact done_obj (o := ⟨0, .cells (c0 :: new').flatten e⟩) (b := .cells ([] ++ l) e false) r2 hP (rb_cells hl) (tv := .ref σ.length 0 size (c0 :: new').length (capU + size)) (fun g Z => .ref (r.muNew _) (by unfold small at hsm; unfold capU; simp only [List.length_cons] at hsm ⊢; omega)) d
    · cases h
  · exact s_app r hP h hl d
theorem tAppNew_ok {e size bytes : Nat} {x : Operand} {new : List (List TV)} {v : TV} (h : tAppNew a σ e size bytes x new = some (v, a', σ')) : okSz size new = true := by
  unfold tAppNew at h
  split at h
  · split at h
    · rename_i hb; simp only [Bool.and_eq_true] at hb; exact hb.1.1
    · cases h
  · exact tAppend_ok h
theorem s_append (md b : Nat) (d : Option Nat) (e size bytes : Nat) (x y : Operand) : SimP md b d (.append e size bytes x y) := by
  intro Pr μ w a σ ax s v a' σ' h r hP
  simp only [tdo] at h
  simp only [xprim]
  split at h
  · rename_i new hs
    split at h
    · obtain ⟨l, k1, k2⟩ := r.src hs (tAppNew_ok h)
      rw [k1]
      exact s_appNew r hP h k2 d
    · obtain ⟨l, k1, k2⟩ := r.src hs (tAppend_ok h)
      rw [k1]
      exact s_app r hP h k2 d
  · cases h
theorem s_appendZ (md b : Nat) (d : Option Nat) (e : Nat) (z : List Value) (bytes : Nat) (x n : Operand) : SimP md b d (.appendZ e z bytes x n) := by
  intro Pr μ w a σ ax s v a' σ' h r hP
  simp only [tdo] at h
  simp only [xprim]
  split at h
  · rename_i n' hn
    have h1 := r.plainOf hn rfl
    revert h1; generalize ax.ev n = y; intro h1; cases h1
    split at h
    · rename_i hb
      simp only [hb]
      have := s_app r hP h (l := rep z n') (by rw [flat_rep]; exact repT_rel (RVs.ofVs _ _ _ z) n') d
      rwa [List.length_replicate] at this
    · cases h
  · cases h
end
end Go.Xt
end
section
namespace Go.Xt
open Go Go.Xe
set_option linter.unusedVariables false
set_option linter.unusedSimpArgs false
section
variable {Pr : Nat → Prop} {μ μ' : List Nat} {w w' : Own} {a a' : TAct} {σ σ' : Sto} {ax ax' : Xe.Act} {s s' : AS}
theorem srcCells_slice {g : Hp} {size n : Nat} {v : Value} {l : List Value} (h : srcCells g size v = some (n, l)) (hs : ∀ st, v ≠ .string st) (hl : l.length = n * size) :
    ∃ b c, v = .slice b n c ∧ ∀ k, k ≤ n → 0 < k → ∃ a, b = some a ∧ loadList g a (k * size) = some (l.take (k * size)) := by
  unfold srcCells at h
  split at h
  · split at h
    · cases h; exact ⟨_, _, rfl, fun k h1 h2 => by omega⟩
    · cases h
  · rename_i a n0 c
    split at h
    · cases h; exact ⟨_, _, rfl, fun k h1 h2 => by omega⟩
    · rename_i n1
      split at h
      · rename_i l0 hld
        cases h
        refine ⟨_, _, rfl, fun k h1 h2 => ⟨a, rfl, ?_⟩⟩
        obtain ⟨b, o, sp⟩ := a
        cases sp with
        | some _ => simp [loadList] at hld
        | none =>
          simp only [loadList] at hld ⊢
          split at hld
          · rename_i ver vs e ro hg
            split at hld
            · rename_i hle
              cases hld
              rw [bleNat] at hle
              have hle := of_decide_eq_true hle
              have hmul : k * size ≤ (n1 + 1) * size := Nat.mul_le_mul_right size h1
              rw [bleNat, decide_eq_true (show o + k * size ≤ vs.length by omega)]
              simp only [Option.some.injEq, List.take_take]
              rw [Nat.min_eq_left hmul]
            · cases hld
          · cases hld
      · cases h
  · rename_i st; exact absurd rfl (hs st)
  · cases h
theorem s_copy (md b : Nat) (d : Option Nat) (size : Nat) (x y : Operand) : SimP md b d (.copy size x y) := by
  intro Pr μ w a σ ax s v a' σ' h r hP
  simp only [tdo] at h
  split at h
  · rename_i src hst hsrc
    unfold tCopy at h
    split at h
    · rename_i k o sz n c hx
      split at h
      · rename_i ver cs e hob
        split at h
        · rename_i hb
          simp only [Bool.and_eq_true] at hb
          obtain ⟨⟨⟨b1, b2⟩, b3⟩, b4⟩ := hb
          have hsz := beq_of b1
          subst hsz
          rw [bleNat] at b2
          have b2 := of_decide_eq_true b2
          have h1 := r.plainOf hx rfl
          obtain ⟨l, k1, k2⟩ := r.src hsrc b3
          have hll : l.length = src.length * sz := by rw [k2.length, flat_len b3]
          have hns : ∀ st, ax.ev y ≠ .string st := by
            intro st hst'
            have : ∀ tv, srcT a σ sz tv = some src → isStr tv = false → a.ev y = tv → False := by
              intro tv q1 q2 q3
              cases tv <;> simp only [srcT] at q1 <;> first | (cases q1; done) | (cases q2; done) | skip
              case sl m c =>
                cases q1
                cases ho : isOwn (a.ev y) with
                | false =>
                  have := r.plainOf q3 (by rw [q3] at ho; cases m <;> first | rfl | (simp [isOwn] at ho))
                  rw [hst'] at this; cases this
                | true =>
                  obtain ⟨t, rfl⟩ := isOwn_tmp ho
                  obtain ⟨i, h1, h2⟩ := r.ownOf ho
                  rw [q3, hst'] at h2; cases h2
              case via p ck =>
                split at q1
                · rename_i hc
                  have ha : a.at y = .via p ck := by unfold TAct.at; rw [q3]
                  obtain ⟨i, e, sz, h1, h2⟩ := r.viaOf (r.atAl ha rfl) hc q1
                  rw [hst'] at h2; cases h2
                · cases q1
              case ref =>
                have := r.plainOf q3 rfl
                rw [hst'] at this; cases this
            exact this _ hsrc hst rfl
          obtain ⟨bb, cc, hv, hld⟩ := srcCells_slice k1 hns hll
          revert h1
          simp only [xprim]
          generalize ax.ev x = yy
          intro h1; cases h1
          rename_i i hm hnc
          obtain ⟨i', vs, q1, q2, q3⟩ := r.objOf hob
          rw [hm] at q1; cases q1
          rw [hv]
          simp only
          cases hmin : Nat.min src.length n with
          | zero =>
            rw [hmin] at h
            cases h
            exact ⟨_, rfl, done_val r d (.int _ _)⟩
          | succ m =>
            rw [hmin] at h
            cases h
            have hm1 : m + 1 ≤ src.length := by rw [← hmin]; exact Nat.min_le_left _ _
            have hm2 : m + 1 ≤ n := by rw [← hmin]; exact Nat.min_le_right _ _
            obtain ⟨a0, hbb, hld2⟩ := hld (m + 1) hm1 (by omega)
            subst hbb
            have hlt : (l.take ((m + 1) * sz)).length = (m + 1) * sz := by
              rw [List.length_take, hll]
              have := Nat.mul_le_mul_right sz hm1; omega
            have hmul : (m + 1) * sz ≤ n * sz := Nat.mul_le_mul_right sz hm2
            simp only [hld2, storeList_of q2 (show o + (l.take ((m + 1) * sz)).length ≤ vs.length by rw [hlt, q3.len]; omega)]
            refine ⟨_, rfl, ?_⟩
            have hl2 : RVs s.get μ (Zo w Pr) (src.take (m + 1)).flatten (l.take ((m + 1) * sz)) := by
              rw [flat_take b3]; exact k2.take _
            have st := r.storeObj (o := o) hm q2 q3 hl2 (by rw [← hl2.length, hlt]; omega)
            have hw : w (.obj k) = some i := (r.wobj k).trans hm
            exact ⟨μ, _, st.put d (.inl (.int _ _)), after_set hw _ (fun p j e => ⟨p, relO_le _ _ _ _ _ _ (rel_le _ _ _ _ e)⟩)⟩
        · cases h
      · cases h
    · cases h
  · cases h
theorem bytes_rel {g : Hp} {Z : Nat → Prop} : ∀ {chs : List (List TV)} {bs : List UInt8} {l : List Value}, bytesT chs = some bs → RVs g μ Z chs.flatten l → okSz 1 chs = true ∧ toBytes l = some bs := by
  intro chs
  induction chs with
  | nil => intro bs l h hv; simp only [bytesT] at h; cases h; cases hv; exact ⟨rfl, rfl⟩
  | cons c chs ih =>
    intro bs l h hv
    unfold bytesT at h
    split at h
    · rename_i heq; cases heq
    · rename_i n r heq
      cases heq
      split at h
      · rename_i bs' hb
        cases h
        simp only [List.flatten_cons, List.cons_append, List.nil_append] at hv
        cases hv with
        | cons h1 h2 =>
          cases h1
          obtain ⟨k1, k2⟩ := ih hb h2
          refine ⟨?_, by simp only [toBytes, k2]⟩
          simp only [okSz, List.all_cons, Bool.and_eq_true]
          exact ⟨rfl, k1⟩
      · cases h
    · cases h
def b2s (g : Hp) (nx : Nat) (v : Value) : Option PR :=
  match v with
  | .slice none _ _ => some ⟨.string ⟨#[]⟩, [], nx⟩
  | .slice (some a) n _ => match loadList g a n with
    | some l => match toBytes l with
      | some bs => some ⟨.string ⟨bs.toArray⟩, [], nx⟩
      | none => none
    | none => none
  | _ => none
theorem s_bytesToStr (md b : Nat) (d : Option Nat) (x : Operand) : SimP md b d (.bytesToStr x) := by
  intro Pr μ w a σ ax s v a' σ' h r hP
  simp only [tdo] at h
  simp only [xprim]
  split at h
  · rename_i chs hs
    split at h
    · rename_i bs hb
      cases h
      have own : ∀ {i : Nat} {e sz : Nat} {v : Value}, RO s.get μ (Zo w Pr) i (.sl (.own e sz) chs) v → ∃ p, b2s s.get s.next v = some p ∧ Done Pr μ w ax s d (.str ⟨bs.toArray⟩) a σ p := by
        intro i e sz v h
        cases h with
        | mk m1 m2 m3 m4 m5 m6 m7 =>
          obtain ⟨q1, q2⟩ := bytes_rel hb m7
          rcases sz_of m2 q1 with rfl | rfl
          · simp at m3; subst m3
            simp at m6
            simp only [bytesT] at hb; cases hb
            simp only [b2s, loadList_of m1 (n := 0) (by omega), List.take_zero, toBytes]
            exact ⟨_, rfl, done_val r d (.str _)⟩
          · simp only [Nat.mul_one] at m6 m7 q2
            simp only [b2s, loadList_of m1 m6, q2]
            exact ⟨_, rfl, done_val r d (.str _)⟩
      unfold bytesSrc at hs
      split at hs
      · cases hs
      · rename_i m c hno hx
        cases hs
        cases ho : isOwn (a.ev x) with
        | true =>
          obtain ⟨t, rfl⟩ := isOwn_tmp ho
          obtain ⟨i, h1, h2⟩ := r.ownOf ho
          cases m <;> first | (rw [hx] at ho; cases ho; done) | skip
          rw [hx] at h2
          exact own h2
        | false =>
          have h1 := r.plainOf hx (by rw [hx] at ho; cases m <;> first | rfl | (simp [isOwn] at ho))
          revert h1; generalize ax.ev x = y; intro h1
          cases h1 with
          | fz0 => exact absurd rfl (hno rfl)
          | nl =>
            simp only [bytesT] at hb; cases hb
            exact ⟨_, rfl, done_val r d (.str _)⟩
          | fz z hg ok hn hc hu hle hv =>
            obtain ⟨q1, q2⟩ := bytes_rel hb hv
            rcases sz_of ok q1 with rfl | rfl
            · exact absurd rfl (hno rfl)
            · simp only [Nat.mul_one] at hle hv q2
              simp only [loadList_of hg hle, q2]
              exact ⟨_, rfl, done_val r d (.str _)⟩
      · rename_i p ck hx
        split at hs
        · rename_i hc
          have ha : a.at x = .via p ck := by unfold TAct.at; rw [hx]
          obtain ⟨i, e, sz, h1, h2⟩ := r.viaOf (r.atAl ha rfl) hc hs
          exact own h2
        · cases hs
      · cases hs
    · cases h
  · cases h
theorem tdo_sound (md b : Nat) (d : Option Nat) (op : XOp) : SimP md b d op := by
  cases op with
  | move x => exact s_move md b d x
  | keep x => exact s_keep md b d x
  | pick c x y => exact s_pick md b d c x y
  | alloc e z => exact s_alloc md b d e z
  | box e x => exact s_box md b d e x
  | build z ps => exact s_build md b d z ps
  | buildSlice e size z len ps => exact s_buildSlice md b d e size z len ps
  | load1 p => exact s_load1 md b d p
  | loadN n p => exact s_loadN md b d n p
  | store n p x => exact s_store md b d n p x
  | nilCheck x => exact s_nilCheck md b d x
  | bin op x y => exact s_bin md b d op x y
  | eq k neg x y => exact s_eq md b d k neg x y
  | un op x => exact s_un md b d op x
  | toInt k x => exact s_toInt md b d k x
  | bytesToStr x => exact s_bytesToStr md b d x
  | strToBytes e x => exact s_strToBytes md b d e x
  | mkIface t x => exact s_mkIface md b d t x
  | mkFunc fn first cap => exact s_mkFunc md b d fn first cap
  | mkMap => exact s_mkMap md b d
  | mkSlice e z bytes l c => exact s_mkSlice md b d e z bytes l c
  | sliceStr x lo hi => exact s_sliceStr md b d x lo hi
  | slice size x lo hi mx => exact s_slice md b d size x lo hi mx
  | sliceArr n size x lo hi mx => exact s_sliceArr md b d n size x lo hi mx
  | addr off x => exact s_addr md b d off x
  | field1 off x => exact s_field1 md b d off x
  | fieldN off n x => exact s_fieldN md b d off n x
  | indexAddr size x i => exact s_indexAddr md b d size x i
  | indexArrAddr len size x i => exact s_indexArrAddr md b d len size x i
  | indexStr x i => exact s_indexStr md b d x i
  | index1 len x i => exact s_index1 md b d len x i
  | indexN len size x i => exact s_indexN md b d len size x i
  | lookup k z m x ok => exact s_lookup md b d k z m x ok
  | mapUpdate k m x v => exact s_mapUpdate md b d k m x v
  | assertT t z x ok => exact s_assertT md b d t z x ok
  | extract x i => exact s_extract md b d x i
  | lenStr x => exact s_lenStr md b d x
  | lenSlice x => exact s_lenSlice md b d x
  | lenArr n => exact s_lenArr md b d n
  | lenMap x => exact s_lenMap md b d x
  | capSlice x => exact s_capSlice md b d x
  | append e size bytes x y => exact s_append md b d e size bytes x y
  | appendZ e z bytes x n => exact s_appendZ md b d e z bytes x n
  | copy size x y => exact s_copy md b d size x y
  | maxI xs => exact s_maxI md b d xs
  | minI xs => exact s_minI md b d xs
  | rangeStr x => intro Pr μ w a σ ax s v a' σ' h r hP; simp [tdo] at h
  | nextStr x => intro Pr μ w a σ ax s v a' σ' h r hP; simp [tdo] at h
  | call f args => intro Pr μ w a σ ax s v a' σ' h r hP; simp [tdo] at h
  | callV x args => intro Pr μ w a σ ax s v a' σ' h r hP; simp [tdo] at h
  | panic x => intro Pr μ w a σ ax s v a' σ' h r hP; simp [tdo] at h
  | defer x args => intro Pr μ w a σ ax s v a' σ' h r hP; simp [tdo] at h
  | recover => intro Pr μ w a σ ax s v a' σ' h r hP; simp [tdo] at h
end
end Go.Xt
end
section
namespace Go.Xt
open Go Go.Xe
set_option linter.unusedVariables false
set_option linter.unusedSimpArgs false
def sto (w : Own) : Own
  | .obj k => w (.obj k)
  | .cell k c => w (.cell k c)
  | _ => none
def Pr2 (w : Own) (Pr : Nat → Prop) (i : Nat) : Prop := Pr i ∨ (∃ t, w (.tmp t) = some i) ∨ (∃ t o, w (.tcell t o) = some i) ∨ ∃ h, w (.hand h) = some i
structure OnlyS (w : Own) : Prop where
  tmp : ∀ t, w (.tmp t) = none
  tcell : ∀ t o, w (.tcell t o) = none
  hand : ∀ h, w (.hand h) = none
def both (w w' : Own) : Own
  | .obj k => w' (.obj k)
  | .cell k c => w' (.cell k c)
  | p => w p
theorem zo_sto (w : Own) (Pr : Nat → Prop) : Zo (sto w) (Pr2 w Pr) = Zo w Pr := by
  funext i
  apply propext
  constructor
  · rintro ⟨h1, h2⟩
    refine ⟨fun p e => ?_, fun h => h2 (.inl h)⟩
    cases p with
    | tmp t => exact h2 (.inr (.inl ⟨t, e⟩))
    | tcell t o => exact h2 (.inr (.inr (.inl ⟨t, o, e⟩)))
    | hand h => exact h2 (.inr (.inr (.inr ⟨h, e⟩)))
    | obj k => exact h1 (.obj k) e
    | cell k c => exact h1 (.cell k c) e
  · rintro ⟨h1, h2⟩
    refine ⟨fun p e => ?_, ?_⟩
    · cases p <;> first | (cases e; done) | exact h1 _ e
    · rintro (h | ⟨t, h⟩ | ⟨t, o, h⟩ | ⟨t, h⟩)
      · exact h2 h
      · exact h1 _ h
      · exact h1 _ h
      · exact h1 _ h
theorem sto_le (w : Own) (p : Pc) (i : Nat) (h : sto w p = some i) : w p = some i := by
  cases p <;> first | exact h | cases h
theorem sto_only (w : Own) : OnlyS (sto w) := ⟨fun _ => rfl, fun _ _ => rfl, fun _ => rfl⟩
section
variable {Pr : Nat → Prop} {μ μ' : List Nat} {w w' : Own} {a a' : TAct} {σ σ' : Sto} {ax ax' : Xe.Act} {s s' : AS}
theorem Rs.stoOf (r : Rs Pr μ w σ s) : Rs (Pr2 w Pr) μ (sto w) σ s := by
  refine ⟨r.dm, r.len, fun p q i e f => r.inj p q i (sto_le w p i e) (sto_le w q i f), fun p i e h => ?_, fun p i e => r.live p i (sto_le w p i e), r.wobj, r.out, fun k o e => ?_, r.full⟩
  · have hw := sto_le w p i e
    rcases h with h | ⟨t, h⟩ | ⟨t, o, h⟩ | ⟨t, h⟩
    · exact r.pr p i hw h
    · have := r.inj _ _ _ hw h; subst this; cases e
    · have := r.inj _ _ _ hw h; subst this; cases e
    · have := r.inj _ _ _ hw h; subst this; cases e
  · have := r.obj k o e
    obtain ⟨i, b, h1, h2, h3⟩ := this
    refine ⟨i, b, h1, h2, ?_⟩
    rw [zo_sto]
    revert h3
    cases o.body <;> cases b <;> exact id
theorem After.refl (w : Own) (μ : List Nat) (s : AS) : After w w μ μ s s := ⟨Nat.le_refl _, fun _ _ _ => rfl, fun p i e _ => ⟨p, e⟩, mu_self⟩
theorem After.trans {w1 w2 : Own} {μ1 μ2 : List Nat} {s1 s2 : AS} (h : After w w1 μ μ1 s s1) (k : After w1 w2 μ1 μ2 s1 s2) : After w w2 μ μ2 s s2 := by
  refine ⟨Nat.le_trans h.le k.le, fun i hi hn => ?_, fun p i e hi => ?_, ?_⟩
  · rw [k.keep i (Nat.lt_of_lt_of_le hi h.le) (fun p e => by obtain ⟨q, e⟩ := h.own p i e hi; exact hn q e)]
    exact h.keep i hi hn
  · obtain ⟨q, e⟩ := k.own p i e (Nat.lt_of_lt_of_le hi h.le)
    exact h.own q i e hi
  · obtain ⟨ν, h⟩ := h.mu
    obtain ⟨ν', k⟩ := k.mu
    exact ⟨ν ++ ν', by rw [k, h, List.append_assoc]⟩
theorem After.sub {w0 : Own} (h : After w w' μ μ' s s') (hs : ∀ p i, w p = some i → w0 p = some i) : After w0 w' μ μ' s s' :=
  ⟨h.le, fun i hi hn => h.keep i hi (fun p e => hn p (hs p i e)), fun p i e hi => by obtain ⟨q, e⟩ := h.own p i e hi; exact ⟨q, hs q i e⟩, h.mu⟩
theorem After.mo (h : After w w' μ μ' s s') (dm : Dm s) : Mo s.get μ (Zo w Pr) s'.get μ' (Zo w' Pr) := by
  refine ⟨fun k i e => ?_, fun i ver vs e ro z hg => ?_⟩
  · obtain ⟨ν, rfl⟩ := h.mu
    rw [List.getElem?_append_left (List.getElem?_eq_some_iff.1 e).1]; exact e
  · have hi : i < s.next := by
      by_cases h : i < s.next
      · exact h
      · rw [dm i (by omega)] at hg; cases hg
    refine ⟨⟨fun p e => ?_, z.2⟩, (h.keep i hi z.1).trans hg⟩
    obtain ⟨q, e⟩ := h.own p i e hi
    exact z.1 q e
def REnd (g : Hp) (μ : List Nat) (Z : Nat → Prop) : TEnd → Xe.End → Prop
  | .ret v, .ret v' => RV g μ Z v v'
  | .panic v, .panic v' => RV g μ Z v v'
  | _, _ => False
structure CallOk (C : TCallee) (X : Xe.Callee) : Prop where
  call : ∀ {b f : Nat} {args : List TV} {σ : Sto} {e : TEnd} {σ' : Sto}, C b f args σ = some (e, σ') → ∀ {Pr : Nat → Prop} {μ : List Nat} {w : Own} {s : AS} {args' : List Value}, Rs Pr μ w σ s → OnlyS w → (∀ i, Pr i → i < s.next) → RVs s.get μ (Zo w Pr) args args' →
    ∃ e' s' μ' w', X f args' s = some (e', s') ∧ Rs Pr μ' w' σ' s' ∧ OnlyS w' ∧ After w w' μ μ' s s' ∧ REnd s'.get μ' (Zo w' Pr) e e'
theorem both_zo (r : Rs (Pr2 w Pr) μ' w' σ' s') (ho : OnlyS w') (hP : ∀ i, Pr i → Pr2 w Pr i) : Zo (both w w') Pr = Zo w' (Pr2 w Pr) := by
  funext i
  apply propext
  constructor
  · rintro ⟨h1, h2⟩
    refine ⟨fun p e => ?_, ?_⟩
    · cases p with
      | tmp t => rw [ho.tmp] at e; cases e
      | tcell t o => rw [ho.tcell] at e; cases e
      | hand h => rw [ho.hand] at e; cases e
      | obj k => exact h1 (.obj k) e
      | cell k c => exact h1 (.cell k c) e
    · rintro (h | ⟨t, h⟩ | ⟨t, o, h⟩ | ⟨t, h⟩)
      · exact h2 h
      · exact h1 (.tmp t) h
      · exact h1 (.tcell t o) h
      · exact h1 (.hand t) h
  · rintro ⟨h1, h2⟩
    refine ⟨fun p e => ?_, fun h => h2 (.inl h)⟩
    cases p with
    | tmp t => exact h2 (.inr (.inl ⟨t, e⟩))
    | tcell t o => exact h2 (.inr (.inr (.inl ⟨t, o, e⟩)))
    | hand h => exact h2 (.inr (.inr (.inr ⟨h, e⟩)))
    | obj k => exact h1 (.obj k) e
    | cell k c => exact h1 (.cell k c) e
theorem Rl.back (r : Rl Pr μ w a σ ax s) (hP : ∀ i, Pr i → i < s.next) (h2 : Rs (Pr2 w Pr) μ' w' σ' s') (h3 : OnlyS w') (h4 : After (sto w) w' μ μ' s s') :
    Rl Pr μ' (both w w') a.tick σ' ax s' ∧ After w (both w w') μ μ' s s' ∧ Zo (both w w') Pr = Zo w' (Pr2 w Pr) ∧ (∀ i, i < s.next → (∀ k, w (.obj k) ≠ some i) → (∀ k c, w (.cell k c) ≠ some i) → s'.get i = s.get i) := by
  have hP2 : ∀ i, Pr2 w Pr i → i < s.next := by
    rintro i (h | ⟨t, h⟩ | ⟨t, o, h⟩ | ⟨t, h⟩)
    · exact hP i h
    · exact r.live _ _ h
    · exact r.live _ _ h
    · exact r.live _ _ h
  have hz := both_zo (w := w) (Pr := Pr) h2 h3 (fun i h => .inl h)
  have hle : ∀ p i, both w w' p = some i → (w' p = some i ∧ ¬ Pr2 w Pr i) ∨ (w p = some i ∧ Pr2 w Pr i) := by
    intro p i e
    cases p with
    | tmp t => exact .inr ⟨e, .inr (.inl ⟨t, e⟩)⟩
    | tcell t o => exact .inr ⟨e, .inr (.inr (.inl ⟨t, o, e⟩))⟩
    | hand h => exact .inr ⟨e, .inr (.inr (.inr ⟨h, e⟩))⟩
    | obj k => exact .inl ⟨e, h2.pr _ _ e⟩
    | cell k c => exact .inl ⟨e, h2.pr _ _ e⟩
  have hkeep : ∀ i, i < s.next → (∀ k, w (.obj k) ≠ some i) → (∀ k c, w (.cell k c) ≠ some i) → s'.get i = s.get i := fun i hi ho hc => h4.keep i hi (fun p e => by
    cases p with
    | obj k => exact ho k e
    | cell k c => exact hc k c e
    | tmp t => cases e
    | tcell t o => cases e
    | hand h => cases e)
  have hpk : ∀ i, Pr2 w Pr i → i < s.next → s'.get i = s.get i := fun i hp hi => h4.keep i hi (fun p e => r.toRs.stoOf.pr p i e hp)
  have hown : ∀ p i, both w w' p = some i → i < s.next → ∃ q, w q = some i := fun p i e hi => by
    rcases hle p i e with ⟨h, _⟩ | ⟨h, _⟩
    · obtain ⟨q, hq⟩ := h4.own p i h hi; exact ⟨q, sto_le w q i hq⟩
    · exact ⟨p, h⟩
  have haft : After w (both w w') μ μ' s s' := ⟨h4.le, fun i hi hn => h4.keep i hi (fun p e => hn p (sto_le w p i e)), hown, h4.mu⟩
  have rs : Rs Pr μ' (both w w') σ' s' := by
    refine ⟨h2.dm, h2.len, fun p q i e f => ?_, fun p i e => ?_, fun p i e => ?_, h2.wobj, h2.out, fun k o e => ?_, h2.full⟩
    · rcases hle p i e with ⟨k1, k2⟩ | ⟨k1, k2⟩ <;> rcases hle q i f with ⟨q1, q2⟩ | ⟨q1, q2⟩
      · exact h2.inj p q i k1 q1
      · exact absurd q2 k2
      · exact absurd k2 q2
      · exact r.inj p q i k1 q1
    · rcases hle p i e with ⟨k1, k2⟩ | ⟨k1, k2⟩
      · exact fun h => k2 (.inl h)
      · exact r.pr p i k1
    · rcases hle p i e with ⟨k1, k2⟩ | ⟨k1, k2⟩
      · exact h2.live p i k1
      · exact Nat.lt_of_lt_of_le (hP2 i k2) h4.le
    · obtain ⟨i, b, q1, q2, q3⟩ := h2.obj k o e
      refine ⟨i, b, q1, q2, ?_⟩
      rw [hz]
      revert q3
      cases o.body <;> cases b <;> exact id
  exact ⟨r.step (haft.mo r.dm) rs (Nat.lt_succ_self _) (fun t => .inl ⟨rfl, rfl, rfl, fun _ => rfl, fun i e => hpk i (.inr (.inl ⟨t, e⟩)) (r.live _ _ e), fun o i e => hpk i (.inr (.inr (.inl ⟨t, o, e⟩))) (r.live _ _ e)⟩) ⟨rfl, rfl⟩, haft, hz, hkeep⟩
theorem Rl.hP2 (r : Rl Pr μ w a σ ax s) (hP : ∀ i, Pr i → i < s.next) : ∀ i, Pr2 w Pr i → i < s.next := by
  rintro i (h | ⟨t, h⟩ | ⟨t, o, h⟩ | ⟨t, h⟩)
  · exact hP i h
  · exact r.live _ _ h
  · exact r.live _ _ h
  · exact r.live _ _ h
theorem Rl.call {C : TCallee} {X : Xe.Callee} (hC : CallOk C X) (r : Rl Pr μ w a σ ax s) (hP : ∀ i, Pr i → i < s.next) {b f : Nat} {vs : List TV} {e : TEnd} (h : C b f vs σ = some (e, σ')) {args' : List Value} (ha : RVs s.get μ (Zo w Pr) vs args') :
    ∃ e' s' μ' w', X f args' s = some (e', s') ∧ Rl Pr μ' w' a.tick σ' ax s' ∧ After w w' μ μ' s s' ∧ REnd s'.get μ' (Zo w' Pr) e e' ∧ (∀ i, i < s.next → (∀ k, w (.obj k) ≠ some i) → (∀ k c, w (.cell k c) ≠ some i) → s'.get i = s.get i) := by
  obtain ⟨e', s', μ', w', h1, h2, h3, h4, h5⟩ := hC.call h r.toRs.stoOf (sto_only w) (r.hP2 hP) (by rw [zo_sto]; exact ha)
  obtain ⟨q1, q2, q3, q4⟩ := r.back hP h2 h3 h4
  exact ⟨e', s', μ', both w w', h1, q1, q2, by rw [q3]; exact h5, q4⟩
theorem undT_val {g : Hp} {Z : Nat → Prop} {v : Value} (h : RV g μ Z undT v) : v = .tuple #[] := by
  cases h with
  | tuple h =>
    rename_i l
    cases l; cases h; rfl
theorem Rl.wanted (r : Rl Pr μ w a σ ax s) {g : Option (Nat × Bool)} {c : Bool} (h : wantedT a g = some c) : wantedX ax g = c := by
  cases g with
  | none => simp only [wantedT, Option.some.injEq] at h; exact h
  | some p =>
    obtain ⟨t, b⟩ := p
    have ht := r.plain (x := .tmp t)
    simp only [wantedT] at h
    simp only [wantedX]
    simp only [TAct.ev, Act.ev] at ht
    cases hq : a.tm.get t with
    | none =>
      rw [hq] at h ht
      simp only [Option.some.injEq] at h
      subst h
      have := undT_val (ht rfl)
      revert this
      cases ax.tm.get t with
      | none => intro _; rfl
      | some v => intro this; simp only at this; subst this; rfl
    | some tv =>
      rw [hq] at h ht
      simp only at h ht
      split at h
      · rename_i c' heq
        cases heq; cases h
        have := ht rfl
        revert this
        cases ax.tm.get t with
        | none => intro this; cases this
        | some v => intro this; cases this; rfl
      · rename_i heq
        cases heq; cases h
        have := undT_val (ht rfl)
        revert this
        cases ax.tm.get t with
        | none => intro _; rfl
        | some v => intro this; simp only at this; subst this; rfl
      · rename_i heq; cases heq
      · cases h
def REx (g : Hp) (μ : List Nat) (Z : Nat → Prop) : TEx → Xe.Ex → Prop
  | .normal, .normal => True
  | .exit k, .exit k' => k' = k
  | .ret, .ret => True
  | .panic v, .panic v' => RV g μ Z v v'
  | _, _ => False
def Res (Pr : Nat → Prop) (μ : List Nat) (w : Own) (s : AS) (e : TEx) (a : TAct) (σ : Sto) (x : Option (Xe.Ex × Xe.Act × AS)) : Prop :=
  ∃ e' ax s' μ' w', x = some (e', ax, s') ∧ Rl Pr μ' w' a σ ax s' ∧ After w w' μ μ' s s' ∧ REx s'.get μ' (Zo w' Pr) e e'
theorem Res.after {w1 : Own} {μ1 : List Nat} {s1 : AS} {e : TEx} {x : Option (Xe.Ex × Xe.Act × AS)} (h : After w w1 μ μ1 s s1) (k : Res Pr μ1 w1 s1 e a σ x) : Res Pr μ w s e a σ x := by
  obtain ⟨e', ax, s', μ', w', k1, k2, k3, k4⟩ := k
  exact ⟨e', ax, s', μ', w', k1, k2, h.trans k3, k4⟩
theorem Rl.putD (r : Rl Pr μ w a σ ax s) (d : Option Nat) {tv : TV} {v : Value} (h : RV s.get μ (Zo w Pr) tv v) : ∃ w', Rl Pr μ w' (a.put d tv) σ (ax.put d v) s ∧ After w w' μ μ s s :=
  ⟨_, r.put d (.inl h), Nat.le_refl _, fun _ _ _ => rfl, fun p i e _ => ⟨p, rel_le w d p i e⟩, mu_self⟩
theorem After.ofSub {w1 : Own} (h : ∀ p i, w1 p = some i → w p = some i) : After w w1 μ μ s s := ⟨Nat.le_refl _, fun _ _ _ => rfl, fun p i e _ => ⟨p, h p i e⟩, mu_self⟩
theorem target_rel {g : Hp} {Z : Nat → Prop} {x : TV} {x' : Value} {vs : List TV} {vs' : List Value} {f : FuncId} {l : List TV} (hx : pl x = true → RV g μ Z x x') (hv : RVs g μ Z vs vs') (h : targetT x vs = some (f, l)) : ∃ l', target x' vs' = some (f, l') ∧ RVs g μ Z l l' := by
  unfold targetT at h
  split at h
  · cases h
    have := hx rfl
    cases this with
    | func f h1 h2 => exact ⟨_, rfl, (h1.append hv).append h2⟩
  · cases h
end
end Go.Xt
end
section
namespace Go.Xt
open Go Go.Xe
set_option linter.unusedVariables false
set_option linter.unusedSimpArgs false
section
variable {Pr : Nat → Prop} {μ μ' : List Nat} {w w' : Own} {a a' : TAct} {σ σ' : Sto} {ax ax' : Xe.Act} {s s' : AS}
theorem After.hP {Pr : Nat → Prop} (h : After w w' μ μ' s s') (hP : ∀ i, Pr i → i < s.next) : ∀ i, Pr i → i < s'.next := fun i hi => Nat.lt_of_lt_of_le (hP i hi) h.le
theorem Rl.callA {C : TCallee} {X : Xe.Callee} (hC : CallOk C X) (r : Rl Pr μ w a σ ax s) (hP : ∀ i, Pr i → i < s.next) {b f : Nat} {args : List Operand} {vs : List TV} {e : TEnd} (hg : gives (args.map a.ev) = some vs) (h : C b f vs σ = some (e, σ')) :
    ∃ e' s' μ' w', X f (args.map ax.ev) s = some (e', s') ∧ Rl Pr μ' w' (Xt.frzs a args).tick σ' ax s' ∧ After w w' μ μ' s s' ∧ REnd s'.get μ' (Zo w' Pr) e e' := by
  obtain ⟨w1, r1, hsub⟩ := r.frzs args
  have ha := gives_rel r1 rfl args (fun x hx => hx) hg
  obtain ⟨e', s', μ', w', k1, k2, k3, k4, _⟩ := r1.call hC hP h ha
  exact ⟨e', s', μ', w', k1, k2, k3.sub hsub, k4⟩
theorem Rl.callVA {C : TCallee} {X : Xe.Callee} (hC : CallOk C X) (r : Rl Pr μ w a σ ax s) (hP : ∀ i, Pr i → i < s.next) {b f : Nat} {x : Operand} {args : List Operand} {vs l : List TV} {e : TEnd} (hg : gives (args.map a.ev) = some vs) (ht : targetT (a.ev x) vs = some (f, l)) (h : C b f l σ = some (e, σ')) :
    ∃ e' s' μ' w' l', target (ax.ev x) (args.map ax.ev) = some (f, l') ∧ X f l' s = some (e', s') ∧ Rl Pr μ' w' (Xt.frzs a args).tick σ' ax s' ∧ After w w' μ μ' s s' ∧ REnd s'.get μ' (Zo w' Pr) e e' := by
  obtain ⟨w1, r1, hsub⟩ := r.frzs args
  have ha := gives_rel r1 rfl args (fun x hx => hx) hg
  have hx : pl (a.ev x) = true → RV s.get μ (Zo w1 Pr) (a.ev x) (ax.ev x) := fun h => (r.plain h).mono (Mo.sub hsub)
  obtain ⟨l', t1, t2⟩ := target_rel hx ha ht
  obtain ⟨e', s', μ', w', k1, k2, k3, k4, _⟩ := r1.call hC hP h t2
  exact ⟨e', s', μ', w', l', t1, k1, k2, k3.sub hsub, k4⟩
theorem frz1_df (a : TAct) (x : Operand) : (frz1 a x).df = a.df := by
  cases x <;> simp only [frz1]
  split <;> rfl
theorem frzs_df : ∀ (l : List Operand) (a : TAct), (frzs a l).df = a.df
  | [], a => rfl
  | x :: l, a => (frzs_df l _).trans (frz1_df a x)
theorem tops_sound {C : TCallee} {X : Xe.Callee} (hC : CallOk C X) {an : Ann} {b : Nat} : ∀ (ops : List XOper) {Pr : Nat → Prop} {μ : List Nat} {w : Own} {a : TAct} {σ : Sto} {ax : Xe.Act} {s : AS} {e : TEx} {a' : TAct} {σ' : Sto},
    tops an b C ops a σ = some (e, a', σ') → Rl Pr μ w a σ ax s → (∀ i, Pr i → i < s.next) → Res Pr μ w s e a' σ' (xops X ops ax s)
  | [], Pr, μ, w, a, σ, ax, s, e, a', σ', h, r, hP => by
    simp only [tops] at h
    cases h
    exact ⟨.normal, ax, s, μ, w, rfl, r, After.refl _ _ _, trivial⟩
  | ⟨dst, op, guard⟩ :: ops, Pr, μ, w, a, σ, ax, s, e, a', σ', h, r, hP => by
    have ih := @tops_sound C X hC an b ops
    rw [tops] at h
    rw [xops]
    cases hg : wantedT a guard with
    | none => simp only [hg] at h; cases h
    | some c =>
      have hw := r.wanted hg
      cases c with
      | false =>
        simp only [hg] at h
        simp only [hw]
        obtain ⟨w1, r1, h1⟩ := r.putD dst (undef_rv _ _)
        exact (ih h r1 (h1.hP hP)).after h1
      | true =>
        simp only [hg] at h
        simp only [hw]
        cases op
        case call f args =>
          simp only at h ⊢
          split at h
          · rename_i vs hgv
            split at h
            · rename_i v σ1 hc
              obtain ⟨e', s', μ', w', k1, k2, k3, k4⟩ := r.callA hC hP hgv hc
              cases e' with
              | panic v' => exact k4.elim
              | ret v' =>
                simp only [k1]
                obtain ⟨w2, r2, h2⟩ := k2.putD dst k4
                exact (ih h r2 (h2.hP (k3.hP hP))).after (k3.trans h2)
            · rename_i v σ1 hc
              cases h
              obtain ⟨e', s', μ', w', k1, k2, k3, k4⟩ := r.callA hC hP hgv hc
              cases e' with
              | ret v' => exact k4.elim
              | panic v' =>
                simp only [k1]
                exact ⟨.panic v', ax, s', μ', w', rfl, k2, k3, k4⟩
            · cases h
          · cases h
        case callV x args =>
          simp only at h ⊢
          split at h
          · rename_i vs hgv
            split at h
            · rename_i f l ht
              split at h
              · rename_i v σ1 hc
                obtain ⟨e', s', μ', w', l', t1, k1, k2, k3, k4⟩ := r.callVA hC hP hgv ht hc
                cases e' with
                | panic v' => exact k4.elim
                | ret v' =>
                  simp only [t1, k1]
                  obtain ⟨w2, r2, h2⟩ := k2.putD dst k4
                  exact (ih h r2 (h2.hP (k3.hP hP))).after (k3.trans h2)
              · rename_i v σ1 hc
                cases h
                obtain ⟨e', s', μ', w', l', t1, k1, k2, k3, k4⟩ := r.callVA hC hP hgv ht hc
                cases e' with
                | ret v' => exact k4.elim
                | panic v' =>
                  simp only [t1, k1]
                  exact ⟨.panic v', ax, s', μ', w', rfl, k2, k3, k4⟩
              · cases h
            · cases h
          · cases h
        case panic x =>
          simp only at h ⊢
          split at h
          · rename_i t v hx
            cases h
            have h1 := r.plainOf hx rfl
            revert h1; generalize ax.ev x = y; intro h1
            cases h1 with
            | iface t h1 => exact ⟨.panic _, ax, s, μ, w, rfl, r, After.refl _ _ _, .iface t h1⟩
          · cases h
        case defer x args =>
          simp only at h ⊢
          split at h
          · rename_i vs hgv
            split at h
            · rename_i f l ht
              obtain ⟨w1, r1, hsub⟩ := r.frzs args
              have ha := gives_rel r1 rfl args (fun x hx => hx) hgv
              have hx : pl (a.ev x) = true → RV s.get μ (Zo w1 Pr) (a.ev x) (ax.ev x) := fun h => (r.plain h).mono (Mo.sub hsub)
              obtain ⟨l', t1, t2⟩ := target_rel hx ha ht
              simp only [t1]
              have r2 : Rl Pr μ w1 ⟨(frzs a args).tm, ⟨f, l⟩ :: (frzs a args).df, (frzs a args).clk⟩ σ ⟨ax.tm, ⟨f, l'⟩ :: ax.df⟩ s :=
                ⟨r1.toRs, r1.tm, r1.al, ⟨rfl, t2, r1.df⟩⟩
              have hdf : (frzs a args).df = a.df := frzs_df args a
              rw [hdf] at r2
              obtain ⟨w2, r3, h3⟩ := r2.putD dst (undef_rv _ _)
              exact (ih h r3 (h3.hP hP)).after ((After.ofSub hsub).trans h3)
            · cases h
          · cases h
        all_goals
          simp only at h ⊢
          split at h
          · rename_i v a1 σ1 hd
            obtain ⟨p, k1, μ1, w1, k2, k3⟩ := tdo_sound _ _ dst _ hd r hP
            simp only [k1]
            exact (ih h k2 (k3.hP hP)).after k3
          · cases h
end
end Go.Xt
end
section
namespace Go.Xt
open Go Go.Xe
set_option linter.unusedVariables false
set_option linter.unusedSimpArgs false
structure Snap where
  μ : List Nat
  w : Own
  a : TAct
  σ : Sto
  ax : Xe.Act
  s : AS
def KindOk (tr : TRec) (r : Rec) (n : Snap) : TK → Prop
  | .bad => True
  | .no => r.call = false ∧ r.touched = [] ∧ r.wrote = []
  | .rd q => r.call = false ∧ r.wrote = [] ∧ ∃ i o, n.ax.ev q = .pointer (some ⟨i, o, none⟩) ∧ r.touched = [i] ∧ i < n.s.next
  | .wr q => r.call = false ∧ ∃ i o, n.ax.ev q = .pointer (some ⟨i, o, none⟩) ∧ r.touched = [i] ∧ r.wrote = [i]
  | .new => r.call = false ∧ r.touched = [] ∧ r.wrote = [n.s.next]
  | .call => r.call = true ∧ (∀ i, i < n.s.next → (∀ k, n.w (.obj k) ≠ some i) → (∀ k c, n.w (.cell k c) ≠ some i) → r.s1.get i = n.s.get i) ∧
      ∀ k i o o', n.μ[k]? = some i → tr.s0.at k = some o → tr.s1.at k = some o' → (∃ b, r.s0.get i = some ⟨o.ver, b⟩) ∧ ∃ b, r.s1.get i = some ⟨o'.ver, b⟩
structure Good (Pr : Nat → Prop) (tr : TRec) (r : Rec) (n : Snap) (ax' : Xe.Act) (s' : AS) : Prop where
  rl : Rl Pr n.μ n.w n.a n.σ n.ax n.s
  pre : tr.kind ≠ .bad → tr.pre = n.a
  s0 : r.s0 = n.s
  nx : n.s.next ≤ s'.next
  ax : ∀ t, tr.dst ≠ some t → ax'.ev (.tmp t) = n.ax.ev (.tmp t)
  kind : KindOk tr r n tr.kind
inductive Chn (Pr : Nat → Prop) : Xe.Act → AS → List TRec → List Rec → Prop
  | nil (ax : Xe.Act) (s : AS) : Chn Pr ax s [] []
  | cons {tr : TRec} {r : Rec} {n : Snap} {ax' : Xe.Act} {s' : AS} {l : List TRec} {rs : List Rec} : Good Pr tr r n ax' s' → Chn Pr ax' s' l rs → Chn Pr n.ax n.s (tr :: l) (r :: rs)
theorem Chn.drop {Pr : Nat → Prop} {ax : Xe.Act} {s : AS} {l : List TRec} {rs : List Rec} (h : Chn Pr ax s l rs) : ∀ i, ∃ ax1 s1, Chn Pr ax1 s1 (l.drop i) (rs.drop i) := by
  induction h with
  | nil ax s => intro i; exact ⟨ax, s, by simp; exact .nil ax s⟩
  | cons g t ih =>
    intro i
    cases i with
    | zero => exact ⟨_, _, .cons g t⟩
    | succ i => exact ih i
theorem Chn.path {Pr : Nat → Prop} {ax : Xe.Act} {s : AS} {l : List TRec} {rs : List Rec} (h : Chn Pr ax s l rs) : ∀ {j : Nat} {y : TRec}, l[j]? = some y → ∃ ry n ax' s', rs[j]? = some ry ∧ Good Pr y ry n ax' s' ∧ s.next ≤ n.s.next ∧ ∀ t, (∀ r ∈ l.take j, r.dst ≠ some t) → n.ax.ev (.tmp t) = ax.ev (.tmp t) := by
  induction h with
  | nil ax s => intro j y e; simp at e
  | cons g t ih =>
    intro j y e
    cases j with
    | zero => simp at e; subst e; exact ⟨_, _, _, _, rfl, g, Nat.le_refl _, fun t _ => rfl⟩
    | succ j =>
      obtain ⟨ry, n, ax', s', h1, h2, h3, h4⟩ := ih (by simpa using e)
      refine ⟨ry, n, ax', s', by simpa using h1, h2, Nat.le_trans g.nx h3, fun t ht => ?_⟩
      rw [h4 t (fun r hr => ht r (by simp [hr])), g.ax t (ht _ (by simp))]
theorem Chn.head {Pr : Nat → Prop} {ax : Xe.Act} {s : AS} {l l' : List TRec} {rs : List Rec} {x : TRec} (h : Chn Pr ax s l rs) (hl : l = x :: l') : ∃ rx n ax' s', rs[0]? = some rx ∧ Good Pr x rx n ax' s' ∧ ax = n.ax ∧ s = n.s := by
  cases h with
  | nil => cases hl
  | cons g t => cases hl; exact ⟨_, _, _, _, rfl, g, rfl, rfl⟩
section
variable {Pr : Nat → Prop} {μ μ' : List Nat} {w w' : Own} {a a' : TAct} {σ σ' : Sto} {ax ax' : Xe.Act} {s s' : AS}
inductive Cls (g : Hp) (w : Own) (Pr : Nat → Prop) (μ : List Nat) (a : TAct) (i : Nat) : TV → Prop
  | box {t o ser : Nat} : (∃ x, g i = some x) → w (.tmp t) = some i → Cls g w Pr μ a i (.vpt t o ser)
  | fz {ch : List TV} {o : Nat} : (∃ x, g i = some x) → Zo w Pr i → Cls g w Pr μ a i (.elt ch o)
  | obj {k o : Nat} : μ[k]? = some i → w (.obj k) = some i → Cls g w Pr μ a i (.ptr k o)
theorem Rl.cls_elt (r : Rl Pr μ w a σ ax s) {q : Operand} {i o : Nat} (hv : ax.ev q = .pointer (some ⟨i, o, none⟩)) {ch : List TV} {o' : Nat} (h : a.at q = .elt ch o') : Cls s.get w Pr μ a i (.elt ch o') := by
  have h1 := r.atPlain h rfl
  rw [hv] at h1
  cases h1 with
  | elt z hg => exact .fz ⟨_, hg⟩ z
theorem Rl.cls_ptr (r : Rl Pr μ w a σ ax s) {q : Operand} {i o : Nat} (hv : ax.ev q = .pointer (some ⟨i, o, none⟩)) {k o' : Nat} (h : a.at q = .ptr k o') : Cls s.get w Pr μ a i (.ptr k o') := by
  have h1 := r.atPlain h rfl
  rw [hv] at h1
  cases h1 with
  | ptr e => exact .obj e ((r.wobj k).trans e)
theorem Rl.cls_vpt (r : Rl Pr μ w a σ ax s) {q : Operand} {i o : Nat} (hv : ax.ev q = .pointer (some ⟨i, o, none⟩)) {t o' ser : Nat} (h : a.at q = .vpt t o' ser) (hb : (boxAt a t ser).isSome = true) : Cls s.get w Pr μ a i (.vpt t o' ser) := by
  have h1 := r.atAl h rfl
  cases hq : boxAt a t ser with
  | none => rw [hq] at hb; cases hb
  | some p =>
    obtain ⟨cs, e⟩ := p
    obtain ⟨i', ver, vs, k1, k2, k3, k4⟩ := r.vptOf h1 hq
    rw [hv] at k1; cases k1
    exact .box ⟨_, k3⟩ k2
theorem stays_ok (r : Rl Pr μ w a σ ax s) {tr : TRec} {rc : Rec} {n : Snap} (hn : n = ⟨μ, w, a, σ, ax, s⟩) (hk : KindOk tr rc n .call) (h0 : rc.s0 = s) {q : Operand} {i o : Nat} (hv : ax.ev q = .pointer (some ⟨i, o, none⟩)) (h : stays a tr.s0 tr.s1 q = true) : sameVer rc.s0 rc.s1 [i] = true := by
  subst hn
  obtain ⟨k1, k2, k3⟩ := hk
  have same : (∃ x, s.get i = some x) → rc.s1.get i = s.get i → sameVer rc.s0 rc.s1 [i] = true := by
    intro hi e
    obtain ⟨x, hx⟩ := hi
    simp only [sameVer, h0, e, hx, beqNat, decide_true]
  unfold stays at h
  split at h
  · rename_i t o' ser hq
    cases r.cls_vpt hv hq h with
    | box hx hw => obtain ⟨_, hx2⟩ := hx; exact same ⟨_, hx2⟩ (k2 i (r.lt hx2) (fun k e => by have := r.inj _ _ _ e hw; cases this) (fun k c e => by have := r.inj _ _ _ e hw; cases this))
  · rename_i ch o' hq
    cases r.cls_elt hv hq with
    | fz hx z => obtain ⟨_, hx2⟩ := hx; exact same ⟨_, hx2⟩ (k2 i (r.lt hx2) (fun k e => z.1 _ e) (fun k c e => z.1 _ e))
  · rename_i k o' hq
    cases r.cls_ptr hv hq with
    | obj hm hw =>
      split at h
      · rename_i o1 o2 q1 q2
        obtain ⟨⟨b1, p1⟩, b2, p2⟩ := k3 k i o1 o2 hm q1 q2
        simp only [sameVer, p1, p2, h]
      · cases h
  · cases h
theorem sep_ok (r : Rl Pr μ w a σ ax s) {q q' : Operand} {i o i' o' : Nat} (hv : ax.ev q = .pointer (some ⟨i, o, none⟩)) (hv' : ax.ev q' = .pointer (some ⟨i', o', none⟩)) (h : sepT a q q' = true) : i ≠ i' := by
  unfold sepT at h
  split at h
  · rename_i t1 o1 s1 t2 o2 s2 h1 h2
    simp only [Bool.and_eq_true] at h
    cases r.cls_vpt hv h1 h.1.2 with
    | box _ w1 => cases r.cls_vpt hv' h2 h.2 with
      | box _ w2 => rintro rfl; have := r.inj _ _ _ w1 w2; simp at this; exact beq_false.1 h.1.1 this
  · rename_i k1 o1 k2 o2 h1 h2
    cases r.cls_ptr hv h1 with
    | obj _ w1 => cases r.cls_ptr hv' h2 with
      | obj _ w2 => rintro rfl; have := r.inj _ _ _ w1 w2; simp at this; exact beq_false.1 h this
  · rename_i t1 o1 s1 k2 o2 h1 h2
    cases r.cls_vpt hv h1 h with
    | box _ w1 => cases r.cls_ptr hv' h2 with
      | obj _ w2 => rintro rfl; have := r.inj _ _ _ w1 w2; cases this
  · rename_i k1 o1 t2 o2 s2 h1 h2
    cases r.cls_ptr hv h1 with
    | obj _ w1 => cases r.cls_vpt hv' h2 h with
      | box _ w2 => rintro rfl; have := r.inj _ _ _ w1 w2; cases this
  · rename_i ch o1 t2 o2 s2 h1 h2
    cases r.cls_elt hv h1 with
    | fz _ z => cases r.cls_vpt hv' h2 h with
      | box _ w2 => rintro rfl; exact z.1 _ w2
  · rename_i ch o1 k2 o2 h1 h2
    cases r.cls_elt hv h1 with
    | fz _ z => cases r.cls_ptr hv' h2 with
      | obj _ w2 => rintro rfl; exact z.1 _ w2
  · cases h
theorem load_has {g : Hp} {i o n : Nat} {l : List Value} (h : loadList g ⟨i, o, none⟩ n = some l) : ∃ x, g i = some x := by
  simp only [loadList] at h
  split at h
  · rename_i hg; exact ⟨_, hg⟩
  · cases h
theorem free_ax {l : List TRec} {i j : Nat} {q : Operand} {axi axj : Xe.Act} (h : freeT l i j q = true) (hax : ∀ t, (∀ r ∈ (l.drop i).take (j - i), r.dst ≠ some t) → axj.ev (.tmp t) = axi.ev (.tmp t)) : axj.ev q = axi.ev q := by
  unfold freeT at h
  split at h
  · rename_i t
    refine hax t fun r hr => ?_
    have := List.all_eq_true.1 h r hr
    intro e
    rw [e] at this
    simp [beqNat] at this
  · cases h
theorem apart_nil : ∀ l, apart l [] = true
  | [] => rfl
  | x :: l => by simp only [apart, inList, apart_nil l]
theorem pair_ok {ax0 : Xe.Act} {s0 : AS} {l : List TRec} {rs : List Rec} (hc : Chn Pr ax0 s0 l rs) {i j : Nat} {x y : TRec} (hi : l[i]? = some x) (hj : l[j]? = some y) (hij : i < j) (h : pairOkT l i j x y = true) : ∃ rx ry, rs[i]? = some rx ∧ rs[j]? = some ry ∧ pairOk rx ry = true := by
  obtain ⟨ax1, s1, hd⟩ := hc.drop i
  obtain ⟨ry, ny, ax2', s2', p1, p2, p3, p4⟩ := hd.path (j := j - i) (y := y) (by rw [List.getElem?_drop]; rw [show i + (j - i) = j by omega]; exact hj)
  have hx : l.drop i = x :: l.drop (i + 1) := by
    have := (List.getElem?_eq_some_iff.1 hi)
    rw [List.drop_eq_getElem_cons this.1, this.2]
  obtain ⟨rx, nx, ax1', s1', q1, q2, q3, q4⟩ := hd.head hx
  rw [List.getElem?_drop] at p1
  rw [show i + (j - i) = j by omega] at p1
  have q1 : rs[i]? = some rx := by simpa using q1
  refine ⟨rx, ry, q1, p1, ?_⟩
  have kx := q2.kind
  have ky := p2.kind
  have hax : ∀ {q}, freeT l i j q = true → ny.ax.ev q = nx.ax.ev q := fun h => by
    subst q3; exact free_ax h p4
  unfold pairOkT at h
  split at h
  · rename_i hk1
    rw [hk1] at kx
    obtain ⟨a1, a2, a3⟩ := kx
    cases hc : ry.call <;> simp only [pairOk, a1, a2, a3, hc, apart, apart_nil, sameVer, Bool.and_self]
  · rename_i hk2 hk1
    rw [hk2] at ky
    obtain ⟨a1, a2, a3⟩ := ky
    cases hc : rx.call <;> simp only [pairOk, a1, a2, a3, hc, apart, apart_nil, sameVer, Bool.and_self]
  · rename_i q hk1 hk2
    simp only [Bool.and_eq_true] at h
    rw [hk1] at kx
    rw [hk2] at ky
    obtain ⟨a1, a2, i0, o0, a3, a4, a5⟩ := kx
    have hv : ny.ax.ev q = .pointer (some ⟨i0, o0, none⟩) := (hax h.1).trans a3
    have hpre := p2.pre (by rw [hk2]; simp)
    rw [hpre] at h
    have := stays_ok p2.rl (n := ny) rfl ky p2.s0 hv h.2
    simp only [pairOk, a1, ky.1, a4, this]
  · rename_i q hk1 hk2
    rw [hk1] at kx
    rw [hk2] at ky
    obtain ⟨a1, a2, i0, o0, a3, a4, a5⟩ := ky
    rw [Bool.or_eq_true] at h
    rcases h with h | h
    case inr =>
      have hprex := q2.pre (by rw [hk1]; simp)
      have hprey := p2.pre (by rw [hk2]; simp)
      unfold stayB at h
      split at h
      · rename_i t o s hq
        simp only [Bool.and_eq_true] at h
        obtain ⟨⟨h1, h2⟩, h3⟩ := h
        rw [hprex] at h2
        rw [hprey] at h3 hq
        have hat := hax h1
        cases p2.rl.cls_vpt a3 hq h3 with
        | box _ hw =>
          obtain ⟨⟨cs, e⟩, hbx⟩ := Option.isSome_iff_exists.1 h2
          obtain ⟨⟨cs', e'⟩, hby⟩ := Option.isSome_iff_exists.1 h3
          obtain ⟨_, i1, ver1, vs1, w1, v1, g1, _⟩ := q2.rl.boxOf hbx
          obtain ⟨_, i2, ver2, vs2, w2, v2, g2, _⟩ := p2.rl.boxOf hby
          rw [v1, v2] at hat
          cases hat
          rw [hw] at w2
          cases w2
          obtain ⟨k1, k2, k3⟩ := kx
          have hs := k2 i0 (q2.rl.lt g1) (fun k e => by have := q2.rl.inj _ _ _ e w1; cases this) (fun k c e => by have := q2.rl.inj _ _ _ e w1; cases this)
          simp only [pairOk, a1, k1, a4, sameVer, q2.s0, hs, g1, beqNat, decide_true]
      · cases h
    simp only [Bool.and_eq_true] at h
    have hv : nx.ax.ev q = .pointer (some ⟨i0, o0, none⟩) := (hax h.1).symm.trans a3
    have hpre := q2.pre (by rw [hk1]; simp)
    rw [hpre] at h
    have := stays_ok q2.rl (n := nx) rfl kx q2.s0 hv h.2
    simp only [pairOk, a1, kx.1, a4, this]
  · rename_i q hk1 hk2
    rw [hk1] at kx
    rw [hk2] at ky
    obtain ⟨a1, a2, i0, o0, a3, a4, a5⟩ := kx
    obtain ⟨b1, b2, b3⟩ := ky
    have : ny.s.next ≠ i0 := by subst q4; omega
    simp only [pairOk, a1, b1, a2, a4, b2, b3, apart, inList, beqNat, decide_eq_false this, Bool.and_self]
  · rename_i q q' hk1 hk2
    simp only [Bool.and_eq_true] at h
    rw [hk1] at kx
    rw [hk2] at ky
    obtain ⟨a1, a2, i0, o0, a3, a4, a5⟩ := kx
    obtain ⟨b1, i1, o1, b2, b3, b4⟩ := ky
    have hv : ny.ax.ev q = .pointer (some ⟨i0, o0, none⟩) := (hax h.1).trans a3
    have hpre := p2.pre (by rw [hk2]; simp)
    rw [hpre] at h
    have : i1 ≠ i0 := (sep_ok p2.rl hv b2 h.2).symm
    simp only [pairOk, a1, b1, a2, a4, b3, b4, apart, inList, beqNat, decide_eq_false this, Bool.and_self]
  · cases h
theorem pairs_ok {ax0 : Xe.Act} {s0 : AS} {l : List TRec} {rs : List Rec} (hc : Chn Pr ax0 s0 l rs) : ∀ ps : List (Nat × Nat), pairsOkT l ps = true → pairsOk rs ps = true
  | [], _ => rfl
  | (i, j) :: ps, h => by
    simp only [pairsOkT] at h
    split at h
    · rename_i x y hi hj
      split at h
      · rename_i hb
        simp only [Bool.and_eq_true] at hb
        have hlt := hb.1
        rw [bltNat] at hlt
        obtain ⟨rx, ry, k1, k2, k3⟩ := pair_ok hc hi hj (of_decide_eq_true hlt) hb.2
        simp only [pairsOk, k1, k2, k3]
        exact pairs_ok hc ps h
      · cases h
    · cases h
theorem kind_prim {op : XOp} {p : PR} (hp : xprim s.get s.next ax.ev op = some p) (dm : Dm s) (tr : TRec) (n : Snap) (hn : n.ax = ax) (hs : n.s = s) :
    KindOk tr ⟨false, touch s.get ax.ev op, p.δ.map (·.1), s, s.upd p.δ p.nx⟩ n (kindOf op) := by
  have hlt : ∀ {i x}, s.get i = some x → i < s.next := fun {i x} e => by
    by_cases h : i < s.next
    · exact h
    · rw [dm i (by omega)] at e; cases e
  cases op <;> simp only [kindOf] <;> first | trivial | skip
  case load1 q =>
    simp only [xprim] at hp
    split at hp
    · rename_i ad hq
      split at hp
      · rename_i v hl
        cases hp
        obtain ⟨b, o, sp⟩ := ad
        cases sp with
        | some _ => simp [loadList] at hl
        | none =>
          obtain ⟨x, hx⟩ := load_has hl
          exact ⟨rfl, rfl, b, o, by rw [hn]; exact hq, by simp only [touch, hq, idsV], by rw [hs]; exact hlt hx⟩
      · cases hp
    · cases hp
  case loadN m q =>
    simp only [xprim] at hp
    split at hp
    · rename_i ad hq
      split at hp
      · rename_i v hl
        cases hp
        obtain ⟨b, o, sp⟩ := ad
        cases sp with
        | some _ => simp [loadList] at hl
        | none =>
          obtain ⟨x, hx⟩ := load_has hl
          exact ⟨rfl, rfl, b, o, by rw [hn]; exact hq, by simp only [touch, hq, idsV], by rw [hs]; exact hlt hx⟩
      · cases hp
    · cases hp
  case store m q x =>
    simp only [xprim] at hp
    split at hp
    · rename_i ad hq
      split at hp
      · split at hp
        · rename_i δ hl
          cases hp
          obtain ⟨b, o, sp⟩ := ad
          cases sp with
          | some _ => simp [storeList] at hl
          | none =>
            simp only [storeList] at hl
            split at hl
            · split at hl
              · cases hl
                exact ⟨rfl, b, o, by rw [hn]; exact hq, by simp only [touch, hq, idsV], rfl⟩
              · cases hl
            · cases hl
        · cases hp
      · cases hp
    · cases hp
  all_goals
    refine ⟨rfl, rfl, ?_⟩
    simp only [xprim] at hp
    rw [hs]
    first
      | (cases hp; rfl)
      | (split at hp <;> first | (cases hp; rfl) | (cases hp; done) | (split at hp <;> first | (cases hp; rfl) | (cases hp; done) | (split at hp <;> first | (cases hp; rfl) | (cases hp; done))))
end
end Go.Xt
end
section
namespace Go.Xt
open Go Go.Xe
set_option linter.unusedVariables false
set_option linter.unusedSimpArgs false
section
variable {Pr : Nat → Prop} {μ μ' : List Nat} {w w' : Own} {a a' : TAct} {σ σ' : Sto} {ax ax' : Xe.Act} {s s' : AS}
theorem put_ne (d : Option Nat) (v : Value) (t : Nat) (h : d ≠ some t) : (ax.put d v).ev (.tmp t) = ax.ev (.tmp t) := by
  cases d with
  | none => rfl
  | some d => exact Act.ev_put_ne ax v (fun e => h (by rw [e]))
theorem call_kind {dst : Option Nat} (r : Rl Pr μ w a σ ax s) (k2 : Rl Pr μ' w' a' σ' ax s') (mu : ∃ ν, μ' = μ ++ ν) (k5 : ∀ i, i < s.next → (∀ k, w (.obj k) ≠ some i) → (∀ k c, w (.cell k c) ≠ some i) → s'.get i = s.get i) :
    KindOk ⟨.call, dst, a, σ, σ'⟩ ⟨true, [], [], s, s'⟩ ⟨μ, w, a, σ, ax, s⟩ .call := by
  refine ⟨rfl, k5, fun k i o o' hm h0 h1 => ?_⟩
  obtain ⟨i1, b1, p1, p2, p3⟩ := r.obj k o h0
  obtain ⟨i2, b2, q1, q2, q3⟩ := k2.obj k o' h1
  have hm : μ[k]? = some i := hm
  rw [hm] at p1; cases p1
  obtain ⟨ν, rfl⟩ := mu
  rw [List.getElem?_append_left (List.getElem?_eq_some_iff.1 hm).1, hm] at q1; cases q1
  exact ⟨⟨b1, p2⟩, b2, q2⟩
theorem topsD_sound {C : TCallee} {X : Xe.Callee} (hC : CallOk C X) {an : Ann} {b : Nat} : ∀ (ops : List XOper) {Pr : Nat → Prop} {μ : List Nat} {w : Own} {a : TAct} {σ : Sto} {ax : Xe.Act} {s : AS} {lt lt' : List TRec} {lr : List Rec} {a' : TAct} {σ' : Sto},
    topsD an b C ops a σ lt = some (a', σ', lt') → Rl Pr μ w a σ ax s → (∀ i, Pr i → i < s.next) → ∃ ax' s' μ' w' tl rl, xopsD X ops ax s lr = some (ax', s', lr.reverse ++ rl) ∧ lt' = lt.reverse ++ tl ∧ Chn Pr ax s tl rl ∧ Rl Pr μ' w' a' σ' ax' s' ∧ After w w' μ μ' s s'
  | [], Pr, μ, w, a, σ, ax, s, lt, lt', lr, a', σ', h, r, hP => by
    simp only [topsD] at h
    cases h
    exact ⟨ax, s, μ, w, [], [], by simp [xopsD], by simp, .nil ax s, r, After.refl _ _ _⟩
  | ⟨dst, op, guard⟩ :: ops, Pr, μ, w, a, σ, ax, s, lt, lt', lr, a', σ', h, r, hP => by
    have ih := @topsD_sound C X hC an b ops
    have fin : ∀ {tr : TRec} {rc : Rec} {n : Snap} {ax1 : Xe.Act} {s1 : AS} {μ1 : List Nat} {w1 : Own} {a1 : TAct} {σ1 : Sto}, n.ax = ax → n.s = s → Good Pr tr rc n ax1 s1 → topsD an b C ops a1 σ1 (tr :: lt) = some (a', σ', lt') → Rl Pr μ1 w1 a1 σ1 ax1 s1 → After w w1 μ μ1 s s1 →
        ∃ ax' s' μ' w' tl rl, xopsD X ops ax1 s1 (rc :: lr) = some (ax', s', lr.reverse ++ rl) ∧ lt' = lt.reverse ++ tl ∧ Chn Pr ax s tl rl ∧ Rl Pr μ' w' a' σ' ax' s' ∧ After w w' μ μ' s s' := by
      intro tr rc n ax1 s1 μ1 w1 a1 σ1 hn hs hg hd hr haf
      obtain ⟨ax', s', μ', w', tl, rl, q1, q2, q3, q4, q5⟩ := ih (lr := rc :: lr) hd hr (haf.hP hP)
      refine ⟨ax', s', μ', w', tr :: tl, rc :: rl, by rw [q1]; simp, by rw [q2]; simp, ?_, q4, haf.trans q5⟩
      have := Chn.cons hg q3
      rwa [hn, hs] at this
    rw [topsD] at h
    rw [xopsD]
    cases hg : wantedT a guard with
    | none => simp only [hg] at h; cases h
    | some c =>
      have hw := r.wanted hg
      cases c with
      | false =>
        simp only [hg] at h
        simp only [hw]
        obtain ⟨w1, r1, h1⟩ := r.putD dst (undef_rv _ _)
        exact fin (tr := ⟨.no, dst, a, σ, σ⟩) (n := ⟨μ, w, a, σ, ax, s⟩) rfl rfl ⟨r, fun _ => rfl, rfl, Nat.le_refl _, fun t ht => put_ne dst _ t ht, rfl, rfl, rfl⟩ h r1 h1
      | true =>
        simp only [hg] at h
        simp only [hw]
        cases op
        case call f args =>
          simp only at h ⊢
          split at h
          · rename_i vs hgv
            split at h
            · rename_i v σ1 hc
              obtain ⟨w1, r1, hsub⟩ := r.frzs args
              obtain ⟨e', s', μ', w', k1, k2, k3, k4, k5⟩ := r1.call hC hP hc (gives_rel r1 rfl args (fun x hx => hx) hgv)
              cases e' with
              | panic v' => exact k4.elim
              | ret v' =>
                simp only [k1]
                obtain ⟨w2, r2, h2⟩ := k2.putD dst k4
                exact fin (n := ⟨μ, w1, frzs a args, σ, ax, s⟩) rfl rfl ⟨r1, fun _ => rfl, rfl, k3.le, fun t ht => put_ne dst _ t ht, call_kind r1 k2 k3.mu k5⟩ h r2 ((k3.sub hsub).trans h2)
            · cases h
          · cases h
        case callV x args =>
          simp only at h ⊢
          split at h
          · rename_i vs hgv
            split at h
            · rename_i f l ht
              split at h
              · rename_i v σ1 hc
                obtain ⟨w1, r1, hsub⟩ := r.frzs args
                have hx : pl (a.ev x) = true → RV s.get μ (Zo w1 Pr) (a.ev x) (ax.ev x) := fun h => (r.plain h).mono (Mo.sub hsub)
                obtain ⟨l', t1, t2⟩ := target_rel hx (gives_rel r1 rfl args (fun x hx => hx) hgv) ht
                obtain ⟨e', s', μ', w', k1, k2, k3, k4, k5⟩ := r1.call hC hP hc t2
                cases e' with
                | panic v' => exact k4.elim
                | ret v' =>
                  simp only [t1, k1]
                  obtain ⟨w2, r2, h2⟩ := k2.putD dst k4
                  exact fin (n := ⟨μ, w1, frzs a args, σ, ax, s⟩) rfl rfl ⟨r1, fun _ => rfl, rfl, k3.le, fun t ht => put_ne dst _ t ht, call_kind r1 k2 k3.mu k5⟩ h r2 ((k3.sub hsub).trans h2)
              · cases h
            · cases h
          · cases h
        all_goals
          simp only at h ⊢
          split at h
          · rename_i v a1 σ1 hd
            obtain ⟨p, k1, μ1, w1, k2, k3⟩ := tdo_sound _ _ dst _ hd r hP
            simp only [k1]
            exact fin (n := ⟨μ, w, a, σ, ax, s⟩) rfl rfl ⟨r, fun _ => rfl, rfl, k3.le, fun t ht => put_ne dst _ t ht, kind_prim k1 r.dm _ _ rfl rfl⟩ h k2 k3
          · cases h
end
end Go.Xt
end
section
namespace Go.Xt
open Go Go.Xe
set_option linter.unusedVariables false
set_option linter.unusedSimpArgs false
section
variable {Pr : Nat → Prop} {μ μ' : List Nat} {w w' : Own} {a a' : TAct} {σ σ' : Sto} {ax ax' : Xe.Act} {s s' : AS}
def BodyOk (t : TAct → Sto → Option (TEx × TAct × Sto)) (x : Xe.Act → AS → Option (Xe.Ex × Xe.Act × AS)) : Prop :=
  ∀ (Pr : Nat → Prop) (μ : List Nat) (w : Own) (a : TAct) (σ : Sto) (ax : Xe.Act) (s : AS) (e : TEx) (a' : TAct) (σ' : Sto), t a σ = some (e, a', σ') → Rl Pr μ w a σ ax s → (∀ i, Pr i → i < s.next) → Res Pr μ w s e a' σ' (x ax s)
theorem tloop_sound {t : TAct → Sto → Option (TEx × TAct × Sto)} {x : Xe.Act → AS → Option (Xe.Ex × Xe.Act × AS)} (hb : BodyOk t x) : ∀ n, BodyOk (tloop t n) (xloop x n)
  | 0, Pr, μ, w, a, σ, ax, s, e, a', σ', h, r, hP => by simp only [tloop] at h; cases h
  | n + 1, Pr, μ, w, a, σ, ax, s, e, a', σ', h, r, hP => by
    simp only [tloop] at h
    simp only [xloop]
    cases ht : t a σ with
    | none => rw [ht] at h; cases h
    | some p =>
      obtain ⟨e1, a1, σ1⟩ := p
      rw [ht] at h
      obtain ⟨e', ax1, s1, μ1, w1, k1, k2, k3, k4⟩ := hb Pr μ w a σ ax s e1 a1 σ1 ht r hP
      rw [k1]
      cases e1 with
      | normal =>
        cases e' <;> first | (exact k4.elim) | skip
        exact (tloop_sound hb n Pr μ1 w1 a1 σ1 ax1 s1 e a' σ' h k2 (k3.hP hP)).after k3
      | exit k =>
        cases h
        cases e' <;> first | (exact k4.elim) | skip
        exact ⟨_, ax1, s1, μ1, w1, rfl, k2, k3, k4⟩
      | ret =>
        cases h
        cases e' <;> first | (exact k4.elim) | skip
        exact ⟨_, ax1, s1, μ1, w1, rfl, k2, k3, k4⟩
      | panic v =>
        cases h
        cases e' <;> first | (exact k4.elim) | skip
        exact ⟨_, ax1, s1, μ1, w1, rfl, k2, k3, k4⟩
theorem tcode_sound {C : TCallee} {X : Xe.Callee} (hC : CallOk C X) {an : Ann} {b n : Nat} : ∀ c : XCode, BodyOk (tcode an b C n c) (xcode X n c)
  | .skip, Pr, μ, w, a, σ, ax, s, e, a', σ', h, r, hP => by
    simp only [tcode] at h; cases h
    exact ⟨.normal, ax, s, μ, w, rfl, r, After.refl _ _ _, trivial⟩
  | .exit id, Pr, μ, w, a, σ, ax, s, e, a', σ', h, r, hP => by
    simp only [tcode] at h; cases h
    exact ⟨.exit id, ax, s, μ, w, rfl, r, After.refl _ _ _, rfl⟩
  | .ret, Pr, μ, w, a, σ, ax, s, e, a', σ', h, r, hP => by
    simp only [tcode] at h; cases h
    exact ⟨.ret, ax, s, μ, w, rfl, r, After.refl _ _ _, trivial⟩
  | .region ops, Pr, μ, w, a, σ, ax, s, e, a', σ', h, r, hP => by
    simp only [tcode] at h
    simp only [xcode]
    exact tops_sound hC ops h r hP
  | .regionD ops ps, Pr, μ, w, a, σ, ax, s, e, a', σ', h, r, hP => by
    simp only [tcode] at h
    simp only [xcode]
    split at h
    · rename_i a1 σ1 l hd
      split at h
      · rename_i hp
        cases h
        obtain ⟨ax', s', μ', w', tl, rl, q1, q2, q3, q4, q5⟩ := topsD_sound hC ops (lr := []) hd r hP
        simp only [List.reverse_nil, List.nil_append] at q1 q2
        subst q2
        simp only [q1, pairs_ok q3 ps hp]
        exact ⟨.normal, ax', s', μ', w', rfl, q4, q5, trivial⟩
      · cases h
    · cases h
  | .seq x y, Pr, μ, w, a, σ, ax, s, e, a', σ', h, r, hP => by
    have h1 := tcode_sound hC (an := an) (b := b) (n := n) x
    have h2 := tcode_sound hC (an := an) (b := b) (n := n) y
    simp only [tcode] at h
    simp only [xcode]
    cases ht : tcode an b C n x a σ with
    | none => rw [ht] at h; cases h
    | some p =>
      obtain ⟨e1, a1, σ1⟩ := p
      rw [ht] at h
      obtain ⟨e', ax1, s1, μ1, w1, k1, k2, k3, k4⟩ := h1 Pr μ w a σ ax s e1 a1 σ1 ht r hP
      rw [k1]
      cases e1 with
      | normal =>
        cases e' <;> first | (exact k4.elim) | skip
        exact (h2 Pr μ1 w1 a1 σ1 ax1 s1 e a' σ' h k2 (k3.hP hP)).after k3
      | exit k =>
        cases h
        cases e' <;> first | (exact k4.elim) | skip
        exact ⟨_, ax1, s1, μ1, w1, rfl, k2, k3, k4⟩
      | ret =>
        cases h
        cases e' <;> first | (exact k4.elim) | skip
        exact ⟨_, ax1, s1, μ1, w1, rfl, k2, k3, k4⟩
      | panic v =>
        cases h
        cases e' <;> first | (exact k4.elim) | skip
        exact ⟨_, ax1, s1, μ1, w1, rfl, k2, k3, k4⟩
  | .cond c x y, Pr, μ, w, a, σ, ax, s, e, a', σ', h, r, hP => by
    have h1 := tcode_sound hC (an := an) (b := b) (n := n) x
    have h2 := tcode_sound hC (an := an) (b := b) (n := n) y
    simp only [tcode] at h
    simp only [xcode]
    split at h
    · rename_i hc
      have := r.plainOf hc rfl
      revert this; generalize ax.ev c = z; intro this; cases this
      exact h1 Pr μ w a σ ax s e a' σ' h r hP
    · rename_i hc
      have := r.plainOf hc rfl
      revert this; generalize ax.ev c = z; intro this; cases this
      exact h2 Pr μ w a σ ax s e a' σ' h r hP
    · cases h
  | .block id c, Pr, μ, w, a, σ, ax, s, e, a', σ', h, r, hP => by
    have h1 := tcode_sound hC (an := an) (b := b) (n := n) c
    simp only [tcode] at h
    simp only [xcode]
    cases ht : tcode an b C n c a σ with
    | none => rw [ht] at h; cases h
    | some p =>
      obtain ⟨e1, a1, σ1⟩ := p
      rw [ht] at h
      obtain ⟨e', ax1, s1, μ1, w1, k1, k2, k3, k4⟩ := h1 Pr μ w a σ ax s e1 a1 σ1 ht r hP
      rw [k1]
      cases e1 with
      | normal =>
        cases h
        cases e' <;> first | (exact k4.elim) | skip
        exact ⟨_, ax1, s1, μ1, w1, rfl, k2, k3, k4⟩
      | exit k =>
        cases e' <;> first | (exact k4.elim) | skip
        have k4 : _ = k := k4
        subst k4
        simp only at h ⊢
        split at h
        · rename_i hb
          cases h
          simp only [hb]
          exact ⟨.normal, ax1, s1, μ1, w1, rfl, k2, k3, trivial⟩
        · rename_i hb
          cases h
          simp only [hb]
          exact ⟨_, ax1, s1, μ1, w1, rfl, k2, k3, rfl⟩
      | ret =>
        cases h
        cases e' <;> first | (exact k4.elim) | skip
        exact ⟨_, ax1, s1, μ1, w1, rfl, k2, k3, k4⟩
      | panic v =>
        cases h
        cases e' <;> first | (exact k4.elim) | skip
        exact ⟨_, ax1, s1, μ1, w1, rfl, k2, k3, k4⟩
  | .loop c, Pr, μ, w, a, σ, ax, s, e, a', σ', h, r, hP => by
    have h1 := tcode_sound hC (an := an) (b := b) (n := n) c
    simp only [tcode] at h
    simp only [xcode]
    exact tloop_sound h1 n Pr μ w a σ ax s e a' σ' h r hP
def RMd (g : Hp) (μ : List Nat) (Z : Nat → Prop) : TMode → Xe.Mode → Prop
  | .ret, .ret => True
  | .panicking v, .panicking v' => RV g μ Z v v'
  | .recovered, .recovered => True
  | _, _ => False
theorem RMd.mono {g g' : Hp} {Z Z' : Nat → Prop} (mo : Mo g μ Z g' μ' Z') : ∀ {m : TMode} {m' : Xe.Mode}, RMd g μ Z m m' → RMd g' μ' Z' m m'
  | .ret, .ret, _ => trivial
  | .panicking _, .panicking _, h => RV.mono mo h
  | .recovered, .recovered, _ => trivial
  | .ret, .panicking _, h => h.elim
  | .ret, .recovered, h => h.elim
  | .panicking _, .ret, h => h.elim
  | .panicking _, .recovered, h => h.elim
  | .recovered, .ret, h => h.elim
  | .recovered, .panicking _, h => h.elim
def ResR (Pr : Nat → Prop) (μ : List Nat) (w : Own) (s : AS) (e : TEx) (a : TAct) (σ : Sto) (m : TMode) (x : Option (Xe.Ex × Xe.Act × AS × Xe.Mode)) : Prop :=
  ∃ e' ax s' μ' w' m', x = some (e', ax, s', m') ∧ Rl Pr μ' w' a σ ax s' ∧ After w w' μ μ' s s' ∧ REx s'.get μ' (Zo w' Pr) e e' ∧ RMd s'.get μ' (Zo w' Pr) m m'
theorem ResR.after {w1 : Own} {μ1 : List Nat} {s1 : AS} {e : TEx} {m : TMode} {x : Option (Xe.Ex × Xe.Act × AS × Xe.Mode)} (h : After w w1 μ μ1 s s1) (k : ResR Pr μ1 w1 s1 e a σ m x) : ResR Pr μ w s e a σ m x := by
  obtain ⟨e', ax, s', μ', w', m', k1, k2, k3, k4⟩ := k
  exact ⟨e', ax, s', μ', w', m', k1, k2, h.trans k3, k4⟩
theorem xopsR_other {X : Xe.Callee} {dst : Option Nat} {op : XOp} {guard : Option (Nat × Bool)} {ops : List XOper} {m : Xe.Mode} (hw : wantedX ax guard = true) (h : op ≠ .recover) : xopsR X (⟨dst, op, guard⟩ :: ops) ax s m = (match xops X [⟨dst, op, guard⟩] ax s with
        | some (.normal, a, s) => xopsR X ops a s m
        | some (e, a, s) => some (e, a, s, m)
        | none => none) := by
  rw [xopsR.eq_def]
  simp only [hw]
  cases op <;> first | rfl | exact absurd rfl h
theorem topsR_sound {C : TCallee} {X : Xe.Callee} (hC : CallOk C X) {an : Ann} {b : Nat} : ∀ (ops : List XOper) {Pr : Nat → Prop} {μ : List Nat} {w : Own} {a : TAct} {σ : Sto} {ax : Xe.Act} {s : AS} {m : TMode} {mx : Xe.Mode} {e : TEx} {a' : TAct} {σ' : Sto} {m' : TMode},
    topsR an b C ops a σ m = some (e, a', σ', m') → Rl Pr μ w a σ ax s → (∀ i, Pr i → i < s.next) → RMd s.get μ (Zo w Pr) m mx → ResR Pr μ w s e a' σ' m' (xopsR X ops ax s mx)
  | [], Pr, μ, w, a, σ, ax, s, m, mx, e, a', σ', m', h, r, hP, hm => by
    simp only [topsR] at h
    cases h
    exact ⟨.normal, ax, s, μ, w, mx, rfl, r, After.refl _ _ _, trivial, hm⟩
  | ⟨dst, op, guard⟩ :: ops, Pr, μ, w, a, σ, ax, s, m, mx, e, a', σ', m', h, r, hP, hm => by
    have ih := @topsR_sound C X hC an b ops
    rw [topsR.eq_def] at h
    cases hg : wantedT a guard with
    | none => simp only [hg] at h; cases h
    | some c =>
      have hw := r.wanted hg
      cases c with
      | false =>
        rw [xopsR.eq_def]
        simp only [hg] at h
        simp only [hw]
        obtain ⟨w1, r1, h1⟩ := r.putD dst (undef_rv _ _)
        exact (ih h r1 (h1.hP hP) (hm.mono (h1.mo r.dm))).after h1
      | true =>
        simp only [hg] at h
        have other : op ≠ .recover → (match tops an b C [⟨dst, op, guard⟩] a σ with
            | some (.normal, a, σ) => topsR an b C ops a σ m
            | some (e, a, σ) => some (e, a, σ, m)
            | none => none) = some (e, a', σ', m') → ResR Pr μ w s e a' σ' m' (xopsR X (⟨dst, op, guard⟩ :: ops) ax s mx) := by
          intro hne h
          rw [xopsR_other hw hne]
          cases ht : tops an b C [⟨dst, op, guard⟩] a σ with
          | none => rw [ht] at h; cases h
          | some p =>
            obtain ⟨e1, a1, σ1⟩ := p
            rw [ht] at h
            obtain ⟨e', ax1, s1, μ1, w1, k1, k2, k3, k4⟩ := tops_sound hC _ ht r hP
            rw [k1]
            have hm1 := hm.mono (k3.mo r.dm)
            cases e1 with
            | normal =>
              cases e' <;> first | (exact k4.elim) | skip
              exact (ih h k2 (k3.hP hP) hm1).after k3
            | exit k =>
              cases h
              cases e' <;> first | (exact k4.elim) | skip
              exact ⟨_, ax1, s1, μ1, w1, mx, rfl, k2, k3, k4, hm1⟩
            | ret =>
              cases h
              cases e' <;> first | (exact k4.elim) | skip
              exact ⟨_, ax1, s1, μ1, w1, mx, rfl, k2, k3, k4, hm1⟩
            | panic v =>
              cases h
              cases e' <;> first | (exact k4.elim) | skip
              exact ⟨_, ax1, s1, μ1, w1, mx, rfl, k2, k3, k4, hm1⟩
        cases op
        case recover =>
          rw [xopsR.eq_def]
          simp only [hw]
          cases m with
          | panicking v =>
            cases mx <;> first | (exact hm.elim) | skip
            simp only at h ⊢
            obtain ⟨w1, r1, h1⟩ := r.putD dst (show RV s.get μ (Zo w Pr) v _ from hm)
            exact (ih (mx := .recovered) h r1 (h1.hP hP) trivial).after h1
          | ret =>
            cases mx <;> first | (exact hm.elim) | skip
            simp only at h ⊢
            obtain ⟨w1, r1, h1⟩ := r.putD dst (tv := .nili) (v := .nilIface) .nili
            exact (ih (mx := .ret) h r1 (h1.hP hP) trivial).after h1
          | recovered =>
            cases mx <;> first | (exact hm.elim) | skip
            simp only at h ⊢
            obtain ⟨w1, r1, h1⟩ := r.putD dst (tv := .nili) (v := .nilIface) .nili
            exact (ih (mx := .recovered) h r1 (h1.hP hP) trivial).after h1
        all_goals exact other (by simp) h
theorem tcodeR_sound {C : TCallee} {X : Xe.Callee} (hC : CallOk C X) {an : Ann} {b n : Nat} : ∀ (c : XCode) {Pr : Nat → Prop} {μ : List Nat} {w : Own} {a : TAct} {σ : Sto} {ax : Xe.Act} {s : AS} {m : TMode} {mx : Xe.Mode} {e : TEx} {a' : TAct} {σ' : Sto} {m' : TMode},
    tcodeR an b C n c a σ m = some (e, a', σ', m') → Rl Pr μ w a σ ax s → (∀ i, Pr i → i < s.next) → RMd s.get μ (Zo w Pr) m mx → ResR Pr μ w s e a' σ' m' (xcodeR X n c ax s mx) := by
  intro c
  have other : ∀ (c : XCode), (∀ Pr μ w a σ ax s m mx e a' σ' m', (match tcode an b C n c a σ with | some (e, a, σ) => some (e, a, σ, m) | none => none) = some (e, a', σ', m') → Rl Pr μ w a σ ax s → (∀ i, Pr i → i < s.next) → RMd s.get μ (Zo w Pr) m mx →
      ResR Pr μ w s e a' σ' m' (match xcode X n c ax s with | some (e, a, s) => some (e, a, s, mx) | none => none)) := by
    intro c Pr μ w a σ ax s m mx e a' σ' m' h r hP hm
    split at h
    · rename_i e1 a1 σ1 ht
      cases h
      obtain ⟨e', ax1, s1, μ1, w1, k1, k2, k3, k4⟩ := tcode_sound hC c Pr μ w a σ ax s _ _ _ ht r hP
      rw [k1]
      exact ⟨e', ax1, s1, μ1, w1, mx, rfl, k2, k3, k4, hm.mono (k3.mo r.dm)⟩
    · cases h
  induction c with
  | skip => intro Pr μ w a σ ax s m mx e a' σ' m' h r hP hm; rw [tcodeR.eq_def] at h; rw [xcodeR.eq_def]; simp only at h ⊢; exact other .skip _ _ _ _ _ _ _ _ _ _ _ _ _ h r hP hm
  | exit id => intro Pr μ w a σ ax s m mx e a' σ' m' h r hP hm; rw [tcodeR.eq_def] at h; rw [xcodeR.eq_def]; simp only at h ⊢; exact other (.exit id) _ _ _ _ _ _ _ _ _ _ _ _ _ h r hP hm
  | ret => intro Pr μ w a σ ax s m mx e a' σ' m' h r hP hm; rw [tcodeR.eq_def] at h; rw [xcodeR.eq_def]; simp only at h ⊢; exact other .ret _ _ _ _ _ _ _ _ _ _ _ _ _ h r hP hm
  | loop c ih => intro Pr μ w a σ ax s m mx e a' σ' m' h r hP hm; rw [tcodeR.eq_def] at h; rw [xcodeR.eq_def]; simp only at h ⊢; exact other (.loop c) _ _ _ _ _ _ _ _ _ _ _ _ _ h r hP hm
  | regionD ops ps => intro Pr μ w a σ ax s m mx e a' σ' m' h r hP hm; rw [tcodeR.eq_def] at h; rw [xcodeR.eq_def]; simp only at h ⊢; exact other (.regionD ops ps) _ _ _ _ _ _ _ _ _ _ _ _ _ h r hP hm
  | region ops =>
    intro Pr μ w a σ ax s m mx e a' σ' m' h r hP hm
    rw [tcodeR.eq_def] at h; rw [xcodeR.eq_def]; simp only at h ⊢
    exact topsR_sound hC ops h r hP hm
  | seq x y ihx ihy =>
    intro Pr μ w a σ ax s m mx e a' σ' m' h r hP hm
    rw [tcodeR.eq_def] at h; rw [xcodeR.eq_def]; simp only at h ⊢
    cases ht : tcodeR an b C n x a σ m with
    | none => rw [ht] at h; cases h
    | some p =>
      obtain ⟨e1, a1, σ1, m1⟩ := p
      rw [ht] at h
      obtain ⟨e', ax1, s1, μ1, w1, mx1, k1, k2, k3, k4, k5⟩ := ihx ht r hP hm
      rw [k1]
      cases e1 with
      | normal =>
        cases e' <;> first | (exact k4.elim) | skip
        exact (ihy h k2 (k3.hP hP) k5).after k3
      | exit k =>
        cases h
        cases e' <;> first | (exact k4.elim) | skip
        exact ⟨_, ax1, s1, μ1, w1, mx1, rfl, k2, k3, k4, k5⟩
      | ret =>
        cases h
        cases e' <;> first | (exact k4.elim) | skip
        exact ⟨_, ax1, s1, μ1, w1, mx1, rfl, k2, k3, k4, k5⟩
      | panic v =>
        cases h
        cases e' <;> first | (exact k4.elim) | skip
        exact ⟨_, ax1, s1, μ1, w1, mx1, rfl, k2, k3, k4, k5⟩
  | cond c x y ihx ihy =>
    intro Pr μ w a σ ax s m mx e a' σ' m' h r hP hm
    rw [tcodeR.eq_def] at h; rw [xcodeR.eq_def]; simp only at h ⊢
    split at h
    · rename_i hc
      have := r.plainOf hc rfl
      revert this; generalize ax.ev c = z; intro this; cases this
      exact ihx h r hP hm
    · rename_i hc
      have := r.plainOf hc rfl
      revert this; generalize ax.ev c = z; intro this; cases this
      exact ihy h r hP hm
    · cases h
  | block id c ih =>
    intro Pr μ w a σ ax s m mx e a' σ' m' h r hP hm
    rw [tcodeR.eq_def] at h; rw [xcodeR.eq_def]; simp only at h ⊢
    cases ht : tcodeR an b C n c a σ m with
    | none => rw [ht] at h; cases h
    | some p =>
      obtain ⟨e1, a1, σ1, m1⟩ := p
      rw [ht] at h
      obtain ⟨e', ax1, s1, μ1, w1, mx1, k1, k2, k3, k4, k5⟩ := ih ht r hP hm
      rw [k1]
      cases e1 with
      | normal =>
        cases h
        cases e' <;> first | (exact k4.elim) | skip
        exact ⟨_, ax1, s1, μ1, w1, mx1, rfl, k2, k3, k4, k5⟩
      | exit k =>
        cases e' <;> first | (exact k4.elim) | skip
        have k4 : _ = k := k4
        subst k4
        simp only at h ⊢
        split at h
        · rename_i hb
          cases h
          simp only [hb]
          exact ⟨.normal, ax1, s1, μ1, w1, mx1, rfl, k2, k3, trivial, k5⟩
        · rename_i hb
          cases h
          simp only [hb]
          exact ⟨_, ax1, s1, μ1, w1, mx1, rfl, k2, k3, rfl, k5⟩
      | ret =>
        cases h
        cases e' <;> first | (exact k4.elim) | skip
        exact ⟨_, ax1, s1, μ1, w1, mx1, rfl, k2, k3, k4, k5⟩
      | panic v =>
        cases h
        cases e' <;> first | (exact k4.elim) | skip
        exact ⟨_, ax1, s1, μ1, w1, mx1, rfl, k2, k3, k4, k5⟩
end
end Go.Xt
end
section
namespace Go.Xt
open Go Go.Xe
set_option linter.unusedVariables false
set_option linter.unusedSimpArgs false
theorem belows_iff {k : Nat} : ∀ {l : List TV}, below.belows k l = true ↔ ∀ v ∈ l, below k v = true
  | [] => by simp [below.belows]
  | v :: l => by simp [below.belows, belows_iff (l := l)]
theorem belowss_iff {k : Nat} : ∀ {l : List (List TV)}, below.belowss k l = true ↔ ∀ c ∈ l, below.belows k c = true
  | [] => by simp [below.belowss]
  | v :: l => by simp [below.belowss, belowss_iff (l := l)]
mutual
theorem below0 (k : Nat) : ∀ v : TV, below 0 v = true → below k v = true
  | .ptr i o, h => by simp [below, bltNat] at h
  | .ref i _ _ _ _, h => by simp [below, bltNat] at h
  | .map i, h => by simp [below, bltNat] at h
  | .elt ch _, h => by simp only [below] at h ⊢; exact belows0 k ch h
  | .sl _ chs, h => by simp only [below] at h ⊢; exact belowss0 k chs h
  | .func _ x y, h => by simp only [below, Bool.and_eq_true] at h ⊢; exact ⟨belows0 k x h.1, belows0 k y h.2⟩
  | .iface _ v, h => by simp only [below] at h ⊢; exact below0 k v h
  | .agg l, h => by simp only [below] at h ⊢; exact belows0 k l h
  | .tuple l, h => by simp only [below] at h ⊢; exact belows0 k l h
  | .int _ _, _ => rfl
  | .bool _, _ => rfl
  | .str _, _ => rfl
  | .nilp, _ => rfl
  | .via _ _, _ => rfl
  | .vel _ _ _ _, _ => rfl
  | .bx _ _ _, _ => rfl
  | .vpt _ _ _, _ => rfl
  | .nilm, _ => rfl
  | .nilf, _ => rfl
  | .nili, _ => rfl
  | .dead, _ => rfl
theorem belows0 (k : Nat) : ∀ l : List TV, below.belows 0 l = true → below.belows k l = true
  | [], _ => rfl
  | v :: l, h => by
    simp only [below.belows, Bool.and_eq_true] at h ⊢
    exact ⟨below0 k v h.1, belows0 k l h.2⟩
theorem belowss0 (k : Nat) : ∀ l : List (List TV), below.belowss 0 l = true → below.belowss k l = true
  | [], _ => rfl
  | v :: l, h => by
    simp only [below.belowss, Bool.and_eq_true] at h ⊢
    exact ⟨belows0 k v h.1, belowss0 k l h.2⟩
end
theorem below_frz (k : Nat) (v : TV) : below k (frz v) = below k v := by
  cases v <;> first | rfl | skip
  rename_i m c; cases m <;> rfl
def belowO (k : Nat) (o : TObj) : Bool :=
  match o.body with
  | .cells vs _ => below.belows k vs
  | .map es _ => es.all fun e => below k e.1 && below k e.2.1
  | .iter _ _ => true
structure Inv (k : Nat) (σ : Sto) : Prop where
  le : k ≤ σ.length
  obj : ∀ k' o, k' < k → σ.at k' = some o → belowO k o = true
section
variable {a a' : TAct} {σ σ' : Sto} {k b : Nat}
theorem Sto.at_set (σ : Sto) (i : Nat) (o : TObj) (j : Nat) (x : TObj) (h : Sto.at (σ.set i (some o)) j = some x) : (j = i ∧ x = o) ∨ σ.at j = some x := by
  unfold Sto.at at h ⊢
  rw [List.getElem?_set] at h
  by_cases e : i = j
  · subst e
    rw [if_pos rfl] at h
    split at h
    · rename_i y hy
      split at hy
      · cases hy; cases h; exact .inl ⟨rfl, rfl⟩
      · cases hy
    · cases h
  · rw [if_neg e] at h; exact .inr h
theorem Sto.at_app (σ : Sto) (o : TObj) (j : Nat) (x : TObj) (h : Sto.at (σ ++ [some o]) j = some x) : j = σ.length ∨ σ.at j = some x := by
  by_cases hj : j < σ.length
  · right; unfold Sto.at at h ⊢; rwa [List.getElem?_append_left hj] at h
  · left
    unfold Sto.at at h
    split at h
    · rename_i y hy
      have := (List.getElem?_eq_some_iff.1 hy).1
      simp at this; omega
    · cases h
theorem Inv.set (h : Inv k σ) (i : Nat) (o : TObj) (ho : i < k → belowO k o = true) : Inv k (σ.set i (some o)) :=
  ⟨by simp; exact h.le, fun k' x hk e => by
    rcases Sto.at_set σ i o k' x e with ⟨rfl, rfl⟩ | e
    · exact ho hk
    · exact h.obj k' x hk e⟩
theorem Inv.app (h : Inv k σ) (o : TObj) : Inv k (σ ++ [some o]) :=
  ⟨by simp; have := h.le; omega, fun k' x hk e => by
    rcases Sto.at_app σ o k' x e with rfl | e
    · have := h.le; omega
    · exact h.obj k' x hk e⟩
theorem belows_put {vs l : List TV} {o : Nat} (h : below.belows k vs = true) (hl : below.belows k l = true) : below.belows k (putAt vs o l) = true := by
  rw [belows_iff] at h hl ⊢
  intro v hv
  unfold putAt at hv
  rcases List.mem_append.1 hv with hv | hv
  · rcases List.mem_append.1 hv with hv | hv
    · exact h v (List.mem_of_mem_take hv)
    · exact hl v hv
  · exact h v (List.mem_of_mem_drop hv)
theorem belows_set {vs : List TV} {o : Nat} {v : TV} (h : below.belows k vs = true) (hl : below k v = true) : below.belows k (vs.set o v) = true := by
  rw [belows_iff] at h ⊢
  intro x hx
  rcases List.mem_or_eq_of_mem_set hx with hx | rfl
  · exact h x hx
  · exact hl
theorem belows_sub {vs l : List TV} (h : below.belows k vs = true) (hs : ∀ x ∈ l, x ∈ vs) : below.belows k l = true := by
  rw [belows_iff] at h ⊢
  exact fun x hx => h x (hs x hx)
theorem belows_frz {l : List TV} (h : below.belows k l = true) : below.belows k (l.map frz) = true := by
  rw [belows_iff] at h ⊢
  intro x hx
  obtain ⟨y, hy, rfl⟩ := List.mem_map.1 hx
  rw [below_frz]; exact h y hy
theorem base_below {i : Nat} {l : List TV} (h : baseOk b i l = true) (hk : i < k) (hb : k ≤ b) : below.belows k l = true := by
  unfold baseOk at h
  rw [bleNat, decide_eq_false (show ¬ b ≤ i by omega)] at h
  exact belows0 k l h
theorem Inv.del (h : Inv k σ) (i : Nat) : Inv k (σ.set i none) :=
  ⟨by simp; exact h.le, fun k' x hk e => h.obj k' x hk (by
    unfold Sto.at at e ⊢
    rw [List.getElem?_set] at e
    by_cases hi : i = k'
    · rw [if_pos hi] at e; split at e
      · rename_i y hy; split at hy <;> cases hy
      · cases e
    · rw [if_neg hi] at e; exact e)⟩
theorem plSet_inv (h : Inv k σ) {f : TV → TV} {p : Pl} (hf : ∀ i o v vs ver e, p = .cell i o → i < k → σ.at i = some ⟨ver, .cells vs e⟩ → vs[o]? = some v → below k v = true → below k (f v) = true) : Inv k (plSet a σ f p).2 := by
  cases p with
  | tmp t => exact h
  | tcell t o s =>
    simp only [plSet]
    split
    · split <;> exact h
    · exact h
  | cell i o =>
    simp only [plSet]
    split
    · rename_i ver vs e hat
      split
      · rename_i v hv
        refine h.set _ _ fun hk => ?_
        have := h.obj i _ hk hat
        simp only [belowO] at this ⊢
        exact belows_set this (hf i o v vs ver e rfl hk hat hv (belows_iff.1 this v (List.mem_of_getElem? hv)))
      · exact h
    · exact h
theorem tdo_inv {md : Nat} {op : XOp} {v : TV} (h : tdo md b a σ op = some (v, a', σ')) (hb : k ≤ b) (hi : Inv k σ) : Inv k σ' := by
  cases op <;> simp only [tdo, tVal, tNew] at h <;> try (first | (cases h; exact hi) | ((repeat' split at h) <;> first | (cases h; exact hi) | (cases h; done) | (cases h; exact hi.app _)))
  case move x =>
    simp only [tMove] at h
    (repeat' split at h) <;> first | (cases h; exact hi) | (cases h; done)
  case load1 p =>
    revert h; generalize a.at p = q; intro h
    cases q <;> simp only [tLoad1] at h <;> ((repeat' split at h) <;> first | (cases h; exact hi) | (cases h; done) | skip)
    · rename_i i o _ ver vs e hat _ v0 hv0 _ _ _
      cases h
      refine hi.set _ _ fun hk => ?_
      have := hi.obj i _ hk hat
      simp only [belowO] at this ⊢
      exact belows_set this rfl
    · rename_i i o _ ver vs e hat _ v0 hv0 _ _ _
      cases h
      refine hi.set _ _ fun hk => ?_
      have := hi.obj i _ hk hat
      simp only [belowO] at this ⊢
      exact belows_set this (by rw [below_frz]; exact belows_iff.1 this v0 (List.mem_of_getElem? hv0))
  case loadN n p =>
    revert h; generalize a.at p = q; intro h
    cases q <;> simp only [tLoadN] at h <;> ((repeat' split at h) <;> first | (cases h; exact hi) | (cases h; done) | skip)
    rename_i i o _ ver vs e hat _ _ _ _
    cases h
    refine hi.set _ _ fun hk => ?_
    have := hi.obj i _ hk hat
    simp only [belowO] at this ⊢
    exact belows_put this (belows_frz (belows_sub this fun x hx => List.mem_of_mem_drop (List.mem_of_mem_take hx)))
  case store n p x =>
    revert h; generalize a.at p = q; intro h
    cases q <;> simp only [tStore] at h <;> ((repeat' split at h) <;> first | (cases h; exact hi) | (cases h; done) | skip)
    · rename_i i o _ ver vs e hat _ hc
      cases h
      simp only [Bool.and_eq_true] at hc
      refine hi.set _ _ fun hk => ?_
      have := hi.obj i _ hk hat
      simp only [belowO] at this ⊢
      exact belows_put this (base_below hc.2 hk hb)
    · rename_i pp c j o _ hcc _ _ chs gv hp hgv _ ch hch _ hc
      cases h
      simp only [Bool.and_eq_true] at hc
      refine plSet_inv hi fun i o' v0 vs ver e hpp hk hat hv0 hbl => ?_
      subst hpp
      simp only [plGet, hat, hv0] at hp
      obtain ⟨_, e', sz, rfl⟩ := ownChs_some hp
      simp only [reSl, below] at hbl ⊢
      rw [belowss_iff] at hbl ⊢
      intro x hx
      rcases List.mem_or_eq_of_mem_set hx with hx | rfl
      · exact hbl x hx
      · exact belows_put (hbl ch (List.mem_of_getElem? hch)) (base_below hc.2 hk hb)
  case slice size x lo hi' mx =>
    revert h; generalize a.ev x = q; intro h
    cases q <;> simp only [tSlice] at h <;> ((repeat' split at h) <;> first | (cases h; exact hi) | (cases h; done) | skip)
    cases h
    exact plSet_inv hi fun i o' v0 vs ver e hpp hk hat hv0 hbl => by rw [below_frz]; exact hbl
  case indexAddr size x i =>
    split at h
    · revert h; generalize a.ev x = q; intro h
      cases q <;> (try (rename_i m c; cases m)) <;> simp only [tIndex] at h <;> (repeat' split at h) <;> first | (cases h; exact hi) | (cases h; done)
    · cases h
  case mapUpdate kk m x v =>
    split at h
    · rename_i r hr
      cases h
      simp only [tMapUpdate] at hr
      split at hr
      · rename_i i x1 v1 hm gx gv
        split at hr
        · rename_i ver es ck hat
          split at hr
          · rename_i hbo
            split at hr
            · cases hr
              refine hi.set _ _ fun hk => ?_
              have h1 := hi.obj i _ hk hat
              have h2 := base_below hbo hk hb
              simp only [belowO, below.belows, Bool.and_true, Bool.and_eq_true] at h1 h2 ⊢
              rw [List.all_eq_true] at h1 ⊢
              intro y hy
              obtain ⟨j, hj⟩ := List.getElem?_of_mem hy
              rw [List.getElem?_modify] at hj
              cases hz : es[j]? with
              | none => rw [hz] at hj; cases hj
              | some z =>
                rw [hz] at hj
                simp only [Option.map_eq_map, Option.map_some, Option.some.injEq] at hj
                have := h1 z (List.mem_of_getElem? hz)
                subst hj
                split
                · simp [h2.1, h2.2]
                · exact this
            · cases hr
              refine hi.set _ _ fun hk => ?_
              have h1 := hi.obj i _ hk hat
              have h2 := base_below hbo hk hb
              simp only [belowO, below.belows, Bool.and_true, Bool.and_eq_true] at h1 h2 ⊢
              rw [List.all_append, h1]
              simp [h2.1, h2.2]
            · cases hr
          · cases hr
        · cases hr
      · cases hr
    · cases h
  case append e size bytes x y =>
    split at h
    · have hh : ∀ {v : TV} {a' : TAct} {σ' : Sto} {new : List (List TV)}, tAppend a σ e size bytes x new = some (v, a', σ') → Inv k σ' := by
        intro v a' σ' new h
        unfold tAppend at h
        (repeat' split at h) <;> first | (cases h; exact hi) | (cases h; done) | (cases h; exact (hi.del _).app _) | (cases h; exact hi.app _)
      split at h
      · unfold tAppNew at h
        split at h
        · split at h
          · cases h; exact hi.app _
          · cases h
        · exact hh h
      · exact hh h
    · cases h
  case appendZ e z bytes x n =>
    split at h
    · split at h
      · unfold tAppend at h
        (repeat' split at h) <;> first | (cases h; exact hi) | (cases h; done) | (cases h; exact (hi.del _).app _) | (cases h; exact hi.app _)
      · cases h
    · cases h
  case copy size x y =>
    split at h
    · unfold tCopy at h
      split at h
      · rename_i i o sz n c hx
        split at h
        · rename_i ver vs e hat
          split at h
          · rename_i hc
            simp only [Bool.and_eq_true] at hc
            split at h
            · cases h; exact hi
            · rename_i m hm
              cases h
              refine hi.set _ _ fun hk => ?_
              have h1 := hi.obj i _ hk hat
              have h2 := base_below hc.2 hk hb
              simp only [belowO] at h1 ⊢
              rw [hm] at h2
              exact belows_put h1 h2
          · cases h
        · cases h
      · cases h
    · cases h
end
end Go.Xt
end
section
namespace Go.Xt
open Go Go.Xe
set_option linter.unusedVariables false
set_option linter.unusedSimpArgs false
structure InvC (C : TCallee) : Prop where
  call : ∀ {b f : Nat} {args : List TV} {σ : Sto} {e : TEnd} {σ' : Sto} {k : Nat}, C b f args σ = some (e, σ') → k ≤ b → Inv k σ → Inv k σ'
section
variable {C : TCallee} {an : Ann} {b n k : Nat}
theorem tops_inv (hC : InvC C) (hb : k ≤ b) : ∀ (ops : List XOper) {a : TAct} {σ : Sto} {e : TEx} {a' : TAct} {σ' : Sto}, tops an b C ops a σ = some (e, a', σ') → Inv k σ → Inv k σ'
  | [], a, σ, e, a', σ', h, hi => by simp only [tops] at h; cases h; exact hi
  | ⟨dst, op, guard⟩ :: ops, a, σ, e, a', σ', h, hi => by
    have ih := @tops_inv hC hb ops
    rw [tops] at h
    cases hg : wantedT a guard with
    | none => simp only [hg] at h; cases h
    | some c =>
      cases c with
      | false => simp only [hg] at h; exact ih h hi
      | true =>
        simp only [hg] at h
        cases op
        case call f args =>
          simp only at h
          split at h
          · split at h
            · rename_i hc; exact ih h (hC.call hc hb hi)
            · rename_i hc; cases h; exact hC.call hc hb hi
            · cases h
          · cases h
        case callV x args =>
          simp only at h
          split at h
          · split at h
            · split at h
              · rename_i hc; exact ih h (hC.call hc hb hi)
              · rename_i hc; cases h; exact hC.call hc hb hi
              · cases h
            · cases h
          · cases h
        case panic x =>
          simp only at h
          split at h
          · cases h; exact hi
          · cases h
        case defer x args =>
          simp only at h
          split at h
          · split at h
            · exact ih h hi
            · cases h
          · cases h
        all_goals
          simp only at h
          split at h
          · rename_i hd; exact ih h (tdo_inv hd hb hi)
          · cases h
theorem topsD_inv (hC : InvC C) (hb : k ≤ b) : ∀ (ops : List XOper) {a : TAct} {σ : Sto} {l l' : List TRec} {a' : TAct} {σ' : Sto}, topsD an b C ops a σ l = some (a', σ', l') → Inv k σ → Inv k σ'
  | [], a, σ, l, l', a', σ', h, hi => by simp only [topsD] at h; cases h; exact hi
  | ⟨dst, op, guard⟩ :: ops, a, σ, l, l', a', σ', h, hi => by
    have ih := @topsD_inv hC hb ops
    rw [topsD] at h
    cases hg : wantedT a guard with
    | none => simp only [hg] at h; cases h
    | some c =>
      cases c with
      | false => simp only [hg] at h; exact ih h hi
      | true =>
        simp only [hg] at h
        cases op
        case call f args =>
          simp only at h
          split at h
          · split at h
            · rename_i hc; exact ih h (hC.call hc hb hi)
            · cases h
          · cases h
        case callV x args =>
          simp only at h
          split at h
          · split at h
            · split at h
              · rename_i hc; exact ih h (hC.call hc hb hi)
              · cases h
            · cases h
          · cases h
        all_goals
          simp only at h
          split at h
          · rename_i hd; exact ih h (tdo_inv hd hb hi)
          · cases h
theorem tloop_inv {t : TAct → Sto → Option (TEx × TAct × Sto)} (ht : ∀ a σ e a' σ', t a σ = some (e, a', σ') → Inv k σ → Inv k σ') : ∀ n a σ e a' σ', tloop t n a σ = some (e, a', σ') → Inv k σ → Inv k σ'
  | 0, a, σ, e, a', σ', h, hi => by simp only [tloop] at h; cases h
  | n + 1, a, σ, e, a', σ', h, hi => by
    simp only [tloop] at h
    split at h
    · rename_i h1; exact tloop_inv ht n _ _ _ _ _ h (ht _ _ _ _ _ h1 hi)
    · exact ht _ _ _ _ _ h hi
theorem tcode_inv (hC : InvC C) (hb : k ≤ b) : ∀ (c : XCode) (a : TAct) (σ : Sto) (e : TEx) (a' : TAct) (σ' : Sto), tcode an b C n c a σ = some (e, a', σ') → Inv k σ → Inv k σ'
  | .skip, a, σ, e, a', σ', h, hi => by simp only [tcode] at h; cases h; exact hi
  | .exit id, a, σ, e, a', σ', h, hi => by simp only [tcode] at h; cases h; exact hi
  | .ret, a, σ, e, a', σ', h, hi => by simp only [tcode] at h; cases h; exact hi
  | .region ops, a, σ, e, a', σ', h, hi => by simp only [tcode] at h; exact tops_inv hC hb ops h hi
  | .regionD ops ps, a, σ, e, a', σ', h, hi => by
    simp only [tcode] at h
    split at h
    · rename_i hd
      split at h
      · cases h; exact topsD_inv hC hb ops hd hi
      · cases h
    · cases h
  | .seq x y, a, σ, e, a', σ', h, hi => by
    simp only [tcode] at h
    split at h
    · rename_i h1; exact tcode_inv hC hb y _ _ _ _ _ h (tcode_inv hC hb x _ _ _ _ _ h1 hi)
    · exact tcode_inv hC hb x _ _ _ _ _ h hi
  | .cond c x y, a, σ, e, a', σ', h, hi => by
    simp only [tcode] at h
    split at h
    · exact tcode_inv hC hb x _ _ _ _ _ h hi
    · exact tcode_inv hC hb y _ _ _ _ _ h hi
    · cases h
  | .block id c, a, σ, e, a', σ', h, hi => by
    simp only [tcode] at h
    split at h
    · rename_i h1
      have := tcode_inv hC hb c _ _ _ _ _ h1 hi
      split at h <;> (cases h; exact this)
    · exact tcode_inv hC hb c _ _ _ _ _ h hi
  | .loop c, a, σ, e, a', σ', h, hi => by
    simp only [tcode] at h
    exact tloop_inv (fun a σ e a' σ' h hi => tcode_inv hC hb c a σ e a' σ' h hi) n _ _ _ _ _ h hi
theorem topsR_inv (hC : InvC C) (hb : k ≤ b) : ∀ (ops : List XOper) {a : TAct} {σ : Sto} {m : TMode} {e : TEx} {a' : TAct} {σ' : Sto} {m' : TMode}, topsR an b C ops a σ m = some (e, a', σ', m') → Inv k σ → Inv k σ'
  | [], a, σ, m, e, a', σ', m', h, hi => by simp only [topsR] at h; cases h; exact hi
  | ⟨dst, op, guard⟩ :: ops, a, σ, m, e, a', σ', m', h, hi => by
    have ih := @topsR_inv hC hb ops
    rw [topsR.eq_def] at h
    cases hg : wantedT a guard with
    | none => simp only [hg] at h; cases h
    | some c =>
      cases c with
      | false => simp only [hg] at h; exact ih h hi
      | true =>
        simp only [hg] at h
        cases op
        case recover =>
          simp only at h
          split at h
          · exact ih h hi
          · exact ih h hi
        all_goals
          simp only at h
          split at h
          · rename_i h1; exact ih h (tops_inv hC hb _ h1 hi)
          · rename_i h1; cases h; exact tops_inv hC hb _ h1 hi
          · cases h
theorem tcodeR_inv (hC : InvC C) (hb : k ≤ b) (c : XCode) : ∀ (a : TAct) (σ : Sto) (m : TMode) (e : TEx) (a' : TAct) (σ' : Sto) (m' : TMode), tcodeR an b C n c a σ m = some (e, a', σ', m') → Inv k σ → Inv k σ' := by
  induction c with
  | region ops => intro a σ m e a' σ' m' h hi; rw [tcodeR.eq_def] at h; simp only at h; exact topsR_inv hC hb ops h hi
  | seq x y ihx ihy =>
    intro a σ m e a' σ' m' h hi
    rw [tcodeR.eq_def] at h; simp only at h
    split at h
    · rename_i h1; exact ihy _ _ _ _ _ _ _ h (ihx _ _ _ _ _ _ _ h1 hi)
    · exact ihx _ _ _ _ _ _ _ h hi
  | cond c x y ihx ihy =>
    intro a σ m e a' σ' m' h hi
    rw [tcodeR.eq_def] at h; simp only at h
    split at h
    · exact ihx _ _ _ _ _ _ _ h hi
    · exact ihy _ _ _ _ _ _ _ h hi
    · cases h
  | block id c ih =>
    intro a σ m e a' σ' m' h hi
    rw [tcodeR.eq_def] at h; simp only at h
    split at h
    · rename_i h1
      have := ih _ _ _ _ _ _ _ h1 hi
      split at h <;> (cases h; exact this)
    · exact ih _ _ _ _ _ _ _ h hi
  | _ =>
    intro a σ m e a' σ' m' h hi
    rw [tcodeR.eq_def] at h; simp only at h
    split at h
    · rename_i h1; cases h; exact tcode_inv hC hb _ _ _ _ _ _ h1 hi
    · cases h
theorem tdefers_inv (hC : InvC C) {F : FuncId → Option TFun} (hb : k ≤ b) : ∀ (l : List TDfr) (σ : Sto) (m : TMode) (σ' : Sto) (m' : TMode), tdefers C F b n l σ m = some (σ', m') → Inv k σ → Inv k σ'
  | [], σ, m, σ', m', h, hi => by simp only [tdefers] at h; cases h; exact hi
  | d :: r, σ, m, σ', m', h, hi => by
    simp only [tdefers] at h
    split at h
    · split at h
      · rename_i h1
        have := tcodeR_inv hC hb _ _ _ _ _ _ _ _ h1 hi
        split at h
        · exact tdefers_inv hC hb r _ _ _ _ h this
        · exact tdefers_inv hC hb r _ _ _ _ h this
        · cases h
      · cases h
    · cases h
theorem Inv.take {σ σ' : Sto} (h : Inv k σ') (h0 : Inv k σ) : Inv k (σ'.take σ.length) := by
  refine ⟨by rw [List.length_take]; have := h.le; have := h0.le; omega, fun k' o hk e => h.obj k' o hk ?_⟩
  unfold Sto.at at e ⊢
  rw [List.getElem?_take] at e
  split at e
  · rename_i y hy
    split at hy
    · rw [hy]; exact e
    · cases hy
  · cases e
theorem tleave_inv {keep : Bool} {σ σ' σ2 : Sto} {v v' : TV} (h : tleave keep σ.length σ' v = some (v', σ2)) (hi : Inv k σ') (h0 : Inv k σ) : Inv k σ2 := by
  unfold tleave at h
  split at h
  · cases h; exact hi
  · split at h
    · cases h; exact hi.take h0
    · cases h
theorem tfinish_inv {a : TAct} {fn : TFun} {σ σ' σ2 : Sto} {m : TMode} {e : TEnd} (h : tfinish a fn σ.length σ' m = some (e, σ2)) (hi : Inv k σ') (h0 : Inv k σ) : Inv k σ2 := by
  unfold tfinish at h
  split at h
  · split at h
    · rename_i h1; cases h; exact tleave_inv h1 hi h0
    · cases h
  · split at h
    · split at h
      · split at h
        · rename_i h1; cases h; exact tleave_inv h1 hi h0
        · cases h
      · cases h
    · cases h
theorem encZT_below (k : Nat) : ∀ zs : List Int, below.belows k (encZT zs) = true
  | [] => rfl
  | z :: zs => by simp only [encZT, List.map_cons, below.belows, below, Bool.true_and]; exact encZT_below k zs
theorem tEnd_inv {v : TV} {args : List TV} {σ σ' : Sto} {e : TEnd} {k : Nat} (h : tEnd v args σ = some (e, σ')) (hi : Inv k σ) : Inv k σ' := by
  unfold tEnd at h
  split at h
  · unfold rowT at h
    split at h
    · split at h
      · cases h; exact hi
      · rename_i hk
        split at h
        · cases h
          refine hi.set _ _ fun hlt => ?_
          have := hi.obj _ _ hlt hk
          exact belows_put this (encZT_below _ _)
        · cases h
      · cases h
    · cases h; exact hi
    · cases h
  · cases h; exact hi
  · cases h
theorem tcall_inv {F : FuncId → Option TFun} {O : FuncId → List TV → Option TV} : ∀ n, InvC (tcall F O n)
  | 0 => ⟨fun h _ _ => by simp only [tcall] at h; cases h⟩
  | n + 1 => ⟨fun {b f args σ e σ' k} h hb hi => by
    have ih := @tcall_inv F O n
    simp only [tcall] at h
    split at h
    · rename_i fn hf
      have hb2 : k ≤ baseOf fn.keep b σ.length := by
        unfold baseOf; split
        · exact hb
        · exact hi.le
      split at h
      · rename_i h1
        have i1 := tcode_inv ih hb2 _ _ _ _ _ _ h1 hi
        split at h
        · rename_i h2; exact tfinish_inv h (tdefers_inv ih hb2 _ _ _ _ _ h2 i1) hi
        · cases h
      · rename_i h1
        have i1 := tcode_inv ih hb2 _ _ _ _ _ _ h1 hi
        split at h
        · rename_i h2; exact tfinish_inv h (tdefers_inv ih hb2 _ _ _ _ _ h2 i1) hi
        · cases h
      · rename_i h1
        have i1 := tcode_inv ih hb2 _ _ _ _ _ _ h1 hi
        split at h
        · rename_i h2; exact tfinish_inv h (tdefers_inv ih hb2 _ _ _ _ _ h2 i1) hi
        · cases h
      · cases h
    · split at h
      · exact tEnd_inv h hi
      · cases h⟩
end
end Go.Xt
end
section
namespace Go.Xt
open Go Go.Xe
set_option linter.unusedVariables false
set_option linter.unusedSimpArgs false
theorem belows_flat {k : Nat} : ∀ {chs : List (List TV)}, below.belows k chs.flatten = below.belowss k chs
  | [] => rfl
  | c :: chs => by
    have h : ∀ x y : List TV, below.belows k (x ++ y) = (below.belows k x && below.belows k y) := by
      intro x y
      induction x with
      | nil => simp [below.belows]
      | cons v x ih => simp [below.belows, ih, Bool.and_assoc]
    rw [List.flatten_cons, h, belows_flat]; rfl
section
variable {g : Hp} {μ : List Nat} {Z Z' : Nat → Prop}
mutual
theorem RV.isBelow : ∀ {tv : TV} {v : Value}, RV g μ Z tv v → Xt.below μ.length tv = true
  | _, _, .int k n => rfl
  | _, _, .bool b => rfl
  | _, _, .str s => rfl
  | _, _, .nilp => rfl
  | _, _, .ptr e => by simp only [Xt.below, bltNat]; exact decide_eq_true (List.getElem?_eq_some_iff.1 e).1
  | _, _, .elt a b c d => by simp only [Xt.below]; exact d.areBelow
  | _, _, .fz a b c d e f m k => by simp only [Xt.below]; rw [← belows_flat]; exact k.areBelow
  | _, _, .fz0 b c => rfl
  | _, _, .nl => rfl
  | _, _, .ref e n => by simp only [Xt.below, bltNat]; exact decide_eq_true (List.getElem?_eq_some_iff.1 e).1
  | _, _, .nilm => rfl
  | _, _, .map e => by simp only [Xt.below, bltNat]; exact decide_eq_true (List.getElem?_eq_some_iff.1 e).1
  | _, _, .nilf => rfl
  | _, _, .func f a b => by simp only [Xt.below, a.areBelow, b.areBelow, Bool.and_self]
  | _, _, .nili => rfl
  | _, _, .iface t a => by simp only [Xt.below]; exact a.isBelow
  | _, _, .agg a => by simp only [Xt.below]; exact a.areBelow
  | _, _, .tuple a => by simp only [Xt.below]; exact a.areBelow
  | _, _, .dead v => rfl
theorem RVs.areBelow : ∀ {l : List TV} {l' : List Value}, RVs g μ Z l l' → below.belows μ.length l = true
  | _, _, .nil => rfl
  | _, _, .cons a b => by simp only [below.belows, a.isBelow, b.areBelow, Bool.and_self]
end
mutual
theorem RV.cut {ν : List Nat} (hz : ∀ i, Z i → Z' i) : ∀ {tv : TV} {v : Value}, RV g (μ ++ ν) Z tv v → Xt.below μ.length tv = true → RV g μ Z' tv v
  | _, _, .int k n, _ => .int k n
  | _, _, .bool b, _ => .bool b
  | _, _, .str s, _ => .str s
  | _, _, .nilp, _ => .nilp
  | _, _, .ptr e, h => by
    simp only [Xt.below, bltNat] at h
    rw [List.getElem?_append_left (of_decide_eq_true h)] at e
    exact .ptr e
  | _, _, .elt a b c d, h => by simp only [Xt.below] at h; exact .elt (hz _ a) b c (d.cut hz h)
  | _, _, .fz a b c d e f m k, h => by simp only [Xt.below] at h; rw [← belows_flat] at h; exact .fz (hz _ a) b c d e f m (k.cut hz h)
  | _, _, .fz0 b c, _ => .fz0 b c
  | _, _, .nl, _ => .nl
  | _, _, .ref e n, h => by
    simp only [Xt.below, bltNat] at h
    rw [List.getElem?_append_left (of_decide_eq_true h)] at e
    exact .ref e n
  | _, _, .nilm, _ => .nilm
  | _, _, .map e, h => by
    simp only [Xt.below, bltNat] at h
    rw [List.getElem?_append_left (of_decide_eq_true h)] at e
    exact .map e
  | _, _, .nilf, _ => .nilf
  | _, _, .func f a b, h => by simp only [Xt.below, Bool.and_eq_true] at h; exact .func f (a.cut hz h.1) (b.cut hz h.2)
  | _, _, .nili, _ => .nili
  | _, _, .iface t a, h => by simp only [Xt.below] at h; exact .iface t (a.cut hz h)
  | _, _, .agg a, h => by simp only [Xt.below] at h; exact .agg (a.cut hz h)
  | _, _, .tuple a, h => by simp only [Xt.below] at h; exact .tuple (a.cut hz h)
  | _, _, .dead v, _ => .dead v
theorem RVs.cut {ν : List Nat} (hz : ∀ i, Z i → Z' i) : ∀ {l : List TV} {l' : List Value}, RVs g (μ ++ ν) Z l l' → below.belows μ.length l = true → RVs g μ Z' l l'
  | _, _, .nil, _ => .nil
  | _, _, .cons a b, h => by simp only [below.belows, Bool.and_eq_true] at h; exact .cons (a.cut hz h.1) (b.cut hz h.2)
end
mutual
theorem RV.canon : ∀ {tv : TV} {v : Value}, RV g μ Z tv v → RV g μ Z (Xt.canon tv) v
  | _, _, .int k n => .int k n
  | _, _, .bool b => .bool b
  | _, _, .str s => .str s
  | _, _, .nilp => .nilp
  | _, _, .ptr e => .ptr e
  | _, _, .elt a b c d => .elt a b c d
  | _, _, .fz a b c d e f m k => .fz a b c d e f m k
  | _, _, .fz0 b c => .fz0 b c
  | _, _, .nl => .fz0 none 0
  | _, _, .ref e n => .ref e n
  | _, _, .nilm => .nilm
  | _, _, .map e => .map e
  | _, _, .nilf => .nilf
  | _, _, .func f a b => .func f a b
  | _, _, .nili => .nili
  | _, _, .iface t a => .iface t a
  | _, _, .agg a => .agg a.canon
  | _, _, .tuple a => .tuple a.canon
  | _, _, .dead v => .dead v
theorem RVs.canon : ∀ {l : List TV} {l' : List Value}, RVs g μ Z l l' → RVs g μ Z (canon.canons l) l'
  | _, _, .nil => .nil
  | _, _, .cons a b => .cons a.canon b.canon
end
theorem RO.isBelow {i : Nat} {tv : TV} {v : Value} (h : RO g μ Z i tv v) : Xt.below μ.length tv = true := by
  cases h with
  | mk a b c d e f k => simp only [Xt.below]; rw [← belows_flat]; exact k.areBelow
theorem RO.cut {ν : List Nat} (hz : ∀ i, Z i → Z' i) {i : Nat} {tv : TV} {v : Value} (h : RO g (μ ++ ν) Z i tv v) (hb : Xt.below μ.length tv = true) : RO g μ Z' i tv v := by
  cases h with
  | mk a b c d e f k => simp only [Xt.below] at hb; rw [← belows_flat] at hb; exact .mk a b c d e f (k.cut hz hb)
theorem RCs.areBelow {ow : Nat → Option Nat} {cs : List TV} {vs : List Value} (r : RCs g μ Z ow cs vs) : below.belows μ.length cs = true := by
  rw [belows_iff]
  intro v hv
  obtain ⟨j, hj⟩ := List.getElem?_of_mem hv
  obtain ⟨v', h1, h2⟩ := r.at hj
  revert h2
  cases ow j with
  | none => exact RV.isBelow
  | some i => exact RO.isBelow
end
section
variable {Pr : Nat → Prop} {μ μ' : List Nat} {w w' : Own} {a a' : TAct} {σ σ' : Sto} {ax ax' : Xe.Act} {s s' : AS}
theorem Rs.inv (r : Rs Pr μ w σ s) : Inv σ.length σ := by
  refine ⟨Nat.le_refl _, fun k o hk e => ?_⟩
  obtain ⟨i, b, h1, h2, h3⟩ := r.obj k o e
  rw [← r.len]
  unfold belowO
  revert h3
  cases o.body <;> cases b <;> intro h3 <;> simp only [RB] at h3 <;> first | (exact h3.elim) | skip
  · exact h3.2.2.areBelow
  · rw [List.all_eq_true]
    intro x hx
    obtain ⟨j, hj⟩ := List.getElem?_of_mem hx
    rename_i es ck es' ck'
    have hlt := (List.getElem?_eq_some_iff.1 hj).1
    have : es'[j]? = some es'[j] := List.getElem?_eq_getElem (by rw [h3.2.1]; exact hlt)
    obtain ⟨q1, q2, _⟩ := h3.2.2.1 j _ _ hj this
    simp only [q1.isBelow, q2.isBelow, Bool.and_self]
  · rfl
def cutO (k : Nat) (w : Own) : Own
  | .obj k' => if k' < k then w (.obj k') else none
  | .cell k' c => if k' < k then w (.cell k' c) else none
  | _ => none
theorem cutO_le (k : Nat) (w : Own) (p : Pc) (i : Nat) (h : cutO k w p = some i) : w p = some i := by
  cases p <;> simp only [cutO] at h <;> first | (cases h; done) | (split at h <;> first | exact h | cases h)
theorem cutO_only (k : Nat) (w : Own) : OnlyS (cutO k w) := ⟨fun _ => rfl, fun _ _ => rfl, fun _ => rfl⟩
theorem Rs.cutS {ν : List Nat} (r : Rs Pr (μ ++ ν) w σ s) (hi : Inv μ.length σ) : Rs Pr μ (cutO μ.length w) (σ.take μ.length) s := by
  have hsub := cutO_le μ.length w
  have hz : ∀ i, Zo w Pr i → Zo (cutO μ.length w) Pr i := fun i z => z.sub hsub
  have hat : ∀ k o, Sto.at (σ.take μ.length) k = some o → k < μ.length ∧ σ.at k = some o := fun k o e => by
    unfold Sto.at at e ⊢
    rw [List.getElem?_take] at e
    by_cases h : k < μ.length
    · rw [if_pos h] at e; exact ⟨h, e⟩
    · rw [if_neg h] at e; simp at e
  refine ⟨r.dm, by rw [List.length_take]; have := hi.le; omega, fun p q i e f => r.inj p q i (hsub p i e) (hsub q i f), fun p i e => r.pr p i (hsub p i e), fun p i e => r.live p i (hsub p i e), fun k => ?_, fun k c hk => ?_, fun k o e => ?_, trivial⟩
  · simp only [cutO]
    by_cases h : k < μ.length
    · rw [if_pos h, r.wobj, List.getElem?_append_left h]
    · rw [if_neg h, List.getElem?_eq_none (by omega)]
  · rw [List.length_take] at hk
    have := hi.le
    simp only [cutO]; rw [if_neg (by omega)]
  · obtain ⟨hk, e⟩ := hat k o e
    obtain ⟨i, b, h1, h2, h3⟩ := r.obj k o e
    rw [List.getElem?_append_left hk] at h1
    refine ⟨i, b, h1, h2, ?_⟩
    have hb := hi.obj k o hk e
    unfold belowO at hb
    revert h3 hb
    have hc : ∀ c, cutO μ.length w (.cell k c) = w (.cell k c) := fun c => by simp only [cutO, if_pos hk]
    cases o.body <;> cases b <;> intro h3 hb <;> simp only [RB] at h3 ⊢ <;> first | (exact h3.elim) | skip
    · refine ⟨h3.1, h3.2.1, h3.2.2.len, fun j tv v q1 q2 => ?_, fun j hj => (hc j).trans (h3.2.2.out j hj)⟩
      have q3 := h3.2.2.get j tv v q1 q2
      have q4 := belows_iff.1 hb tv (List.mem_of_getElem? q1)
      simp only [hc]
      revert q3
      cases w (.cell k j) with
      | none => exact fun q3 => RV.cut hz q3 q4
      | some i => exact fun q3 => RO.cut hz q3 q4
    · refine ⟨h3.1, h3.2.1, fun j x y q1 q2 => ?_, fun c => (hc c).trans (h3.2.2.2 c)⟩
      obtain ⟨p1, p2, p3⟩ := h3.2.2.1 j x y q1 q2
      have := List.all_eq_true.1 hb x (List.mem_of_getElem? q1)
      simp only [Bool.and_eq_true] at this
      exact ⟨p1.cut hz this.1, p2.cut hz this.2, p3⟩
    · exact ⟨h3.1, h3.2.1, fun c => (hc c).trans (h3.2.2 c)⟩
theorem ofList_get {α : Type} : ∀ (l : List α) (k : Nat) (t : Tri α) (j : Nat), (Tri.ofList l k t).get j = if k ≤ j ∧ j < k + l.length then l[j - k]? else t.get j
  | [], k, t, j => by
    simp only [Tri.ofList, List.length_nil, Nat.add_zero]
    rw [if_neg (by omega)]
  | x :: l, k, t, j => by
    rw [Tri.ofList, ofList_get l (k + 1) (t.set k x) j, Tri.get_set]
    simp only [List.length_cons]
    by_cases h1 : k = j
    · subst h1
      rw [if_neg (by omega), if_pos rfl, if_pos (by omega)]; simp
    · by_cases h2 : k + 1 ≤ j ∧ j < k + 1 + l.length
      · rw [if_pos h2, if_pos (by omega), show j - k = (j - (k + 1)) + 1 by omega]; simp
      · rw [if_neg h2, if_neg h1, if_neg (by omega)]
theorem Rs.enter (r : Rs Pr μ w σ s) (ho : OnlyS w) {args : List TV} {args' : List Value} (ha : RVs s.get μ (Zo w Pr) args args') : Rl Pr μ w (enterT args) σ (enterX args') s := by
  have hrv : ∀ t, RV s.get μ (Zo w Pr) ((enterT args).ev (.tmp t)) ((enterX args').ev (.tmp t)) := by
    intro t
    simp only [enterT, enterX, TAct.ev, Act.ev, ofList_get, ha.length]
    by_cases h : 0 ≤ t ∧ t < 0 + args.length
    · rw [if_pos h, if_pos h]
      have hlt : t - 0 < args.length := by have := h.2; rw [Nat.zero_add] at this; exact this
      obtain ⟨v', h1, h2⟩ := ha.get (List.getElem?_eq_getElem hlt)
      rw [List.getElem?_eq_getElem hlt, h1]
      exact h2
    · rw [if_neg h, if_neg h, Tri.get_nil, Tri.get_nil]
      exact undef_rv _ _
  refine ⟨r, fun t => .plain (hrv t) (ho.tmp t) (ho.tcell t), fun t => ?_, trivial⟩
  have := (hrv t).notown.2.2.1
  revert this
  generalize (enterT args).ev (.tmp t) = x
  intro this
  cases x <;> first | trivial | cases this
theorem Rs.out' (r : Rs Pr μ w σ s) : Rs Pr μ (sto w) σ s := r.sub (sto_le w) (fun _ => rfl) (fun _ _ => rfl)
theorem give_pl {v v' : TV} (h : give v = some v') (hp : pl v = true) : v' = v := by
  cases v <;> simp only [give] at h <;> first | (cases h; rfl) | (cases h; done) | (simp [pl] at hp; done) | skip
  rename_i m c; cases m <;> simp only [give] at h <;> first | (cases h; rfl) | (simp [pl] at hp)
theorem tres_rel (r : Rl Pr μ w a σ ax s) {x : XRes} {tv tv' : TV} (h : tres a σ x = some tv) (hg : give tv = some tv') : ∃ v, xres ax s x = some v ∧ RV s.get μ (Zo (sto w) Pr) tv' v := by
  have hmo := Mo.sub (g := s.get) (μ := μ) (Pr := Pr) (sto_le w)
  have hz : ∀ {p : Pc} {i : Nat}, w p = some i → (∀ k, p ≠ .obj k) → (∀ k c, p ≠ .cell k c) → Zo (sto w) Pr i := fun {p i} e h1 h2 => ⟨fun q f => by
    have := r.inj _ _ _ (sto_le w q i f) e
    subst this
    cases q <;> first | (cases f; done) | (exact h1 _ rfl) | (exact h2 _ _ rfl), r.pr _ _ e⟩
  cases x with
  | tmp t =>
    simp only [tres, Option.some.injEq] at h
    refine ⟨ax.ev (.tmp t), rfl, ?_⟩
    subst h
    cases ho : isOwn (a.ev (.tmp t)) with
    | true =>
      obtain ⟨i, h1, h2⟩ := r.ownOf ho
      obtain ⟨g1, g2⟩ := give_frz hg
      rw [g1]
      exact RO.frz (h2.mono hmo rfl) (hz h1 (by simp) (by simp))
    | false =>
      obtain ⟨g1, g2⟩ := give_frz hg
      rw [frz_same ho] at g1
      exact (r.plainOf g1.symm g2).mono hmo
  | cell1 t =>
    simp only [tres] at h
    simp only [xres]
    split at h
    · rename_i ser cs e hb
      obtain ⟨hbx, i, ver, vs, k1, k2, k3, k4⟩ := r.boxOf (boxAt_of hb)
      obtain ⟨v', q1, q2⟩ := k4.at h
      rw [k2]
      simp only [load_one k3 q1]
      refine ⟨v', rfl, ?_⟩
      cases ho : isOwn tv with
      | true =>
        obtain ⟨j, q3, q4⟩ := q2.ownOf ho
        obtain ⟨g1, g2⟩ := give_frz hg
        rw [g1]
        exact RO.frz (q4.mono hmo rfl) (hz q3 (by simp) (by simp))
      | false =>
        obtain ⟨_, q3⟩ := q2.plainOf ho
        rw [give_pl hg q3.pl]; exact q3.mono hmo
    · rename_i k o hp
      split at h
      · rename_i ver cs e hat
        split at h
        · rename_i v0 hv0
          split at h
          · cases h
          · rename_i ho
            cases h
            have h1 := r.plainOf hp rfl
            revert h1; generalize ax.ev (.tmp t) = y; intro h1; cases h1
            rename_i i hm
            obtain ⟨i', vs, k1, k2, k3⟩ := r.objOf hat
            rw [hm] at k1; cases k1
            obtain ⟨v', q1, q2⟩ := k3.at hv0
            simp only [load_one k2 q1]
            obtain ⟨_, q3⟩ := q2.plainOf ho
            exact ⟨v', rfl, by rw [give_pl hg q3.pl]; exact q3.mono hmo⟩
        · cases h
      · cases h
    · cases h
  | cellN t n =>
    simp only [tres] at h
    simp only [xres]
    split at h
    · rename_i ser cs e hb
      split at h
      · rename_i hle
        rw [bleNat] at hle
        have hle := of_decide_eq_true hle
        cases h
        obtain ⟨hbx, i, ver, vs, k1, k2, k3, k4⟩ := r.boxOf (boxAt_of hb)
        rw [k2]
        simp only [loadList_of k3 (o := 0) (n := n) (by rw [k4.len]; omega)]
        refine ⟨_, rfl, ?_⟩
        simp only [give] at hg
        cases hg
        have := frzRange (w' := sto w) (P := fun o => .tcell t o) (o := 0) (n := n) k4 r.inj r.pr (by omega) (sto_le w) (fun j _ _ => rfl)
        rw [List.drop_zero] at this
        exact .agg this
      · cases h
    · rename_i k o hp
      split at h
      · rename_i ver cs e hat
        split at h
        · rename_i hb
          simp only [Bool.and_eq_true] at hb
          cases h
          obtain ⟨b1, b2⟩ := hb
          rw [bleNat] at b1
          have b1 := of_decide_eq_true b1
          have h1 := r.plainOf hp rfl
          revert h1; generalize ax.ev (.tmp t) = y; intro h1; cases h1
          rename_i i hm
          obtain ⟨i', vs, k1, k2, k3⟩ := r.objOf hat
          rw [hm] at k1; cases k1
          simp only [loadList_of k2 (o := o) (n := n) (by rw [k3.len]; exact b1)]
          refine ⟨_, rfl, ?_⟩
          simp only [give] at hg
          cases hg
          exact .agg ((k3.plain b1 (by simpa using b2)).mono hmo)
        · cases h
      · cases h
    · cases h
theorem tresults_rel (r : Rl Pr μ w a σ ax s) : ∀ (l : List XRes) {vs vs' : List TV}, tresults a σ l = some vs → gives vs = some vs' → ∃ l', xresults ax s l = some l' ∧ RVs s.get μ (Zo (sto w) Pr) vs' l'
  | [], vs, vs', h, hg => by
    simp only [tresults] at h; cases h
    simp only [gives] at hg; cases hg
    exact ⟨[], rfl, .nil⟩
  | x :: l, vs, vs', h, hg => by
    simp only [tresults] at h
    split at h
    · rename_i v vs1 h1 h2
      cases h
      simp only [gives] at hg
      split at hg
      · rename_i v1 l1 g1 g2
        cases hg
        obtain ⟨v', q1, q2⟩ := tres_rel r h1 g1
        obtain ⟨l', q3, q4⟩ := tresults_rel r l h2 g2
        exact ⟨v' :: l', by simp only [xresults, q1, q3], .cons q2 q4⟩
      · cases hg
    · cases h
theorem tres_some (r : Rl Pr μ w a σ ax s) {x : XRes} {tv : TV} (h : tres a σ x = some tv) : ∃ v, xres ax s x = some v := by
  cases x with
  | tmp t => exact ⟨_, rfl⟩
  | cell1 t =>
    simp only [tres] at h
    simp only [xres]
    split at h
    · rename_i ser cs e hb
      obtain ⟨hbx, i, ver, vs, k1, k2, k3, k4⟩ := r.boxOf (boxAt_of hb)
      obtain ⟨v', q1, q2⟩ := k4.at h
      rw [k2]
      simp only [load_one k3 q1]
      exact ⟨v', rfl⟩
    · rename_i k o hp
      split at h
      · rename_i ver cs e hat
        split at h
        · rename_i v0 hv0
          have h1 := r.plainOf hp rfl
          revert h1; generalize ax.ev (.tmp t) = y; intro h1; cases h1
          rename_i i hm
          obtain ⟨i', vs, k1, k2, k3⟩ := r.objOf hat
          rw [hm] at k1; cases k1
          obtain ⟨v', q1, q2⟩ := k3.at hv0
          simp only [load_one k2 q1]
          exact ⟨v', rfl⟩
        · cases h
      · cases h
    · cases h
  | cellN t n =>
    simp only [tres] at h
    simp only [xres]
    split at h
    · rename_i ser cs e hb
      split at h
      · rename_i hle
        rw [bleNat] at hle
        have hle := of_decide_eq_true hle
        obtain ⟨hbx, i, ver, vs, k1, k2, k3, k4⟩ := r.boxOf (boxAt_of hb)
        rw [k2]
        simp only [loadList_of k3 (o := 0) (n := n) (by rw [k4.len]; omega)]
        exact ⟨_, rfl⟩
      · cases h
    · rename_i k o hp
      split at h
      · rename_i ver cs e hat
        split at h
        · rename_i hb
          simp only [Bool.and_eq_true] at hb
          obtain ⟨b1, b2⟩ := hb
          rw [bleNat] at b1
          have b1 := of_decide_eq_true b1
          have h1 := r.plainOf hp rfl
          revert h1; generalize ax.ev (.tmp t) = y; intro h1; cases h1
          rename_i i hm
          obtain ⟨i', vs, k1, k2, k3⟩ := r.objOf hat
          rw [hm] at k1; cases k1
          simp only [loadList_of k2 (o := o) (n := n) (by rw [k3.len]; exact b1)]
          exact ⟨_, rfl⟩
        · cases h
      · cases h
    · cases h
theorem tresults_some (r : Rl Pr μ w a σ ax s) : ∀ (l : List XRes) {vs : List TV}, tresults a σ l = some vs → ∃ l', xresults ax s l = some l'
  | [], vs, h => ⟨[], rfl⟩
  | x :: l, vs, h => by
    simp only [tresults] at h
    split at h
    · rename_i v vs1 h1 h2
      obtain ⟨v', q1⟩ := tres_some r h1
      obtain ⟨l', q3⟩ := tresults_some r l h2
      exact ⟨v' :: l', by simp only [xresults, q1, q3]⟩
    · cases h
end
end Go.Xt
end
section
namespace Go.Xt
open Go Go.Xe
set_option linter.unusedVariables false
set_option linter.unusedSimpArgs false
structure Fits (F : FuncId → Option TFun) (O : FuncId → List TV → Option TV) (Fx : FuncId → Option XFun) (Ox : FuncId → List Value → Option Value) : Prop where
  some : ∀ f tf, F f = some tf → Fx f = some tf.fn
  none : ∀ f, F f = none → Fx f = none
  orc : ∀ f args v, O f args = .some v → ∀ (g : Hp) (μ : List Nat) (Z : Nat → Prop) args', RVs g μ Z args args' → ∃ v', Ox f args' = .some v' ∧ RV g μ Z v v'
section
variable {Pr : Nat → Prop} {μ μ' : List Nat} {w w' : Own} {a a' : TAct} {σ σ' : Sto} {ax ax' : Xe.Act} {s s' : AS}
variable {F : FuncId → Option TFun} {O : FuncId → List TV → Option TV} {Fx : FuncId → Option XFun} {Ox : FuncId → List Value → Option Value}
theorem markOf_two (a b : Value) (l : List Value) : markOf (.agg ⟨a :: b :: l⟩) = none := by
  cases a <;> first | rfl | (rename_i x; cases x <;> rfl)
theorem markT_two (a b : TV) (l : List TV) : markT (.agg (a :: b :: l)) = none := by
  cases a <;> first | rfl | (rename_i x; cases x <;> rfl)
theorem mark_rel {g : Hp} {Z : Nat → Prop} {v : TV} {v' : Value} (h : RV g μ Z v v') (hd : isDeadT v = false) : markOf v' = markT v := by
  cases h <;> first | rfl | skip
  case agg l l' hl =>
    obtain ⟨l'⟩ := l'
    have hl : RVs g μ Z l l' := hl
    cases hl with
    | nil => rfl
    | cons h1 h2 =>
      cases h2 with
      | nil =>
        cases h1 <;> first | rfl | (cases hd; done) | skip
        case bool b => cases b <;> rfl
      | cons h3 h4 => rw [markOf_two, markT_two]
  case dead => cases hd
theorem intsTV_some : ∀ {l : List TV} {zs : List Int}, intsTV l = some zs → l = encZT zs
  | [], zs, h => by simp only [intsTV] at h; cases h; rfl
  | v :: l, zs, h => by
    unfold intsTV at h
    split at h
    · rename_i h1; cases h1
    · rename_i z l2 h1
      cases h1
      split at h
      · rename_i zs' hz
        cases h
        rw [intsTV_some hz]; rfl
      · cases h
    · cases h
theorem intsV_enc : ∀ zs : List Int, intsV (encZ zs) = some zs
  | [] => rfl
  | z :: zs => by simp only [encZ, List.map_cons, intsV]; rw [show intsV (List.map (fun z => Value.int .i64 z) zs) = some zs from intsV_enc zs]
theorem encZ_rvs {g : Hp} {Z : Nat → Prop} : ∀ zs : List Int, RVs g μ Z (encZT zs) (encZ zs)
  | [] => .nil
  | z :: zs => .cons (.int _ z) (encZ_rvs zs)
theorem encZT_len (zs : List Int) : (encZT zs).length = zs.length := by simp [encZT]
theorem encZ_len' (zs : List Int) : (encZ zs).length = zs.length := by simp [encZ]
theorem compactZ_len' : ∀ zs : List Int, (compactZ zs).length ≤ zs.length
  | [] => Nat.le_refl _
  | x :: l => by
    have ih := compactZ_len' l
    unfold compactZ
    split
    · simp
    · split
      · simp only [List.length_cons] at ih ⊢; omega
      · simp only [List.length_cons] at ih ⊢; omega
theorem rowH_len' (mk : Mk) (zs : List Int) : (rowH mk zs).length = zs.length := by
  cases mk with
  | sort => simp [rowH, sortZ]
  | compact => have := compactZ_len' zs; simp [rowH]; omega
theorem rowRet0_rel {g : Hp} {Z : Nat → Prop} (mk : Mk) {v : TV} {v' : Value} (h : RV g μ Z v v') : RV g μ Z (rowRetT0 mk v) (rowRet0 mk v') := by
  cases mk with
  | sort => exact .tuple .nil
  | compact => exact h
theorem cells_ints {g : Hp} {Z : Nat → Prop} {ow : Nat → Option Nat} {cs : List TV} {vs : List Value} (r : RCs g μ Z ow cs vs) {o n : Nat} {zs : List Int} (h : (cs.drop o).take n = encZT zs) (hle : o + n ≤ cs.length) : (vs.drop o).take n = encZ zs := by
  have hn : zs.length = n := by
    have := congrArg List.length h
    rw [encZT_len, List.length_take, List.length_drop] at this; omega
  apply List.ext_getElem?
  intro j
  by_cases hj : j < n
  · have hz : j < zs.length := by omega
    have e1 : ((cs.drop o).take n)[j]? = some (.int .i64 zs[j]) := by rw [h]; simp [encZT, hz]
    rw [List.getElem?_take_of_lt hj, List.getElem?_drop] at e1
    have hv : o + j < vs.length := by rw [r.len]; omega
    rw [List.getElem?_take_of_lt hj, List.getElem?_drop, List.getElem?_eq_getElem hv]
    have hc := r.get (o + j) _ _ e1 (List.getElem?_eq_getElem hv)
    have e2 : (encZ zs)[j]? = some (.int .i64 zs[j]) := by simp [encZ, hz]
    rw [e2]
    revert hc
    generalize vs[o + j] = x
    cases ow (o + j) with
    | none => intro hc; have hc : RV g μ Z (.int .i64 zs[j]) x := hc; cases hc; rfl
    | some i => intro hc; have hc : RO g μ Z i (.int .i64 zs[j]) x := hc; cases hc
  · rw [List.getElem?_eq_none (by simp; omega), List.getElem?_eq_none (by rw [encZ_len']; omega)]
theorem onlyS_relO {w : Own} {k o n : Nat} (h : OnlyS w) : OnlyS (relO w k o n none) := ⟨fun t => h.tmp t, fun t c => h.tcell t c, fun x => h.hand x⟩
theorem tEnd_sound {v : TV} {v' : Value} (q2 : RV s.get μ (Zo w Pr) v v') {args : List TV} {args' : List Value} {e : TEnd} (h : tEnd v args σ = .some (e, σ')) (r : Rs Pr μ w σ s) (ho : OnlyS w) (hP : ∀ i, Pr i → i < s.next) (ha : RVs s.get μ (Zo w Pr) args args') :
    ∃ e' s' μ' w', oEnd v' args' s = .some (e', s') ∧ Rs Pr μ' w' σ' s' ∧ OnlyS w' ∧ After w w' μ μ' s s' ∧ REnd s'.get μ' (Zo w' Pr) e e' := by
  unfold tEnd at h
  split at h
  · rename_i mk hm
    have hd : isDeadT v = false := by
      unfold markT at hm
      split at hm <;> first | rfl | (cases hm; done)
    have hmk := mark_rel q2 hd
    rw [hm] at hmk
    unfold oEnd
    rw [hmk]
    simp only
    unfold rowT at h
    split at h
    · rename_i k o sz n c
      cases ha with
      | cons hv hnil =>
        cases hnil
        have hv0 := hv
        cases hv with
        | @ref _ _ _ _ _ i hmu hnc =>
          unfold rowX
          simp only
          split at h
          · rename_i hn0
            cases h
            rw [hn0]
            exact ⟨_, s, μ, w, rfl, r, ho, After.refl _ _ _, rowRet0_rel mk hv0⟩
          · rename_i ver cs ee hn0 hk
            rw [hn0]
            simp only
            split at h
            · rename_i zs hcond hz
              cases h
              simp only [Bool.and_eq_true, bleNat, decide_eq_true_eq] at hcond
              obtain ⟨hle, hsm⟩ := hcond
              obtain ⟨i', b, o1, o2, o3⟩ := r.obj k _ hk
              rw [hmu] at o1; cases o1
              cases b with
              | cells vs e' ro =>
                obtain ⟨rfl, rfl, hc⟩ := o3
                have hle' : o + n ≤ vs.length := by rw [hc.len]; exact hle
                have hpiece := cells_ints hc (intsTV_some hz) hle
                have hzn : zs.length = n := by
                  have := congrArg List.length (intsTV_some hz)
                  rw [encZT_len, List.length_take, List.length_drop] at this; omega
                have hld : loadList s.get ⟨i, o, none⟩ n = .some (encZ zs) := by
                  unfold loadList
                  simp only [o2, bleNat, decide_eq_true hle', hpiece]
                have hst := storeList_of (xs := encZ (rowH mk zs)) o2 (by rw [encZ_len', rowH_len', hzn]; exact hle')
                have r0 := r.enter ho (args := []) (args' := []) .nil
                have r1 := r0.storeObj hmu o2 hc (l := encZT (rowH mk zs)) (l' := encZ (rowH mk zs)) (o := o) (encZ_rvs _) (by rw [encZT_len, rowH_len', hzn]; exact hle)
                have hcz := compactZ_len' zs
                refine ⟨.ret (rowRet mk ⟨i, o, none⟩ zs c), s.upd [(i, .some ⟨ver + 1, .cells (setList vs o (encZ (rowH mk zs))) e' false⟩)] s.next, μ, _, ?_, r1.toRs, onlyS_relO ho, after_set ((r.wobj k).trans hmu) _ (fun p j hp => ⟨p, relO_le w k o _ p j hp⟩), ?_⟩
                · simp only [hld, intsV_enc, bleNat, decide_eq_true hsm, hst]
                · cases mk with
                  | sort => exact .tuple .nil
                  | compact => exact .ref hmu (by omega)
              | map es ck => exact o3.elim
              | iter a b => exact o3.elim
            · cases h
          · cases h
    · rename_i m
      cases h
      cases ha with
      | cons hv hnil =>
        cases hnil
        have hv0 := hv
        unfold rowX
        cases hv with
        | fz a b c d e f g =>
          simp at d
          subst d
          exact ⟨_, s, μ, w, rfl, r, ho, After.refl _ _ _, rowRet0_rel mk hv0⟩
        | fz0 b c => exact ⟨_, s, μ, w, rfl, r, ho, After.refl _ _ _, rowRet0_rel mk hv0⟩
        | nl => exact ⟨_, s, μ, w, rfl, r, ho, After.refl _ _ _, rowRet0_rel mk hv0⟩
    · cases h
  · rename_i hm hd
    cases h
    have hmk := mark_rel q2 hd
    rw [hm] at hmk
    unfold oEnd
    rw [hmk]
    exact ⟨.ret v', s, μ, w, rfl, r, ho, After.refl _ _ _, q2⟩
  · cases h
theorem After.out (h : After w w' μ μ' s s') : After w (sto w') μ μ' s s' :=
  ⟨h.le, h.keep, fun p i e hi => h.own p i (sto_le w' p i e) hi, h.mu⟩
theorem RMd.settle {g : Hp} {Z : Nat → Prop} {m : TMode} {m' : Xe.Mode} (h : RMd g μ Z m m') : RMd g μ Z m.settle m'.settle := by
  cases m <;> cases m' <;> first | exact h.elim | exact h | trivial
theorem tdefers_sound {C : TCallee} {X : Xe.Callee} (hC : CallOk C X) (hF : Fits F O Fx Ox) {b n : Nat} : ∀ (l : List TDfr) {l' : List Dfr} {μ : List Nat} {w : Own} {a : TAct} {σ : Sto} {s : AS} {m : TMode} {mx : Xe.Mode} {σ' : Sto} {m' : TMode},
    tdefers C F b n l σ m = some (σ', m') → Rl Pr μ w a σ ax s → (∀ i, Pr i → i < s.next) → RDf s.get μ (Zo w Pr) l l' → RMd s.get μ (Zo w Pr) m mx →
    ∃ s' μ' w' a' mx', xdefers X Fx n l' s mx = some (s', mx') ∧ Rl Pr μ' w' a' σ' ax s' ∧ (∀ t, a'.ev (.tmp t) = a.ev (.tmp t)) ∧ After w w' μ μ' s s' ∧ RMd s'.get μ' (Zo w' Pr) m' mx'
  | [], [], μ, w, a, σ, s, m, mx, σ', m', h, r, hP, hd, hm => by
    simp only [tdefers] at h; cases h
    exact ⟨s, μ, w, a, mx, rfl, r, fun _ => rfl, After.refl _ _ _, hm⟩
  | [], _ :: _, μ, w, a, σ, s, m, mx, σ', m', h, r, hP, hd, hm => hd.elim
  | _ :: _, [], μ, w, a, σ, s, m, mx, σ', m', h, r, hP, hd, hm => hd.elim
  | d :: l, d' :: l', μ, w, a, σ, s, m, mx, σ', m', h, r, hP, ⟨hd1, hd2, hd3⟩, hm => by
    simp only [tdefers] at h
    simp only [xdefers]
    split at h
    · rename_i fn hf
      rw [hd1, hF.some _ _ hf]
      split at h
      · rename_i e1 a1 σ1 m1 h1
        have r0 := r.toRs.stoOf.enter (sto_only w) (args := d.args) (args' := d'.args) (by rw [zo_sto]; exact hd2)
        obtain ⟨e', ax1, s1, μ1, w1, mx1, k1, k2, k3, k4, k5⟩ := tcodeR_sound hC fn.fn.body h1 r0 (r.hP2 hP) (by rw [zo_sto]; exact hm)
        simp only [k1]
        have go : ∀ {l0 : List TV}, a1.df = [] → (e1 = .normal ∨ e1 = .ret) → tresults a1 σ1 fn.fn.results = some l0 → tdefers C F b n l σ1 m1.settle = some (σ', m') →
            ∃ s' μ' w' a' mx', (match ax1.df, e', xresults ax1 s1 fn.fn.results with
              | [], .normal, some _ => xdefers X Fx n l' s1 mx1.settle
              | [], .ret, some _ => xdefers X Fx n l' s1 mx1.settle
              | _, _, _ => none) = some (s', mx') ∧ Rl Pr μ' w' a' σ' ax s' ∧ (∀ t, a'.ev (.tmp t) = a.ev (.tmp t)) ∧ After w w' μ μ' s s' ∧ RMd s'.get μ' (Zo w' Pr) m' mx' := by
          intro l0 q1 q2 q3 q4
          have hdf : ax1.df = [] := by
            have := k2.df
            rw [q1] at this
            revert this
            cases ax1.df with
            | nil => intro _; rfl
            | cons => intro h; exact h.elim
          obtain ⟨l1, p1⟩ := tresults_some k2 _ q3
          obtain ⟨b1, b2, b3, b4⟩ := r.back hP k2.toRs.out' (sto_only w1) k3.out
          have hm1 : RMd s1.get μ1 (Zo (both w (sto w1)) Pr) m1.settle mx1.settle := by
            rw [b3]; exact (k5.mono (Mo.sub (sto_le w1))).settle
          obtain ⟨s', μ', w', a', mx', c1, c2, c3, c4, c5⟩ := tdefers_sound hC hF l q4 b1 (b2.hP hP) (hd3.mono (b2.mo r.dm)) hm1
          refine ⟨s', μ', w', a', mx', ?_, c2, c3, b2.trans c4, c5⟩
          rw [hdf, p1]
          rcases q2 with rfl | rfl
          · cases e' <;> first | exact k4.elim | exact c1
          · cases e' <;> first | exact k4.elim | exact c1
        split at h
        · rename_i q1 q3
          exact go q1 (.inl rfl) q3 h
        · rename_i q1 q3
          exact go q1 (.inr rfl) q3 h
        · cases h
      · cases h
    · cases h
theorem packed_rel {g : Hp} {Z : Nat → Prop} {l : List TV} {l' : List Value} (h : RVs g μ Z l l') : RV g μ Z (packedT l) (packed l') := by
  cases h with
  | nil => exact .tuple .nil
  | cons a b =>
    cases b with
    | nil => exact a
    | cons c d => exact .tuple (.cons a (.cons c d))
theorem tleave_rel {ν : List Nat} (r : Rl Pr (μ ++ ν) w a σ ax s) (hi : Inv μ.length σ) {keep : Bool} {v v2 : TV} {v' : Value} {σ2 : Sto} (h : tleave keep μ.length σ v = some (v2, σ2)) (hv : RV s.get (μ ++ ν) (Zo (sto w) Pr) v v') :
    ∃ ν2 w2, Rs Pr (μ ++ ν2) w2 σ2 s ∧ OnlyS w2 ∧ (∀ p i, w2 p = some i → w p = some i) ∧ RV s.get (μ ++ ν2) (Zo w2 Pr) v2 v' := by
  unfold tleave at h
  split at h
  · cases h
    exact ⟨ν, sto w, r.toRs.out', sto_only w, sto_le w, hv⟩
  · split at h
    · rename_i hb
      cases h
      refine ⟨[], cutO μ.length w, ?_, cutO_only _ _, cutO_le _ _, ?_⟩
      · rw [List.append_nil]; exact r.toRs.cutS hi
      · rw [List.append_nil]
        refine RV.cut (fun i z => ?_) hv.canon hb
        refine ⟨fun p e => z.1 p ?_, z.2⟩
        cases p <;> first | (cases e; done) | skip
        · simp only [cutO] at e; split at e
          · exact e
          · cases e
        · simp only [cutO] at e; split at e
          · exact e
          · cases e
    · cases h
theorem tfinish_rel {ν : List Nat} (r : Rl Pr (μ ++ ν) w a σ ax s) (hi : Inv μ.length σ) {fn : TFun} {m : TMode} {mx : Xe.Mode} {e : TEnd} {σ2 : Sto} (h : tfinish a fn μ.length σ m = some (e, σ2)) (hm : RMd s.get (μ ++ ν) (Zo w Pr) m mx) :
    ∃ e' ν2 w2, xfinish ax fn.fn s mx = some (e', s) ∧ Rs Pr (μ ++ ν2) w2 σ2 s ∧ OnlyS w2 ∧ (∀ p i, w2 p = some i → w p = some i) ∧ REnd s.get (μ ++ ν2) (Zo w2 Pr) e e' := by
  have ret : ∀ {m0 : Xe.Mode}, (∀ v, m0 ≠ .panicking v) → (match tresults a σ fn.fn.results with
      | some l => match gives l with
        | some l => match tleave fn.keep μ.length σ (packedT l) with
          | some (v, σ) => some (TEnd.ret v, σ)
          | none => none
        | none => none
      | none => none) = some (e, σ2) → ∃ e' ν2 w2, xfinish ax fn.fn s m0 = some (e', s) ∧ Rs Pr (μ ++ ν2) w2 σ2 s ∧ OnlyS w2 ∧ (∀ p i, w2 p = some i → w p = some i) ∧ REnd s.get (μ ++ ν2) (Zo w2 Pr) e e' := by
    intro m0 hm0 h
    split at h
    · rename_i l h1
      split at h
      · rename_i l2 h2
        split at h
        · rename_i v σ3 h3
          cases h
          obtain ⟨l', q1, q2⟩ := tresults_rel r _ h1 h2
          obtain ⟨ν2, w2, p1, p2, p3, p4⟩ := tleave_rel r hi h3 (packed_rel q2)
          refine ⟨.ret (packed l'), ν2, w2, ?_, p1, p2, p3, p4⟩
          unfold xfinish
          cases m0 with
          | panicking v => exact absurd rfl (hm0 v)
          | ret => simp only [q1]
          | recovered => simp only [q1]
        · cases h
      · cases h
    · cases h
  unfold tfinish at h
  cases m with
  | panicking v =>
    cases mx <;> first | exact hm.elim | skip
    rename_i v'
    simp only at h
    split at h
    · rename_i v1 σ3 h3
      cases h
      have hv : RV s.get (μ ++ ν) (Zo w Pr) v v' := hm
      obtain ⟨ν2, w2, p1, p2, p3, p4⟩ := tleave_rel r hi h3 (hv.mono (Mo.sub (sto_le w)))
      exact ⟨.panic v', ν2, w2, rfl, p1, p2, p3, p4⟩
    · cases h
  | ret =>
    cases mx <;> first | exact hm.elim | skip
    exact ret (fun v => by simp) h
  | recovered =>
    cases mx <;> first | exact hm.elim | skip
    exact ret (fun v => by simp) h
theorem tcall_sound (hF : Fits F O Fx Ox) : ∀ n, CallOk (tcall F O n) (xcall Fx Ox n)
  | 0 => ⟨fun h => by simp only [tcall] at h; cases h⟩
  | n + 1 => ⟨fun {b f args σ e σ'} h {Pr μ w s args'} r ho hP ha => by
    have ih := tcall_sound hF n
    have hinv := @tcall_inv F O n
    simp only [tcall] at h
    simp only [xcall]
    split at h
    · rename_i fn hf
      rw [hF.some _ _ hf]
      simp only
      have r0 := r.enter ho ha
      have hlen : σ.length = μ.length := r.len.symm
      have i0 : Inv σ.length σ := r.inv
      have fin : ∀ {e1 : TEx} {a1 : TAct} {σ1 : Sto} {m0 : TMode} {ex : Xe.Ex} {ax1 : Xe.Act} {s1 : AS} {μ1 : List Nat} {w1 : Own} {mx0 : Xe.Mode},
          tcode fn.an (baseOf fn.keep b σ.length) (tcall F O n) n fn.fn.body (enterT args) σ = some (e1, a1, σ1) → Rl Pr μ1 w1 a1 σ1 ax1 s1 → After w w1 μ μ1 s s1 → RMd s1.get μ1 (Zo w1 Pr) m0 mx0 →
          (match tdefers (tcall F O n) F (baseOf fn.keep b σ.length) n a1.df σ1 m0 with
            | some (σ2, m) => tfinish a1 fn σ.length σ2 m
            | none => none) = some (e, σ') →
          ∃ e' s' μ' w', (match xdefers (xcall Fx Ox n) Fx n ax1.df s1 mx0 with
            | some (s, m) => xfinish ax1 fn.fn s m
            | none => none) = some (e', s') ∧ Rs Pr μ' w' σ' s' ∧ OnlyS w' ∧ After w w' μ μ' s s' ∧ REnd s'.get μ' (Zo w' Pr) e e' := by
        intro e1 a1 σ1 m0 ex ax1 s1 μ1 w1 mx0 hc r1 haf hm h
        split at h
        · rename_i σ2 m2 hd
          obtain ⟨s2, μ2, w2, a2, mx2, c1, c2, c3, c4, c5⟩ := tdefers_sound ih hF _ hd r1 (haf.hP hP) r1.df hm
          have haf2 := haf.trans c4
          obtain ⟨ν, hν⟩ := haf2.mu
          subst hν
          have hft : tfinish a2 fn μ.length σ2 m2 = some (e, σ') := by
            rw [← hlen]
            have htr : ∀ l, tresults a2 σ2 l = tresults a1 σ2 l := by
              intro l
              induction l with
              | nil => rfl
              | cons x l ihl =>
                simp only [tresults, ihl]
                cases x <;> simp only [tres, c3]
            revert h
            unfold tfinish
            rw [htr]
            exact id
          have hbase : baseOf fn.keep b σ.length = baseOf fn.keep b σ.length := rfl
          by_cases hk : fn.keep = true
          · have h2 : ∃ ν2, (μ ++ ν) = (μ ++ ν) ++ ν2 := ⟨[], by simp⟩
            have hft' : ∀ k, tfinish a2 fn k σ2 m2 = some (e, σ') := by
              intro k
              revert hft
              unfold tfinish tleave
              rw [hk]
              exact id
            have hlen2 : σ2.length = (μ ++ ν).length := c2.len.symm
            have r2 : Rl Pr ((μ ++ ν) ++ []) w2 a2 σ2 ax1 s2 := by rw [List.append_nil]; exact c2
            obtain ⟨e', ν2, w3, f1, f2, f3, f4, f5⟩ := tfinish_rel (μ := μ ++ ν) (ν := []) r2 (by rw [← hlen2]; exact c2.toRs.inv) (hft' _) (by rw [List.append_nil]; exact c5)
            refine ⟨e', s2, (μ ++ ν) ++ ν2, w3, ?_, f2, f3, ⟨haf2.le, haf2.keep, fun p i e hi => haf2.own p i (f4 p i e) hi, ν ++ ν2, by rw [List.append_assoc]⟩, f5⟩
            simp only [c1]; exact f1
          · have hk : fn.keep = false := by simpa using hk
            have hb2 : baseOf fn.keep b σ.length = σ.length := by rw [hk]; rfl
            have i1 : Inv μ.length σ2 := by
              rw [← hlen]
              refine tdefers_inv hinv ?_ _ _ _ _ _ hd (tcode_inv hinv ?_ _ _ _ _ _ _ hc i0) <;> rw [hb2] <;> exact Nat.le_refl _
            obtain ⟨e', ν2, w3, f1, f2, f3, f4, f5⟩ := tfinish_rel c2 i1 hft c5
            refine ⟨e', s2, μ ++ ν2, w3, ?_, f2, f3, ⟨haf2.le, haf2.keep, fun p i e hi => haf2.own p i (f4 p i e) hi, ν2, rfl⟩, f5⟩
            simp only [c1]; exact f1
        · cases h
      split at h
      · rename_i a1 σ1 hc
        obtain ⟨e', ax1, s1, μ1, w1, k1, k2, k3, k4⟩ := tcode_sound ih _ _ _ _ _ _ _ _ _ _ _ hc r0 hP
        rw [k1]
        cases e' <;> first | exact k4.elim | skip
        exact fin (ex := .normal) (m0 := .ret) hc k2 k3 (mx0 := .ret) trivial h
      · rename_i a1 σ1 hc
        obtain ⟨e', ax1, s1, μ1, w1, k1, k2, k3, k4⟩ := tcode_sound ih _ _ _ _ _ _ _ _ _ _ _ hc r0 hP
        rw [k1]
        cases e' <;> first | exact k4.elim | skip
        exact fin (ex := .ret) (m0 := .ret) hc k2 k3 (mx0 := .ret) trivial h
      · rename_i v a1 σ1 hc
        obtain ⟨e', ax1, s1, μ1, w1, k1, k2, k3, k4⟩ := tcode_sound ih _ _ _ _ _ _ _ _ _ _ _ hc r0 hP
        rw [k1]
        cases e' <;> first | exact k4.elim | skip
        rename_i v'
        exact fin (ex := .panic v') (m0 := .panicking v) hc k2 k3 (mx0 := .panicking v') k4 h
      · cases h
    · rename_i hf
      rw [hF.none _ hf]
      simp only
      split at h
      · rename_i v hv
        obtain ⟨v', q1, q2⟩ := hF.orc _ _ _ hv s.get μ (Zo w Pr) args' ha
        rw [q1]
        exact tEnd_sound q2 h r ho hP ha
      · cases h⟩
end
end Go.Xt
end
section
namespace Go.Xt
open Go Go.Xe
set_option linter.unusedVariables false
set_option linter.unusedSimpArgs false
inductive Sh (P : Program) : TypeId → List TV → Prop
  | bool {t : TypeId} (b : Bool) : P.underlying t = some .bool → Sh P t [.bool b]
  | int {t : TypeId} {k : IntKind} (n : Int) : P.underlying t = some (.int k) → (Lit.int k n).wf = true → Sh P t [.int k n]
  | str {t : TypeId} (s : ByteArray) : P.underlying t = some .string → s.size ≤ maxLen → Sh P t [.str s]
  | slice {t e : TypeId} (chs : List (List TV)) : P.underlying t = some (.slice e) → chs.length ≤ maxLen → (∀ c, c ∈ chs → Sh P e c) → Sh P t [.sl .fz chs]
  | struct {t : TypeId} {fs : Array Field} (cs : List TV) : P.underlying t = some (.struct fs) → cs.length = P.cellsOf t → (∀ (i : Nat) (f : Field), fs[i]? = some f → Sh P f.type ((cs.drop f.offset).take (P.cellsOf f.type))) → Sh P t cs
theorem list_of {α : Type} {n : Nat} {R : Nat → α → Prop} (h : ∀ i, i < n → ∃ x, R i x) : ∃ l : List α, l.length = n ∧ ∀ i x, l[i]? = some x → R i x := by
  induction n with
  | zero => exact ⟨[], rfl, fun i x e => by simp at e⟩
  | succ n ih =>
    obtain ⟨l, h1, h2⟩ := ih (fun i hi => h i (by omega))
    obtain ⟨x, hx⟩ := h n (by omega)
    refine ⟨l ++ [x], by simp [h1], fun i y e => ?_⟩
    by_cases hi : i < l.length
    · rw [List.getElem?_append_left hi] at e; exact h2 i y e
    · have := (List.getElem?_eq_some_iff.1 e).1
      have hin : i = n := by simp at this; omega
      subst hin
      rw [List.getElem?_append_right (by omega), h1] at e
      simp at e; subst e; exact hx
section
variable {g : Hp} {μ : List Nat} {Z : Nat → Prop}
theorem rows_rel {vs : List Value} {k : Nat} : ∀ (chs : List (List TV)) (o : Nat), (∀ i c, chs[i]? = some c → RVs g μ Z c ((vs.drop (o + i * k)).take k) ∧ c.length = k) → RVs g μ Z chs.flatten ((vs.drop o).take (chs.length * k))
  | [], o, _ => by simp; exact .nil
  | c :: chs, o, h => by
    rw [List.flatten_cons, List.length_cons, Nat.succ_mul, Nat.add_comm, List.take_add, List.drop_drop]
    refine RVs.append ?_ (rows_rel chs (o + k) fun i c' e => ?_)
    · have := (h 0 c rfl).1
      simpa using this
    · have := h (i + 1) c' (by simpa using e)
      rwa [show o + (i + 1) * k = o + k + i * k by rw [Nat.succ_mul]; omega] at this
end
theorem tree_true {F : FuncId → Option TFun} {O : FuncId → List TV → Option TV} {Fx : FuncId → Option XFun} {Ox : FuncId → List Value → Option Value} (hF : Fits F O Fx Ox) {L : Lst} {args : List TV} {args' : List Value} (ha : RVs (gL L) [] (fun _ => True) args args') {n f : Nat} {σ' : Sto}
    (h : tcall F O n 0 f args [] = some (.ret (.bool true), σ')) : ∃ s', xcall Fx Ox n f args' ⟨gL L, .nil, L.length⟩ = some (.ret (.bool true), s') := by
  have hget : (AS.mk (gL L) .nil L.length).get = gL L := by
    funext k
    simp only [AS.get, Tri.get_nil]
  have hz : Zo (fun _ => none) (fun _ => False) = fun _ => True := by
    funext i
    exact propext ⟨fun _ => trivial, fun _ => ⟨fun p e => (by cases e), fun h => h⟩⟩
  have rs : Rs (fun _ => False) [] (fun _ => none) [] ⟨gL L, .nil, L.length⟩ := by
    refine ⟨fun i hi => ?_, rfl, fun p q i e => (by cases e), fun p i e => (by cases e), fun p i e => (by cases e), fun k => (by simp), fun k c _ => rfl, fun k o e => (by simp [Sto.at] at e), trivial⟩
    rw [hget]
    unfold gL
    rw [List.getElem?_eq_none (by exact hi)]; rfl
  obtain ⟨e', s', μ', w', h1, h2, h3, h4, h5⟩ := (tcall_sound hF n).call h rs ⟨fun _ => rfl, fun _ _ => rfl, fun _ => rfl⟩ (fun _ h => h.elim) (args' := args') (by rw [hget, hz]; exact ha)
  cases e' with
  | panic v => exact h5.elim
  | ret v =>
    have h5 : RV _ _ _ (.bool true) v := h5
    cases h5
    exact ⟨s', h1⟩
end Go.Xt
end
section
namespace Go.Xt
open Go Go.Xe
set_option linter.unusedVariables false
set_option linter.unusedSimpArgs false
def I64 (n : Int) : Prop := -9223372036854775808 ≤ n ∧ n ≤ 9223372036854775807
inductive OkT : PTyp → Prop
  | mk {k : Int} {l : List PTyp} : I64 k → l.length ≤ maxLen → (∀ t ∈ l, OkT t) → OkT (.mk k l)
inductive OkE : PExpr → Prop
  | mk {k n : Int} {s : Str} {ns : List Str} {od : List Int} {l : List PExpr} {ln c : Int} : I64 k → I64 n → I64 ln → I64 c → s.size ≤ maxLen → ns.length ≤ maxLen → (∀ x ∈ ns, x.size ≤ maxLen) → od.length ≤ maxLen → (∀ x ∈ od, I64 x) → l.length ≤ maxLen → (∀ e ∈ l, OkE e) → OkE (.mk k n s ns od l ln c)
theorem OkT.len {t : PTyp} (h : OkT t) : t.list.length ≤ maxLen := by cases h; assumption
theorem OkT.sub {t : PTyp} (h : OkT t) : ∀ x ∈ t.list, OkT x := by cases h; assumption
theorem OkE.kids {e : PExpr} (h : OkE e) : e.kids.length ≤ maxLen := by cases h; assumption
theorem OkE.sub {e : PExpr} (h : OkE e) : ∀ x ∈ e.kids, OkE x := by cases h; assumption
theorem OkE.names {e : PExpr} (h : OkE e) : e.names.length ≤ maxLen := by cases h; assumption
theorem OkE.odds {e : PExpr} (h : OkE e) : e.odds.length ≤ maxLen := by cases h; assumption
def IsSt (P : Program) (t : TypeId) (n : Nat) (fs : List (Nat × TypeId × Nat)) : Prop :=
  ∃ a : Array Field, P.underlying t = some (.struct a) ∧ P.cellsOf t = n ∧ a.toList.map (fun f => (f.offset, f.type, P.cellsOf f.type)) = fs
theorem Sh.st {P : Program} {t : TypeId} {n : Nat} {fs : List (Nat × TypeId × Nat)} (h : IsSt P t n fs) {l : List TV} (s : Sh P t l) : l.length = n ∧ ∀ x ∈ fs, Sh P x.2.1 ((l.drop x.1).take x.2.2) := by
  obtain ⟨a, h1, h2, h3⟩ := h
  cases s with
  | bool _ h => rw [h1] at h; cases h
  | int _ h => rw [h1] at h; cases h
  | str _ h => rw [h1] at h; cases h
  | slice _ h => rw [h1] at h; cases h
  | struct _ h hl hf =>
    rw [h1] at h; cases h
    refine ⟨hl.trans h2, fun x hx => ?_⟩
    rw [← h3] at hx
    obtain ⟨f, hf', rfl⟩ := List.mem_map.1 hx
    obtain ⟨i, hi⟩ := List.getElem?_of_mem hf'
    exact hf i f (by simpa using hi)
theorem Sh.intOf {P : Program} {t : TypeId} {k : IntKind} (h : P.underlying t = some (.int k)) {l : List TV} (s : Sh P t l) : ∃ n, l = [.int k n] ∧ (Lit.int k n).wf = true := by
  cases s with
  | bool _ h' => rw [h] at h'; cases h'
  | int n h' w => rw [h] at h'; cases h'; exact ⟨n, rfl, w⟩
  | str _ h' => rw [h] at h'; cases h'
  | slice _ h' => rw [h] at h'; cases h'
  | struct _ h' => rw [h] at h'; cases h'
theorem Sh.sliceOf {P : Program} {t e : TypeId} (h : P.underlying t = some (.slice e)) {l : List TV} (s : Sh P t l) : ∃ chs, l = [.sl .fz chs] ∧ chs.length ≤ maxLen ∧ ∀ c ∈ chs, Sh P e c := by
  cases s with
  | bool b h' => rw [h] at h'; cases h'
  | int n h' w => rw [h] at h'; cases h'
  | str b h' hs => rw [h] at h'; cases h'
  | slice chs h' hl hc => rw [h] at h'; cases h'; exact ⟨chs, rfl, hl, hc⟩
  | struct _ h' => rw [h] at h'; cases h'
theorem i64_wf {n : Int} (h : (Lit.int .i64 n).wf = true) : I64 n := by
  simp only [Lit.wf, Bool.and_eq_true, decide_eq_true_eq] at h
  have h1 : IntKind.i64.min = -9223372036854775808 := by decide
  have h2 : IntKind.i64.max = 9223372036854775807 := by decide
  rw [h1, h2] at h
  exact h
theorem map_of {α β : Type} {f : α → β} {R : α → Prop} : ∀ (l : List β), (∀ x ∈ l, ∃ y, x = f y ∧ R y) → ∃ m : List α, l = m.map f ∧ ∀ y ∈ m, R y
  | [], _ => ⟨[], rfl, fun y h => by cases h⟩
  | x :: l, h => by
    obtain ⟨y, rfl, hy⟩ := h x (by simp)
    obtain ⟨m, rfl, hm⟩ := map_of l (fun z hz => h z (by simp [hz]))
    exact ⟨y :: m, rfl, fun z hz => by
      rcases List.mem_cons.1 hz with rfl | hz
      · exact hy
      · exact hm z hz⟩
structure ApiT (P : Program) where
  int : TypeId
  str : TypeId
  strs : TypeId
  ints : TypeId
  typ : TypeId
  typs : TypeId
  exp : TypeId
  exps : TypeId
  fld : TypeId
  flds : TypeId
  fn : TypeId
  fns : TypeId
  prog : TypeId
  hint : P.underlying int = some (.int .i64)
  hstr : P.underlying str = some .string
  hstrs : P.underlying strs = some (.slice str)
  hints : P.underlying ints = some (.slice int)
  htyp : IsSt P typ 2 [(0, int, 1), (1, typs, 1)]
  htyps : P.underlying typs = some (.slice typ)
  hexp : IsSt P exp 8 [(0, int, 1), (1, int, 1), (2, str, 1), (3, strs, 1), (4, ints, 1), (5, exps, 1), (6, int, 1), (7, int, 1)]
  hexps : P.underlying exps = some (.slice exp)
  hfld : IsSt P fld 5 [(0, str, 1), (1, typ, 2), (3, int, 1), (4, int, 1)]
  hflds : P.underlying flds = some (.slice fld)
  hfn : IsSt P fn 14 [(0, str, 1), (1, flds, 1), (2, typ, 2), (4, exp, 8), (12, int, 1), (13, int, 1)]
  hfns : P.underlying fns = some (.slice fn)
  hprog : IsSt P prog 10 [(0, flds, 1), (1, fns, 1), (2, exp, 8)]
theorem len8 {α : Type} {l : List α} (h : l.length = 8) : ∃ a b c d e f g i, l = [a, b, c, d, e, f, g, i] := by
  match l, h with | [a, b, c, d, e, f, g, i], _ => exact ⟨a, b, c, d, e, f, g, i, rfl⟩
theorem sz_head {chs : List (List TV)} {c : List TV} (h : c ∈ chs) {l : List TV} (m : Md) (hl : TV.sl m chs ∈ l) : SizeOf.sizeOf c < SizeOf.sizeOf l := by
  have h1 := List.sizeOf_lt_of_mem h
  have h2 := List.sizeOf_lt_of_mem hl
  simp at h2
  omega
section
variable {P : Program} (A : ApiT P)
end
end Go.Xt
end
section
namespace Go.Xt
open Go Go.Xe
set_option linter.unusedVariables false
inductive Kt where
  | seq (y : XCode)
  | blk (id : Nat)
section
variable (an : Ann) (b : Nat) (C : TCallee) (n : Nat) (Q : TEx → TAct → Sto → Prop)
def Cont : List Kt → TEx → TAct → Sto → Prop
  | [], e, a, σ => Q e a σ
  | .seq y :: ks, e, a, σ => match e with
    | .normal => ∃ e' a' σ', tcode an b C n y a σ = some (e', a', σ') ∧ Cont ks e' a' σ'
    | e => Cont ks e a σ
  | .blk id :: ks, e, a, σ => match e with
    | .exit k => match Nat.beq k id with
      | true => Cont ks .normal a σ
      | false => Cont ks (.exit k) a σ
    | e => Cont ks e a σ
def Tw (ks : List Kt) (r : Option (TEx × TAct × Sto)) : Prop := ∃ e a σ, r = some (e, a, σ) ∧ Cont an b C n Q ks e a σ
def TwC (v : TV) (ks : List Kt) (x y : XCode) (a : TAct) (σ : Sto) : Prop :=
  match v with
  | .bool true => Tw an b C n Q ks (tcode an b C n x a σ)
  | .bool false => Tw an b C n Q ks (tcode an b C n y a σ)
  | _ => False
end
section
variable {an : Ann} {b : Nat} {C : TCallee} {n : Nat} {a : TAct} {σ : Sto} {Q : TEx → TAct → Sto → Prop} {ks : List Kt}
theorem tw_some (e : TEx) : Tw an b C n Q ks (some (e, a, σ)) ↔ Cont an b C n Q ks e a σ :=
  ⟨fun ⟨_, _, _, h, q⟩ => by cases h; exact q, fun q => ⟨e, a, σ, rfl, q⟩⟩
theorem tw_none : Tw an b C n Q ks none ↔ False := ⟨fun ⟨_, _, _, h, _⟩ => (by cases h), fun h => False.elim h⟩
theorem tw_nil (e : TEx) : Cont an b C n Q [] e a σ ↔ Q e a σ := Iff.rfl
theorem tw_k {y : XCode} : Cont an b C n Q (.seq y :: ks) .normal a σ ↔ Tw an b C n Q ks (tcode an b C n y a σ) := Iff.rfl
theorem tw_k_exit {y : XCode} (id : Nat) : Cont an b C n Q (.seq y :: ks) (.exit id) a σ ↔ Cont an b C n Q ks (.exit id) a σ := Iff.rfl
theorem tw_k_ret {y : XCode} : Cont an b C n Q (.seq y :: ks) .ret a σ ↔ Cont an b C n Q ks .ret a σ := Iff.rfl
theorem tw_k_panic {y : XCode} (v : TV) : Cont an b C n Q (.seq y :: ks) (.panic v) a σ ↔ Cont an b C n Q ks (.panic v) a σ := Iff.rfl
theorem tw_b {id : Nat} : Cont an b C n Q (.blk id :: ks) .normal a σ ↔ Cont an b C n Q ks .normal a σ := Iff.rfl
theorem tw_b_ret {id : Nat} : Cont an b C n Q (.blk id :: ks) .ret a σ ↔ Cont an b C n Q ks .ret a σ := Iff.rfl
theorem tw_b_panic {id : Nat} (v : TV) : Cont an b C n Q (.blk id :: ks) (.panic v) a σ ↔ Cont an b C n Q ks (.panic v) a σ := Iff.rfl
theorem tw_b_exit {id k : Nat} : Cont an b C n Q (.blk id :: ks) (.exit k) a σ ↔ Cont an b C n Q ks (if k = id then .normal else .exit k) a σ := by
  simp only [Cont]
  rw [beqNat]
  by_cases h : k = id <;> simp [h]
theorem tw_seq {x y : XCode} : Tw an b C n Q ks (tcode an b C n (.seq x y) a σ) ↔ Tw an b C n Q (.seq y :: ks) (tcode an b C n x a σ) := by
  simp only [tcode]
  constructor
  · rintro ⟨e, a2, σ2, h, q⟩
    split at h
    · rename_i a1 σ1 h1; exact ⟨.normal, a1, σ1, h1, e, a2, σ2, h, q⟩
    · rename_i r hr
      refine ⟨e, a2, σ2, h, ?_⟩
      cases e with
      | normal => exact absurd h (hr _ _)
      | _ => exact q
  · rintro ⟨e, a1, σ1, h, q⟩
    rw [h]
    cases e with
    | normal => exact q
    | _ => exact ⟨_, _, _, rfl, q⟩
theorem tw_block {id : Nat} {c : XCode} : Tw an b C n Q ks (tcode an b C n (.block id c) a σ) ↔ Tw an b C n Q (.blk id :: ks) (tcode an b C n c a σ) := by
  simp only [tcode]
  constructor
  · rintro ⟨e, a2, σ2, h, q⟩
    split at h
    · rename_i k a1 σ1 h1
      refine ⟨.exit k, a1, σ1, h1, ?_⟩
      simp only [Cont]
      split at h
      · rename_i hb; rw [hb]; cases h; exact q
      · rename_i hb; rw [hb]; cases h; exact q
    · rename_i r hr
      refine ⟨e, a2, σ2, h, ?_⟩
      cases e with
      | exit k => exact absurd h (hr _ _ _)
      | _ => exact q
  · rintro ⟨e, a1, σ1, h, q⟩
    rw [h]
    cases e with
    | exit k =>
      simp only [Cont] at q
      simp only
      split at q
      · rename_i hb; rw [hb]; exact ⟨_, _, _, rfl, q⟩
      · rename_i hb; rw [hb]; exact ⟨_, _, _, rfl, q⟩
    | _ => exact ⟨_, _, _, rfl, q⟩
theorem tw_cond {c : Operand} {x y : XCode} : Tw an b C n Q ks (tcode an b C n (.cond c x y) a σ) ↔ TwC an b C n Q (a.ev c) ks x y a σ := by
  simp only [tcode]
  unfold TwC
  cases a.ev c <;> first | exact tw_none | skip
  rename_i t; cases t <;> exact Iff.rfl
theorem twc_true {x y : XCode} : TwC an b C n Q (.bool true) ks x y a σ ↔ Tw an b C n Q ks (tcode an b C n x a σ) := Iff.rfl
theorem twc_false {x y : XCode} : TwC an b C n Q (.bool false) ks x y a σ ↔ Tw an b C n Q ks (tcode an b C n y a σ) := Iff.rfl
theorem tw_skip : Tw an b C n Q ks (tcode an b C n .skip a σ) ↔ Cont an b C n Q ks .normal a σ := tw_some _
theorem tw_exit {id : Nat} : Tw an b C n Q ks (tcode an b C n (.exit id) a σ) ↔ Cont an b C n Q ks (.exit id) a σ := tw_some _
theorem tw_ret : Tw an b C n Q ks (tcode an b C n .ret a σ) ↔ Cont an b C n Q ks .ret a σ := tw_some _
theorem tw_region {ops : List XOper} : Tw an b C n Q ks (tcode an b C n (.region ops) a σ) ↔ Tw an b C n Q ks (tops an b C ops a σ) := Iff.rfl
theorem tw_tloop (I : Nat → TAct → Sto → Prop) (len : Nat) {c : XCode} (R : TEx → TAct → Sto → Prop)
    (step : ∀ j a σ, j < len → I j a σ → Tw an b C n (fun e a σ => match e with | .normal => I (j + 1) a σ | e => R e a σ) [] (tcode an b C n c a σ))
    (stop : ∀ a σ, I len a σ → Tw an b C n (fun e a σ => match e with | .normal => False | e => R e a σ) [] (tcode an b C n c a σ)) :
    ∀ (m j : Nat) (a : TAct) (σ : Sto), len < j + m → j ≤ len → I j a σ → ∃ e a' σ', tloop (tcode an b C n c) m a σ = some (e, a', σ') ∧ R e a' σ'
  | 0, j, a, σ, h, h2, hI => by omega
  | m + 1, j, a, σ, h, h2, hI => by
    simp only [tloop]
    by_cases hj : j < len
    · obtain ⟨e, a1, σ1, h3, q⟩ := step j a σ hj hI
      rw [h3]
      cases e with
      | normal => exact tw_tloop I len R step stop m (j + 1) a1 σ1 (by omega) (by omega) q
      | _ => exact ⟨_, _, _, rfl, q⟩
    · obtain rfl : j = len := by omega
      obtain ⟨e, a1, σ1, h3, q⟩ := stop a σ hI
      rw [h3]
      cases e with
      | normal => exact q.elim
      | _ => exact ⟨_, _, _, rfl, q⟩
theorem tw_loop (I : Nat → TAct → Sto → Prop) (len : Nat) {c : XCode} (R : TEx → TAct → Sto → Prop) (h0 : I 0 a σ) (hn : len < n)
    (step : ∀ j a σ, j < len → I j a σ → Tw an b C n (fun e a σ => match e with | .normal => I (j + 1) a σ | e => R e a σ) [] (tcode an b C n c a σ))
    (stop : ∀ a σ, I len a σ → Tw an b C n (fun e a σ => match e with | .normal => False | e => R e a σ) [] (tcode an b C n c a σ))
    (next : ∀ e a σ, R e a σ → Cont an b C n Q ks e a σ) : Tw an b C n Q ks (tcode an b C n (.loop c) a σ) := by
  obtain ⟨e, a', σ', h1, h2⟩ := tw_tloop I len R step stop n 0 a σ (by omega) (Nat.zero_le _) h0
  exact ⟨e, a', σ', h1, next _ _ _ h2⟩
theorem Tw.done {r : Option (TEx × TAct × Sto)} (h : Tw an b C n Q [] r) : ∃ e a σ, r = some (e, a, σ) ∧ Q e a σ := h
end
def topsE (an : Ann) (b : Nat) (C : TCallee) : List XOper → TAct → Sto → Option (TAct × Sto)
  | [], a, σ => some (a, σ)
  | o :: r, a, σ =>
    match wantedT a o.guard with
    | none => none
    | some false => topsE an b C r (a.put o.dst undT) σ
    | some true => match o.op with
      | .call f args => match gives (args.map a.ev) with
        | some vs => match C b f vs σ with
          | some (.ret v, σ') => topsE an b C r ((frzs a args).tick.put o.dst v) σ'
          | _ => none
        | none => none
      | .callV x args => match gives (args.map a.ev) with
        | some vs => match targetT (a.ev x) vs with
          | some (f, l') => match C b f l' σ with
            | some (.ret v, σ') => topsE an b C r ((frzs a args).tick.put o.dst v) σ'
            | _ => none
          | none => none
        | none => none
      | op => match tdo (an.md o.dst) b a σ op with
        | some (v, a', σ') => topsE an b C r (a'.put o.dst v) σ'
        | none => none
theorem topsD_E (an : Ann) (b : Nat) (C : TCallee) : ∀ (ops : List XOper) (a : TAct) (σ : Sto) (l : List TRec) {a' : TAct} {σ' : Sto}, topsE an b C ops a σ = some (a', σ') → ∃ l', topsD an b C ops a σ l = some (a', σ', l')
  | [], a, σ, l, a', σ', h => by simp only [topsE] at h; cases h; exact ⟨_, rfl⟩
  | ⟨dst, op, guard⟩ :: ops, a, σ, l, a', σ', h => by
    have ih := topsD_E an b C ops
    rw [topsE] at h
    rw [topsD]
    cases hg : wantedT a guard with
    | none => simp only [hg] at h; cases h
    | some c =>
      cases c with
      | false => simp only [hg] at h ⊢; exact ih _ _ _ h
      | true =>
        simp only [hg] at h ⊢
        cases op
        case call f args =>
          simp only at h ⊢
          split at h
          · rename_i vs hgv
            rw [hgv]
            split at h
            · rename_i v σ1 hc
              simp only [hc]; exact ih _ _ _ h
            · cases h
          · cases h
        case callV x args =>
          simp only at h ⊢
          split at h
          · rename_i vs hgv
            rw [hgv]
            split at h
            · rename_i f l' ht
              simp only [ht]
              split at h
              · rename_i v σ1 hc
                simp only [hc]; exact ih _ _ _ h
              · cases h
            · cases h
          · cases h
        all_goals
          simp only at h ⊢
          split at h
          · rename_i v a1 σ1 hd
            simp only [hd]; exact ih _ _ _ h
          · cases h
section
variable (an : Ann) (b : Nat) (C : TCallee) (n : Nat) (Q : TEx → TAct → Sto → Prop)
def TwE (ks : List Kt) (r : Option (TAct × Sto)) : Prop := ∃ a σ, r = some (a, σ) ∧ Cont an b C n Q ks .normal a σ
def TwD (ps : List (Nat × Nat)) (ks : List Kt) (r : Option (TAct × Sto × List TRec)) : Prop := ∃ a σ l, r = some (a, σ, l) ∧ pairsOkT l ps = true ∧ Cont an b C n Q ks .normal a σ
end
section
variable {an : Ann} {b : Nat} {C : TCallee} {n : Nat} {a : TAct} {σ : Sto} {Q : TEx → TAct → Sto → Prop} {ks : List Kt}
theorem twE_some : TwE an b C n Q ks (some (a, σ)) ↔ Cont an b C n Q ks .normal a σ :=
  ⟨fun ⟨_, _, h, q⟩ => by cases h; exact q, fun q => ⟨a, σ, rfl, q⟩⟩
theorem twE_none : TwE an b C n Q ks none ↔ False := ⟨fun ⟨_, _, h, _⟩ => (by cases h), fun h => False.elim h⟩
theorem twD_some {ps : List (Nat × Nat)} {l : List TRec} : TwD an b C n Q ps ks (some (a, σ, l)) ↔ pairsOkT l ps = true ∧ Cont an b C n Q ks .normal a σ :=
  ⟨fun ⟨_, _, _, h, q⟩ => by cases h; exact q, fun q => ⟨a, σ, l, rfl, q⟩⟩
theorem twD_none {ps : List (Nat × Nat)} : TwD an b C n Q ps ks none ↔ False := ⟨fun ⟨_, _, _, h, _⟩ => (by cases h), fun h => False.elim h⟩
theorem topsD_E' : ∀ (ops : List XOper) (a : TAct) (σ : Sto) (l : List TRec) {a' : TAct} {σ' : Sto} {l' : List TRec}, topsD an b C ops a σ l = some (a', σ', l') → topsE an b C ops a σ = some (a', σ')
  | [], a, σ, l, a', σ', l', h => by simp only [topsD] at h; cases h; rfl
  | ⟨dst, op, guard⟩ :: ops, a, σ, l, a', σ', l', h => by
    have ih := @topsD_E' ops
    rw [topsD] at h
    rw [topsE]
    cases hg : wantedT a guard with
    | none => simp only [hg] at h; cases h
    | some c =>
      cases c with
      | false => simp only [hg] at h ⊢; exact ih _ _ _ h
      | true =>
        simp only [hg] at h ⊢
        cases op
        case call f args =>
          simp only at h ⊢
          split at h
          · rename_i vs hgv
            rw [hgv]
            split at h
            · rename_i v σ1 hc
              simp only [hc]; exact ih _ _ _ h
            · cases h
          · cases h
        case callV x args =>
          simp only at h ⊢
          split at h
          · rename_i vs hgv
            rw [hgv]
            split at h
            · rename_i f l' ht
              simp only [ht]
              split at h
              · rename_i v σ1 hc
                simp only [hc]; exact ih _ _ _ h
              · cases h
            · cases h
          · cases h
        all_goals
          simp only at h ⊢
          split at h
          · rename_i v a1 σ1 hd
            simp only [hd]; exact ih _ _ _ h
          · cases h
theorem tw_regionE {ops : List XOper} : Tw an b C n Q ks (tcode an b C n (.regionD ops []) a σ) ↔ TwE an b C n Q ks (topsE an b C ops a σ) := by
  simp only [tcode, pairsOkT]
  constructor
  · rintro ⟨e, a2, σ2, h, q⟩
    split at h
    · rename_i a1 σ1 l hd
      cases h
      exact ⟨_, _, topsD_E' _ _ _ _ hd, q⟩
    · cases h
  · rintro ⟨a1, σ1, h, q⟩
    obtain ⟨l', hl⟩ := topsD_E an b C ops a σ [] h
    rw [hl]
    exact ⟨_, _, _, rfl, q⟩
theorem tw_regionD {ops : List XOper} {p : Nat × Nat} {ps : List (Nat × Nat)} : Tw an b C n Q ks (tcode an b C n (.regionD ops (p :: ps)) a σ) ↔ TwD an b C n Q (p :: ps) ks (topsD an b C ops a σ []) := by
  simp only [tcode]
  constructor
  · rintro ⟨e, a2, σ2, h, q⟩
    split at h
    · rename_i a1 σ1 l hd
      split at h
      · rename_i hp; cases h; exact ⟨_, _, _, hd, hp, q⟩
      · cases h
    · cases h
  · rintro ⟨a1, σ1, l, h, hp, q⟩
    rw [h]
    simp only [hp]
    exact ⟨_, _, _, rfl, q⟩
end
theorem tbin_add (k : IntKind) (a b : Int) : tbin .add (.int k a) (.int k b) = some (.int k (k.wrap (a + b))) := by cases k <;> rfl
theorem tbin_sub (k : IntKind) (a b : Int) : tbin .sub (.int k a) (.int k b) = some (.int k (k.wrap (a - b))) := by cases k <;> rfl
theorem tbin_mul (k : IntKind) (a b : Int) : tbin .mul (.int k a) (.int k b) = some (.int k (k.wrap (a * b))) := by cases k <;> rfl
theorem tbin_eql (k : IntKind) (a b : Int) : tbin .eql (.int k a) (.int k b) = some (.bool (decide (a = b))) := by rw [← beqInt_eq]; cases k <;> rfl
theorem tbin_neq (k : IntKind) (a b : Int) : tbin .neq (.int k a) (.int k b) = some (.bool (!(decide (a = b)))) := by rw [← beqInt_eq]; cases k <;> rfl
theorem tbin_lss (k : IntKind) (a b : Int) : tbin .lss (.int k a) (.int k b) = some (.bool (decide (a < b))) := by rw [← ltInt_eq]; cases k <;> rfl
theorem tbin_gtr (k : IntKind) (a b : Int) : tbin .gtr (.int k a) (.int k b) = some (.bool (decide (b < a))) := by rw [← ltInt_eq]; cases k <;> rfl
theorem tbin_leq (k : IntKind) (a b : Int) : tbin .leq (.int k a) (.int k b) = some (.bool (decide (a ≤ b))) := by
  have h : tbin .leq (.int k a) (.int k b) = some (.bool (leInt a b)) := by cases k <;> rfl
  rw [h, leInt, ltInt_eq]; congr 2; by_cases h : a ≤ b <;> simp [h] <;> omega
theorem tbin_geq (k : IntKind) (a b : Int) : tbin .geq (.int k a) (.int k b) = some (.bool (decide (b ≤ a))) := by
  have h : tbin .geq (.int k a) (.int k b) = some (.bool (leInt b a)) := by cases k <;> rfl
  rw [h, leInt, ltInt_eq]; congr 2; by_cases h : b ≤ a <;> simp [h] <;> omega
theorem beqBytes_spec (x y : List UInt8) : beqBytes x y = decide (x = y) := by
  rw [Xe.beqBytes_eq]
  by_cases h : x = y
  · subst h; simp
  · simp [h]
theorem beqBytes_eq (x y : ByteArray) : beqBytes x.data.toList y.data.toList = decide (x = y) := by
  rw [beqBytes_spec]
  congr 1
  apply propext
  constructor
  · intro h
    have : x.data = y.data := Array.ext' h
    cases x; cases y; simpa using this
  · rintro rfl; rfl
theorem tbin_seql (x y : ByteArray) : tbin .eql (.str x) (.str y) = some (.bool (decide (x = y))) := by rw [← beqBytes_eq]; rfl
theorem tbin_sneq (x y : ByteArray) : tbin .neq (.str x) (.str y) = some (.bool (!(decide (x = y)))) := by rw [← beqBytes_eq]; rfl
theorem bleT (a b : Nat) : Nat.ble a b = decide (a ≤ b) := bleNat a b
theorem bltT (a b : Nat) : Nat.blt a b = decide (a < b) := bltNat a b
theorem beqT (a b : Nat) : Nat.beq a b = decide (a = b) := beqNat a b
theorem wrap_in (n : Int) (h0 : -9223372036854775808 ≤ n) (h1 : n ≤ 9223372036854775807) : IntKind.i64.wrap n = n := Xe.wrap_small n h0 h1
end Go.Xt
end
section
namespace Go.Xe.YtalckpkiplhbcaaGreatDoor
open Go Go.Xe Go.Xt
@[simp] def a5 : Ann := fun d => if d = 2 then 1 else if d = 12 then 1 else if d = 19 then 1 else if d = 26 then 1 else 0
def f5 : TFun := ⟨x5, a5, false⟩
@[simp] theorem f5_an : f5.an = a5 := rfl
@[simp] theorem f5_body : f5.fn.body = x5.body := rfl
@[simp] theorem f5_keep : f5.keep = false := rfl
@[simp] theorem f5_res : f5.fn.results = [.tmp 2] := rfl
@[simp] def a6 : Ann := fun d => if d = 4 then 1 else if d = 5 then 1 else if d = 6 then 1 else if d = 11 then 1 else if d = 17 then 1 else if d = 18 then 2 else if d = 20 then 2 else if d = 27 then 2 else if d = 29 then 2 else if d = 34 then 1 else if d = 35 then 2 else if d = 36 then 2 else if d = 39 then 2 else if d = 47 then 2 else if d = 48 then 2 else if d = 50 then 2 else if d = 51 then 2 else 0
def f6 : TFun := ⟨x6, a6, false⟩
@[simp] theorem f6_an : f6.an = a6 := rfl
@[simp] theorem f6_body : f6.fn.body = x6.body := rfl
@[simp] theorem f6_keep : f6.keep = false := rfl
@[simp] theorem f6_res : f6.fn.results = [.tmp 4] := rfl
@[simp] def a7 : Ann := fun d => if d = 4 then 1 else if d = 5 then 1 else if d = 6 then 1 else if d = 7 then 2 else if d = 11 then 2 else if d = 17 then 2 else if d = 18 then 2 else if d = 20 then 2 else if d = 21 then 2 else 0
def f7 : TFun := ⟨x7, a7, false⟩
@[simp] theorem f7_an : f7.an = a7 := rfl
@[simp] theorem f7_body : f7.fn.body = x7.body := rfl
@[simp] theorem f7_keep : f7.keep = false := rfl
@[simp] theorem f7_res : f7.fn.results = [.tmp 4] := rfl
@[simp] def a15 : Ann := fun d => if d = 4 then 1 else if d = 6 then 2 else if d = 8 then 2 else 0
def f15 : TFun := ⟨x15, a15, false⟩
@[simp] theorem f15_an : f15.an = a15 := rfl
@[simp] theorem f15_body : f15.fn.body = x15.body := rfl
@[simp] theorem f15_keep : f15.keep = false := rfl
@[simp] theorem f15_res : f15.fn.results = [.tmp 4] := rfl
@[simp] def a16 : Ann := fun d => if d = 5 then 1 else if d = 11 then 2 else if d = 15 then 2 else if d = 20 then 2 else if d = 24 then 2 else 0
def f16 : TFun := ⟨x16, a16, false⟩
@[simp] theorem f16_an : f16.an = a16 := rfl
@[simp] theorem f16_body : f16.fn.body = x16.body := rfl
@[simp] theorem f16_keep : f16.keep = false := rfl
@[simp] theorem f16_res : f16.fn.results = [.tmp 4] := rfl
@[simp] def a17 : Ann := fun d => if d = 2 then 1 else if d = 3 then 1 else if d = 7 then 2 else if d = 10 then 2 else if d = 13 then 2 else if d = 15 then 1 else if d = 19 then 1 else if d = 24 then 1 else 0
def f17 : TFun := ⟨x17, a17, false⟩
@[simp] theorem f17_an : f17.an = a17 := rfl
@[simp] theorem f17_body : f17.fn.body = x17.body := rfl
@[simp] theorem f17_keep : f17.keep = false := rfl
@[simp] theorem f17_res : f17.fn.results = [.tmp 2] := rfl
@[simp] def a18 : Ann := fun d => if d = 2 then 1 else if d = 3 then 1 else if d = 4 then 1 else if d = 6 then 2 else if d = 8 then 1 else if d = 10 then 2 else if d = 13 then 2 else if d = 18 then 2 else if d = 20 then 1 else if d = 28 then 1 else 0
def f18 : TFun := ⟨x18, a18, false⟩
@[simp] theorem f18_an : f18.an = a18 := rfl
@[simp] theorem f18_body : f18.fn.body = x18.body := rfl
@[simp] theorem f18_keep : f18.keep = false := rfl
@[simp] theorem f18_res : f18.fn.results = [.tmp 2] := rfl
@[simp] def a19 : Ann := fun d => if d = 2 then 1 else if d = 3 then 3 else if d = 6 then 2 else if d = 8 then 2 else 0
def f19 : TFun := ⟨x19, a19, true⟩
@[simp] theorem f19_an : f19.an = a19 := rfl
@[simp] theorem f19_body : f19.fn.body = x19.body := rfl
@[simp] theorem f19_keep : f19.keep = true := rfl
@[simp] theorem f19_res : f19.fn.results = [.tmp 2] := rfl
@[simp] def a20 : Ann := fun d => if d = 2 then 1 else if d = 3 then 1 else if d = 4 then 1 else if d = 5 then 1 else if d = 6 then 1 else if d = 7 then 1 else if d = 9 then 2 else if d = 11 then 2 else if d = 13 then 2 else if d = 15 then 2 else if d = 20 then 2 else if d = 22 then 2 else if d = 36 then 2 else if d = 40 then 2 else if d = 45 then 2 else if d = 47 then 2 else if d = 48 then 2 else if d = 51 then 2 else if d = 55 then 2 else if d = 57 then 1 else 0
def f20 : TFun := ⟨x20, a20, false⟩
@[simp] theorem f20_an : f20.an = a20 := rfl
@[simp] theorem f20_body : f20.fn.body = x20.body := rfl
@[simp] theorem f20_keep : f20.keep = false := rfl
@[simp] theorem f20_res : f20.fn.results = [.tmp 2] := rfl
@[simp] def a21 : Ann := fun d => if d = 2 then 1 else if d = 3 then 1 else if d = 7 then 2 else if d = 9 then 1 else if d = 13 then 2 else if d = 18 then 1 else 0
def f21 : TFun := ⟨x21, a21, false⟩
@[simp] theorem f21_an : f21.an = a21 := rfl
@[simp] theorem f21_body : f21.fn.body = x21.body := rfl
@[simp] theorem f21_keep : f21.keep = false := rfl
@[simp] theorem f21_res : f21.fn.results = [.tmp 2] := rfl
@[simp] def a22 : Ann := fun d => if d = 2 then 1 else if d = 3 then 1 else if d = 4 then 1 else if d = 5 then 2 else if d = 10 then 2 else if d = 12 then 2 else if d = 20 then 1 else 0
def f22 : TFun := ⟨x22, a22, false⟩
@[simp] theorem f22_an : f22.an = a22 := rfl
@[simp] theorem f22_body : f22.fn.body = x22.body := rfl
@[simp] theorem f22_keep : f22.keep = false := rfl
@[simp] theorem f22_res : f22.fn.results = [.tmp 2] := rfl
@[simp] def a23 : Ann := fun d => if d = 4 then 1 else if d = 5 then 1 else if d = 6 then 1 else if d = 7 then 2 else if d = 11 then 2 else if d = 17 then 2 else if d = 18 then 2 else if d = 20 then 2 else if d = 21 then 2 else 0
def f23 : TFun := ⟨x23, a23, false⟩
@[simp] theorem f23_an : f23.an = a23 := rfl
@[simp] theorem f23_body : f23.fn.body = x23.body := rfl
@[simp] theorem f23_keep : f23.keep = false := rfl
@[simp] theorem f23_res : f23.fn.results = [.tmp 4] := rfl
@[simp] def a24 : Ann := fun d => if d = 1 then 1 else if d = 6 then 1 else if d = 7 then 1 else if d = 8 then 2 else if d = 14 then 2 else if d = 20 then 2 else if d = 22 then 2 else if d = 27 then 1 else if d = 28 then 2 else if d = 29 then 2 else if d = 32 then 2 else if d = 39 then 2 else if d = 40 then 2 else if d = 42 then 1 else 0
def f24 : TFun := ⟨x24, a24, false⟩
@[simp] theorem f24_an : f24.an = a24 := rfl
@[simp] theorem f24_body : f24.fn.body = x24.body := rfl
@[simp] theorem f24_keep : f24.keep = false := rfl
@[simp] theorem f24_res : f24.fn.results = [.tmp 6] := rfl
@[simp] def a25 : Ann := fun d => if d = 1 then 1 else if d = 6 then 1 else if d = 7 then 1 else if d = 8 then 2 else if d = 10 then 2 else if d = 15 then 1 else if d = 16 then 2 else if d = 17 then 2 else if d = 20 then 2 else if d = 27 then 2 else if d = 28 then 2 else if d = 30 then 1 else 0
def f25 : TFun := ⟨x25, a25, false⟩
@[simp] theorem f25_an : f25.an = a25 := rfl
@[simp] theorem f25_body : f25.fn.body = x25.body := rfl
@[simp] theorem f25_keep : f25.keep = false := rfl
@[simp] theorem f25_res : f25.fn.results = [.tmp 6] := rfl
@[simp] def a41 : Ann := fun d => if d = 6 then 1 else if d = 7 then 1 else if d = 9 then 1 else if d = 10 then 1 else if d = 12 then 2 else if d = 14 then 1 else if d = 15 then 2 else if d = 17 then 2 else if d = 21 then 2 else if d = 22 then 2 else if d = 24 then 1 else if d = 26 then 2 else if d = 28 then 3 else if d = 31 then 2 else if d = 32 then 1 else if d = 35 then 2 else if d = 38 then 1 else if d = 41 then 2 else if d = 43 then 1 else if d = 45 then 1 else if d = 48 then 1 else if d = 49 then 2 else if d = 51 then 1 else if d = 52 then 1 else if d = 59 then 2 else if d = 61 then 2 else if d = 62 then 1 else if d = 64 then 1 else if d = 66 then 2 else if d = 67 then 2 else if d = 70 then 2 else if d = 72 then 1 else if d = 74 then 2 else if d = 75 then 2 else if d = 81 then 2 else if d = 82 then 2 else 0
def f41 : TFun := ⟨x41, a41, true⟩
@[simp] theorem f41_an : f41.an = a41 := rfl
@[simp] theorem f41_body : f41.fn.body = x41.body := rfl
@[simp] theorem f41_keep : f41.keep = true := rfl
@[simp] theorem f41_res : f41.fn.results = [] := rfl
@[simp] def a44 : Ann := fun d => if d = 4 then 1 else if d = 5 then 1 else if d = 7 then 1 else if d = 8 then 2 else if d = 12 then 2 else if d = 14 then 2 else if d = 16 then 1 else if d = 17 then 2 else if d = 21 then 2 else if d = 24 then 2 else if d = 28 then 2 else if d = 30 then 1 else if d = 31 then 1 else if d = 34 then 1 else if d = 38 then 2 else if d = 41 then 2 else if d = 43 then 1 else if d = 44 then 1 else if d = 47 then 1 else 0
def f44 : TFun := ⟨x44, a44, false⟩
@[simp] theorem f44_an : f44.an = a44 := rfl
@[simp] theorem f44_body : f44.fn.body = x44.body := rfl
@[simp] theorem f44_keep : f44.keep = false := rfl
@[simp] theorem f44_res : f44.fn.results = [.tmp 4] := rfl
@[simp] def a45 : Ann := fun d => if d = 2 then 1 else if d = 3 then 1 else if d = 5 then 2 else if d = 7 then 1 else if d = 9 then 2 else if d = 11 then 1 else if d = 13 then 2 else if d = 16 then 1 else if d = 18 then 2 else if d = 21 then 1 else 0
def f45 : TFun := ⟨x45, a45, false⟩
@[simp] theorem f45_an : f45.an = a45 := rfl
@[simp] theorem f45_body : f45.fn.body = x45.body := rfl
@[simp] theorem f45_keep : f45.keep = false := rfl
@[simp] theorem f45_res : f45.fn.results = [.tmp 2] := rfl
@[simp] def a46 : Ann := fun d => if d = 7 then 1 else if d = 8 then 2 else if d = 9 then 2 else if d = 11 then 2 else if d = 13 then 2 else if d = 14 then 2 else if d = 17 then 2 else if d = 18 then 2 else if d = 20 then 2 else 0
def f46 : TFun := ⟨x46, a46, false⟩
@[simp] theorem f46_an : f46.an = a46 := rfl
@[simp] theorem f46_body : f46.fn.body = x46.body := rfl
@[simp] theorem f46_keep : f46.keep = false := rfl
@[simp] theorem f46_res : f46.fn.results = [.tmp 6] := rfl
@[simp] def a47 : Ann := fun d => if d = 1 then 1 else if d = 6 then 1 else if d = 7 then 1 else if d = 8 then 2 else if d = 10 then 2 else if d = 15 then 1 else if d = 16 then 2 else if d = 17 then 2 else if d = 20 then 2 else if d = 27 then 2 else if d = 28 then 2 else if d = 30 then 1 else 0
def f47 : TFun := ⟨x47, a47, false⟩
@[simp] theorem f47_an : f47.an = a47 := rfl
@[simp] theorem f47_body : f47.fn.body = x47.body := rfl
@[simp] theorem f47_keep : f47.keep = false := rfl
@[simp] theorem f47_res : f47.fn.results = [.tmp 6] := rfl
@[simp] def a66 : Ann := fun d => if d = 4 then 1 else if d = 5 then 2 else if d = 6 then 2 else 0
def f66 : TFun := ⟨x66, a66, false⟩
@[simp] theorem f66_an : f66.an = a66 := rfl
@[simp] theorem f66_body : f66.fn.body = x66.body := rfl
@[simp] theorem f66_keep : f66.keep = false := rfl
@[simp] theorem f66_res : f66.fn.results = [.tmp 4] := rfl
@[simp] def a67 : Ann := fun d => if d = 2 then 1 else if d = 5 then 3 else 0
def f67 : TFun := ⟨x67, a67, true⟩
@[simp] theorem f67_an : f67.an = a67 := rfl
@[simp] theorem f67_body : f67.fn.body = x67.body := rfl
@[simp] theorem f67_keep : f67.keep = true := rfl
@[simp] theorem f67_res : f67.fn.results = [.tmp 2] := rfl
@[simp] def a111 : Ann := fun d => if d = 4 then 1 else if d = 5 then 1 else if d = 8 then 1 else if d = 10 then 1 else if d = 11 then 2 else if d = 15 then 2 else if d = 17 then 1 else 0
def f111 : TFun := ⟨x111, a111, false⟩
@[simp] theorem f111_an : f111.an = a111 := rfl
@[simp] theorem f111_body : f111.fn.body = x111.body := rfl
@[simp] theorem f111_keep : f111.keep = false := rfl
@[simp] theorem f111_res : f111.fn.results = [.tmp 4] := rfl
end Go.Xe.YtalckpkiplhbcaaGreatDoor
end
section
namespace Go.Xt
open Go Go.Xe
set_option linter.unusedVariables false
attribute [simp] Function.comp_def small Xe.ones tops wantedT tdo TAct.ev TAct.at TAct.put TAct.tick taken isOwn frz frz1 frzs Tri.ofList Tri.get_set Tri.get_nil TV.cells onesT stok Ann.md ofV ofV.ofVs boxAt boxPut tLoad1 tLoadN tStore tMove tLen tVal tNew
  tIndex tSlice srcT tAppend tAppNew apm slOk bytesSrc Md.app plGet velAt plSet ownChs reSl give gives fillT putAt chop repT boundT optB hiB boundsT tLookup tMapUpdate targetT enterT tres tresults packedT tleave tfinish canon canon.canons below below.belows
  below.belowss okSz tun teq teqs baseOk Pl.old baseOf Pl.offX isStr
  topsE topsD pairsOkT pairOkT freeT stays stayB sepT kindOf twE_some twE_none twD_some twD_none tw_regionE tw_regionD
  tw_some tw_none tw_nil tw_k tw_k_exit tw_k_ret tw_k_panic tw_b tw_b_ret tw_b_panic tw_b_exit tw_seq tw_block tw_cond twc_true twc_false tw_skip tw_exit tw_ret tw_region
  tbin_add tbin_sub tbin_mul tbin_eql tbin_neq tbin_lss tbin_gtr tbin_leq tbin_geq tbin_seql tbin_sneq bleT bltT beqT
def Fin (fn : TFun) (k : Nat) (P : TEnd → Sto → Prop) : TEx → TAct → Sto → Prop
  | .normal, a, σ => a.df = [] ∧ ∃ e σ', tfinish a fn k σ .ret = some (e, σ') ∧ P e σ'
  | .ret, a, σ => a.df = [] ∧ ∃ e σ', tfinish a fn k σ .ret = some (e, σ') ∧ P e σ'
  | .panic v, a, σ => a.df = [] ∧ ∃ e σ', tfinish a fn k σ (.panicking v) = some (e, σ') ∧ P e σ'
  | .exit _, _, _ => False
theorem fin_normal (fn : TFun) (k : Nat) (P : TEnd → Sto → Prop) (a : TAct) (σ : Sto) : Fin fn k P .normal a σ ↔ a.df = [] ∧ ∃ e σ', tfinish a fn k σ .ret = some (e, σ') ∧ P e σ' := Iff.rfl
theorem fin_ret (fn : TFun) (k : Nat) (P : TEnd → Sto → Prop) (a : TAct) (σ : Sto) : Fin fn k P .ret a σ ↔ a.df = [] ∧ ∃ e σ', tfinish a fn k σ .ret = some (e, σ') ∧ P e σ' := Iff.rfl
theorem fin_panic (fn : TFun) (k : Nat) (P : TEnd → Sto → Prop) (v : TV) (a : TAct) (σ : Sto) : Fin fn k P (.panic v) a σ ↔ a.df = [] ∧ ∃ e σ', tfinish a fn k σ (.panicking v) = some (e, σ') ∧ P e σ' := Iff.rfl
attribute [simp] fin_normal fin_ret fin_panic
@[simp] theorem ex2 {α β : Type} {x : α} {y : β} {P : α → β → Prop} : (∃ e s, (x = e ∧ y = s) ∧ P e s) ↔ P x y :=
  ⟨fun ⟨_, _, ⟨h1, h2⟩, h⟩ => by subst h1; subst h2; exact h, fun h => ⟨x, y, ⟨rfl, rfl⟩, h⟩⟩
theorem tcall_of {F : FuncId → Option TFun} {O : FuncId → List TV → Option TV} {N b : Nat} {f : FuncId} {args : List TV} {σ : Sto} {fn : TFun} (hF : F f = some fn) {P : TEnd → Sto → Prop}
    (h : Tw fn.an (baseOf fn.keep b σ.length) (tcall F O N) N (Fin fn σ.length P) [] (tcode fn.an (baseOf fn.keep b σ.length) (tcall F O N) N fn.fn.body (enterT args) σ)) :
    ∃ e σ', tcall F O (N + 1) b f args σ = some (e, σ') ∧ P e σ' := by
  obtain ⟨e, a, σ1, h1, h2⟩ := h
  simp only [tcall, hF]
  cases e with
  | normal => obtain ⟨h3, e, σ', h4, h5⟩ := h2; refine ⟨e, σ', ?_, h5⟩; rw [h1]; simp only [h3, tdefers]; exact h4
  | ret => obtain ⟨h3, e, σ', h4, h5⟩ := h2; refine ⟨e, σ', ?_, h5⟩; rw [h1]; simp only [h3, tdefers]; exact h4
  | panic v => obtain ⟨h3, e, σ', h4, h5⟩ := h2; refine ⟨e, σ', ?_, h5⟩; rw [h1]; simp only [h3, tdefers]; exact h4
  | exit id => exact h2.elim
theorem tcall_pure {F : FuncId → Option TFun} {O : FuncId → List TV → Option TV} {N b : Nat} {f : FuncId} {args : List TV} {σ : Sto} {fn : TFun} (hF : F f = some fn) {v : TV}
    (h : Tw fn.an (baseOf fn.keep b σ.length) (tcall F O N) N (Fin fn σ.length fun e σ' => e = .ret v ∧ σ' = σ) [] (tcode fn.an (baseOf fn.keep b σ.length) (tcall F O N) N fn.fn.body (enterT args) σ)) :
    tcall F O (N + 1) b f args σ = some (.ret v, σ) := by
  obtain ⟨e, σ', h1, rfl, rfl⟩ := tcall_of hF h
  exact h1
theorem below_map {α : Type} (b : Nat) (f : α → List TV) (h : ∀ x, below.belows b (f x) = true) : ∀ l : List α, below.belowss b (l.map f) = true
  | [] => rfl
  | x :: l => by simp only [List.map_cons, below.belowss, h, below_map b f h l, Bool.and_self]
theorem below_encI (b : Nat) (s : Int) : below.belows b (encI s) = true := rfl
@[simp] theorem all_tt {α : Type} (l : List α) : (l.all fun _ => true) = true := List.all_eq_true.2 fun _ _ => rfl
@[simp] theorem any_ff {α : Type} (l : List α) : (l.any fun _ => false) = false := List.any_eq_false.2 fun _ _ => by simp
@[simp] theorem take_set_len (σ : Sto) (i : Nat) (x : Option TObj) : List.take (List.length σ) (List.set σ i x) = List.set σ i x := List.take_of_length_le (by simp)
@[simp] theorem take_app_len (σ τ : Sto) : List.take (List.length σ) (σ ++ τ) = σ := by simp
@[simp] theorem take_map_len {α β : Type} (f : α → β) (l : List α) : List.take l.length (l.map f) = l.map f := List.take_of_length_le (by simp)
theorem Sto.lt {σ : Sto} {k : Nat} {o : TObj} (h : σ.at k = some o) : k < σ.length := by
  unfold Sto.at at h
  split at h
  · rename_i x hx; exact (List.getElem?_eq_some_iff.1 hx).1
  · cases h
theorem at_ne {σ : Sto} {k j : Nat} {o : Option TObj} (h : k ≠ j) : Sto.at (σ.set k o) j = σ.at j := by simp only [Sto.at]; rw [List.getElem?_set_ne h]
inductive Bld (e s : Nat) : List (List TV) → TV → Prop
  | nl : Bld e s [] (.sl .nl [])
  | own (l : List (List TV)) : Bld e s l (.sl (.own e s) l)
theorem Bld.inv {e s : Nat} {l : List (List TV)} {v : TV} (h : Bld e s l v) : (l = [] ∧ v = .sl .nl []) ∨ v = .sl (.own e s) l := by
  cases h
  · exact .inl ⟨rfl, rfl⟩
  · exact .inr rfl
end Go.Xt
end
section
namespace Go.Xt
open Go Go.Xe
set_option linter.unusedVariables false
set_option linter.unusedSimpArgs false
inductive PVal where
  | mk (kind n : Int) (list : List PVal)
namespace PVal
def kind : PVal → Int | .mk k _ _ => k
def n : PVal → Int | .mk _ n _ => n
def list : PVal → List PVal | .mk _ _ l => l
end PVal
inductive PTerm where
  | mk (kind n m : Int) (val : PVal) (odds : List Int) (kids : List PTerm)
namespace PTerm
def kind : PTerm → Int | .mk k _ _ _ _ _ => k
def n : PTerm → Int | .mk _ n _ _ _ _ => n
def m : PTerm → Int | .mk _ _ m _ _ _ => m
def val : PTerm → PVal | .mk _ _ _ v _ _ => v
def odds : PTerm → List Int | .mk _ _ _ _ o _ => o
def kids : PTerm → List PTerm | .mk _ _ _ _ _ l => l
end PTerm
mutual
def encV : PVal → List TV
  | .mk k n l => [.int .i64 k, .int .i64 n, .sl .fz (encVs l)]
def encVs : List PVal → List (List TV)
  | [] => []
  | t :: l => encV t :: encVs l
end
theorem encVs_eq : ∀ l, encVs l = l.map encV
  | [] => rfl
  | t :: l => by simp only [encVs, List.map_cons, encVs_eq l]
theorem encV_def (t : PVal) : encV t = [.int .i64 t.kind, .int .i64 t.n, .sl .fz (t.list.map encV)] := by cases t; simp only [encV, encVs_eq, PVal.kind, PVal.n, PVal.list]
mutual
def encTm : PTerm → List TV
  | .mk k n m v o l => .int .i64 k :: .int .i64 n :: .int .i64 m :: (encV v ++ [.sl .fz (o.map encI), .sl .fz (encTms l)])
def encTms : List PTerm → List (List TV)
  | [] => []
  | t :: l => encTm t :: encTms l
end
theorem encTms_eq : ∀ l, encTms l = l.map encTm
  | [] => rfl
  | t :: l => by simp only [encTms, List.map_cons, encTms_eq l]
theorem encTm_mk (t : PTerm) : encTm t = .int .i64 t.kind :: .int .i64 t.n :: .int .i64 t.m :: (encV t.val ++ [.sl .fz (t.odds.map encI), .sl .fz (t.kids.map encTm)]) := by
  cases t; simp only [encTm, encTms_eq, PTerm.kind, PTerm.n, PTerm.m, PTerm.val, PTerm.odds, PTerm.kids]
theorem encTm_def (t : PTerm) : encTm t = [.int .i64 t.kind, .int .i64 t.n, .int .i64 t.m, .int .i64 t.val.kind, .int .i64 t.val.n, .sl .fz (t.val.list.map encV), .sl .fz (t.odds.map encI), .sl .fz (t.kids.map encTm)] := by
  rw [encTm_mk, encV_def]; rfl
mutual
def szV : PVal → Nat
  | .mk _ _ l => szVs l + 4
def szVs : List PVal → Nat
  | [] => 0
  | t :: l => szV t + 1 + szVs l
end
mutual
def szTm : PTerm → Nat
  | .mk _ _ _ v o l => szTms l + szV v + o.length + 8
def szTms : List PTerm → Nat
  | [] => 0
  | t :: l => szTm t + 1 + szTms l
end
theorem szVs_len : ∀ l, l.length ≤ szVs l
  | [] => Nat.le_refl _
  | t :: l => by simp only [szVs, List.length_cons]; have := szVs_len l; omega
theorem szVs_mem : ∀ (l : List PVal) (t : PVal), t ∈ l → szV t + 1 ≤ szVs l
  | [], t, h => by cases h
  | x :: l, t, h => by
    simp only [szVs]
    rcases List.mem_cons.1 h with rfl | h
    · omega
    · have := szVs_mem l t h; omega
theorem szTms_len : ∀ l, l.length ≤ szTms l
  | [] => Nat.le_refl _
  | t :: l => by simp only [szTms, List.length_cons]; have := szTms_len l; omega
theorem szTms_mem : ∀ (l : List PTerm) (t : PTerm), t ∈ l → szTm t + 1 ≤ szTms l
  | [], t, h => by cases h
  | x :: l, t, h => by
    simp only [szTms]
    rcases List.mem_cons.1 h with rfl | h
    · omega
    · have := szTms_mem l t h; omega
theorem szV_def (t : PVal) : szV t = szVs t.list + 4 := by cases t; simp only [szV, PVal.list]
theorem szTm_def (t : PTerm) : szTm t = szTms t.kids + szV t.val + t.odds.length + 8 := by cases t; simp only [szTm, PTerm.kids, PTerm.val, PTerm.odds]
inductive OkV : PVal → Prop
  | mk {k n : Int} {l : List PVal} : I64 k → I64 n → l.length ≤ maxLen → (∀ t ∈ l, OkV t) → OkV (.mk k n l)
theorem OkV.kind {t : PVal} (h : OkV t) : I64 t.kind := by cases h; assumption
theorem OkV.n {t : PVal} (h : OkV t) : I64 t.n := by cases h; assumption
theorem OkV.len {t : PVal} (h : OkV t) : t.list.length ≤ maxLen := by cases h; assumption
theorem OkV.sub {t : PVal} (h : OkV t) : ∀ x ∈ t.list, OkV x := by cases h; assumption
inductive OkTm : PTerm → Prop
  | mk {k n m : Int} {v : PVal} {o : List Int} {l : List PTerm} : I64 k → I64 n → I64 m → OkV v → o.length ≤ maxLen → (∀ x ∈ o, I64 x) → l.length ≤ maxLen → (∀ t ∈ l, OkTm t) → OkTm (.mk k n m v o l)
theorem OkTm.kind {t : PTerm} (h : OkTm t) : I64 t.kind := by cases h; assumption
theorem OkTm.n {t : PTerm} (h : OkTm t) : I64 t.n := by cases h; assumption
theorem OkTm.m {t : PTerm} (h : OkTm t) : I64 t.m := by cases h; assumption
theorem OkTm.val {t : PTerm} (h : OkTm t) : OkV t.val := by cases h; assumption
theorem OkTm.odds {t : PTerm} (h : OkTm t) : ∀ x ∈ t.odds, I64 x := by cases h; assumption
theorem OkTm.len {t : PTerm} (h : OkTm t) : t.kids.length ≤ maxLen := by cases h; assumption
theorem OkTm.sub {t : PTerm} (h : OkTm t) : ∀ x ∈ t.kids, OkTm x := by cases h; assumption
structure ApiC (P : Program) extends ApiT P where
  val : TypeId
  vals : TypeId
  term : TypeId
  terms : TypeId
  body : TypeId
  bodies : TypeId
  core : TypeId
  hval : IsSt P val 3 [(0, int, 1), (1, int, 1), (2, vals, 1)]
  hvals : P.underlying vals = some (.slice val)
  hterm : IsSt P term 8 [(0, int, 1), (1, int, 1), (2, int, 1), (3, val, 3), (6, ints, 1), (7, terms, 1)]
  hterms : P.underlying terms = some (.slice term)
  hbody : IsSt P body 10 [(0, int, 1), (1, int, 1), (2, term, 8)]
  hbodies : P.underlying bodies = some (.slice body)
  hcore : IsSt P core 13 [(0, typs, 1), (1, bodies, 1), (2, body, 10), (12, int, 1)]
theorem len3 {α : Type} {l : List α} (h : l.length = 3) : ∃ a b c, l = [a, b, c] := by
  match l, h with | [a, b, c], _ => exact ⟨a, b, c, rfl⟩
section
variable {P : Program} (A : ApiC P)
theorem sh_val : ∀ (n : Nat) (l : List TV), SizeOf.sizeOf l < n → Sh P A.val l → ∃ t, l = encV t ∧ OkV t
  | 0, l, hn, h => by omega
  | n + 1, l, hn, h => by
    obtain ⟨h1, h2⟩ := h.st A.hval
    obtain ⟨a, b, c, rfl⟩ := len3 h1
    obtain ⟨k, q1, w1⟩ := (h2 (0, A.int, 1) (by simp)).intOf A.hint
    obtain ⟨m, q2, w2⟩ := (h2 (1, A.int, 1) (by simp)).intOf A.hint
    obtain ⟨chs, q3, q4, q5⟩ := (h2 (2, A.vals, 1) (by simp)).sliceOf A.hvals
    simp at q1 q2 q3
    subst q1 q2 q3
    obtain ⟨l, rfl, hm⟩ := map_of (f := encV) (R := OkV) chs (fun c hc => sh_val n c (by
      have := sz_head (l := [TV.int .i64 k, TV.int .i64 m, .sl .fz chs]) hc .fz (by simp)
      omega) (q5 c hc))
    exact ⟨.mk k m l, by rw [encV_def]; rfl, .mk (i64_wf w1) (i64_wf w2) (by simpa using q4) hm⟩
theorem sh_term : ∀ (n : Nat) (l : List TV), SizeOf.sizeOf l < n → Sh P A.term l → ∃ t, l = encTm t ∧ OkTm t
  | 0, l, hn, h => by omega
  | n + 1, l, hn, h => by
    obtain ⟨h1, h2⟩ := h.st A.hterm
    obtain ⟨a0, a1, a2, a3, a4, a5, a6, a7, rfl⟩ := len8 h1
    obtain ⟨k0, p0, w0⟩ := (h2 (0, A.int, 1) (by simp)).intOf A.hint
    obtain ⟨k1, p1, w1⟩ := (h2 (1, A.int, 1) (by simp)).intOf A.hint
    obtain ⟨k2, p2, w2⟩ := (h2 (2, A.int, 1) (by simp)).intOf A.hint
    obtain ⟨v, p3, w3⟩ := sh_val A _ _ (Nat.lt_succ_self _) (h2 (3, A.val, 3) (by simp))
    obtain ⟨c4, p4, w4, x4⟩ := (h2 (6, A.ints, 1) (by simp)).sliceOf A.hints
    obtain ⟨c5, p5, w5, x5⟩ := (h2 (7, A.terms, 1) (by simp)).sliceOf A.hterms
    simp at p0 p1 p2 p3 p4 p5
    subst p0 p1 p2 p4 p5
    obtain ⟨m4, rfl, y4⟩ := map_of (f := encI) (R := I64) c4 (fun c hc => by
      obtain ⟨n, e1, e2⟩ := (x4 c hc).intOf A.hint
      exact ⟨n, e1, i64_wf e2⟩)
    obtain ⟨m5, rfl, y5⟩ := map_of (f := encTm) (R := OkTm) c5 (fun c hc => sh_term n c (by
      have := sz_head hc (l := [TV.int .i64 k0, .int .i64 k1, .int .i64 k2, a3, a4, a5, .sl .fz (m4.map encI), .sl .fz c5]) .fz (by simp)
      omega) (x5 c hc))
    refine ⟨.mk k0 k1 k2 v m4 m5, ?_, .mk (i64_wf w0) (i64_wf w1) (i64_wf w2) w3 (by simpa using w4) y4 (by simpa using w5) y5⟩
    rw [encTm_mk]
    simp only [PTerm.kind, PTerm.n, PTerm.m, PTerm.val, PTerm.odds, PTerm.kids, ← p3, List.cons_append, List.nil_append]
end
end Go.Xt
end
section
namespace Go.Xt
open Go Go.Xe
set_option linter.unusedVariables false
end Go.Xt
end
section
namespace Go.Xt
open Go Go.Xe
set_option linter.unusedVariables false
inductive QTyp where
  | mk (kind : Int) (nl : Bool) (list : List QTyp)
namespace QTyp
def kind : QTyp → Int | .mk k _ _ => k
def nl : QTyp → Bool | .mk _ b _ => b
def list : QTyp → List QTyp | .mk _ _ l => l
end QTyp
inductive OkQ : QTyp → Prop
  | mk {k : Int} {b : Bool} {l : List QTyp} : I64 k → (b = true → l = []) → l.length ≤ maxLen → (∀ t ∈ l, OkQ t) → OkQ (.mk k b l)
theorem OkQ.kind {t : QTyp} (h : OkQ t) : I64 t.kind := by cases h; assumption
theorem OkQ.nl {t : QTyp} (h : OkQ t) : t.nl = true → t.list = [] := by cases h; assumption
theorem OkQ.len {t : QTyp} (h : OkQ t) : t.list.length ≤ maxLen := by cases h; assumption
theorem OkQ.sub {t : QTyp} (h : OkQ t) : ∀ x ∈ t.list, OkQ x := by cases h; assumption
end Go.Xt
end
section
namespace Go.Xe.YtalckpkiplhbcaaGreatDoor
open Go Go.Xe Go.Xt
set_option linter.unusedVariables false
set_option linter.unusedSimpArgs false
variable {F : FuncId → Option TFun} {O : FuncId → List TV → Option TV}
theorem wrapJ {j n : Nat} (h : j < n) (hn : n ≤ maxLen) : IntKind.i64.wrap ((j : Int) + 1) = ((j + 1 : Nat) : Int) := by
  unfold maxLen at hn
  rw [wrap_in] <;> omega
theorem valSize_t (hF : F 25 = some f25) : ∀ (N : Nat) (e : PVal) (b : Nat) (σ : Sto) (m most : Int), szV e ≤ N → OkV e →
    ∃ r : Int, tcall F O N b 25 [.agg (encV e), .int .i64 m, .int .i64 most] σ = some (.ret (.int .i64 r), σ)
  | 0, e, b, σ, m, most, h, _ => by rw [szV_def] at h; omega
  | N + 1, e, b, σ, m, most, h, hb => by
    have ih := valSize_t hF N
    have hk := szVs_len e.list
    have hs := szV_def e
    suffices hh : ∃ e' σ', tcall F O (N + 1) b 25 [.agg (encV e), .int .i64 m, .int .i64 most] σ = some (e', σ') ∧ ∃ r : Int, e' = .ret (.int .i64 r) ∧ σ' = σ by
      obtain ⟨e', σ', h1, r, rfl, rfl⟩ := hh
      exact ⟨r, h1⟩
    refine tcall_of hF ?_
    simp [x25, encV_def]
    refine tw_loop (I := fun j a σ' => a.df = [] ∧ σ' = σ ∧ ∃ acc : Int, a.tm.get 1 = some (.int .i64 acc) ∧ a.tm.get 2 = some (.int .i64 most) ∧ a.tm.get 3 = some (.bx 0 (encV e) 26) ∧ a.tm.get 7 = some (.int .i64 j)) e.list.length
      (R := fun ex a σ' => ex = .exit 0 ∧ a.df = [] ∧ σ' = σ ∧ ∃ acc : Int, a.tm.get 1 = some (.int .i64 acc)) ?_ ?_ ?_ ?_ ?_
    · simp [encV_def]
    · omega
    · rintro j ⟨tm, df, clk⟩ σ' hj ⟨rfl, rfl, acc, h1, h2, h3, h7⟩
      have hm := szVs_mem e.list e.list[j] (List.getElem_mem hj)
      have hw := wrapJ hj hb.len
      obtain ⟨r, hc⟩ := ih e.list[j] σ'.length σ' acc most (by omega) (hb.sub _ (List.getElem_mem hj))
      rw [encV_def] at h3 hc
      by_cases ha : acc ≤ most
      · simp [h1, h2, h3, h7, hj, ha, hc, hw, encV_def]
      · simp [h1, h2, h3, h7, hj, ha]
    · rintro ⟨tm, df, clk⟩ σ' ⟨rfl, rfl, acc, h1, h2, h3, h7⟩
      rw [encV_def] at h3
      simp [h1, h2, h3, h7]
    · rintro ex ⟨tm, df, clk⟩ σ' ⟨rfl, rfl, rfl, acc, h1⟩
      simp [h1]
theorem few_t (hF : F 7 = some f7) (hS : F 25 = some f25) (N : Nat) (l : List PVal) (b : Nat) (σ : Sto) (most : Int) (h : szVs l < N) (hl : l.length ≤ maxLen) (hok : ∀ e ∈ l, OkV e) :
    ∃ r, tcall F O (N + 1) b 7 [.int .i64 most, .sl .fz (l.map encV)] σ = some (.ret (.bool r), σ) := by
  have hk := szVs_len l
  suffices hh : ∃ e σ', tcall F O (N + 1) b 7 [.int .i64 most, .sl .fz (l.map encV)] σ = some (e, σ') ∧ ∃ r, e = .ret (.bool r) ∧ σ' = σ by
    obtain ⟨e, σ', h1, r, rfl, rfl⟩ := hh
    exact ⟨r, h1⟩
  refine tcall_of hF ?_
  simp [x7]
  refine tw_loop (I := fun j a σ' => a.df = [] ∧ σ' = σ ∧ ∃ acc, a.tm.get 0 = some (.int .i64 most) ∧ a.tm.get 1 = some (.sl .fz (l.map encV)) ∧ a.tm.get 5 = some (.int .i64 acc) ∧ a.tm.get 6 = some (.int .i64 j)) l.length
    (R := fun ex a σ' => ex = .exit 0 ∧ a.df = [] ∧ σ' = σ ∧ ∃ acc, a.tm.get 0 = some (.int .i64 most) ∧ a.tm.get 5 = some (.int .i64 acc)) ?_ ?_ ?_ ?_ ?_
  · simp
  · omega
  · rintro j ⟨tm, df, clk⟩ σ' hj ⟨rfl, rfl, acc, h0, h1, h5, h6⟩
    have hm := szVs_mem l l[j] (List.getElem_mem hj)
    have hw := wrapJ hj hl
    obtain ⟨r, hc⟩ := valSize_t (O := O) hS N l[j] σ'.length σ' acc most (by omega) (hok _ (List.getElem_mem hj))
    rw [encV_def] at hc
    simp [h0, h1, h5, h6, hj, hc, hw, encV_def]
  · rintro ⟨tm, df, clk⟩ σ' ⟨rfl, rfl, acc, h0, h1, h5, h6⟩
    simp [h0, h1, h5, h6]
  · rintro ex ⟨tm, df, clk⟩ σ' ⟨rfl, rfl, rfl, acc, h0, h5⟩
    simp [h0, h5]
    omega
end Go.Xe.YtalckpkiplhbcaaGreatDoor
end
section
namespace Go.Xt
open Go Go.Xe
set_option linter.unusedVariables false
set_option linter.unusedSimpArgs false
inductive Sm (B : Nat) : List TV → Prop
  | mk {l : List TV} : (∀ md chs, TV.sl md chs ∈ l → chs.length ≤ B) → (∀ md chs c, TV.sl md chs ∈ l → c ∈ chs → Sm B c) → Sm B l
theorem Sm.len {B : Nat} {l : List TV} (h : Sm B l) {md : Md} {chs : List (List TV)} (hm : TV.sl md chs ∈ l) : chs.length ≤ B := by
  cases h with
  | mk h1 h2 => exact h1 md chs hm
theorem Sm.sub {B : Nat} {l : List TV} (h : Sm B l) {md : Md} {chs : List (List TV)} {c : List TV} (hm : TV.sl md chs ∈ l) (hc : c ∈ chs) : Sm B c := by
  cases h with
  | mk h1 h2 => exact h2 md chs c hm hc
theorem Sm.append {B : Nat} {l m : List TV} (h : Sm B l) (k : Sm B m) : Sm B (l ++ m) := by
  refine .mk (fun md chs hm => ?_) (fun md chs c hm hc => ?_)
  · rcases List.mem_append.1 hm with hm | hm
    · exact h.len hm
    · exact k.len hm
  · rcases List.mem_append.1 hm with hm | hm
    · exact h.sub hm hc
    · exact k.sub hm hc
theorem sm_leaf {B : Nat} {v : TV} (h : ∀ md chs, v ≠ .sl md chs) : Sm B [v] :=
  .mk (fun md chs hm => absurd (List.mem_singleton.1 hm).symm (h md chs)) (fun md chs c hm hc => absurd (List.mem_singleton.1 hm).symm (h md chs))
theorem sm_sl {B : Nat} {md : Md} {chs : List (List TV)} (h1 : chs.length ≤ B) (h2 : ∀ c, c ∈ chs → Sm B c) : Sm B [.sl md chs] := by
  refine .mk (fun md chs hm => ?_) (fun md chs c hm hc => ?_)
  · cases List.mem_singleton.1 hm; exact h1
  · cases List.mem_singleton.1 hm; exact h2 c hc
def bytesB (P : Program) (t : TypeId) : Bool :=
  match P.underlying t with
  | some (.slice e) => Nat.blt 0 (P.bytesOf e)
  | _ => true
theorem weights_all {H : Type} {P : Program} {e : TypeId} {n : Nat} : ∀ {l : List (DataW H)} {d : DataW H}, d ∈ l → n ∈ d.weights P e → n ∈ DataW.weightsAll P e l
  | x :: l, d, h, hn => by
    simp only [DataW.weightsAll, List.mem_append]
    rcases List.mem_cons.1 h with rfl | h
    · exact .inl hn
    · exact .inr (weights_all h hn)
section
variable {g : Hp} {μ : List Nat} {Z : Nat → Prop} {B : Nat}
theorem fields_relS {P : Program} {cs : List Value} : ∀ (fs : List Field) (o e : Nat), tiles P o fs = some e → e ≤ cs.length → (∀ (i : Nat) (f : Field), fs[i]? = some f → ∃ l, RVs g μ Z l ((cs.drop f.offset).take (P.cellsOf f.type)) ∧ Sh P f.type l ∧ Sm B l) →
    ∃ l, RVs g μ Z l ((cs.drop o).take (e - o)) ∧ o ≤ e ∧ l.length = e - o ∧ (∀ (i : Nat) (f : Field), fs[i]? = some f → o ≤ f.offset ∧ Sh P f.type ((l.drop (f.offset - o)).take (P.cellsOf f.type))) ∧ Sm B l
  | [], o, e, ht, he, h => by
    simp only [tiles] at ht; cases ht
    exact ⟨[], by simp; exact .nil, Nat.le_refl _, by simp, fun i f e => by simp at e, .mk (fun _ _ h => by cases h) (fun _ _ _ h => by cases h)⟩
  | f :: fs, o, e, ht, he, h => by
    simp only [tiles] at ht
    split at ht
    · rename_i hb
      have ho := beq_of hb
      obtain ⟨l0, k1, k2, k3⟩ := h 0 f rfl
      obtain ⟨l, q1, q2, q3, q4, q5⟩ := fields_relS fs (o + P.cellsOf f.type) e ht he (fun i f' hf => h (i + 1) f' (by simpa using hf))
      have hl0 : l0.length = P.cellsOf f.type := by
        rw [← k1.length, List.length_take, List.length_drop]; omega
      have hsplit : (cs.drop o).take (e - o) = (cs.drop f.offset).take (P.cellsOf f.type) ++ (cs.drop (o + P.cellsOf f.type)).take (e - (o + P.cellsOf f.type)) := by
        rw [ho, show e - o = P.cellsOf f.type + (e - (o + P.cellsOf f.type)) by omega, List.take_add, List.drop_drop]
      refine ⟨l0 ++ l, by rw [hsplit]; exact k1.append q1, by omega, by rw [List.length_append, hl0, q3]; omega, fun i f' hf => ?_, k3.append q5⟩
      cases i with
      | zero =>
        simp at hf; subst hf
        refine ⟨by omega, ?_⟩
        rw [ho, Nat.sub_self, List.drop_zero, List.take_append_of_le_length (by omega), List.take_of_length_le (by omega)]
        exact k2
      | succ i =>
        obtain ⟨p1, p2⟩ := q4 i f' (by simpa using hf)
        refine ⟨by omega, ?_⟩
        have : f'.offset - o = P.cellsOf f.type + (f'.offset - (o + P.cellsOf f.type)) := by omega
        rw [this, ← hl0, List.drop_append]
        rw [show l0.length + (f'.offset - (o + l0.length)) - l0.length = f'.offset - (o + l0.length) by omega]
        have hd0 : l0.drop (l0.length + (f'.offset - (o + l0.length))) = [] := List.drop_of_length_le (by omega)
        rw [hd0, List.nil_append, hl0]
        exact p2
    · cases ht
theorem tree_small {P : Program} {T : List TypeId} (hT : T.all (Xe.plainT P T) = true) {H : Type} {t : TypeId} {cs : List Value} {d : DataW H} (hB : T.all (bytesB P) = true) (r : Rdx P g t cs d) : T.contains t = true → (∀ n ∈ d.weights P t, n ≤ B) → ∃ l, RVs g μ (fun _ => True) l cs ∧ Sh P t l ∧ Sm B l := by
  induction r with
  | bool b ht => exact fun _ _ => ⟨[.bool b], .cons (.bool b) .nil, .bool b ht, sm_leaf (fun _ _ e => by cases e)⟩
  | int n ht hw => exact fun _ _ => ⟨[.int _ n], .cons (.int _ n) .nil, .int n ht hw, sm_leaf (fun _ _ e => by cases e)⟩
  | str s ht hs => exact fun _ _ => ⟨[.str s], .cons (.str s) .nil, .str s ht hs, sm_leaf (fun _ _ e => by cases e)⟩
  | nil ht => exact fun _ _ => ⟨[.sl .fz []], .cons (.fz0 none 0) .nil, .slice [] ht (Nat.zero_le _) (fun c h => by simp at h), sm_sl (Nat.zero_le _) (fun c h => by simp at h)⟩
  | @slice t e id len cap ds sp C ht hl hc hm h1 h2 ih =>
    intro hc' hwt
    have hp := List.all_eq_true.1 hT t (by simpa using hc')
    have hb := List.all_eq_true.1 hB t (by simpa using hc')
    unfold Xe.plainT at hp
    unfold bytesB at hb
    rw [ht] at hp hb
    have hb : Nat.blt 0 (P.bytesOf e) = true := hb
    rw [bltNat] at hb
    have hb := of_decide_eq_true hb
    simp only [Bool.and_eq_true] at hp
    have hlenB : len ≤ B := by
      have := hwt ((ds.length + sp.length) * P.bytesOf e) (by simp [DataW.weights, ht])
      have h3 := Nat.le_mul_of_pos_right (ds.length + sp.length) hb
      omega
    have hex : ∀ i, i < len → ∃ c, RVs g μ (fun _ => True) c (C i) ∧ Sh P e c ∧ Sm B c := fun i hi => by
      have hlt : i < ds.length := by omega
      exact ih i ds[i] (List.getElem?_eq_getElem hlt) hp.1 fun n hn => hwt n (by
        simp only [DataW.weights, ht, List.mem_cons, List.mem_append]
        exact .inr (.inl (weights_all (List.getElem_mem hlt) hn)))
    obtain ⟨chs, k1, k2⟩ := list_of hex
    have hload : ∀ i, i < len → ∃ ver vs el ro, g id = some ⟨ver, .cells vs el ro⟩ ∧ i * P.cellsOf e + P.cellsOf e ≤ vs.length ∧ (vs.drop (i * P.cellsOf e)).take (P.cellsOf e) = C i := fun i hi => by
      have hlt : i < ds.length := by omega
      obtain ⟨i', o, ver, vs, el, ro, q0, q1, q2, q3⟩ := loadList_some (h1 i ds[i] (List.getElem?_eq_getElem hlt))
      cases q0
      exact ⟨ver, vs, el, ro, q1, q2, q3.symm⟩
    refine ⟨[.sl .fz chs], .cons ?_ .nil, .slice chs ht (by omega) (fun c hcm => ?_), sm_sl (by omega) (fun c hcm => ?_)⟩
    · by_cases h0 : len = 0
      · have : chs = [] := List.eq_nil_of_length_eq_zero (by omega)
        subst this; subst h0
        exact .fz0 _ _
      · obtain ⟨ver, vs, el, ro, q1, q2, q3⟩ := hload (len - 1) (by omega)
        have hlen : len * P.cellsOf e ≤ vs.length := by
          have : (len - 1) * P.cellsOf e + P.cellsOf e = len * P.cellsOf e := by rw [← Nat.succ_mul]; congr 1; omega
          omega
        refine .fz (s := P.cellsOf e) trivial q1 ?_ k1 (fun _ => hc) (fun h => by unfold capU at h; unfold maxLen at hm; omega) (by omega) ?_
        · refine List.all_eq_true.2 fun c hcm => ?_
          obtain ⟨i, hi⟩ := List.getElem?_of_mem hcm
          have hil : i < len := by have := (List.getElem?_eq_some_iff.1 hi).1; omega
          have := (k2 i c hi).1.length
          obtain ⟨_, vs', _, _, p1, p2, p3⟩ := hload i hil
          rw [beqNat]
          refine decide_eq_true ?_
          rw [← this, ← p3, List.length_take, List.length_drop]; omega
        · rw [← k1]
          refine rows_rel chs 0 fun i c hi => ?_
          have hil : i < len := by have := (List.getElem?_eq_some_iff.1 hi).1; omega
          obtain ⟨_, vs', _, _, p1, p2, p3⟩ := hload i hil
          rw [q1] at p1; cases p1
          have hr := (k2 i c hi).1
          rw [Nat.zero_add, p3]
          refine ⟨hr, ?_⟩
          rw [← hr.length, ← p3, List.length_take, List.length_drop]; omega
    · obtain ⟨i, hi⟩ := List.getElem?_of_mem hcm
      exact (k2 i c hi).2.1
    · obtain ⟨i, hi⟩ := List.getElem?_of_mem hcm
      exact (k2 i c hi).2.2
  | @struct t fs cs ds ht hl hn h2 ih =>
    intro hc' hwt
    have hp := List.all_eq_true.1 hT t (by simpa using hc')
    unfold Xe.plainT at hp
    rw [ht] at hp
    simp only [Bool.and_eq_true, List.all_eq_true] at hp
    have htl : tiles P 0 fs.toList = some (P.cellsOf t) := by
      have h2 := hp.2
      split at h2
      · rename_i m hm; rw [beqNat] at h2; rw [hm, of_decide_eq_true h2]
      · cases h2
    obtain ⟨l, k1, _, k3, k4, k5⟩ := fields_relS (B := B) (g := g) (μ := μ) (Z := fun _ => True) (P := P) (cs := cs) fs.toList 0 (P.cellsOf t) htl (by omega) (fun i f hf => by
      have hi : i < ds.length := by have := (List.getElem?_eq_some_iff.1 hf).1; simp at this; omega
      exact ih i f ds[i] (by simpa using hf) (List.getElem?_eq_getElem hi) (hp.1 f (List.mem_of_getElem? hf)) fun n hn => hwt n (by
        simp only [DataW.weights, ht]
        exact DataW.weights_mem_each (by rw [List.getElem?_map, hf]; rfl) (List.getElem?_eq_getElem hi) n hn))
    rw [List.drop_zero, Nat.sub_zero, List.take_of_length_le (by omega)] at k1
    refine ⟨l, k1, .struct l ht (by omega) (fun i f hf => ?_), k5⟩
    have := (k4 i f (by simpa using hf)).2
    rwa [Nat.sub_zero] at this
end
end Go.Xt
end
section
namespace Go.Xe.YtalckpkiplhbcaaGreatDoor
open Go Go.Xe Go.Xt
set_option linter.unusedVariables false
set_option linter.unusedSimpArgs false
variable {F : FuncId → Option TFun} {O : FuncId → List TV → Option TV}
mutual
def cntT : PTerm → Nat
  | .mk _ _ _ _ _ ks => cntTs ks + 1
def cntTs : List PTerm → Nat
  | [] => 0
  | t :: l => cntT t + cntTs l
end
theorem cntT_def (t : PTerm) : cntT t = cntTs t.kids + 1 := by cases t; simp only [cntT, PTerm.kids]
theorem cntTs_drop {l : List PTerm} {j : Nat} (hj : j < l.length) : cntTs (l.drop j) = cntT l[j] + cntTs (l.drop (j + 1)) := by
  rw [List.drop_eq_getElem_cons hj]; rfl
theorem cntTs_mem : ∀ (l : List PTerm) (t : PTerm), t ∈ l → cntT t ≤ cntTs l
  | [], t, h => by cases h
  | x :: l, t, h => by
    simp only [cntTs]
    rcases List.mem_cons.1 h with rfl | h
    · omega
    · have := cntTs_mem l t h; omega
theorem sm_odds {B : Nat} {t : PTerm} (h : Sm B (encTm t)) : t.odds.length ≤ B := by
  rw [encTm_def] at h
  simpa using h.len (md := .fz) (chs := t.odds.map encI) (by simp)
theorem sm_kid {B : Nat} {t k : PTerm} (h : Sm B (encTm t)) (hk : k ∈ t.kids) : Sm B (encTm k) := by
  rw [encTm_def] at h
  exact h.sub (md := .fz) (chs := t.kids.map encTm) (by simp) (List.mem_map.2 ⟨k, hk, rfl⟩)
theorem termCnt_t (hF : F 24 = some f24) (h7 : F 7 = some f7) (h25 : F 25 = some f25) : ∀ (N : Nat) (e : PTerm) (b : Nat) (σ : Sto) (m : Int), szTm e ≤ N → OkTm e → Sm reachBytes (encTm e) → 0 ≤ m → m ≤ 3000 →
    ∃ r : Int, tcall F O N b 24 [.agg (encTm e), .int .i64 m, .int .i64 3000] σ = some (.ret (.int .i64 r), σ) ∧ 0 ≤ r ∧ (r ≤ 3000 → m + (cntT e : Int) ≤ r)
  | 0, e, b, σ, m, h, _, _, _, _ => by rw [szTm_def] at h; omega
  | N + 1, e, b, σ, m, h, hb, hsm, hm0, hm1 => by
    have ih := termCnt_t hF h7 h25 N
    have hk := szTms_len e.kids
    have hs := szTm_def e
    have hv := szV_def e.val
    have hol := sm_odds hsm
    have hrb : reachBytes = 140737488351232 := rfl
    have hw0 : IntKind.i64.wrap (IntKind.i64.wrap (m + 1) + (e.odds.length : Int)) = m + 1 + (e.odds.length : Int) := by
      rw [wrap_in (m + 1)] <;> first | omega | (rw [wrap_in] <;> omega)
    obtain ⟨M, rfl⟩ : ∃ M, N = M + 1 := ⟨N - 1, by omega⟩
    obtain ⟨rf, hf⟩ := few_t (O := O) h7 h25 M [e.val] σ.length σ 3000 (by simp only [szVs]; omega) (by simp [maxLen]) (by intro x hx; simp at hx; subst hx; exact hb.val)
    suffices hh : ∃ e' σ', tcall F O (M + 1 + 1) b 24 [.agg (encTm e), .int .i64 m, .int .i64 3000] σ = some (e', σ') ∧ ∃ r : Int, e' = .ret (.int .i64 r) ∧ σ' = σ ∧ 0 ≤ r ∧ (r ≤ 3000 → m + (cntT e : Int) ≤ r) by
      obtain ⟨e', σ', h1, r, rfl, rfl, h2⟩ := hh
      exact ⟨r, h1, h2⟩
    refine tcall_of hF ?_
    simp [encV_def] at hf
    have hw1 : IntKind.i64.wrap (3000 + 1) = 3001 := by rw [wrap_in] <;> omega
    have hw2 : IntKind.i64.wrap 3001 = 3001 := by rw [wrap_in] <;> omega
    cases rf with
    | false => simp [x24, encTm_def, hf, hw0, hw1, hw2]
    | true =>
      simp [x24, encTm_def, hf, hw0, hw1]
      obtain ⟨I, hI⟩ : ∃ I : Nat → TAct → Sto → Prop, I = (fun j a σ' => a.df = [] ∧ σ' = σ ∧ ∃ acc : Int, 0 ≤ acc ∧ (acc ≤ 3000 → m + (cntT e : Int) ≤ acc + (cntTs (e.kids.drop j) : Int)) ∧ a.tm.get 1 = some (.int .i64 acc) ∧ a.tm.get 2 = some (.int .i64 3000) ∧ a.tm.get 3 = some (.bx 0 (encTm e) 30) ∧ a.tm.get 7 = some (.int .i64 j)) := ⟨_, rfl⟩
      obtain ⟨R, hR⟩ : ∃ R : TEx → TAct → Sto → Prop, R = (fun ex a σ' => ex = .exit 0 ∧ a.df = [] ∧ σ' = σ ∧ ∃ acc : Int, 0 ≤ acc ∧ (acc ≤ 3000 → m + (cntT e : Int) ≤ acc) ∧ a.tm.get 1 = some (.int .i64 acc)) := ⟨_, rfl⟩
      refine tw_loop I e.kids.length R ?_ ?_ ?_ ?_ ?_
      · rw [hI]
        exact ⟨rfl, rfl, m + 1 + (e.odds.length : Int), by omega, fun _ => by rw [cntT_def, List.drop_zero]; omega, by simp, by simp, by simp [encTm_def], by simp⟩
      · omega
      · rw [hI]
        rintro j ⟨tm, df, clk⟩ σ' hj ⟨rfl, rfl, acc, ha0, hac, h1, h2, h3, h7'⟩
        rw [← hI]
        have hm := szTms_mem e.kids e.kids[j] (List.getElem_mem hj)
        have hw := wrapJ hj hb.len
        have h3' := h3
        rw [encTm_def] at h3
        by_cases ha : acc ≤ 3000
        · obtain ⟨r, hc, hr0, hr1⟩ := ih e.kids[j] σ'.length σ' acc (by omega) (hb.sub _ (List.getElem_mem hj)) (sm_kid hsm (List.getElem_mem hj)) ha0 ha
          rw [encTm_def] at hc
          rw [cntTs_drop hj] at hac
          simp [h1, h2, h3, h7', hj, ha, hc, hw, encTm_def]
          rw [hI]
          exact ⟨rfl, rfl, r, hr0, fun h => by have := hr1 h; have := hac ha; omega, by simp, by simp [h2], by simp [h3'], by simp⟩
        · simp [h1, h2, h3, h7', hj, ha]
          rw [hR]
          exact ⟨rfl, rfl, rfl, acc, ha0, fun h => absurd h ha, by simp [h1]⟩
      · rw [hI]
        rintro ⟨tm, df, clk⟩ σ' ⟨rfl, rfl, acc, ha0, hac, h1, h2, h3, h7'⟩
        rw [List.drop_of_length_le (Nat.le_refl _)] at hac
        rw [encTm_def] at h3
        simp [h1, h2, h3, h7', undT]
        rw [hR]
        exact ⟨rfl, rfl, rfl, acc, ha0, fun h => by have := hac h; simp only [cntTs] at this; omega, by simp [h1]⟩
      · rw [hR]
        rintro ex ⟨tm, df, clk⟩ σ' ⟨rfl, rfl, rfl, acc, ha0, hac, h1⟩
        simp [h1]
        exact ⟨ha0, hac⟩
theorem fewTerms_t (h15 : F 15 = some f15) (hF : F 24 = some f24) (h7 : F 7 = some f7) (h25 : F 25 = some f25) (N : Nat) (e : PTerm) (b : Nat) (σ : Sto) (h : szTm e ≤ N) (hb : OkTm e) (hsm : Sm reachBytes (encTm e)) :
    ∃ r : Bool, tcall F O (N + 1) b 15 [.int .i64 3000, .agg (encTm e)] σ = some (.ret (.bool r), σ) ∧ (r = true → cntT e ≤ 3000) := by
  obtain ⟨r, hc, h0, h1⟩ := termCnt_t (O := O) hF h7 h25 N e σ.length σ 0 h hb hsm (by omega) (by omega)
  refine ⟨decide (r ≤ 3000), tcall_pure h15 ?_, fun h => by have h2 := of_decide_eq_true h; have := h1 h2; omega⟩
  rw [encTm_def] at hc
  simp [x15, encTm_def, hc]
end Go.Xe.YtalckpkiplhbcaaGreatDoor
end
section
namespace Go.Xe.YtalckpkiplhbcaaGreatDoor
open Go Go.Xe Go.Xt
set_option linter.unusedVariables false
set_option linter.unusedSimpArgs false
variable {F : FuncId → Option TFun} {O : FuncId → List TV → Option TV}
mutual
def sitesL : PTerm → List Int
  | .mk k n _ _ _ ks => (if k = 12 then [n] else []) ++ sitesLs ks
def sitesLs : List PTerm → List Int
  | [] => []
  | t :: l => sitesL t ++ sitesLs l
end
theorem sitesL_def (t : PTerm) : sitesL t = (if t.kind = 12 then [t.n] else []) ++ sitesLs t.kids := by cases t; simp only [sitesL, PTerm.kind, PTerm.n, PTerm.kids]; rfl
theorem sitesLs_drop {l : List PTerm} {j : Nat} (hj : j < l.length) : sitesLs (l.drop j) = sitesL l[j] ++ sitesLs (l.drop (j + 1)) := by
  rw [List.drop_eq_getElem_cons hj]; rfl
mutual
theorem sitesL_len : ∀ t, (sitesL t).length ≤ cntT t
  | .mk k n m v o ks => by
    have := sitesLs_len ks
    simp only [sitesL, cntT, List.length_append]
    split <;> simp <;> omega
theorem sitesLs_len : ∀ l, (sitesLs l).length ≤ cntTs l
  | [] => Nat.le_refl _
  | t :: l => by
    have := sitesL_len t
    have := sitesLs_len l
    simp only [sitesLs, cntTs, List.length_append]; omega
end
inductive BldI : List Int → TV → Prop
  | nl : BldI [] (.sl .nl [])
  | own (l : List Int) : BldI l (.sl (.own 3 1) (l.map encI))
theorem okSz_ints (l : List Int) : okSz 1 (l.map encI) = true := by simp [okSz, encI]
theorem below_ints (b : Nat) (l : List Int) : below.belowss b (l.map encI) = true := below_map b encI (below_encI b) l
attribute [simp] okSz_ints below_ints
theorem size21_t (hF : F 21 = some f21) : ∀ (N : Nat) (e : PTerm) (b : Nat) (σ : Sto), szTm e ≤ N → OkTm e → cntT e ≤ 3000 →
    tcall F O N b 21 [.agg (encTm e)] σ = some (.ret (.int .i64 (cntT e : Int)), σ)
  | 0, e, b, σ, h, _, _ => by rw [szTm_def] at h; omega
  | N + 1, e, b, σ, h, hb, hc => by
    have ih := size21_t hF N
    have hk := szTms_len e.kids
    have hs := szTm_def e
    have hcd := cntT_def e
    refine tcall_pure hF ?_
    simp [x21, encTm_def]
    obtain ⟨I, hI⟩ : ∃ I : Nat → TAct → Sto → Prop, I = (fun j a σ' => a.df = [] ∧ σ' = σ ∧ ∃ acc : Nat, acc + cntTs (e.kids.drop j) = cntT e ∧ a.tm.get 3 = some (.int .i64 (acc : Int)) ∧ a.tm.get 7 = some (.sl .fz (e.kids.map encTm)) ∧ a.tm.get 8 = some (.int .i64 (e.kids.length : Int)) ∧ a.tm.get 9 = some (.int .i64 j)) := ⟨_, rfl⟩
    obtain ⟨R, hR⟩ : ∃ R : TEx → TAct → Sto → Prop, R = (fun ex a σ' => ex = .exit 0 ∧ a.df = [] ∧ σ' = σ ∧ a.tm.get 3 = some (.int .i64 (cntT e : Int))) := ⟨_, rfl⟩
    refine tw_loop I e.kids.length R ?_ ?_ ?_ ?_ ?_
    · rw [hI]
      exact ⟨rfl, rfl, 1, by rw [List.drop_zero]; omega, by simp, by simp, by simp, by simp⟩
    · omega
    · rw [hI]
      rintro j ⟨tm, df, clk⟩ σ' hj ⟨rfl, rfl, acc, ha, h3, h7, h8, h9⟩
      rw [← hI]
      have hw := wrapJ hj hb.len
      rw [cntTs_drop hj] at ha
      have hcc := ih e.kids[j] σ'.length σ' (by have := szTms_mem _ _ (List.getElem_mem hj); omega) (hb.sub _ (List.getElem_mem hj)) (by omega)
      have hw2 : IntKind.i64.wrap ((acc : Int) + (cntT e.kids[j] : Int)) = ((acc + cntT e.kids[j] : Nat) : Int) := by rw [wrap_in] <;> omega
      rw [encTm_def] at hcc
      simp [h3, h7, h8, h9, hj, hcc, hw, hw2, encTm_def]
      rw [hI]
      exact ⟨rfl, rfl, acc + cntT e.kids[j], by omega, by simp, by simp [h7], by simp [h8], by simp⟩
    · rw [hI]
      rintro ⟨tm, df, clk⟩ σ' ⟨rfl, rfl, acc, ha, h3, h7, h8, h9⟩
      rw [List.drop_of_length_le (Nat.le_refl _)] at ha
      simp [h3, h7, h8, h9]
      rw [hR]
      exact ⟨rfl, rfl, rfl, by rw [← ha]; simp [h3, cntTs]⟩
    · rw [hR]
      rintro ex ⟨tm, df, clk⟩ σ' ⟨rfl, rfl, rfl, h3⟩
      simp [h3]
theorem size22_t (hF : F 22 = some f22) : ∀ (N : Nat) (e : PTerm) (b : Nat) (σ : Sto), szTm e ≤ N → OkTm e → cntT e ≤ 3000 →
    tcall F O N b 22 [.agg (encTm e)] σ = some (.ret (.int .i64 (cntT e : Int)), σ)
  | 0, e, b, σ, h, _, _ => by rw [szTm_def] at h; omega
  | N + 1, e, b, σ, h, hb, hc => by
    have ih := size22_t hF N
    have hk := szTms_len e.kids
    have hs := szTm_def e
    have hcd := cntT_def e
    refine tcall_pure hF ?_
    simp [x22, encTm_def]
    obtain ⟨I, hI⟩ : ∃ I : Nat → TAct → Sto → Prop, I = (fun j a σ' => a.df = [] ∧ σ' = σ ∧ ∃ acc : Nat, acc + cntTs (e.kids.drop j) = cntT e ∧ a.tm.get 3 = some (.int .i64 (acc : Int)) ∧ a.tm.get 1 = some (.bx 0 (encTm e) 30) ∧ a.tm.get 4 = some (.int .i64 j)) := ⟨_, rfl⟩
    obtain ⟨R, hR⟩ : ∃ R : TEx → TAct → Sto → Prop, R = (fun ex a σ' => ex = .exit 0 ∧ a.df = [] ∧ σ' = σ ∧ a.tm.get 3 = some (.int .i64 (cntT e : Int))) := ⟨_, rfl⟩
    refine tw_loop I e.kids.length R ?_ ?_ ?_ ?_ ?_
    · rw [hI]
      exact ⟨rfl, rfl, 1, by rw [List.drop_zero]; omega, by simp, by simp [encTm_def], by simp⟩
    · omega
    · rw [hI]
      rintro j ⟨tm, df, clk⟩ σ' hj ⟨rfl, rfl, acc, ha, h3, h1, h4⟩
      rw [← hI]
      have hw := wrapJ hj hb.len
      rw [cntTs_drop hj] at ha
      have hcc := ih e.kids[j] σ'.length σ' (by have := szTms_mem _ _ (List.getElem_mem hj); omega) (hb.sub _ (List.getElem_mem hj)) (by omega)
      have hw2 : IntKind.i64.wrap ((acc : Int) + (cntT e.kids[j] : Int)) = ((acc + cntT e.kids[j] : Nat) : Int) := by rw [wrap_in] <;> omega
      have h1' := h1
      rw [encTm_def] at hcc h1
      simp [h3, h1, h4, hj, hcc, hw, hw2, encTm_def]
      rw [hI]
      exact ⟨rfl, rfl, acc + cntT e.kids[j], by omega, by simp, by simp [h1'], by simp⟩
    · rw [hI]
      rintro ⟨tm, df, clk⟩ σ' ⟨rfl, rfl, acc, ha, h3, h1, h4⟩
      rw [List.drop_of_length_le (Nat.le_refl _)] at ha
      rw [encTm_def] at h1
      simp [h3, h1, h4]
      rw [hR]
      exact ⟨rfl, rfl, rfl, by rw [← ha]; simp [h3, cntTs]⟩
    · rw [hR]
      rintro ex ⟨tm, df, clk⟩ σ' ⟨rfl, rfl, rfl, h3⟩
      simp [h3]
theorem sites17_t (hF : F 17 = some f17) : ∀ (N : Nat) (e : PTerm) (b : Nat) (σ : Sto), szTm e ≤ N → OkTm e → cntT e ≤ 3000 →
    tcall F O N b 17 [.agg (encTm e)] σ = some (.ret (.sl .fz ((sitesL e).map encI)), σ)
  | 0, e, b, σ, h, _, _ => by rw [szTm_def] at h; omega
  | N + 1, e, b, σ, h, hb, hc => by
    have ih := sites17_t hF N
    have hk := szTms_len e.kids
    have hs := szTm_def e
    have hcd := cntT_def e
    have hsl := sitesL_len e
    have hsd := sitesL_def e
    refine tcall_pure hF ?_
    obtain ⟨I, hI⟩ : ∃ I : Nat → TAct → Sto → Prop, I = (fun j a σ' => a.df = [] ∧ σ' = σ ∧ ∃ (l : List Int) (v : TV), BldI l v ∧ l ++ sitesLs (e.kids.drop j) = sitesL e ∧ a.tm.get 3 = some v ∧ a.tm.get 13 = some (.sl .fz (e.kids.map encTm)) ∧ a.tm.get 14 = some (.int .i64 (e.kids.length : Int)) ∧ a.tm.get 15 = some (.int .i64 j)) := ⟨_, rfl⟩
    obtain ⟨R, hR⟩ : ∃ R : TEx → TAct → Sto → Prop, R = (fun ex a σ' => ex = .exit 0 ∧ a.df = [] ∧ σ' = σ ∧ ∃ v, BldI (sitesL e) v ∧ a.tm.get 3 = some v) := ⟨_, rfl⟩
    by_cases k12 : e.kind = 12
    · simp [x17, encTm_def, k12, encI]
      refine tw_loop I e.kids.length R ?_ ?_ ?_ ?_ ?_
      · rw [hI]
        exact ⟨rfl, rfl, [e.n], _, .own _, by rw [List.drop_zero, hsd, if_pos k12], by simp [encI], by simp, by simp, by simp⟩
      · omega
      · rw [hI]
        rintro j ⟨tm, df, clk⟩ σ' hj ⟨rfl, rfl, l, v, hB, ha, h3, h13, h14, h15⟩
        rw [← hI]
        have hw := wrapJ hj hb.len
        rw [sitesLs_drop hj, ← List.append_assoc] at ha
        have hcm : cntT e.kids[j] ≤ cntTs e.kids := cntTs_mem _ _ (List.getElem_mem hj)
        have hcc := ih e.kids[j] σ'.length σ' (by have := szTms_mem _ _ (List.getElem_mem hj); omega) (hb.sub _ (List.getElem_mem hj)) (by omega)
        rw [encTm_def] at hcc
        rcases hB with _ | _
        · cases hL : sitesL e.kids[j] with
          | nil =>
            rw [hL] at hcc ha
            simp at hcc
            try simp only [encI] at hcc
            simp [h3, h13, h14, h15, hj, hcc, hw, encTm_def, encI]
            rw [hI]
            exact ⟨rfl, rfl, [], _, .nl, ha, by simp, by simp [h13], by simp [h14], by simp⟩
          | cons x l' =>
            have hlen2 := sitesL_len e.kids[j]
            rw [hL] at hcc ha hlen2
            simp only [List.length_cons] at hlen2
            have hlen3 : l'.length + 1 ≤ 1073741824 := by omega
            simp at hcc
            try simp only [encI] at hcc
            simp [h3, h13, h14, h15, hj, hcc, hw, encTm_def, hlen3, encI]
            rw [hI]
            exact ⟨rfl, rfl, x :: l', _, .own _, ha, by simp [encI], by simp [h13], by simp [h14], by simp⟩
        · have hlen2 := sitesL_len e.kids[j]
          have hlen4 : l.length ≤ 3000 := by have := congrArg List.length ha; simp only [List.length_append] at this; omega
          have hlen3 : l.length + (sitesL e.kids[j]).length ≤ 1073741824 := by omega
          generalize hL : sitesL e.kids[j] = L at hcc ha hlen3
          cases L with
          | nil =>
            simp at hlen3
            simp at hcc
            try simp only [encI] at hcc
            simp [h3, h13, h14, h15, hj, hcc, hw, encTm_def, hlen3, encI]
            rw [hI]
            exact ⟨rfl, rfl, l, _, .own _, by simpa using ha, by simp [encI], by simp [h13], by simp [h14], by simp⟩
          | cons x l' =>
            simp at hlen3
            simp at hcc
            try simp only [encI] at hcc
            simp [h3, h13, h14, h15, hj, hcc, hw, encTm_def, hlen3, encI]
            rw [hI]
            exact ⟨rfl, rfl, l ++ x :: l', _, .own _, by simpa using ha, by simp [encI], by simp [h13], by simp [h14], by simp⟩
      · rw [hI]
        rintro ⟨tm, df, clk⟩ σ' ⟨rfl, rfl, l, v, hB, ha, h3, h13, h14, h15⟩
        rw [List.drop_of_length_le (Nat.le_refl _)] at ha
        simp [h3, h13, h14, h15]
        rw [hR]
        exact ⟨rfl, rfl, rfl, v, by rw [← ha]; simpa [sitesLs] using hB, by simp [h3]⟩
      · rw [hR]
        rintro ex ⟨tm, df, clk⟩ σ' ⟨rfl, rfl, rfl, v, hB, h3⟩
        generalize hLe : sitesL e = L at hB
        rcases hB with _ | _
        · simp [h3]
        · simp [h3]
    · simp [x17, encTm_def, k12]
      refine tw_loop I e.kids.length R ?_ ?_ ?_ ?_ ?_
      · rw [hI]
        exact ⟨rfl, rfl, [], _, .nl, by rw [List.drop_zero, hsd, if_neg k12], by simp [encI], by simp, by simp, by simp⟩
      · omega
      · rw [hI]
        rintro j ⟨tm, df, clk⟩ σ' hj ⟨rfl, rfl, l, v, hB, ha, h3, h13, h14, h15⟩
        rw [← hI]
        have hw := wrapJ hj hb.len
        rw [sitesLs_drop hj, ← List.append_assoc] at ha
        have hcm : cntT e.kids[j] ≤ cntTs e.kids := cntTs_mem _ _ (List.getElem_mem hj)
        have hcc := ih e.kids[j] σ'.length σ' (by have := szTms_mem _ _ (List.getElem_mem hj); omega) (hb.sub _ (List.getElem_mem hj)) (by omega)
        rw [encTm_def] at hcc
        rcases hB with _ | _
        · cases hL : sitesL e.kids[j] with
          | nil =>
            rw [hL] at hcc ha
            simp at hcc
            try simp only [encI] at hcc
            simp [h3, h13, h14, h15, hj, hcc, hw, encTm_def, encI]
            rw [hI]
            exact ⟨rfl, rfl, [], _, .nl, ha, by simp, by simp [h13], by simp [h14], by simp⟩
          | cons x l' =>
            have hlen2 := sitesL_len e.kids[j]
            rw [hL] at hcc ha hlen2
            simp only [List.length_cons] at hlen2
            have hlen3 : l'.length + 1 ≤ 1073741824 := by omega
            simp at hcc
            try simp only [encI] at hcc
            simp [h3, h13, h14, h15, hj, hcc, hw, encTm_def, hlen3, encI]
            rw [hI]
            exact ⟨rfl, rfl, x :: l', _, .own _, ha, by simp [encI], by simp [h13], by simp [h14], by simp⟩
        · have hlen2 := sitesL_len e.kids[j]
          have hlen4 : l.length ≤ 3000 := by have := congrArg List.length ha; simp only [List.length_append] at this; omega
          have hlen3 : l.length + (sitesL e.kids[j]).length ≤ 1073741824 := by omega
          generalize hL : sitesL e.kids[j] = L at hcc ha hlen3
          cases L with
          | nil =>
            simp at hlen3
            simp at hcc
            try simp only [encI] at hcc
            simp [h3, h13, h14, h15, hj, hcc, hw, encTm_def, hlen3, encI]
            rw [hI]
            exact ⟨rfl, rfl, l, _, .own _, by simpa using ha, by simp [encI], by simp [h13], by simp [h14], by simp⟩
          | cons x l' =>
            simp at hlen3
            simp at hcc
            try simp only [encI] at hcc
            simp [h3, h13, h14, h15, hj, hcc, hw, encTm_def, hlen3, encI]
            rw [hI]
            exact ⟨rfl, rfl, l ++ x :: l', _, .own _, by simpa using ha, by simp [encI], by simp [h13], by simp [h14], by simp⟩
      · rw [hI]
        rintro ⟨tm, df, clk⟩ σ' ⟨rfl, rfl, l, v, hB, ha, h3, h13, h14, h15⟩
        rw [List.drop_of_length_le (Nat.le_refl _)] at ha
        simp [h3, h13, h14, h15]
        rw [hR]
        exact ⟨rfl, rfl, rfl, v, by rw [← ha]; simpa [sitesLs] using hB, by simp [h3]⟩
      · rw [hR]
        rintro ex ⟨tm, df, clk⟩ σ' ⟨rfl, rfl, rfl, v, hB, h3⟩
        generalize hLe : sitesL e = L at hB
        rcases hB with _ | _
        · simp [h3]
        · simp [h3]
theorem sites18_t (hF : F 18 = some f18) : ∀ (N : Nat) (e : PTerm) (b : Nat) (σ : Sto), szTm e ≤ N → OkTm e → cntT e ≤ 3000 →
    tcall F O N b 18 [.agg (encTm e)] σ = some (.ret (.sl .fz ((sitesL e).map encI)), σ)
  | 0, e, b, σ, h, _, _ => by rw [szTm_def] at h; omega
  | N + 1, e, b, σ, h, hb, hc => by
    have ih := sites18_t hF N
    have hk := szTms_len e.kids
    have hs := szTm_def e
    have hcd := cntT_def e
    have hsl := sitesL_len e
    have hsd := sitesL_def e
    refine tcall_pure hF ?_
    obtain ⟨I, hI⟩ : ∃ I : Nat → TAct → Sto → Prop, I = (fun j a σ' => a.df = [] ∧ σ' = σ ∧ ∃ (l : List Int) (v : TV), BldI l v ∧ l ++ sitesLs (e.kids.drop j) = sitesL e ∧ a.tm.get 3 = some v ∧ a.tm.get 1 = some (.bx 0 (encTm e) 30) ∧ a.tm.get 4 = some (.int .i64 j)) := ⟨_, rfl⟩
    obtain ⟨R, hR⟩ : ∃ R : TEx → TAct → Sto → Prop, R = (fun ex a σ' => ex = .exit 0 ∧ a.df = [] ∧ σ' = σ ∧ ∃ v, BldI (sitesL e) v ∧ a.tm.get 3 = some v) := ⟨_, rfl⟩
    by_cases k12 : e.kind = 12
    · simp [x18, encTm_def, k12, encI]
      refine tw_loop I e.kids.length R ?_ ?_ ?_ ?_ ?_
      · rw [hI]
        exact ⟨rfl, rfl, [e.n], _, .own _, by rw [List.drop_zero, hsd, if_pos k12], by simp [encI], by simp [encTm_def, k12], by simp⟩
      · omega
      · rw [hI]
        rintro j ⟨tm, df, clk⟩ σ' hj ⟨rfl, rfl, l, v, hB, ha, h3, h1, h4⟩
        rw [← hI]
        have hw := wrapJ hj hb.len
        rw [sitesLs_drop hj, ← List.append_assoc] at ha
        have hcm : cntT e.kids[j] ≤ cntTs e.kids := cntTs_mem _ _ (List.getElem_mem hj)
        have hcc := ih e.kids[j] σ'.length σ' (by have := szTms_mem _ _ (List.getElem_mem hj); omega) (hb.sub _ (List.getElem_mem hj)) (by omega)
        have h1' := h1
        rw [encTm_def] at hcc h1
        rcases hB with _ | _
        · cases hL : sitesL e.kids[j] with
          | nil =>
            rw [hL] at hcc ha
            simp at hcc
            try simp only [encI] at hcc
            simp [h3, h1, h4, hj, hcc, hw, encTm_def, encI]
            rw [hI]
            exact ⟨rfl, rfl, [], _, .nl, ha, by simp, by simp [h1'], by simp⟩
          | cons x l' =>
            have hlen2 := sitesL_len e.kids[j]
            rw [hL] at hcc ha hlen2
            simp only [List.length_cons] at hlen2
            have hlen3 : l'.length + 1 ≤ 1073741824 := by omega
            simp at hcc
            try simp only [encI] at hcc
            simp [h3, h1, h4, hj, hcc, hw, encTm_def, hlen3, encI]
            rw [hI]
            exact ⟨rfl, rfl, x :: l', _, .own _, ha, by simp [encI], by simp [h1'], by simp⟩
        · have hlen2 := sitesL_len e.kids[j]
          have hlen4 : l.length ≤ 3000 := by have := congrArg List.length ha; simp only [List.length_append] at this; omega
          have hlen3 : l.length + (sitesL e.kids[j]).length ≤ 1073741824 := by omega
          generalize hL : sitesL e.kids[j] = L at hcc ha hlen3
          cases L with
          | nil =>
            simp at hlen3
            simp at hcc
            try simp only [encI] at hcc
            simp [h3, h1, h4, hj, hcc, hw, encTm_def, hlen3, encI]
            rw [hI]
            exact ⟨rfl, rfl, l, _, .own _, by simpa using ha, by simp [encI], by simp [h1'], by simp⟩
          | cons x l' =>
            simp at hlen3
            simp at hcc
            try simp only [encI] at hcc
            simp [h3, h1, h4, hj, hcc, hw, encTm_def, hlen3, encI]
            rw [hI]
            exact ⟨rfl, rfl, l ++ x :: l', _, .own _, by simpa using ha, by simp [encI], by simp [h1'], by simp⟩
      · rw [hI]
        rintro ⟨tm, df, clk⟩ σ' ⟨rfl, rfl, l, v, hB, ha, h3, h1, h4⟩
        rw [List.drop_of_length_le (Nat.le_refl _)] at ha
        rw [encTm_def] at h1
        simp [h3, h1, h4]
        rw [hR]
        exact ⟨rfl, rfl, rfl, v, by rw [← ha]; simpa [sitesLs] using hB, by simp [h3]⟩
      · rw [hR]
        rintro ex ⟨tm, df, clk⟩ σ' ⟨rfl, rfl, rfl, v, hB, h3⟩
        generalize hLe : sitesL e = L at hB
        rcases hB with _ | _
        · simp [h3]
        · simp [h3]
    · simp [x18, encTm_def, k12]
      refine tw_loop I e.kids.length R ?_ ?_ ?_ ?_ ?_
      · rw [hI]
        exact ⟨rfl, rfl, [], _, .nl, by rw [List.drop_zero, hsd, if_neg k12], by simp [encI], by simp [encTm_def], by simp⟩
      · omega
      · rw [hI]
        rintro j ⟨tm, df, clk⟩ σ' hj ⟨rfl, rfl, l, v, hB, ha, h3, h1, h4⟩
        rw [← hI]
        have hw := wrapJ hj hb.len
        rw [sitesLs_drop hj, ← List.append_assoc] at ha
        have hcm : cntT e.kids[j] ≤ cntTs e.kids := cntTs_mem _ _ (List.getElem_mem hj)
        have hcc := ih e.kids[j] σ'.length σ' (by have := szTms_mem _ _ (List.getElem_mem hj); omega) (hb.sub _ (List.getElem_mem hj)) (by omega)
        have h1' := h1
        rw [encTm_def] at hcc h1
        rcases hB with _ | _
        · cases hL : sitesL e.kids[j] with
          | nil =>
            rw [hL] at hcc ha
            simp at hcc
            try simp only [encI] at hcc
            simp [h3, h1, h4, hj, hcc, hw, encTm_def, encI]
            rw [hI]
            exact ⟨rfl, rfl, [], _, .nl, ha, by simp, by simp [h1'], by simp⟩
          | cons x l' =>
            have hlen2 := sitesL_len e.kids[j]
            rw [hL] at hcc ha hlen2
            simp only [List.length_cons] at hlen2
            have hlen3 : l'.length + 1 ≤ 1073741824 := by omega
            simp at hcc
            try simp only [encI] at hcc
            simp [h3, h1, h4, hj, hcc, hw, encTm_def, hlen3, encI]
            rw [hI]
            exact ⟨rfl, rfl, x :: l', _, .own _, ha, by simp [encI], by simp [h1'], by simp⟩
        · have hlen2 := sitesL_len e.kids[j]
          have hlen4 : l.length ≤ 3000 := by have := congrArg List.length ha; simp only [List.length_append] at this; omega
          have hlen3 : l.length + (sitesL e.kids[j]).length ≤ 1073741824 := by omega
          generalize hL : sitesL e.kids[j] = L at hcc ha hlen3
          cases L with
          | nil =>
            simp at hlen3
            simp at hcc
            try simp only [encI] at hcc
            simp [h3, h1, h4, hj, hcc, hw, encTm_def, hlen3, encI]
            rw [hI]
            exact ⟨rfl, rfl, l, _, .own _, by simpa using ha, by simp [encI], by simp [h1'], by simp⟩
          | cons x l' =>
            simp at hlen3
            simp at hcc
            try simp only [encI] at hcc
            simp [h3, h1, h4, hj, hcc, hw, encTm_def, hlen3, encI]
            rw [hI]
            exact ⟨rfl, rfl, l ++ x :: l', _, .own _, by simpa using ha, by simp [encI], by simp [h1'], by simp⟩
      · rw [hI]
        rintro ⟨tm, df, clk⟩ σ' ⟨rfl, rfl, l, v, hB, ha, h3, h1, h4⟩
        rw [List.drop_of_length_le (Nat.le_refl _)] at ha
        rw [encTm_def] at h1
        simp [h3, h1, h4]
        rw [hR]
        exact ⟨rfl, rfl, rfl, v, by rw [← ha]; simpa [sitesLs] using hB, by simp [h3]⟩
      · rw [hR]
        rintro ex ⟨tm, df, clk⟩ σ' ⟨rfl, rfl, rfl, v, hB, h3⟩
        generalize hLe : sitesL e = L at hB
        rcases hB with _ | _
        · simp [h3]
        · simp [h3]
end Go.Xe.YtalckpkiplhbcaaGreatDoor
end
section
namespace Go.Xe.YtalckpkiplhbcaaGreatDoor
open Go Go.Xe Go.Xt
set_option linter.unusedVariables false
set_option linter.unusedSimpArgs false
variable {F : FuncId → Option TFun} {O : FuncId → List TV → Option TV}
inductive IntsV (σ : Sto) : TV → List Int → Prop
  | nl : IntsV σ (.sl .nl []) []
  | fz (l : List Int) : IntsV σ (.sl .fz (l.map encI)) l
  | ref {k ver e c : Nat} (l tl : List Int) : σ.at k = some ⟨ver, .cells (encZT (l ++ tl)) e⟩ → IntsV σ (.ref k 0 1 l.length c) l
theorem encZT_len (l : List Int) : (encZT l).length = l.length := by simp [encZT]
theorem encZT_get {l : List Int} (tl : List Int) {j : Nat} (hj : j < l.length) : (encZT (l ++ tl))[j]? = some (.int .i64 l[j]) := by
  unfold encZT
  rw [List.getElem?_map, List.getElem?_append_left hj, List.getElem?_eq_getElem hj]; rfl
theorem encZT_append (l m : List Int) : encZT (l ++ m) = encZT l ++ encZT m := by simp [encZT]
theorem flat_encI (l : List Int) : (l.map encI).flatten = encZT l := by
  induction l with
  | nil => rfl
  | cons x l ih => rw [List.map_cons, List.flatten_cons, ih]; rfl
theorem chop_encZT : ∀ (l tl : List Int), chop 1 l.length (encZT (l ++ tl)) = l.map encI
  | [], tl => rfl
  | x :: l, tl => by
    have ih := chop_encZT l tl
    simp only [List.length_cons, chop, List.map_cons, ← ih]
    rfl
theorem owned_encZT (l : List Int) : (encZT l).any isOwn = false := by simp [encZT]
theorem take_encZT (l tl : List Int) : (encZT (l ++ tl)).take l.length = encZT l := by
  rw [encZT_append]; simp [encZT]
theorem ints_t (h16 : F 16 = some f16) (N : Nat) (va : TV) (l : List Int) (b : Nat) (σ : Sto) (hv : IntsV σ va l) (hl : l.length ≤ maxLen) (hN : l.length < N) :
    tcall F O (N + 1) b 16 [va, .sl .fz (l.map encI)] σ = some (.ret (.bool true), σ) := by
  refine tcall_pure h16 ?_
  rcases hv with _ | _ | ⟨_, tl, hk⟩
  · simp [x16]
    refine tw_loop (I := fun j a σ' => a.df = [] ∧ σ' = σ ∧ a.tm.get 0 = some (.sl .nl []) ∧ a.tm.get 5 = some (.int .i64 0)) 0 (R := fun ex a σ' => ex = .exit 0 ∧ a.df = [] ∧ σ' = σ) ?_ ?_ ?_ ?_ ?_
    · simp
    · simpa using hN
    · intro j a σ' hj; omega
    · rintro ⟨tm, df, clk⟩ σ' ⟨rfl, rfl, h0, h5⟩
      simp [h0, h5]
    · rintro ex ⟨tm, df, clk⟩ σ' ⟨rfl, rfl, rfl⟩
      simp
  · obtain ⟨va, hva⟩ : ∃ va, va = TV.sl .fz (l.map encI) := ⟨_, rfl⟩
    rw [← hva]
    obtain ⟨I, hI⟩ : ∃ I : Nat → TAct → Sto → Prop, I = (fun j a σ' => a.df = [] ∧ σ' = σ ∧ a.tm.get 0 = some va ∧ a.tm.get 1 = some (.sl .fz (l.map encI)) ∧ a.tm.get 5 = some (.int .i64 j)) := ⟨_, rfl⟩
    obtain ⟨R, hR⟩ : ∃ R : TEx → TAct → Sto → Prop, R = (fun ex a σ' => ex = .exit 0 ∧ a.df = [] ∧ σ' = σ) := ⟨_, rfl⟩
    simp [x16, hva]
    refine tw_loop I l.length R ?_ hN ?_ ?_ ?_
    · rw [hI]
      exact ⟨rfl, rfl, by simp [hva], by simp, by simp⟩
    · rw [hI]
      rintro j ⟨tm, df, clk⟩ σ' hj ⟨rfl, rfl, h0, h1, h5⟩
      rw [← hI]
      have hw := wrapJ hj hl
      rw [hva] at h0
      skip
      simp [h0, h1, h5, hj, hw, encI]
      rw [hI]
      exact ⟨rfl, rfl, by simp [h0, hva], by simp [h1], by simp⟩
    · rw [hI]
      rintro ⟨tm, df, clk⟩ σ' ⟨rfl, rfl, h0, h1, h5⟩
      rw [hva] at h0
      simp [h0, h1, h5]
      rw [hR]
      exact ⟨rfl, rfl, rfl⟩
    · rw [hR]
      rintro ex ⟨tm, df, clk⟩ σ' ⟨rfl, rfl, rfl⟩
      simp
  · rename_i k ver e c
    obtain ⟨va, hva⟩ : ∃ va, va = TV.ref k 0 1 l.length c := ⟨_, rfl⟩
    rw [← hva]
    obtain ⟨I, hI⟩ : ∃ I : Nat → TAct → Sto → Prop, I = (fun j a σ' => a.df = [] ∧ σ' = σ ∧ a.tm.get 0 = some va ∧ a.tm.get 1 = some (.sl .fz (l.map encI)) ∧ a.tm.get 5 = some (.int .i64 j)) := ⟨_, rfl⟩
    obtain ⟨R, hR⟩ : ∃ R : TEx → TAct → Sto → Prop, R = (fun ex a σ' => ex = .exit 0 ∧ a.df = [] ∧ σ' = σ) := ⟨_, rfl⟩
    simp [x16, hva]
    refine tw_loop I l.length R ?_ hN ?_ ?_ ?_
    · rw [hI]
      exact ⟨rfl, rfl, by simp [hva], by simp, by simp⟩
    · rw [hI]
      rintro j ⟨tm, df, clk⟩ σ' hj ⟨rfl, rfl, h0, h1, h5⟩
      rw [← hI]
      have hw := wrapJ hj hl
      rw [hva] at h0
      (have hgj := encZT_get tl hj; generalize encZT (l ++ tl) = cs at hk hgj)
      simp [h0, h1, h5, hj, hw, encI, hk, hgj]
      rw [hI]
      exact ⟨rfl, rfl, by simp [h0, hva], by simp [h1], by simp⟩
    · rw [hI]
      rintro ⟨tm, df, clk⟩ σ' ⟨rfl, rfl, h0, h1, h5⟩
      rw [hva] at h0
      simp [h0, h1, h5]
      rw [hR]
      exact ⟨rfl, rfl, rfl⟩
    · rw [hR]
      rintro ex ⟨tm, df, clk⟩ σ' ⟨rfl, rfl, rfl⟩
      simp
theorem mem_drop {l : List Int} {j : Nat} (hj : j < l.length) (x : Int) : decide (x ∈ l.drop j) = (decide (x = l[j]) || decide (x ∈ l.drop (j + 1))) := by
  rw [List.drop_eq_getElem_cons hj]
  simp only [List.mem_cons, Bool.decide_or]
theorem index_t (h111 : F 111 = some f111) (N : Nat) (va : TV) (l : List Int) (x : Int) (b : Nat) (σ : Sto) (hv : IntsV σ va l) (hl : l.length ≤ maxLen) (hN : l.length < N) :
    ∃ r : Int, tcall F O (N + 1) b 111 [va, .int .i64 x] σ = some (.ret (.int .i64 r), σ) ∧ decide (0 ≤ r) = decide (x ∈ l) := by
  suffices hh : ∃ e' σ', tcall F O (N + 1) b 111 [va, .int .i64 x] σ = some (e', σ') ∧ ∃ r : Int, e' = .ret (.int .i64 r) ∧ σ' = σ ∧ decide (0 ≤ r) = decide (x ∈ l) by
    obtain ⟨e', σ', q1, r, rfl, rfl, q2⟩ := hh
    exact ⟨r, q1, q2⟩
  refine tcall_of h111 ?_
  rcases hv with _ | _ | ⟨_, tl, hk⟩
  · simp [x111]
    refine tw_loop (I := fun j a σ' => a.df = [] ∧ σ' = σ ∧ a.tm.get 7 = some (.int .i64 0) ∧ a.tm.get 8 = some (.int .i64 0)) 0 (R := fun ex a σ' => ex = .exit 0 ∧ a.df = [] ∧ σ' = σ) ?_ ?_ ?_ ?_ ?_
    · simp
    · simpa using hN
    · intro j a σ' hj; omega
    · rintro ⟨tm, df, clk⟩ σ' ⟨rfl, rfl, h0, h5⟩
      simp [h0, h5]
    · rintro ex ⟨tm, df, clk⟩ σ' ⟨rfl, rfl, rfl⟩
      simp
  · obtain ⟨va, hva⟩ : ∃ va, va = TV.sl .fz (l.map encI) := ⟨_, rfl⟩
    rw [← hva]
    simp [x111, hva]
    obtain ⟨I, hI⟩ : ∃ I : Nat → TAct → Sto → Prop, I = (fun j a σ' => a.df = [] ∧ σ' = σ ∧ decide (x ∈ l.drop j) = decide (x ∈ l) ∧ a.tm.get 0 = some va ∧ a.tm.get 1 = some (.int .i64 x) ∧ a.tm.get 7 = some (.int .i64 (l.length : Int)) ∧ a.tm.get 8 = some (.int .i64 j)) := ⟨_, rfl⟩
    obtain ⟨R, hR⟩ : ∃ R : TEx → TAct → Sto → Prop, R = (fun ex a σ' => a.df = [] ∧ σ' = σ ∧ (ex = .exit 0 ∧ decide (x ∈ l) = false ∨ ex = .ret ∧ decide (x ∈ l) = true ∧ ∃ r : Int, 0 ≤ r ∧ a.tm.get 4 = some (.int .i64 r))) := ⟨_, rfl⟩
    refine tw_loop I l.length R ?_ hN ?_ ?_ ?_
    · rw [hI]
      exact ⟨rfl, rfl, by rw [List.drop_zero], by simp [hva], by simp, by simp, by simp⟩
    · rw [hI]
      rintro j ⟨tm, df, clk⟩ σ' hj ⟨rfl, rfl, hd, h0, h1, h7, h8⟩
      rw [← hI]
      have hw := wrapJ hj hl
      rw [mem_drop hj] at hd
      rw [hva] at h0
      skip
      by_cases hx : x = l[j]
      · simp [h0, h1, h7, h8, hj, hw, hx, encI]
        rw [hR]
        rw [decide_eq_true hx, Bool.true_or] at hd
        exact ⟨rfl, rfl, .inr ⟨rfl, hd.symm, (j : Int), by omega, by simp⟩⟩
      · simp [h0, h1, h7, h8, hj, hw, hx, encI]
        rw [hI]
        rw [decide_eq_false hx, Bool.false_or] at hd
        exact ⟨rfl, rfl, hd, by simp [h0, hva], by simp [h1], by simp [h7], by simp⟩
    · rw [hI]
      rintro ⟨tm, df, clk⟩ σ' ⟨rfl, rfl, hd, h0, h1, h7, h8⟩
      rw [List.drop_of_length_le (Nat.le_refl _)] at hd
      rw [hva] at h0
      simp [h0, h1, h7, h8]
      rw [hR]
      exact ⟨rfl, rfl, .inl ⟨rfl, by rw [← hd]; simp⟩⟩
    · rw [hR]
      rintro ex ⟨tm, df, clk⟩ σ' ⟨rfl, rfl, ⟨rfl, h⟩ | ⟨rfl, h, r, hr, h4⟩⟩
      · simp [h]
        exact of_decide_eq_false h
      · simp [h, h4, hr]
        exact of_decide_eq_true h
  · rename_i k ver e c
    obtain ⟨va, hva⟩ : ∃ va, va = TV.ref k 0 1 l.length c := ⟨_, rfl⟩
    rw [← hva]
    simp [x111, hva]
    obtain ⟨I, hI⟩ : ∃ I : Nat → TAct → Sto → Prop, I = (fun j a σ' => a.df = [] ∧ σ' = σ ∧ decide (x ∈ l.drop j) = decide (x ∈ l) ∧ a.tm.get 0 = some va ∧ a.tm.get 1 = some (.int .i64 x) ∧ a.tm.get 7 = some (.int .i64 (l.length : Int)) ∧ a.tm.get 8 = some (.int .i64 j)) := ⟨_, rfl⟩
    obtain ⟨R, hR⟩ : ∃ R : TEx → TAct → Sto → Prop, R = (fun ex a σ' => a.df = [] ∧ σ' = σ ∧ (ex = .exit 0 ∧ decide (x ∈ l) = false ∨ ex = .ret ∧ decide (x ∈ l) = true ∧ ∃ r : Int, 0 ≤ r ∧ a.tm.get 4 = some (.int .i64 r))) := ⟨_, rfl⟩
    refine tw_loop I l.length R ?_ hN ?_ ?_ ?_
    · rw [hI]
      exact ⟨rfl, rfl, by rw [List.drop_zero], by simp [hva], by simp, by simp, by simp⟩
    · rw [hI]
      rintro j ⟨tm, df, clk⟩ σ' hj ⟨rfl, rfl, hd, h0, h1, h7, h8⟩
      rw [← hI]
      have hw := wrapJ hj hl
      rw [mem_drop hj] at hd
      rw [hva] at h0
      (have hgj := encZT_get tl hj; generalize encZT (l ++ tl) = cs at hk hgj)
      by_cases hx : x = l[j]
      · simp [h0, h1, h7, h8, hj, hw, hx, encI, hk, hgj]
        rw [hR]
        rw [decide_eq_true hx, Bool.true_or] at hd
        exact ⟨rfl, rfl, .inr ⟨rfl, hd.symm, (j : Int), by omega, by simp⟩⟩
      · simp [h0, h1, h7, h8, hj, hw, hx, encI, hk, hgj]
        rw [hI]
        rw [decide_eq_false hx, Bool.false_or] at hd
        exact ⟨rfl, rfl, hd, by simp [h0, hva], by simp [h1], by simp [h7], by simp⟩
    · rw [hI]
      rintro ⟨tm, df, clk⟩ σ' ⟨rfl, rfl, hd, h0, h1, h7, h8⟩
      rw [List.drop_of_length_le (Nat.le_refl _)] at hd
      rw [hva] at h0
      simp [h0, h1, h7, h8]
      rw [hR]
      exact ⟨rfl, rfl, .inl ⟨rfl, by rw [← hd]; simp⟩⟩
    · rw [hR]
      rintro ex ⟨tm, df, clk⟩ σ' ⟨rfl, rfl, ⟨rfl, h⟩ | ⟨rfl, h, r, hr, h4⟩⟩
      · simp [h]
        exact of_decide_eq_false h
      · simp [h, h4, hr]
        exact of_decide_eq_true h
theorem contains_t (h66 : F 66 = some f66) (h111 : F 111 = some f111) (N : Nat) (va : TV) (l : List Int) (x : Int) (b : Nat) (σ : Sto) (hv : IntsV σ va l) (hl : l.length ≤ maxLen) (hN : l.length < N) :
    tcall F O (N + 2) b 66 [va, .int .i64 x] σ = some (.ret (.bool (decide (x ∈ l))), σ) := by
  obtain ⟨r, hq, hr⟩ := index_t (O := O) h111 N va l x σ.length σ hv hl hN
  refine tcall_pure h66 ?_
  have hr' : (0 ≤ r) = (x ∈ l) := propext ⟨fun h => of_decide_eq_true (hr ▸ decide_eq_true h), fun h => of_decide_eq_true (hr.trans (decide_eq_true h))⟩
  rcases hv with _ | _ | ⟨_, tl, hk⟩ <;> simp [x66, hq, hr]
end Go.Xe.YtalckpkiplhbcaaGreatDoor
end
section
namespace Go.Xe.YtalckpkiplhbcaaGreatDoor
open Go Go.Xe Go.Xt
set_option linter.unusedVariables false
set_option linter.unusedSimpArgs false
variable {F : FuncId → Option TFun} {O : FuncId → List TV → Option TV}
theorem at_app {σ τ : Sto} {k : Nat} (h : k < σ.length) : Sto.at (σ ++ τ) k = σ.at k := by
  simp only [Sto.at]; rw [List.getElem?_append_left h]
theorem at_new (σ : Sto) (o : TObj) : Sto.at (σ ++ [some o]) σ.length = some o := by simp [Sto.at]
theorem cloneN_t (h67 : F 67 = some f67) (N b : Nat) (σ : Sto) : tcall F O (N + 1) b 67 [.sl .nl []] σ = some (.ret (.sl .nl []), σ) := by
  refine tcall_pure h67 ?_
  simp [x67]
theorem clone_t (h67 : F 67 = some f67) (N b : Nat) (va : TV) (l : List Int) (σ : Sto) (hv : IntsV σ va l) (hne : l ≠ []) (hl : l.length ≤ 1073741824) :
    tcall F O (N + 1) b 67 [va] σ = some (.ret (.ref (σ.length + 1) 0 1 l.length (capU + 1)), σ ++ [some ⟨0, .cells [] 3⟩] ++ [some ⟨0, .cells (encZT l) 3⟩]) := by
  suffices hh : ∃ e' σ', tcall F O (N + 1) b 67 [va] σ = some (e', σ') ∧ e' = .ret (.ref (σ.length + 1) 0 1 l.length (capU + 1)) ∧ σ' = σ ++ [some ⟨0, .cells [] 3⟩] ++ [some ⟨0, .cells (encZT l) 3⟩] by
    obtain ⟨e', σ', q1, rfl, rfl⟩ := hh
    exact q1
  refine tcall_of h67 ?_
  have hnew := at_new σ ⟨0, .cells [] 3⟩
  rcases hv with _ | _ | ⟨_, tl, hk⟩
  · exact absurd rfl hne
  · cases l with
    | nil => exact absurd rfl hne
    | cons x l =>
      have hfl := flat_encI l
      simp at hl
      simp [x67, encI, hnew, hl]
      simp [encZT] at hfl ⊢
      exact hfl
  · rename_i k ver e c
    have hkl := Sto.lt hk
    have hap : Sto.at (σ ++ [some ⟨0, .cells [] 3⟩]) k = _ := (at_app hkl).trans hk
    have hch := chop_encZT l tl
    have hle : l.length ≤ (encZT (l ++ tl)).length := by rw [encZT_len]; simp
    have hnow : ((encZT (l ++ tl)).take l.length).any isOwn = false := by rw [take_encZT]; exact owned_encZT l
    have hfl := flat_encI l
    generalize encZT (l ++ tl) = cs at hk hap hch hle hnow
    cases l with
    | nil => exact absurd rfl hne
    | cons x l =>
      simp at hl hch hle
      simp only [List.length_cons] at hnow
      simp [x67, hk, hnew, hap, hch, hl, hle, hnow, encI]
      simp [encZT, encI] at hfl ⊢
      exact hfl
end Go.Xe.YtalckpkiplhbcaaGreatDoor
end
section
namespace Go.Xe.YtalckpkiplhbcaaGreatDoor
open Go Go.Xe Go.Xt
set_option linter.unusedVariables false
set_option linter.unusedSimpArgs false
variable {F : FuncId → Option TFun} {O : FuncId → List TV → Option TV}
def lp41 : XCode := .block 3 (.loop (.seq (.region [⟨some 63, .bin .lss (.tmp 62) (.tmp 61), none⟩]) (.seq (.cond (.tmp 63) .skip (.exit 3)) (.seq (.block 4 (.seq (.region [⟨some 64, .move (.tmp 62), none⟩, ⟨some 10, .move (.tmp 64), none⟩]) (.seq (.region [⟨some 65, .addr 1 (.tmp 3), none⟩, ⟨some 66, .load1 (.tmp 65), none⟩, ⟨some 67, .move (.tmp 10), none⟩, ⟨some 68, .bin .add (.tmp 66) (.tmp 67), none⟩, ⟨some 69, .addr 1 (.tmp 3), none⟩, ⟨some 70, .load1 (.tmp 69), none⟩, ⟨some 71, .bin .geq (.tmp 68) (.tmp 70), none⟩]) (.cond (.tmp 71) (.region [⟨some 72, .move (.tmp 9), none⟩, ⟨some 73, .addr 1 (.tmp 3), none⟩, ⟨some 74, .load1 (.tmp 73), none⟩, ⟨some 75, .move (.tmp 10), none⟩, ⟨some 76, .bin .add (.tmp 74) (.tmp 75), none⟩, ⟨some 77, .buildSlice 3 1 [(.int .i64 0)] 1 [(0, 1, (.tmp 76))], none⟩, ⟨some 78, .append 3 1 8 (.tmp 72) (.tmp 77), none⟩, ⟨some 9, .move (.tmp 78), none⟩]) .skip)))) (.region [⟨some 79, .bin .add (.tmp 62) (.const (.int .i64 1)), none⟩, ⟨some 62, .move (.tmp 79), none⟩])))))
def in41 : XCode := .seq (.region [⟨some 49, .move (.tmp 6), none⟩, ⟨some 50, .bin .gtr (.tmp 49) (.const (.int .i64 0)), none⟩, ⟨some 51, .move (.tmp 50), none⟩, ⟨some 52, .move (.tmp 7), (some (51, true))⟩, ⟨some 53, .addr 7 (.tmp 3), (some (51, true))⟩, ⟨some 54, .load1 (.tmp 53), (some (51, true))⟩, ⟨some 55, .lenSlice (.tmp 54), (some (51, true))⟩, ⟨some 56, .bin .sub (.tmp 55) (.const (.int .i64 1)), (some (51, true))⟩, ⟨some 57, .bin .eql (.tmp 52) (.tmp 56), (some (51, true))⟩, ⟨some 58, .pick (.tmp 51) (.tmp 57) (.const (.bool false)), none⟩]) (.cond (.tmp 58) (.seq (.region [⟨some 59, .move (.tmp 1), none⟩, ⟨some 60, .call 67 [(.tmp 59)], none⟩, ⟨some 9, .move (.tmp 60), none⟩]) (.seq (.region [⟨some 61, .move (.tmp 6), none⟩, ⟨some 62, .move (.const (.int .i64 0)), none⟩]) lp41)) .skip)
def kd41 : XCode := .seq (.region [⟨some 45, .move (.tmp 43), none⟩, ⟨some 46, .indexAddr 8 (.tmp 41) (.tmp 43), none⟩, ⟨some 47, .loadN 8 (.tmp 46), none⟩, ⟨some 8, .alloc 30 [(.int .i64 0), (.int .i64 0), (.int .i64 0), (.int .i64 0), (.int .i64 0), (.slice none 0 0), (.slice none 0 0), (.slice none 0 0)], none⟩, ⟨some 7, .move (.tmp 45), none⟩, ⟨none, .store 8 (.tmp 8) (.tmp 47), none⟩]) (.seq (.region [⟨some 48, .move (.tmp 1), none⟩, ⟨some 9, .move (.tmp 48), none⟩]) (.seq in41 (.region [⟨some 80, .loadN 8 (.tmp 8), none⟩, ⟨some 81, .move (.tmp 9), none⟩, ⟨some 82, .move (.tmp 2), none⟩, ⟨some 83, .call 41 [(.tmp 80), (.tmp 81), (.tmp 82)], none⟩])))
def mn41 : XCode := .seq (.region [⟨some 30, .addr 0 (.tmp 3), none⟩, ⟨some 31, .load1 (.tmp 30), none⟩]) (.block 0 (.seq (.region [⟨some 33, .bin .eql (.tmp 31) (.const (.int .i64 7)), none⟩, ⟨some 32, .move (.tmp 33), none⟩]) (.cond (.tmp 32) (.region [⟨some 34, .addr 2 (.tmp 3), none⟩, ⟨some 35, .load1 (.tmp 34), none⟩, ⟨some 36, .maxI [(.tmp 35), (.const (.int .i64 0))], none⟩, ⟨some 37, .minI [(.tmp 36), (.const (.int .i64 4))], none⟩, ⟨some 6, .move (.tmp 37), none⟩]) (.seq (.region [⟨some 39, .bin .eql (.tmp 31) (.const (.int .i64 9)), none⟩, ⟨some 38, .move (.tmp 39), none⟩]) (.cond (.tmp 38) (.region [⟨some 6, .move (.const (.int .i64 2)), none⟩]) .skip)))))
def hd41 : XCode := .seq (.region [⟨some 11, .addr 0 (.tmp 3), none⟩, ⟨some 12, .load1 (.tmp 11), none⟩, ⟨some 13, .bin .eql (.tmp 12) (.const (.int .i64 2)), none⟩, ⟨some 14, .move (.tmp 13), none⟩, ⟨some 15, .move (.tmp 1), (some (14, true))⟩, ⟨some 16, .addr 1 (.tmp 3), (some (14, true))⟩, ⟨some 17, .load1 (.tmp 16), (some (14, true))⟩, ⟨some 18, .call 66 [(.tmp 15), (.tmp 17)], (some (14, true))⟩, ⟨some 19, .un .not (.tmp 18), (some (14, true))⟩, ⟨some 20, .pick (.tmp 14) (.tmp 19) (.const (.bool false)), none⟩]) (.cond (.tmp 20) (.regionD [⟨some 21, .move (.tmp 2), none⟩, ⟨some 22, .move (.tmp 2), none⟩, ⟨some 23, .nilCheck (.tmp 22), none⟩, ⟨some 24, .load1 (.tmp 23), none⟩, ⟨some 25, .addr 1 (.tmp 3), none⟩, ⟨some 26, .load1 (.tmp 25), none⟩, ⟨some 27, .buildSlice 3 1 [(.int .i64 0)] 1 [(0, 1, (.tmp 26))], none⟩, ⟨some 28, .append 3 1 8 (.tmp 24) (.tmp 27), none⟩, ⟨some 29, .nilCheck (.tmp 21), none⟩, ⟨none, .store 1 (.tmp 29) (.tmp 28), none⟩] [(3, 6)]) .skip)
theorem x41_cut : x41 = ⟨85, [], .seq (.region [⟨some 3, .box 30 (.tmp 0), none⟩]) (.seq hd41 (.seq (.region [⟨some 6, .move (.const (.int .i64 0)), none⟩]) (.seq mn41 (.seq (.region [⟨some 40, .addr 7 (.tmp 3), none⟩, ⟨some 41, .load1 (.tmp 40), none⟩, ⟨some 42, .lenSlice (.tmp 41), none⟩, ⟨some 43, .move (.const (.int .i64 0)), none⟩]) (.block 1 (.loop (.seq (.region [⟨some 44, .bin .lss (.tmp 43) (.tmp 42), none⟩]) (.seq (.cond (.tmp 44) .skip (.exit 1)) (.seq (.block 2 kd41) (.region [⟨some 84, .bin .add (.tmp 43) (.const (.int .i64 1)), none⟩, ⟨some 43, .move (.tmp 84), none⟩]))))))))))⟩ := rfl
theorem tw_bind {an : Ann} {b : Nat} {C : TCallee} {n : Nat} {Q0 Q : TEx → TAct → Sto → Prop} {ks : List Kt} {r : Option (TEx × TAct × Sto)} (h : Tw an b C n Q0 [] r) (k : ∀ e a σ, Q0 e a σ → Cont an b C n Q ks e a σ) : Tw an b C n Q ks r := by
  obtain ⟨e, a, σ, h1, h2⟩ := h
  exact ⟨e, a, σ, h1, k _ _ _ h2⟩
def manyI (t : PTerm) : Int := if t.kind = 7 then min (max t.m 0) 4 else if t.kind = 9 then 2 else 0
theorem manyI_lo (t : PTerm) : 0 ≤ manyI t ∧ manyI t ≤ 4 := by unfold manyI; split <;> (try split) <;> omega
def slotsB (n : Int) : Nat → List Int
  | 0 => []
  | k + 1 => slotsB n k ++ (if n + (k : Int) ≤ 9223372036854775807 then [n + (k : Int)] else [])
theorem slotsB_len (n : Int) : ∀ k, (slotsB n k).length ≤ k
  | 0 => Nat.le_refl _
  | k + 1 => by
    have := slotsB_len n k
    simp only [slotsB, List.length_append]
    split <;> simp <;> omega
def innerB (bd : List Int) (t : PTerm) : List Int := bd ++ slotsB t.n (manyI t).toNat
def lastB (bd bd' : List Int) : List PTerm → List Int
  | [] => bd'
  | _ :: _ => bd
mutual
def freeC (bd : List Int) : PTerm → List Int
  | .mk k n m v o ks => (if k = 2 ∧ n ∉ bd then [n] else []) ++ freeCs bd (innerB bd (.mk k n m v o ks)) ks
def freeCs (bd bd' : List Int) : List PTerm → List Int
  | [] => []
  | t :: l => freeC (lastB bd bd' l) t ++ freeCs bd bd' l
end
theorem freeC_def (bd : List Int) (t : PTerm) : freeC bd t = (if t.kind = 2 ∧ t.n ∉ bd then [t.n] else []) ++ freeCs bd (innerB bd t) t.kids := by
  cases t; simp only [freeC, PTerm.kind, PTerm.n, PTerm.kids]; rfl
theorem freeCs_drop {bd bd' : List Int} {l : List PTerm} {j : Nat} (hj : j < l.length) : freeCs bd bd' (l.drop j) = freeC (if j + 1 = l.length then bd' else bd) l[j] ++ freeCs bd bd' (l.drop (j + 1)) := by
  rw [List.drop_eq_getElem_cons hj]
  simp only [freeCs]
  congr 2
  by_cases h : j + 1 = l.length
  · rw [if_pos h, List.drop_of_length_le (by omega)]; rfl
  · rw [if_neg h, List.drop_eq_getElem_cons (by omega)]; rfl
mutual
theorem freeC_len (bd : List Int) : ∀ t, (freeC bd t).length ≤ cntT t
  | .mk k n m v o ks => by
    have := freeCs_len bd (innerB bd (.mk k n m v o ks)) ks
    simp only [freeC, cntT, List.length_append]
    split <;> simp <;> omega
theorem freeCs_len (bd bd' : List Int) : ∀ l, (freeCs bd bd' l).length ≤ cntTs l
  | [] => Nat.le_refl _
  | t :: l => by
    have := freeC_len (lastB bd bd' l) t
    have := freeCs_len bd bd' l
    simp only [freeCs, cntTs, List.length_append]; omega
end
inductive OutV (σ : Sto) : TV → List Int → Prop
  | nl : OutV σ (.sl .nl []) []
  | ref {k ver : Nat} (l : List Int) : l ≠ [] → σ.at k = some ⟨ver, .cells (encZT l) 3⟩ → OutV σ (.ref k 0 1 l.length (capU + 1)) l
def OutS (σ : Sto) (po : Nat) (l : List Int) : Prop := ∃ ver ov, σ.at po = some ⟨ver, .cells [ov] 27⟩ ∧ OutV σ ov l
def rowOf (σ : Sto) (po : Nat) : Option Nat :=
  match σ.at po with
  | some ⟨_, .cells [.ref k _ _ _ _] _⟩ => some k
  | _ => none
structure Frm (σ σ' : Sto) (po : Nat) : Prop where
  len : σ.length ≤ σ'.length
  same : ∀ k, k < σ.length → k ≠ po → rowOf σ po ≠ some k → σ'.at k = σ.at k
  row : ∀ k, rowOf σ' po = some k → rowOf σ po = some k ∨ σ.length ≤ k
theorem Frm.refl (σ : Sto) (po : Nat) : Frm σ σ po := ⟨Nat.le_refl _, fun _ _ _ _ => rfl, fun k h => .inl h⟩
theorem Frm.trans {σ σ1 σ2 : Sto} {po : Nat} (a : Frm σ σ1 po) (b : Frm σ1 σ2 po) : Frm σ σ2 po := by
  refine ⟨Nat.le_trans a.len b.len, fun k hk hp hr => ?_, fun k h => ?_⟩
  · rw [b.same k (Nat.lt_of_lt_of_le hk a.len) hp, a.same k hk hp hr]
    intro h
    rcases a.row k h with h | h
    · exact hr h
    · omega
  · rcases b.row k h with h | h
    · exact a.row k h
    · exact .inr (Nat.le_trans a.len h)
structure Grn (σ σ' : Sto) : Prop where
  len : σ.length ≤ σ'.length
  same : ∀ k, k < σ.length → σ'.at k = σ.at k
theorem Grn.refl (σ : Sto) : Grn σ σ := ⟨Nat.le_refl _, fun _ _ => rfl⟩
theorem Grn.trans {σ σ1 σ2 : Sto} (a : Grn σ σ1) (b : Grn σ1 σ2) : Grn σ σ2 := ⟨Nat.le_trans a.len b.len, fun k hk => by rw [b.same k (Nat.lt_of_lt_of_le hk a.len), a.same k hk]⟩
theorem Grn.app (σ τ : Sto) : Grn σ (σ ++ τ) := ⟨by simp, fun k hk => at_app hk⟩
theorem Grn.frm {σ σ' : Sto} {po : Nat} (g : Grn σ σ') (hp : po < σ.length) : Frm σ σ' po := by
  refine ⟨g.len, fun k hk _ _ => g.same k hk, fun k h => .inl ?_⟩
  unfold rowOf at h ⊢
  rwa [g.same po hp] at h
theorem OutS.lt {σ : Sto} {po : Nat} {l : List Int} (h : OutS σ po l) : po < σ.length := by
  obtain ⟨ver, ov, h1, _⟩ := h; exact Sto.lt h1
theorem OutS.grn {σ σ' : Sto} {po : Nat} {l : List Int} (h : OutS σ po l) (g : Grn σ σ') : OutS σ' po l := by
  obtain ⟨ver, ov, h1, h2⟩ := h
  refine ⟨ver, ov, by rw [g.same po (Sto.lt h1)]; exact h1, ?_⟩
  cases h2 with
  | nl => exact .nl
  | ref l hne hk => exact .ref l hne (by rw [g.same _ (Sto.lt hk)]; exact hk)
structure BdV (σ : Sto) (po : Nat) (v : TV) (l : List Int) : Prop where
  ints : IntsV σ v l
  ne : v = .sl .nl [] ∨ l ≠ []
  sep : ∀ k o s n c, v = .ref k o s n c → k ≠ po ∧ rowOf σ po ≠ some k
  give : give v = some v
  own : isOwn v = false
theorem BdV.frm {σ σ' : Sto} {po : Nat} {v : TV} {l : List Int} (h : BdV σ po v l) (f : Frm σ σ' po) : BdV σ' po v l := by
  refine ⟨?_, h.ne, fun k o s n c e => ?_, h.give, h.own⟩
  · cases h.ints with
    | nl => exact .nl
    | fz l => exact .fz l
    | ref l tl hk =>
      obtain ⟨h1, h2⟩ := h.sep _ _ _ _ _ rfl
      exact .ref l tl (by rw [f.same _ (Sto.lt hk) h1 h2]; exact hk)
  · obtain ⟨h1, h2⟩ := h.sep _ _ _ _ _ e
    refine ⟨h1, fun hr => ?_⟩
    rcases f.row _ hr with hr | hr
    · exact h2 hr
    · subst e
      cases h.ints with
      | ref l tl hk => have := Sto.lt hk; omega
theorem nl_bdv (σ : Sto) (po : Nat) : BdV σ po (.sl .nl []) [] := ⟨.nl, .inl rfl, fun _ _ _ _ _ h => (by cases h), rfl, rfl⟩
theorem BdV.lt {σ : Sto} {po : Nat} {v : TV} {l : List Int} (h : BdV σ po v l) {k o s n c : Nat} (e : v = .ref k o s n c) : k < σ.length := by
  subst e
  cases h.ints with
  | ref l tl hk => exact Sto.lt hk
end Go.Xe.YtalckpkiplhbcaaGreatDoor
end
section
namespace Go.Xe.YtalckpkiplhbcaaGreatDoor
open Go Go.Xe Go.Xt
set_option linter.unusedVariables false
set_option linter.unusedSimpArgs false
variable {F : FuncId → Option TFun} {O : FuncId → List TV → Option TV}
theorem min_t {C : TCallee} {N b : Nat} (e : PTerm) (a : TAct) (σ : Sto) (v1 v2 : TV) (hdf : a.df = []) (h1 : a.tm.get 1 = some v1) (h2 : a.tm.get 2 = some v2) (h3 : a.tm.get 3 = some (.bx 0 (encTm e) 30)) (h6 : a.tm.get 6 = some (.int .i64 0)) :
    Tw a41 b C N (fun ex a' σ' => ex = .normal ∧ σ' = σ ∧ a'.df = [] ∧ a'.tm.get 1 = some v1 ∧ a'.tm.get 2 = some v2 ∧ a'.tm.get 3 = some (.bx 0 (encTm e) 30) ∧ a'.tm.get 6 = some (.int .i64 (manyI e))) [] (tcode a41 b C N mn41 a σ) := by
  obtain ⟨tm, df, clk⟩ := a
  simp only at hdf h1 h2 h3 h6
  subst hdf
  have h3' := h3
  rw [encTm_def] at h3
  unfold manyI
  by_cases k7 : e.kind = 7
  · rw [if_pos k7]
    by_cases m0 : e.m < 0
    · have e1 : min (max e.m 0) 4 = 0 := by omega
      simp [mn41, h3, k7, m0, h1, h2, encTm_def, e1, intsT, ltInt_eq]
    · have hm0 : ¬ (e.m < 0) := m0
      by_cases m4 : 4 < e.m
      · have e1 : min (max e.m 0) 4 = 4 := by omega
        simp [mn41, h3, k7, m0, m4, h1, h2, encTm_def, e1, intsT, ltInt_eq]
      · have e1 : min (max e.m 0) 4 = e.m := by omega
        simp [mn41, h3, k7, m0, m4, h1, h2, encTm_def, e1, intsT, ltInt_eq]
  · rw [if_neg k7]
    by_cases k9 : e.kind = 9
    · simp [mn41, h3, k9, h1, h2, encTm_def]
    · simp [mn41, h3, k7, k9, h1, h2, encTm_def, h6]
theorem out_put {σ Y : Sto} {po ver' : Nat} {l : List Int} (hp : po < σ.length) (hY : Y.length = σ.length) (hs : ∀ j, j < σ.length → j ≠ po → rowOf σ po ≠ some j → Y.at j = σ.at j) (hne : l ≠ []) :
    OutS ((Y ++ [some (⟨0, .cells (encZT l) 3⟩ : TObj)]).set po (some (⟨ver', .cells [.ref σ.length 0 1 l.length (capU + 1)] 27⟩ : TObj))) po l ∧
    Frm σ ((Y ++ [some (⟨0, .cells (encZT l) 3⟩ : TObj)]).set po (some (⟨ver', .cells [.ref σ.length 0 1 l.length (capU + 1)] 27⟩ : TObj))) po := by
  have hat : Sto.at ((Y ++ [some (⟨0, .cells (encZT l) 3⟩ : TObj)]).set po (some (⟨ver', .cells [.ref σ.length 0 1 l.length (capU + 1)] 27⟩ : TObj))) po = some ⟨ver', .cells [.ref σ.length 0 1 l.length (capU + 1)] 27⟩ := by
    have : po < (Y ++ [some (⟨0, .cells (encZT l) 3⟩ : TObj)]).length := by simp; omega
    simp only [Sto.at]
    rw [List.getElem?_set_self this]
  refine ⟨⟨_, _, hat, .ref (ver := 0) l hne ?_⟩, ⟨by simp; omega, fun k hk hkp hr => ?_, fun k h => ?_⟩⟩
  · rw [at_ne (by omega), ← hY]; exact at_new Y _
  · rw [at_ne (by omega), at_app (by omega)]; exact hs k hk hkp hr
  · unfold rowOf at h
    rw [hat] at h
    cases h
    exact .inr (Nat.le_refl _)
theorem hd_t {N b : Nat} (h66 : F 66 = some f66) (h111 : F 111 = some f111) (e : PTerm) (a : TAct) (σ : Sto) (po : Nat) (ol : List Int) (bv : TV) (bd : List Int) (hb : BdV σ po bv bd) (ho : OutS σ po ol) (hbp : b ≤ po) (hbl : bd.length < N) (hbm : bd.length ≤ maxLen) (hol : ol.length ≤ 100000)
    (hdf : a.df = []) (h1 : a.tm.get 1 = some bv) (h2 : a.tm.get 2 = some (.ptr po 0)) (h3 : a.tm.get 3 = some (.bx 0 (encTm e) 30)) :
    Tw a41 b (tcall F O (N + 2)) (N + 2) (fun ex a' σ' => ex = .normal ∧ OutS σ' po (ol ++ (if e.kind = 2 ∧ e.n ∉ bd then [e.n] else [])) ∧ Frm σ σ' po ∧ a'.df = [] ∧ a'.tm.get 1 = some bv ∧ a'.tm.get 2 = some (.ptr po 0) ∧ a'.tm.get 3 = some (.bx 0 (encTm e) 30)) [] (tcode a41 b (tcall F O (N + 2)) (N + 2) hd41 a σ) := by
  obtain ⟨tm, df, clk⟩ := a
  simp only at hdf h1 h2 h3
  subst hdf
  have h3' := h3
  rw [encTm_def] at h3
  have hints := hb.ints
  have hg := hb.give
  have hown := hb.own
  by_cases k2 : e.kind = 2
  case neg =>
    rw [if_neg (fun h => k2 h.1), List.append_nil]
    simp [hd41, h3, k2, h1, h2, encTm_def, ho, Frm.refl, undT]
  have hc := contains_t (O := O) h66 h111 N bv bd e.n b σ hb.ints hbm hbl
  by_cases hm : e.n ∈ bd
  · rw [if_neg (fun h => h.2 hm), List.append_nil]
    rw [decide_eq_true hm] at hc
    rcases hints with _ | _ | _
    skip
    all_goals simp [hd41, h3, k2, h1, h2, encTm_def, ho, Frm.refl, undT, hc]
  · rw [if_pos ⟨k2, hm⟩]
    rw [decide_eq_false hm] at hc
    obtain ⟨ver, ov, hpo, hov⟩ := ho
    have hpl := Sto.lt hpo
    rcases hov with _ | ⟨_, hne, hk⟩
    · have hapo : Sto.at (σ ++ [some ⟨0, .cells [.int .i64 e.n] 3⟩]) po = _ := (at_app hpl).trans hpo
      obtain ⟨q1, q2⟩ := out_put (Y := σ) (ver' := ver + 1) (l := [e.n]) hpl rfl (fun _ _ _ _ => rfl) (by simp)
      have ez : encZT [e.n] = [.int .i64 e.n] := rfl
      rw [ez] at q1 q2
      simp only [List.length_cons, List.length_nil, Nat.zero_add] at q1 q2
      rcases hints with _ | _ | _
      skip
      all_goals simp [hd41, h3, k2, h1, h2, encTm_def, undT, hc, hpo, hapo, hbp, q1, q2]
    · rename_i k vk
      have hkp : k ≠ po := by
        rintro rfl
        rw [hpo] at hk
        simp at hk
      have hY : ∀ j, j < σ.length → j ≠ po → rowOf σ po ≠ some j → Sto.at (σ.set k none) j = σ.at j := fun j h1 h2 h3 => at_ne (fun e => h3 (by subst e; unfold rowOf; rw [hpo]))
      obtain ⟨q1, q2⟩ := out_put (Y := σ.set k none) (ver' := ver + 1) (l := ol ++ [e.n]) hpl (by simp) hY (by simp)
      have hapo : Sto.at (σ.set k none ++ [some (⟨0, .cells (encZT (ol ++ [e.n])) 3⟩ : TObj)]) po = _ := ((at_app (by simpa using hpl)).trans (at_ne hkp)).trans hpo
      have ez : encZT (ol ++ [e.n]) = encZT ol ++ [.int .i64 e.n] := by rw [encZT_append]; rfl
      have hcl : (encZT ol).length = ol.length := encZT_len ol
      have hct : (encZT ol).take ol.length = encZT ol := List.take_of_length_le (by omega)
      have hca := owned_encZT ol
      have hol2 : ol.length + 1 ≤ 1073741824 := by omega
      rw [ez] at q1 q2 hapo
      simp only [List.length_append, List.length_cons, List.length_nil, Nat.zero_add] at q1 q2
      generalize encZT ol = cs at *
      rcases hints with _ | _ | _
      all_goals simp [hd41, h3, k2, h1, h2, encTm_def, undT, hc, hpo, hapo, hbp, q1, q2, hk, hcl, hct, hca, hol2]
end Go.Xe.YtalckpkiplhbcaaGreatDoor
end
