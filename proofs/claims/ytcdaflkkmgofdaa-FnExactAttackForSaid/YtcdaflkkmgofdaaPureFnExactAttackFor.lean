/-
  FnExactAttackFor over numbers and lists: both loops make the same two lists.
-/
import Derived.Test.YtcdaflkkmgofdaaPFnExactAttackForx
import Derived.Test.YtcdaflkkmgofdaaPL
set_option linter.unusedVariables false
set_option linter.unusedSimpArgs false
namespace Go.Proofs.Ytcdaflkkmgofdaa.Pure
open Go.RowKit Go.Proofs.Ytcdaflkkmgofdaa.PFnExactAttackFor Go.Proofs.YtcdaflkkmgofdaaW.PrintWords Go.Proofs.YtcdaflkkmgofdaaW.PrintLast Go.Proofs.YtcdaflkkmgofdaaW.PrintMore Go.Proofs.Ytcdaflkkmgofdaa.PL

theorem within_is (a b c : Int) : impl_within.f a b c = some (decide (b ≤ a ∧ a ≤ c)) := by
  unfold impl_within.f
  by_cases h : b ≤ a <;> simp [h]
theorem l01In_is (a b c : Int) : spec_l01In.f a b c = some (decide (b ≤ a ∧ a ≤ c)) := by
  unfold spec_l01In.f
  by_cases h : b ≤ a <;> simp [h]

theorem attack_loops (m p q : Int) (h0 : 0 ≤ m) (hm : m ≤ 14) (d : Nat) : ∀ (i : Int) (x y : List Bool), 0 ≤ i → i ≤ m + 1 → m + 1 - i = d → x.length ≤ i → y.length = x.length →
    ∃ u v, u.length ≤ 15 ∧ v.length = u.length ∧ Ev (fun k => spec_AttackFor.l0 k m p q x y i) (u, v, true) ∧ Ev (fun k => impl_AttackFor.l0 k p q x y (m + 1) i) (u, v, true) := by
  induction d with
  | zero =>
    intro i x y h1 h2 hd hx hy
    exact ⟨x, y, by omega, hy, Ev.step (fun k => by rw [spec_AttackFor.l0]) (ev_neg (by omega) (ev_some _)), Ev.step (fun k => by rw [impl_AttackFor.l0]) (ev_neg (by omega) (ev_some _))⟩
  | succ d ih =>
    intro i x y h1 h2 hd hx hy
    have hw : wrap64 (i + 1) = i + 1 := w64 (by omega) (by omega)
    obtain ⟨u, v, hu, hv, hs, hi⟩ := ih (i + 1) (x ++ [decide (wrap64 (Int.tdiv i 2) ≥ p)]) (y ++ [decide (wrap64 (Int.tdiv (wrap64 (i + 1)) 2) ≥ q)]) (by omega) (by omega) (by omega) (by simp; omega) (by simp [hy])
    rw [hw] at hs hi
    refine ⟨u, v, hu, hv, ?_, ?_⟩
    · refine Ev.step (fun k => by rw [spec_AttackFor.l0]) ?_
      refine ev_pos (by omega) ?_
      refine ev_pos (by omega) ?_
      refine ev_pos (by omega) ?_
      rw [hw]; exact hs
    · refine Ev.step (fun k => by rw [impl_AttackFor.l0]) ?_
      refine ev_pos (by omega) ?_
      refine ev_bind0 (impl_got.f.eq_1 i) ?_
      refine ev_pos (by omega) ?_
      refine ev_pos (by omega) ?_
      rw [hw]; exact hi
theorem attack_both (m p q : Int) : ∃ u v b, u.length ≤ 15 ∧ v.length = u.length ∧ (b = false → u = []) ∧ Ev (fun k => spec_AttackFor.f k m p q) (u, v, b) ∧ Ev (fun k => impl_AttackFor.f k m p q) (u, v, b) := by
  unfold spec_AttackFor.f impl_AttackFor.f
  by_cases h : 0 ≤ m ∧ m ≤ 14
  · by_cases hp : p < 0
    · exact ⟨[], [], false, by simp, rfl, fun _ => rfl, ev_bind0 (l01In_is _ _ _) (ev_dpos h (ev_pos hp (Ev.step (fun k => by rw [spec_AttackFor.j0]) (ev_pos rfl (ev_some _))))),
        ev_bind0 (within_is _ _ _) (ev_dpos h (ev_pos hp (Ev.step (fun k => by rw [impl_AttackFor.j0]) (ev_pos rfl (ev_some _)))))⟩
    · by_cases hq : q < 0
      · exact ⟨[], [], false, by simp, rfl, fun _ => rfl, ev_bind0 (l01In_is _ _ _) (ev_dpos h (ev_neg hp (Ev.step (fun k => by rw [spec_AttackFor.j0]) (ev_dpos hq (ev_some _))))),
          ev_bind0 (within_is _ _ _) (ev_dpos h (ev_neg hp (Ev.step (fun k => by rw [impl_AttackFor.j0]) (ev_dpos hq (ev_some _)))))⟩
      · obtain ⟨u, v, hu, hv, hs, hi⟩ := attack_loops m p q h.1 h.2 (m + 1).toNat 0 [] [] (by omega) (by omega) (by omega) (by simp) rfl
        refine ⟨u, v, true, hu, hv, (fun h => (by cases h)), ev_bind0 (l01In_is _ _ _) (ev_dpos h (ev_neg hp (Ev.step (fun k => by rw [spec_AttackFor.j0]) (ev_dneg hq hs)))),
          ev_bind0 (within_is _ _ _) (ev_dpos h (ev_neg hp (Ev.step (fun k => by rw [impl_AttackFor.j0]) (ev_dneg hq ?_))))⟩
        rw [w64 (by omega) (by omega)]; exact hi
  · exact ⟨[], [], false, by simp, rfl, fun _ => rfl, ev_bind0 (l01In_is _ _ _) (ev_dneg h (Ev.step (fun k => by rw [spec_AttackFor.j0]) (ev_pos rfl (ev_some _)))),
      ev_bind0 (within_is _ _ _) (ev_dneg h (Ev.step (fun k => by rw [impl_AttackFor.j0]) (ev_pos rfl (ev_some _))))⟩

theorem eqBoolS_l0 (l m : List Bool) (hlm : l.length = m.length) (hn : l.length ≤ 9223372036854775807) (d : Nat) : ∀ i : Int, 0 ≤ i → i ≤ l.length → (l.length : Int) - i = d →
    ∃ b, Ev (fun k => laws_eqBoolS.l0 k l m i) b ∧ (b = true ↔ ∀ j : Int, i ≤ j → j < l.length → rdOf false l j = rdOf false m j) := by
  induction d with
  | zero =>
    intro i h0 h1 hd
    exact ⟨true, Ev.step (fun k => by rw [laws_eqBoolS.l0]) (ev_neg (by omega) (ev_some true)), ⟨fun _ j _ _ => (by omega), fun _ => rfl⟩⟩
  | succ d ih =>
    intro i h0 h1 hd
    by_cases he : rdOf false l i = rdOf false m i
    · obtain ⟨b, hb, hi⟩ := ih (i + 1) (by omega) (by omega) (by omega)
      refine ⟨b, Ev.step (fun k => by rw [laws_eqBoolS.l0]) (ev_pos (by omega) (ev_pos h0 (ev_pos (by omega) (ev_neg (by simp [he]) ?_)))), ?_⟩
      · rw [w64 (by omega) (by omega)]; exact hb
      · rw [hi]
        constructor
        · intro h j hj hl
          by_cases e : j = i
          · rw [e]; exact he
          · exact h j (by omega) hl
        · intro h j hj hl
          exact h j (by omega) hl
    · exact ⟨false, Ev.step (fun k => by rw [laws_eqBoolS.l0]) (ev_pos (by omega) (ev_pos h0 (ev_pos (by omega) (ev_pos (by simpa using he) (ev_some false))))), ⟨fun h => (by cases h), fun h => absurd (h i (by omega) (by omega)) he⟩⟩
theorem rdOf_eq {l : List Bool} {i : Int} (h0 : 0 ≤ i) (h1 : i < l.length) : l[i.toNat]? = some (rdOf false l i) := by
  unfold rdOf
  rw [List.getD_eq_getElem?_getD, List.getElem?_eq_getElem (by omega)]
  rfl
theorem eqBoolS_ev (l m : List Bool) (hn : l.length ≤ 9223372036854775807) : Ev (fun k => laws_eqBoolS.f k l m) (decide (l = m)) := by
  unfold laws_eqBoolS.f
  by_cases h : l.length = m.length
  · obtain ⟨b, hb, hi⟩ := eqBoolS_l0 l m h hn l.length 0 (by omega) (by omega) (by omega)
    refine ev_pos (by omega) (ev_eq hb ?_)
    rw [Bool.eq_iff_iff, hi, decide_eq_true_eq]
    constructor
    · intro hr
      apply List.ext_getElem?
      intro i
      by_cases hi : i < l.length
      · have e1 := rdOf_eq (l := l) (i := (i : Int)) (by omega) (by omega)
        have e2 := rdOf_eq (l := m) (i := (i : Int)) (by omega) (by omega)
        simp only [Int.toNat_natCast] at e1 e2
        rw [e1, e2, hr i (by omega) (by omega)]
      · rw [List.getElem?_eq_none (by omega), List.getElem?_eq_none (by omega)]
    · intro e j _ _; rw [e]
  · refine ev_neg (by omega) (ev_eq (ev_some false) ?_)
    symm; rw [decide_eq_false_iff_not]
    intro e; exact h (by rw [e])

/-- The marks of a list of bools: every third number, from a on. -/
def bmarks (a : Int) : Nat → List Bool
  | 0 => []
  | n + 1 => (Int.tmod a 3 == 0) :: bmarks (a + 1) n
theorem bmarks_length (a : Int) (n : Nat) : (bmarks a n).length = n := by
  induction n generalizing a with
  | zero => rfl
  | succ n ih => simp [bmarks, ih]
theorem bmarks_get (a : Int) (n i : Nat) (h : i < n) : (bmarks a n).getD i false = (Int.tmod (a + i) 3 == 0) := by
  induction n generalizing a i with
  | zero => omega
  | succ n ih =>
    cases i with
    | zero => simp [bmarks]
    | succ i =>
      have := ih (a + 1) i (by omega)
      simp only [bmarks, List.getD_cons_succ, this]
      rw [show a + 1 + (i : Int) = a + ((i + 1 : Nat) : Int) by omega]
theorem markBoolS_l0 (n : Nat) (hn : n ≤ 4611686018427387904) (d : Nat) : ∀ (i : Nat) (l : List Bool) (a : Int), l.length = n → i ≤ n → n - i = d → -4611686018427387904 ≤ a → a + d ≤ 4611686018427387904 →
    Ev (fun k => laws_markBoolS.l0 k l a i) (a + d, l.take i ++ bmarks a d) := by
  induction d with
  | zero =>
    intro i l a hl h1 hd ha hb
    refine Ev.step (fun k => by rw [laws_markBoolS.l0]) (ev_neg (by omega) (ev_eq (ev_some (a, l)) ?_))
    rw [List.take_of_length_le (by omega)]
    simp [bmarks]
  | succ d ih =>
    intro i l a hl h1 hd ha hb
    refine Ev.step (fun k => by rw [laws_markBoolS.l0]) (ev_pos (by omega) (ev_pos (by omega) ?_))
    rw [w64 (x := a + 1) (by omega) (by omega), w64 (by omega) (by omega)]
    have e : ((i : Int) + 1) = ((i + 1 : Nat) : Int) := by omega
    rw [e]
    refine ev_eq (ih (i + 1) _ (a + 1) (by simp [hl]) (by omega) (by omega) (by omega) (by omega)) ?_
    simp only [Int.toNat_natCast]
    rw [List.take_succ_eq_append_getElem (by simp; omega), List.take_set_of_le (Nat.le_refl _)]
    simp [bmarks]
    omega
theorem markBoolS_ev (l : List Bool) (a : Int) (hn : l.length ≤ 4611686018427387904) (ha : -4611686018427387904 ≤ a) (hb : a + l.length ≤ 4611686018427387904) :
    Ev (fun k => laws_markBoolS.f k l a) (a + l.length, bmarks a l.length) := by
  unfold laws_markBoolS.f
  exact ev_eq (markBoolS_l0 l.length hn l.length 0 l a rfl (by omega) (by omega) ha hb) (by simp)
theorem heldBoolS_l0 (a0 : Int) (n : Nat) (h0 : -4611686018427387904 ≤ a0) (hb : a0 + n ≤ 4611686018427387904) (hn : n ≤ 4611686018427387904) (d : Nat) : ∀ (i : Nat), i ≤ n → n - i = d →
    Ev (fun k => laws_heldBoolS.l0 k (bmarks a0 n) (a0 + i) i) (a0 + n) := by
  induction d with
  | zero =>
    intro i h1 hd
    refine Ev.step (fun k => by rw [laws_heldBoolS.l0]) (ev_neg (by rw [bmarks_length]; omega) (ev_eq (ev_some _) (by omega)))
  | succ d ih =>
    intro i h1 hd
    have hg : rdOf false (bmarks a0 n) (i : Int) = (Int.tmod (a0 + i) 3 == 0) := by unfold rdOf; rw [bmarks_get _ _ _ (by omega)]; simp
    refine Ev.step (fun k => by rw [laws_heldBoolS.l0]) (ev_pos (by rw [bmarks_length]; omega) (ev_pos (by omega) (ev_neg (by rw [hg]; simp) ?_)))
    rw [w64 (x := a0 + i + 1) (by omega) (by omega), w64 (by omega) (by omega)]
    have e : ((i : Int) + 1) = ((i + 1 : Nat) : Int) := by omega
    have e2 : a0 + (i : Int) + 1 = a0 + ((i + 1 : Nat) : Int) := by omega
    rw [e2, e]
    exact ih (i + 1) (by omega) (by omega)
theorem heldBoolS_ev (a : Int) (n : Nat) (ha : -4611686018427387904 ≤ a) (hb : a + n ≤ 4611686018427387904) (hn : n ≤ 4611686018427387904) :
    Ev (fun k => laws_heldBoolS.f k (bmarks a n) a) (a + n) := by
  unfold laws_heldBoolS.f
  have := heldBoolS_l0 a n ha hb hn n 0 (by omega) (by omega)
  simpa using this

theorem FnExactAttackFor : laws_FnExactAttackFor.Pure := by
  intro m p q _ _ _
  apply Ev.rounds
  unfold laws_FnExactAttackFor.f
  obtain ⟨u, v, b, hu, hv, _, hs, hi⟩ := attack_both m p q
  have eu := eqBoolS_ev u u (by omega)
  have ev := eqBoolS_ev v v (by omega)
  have mu := markBoolS_ev u 1 (by omega) (by omega) (by omega)
  have mv := markBoolS_ev v (1 + u.length) (by omega) (by omega) (by omega)
  have hhu := heldBoolS_ev 1 u.length (by omega) (by omega) (by omega)
  have hhv := heldBoolS_ev (1 + u.length) v.length (by omega) (by omega) (by omega)
  refine Ev.bind hs (Ev.bind hi (Ev.bind eu (ev_pos (by simp) (Ev.bind ev (ev_pos (by simp) (Ev.step (fun k => by rw [laws_FnExactAttackFor.j0]) (ev_neg (by simp) ?_)))))))
  refine Ev.bind mu (Ev.bind mv (Ev.bind hhu (ev_neg (by omega) (Ev.bind hhv (ev_neg (by omega) (ev_pos rfl ?_))))))
  refine Ev.bind hi (Ev.bind eu (ev_pos (by simp) (Ev.bind ev (ev_pos (by simp) (Ev.step (fun k => by rw [laws_FnExactAttackFor.j1]) (ev_neg (by simp) ?_))))))
  exact Ev.bind hhu (ev_neg (by omega) (Ev.bind hhv (ev_neg (by omega) (ev_pos rfl (ev_some _)))))

end Go.Proofs.Ytcdaflkkmgofdaa.Pure
