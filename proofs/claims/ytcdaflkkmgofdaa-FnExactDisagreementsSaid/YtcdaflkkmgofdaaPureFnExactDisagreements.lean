/-
  FnExactDisagreements over numbers and lists: both look at the same two lists in the same order.
-/
import Derived.Test.YtcdaflkkmgofdaaPFnExactDisagreementsx
import Derived.Test.YtcdaflkkmgofdaaPL
set_option linter.unusedVariables false
set_option linter.unusedSimpArgs false
namespace Go.Proofs.Ytcdaflkkmgofdaa.Pure
open Go.RowKit Go.Proofs.Ytcdaflkkmgofdaa.PFnExactDisagreements Go.Proofs.YtcdaflkkmgofdaaW.PrintWords Go.Proofs.YtcdaflkkmgofdaaW.PrintLast Go.Proofs.YtcdaflkkmgofdaaW.PrintMore Go.Proofs.Ytcdaflkkmgofdaa.PL

theorem within_is (a b c : Int) : impl_within.f a b c = some (decide (b ≤ a ∧ a ≤ c)) := by
  unfold impl_within.f
  by_cases h : b ≤ a <;> simp [h]
theorem l01In_is (a b c : Int) : spec_l01In.f a b c = some (decide (b ≤ a ∧ a ≤ c)) := by
  unfold spec_l01In.f
  by_cases h : b ≤ a <;> simp [h]

theorem attack_loops (m p q : Int) (h0 : 0 ≤ m) (hm : m ≤ 14) (d : Nat) : ∀ (i : Int) (x y : List Bool), 0 ≤ i → i ≤ m + 1 → m + 1 - i = d → x.length ≤ i → y.length = x.length →
    ∃ u v, u.length ≤ 15 ∧ v.length = u.length ∧ Ev (fun k => spec_AttackFor.l0 k m p q x y i) (u, v, true) ∧ Ev (fun k => impl_AttackFor.l0 k p q x y (m + 1) i) (u, v, true) := by
  induction d with
  | zero =>
    intro i x y h1 h2 hd hx hy
    exact ⟨x, y, by omega, hy, Ev.step (fun k => by rw [spec_AttackFor.l0]) (ev_neg (by omega) (ev_some _)), Ev.step (fun k => by rw [impl_AttackFor.l0]) (ev_neg (by omega) (ev_some _))⟩
  | succ d ih =>
    intro i x y h1 h2 hd hx hy
    have hw : wrap64 (i + 1) = i + 1 := w64 (by omega) (by omega)
    obtain ⟨u, v, hu, hv, hs, hi⟩ := ih (i + 1) (x ++ [decide (wrap64 (Int.tdiv i 2) ≥ p)]) (y ++ [decide (wrap64 (Int.tdiv (wrap64 (i + 1)) 2) ≥ q)]) (by omega) (by omega) (by omega) (by simp; omega) (by simp [hy])
    rw [hw] at hs hi
    refine ⟨u, v, hu, hv, ?_, ?_⟩
    · refine Ev.step (fun k => by rw [spec_AttackFor.l0]) ?_
      refine ev_pos (by omega) ?_
      refine ev_pos (by omega) ?_
      refine ev_pos (by omega) ?_
      rw [hw]; exact hs
    · refine Ev.step (fun k => by rw [impl_AttackFor.l0]) ?_
      refine ev_pos (by omega) ?_
      refine ev_bind0 (impl_got.f.eq_1 i) ?_
      refine ev_pos (by omega) ?_
      refine ev_pos (by omega) ?_
      rw [hw]; exact hi
theorem attack_both (m p q : Int) : ∃ u v b, u.length ≤ 15 ∧ v.length = u.length ∧ (b = false → u = []) ∧ Ev (fun k => spec_AttackFor.f k m p q) (u, v, b) ∧ Ev (fun k => impl_AttackFor.f k m p q) (u, v, b) := by
  unfold spec_AttackFor.f impl_AttackFor.f
  by_cases h : 0 ≤ m ∧ m ≤ 14
  · by_cases hp : p < 0
    · exact ⟨[], [], false, by simp, rfl, fun _ => rfl, ev_bind0 (l01In_is _ _ _) (ev_dpos h (ev_pos hp (Ev.step (fun k => by rw [spec_AttackFor.j0]) (ev_pos rfl (ev_some _))))),
        ev_bind0 (within_is _ _ _) (ev_dpos h (ev_pos hp (Ev.step (fun k => by rw [impl_AttackFor.j0]) (ev_pos rfl (ev_some _)))))⟩
    · by_cases hq : q < 0
      · exact ⟨[], [], false, by simp, rfl, fun _ => rfl, ev_bind0 (l01In_is _ _ _) (ev_dpos h (ev_neg hp (Ev.step (fun k => by rw [spec_AttackFor.j0]) (ev_dpos hq (ev_some _))))),
          ev_bind0 (within_is _ _ _) (ev_dpos h (ev_neg hp (Ev.step (fun k => by rw [impl_AttackFor.j0]) (ev_dpos hq (ev_some _)))))⟩
      · obtain ⟨u, v, hu, hv, hs, hi⟩ := attack_loops m p q h.1 h.2 (m + 1).toNat 0 [] [] (by omega) (by omega) (by omega) (by simp) rfl
        refine ⟨u, v, true, hu, hv, (fun h => (by cases h)), ev_bind0 (l01In_is _ _ _) (ev_dpos h (ev_neg hp (Ev.step (fun k => by rw [spec_AttackFor.j0]) (ev_dneg hq hs)))),
          ev_bind0 (within_is _ _ _) (ev_dpos h (ev_neg hp (Ev.step (fun k => by rw [impl_AttackFor.j0]) (ev_dneg hq ?_))))⟩
        rw [w64 (by omega) (by omega)]; exact hi
  · exact ⟨[], [], false, by simp, rfl, fun _ => rfl, ev_bind0 (l01In_is _ _ _) (ev_dneg h (Ev.step (fun k => by rw [spec_AttackFor.j0]) (ev_pos rfl (ev_some _)))),
      ev_bind0 (within_is _ _ _) (ev_dneg h (Ev.step (fun k => by rw [impl_AttackFor.j0]) (ev_pos rfl (ev_some _))))⟩

theorem eqIntS_l0 (l m : List Int) (hlm : l.length = m.length) (hn : l.length ≤ 9223372036854775807) (d : Nat) : ∀ i : Int, 0 ≤ i → i ≤ l.length → (l.length : Int) - i = d →
    ∃ b, Ev (fun k => laws_eqIntS.l0 k l m i) b ∧ (b = true ↔ ∀ j : Int, i ≤ j → j < l.length → rd l j = rd m j) := by
  induction d with
  | zero =>
    intro i h0 h1 hd
    exact ⟨true, Ev.step (fun k => by rw [laws_eqIntS.l0]) (ev_neg (by omega) (ev_some true)), ⟨fun _ j _ _ => (by omega), fun _ => rfl⟩⟩
  | succ d ih =>
    intro i h0 h1 hd
    by_cases he : rd l i = rd m i
    · obtain ⟨b, hb, hi⟩ := ih (i + 1) (by omega) (by omega) (by omega)
      refine ⟨b, Ev.step (fun k => by rw [laws_eqIntS.l0]) (ev_pos (by omega) (ev_pos h0 (ev_pos (by omega) (ev_pos he ?_)))), ?_⟩
      · rw [w64 (by omega) (by omega)]; exact hb
      · rw [hi]
        constructor
        · intro h j hj hl
          by_cases e : j = i
          · rw [e]; exact he
          · exact h j (by omega) hl
        · intro h j hj hl
          exact h j (by omega) hl
    · exact ⟨false, Ev.step (fun k => by rw [laws_eqIntS.l0]) (ev_pos (by omega) (ev_pos h0 (ev_pos (by omega) (ev_neg he (ev_some false))))), ⟨fun h => (by cases h), fun h => absurd (h i (by omega) (by omega)) he⟩⟩
theorem eqIntS_ev (l m : List Int) (hn : l.length ≤ 9223372036854775807) : Ev (fun k => laws_eqIntS.f k l m) (decide (l = m)) := by
  unfold laws_eqIntS.f
  by_cases h : l.length = m.length
  · obtain ⟨b, hb, hi⟩ := eqIntS_l0 l m h hn l.length 0 (by omega) (by omega) (by omega)
    refine ev_pos (by omega) (ev_eq hb ?_)
    rw [Bool.eq_iff_iff, hi, decide_eq_true_eq]
    exact ⟨fun hr => ext_rd h (fun i h0 h1 => hr i h0 h1), fun e j _ _ => by rw [e]⟩
  · refine ev_neg (by omega) (ev_eq (ev_some false) ?_)
    symm; rw [decide_eq_false_iff_not]
    intro e; exact h (by rw [e])

theorem markIntS_l0 (n : Nat) (hn : n ≤ 4611686018427387904) (d : Nat) : ∀ (i : Nat) (l : List Int) (a : Int), l.length = n → i ≤ n → n - i = d → -4611686018427387904 ≤ a → a + d ≤ 4611686018427387904 →
    Ev (fun k => laws_markIntS.l0 k l a i) (a + d, l.take i ++ iota a d) := by
  induction d with
  | zero =>
    intro i l a hl h1 hd ha hb
    refine Ev.step (fun k => by rw [laws_markIntS.l0]) (ev_neg (by omega) (ev_eq (ev_some (a, l)) ?_))
    rw [List.take_of_length_le (by omega)]
    simp [iota]
  | succ d ih =>
    intro i l a hl h1 hd ha hb
    refine Ev.step (fun k => by rw [laws_markIntS.l0]) (ev_pos (by omega) (ev_pos (by omega) ?_))
    rw [w64 (x := a + 1) (by omega) (by omega), w64 (by omega) (by omega)]
    have e : ((i : Int) + 1) = ((i + 1 : Nat) : Int) := by omega
    rw [e]
    refine ev_eq (ih (i + 1) _ (a + 1) (by simp [hl]) (by omega) (by omega) (by omega) (by omega)) ?_
    simp only [Int.toNat_natCast]
    rw [List.take_succ_eq_append_getElem (by simp; omega), List.take_set_of_le (Nat.le_refl _)]
    simp [iota]
    omega
theorem markIntS_ev (l : List Int) (a : Int) (hn : l.length ≤ 4611686018427387904) (ha : -4611686018427387904 ≤ a) (hb : a + l.length ≤ 4611686018427387904) :
    Ev (fun k => laws_markIntS.f k l a) (a + l.length, iota a l.length) := by
  unfold laws_markIntS.f
  exact ev_eq (markIntS_l0 l.length hn l.length 0 l a rfl (by omega) (by omega) ha hb) (by simp)

theorem heldIntS_l0 (a0 : Int) (n : Nat) (h0 : -4611686018427387904 ≤ a0) (hb : a0 + n ≤ 4611686018427387904) (hn : n ≤ 4611686018427387904) (d : Nat) : ∀ (i : Nat), i ≤ n → n - i = d →
    Ev (fun k => laws_heldIntS.l0 k (iota a0 n) (a0 + i) i) (a0 + n) := by
  induction d with
  | zero =>
    intro i h1 hd
    refine Ev.step (fun k => by rw [laws_heldIntS.l0]) (ev_neg (by rw [iota_length]; omega) (ev_eq (ev_some _) (by omega)))
  | succ d ih =>
    intro i h1 hd
    refine Ev.step (fun k => by rw [laws_heldIntS.l0]) (ev_pos (by rw [iota_length]; omega) (ev_pos (by omega) (ev_pos (rd_iota _ _ _ (by omega) (by omega)) ?_)))
    rw [w64 (x := a0 + i + 1) (by omega) (by omega), w64 (by omega) (by omega)]
    have e : ((i : Int) + 1) = ((i + 1 : Nat) : Int) := by omega
    have e2 : a0 + (i : Int) + 1 = a0 + ((i + 1 : Nat) : Int) := by omega
    rw [e2, e]
    exact ih (i + 1) (by omega) (by omega)
theorem heldIntS_ev (a : Int) (n : Nat) (ha : -4611686018427387904 ≤ a) (hb : a + n ≤ 4611686018427387904) (hn : n ≤ 4611686018427387904) :
    Ev (fun k => laws_heldIntS.f k (iota a n) a) (a + n) := by
  unfold laws_heldIntS.f
  have := heldIntS_l0 a n ha hb hn n 0 (by omega) (by omega)
  simpa using this

theorem disagree_loops (u v : List Bool) (hu : u.length ≤ 15) (hv : v.length = u.length) (d : Nat) : ∀ (i : Int) (x : List Int), 0 ≤ i → i ≤ u.length → (u.length : Int) - i = d → x.length ≤ i →
    ∃ r, r.length ≤ 15 ∧ Ev (fun k => spec_Disagreements.l0 k v x u u.length i) r ∧ Ev (fun k => impl_Disagreements.l0 k u v x u.length i) r := by
  induction d with
  | zero =>
    intro i x h1 h2 hd hx
    exact ⟨x, by omega, Ev.step (fun k => by rw [spec_Disagreements.l0]) (ev_neg (by omega) (ev_some _)), Ev.step (fun k => by rw [impl_Disagreements.l0]) (ev_neg (by omega) (ev_some _))⟩
  | succ d ih =>
    intro i x h1 h2 hd hx
    have hw : wrap64 (i + 1) = i + 1 := w64 (by omega) (by omega)
    by_cases hb : (rdOf false u i != rdOf false v i) = true
    · obtain ⟨r, hr, hs, hi⟩ := ih (i + 1) (x ++ [i]) (by omega) (by omega) (by omega) (by simp; omega)
      refine ⟨r, hr, Ev.step (fun k => by rw [spec_Disagreements.l0]) (ev_pos (by omega) (ev_pos (by omega) (ev_pos (by omega) (ev_pos (by omega) (ev_pos hb (ev_pos (by omega) ?_)))))),
        Ev.step (fun k => by rw [impl_Disagreements.l0]) (ev_pos (by omega) (ev_pos (by omega) (ev_pos (by omega) (ev_pos (by omega) (ev_pos hb (ev_pos (by omega) ?_))))))⟩
      · rw [hw]; exact hs
      · rw [hw]; exact hi
    · obtain ⟨r, hr, hs, hi⟩ := ih (i + 1) x (by omega) (by omega) (by omega) (by omega)
      refine ⟨r, hr, Ev.step (fun k => by rw [spec_Disagreements.l0]) (ev_pos (by omega) (ev_pos (by omega) (ev_pos (by omega) (ev_pos (by omega) (ev_neg hb ?_))))),
        Ev.step (fun k => by rw [impl_Disagreements.l0]) (ev_pos (by omega) (ev_pos (by omega) (ev_pos (by omega) (ev_pos (by omega) (ev_neg hb ?_)))))⟩
      · rw [hw]; exact hs
      · rw [hw]; exact hi
theorem disagree_both (m p q : Int) : ∃ r, r.length ≤ 15 ∧ Ev (fun k => spec_Disagreements.f k m p q) r ∧ Ev (fun k => impl_Disagreements.f k m p q) r := by
  unfold spec_Disagreements.f impl_Disagreements.f
  obtain ⟨u, v, b, hu, hv, hb, hs, hi⟩ := attack_both m p q
  obtain ⟨r, hr, hs', hi'⟩ := disagree_loops u v hu hv u.length 0 [] (by omega) (by omega) (by omega) (by simp)
  cases b with
  | true => exact ⟨r, hr, Ev.bind hs (ev_pos rfl hs'), Ev.bind hi hi'⟩
  | false =>
    have := hb rfl
    subst this
    have hv' : v = [] := List.length_eq_zero_iff.1 hv
    subst hv'
    exact ⟨[], by simp, Ev.bind hs (ev_neg (by simp) (ev_some _)), Ev.bind hi (Ev.step (fun k => by rw [impl_Disagreements.l0]) (ev_neg (by simp) (ev_some _)))⟩
theorem FnExactDisagreements : laws_FnExactDisagreements.Pure := by
  intro m p q _ _ _
  apply Ev.rounds
  unfold laws_FnExactDisagreements.f
  obtain ⟨r, hr, hs, hi⟩ := disagree_both m p q
  have er := eqIntS_ev r r (by omega)
  have mr := markIntS_ev r 1 (by omega) (by omega) (by omega)
  have hh := heldIntS_ev 1 r.length (by omega) (by omega) (by omega)
  exact Ev.bind hs (Ev.bind hi (Ev.bind er (ev_pos (by simp) (Ev.bind mr (Ev.bind hh (ev_neg (by omega) (ev_pos rfl (Ev.bind hi (Ev.bind er (ev_pos (by simp) (Ev.bind hh (ev_neg (by omega) (ev_pos rfl (ev_some _))))))))))))))

end Go.Proofs.Ytcdaflkkmgofdaa.Pure
