/-
  FnExactIsPlain over lists of nodes: both answer the same, for a formula and for any other list.
-/
import Derived.Test.YtkkmfodoilbdlaaPFnExactIsPlainx
import Derived.Test.YtkkmfodoilbdlaaPL
set_option linter.unusedVariables false
set_option linter.unusedSimpArgs false
namespace Go.Proofs.Ytkkmfodoilbdlaa.Pure
open Go.RowKit Go.Proofs.Ytkkmfodoilbdlaa Go.Proofs.Ytkkmfodoilbdlaa.PFnExactIsPlain Go.Proofs.YtkkmfodoilbdlaaW.PrintWords Go.Proofs.YtkkmfodoilbdlaaW.PrintLast Go.Proofs.YtkkmfodoilbdlaaW.PrintMore Go.Proofs.Ytkkmfodoilbdlaa.PL

theorem within_is (a b c : Int) : impl_within.f a b c = some (decide (b ≤ a ∧ a ≤ c)) := by
  unfold impl_within.f
  by_cases h : b ≤ a <;> simp [h]

theorem l01In_is (a b c : Int) : spec_l01In.f a b c = some (decide (b ≤ a ∧ a ≤ c)) := by
  unfold spec_l01In.f
  by_cases h : b ≤ a <;> simp [h]

theorem uses_both (op : Int) : ∃ u, Ev (fun k => spec_l02Uses.f k op) u ∧ Ev (fun k => impl_uses.f k op) u ∧ (u = -1 ∨ u = 0 ∨ u = 1 ∨ u = 2) ∧ (u ≠ -1 → 1 ≤ op) := by
  have cl : ∀ (o u : Int), spec_l02Uses.f 10 o = some u → impl_uses.f 10 o = some u → Ev (fun k => spec_l02Uses.f k o) u ∧ Ev (fun k => impl_uses.f k o) u :=
    fun o u h1 h2 => ⟨Ev.of (fun k => spec_l02Uses.mono o k) h1, Ev.of (fun k => impl_uses.mono o k) h2⟩
  by_cases h : 1 ≤ op ∧ op ≤ 9
  · have : op = 1 ∨ op = 2 ∨ op = 3 ∨ op = 4 ∨ op = 5 ∨ op = 6 ∨ op = 7 ∨ op = 8 ∨ op = 9 := by omega
    rcases this with rfl | rfl | rfl | rfl | rfl | rfl | rfl | rfl | rfl
    · exact ⟨0, (cl 1 0 (by decide +kernel) (by decide +kernel)).1, (cl 1 0 (by decide +kernel) (by decide +kernel)).2, by decide, by decide⟩
    · exact ⟨0, (cl 2 0 (by decide +kernel) (by decide +kernel)).1, (cl 2 0 (by decide +kernel) (by decide +kernel)).2, by decide, by decide⟩
    · exact ⟨1, (cl 3 1 (by decide +kernel) (by decide +kernel)).1, (cl 3 1 (by decide +kernel) (by decide +kernel)).2, by decide, by decide⟩
    · exact ⟨2, (cl 4 2 (by decide +kernel) (by decide +kernel)).1, (cl 4 2 (by decide +kernel) (by decide +kernel)).2, by decide, by decide⟩
    · exact ⟨1, (cl 5 1 (by decide +kernel) (by decide +kernel)).1, (cl 5 1 (by decide +kernel) (by decide +kernel)).2, by decide, by decide⟩
    · exact ⟨1, (cl 6 1 (by decide +kernel) (by decide +kernel)).1, (cl 6 1 (by decide +kernel) (by decide +kernel)).2, by decide, by decide⟩
    · exact ⟨1, (cl 7 1 (by decide +kernel) (by decide +kernel)).1, (cl 7 1 (by decide +kernel) (by decide +kernel)).2, by decide, by decide⟩
    · exact ⟨1, (cl 8 1 (by decide +kernel) (by decide +kernel)).1, (cl 8 1 (by decide +kernel) (by decide +kernel)).2, by decide, by decide⟩
    · exact ⟨2, (cl 9 2 (by decide +kernel) (by decide +kernel)).1, (cl 9 2 (by decide +kernel) (by decide +kernel)).2, by decide, by decide⟩
  · have n1 : ¬ op = 1 := by omega
    have n2 : (op == 2) = false := by simp; omega
    have n9 : (op == 9) = false := by simp; omega
    refine ⟨-1, ?_, ?_, .inl rfl, fun h => absurd rfl h⟩
    · unfold spec_l02Uses.f
      rw [n2]
      refine ev_neg n1 ?_
      refine Ev.step (fun k => by rw [spec_l02Uses.j0]) ?_
      rw [n9]
      refine ev_neg (by simp) ?_
      refine ev_neg (by omega) ?_
      refine Ev.step (fun k => by rw [spec_l02Uses.j1]) ?_
      refine ev_neg (by simp) ?_
      refine ev_bind0 (l01In_is _ _ _) ?_
      exact ev_dneg (by omega) (ev_some _)
    · unfold impl_uses.f
      rw [n2]
      refine ev_neg n1 ?_
      refine Ev.step (fun k => by rw [impl_uses.j0]) ?_
      rw [n9]
      refine ev_neg (by simp) ?_
      refine ev_neg (by omega) ?_
      refine Ev.step (fun k => by rw [impl_uses.j1]) ?_
      refine ev_neg (by simp) ?_
      refine ev_neg (by omega) ?_
      refine ev_neg (by omega) ?_
      refine ev_neg (by omega) ?_
      refine ev_neg (by omega) ?_
      exact ev_neg (by omega) (ev_some _)
theorem most_both (op : Int) : ∃ n m, spec_l02Most.f op = some m ∧ impl_numbers.f op = some n ∧ wrap64 (n - 1) = m := by
  unfold spec_l02Most.f impl_numbers.f
  by_cases h1 : op = 1
  · exact ⟨4, 3, by rw [if_pos h1], by rw [if_pos h1], by decide +kernel⟩
  · by_cases h5 : op = 5
    · exact ⟨3, 2, by rw [if_neg h1, if_pos h5], by rw [if_neg h1, if_pos h5], by decide +kernel⟩
    · by_cases h6 : op = 6
      · exact ⟨3, 2, by rw [if_neg h1, if_neg h5, if_pos h6], by rw [if_neg h1, if_neg h5, if_pos h6], by decide +kernel⟩
      · exact ⟨1, 0, by rw [if_neg h1, if_neg h5, if_neg h6], by rw [if_neg h1, if_neg h5, if_neg h6], by decide +kernel⟩
/-- The last round: every count but the last one is 1. -/
theorem last_both (f : List S30) (xs : List Int) (hx : xs.length = f.length) (h1 : 1 ≤ f.length) (h40 : f.length ≤ 40) (hz : rd xs ((f.length : Int) - 1) = 0) (d : Nat) : ∀ i : Int, 0 ≤ i → i ≤ xs.length → (xs.length : Int) - i = d →
    ∃ b, Ev (fun k => spec_FormulaOk.l1 k f xs xs.length i) b ∧ Ev (fun k => impl_FormulaOk.l2 k f xs xs xs.length i) b := by
  have ew1 : wrap64 ((f.length : Int) - 1) = (f.length : Int) - 1 := w64 (by omega) (by omega)
  induction d with
  | zero =>
    intro i h0 hi hd
    refine ⟨true, Ev.step (fun k => by rw [spec_FormulaOk.l1]) (ev_neg (by omega) (ev_some _)), ?_⟩
    refine Ev.step (fun k => by rw [impl_FormulaOk.l2]) ?_
    rw [ew1]
    refine ev_neg (by omega) ?_
    refine ev_pos (by omega) ?_
    refine ev_pos (by omega) ?_
    rw [hz]
    exact ev_some _
  | succ d ih =>
    intro i h0 hi hd
    have z1 : i < (xs.length : Int) := by omega
    have ew : wrap64 (i + 1) = i + 1 := w64 (by omega) (by omega)
    obtain ⟨b, hs, hm⟩ := ih (i + 1) (by omega) (by omega) (by omega)
    by_cases hr : rd xs i = 1
    · refine ⟨b, ?_, ?_⟩
      · refine Ev.step (fun k => by rw [spec_FormulaOk.l1]) ?_
        rw [ew]
        exact ev_pos z1 (ev_pos h0 (ev_pos z1 (ev_pos hr hs)))
      · refine Ev.step (fun k => by rw [impl_FormulaOk.l2]) ?_
        rw [ew]
        exact ev_pos z1 (ev_pos h0 (ev_pos z1 (ev_pos hr hm)))
    · by_cases hl : i < (f.length : Int) - 1
      · refine ⟨false, ?_, ?_⟩
        · refine Ev.step (fun k => by rw [spec_FormulaOk.l1]) ?_
          rw [ew1]
          exact ev_pos z1 (ev_pos h0 (ev_pos z1 (ev_neg hr (ev_pos hl (ev_some _)))))
        · refine Ev.step (fun k => by rw [impl_FormulaOk.l2]) ?_
          rw [ew1]
          exact ev_pos z1 (ev_pos h0 (ev_pos z1 (ev_neg hr (ev_pos hl (ev_some _)))))
      · refine ⟨b, ?_, ?_⟩
        · refine Ev.step (fun k => by rw [spec_FormulaOk.l1]) ?_
          rw [ew1, ew]
          exact ev_pos z1 (ev_pos h0 (ev_pos z1 (ev_neg hr (ev_neg hl hs))))
        · refine Ev.step (fun k => by rw [impl_FormulaOk.l2]) ?_
          rw [ew1, ew]
          exact ev_pos z1 (ev_pos h0 (ev_pos z1 (ev_neg hr (ev_neg hl hm))))
theorem rd_set_far (xs : List Int) (a : Int) (v : Int) (j : Int) (ha : 0 ≤ a) (hj : 0 ≤ j) (hne : a ≠ j) : rd (xs.set a.toNat v) j = rd xs j := by
  unfold rd
  rw [List.getD_eq_getElem?_getD, List.getD_eq_getElem?_getD, List.getElem?_set_ne (by omega)]
/-- One node's checks ahead of its parts, on both sides. -/
theorem pre_both (f : List S30) (xs : List Int) (i : Int) (h0 : 0 ≤ i) (hi : i < f.length) (u : Int) (hu : u = -1 ∨ u = 0 ∨ u = 1 ∨ u = 2) (x0 x1 x2 x3 : Int) (hx : rd_T30 f i = ⟨x0, x1, x2, x3⟩)
    (e1 : Ev (fun k => spec_l02Uses.f k x0) u) (e2 : Ev (fun k => impl_uses.f k x0) u)
    (b0 : Bool) (hj : u = -1 ∨ (Ev (fun k => spec_FormulaOk.j1 k f xs i u f f.length i false x0 x1 x2 x3) b0 ∧ Ev (fun k => impl_FormulaOk.j1 k f xs i u f f.length i false x0 x1 x2 x3) b0)) :
    ∃ b, Ev (fun k => spec_FormulaOk.l0 k f xs f f.length i) b ∧ Ev (fun k => impl_FormulaOk.l0 k f xs f f.length i) b ∧ (b = true → u ≠ -1 ∧ b0 = true) := by
  have ht : ∃ b, Ev (fun k => spec_FormulaOk.j1 k f xs i u f f.length i true x0 x1 x2 x3) b ∧ Ev (fun k => impl_FormulaOk.j1 k f xs i u f f.length i true x0 x1 x2 x3) b ∧ b = false :=
    ⟨false, Ev.step (fun k => by rw [spec_FormulaOk.j1]) (ev_pos rfl (ev_some _)), Ev.step (fun k => by rw [impl_FormulaOk.j1]) (ev_pos rfl (ev_some _)), rfl⟩
  suffices hk : ∃ b, Ev (fun k => if u < 0 then spec_FormulaOk.j1 k f xs i u f f.length i true x0 x1 x2 x3 else ((spec_l02Most.f x0).bind fun t109 => ((spec_l01In.f x1 0 t109).bind fun t110 => (if t110 = true then (if u < 1 then (if x2 = 0 then (if u < 2 then (spec_FormulaOk.j1 k f xs i u f f.length i (x3 != 0) x0 x1 x2 x3) else (spec_FormulaOk.j1 k f xs i u f f.length i false x0 x1 x2 x3)) else (spec_FormulaOk.j1 k f xs i u f f.length i true x0 x1 x2 x3)) else (if u < 2 then (spec_FormulaOk.j1 k f xs i u f f.length i (x3 != 0) x0 x1 x2 x3) else (spec_FormulaOk.j1 k f xs i u f f.length i false x0 x1 x2 x3))) else (spec_FormulaOk.j1 k f xs i u f f.length i true x0 x1 x2 x3))))) b ∧ Ev (fun k => if u < 0 then impl_FormulaOk.j1 k f xs i u f f.length i true x0 x1 x2 x3 else ((impl_numbers.f x0).bind fun t109 => ((impl_within.f x1 0 (wrap64 (t109 - 1))).bind fun t110 => (if t110 = true then (if u < 1 then (if x2 = 0 then (if u < 2 then (impl_FormulaOk.j1 k f xs i u f f.length i (x3 != 0) x0 x1 x2 x3) else (impl_FormulaOk.j1 k f xs i u f f.length i false x0 x1 x2 x3)) else (impl_FormulaOk.j1 k f xs i u f f.length i true x0 x1 x2 x3)) else (if u < 2 then (impl_FormulaOk.j1 k f xs i u f f.length i (x3 != 0) x0 x1 x2 x3) else (impl_FormulaOk.j1 k f xs i u f f.length i false x0 x1 x2 x3))) else (impl_FormulaOk.j1 k f xs i u f f.length i true x0 x1 x2 x3))))) b ∧ (b = true → u ≠ -1 ∧ b0 = true) by
    obtain ⟨b, g1, g2, g3⟩ := hk
    refine ⟨b, ?_, ?_, g3⟩
    · refine Ev.step (fun k => by rw [spec_FormulaOk.l0]) ?_
      rw [hx]
      exact ev_pos hi (ev_pos h0 (ev_pos hi (Ev.bind e1 g1)))
    · refine Ev.step (fun k => by rw [impl_FormulaOk.l0]) ?_
      rw [hx]
      exact ev_pos hi (ev_pos h0 (ev_pos hi (Ev.bind e2 g2)))
  by_cases hneg : u < 0
  · obtain ⟨b, g1, g2, g3⟩ := ht
    exact ⟨b, ev_pos hneg g1, ev_pos hneg g2, fun h => by rw [g3] at h; cases h⟩
  · have hne : u ≠ -1 := by omega
    have hj := hj.resolve_left hne
    obtain ⟨n, m, hm, hn, hnm⟩ := most_both x0
    by_cases hin : 0 ≤ x1 ∧ x1 ≤ m
    · have fl : ∃ b, Ev (fun k => if u < 2 then (spec_FormulaOk.j1 k f xs i u f f.length i (x3 != 0) x0 x1 x2 x3) else (spec_FormulaOk.j1 k f xs i u f f.length i false x0 x1 x2 x3)) b ∧ Ev (fun k => if u < 2 then (impl_FormulaOk.j1 k f xs i u f f.length i (x3 != 0) x0 x1 x2 x3) else (impl_FormulaOk.j1 k f xs i u f f.length i false x0 x1 x2 x3)) b ∧ (b = true → b0 = true) := by
        by_cases h2 : u < 2
        · cases hc : (x3 != 0) with
          | true => obtain ⟨b, g1, g2, g3⟩ := ht; exact ⟨b, ev_pos h2 g1, ev_pos h2 g2, fun h => by rw [g3] at h; cases h⟩
          | false => exact ⟨b0, ev_pos h2 hj.1, ev_pos h2 hj.2, fun h => h⟩
        · exact ⟨b0, ev_neg h2 hj.1, ev_neg h2 hj.2, fun h => h⟩
      have fm : ∃ b, Ev (fun k => if u < 1 then (if x2 = 0 then (if u < 2 then (spec_FormulaOk.j1 k f xs i u f f.length i (x3 != 0) x0 x1 x2 x3) else (spec_FormulaOk.j1 k f xs i u f f.length i false x0 x1 x2 x3)) else (spec_FormulaOk.j1 k f xs i u f f.length i true x0 x1 x2 x3)) else (if u < 2 then (spec_FormulaOk.j1 k f xs i u f f.length i (x3 != 0) x0 x1 x2 x3) else (spec_FormulaOk.j1 k f xs i u f f.length i false x0 x1 x2 x3))) b ∧ Ev (fun k => if u < 1 then (if x2 = 0 then (if u < 2 then (impl_FormulaOk.j1 k f xs i u f f.length i (x3 != 0) x0 x1 x2 x3) else (impl_FormulaOk.j1 k f xs i u f f.length i false x0 x1 x2 x3)) else (impl_FormulaOk.j1 k f xs i u f f.length i true x0 x1 x2 x3)) else (if u < 2 then (impl_FormulaOk.j1 k f xs i u f f.length i (x3 != 0) x0 x1 x2 x3) else (impl_FormulaOk.j1 k f xs i u f f.length i false x0 x1 x2 x3))) b ∧ (b = true → b0 = true) := by
        obtain ⟨b, g1, g2, g3⟩ := fl
        obtain ⟨bt, t1, t2, t3⟩ := ht
        by_cases h1 : u < 1
        · by_cases hz : x2 = 0
          · exact ⟨b, ev_pos h1 (ev_pos hz g1), ev_pos h1 (ev_pos hz g2), g3⟩
          · exact ⟨bt, ev_pos h1 (ev_neg hz t1), ev_pos h1 (ev_neg hz t2), fun h => by rw [t3] at h; cases h⟩
        · exact ⟨b, ev_neg h1 g1, ev_neg h1 g2, g3⟩
      obtain ⟨b, g1, g2, g3⟩ := fm
      refine ⟨b, ev_neg hneg ?_, ev_neg hneg ?_, fun h => ⟨hne, g3 h⟩⟩
      · refine ev_bind0 hm ?_
        refine ev_bind0 (l01In_is _ _ _) ?_
        exact ev_dpos hin g1
      · refine ev_bind0 hn ?_
        rw [hnm]
        refine ev_bind0 (within_is _ _ _) ?_
        exact ev_dpos hin g2
    · obtain ⟨bt, t1, t2, t3⟩ := ht
      refine ⟨bt, ev_neg hneg ?_, ev_neg hneg ?_, fun h => by rw [t3] at h; cases h⟩
      · refine ev_bind0 hm ?_
        refine ev_bind0 (l01In_is _ _ _) ?_
        exact ev_dneg hin t1
      · refine ev_bind0 hn ?_
        rw [hnm]
        refine ev_bind0 (within_is _ _ _) ?_
        exact ev_dneg hin t2
/-- The program's loop over a node's parts: at its end. -/
theorem parts_end (f : List S30) (xs : List Int) (i u p q : Int) (b : Bool) (h : Ev (fun k => impl_FormulaOk.l0 k f xs f f.length (wrap64 (i + 1))) b) : Ev (fun k => impl_FormulaOk.l1 k f xs i u f f.length i [p, q] 2 2) b :=
  Ev.step (fun k => by rw [impl_FormulaOk.l1]) (ev_neg (by decide) h)
theorem parts1_skip (f : List S30) (xs : List Int) (i u p q : Int) (b : Bool) (hu : ¬ (1 : Int) < u) (h : Ev (fun k => impl_FormulaOk.l0 k f xs f f.length (wrap64 (i + 1))) b) : Ev (fun k => impl_FormulaOk.l1 k f xs i u f f.length i [p, q] 2 1) b := by
  refine Ev.step (fun k => by rw [impl_FormulaOk.l1]) ?_
  refine ev_pos (by decide) ?_
  refine ev_pos (by decide) ?_
  refine ev_pos (by simp) ?_
  refine ev_neg hu ?_
  rw [show wrap64 ((1 : Int) + 1) = 2 by decide +kernel]
  exact parts_end f xs i u p q b h
theorem parts0_skip (f : List S30) (xs : List Int) (i u p q : Int) (b : Bool) (hu : ¬ (0 : Int) < u) (h : Ev (fun k => impl_FormulaOk.l1 k f xs i u f f.length i [p, q] 2 1) b) : Ev (fun k => impl_FormulaOk.l1 k f xs i u f f.length i [p, q] 2 0) b := by
  refine Ev.step (fun k => by rw [impl_FormulaOk.l1]) ?_
  refine ev_pos (by decide) ?_
  refine ev_pos (by decide) ?_
  refine ev_pos (by simp) ?_
  refine ev_neg hu ?_
  rw [show wrap64 ((0 : Int) + 1) = 1 by decide +kernel]
  exact h
theorem parts0_out (f : List S30) (xs : List Int) (i u p q : Int) (hu : (0 : Int) < u) (hp : ¬ (0 ≤ p ∧ p ≤ wrap64 (i - 1))) : Ev (fun k => impl_FormulaOk.l1 k f xs i u f f.length i [p, q] 2 0) false := by
  refine Ev.step (fun k => by rw [impl_FormulaOk.l1]) ?_
  refine ev_pos (by decide) ?_
  refine ev_pos (by decide) ?_
  refine ev_pos (by simp) ?_
  refine ev_pos hu ?_
  refine ev_bind0 (within_is _ _ _) ?_
  exact ev_dneg hp (ev_some _)
theorem parts1_out (f : List S30) (xs : List Int) (i u p q : Int) (hu : (1 : Int) < u) (hp : ¬ (0 ≤ q ∧ q ≤ wrap64 (i - 1))) : Ev (fun k => impl_FormulaOk.l1 k f xs i u f f.length i [p, q] 2 1) false := by
  refine Ev.step (fun k => by rw [impl_FormulaOk.l1]) ?_
  refine ev_pos (by decide) ?_
  refine ev_pos (by decide) ?_
  refine ev_pos (by simp) ?_
  refine ev_pos hu ?_
  refine ev_bind0 (within_is _ _ _) ?_
  exact ev_dneg hp (ev_some _)
theorem parts0_in (f : List S30) (xs : List Int) (i u p q : Int) (b : Bool) (hu : (0 : Int) < u) (hp : 0 ≤ p ∧ p ≤ wrap64 (i - 1)) (hx : p < xs.length) (h : Ev (fun k => impl_FormulaOk.l1 k f (xs.set p.toNat (wrap64 (rd xs p + 1))) i u f f.length i [p, q] 2 1) b) : Ev (fun k => impl_FormulaOk.l1 k f xs i u f f.length i [p, q] 2 0) b := by
  refine Ev.step (fun k => by rw [impl_FormulaOk.l1]) ?_
  refine ev_pos (by decide) ?_
  refine ev_pos (by decide) ?_
  refine ev_pos (by simp) ?_
  refine ev_pos hu ?_
  refine ev_bind0 (within_is _ _ _) ?_
  refine ev_dpos hp ?_
  refine ev_pos hp.1 ?_
  refine ev_pos hx ?_
  rw [show wrap64 ((0 : Int) + 1) = 1 by decide +kernel]
  exact h
theorem parts1_in (f : List S30) (xs : List Int) (i u p q : Int) (b : Bool) (hu : (1 : Int) < u) (hp : 0 ≤ q ∧ q ≤ wrap64 (i - 1)) (hx : q < xs.length) (h : Ev (fun k => impl_FormulaOk.l0 k f (xs.set q.toNat (wrap64 (rd xs q + 1))) f f.length (wrap64 (i + 1))) b) : Ev (fun k => impl_FormulaOk.l1 k f xs i u f f.length i [p, q] 2 1) b := by
  refine Ev.step (fun k => by rw [impl_FormulaOk.l1]) ?_
  refine ev_pos (by decide) ?_
  refine ev_pos (by decide) ?_
  refine ev_pos (by simp) ?_
  refine ev_pos hu ?_
  refine ev_bind0 (within_is _ _ _) ?_
  refine ev_dpos hp ?_
  refine ev_pos hp.1 ?_
  refine ev_pos hx ?_
  rw [show wrap64 ((1 : Int) + 1) = 2 by decide +kernel]
  exact parts_end f _ i u p q b h
theorem nodes_both (f : List S30) (h1 : 1 ≤ f.length) (h40 : f.length ≤ 40) (d : Nat) : ∀ (i : Int) (xs : List Int), 0 ≤ i → i ≤ f.length → (f.length : Int) - i = d → xs.length = f.length → (∀ j : Int, i - 1 ≤ j → 0 ≤ j → rd xs j = 0) →
    ∃ b, Ev (fun k => spec_FormulaOk.l0 k f xs f f.length i) b ∧ Ev (fun k => impl_FormulaOk.l0 k f xs f f.length i) b ∧ (b = true → ∀ j : Int, i ≤ j → j < f.length → 1 ≤ (rd_T30 f j).f0) := by
  induction d with
  | zero =>
    intro i xs h0 hi hd hx hz
    obtain ⟨b, hs, hm⟩ := last_both f xs hx h1 h40 (hz _ (by omega) (by omega)) xs.length 0 (by omega) (by omega) (by omega)
    refine ⟨b, Ev.step (fun k => by rw [spec_FormulaOk.l0]) (ev_neg (by omega) hs), Ev.step (fun k => by rw [impl_FormulaOk.l0]) (ev_neg (by omega) hm), fun _ j hj hl => by omega⟩
  | succ d ih =>
    intro i xs h0 hi hd hx hz
    have z1 : i < (f.length : Int) := by omega
    have ew : wrap64 (i + 1) = i + 1 := w64 (by omega) (by omega)
    have ewm : wrap64 (i - 1) = i - 1 := w64 (by omega) (by omega)
    have ihx : ∀ ys : List Int, ys.length = f.length → (∀ j : Int, i ≤ j → rd ys j = 0) → ∃ b, Ev (fun k => spec_FormulaOk.l0 k f ys f f.length (wrap64 (i + 1))) b ∧ Ev (fun k => impl_FormulaOk.l0 k f ys f f.length (wrap64 (i + 1))) b ∧ (b = true → ∀ j : Int, i + 1 ≤ j → j < f.length → 1 ≤ (rd_T30 f j).f0) := by
      intro ys hy hyz
      rw [ew]
      exact ih (i + 1) ys (by omega) (by omega) (by omega) hy (fun j hj hj0 => hyz j (by omega))
    have hz' : ∀ j : Int, i ≤ j → rd xs j = 0 := fun j hj => hz j (by omega) (by omega)
    have setz : ∀ (ys : List Int) (p v : Int), 0 ≤ p → p ≤ i - 1 → (∀ j : Int, i ≤ j → rd ys j = 0) → ∀ j : Int, i ≤ j → rd (ys.set p.toNat v) j = 0 := by
      intro ys p v hp hpi hy j hj
      rw [rd_set_far ys p v j hp (by omega) (by omega)]
      exact hy j hj
    obtain ⟨x, hxx⟩ : ∃ x, rd_T30 f i = x := ⟨_, rfl⟩
    obtain ⟨x0, x1, x2, x3⟩ := x
    obtain ⟨u, e1, e2, hu, hop⟩ := uses_both x0
    have key : ∃ b0, (u = -1 ∨ (Ev (fun k => spec_FormulaOk.j1 k f xs i u f f.length i false x0 x1 x2 x3) b0 ∧ Ev (fun k => impl_FormulaOk.j1 k f xs i u f f.length i false x0 x1 x2 x3) b0)) ∧ (b0 = true → u ≠ -1 → ∀ j : Int, i + 1 ≤ j → j < f.length → 1 ≤ (rd_T30 f j).f0) := by
      have sj : ∀ (b0 : Bool), (Ev (fun k => if u > 0 then ((spec_l01In.f x2 0 (wrap64 (i - 1))).bind fun t111 => (if t111 = true then (if u > 1 then ((spec_l01In.f x3 0 (wrap64 (i - 1))).bind fun t112 => (spec_FormulaOk.j2 k f xs u f f.length i (!t112) x0 x1 x2 x3)) else (spec_FormulaOk.j2 k f xs u f f.length i false x0 x1 x2 x3)) else (spec_FormulaOk.j2 k f xs u f f.length i true x0 x1 x2 x3))) else (if u > 1 then ((spec_l01In.f x3 0 (wrap64 (i - 1))).bind fun t113 => (spec_FormulaOk.j2 k f xs u f f.length i (!t113) x0 x1 x2 x3)) else (spec_FormulaOk.j2 k f xs u f f.length i false x0 x1 x2 x3))) b0) → Ev (fun k => spec_FormulaOk.j1 k f xs i u f f.length i false x0 x1 x2 x3) b0 :=
        fun b0 h => by
          refine Ev.step (fun k => by rw [spec_FormulaOk.j1]) ?_
          exact ev_neg (by decide) h
      have ij : ∀ (b0 : Bool), Ev (fun k => impl_FormulaOk.l1 k f xs i u f f.length i [x2, x3] 2 0) b0 → Ev (fun k => impl_FormulaOk.j1 k f xs i u f f.length i false x0 x1 x2 x3) b0 :=
        fun b0 h => by
          refine Ev.step (fun k => by rw [impl_FormulaOk.j1]) ?_
          refine ev_neg (by decide) ?_
          refine ev_bind0 rfl ?_
          exact h
      have sfalse : Ev (fun k => spec_FormulaOk.j2 k f xs u f f.length i true x0 x1 x2 x3) false := Ev.step (fun k => by rw [spec_FormulaOk.j2]) (ev_pos rfl (ev_some _))
      rcases hu with rfl | rfl | rfl | rfl
      · exact ⟨false, .inl rfl, fun h => by cases h⟩
      · obtain ⟨b, hs, hm, hb⟩ := ihx xs hx hz'
        refine ⟨b, .inr ⟨sj b ?_, ij b ?_⟩, fun h _ => hb h⟩
        · refine ev_neg (by decide) (ev_neg (by decide) ?_)
          refine Ev.step (fun k => by rw [spec_FormulaOk.j2]) (ev_neg (by decide) ?_)
          exact ev_neg (by decide) (ev_neg (by decide) hs)
        · exact parts0_skip f xs i 0 x2 x3 b (by decide) (parts1_skip f xs i 0 x2 x3 b (by decide) hm)
      · by_cases hp : 0 ≤ x2 ∧ x2 ≤ wrap64 (i - 1)
        · have hp' := hp
          rw [ewm] at hp'
          have hxl : x2 < (xs.length : Int) := by omega
          obtain ⟨b, hs, hm, hb⟩ := ihx (xs.set x2.toNat (wrap64 (rd xs x2 + 1))) (by rw [List.length_set]; exact hx) (setz xs x2 _ hp'.1 hp'.2 hz')
          refine ⟨b, .inr ⟨sj b ?_, ij b ?_⟩, fun h _ => hb h⟩
          · refine ev_pos (by decide) ?_
            refine ev_bind0 (l01In_is _ _ _) ?_
            refine ev_dpos hp ?_
            refine ev_neg (by decide) ?_
            refine Ev.step (fun k => by rw [spec_FormulaOk.j2]) (ev_neg (by decide) ?_)
            refine ev_pos (by decide) (ev_pos hp.1 (ev_pos hxl ?_))
            exact ev_bind0 rfl (ev_neg (by decide) hs)
          · exact parts0_in f xs i 1 x2 x3 b (by decide) hp hxl (parts1_skip f _ i 1 x2 x3 b (by decide) hm)
        · refine ⟨false, .inr ⟨sj false ?_, ij false ?_⟩, fun h => by cases h⟩
          · refine ev_pos (by decide) ?_
            refine ev_bind0 (l01In_is _ _ _) ?_
            exact ev_dneg hp sfalse
          · exact parts0_out f xs i 1 x2 x3 (by decide) hp
      · by_cases hp : 0 ≤ x2 ∧ x2 ≤ wrap64 (i - 1)
        · have hp' := hp
          rw [ewm] at hp'
          have hxl : x2 < (xs.length : Int) := by omega
          by_cases hq : 0 ≤ x3 ∧ x3 ≤ wrap64 (i - 1)
          · have hq' := hq
            rw [ewm] at hq'
            have hql : x3 < (xs.length : Int) := by omega
            have hyl : (xs.set x2.toNat (wrap64 (rd xs x2 + 1))).length = xs.length := List.length_set
            obtain ⟨b, hs, hm, hb⟩ := ihx ((xs.set x2.toNat (wrap64 (rd xs x2 + 1))).set x3.toNat (wrap64 (rd (xs.set x2.toNat (wrap64 (rd xs x2 + 1))) x3 + 1))) (by rw [List.length_set, List.length_set]; exact hx) (setz _ x3 _ hq'.1 hq'.2 (setz xs x2 _ hp'.1 hp'.2 hz'))
            refine ⟨b, .inr ⟨sj b ?_, ij b ?_⟩, fun h _ => hb h⟩
            · refine ev_pos (by decide) ?_
              refine ev_bind0 (l01In_is _ _ _) ?_
              refine ev_dpos hp ?_
              refine ev_pos (by decide) ?_
              refine ev_bind0 (l01In_is _ _ _) ?_
              rw [decide_eq_true hq]
              refine Ev.step (fun k => by rw [spec_FormulaOk.j2]) (ev_neg (by decide) ?_)
              refine ev_pos (by decide) (ev_pos hp.1 (ev_pos hxl ?_))
              exact ev_bind0 rfl (ev_pos (by decide) (ev_pos hq.1 (ev_pos hql hs)))
            · exact parts0_in f xs i 2 x2 x3 b (by decide) hp hxl (parts1_in f _ i 2 x2 x3 b (by decide) hq (by rw [hyl]; exact hql) hm)
          · refine ⟨false, .inr ⟨sj false ?_, ij false ?_⟩, fun h => by cases h⟩
            · refine ev_pos (by decide) ?_
              refine ev_bind0 (l01In_is _ _ _) ?_
              refine ev_dpos hp ?_
              refine ev_pos (by decide) ?_
              refine ev_bind0 (l01In_is _ _ _) ?_
              rw [decide_eq_false hq]
              exact sfalse
            · exact parts0_in f xs i 2 x2 x3 false (by decide) hp hxl (parts1_out f _ i 2 x2 x3 (by decide) hq)
        · refine ⟨false, .inr ⟨sj false ?_, ij false ?_⟩, fun h => by cases h⟩
          · refine ev_pos (by decide) ?_
            refine ev_bind0 (l01In_is _ _ _) ?_
            exact ev_dneg hp sfalse
          · exact parts0_out f xs i 2 x2 x3 (by decide) hp
    obtain ⟨b0, hj, hb0⟩ := key
    obtain ⟨b, g1, g2, g3⟩ := pre_both f xs i h0 z1 u hu x0 x1 x2 x3 hxx e1 e2 b0 hj
    refine ⟨b, g1, g2, fun hb j hj1 hj2 => ?_⟩
    obtain ⟨hne, hbt⟩ := g3 hb
    by_cases hji : j = i
    · subst hji
      rw [hxx]
      exact hop hne
    · exact hb0 hbt hne j (by omega) hj2
/-- FormulaOk, on both sides; a formula's operations are numbered from 1 on. -/
theorem formula_both (f : List S30) (hf : f.length ≤ 1048576) : ∃ b, Ev (fun k => spec_FormulaOk.f k f) b ∧ Ev (fun k => impl_FormulaOk.f k f) b ∧ (b = true → 1 ≤ f.length ∧ f.length ≤ 40 ∧ ∀ j : Int, 0 ≤ j → j < f.length → 1 ≤ (rd_T30 f j).f0) := by
  unfold spec_FormulaOk.f impl_FormulaOk.f
  by_cases h : 1 ≤ (f.length : Int) ∧ (f.length : Int) ≤ 40
  · have hrep : ∀ j : Int, rd (List.replicate f.length 0) j = 0 := by
      intro j
      unfold rd
      rw [List.getD_eq_getElem?_getD, List.getElem?_replicate]
      split <;> rfl
    obtain ⟨b, hs, hm, hb⟩ := nodes_both f (by omega) (by omega) f.length 0 (List.replicate f.length 0) (by omega) (by omega) (by omega) List.length_replicate (fun j _ _ => hrep j)
    refine ⟨b, ?_, ?_, fun hbt => ⟨by omega, by omega, hb hbt⟩⟩
    · refine ev_bind0 (l01In_is _ _ _) ?_
      refine ev_dpos h ?_
      refine ev_pos (by omega) (ev_pos (by omega) ?_)
      rw [Int.toNat_natCast]
      exact hs
    · refine ev_bind0 (within_is _ _ _) ?_
      refine ev_dpos h ?_
      refine ev_pos (by omega) (ev_pos (by omega) ?_)
      rw [Int.toNat_natCast]
      exact hm
  · refine ⟨false, ?_, ?_, fun hbt => by cases hbt⟩
    · refine ev_bind0 (l01In_is _ _ _) ?_
      exact ev_dneg h (ev_some _)
    · refine ev_bind0 (within_is _ _ _) ?_
      exact ev_dneg h (ev_some _)

theorem plain_loop (f : List S30) (hf : f.length ≤ 40) (hop : ∀ j : Int, 0 ≤ j → j < f.length → 1 ≤ (rd_T30 f j).f0) (d : Nat) : ∀ (i : Nat), i ≤ f.length → f.length - i = d →
    ∃ b, Ev (fun k => spec_IsPlain.l0 k f f.length i) b ∧ H.anyO impl_IsPlain.p (f.drop i) = some (!b) := by
  induction d with
  | zero =>
    intro i hi hd
    refine ⟨true, Ev.step (fun k => by rw [spec_IsPlain.l0]) (ev_neg (by omega) (ev_some _)), ?_⟩
    rw [List.drop_eq_nil_of_le (by omega)]
    rfl
  | succ d ih =>
    intro i hi hd
    obtain ⟨b, hs, hm⟩ := ih (i + 1) (by omega) (by omega)
    have hil : i < f.length := by omega
    have z0 : (0 : Int) ≤ (i : Int) := by omega
    have z1 : (i : Int) < (f.length : Int) := by omega
    have ew : wrap64 ((i : Int) + 1) = ((i + 1 : Nat) : Int) := by rw [w64 (by omega) (by omega)]; omega
    have hrd : rd_T30 f (i : Int) = f[i] := by simp [rd_T30, List.getD_eq_getElem?_getD, List.getElem?_eq_getElem hil]
    have h1 := hop i z0 z1
    rw [hrd] at h1
    rw [List.drop_eq_getElem_cons hil]
    generalize f[i] = x at hrd h1
    simp only [H.anyO, impl_IsPlain.p]
    rw [within_is]
    by_cases h4 : x.f0 > 4
    · refine ⟨false, ?_, ?_⟩
      · refine Ev.step (fun k => by rw [spec_IsPlain.l0]) ?_
        rw [hrd]
        exact ev_pos z1 (ev_pos z0 (ev_pos z1 (ev_pos h4 (ev_some _))))
      · have hd4 : decide (1 ≤ x.f0 ∧ x.f0 ≤ 4) = false := decide_eq_false (by omega)
        rw [hd4]
        rfl
    · refine ⟨b, ?_, ?_⟩
      · refine Ev.step (fun k => by rw [spec_IsPlain.l0]) ?_
        rw [hrd, ew]
        exact ev_pos z1 (ev_pos z0 (ev_pos z1 (ev_neg h4 hs)))
      · have hd4 : decide (1 ≤ x.f0 ∧ x.f0 ≤ 4) = true := decide_eq_true ⟨h1, by omega⟩
        rw [hd4]
        exact hm
/-- IsPlain, on both sides. -/
theorem plain_both (f : List S30) (hf : f.length ≤ 1048576) : ∃ b, Ev (fun k => spec_IsPlain.f k f) b ∧ Ev (fun k => impl_IsPlain.f k f) b := by
  obtain ⟨b, hs, hm, hb⟩ := formula_both f hf
  unfold spec_IsPlain.f impl_IsPlain.f
  cases b with
  | false => exact ⟨false, Ev.bind hs (ev_neg (by simp) (ev_some _)), Ev.bind hm (ev_neg (by simp) (ev_some _))⟩
  | true =>
    obtain ⟨_, h40, hop⟩ := hb rfl
    obtain ⟨c, gs, gm⟩ := plain_loop f h40 hop f.length 0 (by omega) (by omega)
    refine ⟨c, Ev.bind hs (ev_pos rfl gs), Ev.bind hm (ev_pos rfl ?_)⟩
    refine ev_pos (by omega) ?_
    refine ev_bind0 gm ?_
    exact ev_eq (ev_some _) (by simp)

/-- A node of the laws' as the program's own. -/
def asNode (x : S32) : S30 := ⟨x.f0, x.f1, x.f2, x.f3⟩
theorem toNodeS_l0 (l : List S32) (hn : l.length ≤ 8796093022208) (d : Nat) : ∀ (i : Nat) (o : List S30), i ≤ l.length → l.length - i = d → o.length = l.length → o.take i = (l.map asNode).take i →
    Ev (fun k => laws_toNodeS.l0 k l o i) (l.map asNode) := by
  induction d with
  | zero =>
    intro i o h1 hd ho ht
    refine Ev.step (fun k => by rw [laws_toNodeS.l0]) (ev_neg (by omega) (ev_eq (ev_some o) ?_))
    rw [List.take_of_length_le (by omega), List.take_of_length_le (by simp; omega)] at ht
    exact ht
  | succ d ih =>
    intro i o h1 hd ho ht
    refine Ev.step (fun k => by rw [laws_toNodeS.l0]) ?_
    refine ev_pos (by omega) ?_
    refine ev_pos (by omega) ?_
    refine ev_bind0 (laws_toNode.f.eq_1 _ _ _ _) ?_
    refine ev_pos (by omega) ?_
    rw [w64 (by omega) (by omega)]
    have e : ((i : Int) + 1) = ((i + 1 : Nat) : Int) := by omega
    rw [e]
    refine ih (i + 1) _ (by omega) (by omega) (by simp [ho]) ?_
    simp only [Int.toNat_natCast]
    rw [List.take_succ_eq_append_getElem (by simp; omega), List.take_succ_eq_append_getElem (by simp; omega), List.take_set_of_le (Nat.le_refl _), ht]
    congr 1
    simp [rd_T32, asNode, List.getD_eq_getElem?_getD, List.getElem?_eq_getElem (show i < l.length by omega)]
theorem toNodeS_ev (l : List S32) (hn : l.length ≤ 8796093022208) : Ev (fun k => laws_toNodeS.f k l) (l.map asNode) := by
  unfold laws_toNodeS.f
  refine ev_pos (by omega) ?_
  refine ev_pos (by omega) ?_
  exact toNodeS_l0 l hn l.length 0 _ (by omega) (by omega) (by simp) (by simp)
theorem eqNode_is (a b c d : Int) : laws_eqNode.f a b c d a b c d = some true := by
  unfold laws_eqNode.f
  rw [if_pos rfl, if_pos rfl, if_pos rfl, if_pos rfl]
theorem eqNodeS_l0 (l : List S30) (hn : l.length ≤ 9223372036854775807) (d : Nat) : ∀ i : Int, 0 ≤ i → i ≤ l.length → (l.length : Int) - i = d → Ev (fun k => laws_eqNodeS.l0 k l l i) true := by
  induction d with
  | zero =>
    intro i h0 h1 hd
    exact Ev.step (fun k => by rw [laws_eqNodeS.l0]) (ev_neg (by omega) (ev_some true))
  | succ d ih =>
    intro i h0 h1 hd
    have := ih (i + 1) (by omega) (by omega) (by omega)
    refine Ev.step (fun k => by rw [laws_eqNodeS.l0]) ?_
    refine ev_pos (by omega) ?_
    refine ev_pos h0 ?_
    refine ev_pos (by omega) ?_
    refine ev_bind0 (eqNode_is _ _ _ _) ?_
    refine ev_pos rfl ?_
    rw [w64 (by omega) (by omega)]; exact this
theorem eqNodeS_ev (l : List S30) (hn : l.length ≤ 9223372036854775807) : Ev (fun k => laws_eqNodeS.f k l l) true := by
  unfold laws_eqNodeS.f
  exact ev_pos rfl (eqNodeS_l0 l hn l.length 0 (by omega) (by omega) (by omega))

theorem szNodeS_is (l : List S32) (h : (l.length : Int) ≤ 9223372036854775807) : laws_szNodeS.f l 1048576 = some (if 1048576 - (l.length : Int) < 0 then (-1 : Int) else (1048576 - (l.length : Int) : Int)) := by
  unfold laws_szNodeS.f
  rw [w64 (by omega) (by omega)]
  by_cases h1 : 1048576 - (l.length : Int) < 0
  · rw [if_pos h1, if_pos h1]
  · rw [if_neg h1, if_neg h1]
theorem FnExactIsPlain (l : List S32) (hm : l.length ≤ maxLen) (_ : ∀ x ∈ l, (Lit.int .i64 x.f0).wf = true ∧ (Lit.int .i64 x.f1).wf = true ∧ (Lit.int .i64 x.f2).wf = true ∧ (Lit.int .i64 x.f3).wf = true) : ∃ k, laws_FnExactIsPlain.f k l = some true := by
  apply Ev.rounds
  unfold laws_FnExactIsPlain.f
  by_cases hl : 1048576 - (l.length : Int) < 0
  · have hml : maxLen = 9223372036854775807 := rfl
    have hz : laws_szNodeS.f l 1048576 = some (-1) := by rw [szNodeS_is l (by omega), if_pos hl]
    refine ev_bind0 hz ?_
    exact ev_pos (by decide) (ev_some _)
  · have hz : laws_szNodeS.f l 1048576 = some (1048576 - (l.length : Int)) := by rw [szNodeS_is l (by omega), if_neg hl]
    have hll : (l.map asNode).length = l.length := by simp
    obtain ⟨b, hs, hi⟩ := plain_both (l.map asNode) (by omega)
    have ht := toNodeS_ev l (by omega)
    have er := eqNodeS_ev (l.map asNode) (by omega)
    refine ev_bind0 hz ?_
    refine ev_neg (by omega) ?_
    refine Ev.bind ht ?_
    refine Ev.bind hs ?_
    refine Ev.bind ht ?_
    refine Ev.bind hi ?_
    refine ev_neg (by simp) ?_
    refine Ev.bind ht ?_
    refine Ev.bind er ?_
    exact ev_pos rfl (ev_some _)

end Go.Proofs.Ytkkmfodoilbdlaa.Pure
