/-
  FnExactCountKnown over lists: for a good state both add the same counts; else both are -1.
-/
import Derived.Test.YtcdaflkkmgofdaaPFnExactCountKnownx
import Derived.Test.YtcdaflkkmgofdaaPL
set_option linter.unusedVariables false
set_option linter.unusedSimpArgs false
namespace Go.Proofs.Ytcdaflkkmgofdaa.Pure
open Go.RowKit Go.Proofs.Ytcdaflkkmgofdaa.PFnExactCountKnown Go.Proofs.YtcdaflkkmgofdaaW.PrintWords Go.Proofs.YtcdaflkkmgofdaaW.PrintLast Go.Proofs.YtcdaflkkmgofdaaW.PrintMore Go.Proofs.Ytcdaflkkmgofdaa.PL

theorem within_is (a b c : Int) : impl_within.f a b c = some (decide (b ≤ a ∧ a ≤ c)) := by
  unfold impl_within.f
  by_cases h : b ≤ a <;> simp [h]
theorem l01In_is (a b c : Int) : spec_l01In.f a b c = some (decide (b ≤ a ∧ a ≤ c)) := by
  unfold spec_l01In.f
  by_cases h : b ≤ a <;> simp [h]

theorem icallers_is (a : Int) : impl_CallersOk.f a = some (decide (2 ≤ a ∧ a ≤ 5)) := by
  unfold impl_CallersOk.f; rw [within_is]; rfl
theorem scallers_is (a : Int) : spec_CallersOk.f a = some (decide (2 ≤ a ∧ a ≤ 5)) := by
  unfold spec_CallersOk.f; rw [l01In_is]; rfl

theorem sbit_l0 (n : Int) (hn : n ≤ 4611686018427387904) (d : Nat) : ∀ (x i : Int), 0 ≤ i → i ≤ n → n - i = d → 0 ≤ x → x ≤ 9223372036854775807 →
    Ev (fun k => spec_l03Bit.l0 k x n i) (x / 2 ^ d % 2) := by
  induction d with
  | zero =>
    intro x i h0 h1 hd hx hx2
    refine Ev.step (fun k => by rw [spec_l03Bit.l0]) (ev_neg (by omega) (ev_eq (ev_some _) ?_))
    rw [Int.tmod_eq_emod_of_nonneg hx]
    simp
  | succ d ih =>
    intro x i h0 h1 hd hx hx2
    refine Ev.step (fun k => by rw [spec_l03Bit.l0]) (ev_pos (by omega) ?_)
    rw [Int.tdiv_eq_ediv_of_nonneg hx, w64 (x := x / 2) (by omega) (by omega), w64 (by omega) (by omega)]
    refine ev_eq (ih (x / 2) (i + 1) (by omega) (by omega) (by omega) (by omega) (by omega)) ?_
    rw [Int.ediv_ediv_of_nonneg (by omega), Int.pow_succ, Int.mul_comm]
theorem sbit_ev (x n : Int) (h0 : 0 ≤ n) (hn : n ≤ 4611686018427387904) (hx : 0 ≤ x) (hx2 : x ≤ 9223372036854775807) :
    Ev (fun k => spec_l03Bit.f k x n) (x / 2 ^ n.toNat % 2) := by
  unfold spec_l03Bit.f
  exact sbit_l0 n hn n.toNat x 0 (by omega) h0 (by omega) hx hx2

theorem bits_alike : ∀ (n : Fin 32) (i : Fin 5), (Go.bits .and .i64 (shr .i64 ((n.val : Nat) : Int) ((i.val : Nat) : Int)) 1 = 0) = ¬ (((n.val : Nat) : Int) / 2 ^ i.val % 2 = 1) := by decide +kernel
theorem bits_are (x i : Int) (h0 : 0 ≤ x) (h1 : x ≤ 31) (i0 : 0 ≤ i) (i1 : i < 5) : (Go.bits .and .i64 (shr .i64 x i) 1 = 0) = ¬ (x / 2 ^ i.toNat % 2 = 1) := by
  have := bits_alike ⟨x.toNat, by omega⟩ ⟨i.toNat, by omega⟩
  simp only [Int.toNat_of_nonneg h0, Int.toNat_of_nonneg i0] at this
  exact this
theorem shl_is (n : Nat) (h0 : 2 ≤ n) (h1 : n ≤ 5) : wrap64 (shl .i64 1 (n : Int) - 1) = 2 ^ n - 1 ∧ (2 : Int) ^ n ≤ 32 := by
  have : n = 2 ∨ n = 3 ∨ n = 4 ∨ n = 5 := by omega
  rcases this with rfl | rfl | rfl | rfl <;> decide +kernel
/-- One caller's secrets are told right. -/
def FitAt (l : List Int) (i : Int) : Prop := 0 ≤ rd l i ∧ rd l i ≤ 2 ^ l.length - 1 ∧ rd l i / 2 ^ i.toNat % 2 = 1
/-- A good state. -/
def Good (l : List Int) : Prop := 2 ≤ l.length ∧ l.length ≤ 5 ∧ ∀ i : Int, 0 ≤ i → i < l.length → FitAt l i
theorem states (l : List Int) (h2 : 2 ≤ l.length) (h5 : l.length ≤ 5) (d : Nat) : ∀ i : Int, 0 ≤ i → i ≤ l.length → (l.length : Int) - i = d →
    ∃ b, Ev (fun k => spec_StateOk.l0 k l l l.length i) b ∧ Ev (fun k => impl_StateOk.l0 k l l l.length i) b ∧ (b = true ↔ ∀ j : Int, i ≤ j → j < l.length → FitAt l j) := by
  induction d with
  | zero =>
    intro i h0 h1 hd
    exact ⟨true, Ev.step (fun k => by rw [spec_StateOk.l0]) (ev_neg (by omega) (ev_some _)), Ev.step (fun k => by rw [impl_StateOk.l0]) (ev_neg (by omega) (ev_some _)), ⟨fun _ j _ _ => (by omega), fun _ => rfl⟩⟩
  | succ d ih =>
    intro i h0 h1 hd
    obtain ⟨b, hs, hi, hb⟩ := ih (i + 1) (by omega) (by omega) (by omega)
    obtain ⟨hm, hm2⟩ := shl_is l.length h2 h5
    have ew : wrap64 (i + 1) = i + 1 := w64 (by omega) (by omega)
    rw [← ew] at hs hi
    by_cases hin : 0 ≤ rd l i ∧ rd l i ≤ wrap64 (shl .i64 1 (l.length : Int) - 1)
    · have hbb := bits_are (rd l i) i hin.1 (by omega) h0 (by omega)
      by_cases hbit : rd l i / 2 ^ i.toNat % 2 = 1
      · have hn : ¬ (Go.bits .and .i64 (shr .i64 (rd l i) i) 1 = 0) := by rw [hbb]; simpa using hbit
        refine ⟨b, ?_, ?_, ?_⟩
        · refine Ev.step (fun k => by rw [spec_StateOk.l0]) ?_
          refine ev_pos (by omega) ?_
          refine ev_pos h0 ?_
          refine ev_pos (by omega) ?_
          refine ev_bind0 (l01In_is _ _ _) ?_
          refine ev_dpos hin ?_
          refine Ev.bind (sbit_ev _ _ h0 (by omega) hin.1 (by omega)) ?_
          exact ev_pos hbit hs
        · refine Ev.step (fun k => by rw [impl_StateOk.l0]) ?_
          refine ev_pos (by omega) ?_
          refine ev_pos h0 ?_
          refine ev_pos (by omega) ?_
          refine ev_bind0 (within_is _ _ _) ?_
          refine ev_dpos hin ?_
          exact ev_neg hn hi
        · rw [hb]
          constructor
          · intro h j hj hl
            by_cases e : j = i
            · rw [e]; exact ⟨hin.1, by rw [← hm]; exact hin.2, hbit⟩
            · exact h j (by omega) hl
          · intro h j hj hl
            exact h j (by omega) hl
      · have hp : Go.bits .and .i64 (shr .i64 (rd l i) i) 1 = 0 := by rw [hbb]; exact hbit
        refine ⟨false, ?_, ?_, ⟨fun h => (by cases h), fun h => absurd (h i (by omega) (by omega)).2.2 hbit⟩⟩
        · refine Ev.step (fun k => by rw [spec_StateOk.l0]) ?_
          refine ev_pos (by omega) ?_
          refine ev_pos h0 ?_
          refine ev_pos (by omega) ?_
          refine ev_bind0 (l01In_is _ _ _) ?_
          refine ev_dpos hin ?_
          refine Ev.bind (sbit_ev _ _ h0 (by omega) hin.1 (by omega)) ?_
          exact ev_neg hbit (ev_some _)
        · refine Ev.step (fun k => by rw [impl_StateOk.l0]) ?_
          refine ev_pos (by omega) ?_
          refine ev_pos h0 ?_
          refine ev_pos (by omega) ?_
          refine ev_bind0 (within_is _ _ _) ?_
          refine ev_dpos hin ?_
          exact ev_pos hp (ev_some _)
    · refine ⟨false, ?_, ?_, ⟨fun h => (by cases h), fun h => absurd ⟨(h i (by omega) (by omega)).1, by rw [hm]; exact (h i (by omega) (by omega)).2.1⟩ hin⟩⟩
      · refine Ev.step (fun k => by rw [spec_StateOk.l0]) ?_
        refine ev_pos (by omega) ?_
        refine ev_pos h0 ?_
        refine ev_pos (by omega) ?_
        refine ev_bind0 (l01In_is _ _ _) ?_
        exact ev_dneg hin (ev_some _)
      · refine Ev.step (fun k => by rw [impl_StateOk.l0]) ?_
        refine ev_pos (by omega) ?_
        refine ev_pos h0 ?_
        refine ev_pos (by omega) ?_
        refine ev_bind0 (within_is _ _ _) ?_
        exact ev_dneg hin (ev_some _)
theorem state_both (l : List Int) (hl : l.length ≤ 4611686018427387904) : ∃ b, Ev (fun k => spec_StateOk.f k l) b ∧ Ev (fun k => impl_StateOk.f k l) b ∧ (b = true ↔ Good l) := by
  unfold spec_StateOk.f impl_StateOk.f
  by_cases h : 2 ≤ (l.length : Int) ∧ (l.length : Int) ≤ 5
  · obtain ⟨b, hs, hi, hb⟩ := states l (by omega) (by omega) l.length 0 (by omega) (by omega) (by omega)
    refine ⟨b, ev_bind0 (scallers_is _) (ev_dpos h hs), ev_bind0 (icallers_is _) (ev_dpos h hi), ?_⟩
    rw [hb]
    exact ⟨fun hf => ⟨by omega, by omega, hf⟩, fun hg => hg.2.2⟩
  · exact ⟨false, ev_bind0 (scallers_is _) (ev_dneg h (ev_some _)), ev_bind0 (icallers_is _) (ev_dneg h (ev_some _)), ⟨fun h => (by cases h), fun hg => absurd (show 2 ≤ (l.length : Int) ∧ (l.length : Int) ≤ 5 from ⟨by have := hg.1; omega, by have := hg.2.1; omega⟩) h⟩⟩
theorem Good.le31 {l : List Int} (h : Good l) (i : Int) (h0 : 0 ≤ i) (h1 : i < l.length) : 0 ≤ rd l i ∧ rd l i ≤ 31 := by
  obtain ⟨a, b, _⟩ := h.2.2 i h0 h1
  have := (shl_is l.length h.1 h.2.1).2
  omega

/-- How many bits of the first seven are set. -/
def cnt (x : Int) : Int := x % 2 + x / 2 % 2 + x / 4 % 2 + x / 8 % 2 + x / 16 % 2 + x / 32 % 2 + x / 64 % 2
theorem many_all : ∀ n : Fin 128, impl_many.f ((n.val : Nat) : Int) = some (cnt ((n.val : Nat) : Int)) := by decide +kernel
theorem count_all : ∀ n : Fin 128, spec_l13Count.f 10 ((n.val : Nat) : Int) = some (cnt ((n.val : Nat) : Int)) := by decide +kernel
theorem many_is (x : Int) (h0 : 0 ≤ x) (h1 : x < 128) : impl_many.f x = some (cnt x) := by
  have := many_all ⟨x.toNat, by omega⟩
  simpa only [Int.toNat_of_nonneg h0] using this
theorem count_ev (x : Int) (h0 : 0 ≤ x) (h1 : x < 128) : Ev (fun k => spec_l13Count.f k x) (cnt x) := by
  have := count_all ⟨x.toNat, by omega⟩
  simp only [Int.toNat_of_nonneg h0] at this
  exact Ev.of (spec_l13Count.mono x) this
theorem cnt_range (x : Int) (h0 : 0 ≤ x) : 0 ≤ cnt x ∧ cnt x ≤ 7 := by unfold cnt; omega

theorem known_loops (l : List Int) (hg : Good l) (d : Nat) : ∀ (i x : Int), 0 ≤ i → i ≤ l.length → (l.length : Int) - i = d → 0 ≤ x → x ≤ 7 * i →
    ∃ r, 0 ≤ r ∧ r ≤ 35 ∧ Ev (fun k => spec_CountKnown.l0 k x l l.length i) r ∧ Ev (fun k => impl_known.l0 k x l l.length i) r := by
  have h5 := hg.2.1
  induction d with
  | zero =>
    intro i x h0 h1 hd hx hx2
    exact ⟨x, hx, by omega, Ev.step (fun k => by rw [spec_CountKnown.l0]) (ev_neg (by omega) (ev_some _)), Ev.step (fun k => by rw [impl_known.l0]) (ev_neg (by omega) (ev_some _))⟩
  | succ d ih =>
    intro i x h0 h1 hd hx hx2
    have hr := hg.le31 i h0 (by omega)
    have hc := cnt_range (rd l i) hr.1
    obtain ⟨r, hr0, hr1, hs, hi⟩ := ih (i + 1) (x + cnt (rd l i)) (by omega) (by omega) (by omega) (by omega) (by omega)
    have ew : wrap64 (i + 1) = i + 1 := w64 (by omega) (by omega)
    have ex : wrap64 (x + cnt (rd l i)) = x + cnt (rd l i) := w64 (by omega) (by omega)
    refine ⟨r, hr0, hr1, ?_, ?_⟩
    · refine Ev.step (fun k => by rw [spec_CountKnown.l0]) ?_
      refine ev_pos (by omega) ?_
      refine ev_pos h0 ?_
      refine ev_pos (by omega) ?_
      refine Ev.bind (count_ev _ hr.1 (by omega)) ?_
      rw [ex, ew]; exact hs
    · refine Ev.step (fun k => by rw [impl_known.l0]) ?_
      refine ev_pos (by omega) ?_
      refine ev_pos h0 ?_
      refine ev_pos (by omega) ?_
      refine ev_bind0 (many_is _ hr.1 (by omega)) ?_
      rw [ex, ew]; exact hi

theorem toIntS_l0 (l : List Int) (hn : l.length ≤ 35184372088832) (d : Nat) : ∀ (i : Nat) (o : List Int), i ≤ l.length → l.length - i = d → o.length = l.length → o.take i = l.take i →
    Ev (fun k => laws_toIntS.l0 k l o i) l := by
  induction d with
  | zero =>
    intro i o h1 hd ho ht
    refine Ev.step (fun k => by rw [laws_toIntS.l0]) (ev_neg (by omega) (ev_eq (ev_some o) ?_))
    rw [List.take_of_length_le (by omega), List.take_of_length_le (by omega)] at ht
    exact ht
  | succ d ih =>
    intro i o h1 hd ho ht
    refine Ev.step (fun k => by rw [laws_toIntS.l0]) (ev_pos (by omega) (ev_pos (by omega) (ev_pos (by omega) ?_)))
    rw [w64 (by omega) (by omega)]
    have e : ((i : Int) + 1) = ((i + 1 : Nat) : Int) := by omega
    rw [e]
    refine ih (i + 1) _ (by omega) (by omega) (by simp [ho]) ?_
    simp only [Int.toNat_natCast]
    rw [List.take_succ_eq_append_getElem (by simp; omega), List.take_succ_eq_append_getElem (by omega), List.take_set_of_le (Nat.le_refl _), ht]
    congr 1
    simp [rd, List.getD_eq_getElem?_getD, List.getElem?_eq_getElem (show i < l.length by omega)]
theorem toIntS_ev (l : List Int) (hn : l.length ≤ 35184372088832) : Ev (fun k => laws_toIntS.f k l) l := by
  unfold laws_toIntS.f
  refine ev_pos (by omega) (ev_pos (by omega) ?_)
  exact toIntS_l0 l hn l.length 0 _ (by omega) (by omega) (by simp) (by simp)

theorem eqIntS_l0 (l m : List Int) (hlm : l.length = m.length) (hn : l.length ≤ 9223372036854775807) (d : Nat) : ∀ i : Int, 0 ≤ i → i ≤ l.length → (l.length : Int) - i = d →
    ∃ b, Ev (fun k => laws_eqIntS.l0 k l m i) b ∧ (b = true ↔ ∀ j : Int, i ≤ j → j < l.length → rd l j = rd m j) := by
  induction d with
  | zero =>
    intro i h0 h1 hd
    exact ⟨true, Ev.step (fun k => by rw [laws_eqIntS.l0]) (ev_neg (by omega) (ev_some true)), ⟨fun _ j _ _ => (by omega), fun _ => rfl⟩⟩
  | succ d ih =>
    intro i h0 h1 hd
    by_cases he : rd l i = rd m i
    · obtain ⟨b, hb, hi⟩ := ih (i + 1) (by omega) (by omega) (by omega)
      refine ⟨b, Ev.step (fun k => by rw [laws_eqIntS.l0]) (ev_pos (by omega) (ev_pos h0 (ev_pos (by omega) (ev_pos he ?_)))), ?_⟩
      · rw [w64 (by omega) (by omega)]; exact hb
      · rw [hi]
        constructor
        · intro h j hj hl
          by_cases e : j = i
          · rw [e]; exact he
          · exact h j (by omega) hl
        · intro h j hj hl
          exact h j (by omega) hl
    · exact ⟨false, Ev.step (fun k => by rw [laws_eqIntS.l0]) (ev_pos (by omega) (ev_pos h0 (ev_pos (by omega) (ev_neg he (ev_some false))))), ⟨fun h => (by cases h), fun h => absurd (h i (by omega) (by omega)) he⟩⟩
theorem eqIntS_ev (l m : List Int) (hn : l.length ≤ 9223372036854775807) : Ev (fun k => laws_eqIntS.f k l m) (decide (l = m)) := by
  unfold laws_eqIntS.f
  by_cases h : l.length = m.length
  · obtain ⟨b, hb, hi⟩ := eqIntS_l0 l m h hn l.length 0 (by omega) (by omega) (by omega)
    refine ev_pos (by omega) (ev_eq hb ?_)
    rw [Bool.eq_iff_iff, hi, decide_eq_true_eq]
    exact ⟨fun hr => ext_rd h (fun i h0 h1 => hr i h0 h1), fun e j _ _ => by rw [e]⟩
  · refine ev_neg (by omega) (ev_eq (ev_some false) ?_)
    symm; rw [decide_eq_false_iff_not]
    intro e; exact h (by rw [e])

theorem FnExactCountKnown (l : List Int) (hm : l.length ≤ maxLen) (_ : ∀ x ∈ l, (Lit.int .i64 x).wf = true) : ∃ k, laws_FnExactCountKnown.f k l = some true := by
  apply Ev.rounds
  unfold laws_FnExactCountKnown.f
  by_cases hl : (l.length : Int) > 1048576
  · exact ev_pos hl (ev_some _)
  · obtain ⟨b, hs, hi, hb⟩ := state_both l (by omega)
    have ht := toIntS_ev l (by omega)
    have key : ∃ r, Ev (fun k => spec_CountKnown.f k l) r ∧ Ev (fun k => impl_CountKnown.f k l) r := by
      unfold spec_CountKnown.f impl_CountKnown.f
      cases b with
      | true =>
        obtain ⟨r, _, _, h1, h2⟩ := known_loops l (hb.1 rfl) l.length 0 0 (by omega) (by omega) (by omega) (by omega) (by omega)
        exact ⟨r, Ev.bind hs (ev_pos rfl h1), Ev.bind hi (ev_pos rfl (Ev.bind (g := fun k => impl_known.f k l) h2 (ev_some _)))⟩
      | false => exact ⟨-1, Ev.bind hs (ev_neg (by simp) (ev_some _)), Ev.bind hi (ev_neg (by simp) (ev_some _))⟩
    obtain ⟨r, h1, h2⟩ := key
    refine ev_neg hl ?_
    refine Ev.bind ht ?_
    refine Ev.bind h1 ?_
    refine Ev.bind ht ?_
    refine Ev.bind h2 ?_
    refine ev_pos rfl ?_
    refine Ev.bind ht ?_
    refine Ev.bind (eqIntS_ev l l (by omega)) ?_
    exact ev_pos (by simp) (ev_some _)

end Go.Proofs.Ytcdaflkkmgofdaa.Pure
