/-
  FnExactAfterCall over lists: both are the same state after the call, or none.
-/
import Derived.Test.YtcdaflkkmgofdaaPFnExactAfterCallx
import Derived.Test.YtcdaflkkmgofdaaPL
set_option linter.unusedVariables false
set_option linter.unusedSimpArgs false
namespace Go.Proofs.Ytcdaflkkmgofdaa.Pure
open Go.RowKit Go.Proofs.Ytcdaflkkmgofdaa Go.Proofs.Ytcdaflkkmgofdaa.PFnExactAfterCall Go.Proofs.YtcdaflkkmgofdaaW.PrintWords Go.Proofs.YtcdaflkkmgofdaaW.PrintLast Go.Proofs.YtcdaflkkmgofdaaW.PrintMore Go.Proofs.Ytcdaflkkmgofdaa.PL

theorem within_is (a b c : Int) : impl_within.f a b c = some (decide (b ≤ a ∧ a ≤ c)) := by
  unfold impl_within.f
  by_cases h : b ≤ a <;> simp [h]
theorem l01In_is (a b c : Int) : spec_l01In.f a b c = some (decide (b ≤ a ∧ a ≤ c)) := by
  unfold spec_l01In.f
  by_cases h : b ≤ a <;> simp [h]

theorem icallers_is (a : Int) : impl_CallersOk.f a = some (decide (2 ≤ a ∧ a ≤ 5)) := by
  unfold impl_CallersOk.f; rw [within_is]; rfl
theorem scallers_is (a : Int) : spec_CallersOk.f a = some (decide (2 ≤ a ∧ a ≤ 5)) := by
  unfold spec_CallersOk.f; rw [l01In_is]; rfl

theorem sbit_l0 (n : Int) (hn : n ≤ 4611686018427387904) (d : Nat) : ∀ (x i : Int), 0 ≤ i → i ≤ n → n - i = d → 0 ≤ x → x ≤ 9223372036854775807 →
    Ev (fun k => spec_l03Bit.l0 k x n i) (x / 2 ^ d % 2) := by
  induction d with
  | zero =>
    intro x i h0 h1 hd hx hx2
    refine Ev.step (fun k => by rw [spec_l03Bit.l0]) (ev_neg (by omega) (ev_eq (ev_some _) ?_))
    rw [Int.tmod_eq_emod_of_nonneg hx]
    simp
  | succ d ih =>
    intro x i h0 h1 hd hx hx2
    refine Ev.step (fun k => by rw [spec_l03Bit.l0]) (ev_pos (by omega) ?_)
    rw [Int.tdiv_eq_ediv_of_nonneg hx, w64 (x := x / 2) (by omega) (by omega), w64 (by omega) (by omega)]
    refine ev_eq (ih (x / 2) (i + 1) (by omega) (by omega) (by omega) (by omega) (by omega)) ?_
    rw [Int.ediv_ediv_of_nonneg (by omega), Int.pow_succ, Int.mul_comm]
theorem sbit_ev (x n : Int) (h0 : 0 ≤ n) (hn : n ≤ 4611686018427387904) (hx : 0 ≤ x) (hx2 : x ≤ 9223372036854775807) :
    Ev (fun k => spec_l03Bit.f k x n) (x / 2 ^ n.toNat % 2) := by
  unfold spec_l03Bit.f
  exact sbit_l0 n hn n.toNat x 0 (by omega) h0 (by omega) hx hx2

theorem bits_alike : ∀ (n : Fin 32) (i : Fin 5), (Go.bits .and .i64 (shr .i64 ((n.val : Nat) : Int) ((i.val : Nat) : Int)) 1 = 0) = ¬ (((n.val : Nat) : Int) / 2 ^ i.val % 2 = 1) := by decide +kernel
theorem bits_are (x i : Int) (h0 : 0 ≤ x) (h1 : x ≤ 31) (i0 : 0 ≤ i) (i1 : i < 5) : (Go.bits .and .i64 (shr .i64 x i) 1 = 0) = ¬ (x / 2 ^ i.toNat % 2 = 1) := by
  have := bits_alike ⟨x.toNat, by omega⟩ ⟨i.toNat, by omega⟩
  simp only [Int.toNat_of_nonneg h0, Int.toNat_of_nonneg i0] at this
  exact this
theorem shl_is (n : Nat) (h0 : 2 ≤ n) (h1 : n ≤ 5) : wrap64 (shl .i64 1 (n : Int) - 1) = 2 ^ n - 1 ∧ (2 : Int) ^ n ≤ 32 := by
  have : n = 2 ∨ n = 3 ∨ n = 4 ∨ n = 5 := by omega
  rcases this with rfl | rfl | rfl | rfl <;> decide +kernel
/-- One caller's secrets are told right. -/
def FitAt (l : List Int) (i : Int) : Prop := 0 ≤ rd l i ∧ rd l i ≤ 2 ^ l.length - 1 ∧ rd l i / 2 ^ i.toNat % 2 = 1
/-- A good state. -/
def Good (l : List Int) : Prop := 2 ≤ l.length ∧ l.length ≤ 5 ∧ ∀ i : Int, 0 ≤ i → i < l.length → FitAt l i
theorem states (l : List Int) (h2 : 2 ≤ l.length) (h5 : l.length ≤ 5) (d : Nat) : ∀ i : Int, 0 ≤ i → i ≤ l.length → (l.length : Int) - i = d →
    ∃ b, Ev (fun k => spec_StateOk.l0 k l l l.length i) b ∧ Ev (fun k => impl_StateOk.l0 k l l l.length i) b ∧ (b = true ↔ ∀ j : Int, i ≤ j → j < l.length → FitAt l j) := by
  induction d with
  | zero =>
    intro i h0 h1 hd
    exact ⟨true, Ev.step (fun k => by rw [spec_StateOk.l0]) (ev_neg (by omega) (ev_some _)), Ev.step (fun k => by rw [impl_StateOk.l0]) (ev_neg (by omega) (ev_some _)), ⟨fun _ j _ _ => (by omega), fun _ => rfl⟩⟩
  | succ d ih =>
    intro i h0 h1 hd
    obtain ⟨b, hs, hi, hb⟩ := ih (i + 1) (by omega) (by omega) (by omega)
    obtain ⟨hm, hm2⟩ := shl_is l.length h2 h5
    have ew : wrap64 (i + 1) = i + 1 := w64 (by omega) (by omega)
    rw [← ew] at hs hi
    by_cases hin : 0 ≤ rd l i ∧ rd l i ≤ wrap64 (shl .i64 1 (l.length : Int) - 1)
    · have hbb := bits_are (rd l i) i hin.1 (by omega) h0 (by omega)
      by_cases hbit : rd l i / 2 ^ i.toNat % 2 = 1
      · have hn : ¬ (Go.bits .and .i64 (shr .i64 (rd l i) i) 1 = 0) := by rw [hbb]; simpa using hbit
        refine ⟨b, ?_, ?_, ?_⟩
        · refine Ev.step (fun k => by rw [spec_StateOk.l0]) ?_
          refine ev_pos (by omega) ?_
          refine ev_pos h0 ?_
          refine ev_pos (by omega) ?_
          refine ev_bind0 (l01In_is _ _ _) ?_
          refine ev_dpos hin ?_
          refine Ev.bind (sbit_ev _ _ h0 (by omega) hin.1 (by omega)) ?_
          exact ev_pos hbit hs
        · refine Ev.step (fun k => by rw [impl_StateOk.l0]) ?_
          refine ev_pos (by omega) ?_
          refine ev_pos h0 ?_
          refine ev_pos (by omega) ?_
          refine ev_bind0 (within_is _ _ _) ?_
          refine ev_dpos hin ?_
          exact ev_neg hn hi
        · rw [hb]
          constructor
          · intro h j hj hl
            by_cases e : j = i
            · rw [e]; exact ⟨hin.1, by rw [← hm]; exact hin.2, hbit⟩
            · exact h j (by omega) hl
          · intro h j hj hl
            exact h j (by omega) hl
      · have hp : Go.bits .and .i64 (shr .i64 (rd l i) i) 1 = 0 := by rw [hbb]; exact hbit
        refine ⟨false, ?_, ?_, ⟨fun h => (by cases h), fun h => absurd (h i (by omega) (by omega)).2.2 hbit⟩⟩
        · refine Ev.step (fun k => by rw [spec_StateOk.l0]) ?_
          refine ev_pos (by omega) ?_
          refine ev_pos h0 ?_
          refine ev_pos (by omega) ?_
          refine ev_bind0 (l01In_is _ _ _) ?_
          refine ev_dpos hin ?_
          refine Ev.bind (sbit_ev _ _ h0 (by omega) hin.1 (by omega)) ?_
          exact ev_neg hbit (ev_some _)
        · refine Ev.step (fun k => by rw [impl_StateOk.l0]) ?_
          refine ev_pos (by omega) ?_
          refine ev_pos h0 ?_
          refine ev_pos (by omega) ?_
          refine ev_bind0 (within_is _ _ _) ?_
          refine ev_dpos hin ?_
          exact ev_pos hp (ev_some _)
    · refine ⟨false, ?_, ?_, ⟨fun h => (by cases h), fun h => absurd ⟨(h i (by omega) (by omega)).1, by rw [hm]; exact (h i (by omega) (by omega)).2.1⟩ hin⟩⟩
      · refine Ev.step (fun k => by rw [spec_StateOk.l0]) ?_
        refine ev_pos (by omega) ?_
        refine ev_pos h0 ?_
        refine ev_pos (by omega) ?_
        refine ev_bind0 (l01In_is _ _ _) ?_
        exact ev_dneg hin (ev_some _)
      · refine Ev.step (fun k => by rw [impl_StateOk.l0]) ?_
        refine ev_pos (by omega) ?_
        refine ev_pos h0 ?_
        refine ev_pos (by omega) ?_
        refine ev_bind0 (within_is _ _ _) ?_
        exact ev_dneg hin (ev_some _)
theorem state_both (l : List Int) (hl : l.length ≤ 4611686018427387904) : ∃ b, Ev (fun k => spec_StateOk.f k l) b ∧ Ev (fun k => impl_StateOk.f k l) b ∧ (b = true ↔ Good l) := by
  unfold spec_StateOk.f impl_StateOk.f
  by_cases h : 2 ≤ (l.length : Int) ∧ (l.length : Int) ≤ 5
  · obtain ⟨b, hs, hi, hb⟩ := states l (by omega) (by omega) l.length 0 (by omega) (by omega) (by omega)
    refine ⟨b, ev_bind0 (scallers_is _) (ev_dpos h hs), ev_bind0 (icallers_is _) (ev_dpos h hi), ?_⟩
    rw [hb]
    exact ⟨fun hf => ⟨by omega, by omega, hf⟩, fun hg => hg.2.2⟩
  · exact ⟨false, ev_bind0 (scallers_is _) (ev_dneg h (ev_some _)), ev_bind0 (icallers_is _) (ev_dneg h (ev_some _)), ⟨fun h => (by cases h), fun hg => absurd (show 2 ≤ (l.length : Int) ∧ (l.length : Int) ≤ 5 from ⟨by have := hg.1; omega, by have := hg.2.1; omega⟩) h⟩⟩
theorem Good.le31 {l : List Int} (h : Good l) (i : Int) (h0 : 0 ≤ i) (h1 : i < l.length) : 0 ≤ rd l i ∧ rd l i ≤ 31 := by
  obtain ⟨a, b, _⟩ := h.2.2 i h0 h1
  have := (shl_is l.length h.1 h.2.1).2
  omega

theorem two_is (n a b : Int) : spec_l14Two.f n a b = some (decide (0 ≤ a ∧ a < n ∧ 0 ≤ b ∧ b < n ∧ a ≠ b)) := by
  unfold spec_l14Two.f
  simp only [ge_iff_le]
  by_cases h1 : 0 ≤ a
  · by_cases h2 : a < n
    · by_cases h3 : 0 ≤ b
      · by_cases h4 : b < n
        · by_cases h5 : a = b <;> simp [h1, h2, h3, h4, h5]
        · simp [h1, h2, h3, h4]
      · simp [h1, h2, h3]
    · simp [h1, h2]
  · simp [h1]
/-- The state after a call. -/
def callOf (l : List Int) (a b : Int) : List Int := (l.set a.toNat (Go.bits .or .i64 (rd l a) (rd l b))).set b.toNat (Go.bits .or .i64 (rd l a) (rd l b))
theorem callOf_length (l : List Int) (a b : Int) : (callOf l a b).length = l.length := by simp [callOf]
theorem scall_is (l : List Int) (a b : Int) (hl : l.length ≤ 5) (ha : 0 ≤ a) (ha2 : a < l.length) (hb : 0 ≤ b) (hb2 : b < l.length) : spec_l14Call.f l a b = some (callOf l a b) := by
  unfold spec_l14Call.f
  simp only [Option.bind_some, List.nil_append, List.length_nil]
  rw [if_pos (by omega), if_pos ha, if_pos ha2, if_pos hb, if_pos hb2, if_pos ha2, if_pos hb2]
  rfl
theorem icall_is (l : List Int) (a b : Int) (hl : l.length ≤ 5) (ha : 0 ≤ a) (ha2 : a < l.length) (hb : 0 ≤ b) (hb2 : b < l.length) : impl_called.f l a b = some (callOf l a b) := by
  unfold impl_called.f H.slices_Clone_int_int.f
  rw [if_pos (by omega)]
  simp only [Option.bind_some]
  rw [if_pos ha, if_pos ha2, if_pos hb, if_pos hb2, if_pos ha2, if_pos hb2]
  rfl
theorem aftercall_both (l : List Int) (a b : Int) (hl : l.length ≤ 1048576) : ∃ r o, r.length ≤ 5 ∧ Ev (fun k => spec_AfterCall.f k l a b) (r, o) ∧ Ev (fun k => impl_AfterCall.f k l a b) (r, o) := by
  obtain ⟨g, hs, hi, hg⟩ := state_both l (by omega)
  unfold spec_AfterCall.f impl_AfterCall.f
  cases g with
  | false => exact ⟨[], false, by simp, Ev.bind hs (ev_neg (by simp) (ev_some _)), Ev.bind hi (ev_neg (by simp) (ev_some _))⟩
  | true =>
    have hg := hg.1 rfl
    have h2 := hg.1
    have h5 := hg.2.1
    have ew : wrap64 ((l.length : Int) - 1) = (l.length : Int) - 1 := w64 (by omega) (by omega)
    by_cases ha : 0 ≤ a ∧ a < l.length
    · by_cases hb : 0 ≤ b ∧ b < l.length
      · by_cases hab : a = b
        · refine ⟨[], false, by simp, ?_, ?_⟩
          · refine Ev.bind hs (ev_pos rfl ?_)
            refine ev_bind0 (two_is _ _ _) ?_
            exact ev_dneg (by simp [hab]) (ev_some _)
          · refine Ev.bind hi (ev_pos rfl ?_)
            rw [ew]
            refine ev_bind0 (within_is _ _ _) ?_
            refine ev_dpos ⟨ha.1, by omega⟩ ?_
            refine ev_bind0 (within_is _ _ _) ?_
            refine ev_dpos ⟨hb.1, by omega⟩ ?_
            exact ev_pos hab (ev_some _)
        · refine ⟨callOf l a b, true, by rw [callOf_length]; omega, ?_, ?_⟩
          · refine Ev.bind hs (ev_pos rfl ?_)
            refine ev_bind0 (two_is _ _ _) ?_
            refine ev_dpos ⟨ha.1, ha.2, hb.1, hb.2, hab⟩ ?_
            exact ev_bind0 (scall_is l a b h5 ha.1 ha.2 hb.1 hb.2) (ev_some _)
          · refine Ev.bind hi (ev_pos rfl ?_)
            rw [ew]
            refine ev_bind0 (within_is _ _ _) ?_
            refine ev_dpos ⟨ha.1, by omega⟩ ?_
            refine ev_bind0 (within_is _ _ _) ?_
            refine ev_dpos ⟨hb.1, by omega⟩ ?_
            refine ev_neg hab ?_
            exact ev_bind0 (icall_is l a b h5 ha.1 ha.2 hb.1 hb.2) (ev_some _)
      · refine ⟨[], false, by simp, ?_, ?_⟩
        · refine Ev.bind hs (ev_pos rfl ?_)
          refine ev_bind0 (two_is _ _ _) ?_
          exact ev_dneg (fun h => hb ⟨h.2.2.1, h.2.2.2.1⟩) (ev_some _)
        · refine Ev.bind hi (ev_pos rfl ?_)
          rw [ew]
          refine ev_bind0 (within_is _ _ _) ?_
          refine ev_dpos ⟨ha.1, by omega⟩ ?_
          refine ev_bind0 (within_is _ _ _) ?_
          exact ev_dneg (fun h => hb ⟨h.1, by omega⟩) (ev_some _)
    · refine ⟨[], false, by simp, ?_, ?_⟩
      · refine Ev.bind hs (ev_pos rfl ?_)
        refine ev_bind0 (two_is _ _ _) ?_
        exact ev_dneg (fun h => ha ⟨h.1, h.2.1⟩) (ev_some _)
      · refine Ev.bind hi (ev_pos rfl ?_)
        rw [ew]
        refine ev_bind0 (within_is _ _ _) ?_
        exact ev_dneg (fun h => ha ⟨h.1, by omega⟩) (ev_some _)

theorem toIntS_l0 (l : List Int) (hn : l.length ≤ 35184372088832) (d : Nat) : ∀ (i : Nat) (o : List Int), i ≤ l.length → l.length - i = d → o.length = l.length → o.take i = l.take i →
    Ev (fun k => laws_toIntS.l0 k l o i) l := by
  induction d with
  | zero =>
    intro i o h1 hd ho ht
    refine Ev.step (fun k => by rw [laws_toIntS.l0]) (ev_neg (by omega) (ev_eq (ev_some o) ?_))
    rw [List.take_of_length_le (by omega), List.take_of_length_le (by omega)] at ht
    exact ht
  | succ d ih =>
    intro i o h1 hd ho ht
    refine Ev.step (fun k => by rw [laws_toIntS.l0]) (ev_pos (by omega) (ev_pos (by omega) (ev_pos (by omega) ?_)))
    rw [w64 (by omega) (by omega)]
    have e : ((i : Int) + 1) = ((i + 1 : Nat) : Int) := by omega
    rw [e]
    refine ih (i + 1) _ (by omega) (by omega) (by simp [ho]) ?_
    simp only [Int.toNat_natCast]
    rw [List.take_succ_eq_append_getElem (by simp; omega), List.take_succ_eq_append_getElem (by omega), List.take_set_of_le (Nat.le_refl _), ht]
    congr 1
    simp [rd, List.getD_eq_getElem?_getD, List.getElem?_eq_getElem (show i < l.length by omega)]
theorem toIntS_ev (l : List Int) (hn : l.length ≤ 35184372088832) : Ev (fun k => laws_toIntS.f k l) l := by
  unfold laws_toIntS.f
  refine ev_pos (by omega) (ev_pos (by omega) ?_)
  exact toIntS_l0 l hn l.length 0 _ (by omega) (by omega) (by simp) (by simp)

theorem eqIntS_l0 (l m : List Int) (hlm : l.length = m.length) (hn : l.length ≤ 9223372036854775807) (d : Nat) : ∀ i : Int, 0 ≤ i → i ≤ l.length → (l.length : Int) - i = d →
    ∃ b, Ev (fun k => laws_eqIntS.l0 k l m i) b ∧ (b = true ↔ ∀ j : Int, i ≤ j → j < l.length → rd l j = rd m j) := by
  induction d with
  | zero =>
    intro i h0 h1 hd
    exact ⟨true, Ev.step (fun k => by rw [laws_eqIntS.l0]) (ev_neg (by omega) (ev_some true)), ⟨fun _ j _ _ => (by omega), fun _ => rfl⟩⟩
  | succ d ih =>
    intro i h0 h1 hd
    by_cases he : rd l i = rd m i
    · obtain ⟨b, hb, hi⟩ := ih (i + 1) (by omega) (by omega) (by omega)
      refine ⟨b, Ev.step (fun k => by rw [laws_eqIntS.l0]) (ev_pos (by omega) (ev_pos h0 (ev_pos (by omega) (ev_pos he ?_)))), ?_⟩
      · rw [w64 (by omega) (by omega)]; exact hb
      · rw [hi]
        constructor
        · intro h j hj hl
          by_cases e : j = i
          · rw [e]; exact he
          · exact h j (by omega) hl
        · intro h j hj hl
          exact h j (by omega) hl
    · exact ⟨false, Ev.step (fun k => by rw [laws_eqIntS.l0]) (ev_pos (by omega) (ev_pos h0 (ev_pos (by omega) (ev_neg he (ev_some false))))), ⟨fun h => (by cases h), fun h => absurd (h i (by omega) (by omega)) he⟩⟩
theorem eqIntS_ev (l m : List Int) (hn : l.length ≤ 9223372036854775807) : Ev (fun k => laws_eqIntS.f k l m) (decide (l = m)) := by
  unfold laws_eqIntS.f
  by_cases h : l.length = m.length
  · obtain ⟨b, hb, hi⟩ := eqIntS_l0 l m h hn l.length 0 (by omega) (by omega) (by omega)
    refine ev_pos (by omega) (ev_eq hb ?_)
    rw [Bool.eq_iff_iff, hi, decide_eq_true_eq]
    exact ⟨fun hr => ext_rd h (fun i h0 h1 => hr i h0 h1), fun e j _ _ => by rw [e]⟩
  · refine ev_neg (by omega) (ev_eq (ev_some false) ?_)
    symm; rw [decide_eq_false_iff_not]
    intro e; exact h (by rw [e])

theorem markIntS_l0 (n : Nat) (hn : n ≤ 4611686018427387904) (d : Nat) : ∀ (i : Nat) (l : List Int) (a : Int), l.length = n → i ≤ n → n - i = d → -4611686018427387904 ≤ a → a + d ≤ 4611686018427387904 →
    Ev (fun k => laws_markIntS.l0 k l a i) (a + d, l.take i ++ iota a d) := by
  induction d with
  | zero =>
    intro i l a hl h1 hd ha hb
    refine Ev.step (fun k => by rw [laws_markIntS.l0]) (ev_neg (by omega) (ev_eq (ev_some (a, l)) ?_))
    rw [List.take_of_length_le (by omega)]
    simp [iota]
  | succ d ih =>
    intro i l a hl h1 hd ha hb
    refine Ev.step (fun k => by rw [laws_markIntS.l0]) (ev_pos (by omega) (ev_pos (by omega) ?_))
    rw [w64 (x := a + 1) (by omega) (by omega), w64 (by omega) (by omega)]
    have e : ((i : Int) + 1) = ((i + 1 : Nat) : Int) := by omega
    rw [e]
    refine ev_eq (ih (i + 1) _ (a + 1) (by simp [hl]) (by omega) (by omega) (by omega) (by omega)) ?_
    simp only [Int.toNat_natCast]
    rw [List.take_succ_eq_append_getElem (by simp; omega), List.take_set_of_le (Nat.le_refl _)]
    simp [iota]
    omega
theorem markIntS_ev (l : List Int) (a : Int) (hn : l.length ≤ 4611686018427387904) (ha : -4611686018427387904 ≤ a) (hb : a + l.length ≤ 4611686018427387904) :
    Ev (fun k => laws_markIntS.f k l a) (a + l.length, iota a l.length) := by
  unfold laws_markIntS.f
  exact ev_eq (markIntS_l0 l.length hn l.length 0 l a rfl (by omega) (by omega) ha hb) (by simp)

theorem heldIntS_l0 (a0 : Int) (n : Nat) (h0 : -4611686018427387904 ≤ a0) (hb : a0 + n ≤ 4611686018427387904) (hn : n ≤ 4611686018427387904) (d : Nat) : ∀ (i : Nat), i ≤ n → n - i = d →
    Ev (fun k => laws_heldIntS.l0 k (iota a0 n) (a0 + i) i) (a0 + n) := by
  induction d with
  | zero =>
    intro i h1 hd
    refine Ev.step (fun k => by rw [laws_heldIntS.l0]) (ev_neg (by rw [iota_length]; omega) (ev_eq (ev_some _) (by omega)))
  | succ d ih =>
    intro i h1 hd
    refine Ev.step (fun k => by rw [laws_heldIntS.l0]) (ev_pos (by rw [iota_length]; omega) (ev_pos (by omega) (ev_pos (rd_iota _ _ _ (by omega) (by omega)) ?_)))
    rw [w64 (x := a0 + i + 1) (by omega) (by omega), w64 (by omega) (by omega)]
    have e : ((i : Int) + 1) = ((i + 1 : Nat) : Int) := by omega
    have e2 : a0 + (i : Int) + 1 = a0 + ((i + 1 : Nat) : Int) := by omega
    rw [e2, e]
    exact ih (i + 1) (by omega) (by omega)
theorem heldIntS_ev (a : Int) (n : Nat) (ha : -4611686018427387904 ≤ a) (hb : a + n ≤ 4611686018427387904) (hn : n ≤ 4611686018427387904) :
    Ev (fun k => laws_heldIntS.f k (iota a n) a) (a + n) := by
  unfold laws_heldIntS.f
  have := heldIntS_l0 a n ha hb hn n 0 (by omega) (by omega)
  simpa using this

theorem FnExactAfterCall (l : List Int) (a b : Int) (hm : l.length ≤ maxLen) (_ : ∀ x ∈ l, (Lit.int .i64 x).wf = true) (_ : (Lit.int .i64 a).wf = true) (_ : (Lit.int .i64 b).wf = true) : ∃ k, laws_FnExactAfterCall.f k l a b = some true := by
  apply Ev.rounds
  unfold laws_FnExactAfterCall.f
  by_cases hl : (l.length : Int) > 1048576
  · exact ev_pos hl (ev_some _)
  · obtain ⟨r, o, hr, hs, hi⟩ := aftercall_both l a b (by omega)
    have ht := toIntS_ev l (by omega)
    have el := eqIntS_ev l l (by omega)
    have er := eqIntS_ev r r (by omega)
    have ml := markIntS_ev l 1 (by omega) (by omega) (by omega)
    have mr := markIntS_ev r 1 (by omega) (by omega) (by omega)
    have hh := heldIntS_ev 1 r.length (by omega) (by omega) (by omega)
    have tc : laws_toCall.f a b = some (a, b) := rfl
    refine ev_neg hl ?_
    refine Ev.bind ht ?_
    refine ev_bind0 tc ?_
    refine Ev.bind hs ?_
    refine Ev.bind ht ?_
    refine ev_bind0 tc ?_
    refine Ev.bind hi ?_
    refine Ev.bind er ?_
    refine ev_pos (by simp) ?_
    refine Ev.step (fun k => by rw [laws_FnExactAfterCall.j0]) ?_
    refine ev_neg (by simp) ?_
    refine Ev.bind ht ?_
    refine Ev.bind el ?_
    refine ev_pos (by simp) ?_
    refine Ev.bind ml ?_
    refine ev_neg (by simp; omega) ?_
    refine Ev.bind er ?_
    refine ev_pos (by simp) ?_
    refine Ev.step (fun k => by rw [laws_FnExactAfterCall.j1]) ?_
    refine ev_neg (by simp) ?_
    refine Ev.bind mr ?_
    refine Ev.bind hh ?_
    refine ev_neg (by omega) ?_
    refine ev_pos rfl ?_
    refine Ev.bind ht ?_
    refine ev_bind0 tc ?_
    refine Ev.bind hi ?_
    refine Ev.bind er ?_
    refine ev_pos (by simp) ?_
    refine Ev.step (fun k => by rw [laws_FnExactAfterCall.j2]) ?_
    refine ev_neg (by simp) ?_
    refine Ev.bind hh ?_
    refine ev_neg (by omega) ?_
    exact ev_pos rfl (ev_some _)

end Go.Proofs.Ytcdaflkkmgofdaa.Pure
