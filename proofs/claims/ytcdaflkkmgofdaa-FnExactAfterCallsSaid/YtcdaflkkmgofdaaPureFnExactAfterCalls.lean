/-
  FnExactAfterCalls over lists: call by call both are the same good state, or none.
-/
import Derived.Test.YtcdaflkkmgofdaaPFnExactAfterCallsx
import Derived.Test.YtcdaflkkmgofdaaPL
set_option linter.unusedVariables false
set_option linter.unusedSimpArgs false
namespace Go.Proofs.Ytcdaflkkmgofdaa.Pure
open Go.RowKit Go.Proofs.Ytcdaflkkmgofdaa Go.Proofs.Ytcdaflkkmgofdaa.PFnExactAfterCalls Go.Proofs.YtcdaflkkmgofdaaW.PrintWords Go.Proofs.YtcdaflkkmgofdaaW.PrintLast Go.Proofs.YtcdaflkkmgofdaaW.PrintMore Go.Proofs.Ytcdaflkkmgofdaa.PL

theorem shl_is (n : Nat) (h0 : 2 ≤ n) (h1 : n ≤ 5) : wrap64 (shl .i64 1 (n : Int) - 1) = 2 ^ n - 1 ∧ (2 : Int) ^ n ≤ 32 := by
  have : n = 2 ∨ n = 3 ∨ n = 4 ∨ n = 5 := by omega
  rcases this with rfl | rfl | rfl | rfl <;> decide +kernel
/-- One caller's secrets are told right. -/
def FitAt (l : List Int) (i : Int) : Prop := 0 ≤ rd l i ∧ rd l i ≤ 2 ^ l.length - 1 ∧ rd l i / 2 ^ i.toNat % 2 = 1
/-- A good state. -/
def Good (l : List Int) : Prop := 2 ≤ l.length ∧ l.length ≤ 5 ∧ ∀ i : Int, 0 ≤ i → i < l.length → FitAt l i
theorem Good.le31 {l : List Int} (h : Good l) (i : Int) (h0 : 0 ≤ i) (h1 : i < l.length) : 0 ≤ rd l i ∧ rd l i ≤ 31 := by
  obtain ⟨a, b, _⟩ := h.2.2 i h0 h1
  have := (shl_is l.length h.1 h.2.1).2
  omega

/-- The state after a call. -/
def callOf (l : List Int) (a b : Int) : List Int := (l.set a.toNat (Go.bits .or .i64 (rd l a) (rd l b))).set b.toNat (Go.bits .or .i64 (rd l a) (rd l b))
theorem callOf_length (l : List Int) (a b : Int) : (callOf l a b).length = l.length := by simp [callOf]
/-- Two callers of a state. -/
def TwoOf (l : List Int) (a b : Int) : Prop := 0 ≤ a ∧ a < l.length ∧ 0 ≤ b ∧ b < l.length ∧ a ≠ b
instance (l : List Int) (a b : Int) : Decidable (TwoOf l a b) := by unfold TwoOf; infer_instance
/-- What a call makes of a good state. -/
def acOf (l : List Int) (a b : Int) : List Int × Bool := if TwoOf l a b then (callOf l a b, true) else ([], false)
theorem acOf_yes {l : List Int} {a b : Int} (h : TwoOf l a b) : acOf l a b = (callOf l a b, true) := if_pos h
theorem acOf_no {l : List Int} {a b : Int} (h : ¬ TwoOf l a b) : acOf l a b = ([], false) := if_neg h
theorem acOf_length (l : List Int) (a b : Int) (h : l.length ≤ 5) : (acOf l a b).1.length ≤ 5 := by
  unfold acOf
  split
  · rw [callOf_length]; exact h
  · simp

theorem bor_all : ∀ (x y : Fin 32), 0 ≤ Go.bits .or .i64 ((x.val : Nat) : Int) ((y.val : Nat) : Int) ∧ Go.bits .or .i64 ((x.val : Nat) : Int) ((y.val : Nat) : Int) ≤ 31 ∧
    (x.val ≤ 3 → y.val ≤ 3 → Go.bits .or .i64 ((x.val : Nat) : Int) ((y.val : Nat) : Int) ≤ 3) ∧ (x.val ≤ 7 → y.val ≤ 7 → Go.bits .or .i64 ((x.val : Nat) : Int) ((y.val : Nat) : Int) ≤ 7) ∧ (x.val ≤ 15 → y.val ≤ 15 → Go.bits .or .i64 ((x.val : Nat) : Int) ((y.val : Nat) : Int) ≤ 15) ∧
    ∀ i : Fin 5, Go.bits .or .i64 ((x.val : Nat) : Int) ((y.val : Nat) : Int) / 2 ^ i.val % 2 = (if ((x.val : Nat) : Int) / 2 ^ i.val % 2 = 1 ∨ ((y.val : Nat) : Int) / 2 ^ i.val % 2 = 1 then 1 else 0) := by decide +kernel
theorem bor_is (n : Nat) (h2 : 2 ≤ n) (h5 : n ≤ 5) (x y : Int) (hx : 0 ≤ x) (hx2 : x ≤ 2 ^ n - 1) (hy : 0 ≤ y) (hy2 : y ≤ 2 ^ n - 1) : 0 ≤ Go.bits .or .i64 x y ∧ Go.bits .or .i64 x y ≤ 2 ^ n - 1 ∧
    ∀ i : Int, 0 ≤ i → i < 5 → Go.bits .or .i64 x y / 2 ^ i.toNat % 2 = (if x / 2 ^ i.toNat % 2 = 1 ∨ y / 2 ^ i.toNat % 2 = 1 then 1 else 0) := by
  have h32 := (shl_is n h2 h5).2
  obtain ⟨a, b, c3, c7, c15, d⟩ := bor_all ⟨x.toNat, by omega⟩ ⟨y.toNat, by omega⟩
  simp only [Int.toNat_of_nonneg hx, Int.toNat_of_nonneg hy] at a b c3 c7 c15 d
  refine ⟨a, ?_, fun i h0 h1 => ?_⟩
  · have : n = 2 ∨ n = 3 ∨ n = 4 ∨ n = 5 := by omega
    rcases this with rfl | rfl | rfl | rfl
    · simp at hx2 hy2 ⊢; exact c3 (by omega) (by omega)
    · simp at hx2 hy2 ⊢; exact c7 (by omega) (by omega)
    · simp at hx2 hy2 ⊢; exact c15 (by omega) (by omega)
    · simp at hx2 hy2 ⊢; exact b
  · exact d ⟨i.toNat, by omega⟩
theorem rd_set (l : List Int) (j : Int) (x : Int) (i : Int) (h0 : 0 ≤ i) (h1 : i < l.length) (hj : 0 ≤ j) : rd (l.set j.toNat x) i = if i = j then x else rd l i := by
  unfold rd
  simp only [List.getD_eq_getElem?_getD, List.getElem?_set]
  by_cases e : i = j
  · subst e
    rw [if_pos rfl, if_pos rfl, if_pos (by omega)]
    rfl
  · rw [if_neg (by omega), if_neg e]
theorem callOf_rd (l : List Int) (a b i : Int) (ha : 0 ≤ a) (ha2 : a < l.length) (hb : 0 ≤ b) (hb2 : b < l.length) (h0 : 0 ≤ i) (h1 : i < l.length) :
    rd (callOf l a b) i = if i = a ∨ i = b then Go.bits .or .i64 (rd l a) (rd l b) else rd l i := by
  unfold callOf
  rw [rd_set _ _ _ _ h0 (by simpa using h1) hb, rd_set _ _ _ _ h0 h1 ha]
  by_cases e : i = b
  · simp [e]
  · by_cases e' : i = a
    · simp [e']
    · simp [e, e']
theorem Good.call {l : List Int} (h : Good l) (a b : Int) (ha : 0 ≤ a) (ha2 : a < l.length) (hb : 0 ≤ b) (hb2 : b < l.length) : Good (callOf l a b) := by
  refine ⟨by rw [callOf_length]; exact h.1, by rw [callOf_length]; exact h.2.1, fun i h0 h1 => ?_⟩
  rw [callOf_length] at h1
  unfold FitAt
  rw [callOf_length, callOf_rd l a b i ha ha2 hb hb2 h0 h1]
  obtain ⟨a0, a1, a2⟩ := h.2.2 a ha ha2
  obtain ⟨b0, b1, b2⟩ := h.2.2 b hb hb2
  obtain ⟨c0, c1, c2⟩ := bor_is l.length h.1 h.2.1 _ _ a0 a1 b0 b1
  by_cases e : i = a ∨ i = b
  · rw [if_pos e]
    refine ⟨c0, c1, ?_⟩
    have h5 := h.2.1
    rw [c2 i h0 (by omega)]
    rcases e with rfl | rfl
    · rw [if_pos (.inl a2)]
    · rw [if_pos (.inr b2)]
  · rw [if_neg e]
    exact h.2.2 i h0 h1

theorem within_is (a b c : Int) : impl_within.f a b c = some (decide (b ≤ a ∧ a ≤ c)) := by
  unfold impl_within.f
  by_cases h : b ≤ a <;> simp [h]

theorem icallers_is (a : Int) : impl_CallersOk.f a = some (decide (2 ≤ a ∧ a ≤ 5)) := by
  unfold impl_CallersOk.f; rw [within_is]; rfl

theorem l01In_is (a b c : Int) : spec_l01In.f a b c = some (decide (b ≤ a ∧ a ≤ c)) := by
  unfold spec_l01In.f
  by_cases h : b ≤ a <;> simp [h]

theorem scallers_is (a : Int) : spec_CallersOk.f a = some (decide (2 ≤ a ∧ a ≤ 5)) := by
  unfold spec_CallersOk.f; rw [l01In_is]; rfl

theorem first_no (a0 : Int) (h : ¬ (2 ≤ a0 ∧ a0 ≤ 5)) : Ev (fun k => spec_FirstState.f k a0) [] ∧ Ev (fun k => impl_FirstState.f k a0) [] := by
  unfold spec_FirstState.f impl_FirstState.f
  exact ⟨ev_bind0 (scallers_is _) (ev_dneg h (ev_some _)), ev_bind0 (icallers_is _) (ev_dneg h (ev_some _))⟩
/-- Each caller's own secret. -/
def firstOf (n : Int) : List Int := if n = 2 then [1, 2] else if n = 3 then [1, 2, 4] else if n = 4 then [1, 2, 4, 8] else [1, 2, 4, 8, 16]
theorem firstOf_length (n : Int) (h : 2 ≤ n ∧ n ≤ 5) : ((firstOf n).length : Int) = n := by
  have : n = 2 ∨ n = 3 ∨ n = 4 ∨ n = 5 := by omega
  rcases this with rfl | rfl | rfl | rfl <;> decide +kernel
theorem first_yes (n : Int) (h : 2 ≤ n ∧ n ≤ 5) : Ev (fun k => spec_FirstState.f k n) (firstOf n) ∧ Ev (fun k => impl_FirstState.f k n) (firstOf n) := by
  have : n = 2 ∨ n = 3 ∨ n = 4 ∨ n = 5 := by omega
  rcases this with rfl | rfl | rfl | rfl
  all_goals exact ⟨Ev.of (spec_FirstState.mono _) (k := 20) (by decide +kernel), Ev.of (impl_FirstState.mono _) (k := 20) (by decide +kernel)⟩
instance (l : List Int) (i : Int) : Decidable (FitAt l i) := by unfold FitAt; infer_instance
theorem good_of_all (l : List Int) (h2 : 2 ≤ l.length) (h5 : l.length ≤ 5) (h : ∀ i : Fin 5, i.val < l.length → FitAt l (i.val : Int)) : Good l :=
  ⟨h2, h5, fun i h0 h1 => by
    have := h ⟨i.toNat, by omega⟩ (by show i.toNat < _; omega)
    simpa only [Int.toNat_of_nonneg h0] using this⟩
theorem first_good (n : Int) (h : 2 ≤ n ∧ n ≤ 5) : Good (firstOf n) := by
  have : n = 2 ∨ n = 3 ∨ n = 4 ∨ n = 5 := by omega
  rcases this with rfl | rfl | rfl | rfl
  all_goals exact good_of_all _ (by decide +kernel) (by decide +kernel) (by decide +kernel)

theorem two_is (n a b : Int) : spec_l14Two.f n a b = some (decide (0 ≤ a ∧ a < n ∧ 0 ≤ b ∧ b < n ∧ a ≠ b)) := by
  unfold spec_l14Two.f
  simp only [ge_iff_le]
  by_cases h1 : 0 ≤ a
  · by_cases h2 : a < n
    · by_cases h3 : 0 ≤ b
      · by_cases h4 : b < n
        · by_cases h5 : a = b <;> simp [h1, h2, h3, h4, h5]
        · simp [h1, h2, h3, h4]
      · simp [h1, h2, h3]
    · simp [h1, h2]
  · simp [h1]

theorem scall_is (l : List Int) (a b : Int) (hl : l.length ≤ 5) (ha : 0 ≤ a) (ha2 : a < l.length) (hb : 0 ≤ b) (hb2 : b < l.length) : spec_l14Call.f l a b = some (callOf l a b) := by
  unfold spec_l14Call.f
  simp only [Option.bind_some, List.nil_append, List.length_nil]
  rw [if_pos (by omega), if_pos ha, if_pos ha2, if_pos hb, if_pos hb2, if_pos ha2, if_pos hb2]
  rfl

theorem bits_alike : ∀ (n : Fin 32) (i : Fin 5), (Go.bits .and .i64 (shr .i64 ((n.val : Nat) : Int) ((i.val : Nat) : Int)) 1 = 0) = ¬ (((n.val : Nat) : Int) / 2 ^ i.val % 2 = 1) := by decide +kernel
theorem bits_are (x i : Int) (h0 : 0 ≤ x) (h1 : x ≤ 31) (i0 : 0 ≤ i) (i1 : i < 5) : (Go.bits .and .i64 (shr .i64 x i) 1 = 0) = ¬ (x / 2 ^ i.toNat % 2 = 1) := by
  have := bits_alike ⟨x.toNat, by omega⟩ ⟨i.toNat, by omega⟩
  simp only [Int.toNat_of_nonneg h0, Int.toNat_of_nonneg i0] at this
  exact this
theorem istates (l : List Int) (h2 : 2 ≤ l.length) (h5 : l.length ≤ 5) (d : Nat) : ∀ i : Int, 0 ≤ i → i ≤ l.length → (l.length : Int) - i = d →
    ∃ b, Ev (fun k => impl_StateOk.l0 k l l l.length i) b ∧ (b = true ↔ ∀ j : Int, i ≤ j → j < l.length → FitAt l j) := by
  induction d with
  | zero =>
    intro i h0 h1 hd
    exact ⟨true, Ev.step (fun k => by rw [impl_StateOk.l0]) (ev_neg (by omega) (ev_some _)), ⟨fun _ j _ _ => (by omega), fun _ => rfl⟩⟩
  | succ d ih =>
    intro i h0 h1 hd
    obtain ⟨b, hi, hb⟩ := ih (i + 1) (by omega) (by omega) (by omega)
    obtain ⟨hm, hm2⟩ := shl_is l.length h2 h5
    have ew : wrap64 (i + 1) = i + 1 := w64 (by omega) (by omega)
    rw [← ew] at hi
    by_cases hin : 0 ≤ rd l i ∧ rd l i ≤ wrap64 (shl .i64 1 (l.length : Int) - 1)
    · have hbb := bits_are (rd l i) i hin.1 (by omega) h0 (by omega)
      by_cases hbit : rd l i / 2 ^ i.toNat % 2 = 1
      · have hn : ¬ (Go.bits .and .i64 (shr .i64 (rd l i) i) 1 = 0) := by rw [hbb]; simpa using hbit
        refine ⟨b, ?_, ?_⟩
        · refine Ev.step (fun k => by rw [impl_StateOk.l0]) ?_
          refine ev_pos (by omega) ?_
          refine ev_pos h0 ?_
          refine ev_pos (by omega) ?_
          refine ev_bind0 (within_is _ _ _) ?_
          refine ev_dpos hin ?_
          exact ev_neg hn hi
        · rw [hb]
          constructor
          · intro h j hj hl
            by_cases e : j = i
            · rw [e]; exact ⟨hin.1, by rw [← hm]; exact hin.2, hbit⟩
            · exact h j (by omega) hl
          · intro h j hj hl
            exact h j (by omega) hl
      · have hp : Go.bits .and .i64 (shr .i64 (rd l i) i) 1 = 0 := by rw [hbb]; exact hbit
        refine ⟨false, ?_, ⟨fun h => (by cases h), fun h => absurd (h i (by omega) (by omega)).2.2 hbit⟩⟩
        refine Ev.step (fun k => by rw [impl_StateOk.l0]) ?_
        refine ev_pos (by omega) ?_
        refine ev_pos h0 ?_
        refine ev_pos (by omega) ?_
        refine ev_bind0 (within_is _ _ _) ?_
        refine ev_dpos hin ?_
        exact ev_pos hp (ev_some _)
    · refine ⟨false, ?_, ⟨fun h => (by cases h), fun h => absurd ⟨(h i (by omega) (by omega)).1, by rw [hm]; exact (h i (by omega) (by omega)).2.1⟩ hin⟩⟩
      refine Ev.step (fun k => by rw [impl_StateOk.l0]) ?_
      refine ev_pos (by omega) ?_
      refine ev_pos h0 ?_
      refine ev_pos (by omega) ?_
      refine ev_bind0 (within_is _ _ _) ?_
      exact ev_dneg hin (ev_some _)
theorem istate_is (l : List Int) (hl : l.length ≤ 4611686018427387904) : ∃ b, Ev (fun k => impl_StateOk.f k l) b ∧ (b = true ↔ Good l) := by
  unfold impl_StateOk.f
  by_cases h : 2 ≤ (l.length : Int) ∧ (l.length : Int) ≤ 5
  · obtain ⟨b, hi, hb⟩ := istates l (by omega) (by omega) l.length 0 (by omega) (by omega) (by omega)
    refine ⟨b, ev_bind0 (icallers_is _) (ev_dpos h hi), ?_⟩
    rw [hb]
    exact ⟨fun hf => ⟨by omega, by omega, hf⟩, fun hg => hg.2.2⟩
  · exact ⟨false, ev_bind0 (icallers_is _) (ev_dneg h (ev_some _)), ⟨fun h => (by cases h), fun hg => absurd (show 2 ≤ (l.length : Int) ∧ (l.length : Int) ≤ 5 from ⟨by have := hg.1; omega, by have := hg.2.1; omega⟩) h⟩⟩
theorem igood_ok {l : List Int} (h : Good l) : Ev (fun k => impl_StateOk.f k l) true := by
  obtain ⟨b, hi, hb⟩ := istate_is l (by have := h.2.1; omega)
  rw [← hb.2 h]
  exact hi

theorem icall_is (l : List Int) (a b : Int) (hl : l.length ≤ 5) (ha : 0 ≤ a) (ha2 : a < l.length) (hb : 0 ≤ b) (hb2 : b < l.length) : impl_called.f l a b = some (callOf l a b) := by
  unfold impl_called.f H.slices_Clone_int_int.f
  rw [if_pos (by omega)]
  simp only [Option.bind_some]
  rw [if_pos ha, if_pos ha2, if_pos hb, if_pos hb2, if_pos ha2, if_pos hb2]
  rfl

theorem iafter_good (l : List Int) (a b : Int) (hg : Good l) (hi : Ev (fun k => impl_StateOk.f k l) true) : Ev (fun k => impl_AfterCall.f k l a b) (acOf l a b) := by
  unfold impl_AfterCall.f
  have h2 := hg.1
  have h5 := hg.2.1
  have ew : wrap64 ((l.length : Int) - 1) = (l.length : Int) - 1 := w64 (by omega) (by omega)
  refine Ev.bind hi (ev_pos rfl ?_)
  rw [ew]
  refine ev_bind0 (within_is _ _ _) ?_
  by_cases ha : 0 ≤ a ∧ a ≤ (l.length : Int) - 1
  · refine ev_dpos ha ?_
    refine ev_bind0 (within_is _ _ _) ?_
    by_cases hb : 0 ≤ b ∧ b ≤ (l.length : Int) - 1
    · refine ev_dpos hb ?_
      by_cases hab : a = b
      · rw [acOf_no (fun h => h.2.2.2.2 hab)]
        exact ev_pos hab (ev_some _)
      · rw [acOf_yes ⟨ha.1, by omega, hb.1, by omega, hab⟩]
        refine ev_neg hab ?_
        exact ev_bind0 (icall_is l a b h5 ha.1 (by omega) hb.1 (by omega)) (ev_some _)
    · rw [acOf_no (fun h => hb ⟨h.2.2.1, by have := h.2.2.2.1; omega⟩)]
      exact ev_dneg hb (ev_some _)
  · rw [acOf_no (fun h => ha ⟨h.1, by have := h.2.1; omega⟩)]
    exact ev_dneg ha (ev_some _)

theorem aftercalls_loops (n : Int) (hn : 2 ≤ n ∧ n ≤ 5) (l : List S44) (hl : l.length ≤ 40) (d : Nat) : ∀ (i : Int) (s : List Int), 0 ≤ i → i ≤ l.length → (l.length : Int) - i = d → Good s → (s.length : Int) = n →
    ∃ r o, r.length ≤ 5 ∧ (o = true → Good r ∧ (r.length : Int) = n) ∧ Ev (fun k => spec_AfterCalls.l0 k n s l l.length i) (r, o) ∧ Ev (fun k => impl_AfterCalls.l0 k s l l.length i) (r, o) := by
  induction d with
  | zero =>
    intro i s h0 h1 hd hg hs
    exact ⟨s, true, hg.2.1, fun _ => ⟨hg, hs⟩, Ev.step (fun k => by rw [spec_AfterCalls.l0]) (ev_neg (by omega) (ev_some _)), Ev.step (fun k => by rw [impl_AfterCalls.l0]) (ev_neg (by omega) (ev_some _))⟩
  | succ d ih =>
    intro i s h0 h1 hd hg hs
    have h5 := hg.2.1
    have ew : wrap64 (i + 1) = i + 1 := w64 (by omega) (by omega)
    have hi := iafter_good s (rd_T44 l i).f0 (rd_T44 l i).f1 hg (igood_ok hg)
    by_cases ht : TwoOf s (rd_T44 l i).f0 (rd_T44 l i).f1
    · rw [acOf_yes ht] at hi
      obtain ⟨r, o, hr, ho, es, ei⟩ := ih (i + 1) (callOf s (rd_T44 l i).f0 (rd_T44 l i).f1) (by omega) (by omega) (by omega) (hg.call _ _ ht.1 ht.2.1 ht.2.2.1 ht.2.2.2.1) (by rw [callOf_length]; exact hs)
      refine ⟨r, o, hr, ho, ?_, ?_⟩
      · refine Ev.step (fun k => by rw [spec_AfterCalls.l0]) ?_
        refine ev_pos (by omega) ?_
        refine ev_pos h0 ?_
        refine ev_pos (by omega) ?_
        refine ev_bind0 (two_is _ _ _) ?_
        refine ev_dpos ⟨ht.1, by have := ht.2.1; omega, ht.2.2.1, by have := ht.2.2.2.1; omega, ht.2.2.2.2⟩ ?_
        refine ev_bind0 (scall_is s _ _ h5 ht.1 ht.2.1 ht.2.2.1 ht.2.2.2.1) ?_
        rw [ew]; exact es
      · refine Ev.step (fun k => by rw [impl_AfterCalls.l0]) ?_
        refine ev_pos (by omega) ?_
        refine ev_pos h0 ?_
        refine ev_pos (by omega) ?_
        refine Ev.bind hi ?_
        refine ev_pos rfl ?_
        rw [ew]; exact ei
    · rw [acOf_no ht] at hi
      refine ⟨[], false, by simp, fun h => (by cases h), ?_, ?_⟩
      · refine Ev.step (fun k => by rw [spec_AfterCalls.l0]) ?_
        refine ev_pos (by omega) ?_
        refine ev_pos h0 ?_
        refine ev_pos (by omega) ?_
        refine ev_bind0 (two_is _ _ _) ?_
        exact ev_dneg (fun h => ht ⟨h.1, by have := h.2.1; omega, h.2.2.1, by have := h.2.2.2.1; omega, h.2.2.2.2⟩) (ev_some _)
      · refine Ev.step (fun k => by rw [impl_AfterCalls.l0]) ?_
        refine ev_pos (by omega) ?_
        refine ev_pos h0 ?_
        refine ev_pos (by omega) ?_
        refine Ev.bind hi ?_
        exact ev_neg (by simp) (ev_some _)
theorem aftercalls_both (n : Int) (l : List S44) : ∃ r o, r.length ≤ 5 ∧ Ev (fun k => spec_AfterCalls.f k n l) (r, o) ∧ Ev (fun k => impl_AfterCalls.f k n l) (r, o) := by
  unfold spec_AfterCalls.f impl_AfterCalls.f
  by_cases hn : 2 ≤ n ∧ n ≤ 5
  · by_cases hl : (l.length : Int) > 40
    · exact ⟨[], false, by simp, ev_bind0 (scallers_is _) (ev_dpos hn (Ev.step (fun k => by rw [spec_AfterCalls.j0]) (ev_dpos hl (ev_some _)))), ev_bind0 (icallers_is _) (ev_dpos hn (Ev.step (fun k => by rw [impl_AfterCalls.j0]) (ev_dpos hl (ev_some _))))⟩
    · obtain ⟨r, o, hr, _, hs, hi⟩ := aftercalls_loops n hn l (by omega) l.length 0 (firstOf n) (by omega) (by omega) (by omega) (first_good n hn) (firstOf_length n hn)
      exact ⟨r, o, hr, ev_bind0 (scallers_is _) (ev_dpos hn (Ev.step (fun k => by rw [spec_AfterCalls.j0]) (ev_dneg hl (Ev.bind (first_yes n hn).1 hs)))), ev_bind0 (icallers_is _) (ev_dpos hn (Ev.step (fun k => by rw [impl_AfterCalls.j0]) (ev_dneg hl (Ev.bind (first_yes n hn).2 hi))))⟩
  · exact ⟨[], false, by simp, ev_bind0 (scallers_is _) (ev_dneg hn (Ev.step (fun k => by rw [spec_AfterCalls.j0]) (ev_pos rfl (ev_some _)))), ev_bind0 (icallers_is _) (ev_dneg hn (Ev.step (fun k => by rw [impl_AfterCalls.j0]) (ev_pos rfl (ev_some _))))⟩

theorem eqCall_is (a b c d : Int) : laws_eqCall.f a b c d = some (decide (a = c ∧ b = d)) := by
  unfold laws_eqCall.f
  by_cases h : a = c <;> by_cases h' : b = d <;> simp [h, h']
theorem rdC_eq {l : List S44} {i : Int} (h0 : 0 ≤ i) (h1 : i < l.length) : l[i.toNat]? = some (rd_T44 l i) := by
  unfold rd_T44
  rw [List.getD_eq_getElem?_getD, List.getElem?_eq_getElem (by omega)]
  rfl
theorem eqCallS_l0 (l : List S44) (hn : l.length ≤ 9223372036854775807) (d : Nat) : ∀ i : Int, 0 ≤ i → i ≤ l.length → (l.length : Int) - i = d → Ev (fun k => laws_eqCallS.l0 k l l i) true := by
  induction d with
  | zero =>
    intro i h0 h1 hd
    exact Ev.step (fun k => by rw [laws_eqCallS.l0]) (ev_neg (by omega) (ev_some true))
  | succ d ih =>
    intro i h0 h1 hd
    have := ih (i + 1) (by omega) (by omega) (by omega)
    refine Ev.step (fun k => by rw [laws_eqCallS.l0]) ?_
    refine ev_pos (by omega) ?_
    refine ev_pos h0 ?_
    refine ev_pos (by omega) ?_
    refine ev_bind0 (eqCall_is _ _ _ _) ?_
    refine ev_dpos ⟨rfl, rfl⟩ ?_
    rw [w64 (by omega) (by omega)]; exact this
theorem eqCallS_ev (l : List S44) (hn : l.length ≤ 9223372036854775807) : Ev (fun k => laws_eqCallS.f k l l) true := by
  unfold laws_eqCallS.f
  exact ev_pos rfl (eqCallS_l0 l hn l.length 0 (by omega) (by omega) (by omega))

/-- A call of the laws' as the program's own. -/
def asCall (x : S40) : S44 := ⟨x.f0, x.f1⟩
theorem toCallS_l0 (l : List S40) (hn : l.length ≤ 17592186044416) (d : Nat) : ∀ (i : Nat) (o : List S44), i ≤ l.length → l.length - i = d → o.length = l.length → o.take i = (l.map asCall).take i →
    Ev (fun k => laws_toCallS.l0 k l o i) (l.map asCall) := by
  induction d with
  | zero =>
    intro i o h1 hd ho ht
    refine Ev.step (fun k => by rw [laws_toCallS.l0]) (ev_neg (by omega) (ev_eq (ev_some o) ?_))
    rw [List.take_of_length_le (by omega), List.take_of_length_le (by simp; omega)] at ht
    exact ht
  | succ d ih =>
    intro i o h1 hd ho ht
    refine Ev.step (fun k => by rw [laws_toCallS.l0]) ?_
    refine ev_pos (by omega) ?_
    refine ev_pos (by omega) ?_
    refine ev_bind0 (laws_toCall.f.eq_1 _ _) ?_
    refine ev_pos (by omega) ?_
    rw [w64 (by omega) (by omega)]
    have e : ((i : Int) + 1) = ((i + 1 : Nat) : Int) := by omega
    rw [e]
    refine ih (i + 1) _ (by omega) (by omega) (by simp [ho]) ?_
    simp only [Int.toNat_natCast]
    rw [List.take_succ_eq_append_getElem (by simp; omega), List.take_succ_eq_append_getElem (by simp; omega), List.take_set_of_le (Nat.le_refl _), ht]
    congr 1
    simp [rd_T40, asCall, List.getD_eq_getElem?_getD, List.getElem?_eq_getElem (show i < l.length by omega)]
theorem toCallS_ev (l : List S40) (hn : l.length ≤ 17592186044416) : Ev (fun k => laws_toCallS.f k l) (l.map asCall) := by
  unfold laws_toCallS.f
  refine ev_pos (by omega) ?_
  refine ev_pos (by omega) ?_
  exact toCallS_l0 l hn l.length 0 _ (by omega) (by omega) (by simp) (by simp)

/-- The marks of a list of calls. -/
def cmarks (a : Int) : Nat → List S44
  | 0 => []
  | n + 1 => ⟨a, a + 1⟩ :: cmarks (a + 2) n
theorem cmarks_length (a : Int) (n : Nat) : (cmarks a n).length = n := by
  induction n generalizing a with
  | zero => rfl
  | succ n ih => simp [cmarks, ih]
theorem markCallS_l0 (n : Nat) (hn : n ≤ 1152921504606846976) (d : Nat) : ∀ (i : Nat) (l : List S44) (a : Int), l.length = n → i ≤ n → n - i = d → 0 ≤ a → a + 2 * d ≤ 4611686018427387904 →
    Ev (fun k => laws_markCallS.l0 k l a i) (a + 2 * d, l.take i ++ cmarks a d) := by
  induction d with
  | zero =>
    intro i l a hl h1 hd ha hb
    refine Ev.step (fun k => by rw [laws_markCallS.l0]) (ev_neg (by omega) (ev_eq (ev_some (a, l)) ?_))
    rw [List.take_of_length_le (by omega)]
    simp [cmarks]
  | succ d ih =>
    intro i l a hl h1 hd ha hb
    refine Ev.step (fun k => by rw [laws_markCallS.l0]) ?_
    refine ev_pos (by omega) ?_
    refine ev_pos (by omega) ?_
    refine ev_bind0 rfl ?_
    rw [w64 (x := a + 1) (by omega) (by omega), w64 (x := a + 1 + 1) (by omega) (by omega), w64 (x := (i : Int) + 1) (by omega) (by omega)]
    have e : ((i : Int) + 1) = ((i + 1 : Nat) : Int) := by omega
    have e2 : a + 1 + 1 = a + 2 := by omega
    rw [e, e2]
    refine ev_eq (ih (i + 1) _ (a + 2) (by simp [hl]) (by omega) (by omega) (by omega) (by omega)) ?_
    simp only [Int.toNat_natCast]
    have hrd : (rd_T44 (l.set i ⟨a, (rd_T44 l (i : Int)).f1⟩) (i : Int)).f0 = a := by
      unfold rd_T44
      simp [List.getD_eq_getElem?_getD, List.getElem?_set, hl, show i < n by omega]
    rw [hrd, List.set_set, List.take_succ_eq_append_getElem (by simp; omega), List.take_set_of_le (Nat.le_refl _)]
    simp [cmarks]
    omega
theorem markCallS_ev (l : List S44) (a : Int) (hn : l.length ≤ 1152921504606846976) (ha : 0 ≤ a) (hb : a + 2 * l.length ≤ 4611686018427387904) :
    Ev (fun k => laws_markCallS.f k l a) (a + 2 * l.length, cmarks a l.length) := by
  unfold laws_markCallS.f
  exact ev_eq (markCallS_l0 l.length hn l.length 0 l a rfl (by omega) (by omega) ha hb) (by simp)

theorem eqIntS_l0 (l m : List Int) (hlm : l.length = m.length) (hn : l.length ≤ 9223372036854775807) (d : Nat) : ∀ i : Int, 0 ≤ i → i ≤ l.length → (l.length : Int) - i = d →
    ∃ b, Ev (fun k => laws_eqIntS.l0 k l m i) b ∧ (b = true ↔ ∀ j : Int, i ≤ j → j < l.length → rd l j = rd m j) := by
  induction d with
  | zero =>
    intro i h0 h1 hd
    exact ⟨true, Ev.step (fun k => by rw [laws_eqIntS.l0]) (ev_neg (by omega) (ev_some true)), ⟨fun _ j _ _ => (by omega), fun _ => rfl⟩⟩
  | succ d ih =>
    intro i h0 h1 hd
    by_cases he : rd l i = rd m i
    · obtain ⟨b, hb, hi⟩ := ih (i + 1) (by omega) (by omega) (by omega)
      refine ⟨b, Ev.step (fun k => by rw [laws_eqIntS.l0]) (ev_pos (by omega) (ev_pos h0 (ev_pos (by omega) (ev_pos he ?_)))), ?_⟩
      · rw [w64 (by omega) (by omega)]; exact hb
      · rw [hi]
        constructor
        · intro h j hj hl
          by_cases e : j = i
          · rw [e]; exact he
          · exact h j (by omega) hl
        · intro h j hj hl
          exact h j (by omega) hl
    · exact ⟨false, Ev.step (fun k => by rw [laws_eqIntS.l0]) (ev_pos (by omega) (ev_pos h0 (ev_pos (by omega) (ev_neg he (ev_some false))))), ⟨fun h => (by cases h), fun h => absurd (h i (by omega) (by omega)) he⟩⟩
theorem eqIntS_ev (l m : List Int) (hn : l.length ≤ 9223372036854775807) : Ev (fun k => laws_eqIntS.f k l m) (decide (l = m)) := by
  unfold laws_eqIntS.f
  by_cases h : l.length = m.length
  · obtain ⟨b, hb, hi⟩ := eqIntS_l0 l m h hn l.length 0 (by omega) (by omega) (by omega)
    refine ev_pos (by omega) (ev_eq hb ?_)
    rw [Bool.eq_iff_iff, hi, decide_eq_true_eq]
    exact ⟨fun hr => ext_rd h (fun i h0 h1 => hr i h0 h1), fun e j _ _ => by rw [e]⟩
  · refine ev_neg (by omega) (ev_eq (ev_some false) ?_)
    symm; rw [decide_eq_false_iff_not]
    intro e; exact h (by rw [e])

theorem markIntS_l0 (n : Nat) (hn : n ≤ 4611686018427387904) (d : Nat) : ∀ (i : Nat) (l : List Int) (a : Int), l.length = n → i ≤ n → n - i = d → -4611686018427387904 ≤ a → a + d ≤ 4611686018427387904 →
    Ev (fun k => laws_markIntS.l0 k l a i) (a + d, l.take i ++ iota a d) := by
  induction d with
  | zero =>
    intro i l a hl h1 hd ha hb
    refine Ev.step (fun k => by rw [laws_markIntS.l0]) (ev_neg (by omega) (ev_eq (ev_some (a, l)) ?_))
    rw [List.take_of_length_le (by omega)]
    simp [iota]
  | succ d ih =>
    intro i l a hl h1 hd ha hb
    refine Ev.step (fun k => by rw [laws_markIntS.l0]) (ev_pos (by omega) (ev_pos (by omega) ?_))
    rw [w64 (x := a + 1) (by omega) (by omega), w64 (by omega) (by omega)]
    have e : ((i : Int) + 1) = ((i + 1 : Nat) : Int) := by omega
    rw [e]
    refine ev_eq (ih (i + 1) _ (a + 1) (by simp [hl]) (by omega) (by omega) (by omega) (by omega)) ?_
    simp only [Int.toNat_natCast]
    rw [List.take_succ_eq_append_getElem (by simp; omega), List.take_set_of_le (Nat.le_refl _)]
    simp [iota]
    omega
theorem markIntS_ev (l : List Int) (a : Int) (hn : l.length ≤ 4611686018427387904) (ha : -4611686018427387904 ≤ a) (hb : a + l.length ≤ 4611686018427387904) :
    Ev (fun k => laws_markIntS.f k l a) (a + l.length, iota a l.length) := by
  unfold laws_markIntS.f
  exact ev_eq (markIntS_l0 l.length hn l.length 0 l a rfl (by omega) (by omega) ha hb) (by simp)

theorem heldIntS_l0 (a0 : Int) (n : Nat) (h0 : -4611686018427387904 ≤ a0) (hb : a0 + n ≤ 4611686018427387904) (hn : n ≤ 4611686018427387904) (d : Nat) : ∀ (i : Nat), i ≤ n → n - i = d →
    Ev (fun k => laws_heldIntS.l0 k (iota a0 n) (a0 + i) i) (a0 + n) := by
  induction d with
  | zero =>
    intro i h1 hd
    refine Ev.step (fun k => by rw [laws_heldIntS.l0]) (ev_neg (by rw [iota_length]; omega) (ev_eq (ev_some _) (by omega)))
  | succ d ih =>
    intro i h1 hd
    refine Ev.step (fun k => by rw [laws_heldIntS.l0]) (ev_pos (by rw [iota_length]; omega) (ev_pos (by omega) (ev_pos (rd_iota _ _ _ (by omega) (by omega)) ?_)))
    rw [w64 (x := a0 + i + 1) (by omega) (by omega), w64 (by omega) (by omega)]
    have e : ((i : Int) + 1) = ((i + 1 : Nat) : Int) := by omega
    have e2 : a0 + (i : Int) + 1 = a0 + ((i + 1 : Nat) : Int) := by omega
    rw [e2, e]
    exact ih (i + 1) (by omega) (by omega)
theorem heldIntS_ev (a : Int) (n : Nat) (ha : -4611686018427387904 ≤ a) (hb : a + n ≤ 4611686018427387904) (hn : n ≤ 4611686018427387904) :
    Ev (fun k => laws_heldIntS.f k (iota a n) a) (a + n) := by
  unfold laws_heldIntS.f
  have := heldIntS_l0 a n ha hb hn n 0 (by omega) (by omega)
  simpa using this

theorem szCallS_is (l : List S40) (h : (l.length : Int) ≤ 9223372036854775807) : laws_szCallS.f l 1048576 = some (if 1048576 - (l.length : Int) < 0 then (-1 : Int) else (1048576 - (l.length : Int) : Int)) := by
  unfold laws_szCallS.f
  rw [w64 (by omega) (by omega)]
  split <;> rfl
theorem FnExactAfterCalls (n : Int) (l : List S40) (_ : (Lit.int .i64 n).wf = true) (hm : l.length ≤ maxLen) (_ : ∀ x ∈ l, (Lit.int .i64 x.f0).wf = true ∧ (Lit.int .i64 x.f1).wf = true) : ∃ k, laws_FnExactAfterCalls.f k n l = some true := by
  apply Ev.rounds
  unfold laws_FnExactAfterCalls.f
  have hml : maxLen = 9223372036854775807 := rfl
  refine ev_bind0 (szCallS_is l (by omega)) ?_
  by_cases hl : 1048576 - (l.length : Int) < 0
  · rw [if_pos hl]
    exact ev_pos (by omega) (ev_some _)
  · rw [if_neg hl]
    refine ev_neg hl ?_
    obtain ⟨r, o, hr, hs, hi⟩ := aftercalls_both n (l.map asCall)
    have ht := toCallS_ev l (by omega)
    have hlm : (l.map asCall).length = l.length := by simp
    have el := eqCallS_ev (l.map asCall) (by omega)
    have er := eqIntS_ev r r (by omega)
    have ml := markCallS_ev (l.map asCall) 1 (by omega) (by omega) (by omega)
    have mr := markIntS_ev r 1 (by omega) (by omega) (by omega)
    have hh := heldIntS_ev 1 r.length (by omega) (by omega) (by omega)
    refine Ev.bind ht ?_
    refine Ev.bind hs ?_
    refine Ev.bind ht ?_
    refine Ev.bind hi ?_
    refine Ev.bind er ?_
    refine ev_pos (by simp) ?_
    refine Ev.step (fun k => by rw [laws_FnExactAfterCalls.j0]) ?_
    refine ev_neg (by simp) ?_
    refine Ev.bind ht ?_
    refine Ev.bind el ?_
    refine ev_pos (by simp) ?_
    refine Ev.bind ml ?_
    refine ev_neg (by simp; omega) ?_
    refine Ev.bind er ?_
    refine ev_pos (by simp) ?_
    refine Ev.step (fun k => by rw [laws_FnExactAfterCalls.j1]) ?_
    refine ev_neg (by simp) ?_
    refine Ev.bind mr ?_
    refine Ev.bind hh ?_
    refine ev_neg (by omega) ?_
    refine ev_pos rfl ?_
    refine Ev.bind ht ?_
    refine Ev.bind hi ?_
    refine Ev.bind er ?_
    refine ev_pos (by simp) ?_
    refine Ev.step (fun k => by rw [laws_FnExactAfterCalls.j2]) ?_
    refine ev_neg (by simp) ?_
    refine Ev.bind hh ?_
    refine ev_neg (by omega) ?_
    exact ev_pos rfl (ev_some _)

end Go.Proofs.Ytcdaflkkmgofdaa.Pure
