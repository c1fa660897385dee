/-
  FnExactNewCalls over lists: both are the same calls of a good state, or none.
-/
import Derived.Test.YthibhcohcbgdpaaPFnExactNewCallsx
import Derived.Test.YthibhcohcbgdpaaPL
set_option linter.unusedVariables false
set_option linter.unusedSimpArgs false
namespace Go.Proofs.Ythibhcohcbgdpaa.Pure
open Go.RowKit Go.Proofs.Ythibhcohcbgdpaa Go.Proofs.Ythibhcohcbgdpaa.PFnExactNewCalls Go.Proofs.YthibhcohcbgdpaaW.PrintWords Go.Proofs.YthibhcohcbgdpaaW.PrintLast Go.Proofs.YthibhcohcbgdpaaW.PrintMore Go.Proofs.Ythibhcohcbgdpaa.PL

theorem within_is (a b c : Int) : impl_within.f a b c = some (decide (b ≤ a ∧ a ≤ c)) := by
  unfold impl_within.f
  by_cases h : b ≤ a <;> simp [h]

theorem icallers_is (a : Int) : impl_CallersOk.f a = some (decide (2 ≤ a ∧ a ≤ 5)) := by
  unfold impl_CallersOk.f; rw [within_is]; rfl

theorem shl_is (n : Nat) (h0 : 2 ≤ n) (h1 : n ≤ 5) : wrap64 (shl .i64 1 (n : Int) - 1) = 2 ^ n - 1 ∧ (2 : Int) ^ n ≤ 32 := by
  have : n = 2 ∨ n = 3 ∨ n = 4 ∨ n = 5 := by omega
  rcases this with rfl | rfl | rfl | rfl <;> decide +kernel
/-- One caller's secrets are told right. -/
def FitAt (l : List Int) (i : Int) : Prop := 0 ≤ rd l i ∧ rd l i ≤ 2 ^ l.length - 1 ∧ rd l i / 2 ^ i.toNat % 2 = 1
/-- A good state. -/
def Good (l : List Int) : Prop := 2 ≤ l.length ∧ l.length ≤ 5 ∧ ∀ i : Int, 0 ≤ i → i < l.length → FitAt l i
theorem Good.le31 {l : List Int} (h : Good l) (i : Int) (h0 : 0 ≤ i) (h1 : i < l.length) : 0 ≤ rd l i ∧ rd l i ≤ 31 := by
  obtain ⟨a, b, _⟩ := h.2.2 i h0 h1
  have := (shl_is l.length h.1 h.2.1).2
  omega

theorem bits_alike : ∀ (n : Fin 32) (i : Fin 5), (Go.bits .and .i64 (shr .i64 ((n.val : Nat) : Int) ((i.val : Nat) : Int)) 1 = 0) = ¬ (((n.val : Nat) : Int) / 2 ^ i.val % 2 = 1) := by decide +kernel
theorem bits_are (x i : Int) (h0 : 0 ≤ x) (h1 : x ≤ 31) (i0 : 0 ≤ i) (i1 : i < 5) : (Go.bits .and .i64 (shr .i64 x i) 1 = 0) = ¬ (x / 2 ^ i.toNat % 2 = 1) := by
  have := bits_alike ⟨x.toNat, by omega⟩ ⟨i.toNat, by omega⟩
  simp only [Int.toNat_of_nonneg h0, Int.toNat_of_nonneg i0] at this
  exact this
theorem istates (l : List Int) (h2 : 2 ≤ l.length) (h5 : l.length ≤ 5) (d : Nat) : ∀ i : Int, 0 ≤ i → i ≤ l.length → (l.length : Int) - i = d →
    ∃ b, Ev (fun k => impl_StateOk.l0 k l l l.length i) b ∧ (b = true ↔ ∀ j : Int, i ≤ j → j < l.length → FitAt l j) := by
  induction d with
  | zero =>
    intro i h0 h1 hd
    exact ⟨true, Ev.step (fun k => by rw [impl_StateOk.l0]) (ev_neg (by omega) (ev_some _)), ⟨fun _ j _ _ => (by omega), fun _ => rfl⟩⟩
  | succ d ih =>
    intro i h0 h1 hd
    obtain ⟨b, hi, hb⟩ := ih (i + 1) (by omega) (by omega) (by omega)
    obtain ⟨hm, hm2⟩ := shl_is l.length h2 h5
    have ew : wrap64 (i + 1) = i + 1 := w64 (by omega) (by omega)
    rw [← ew] at hi
    by_cases hin : 0 ≤ rd l i ∧ rd l i ≤ wrap64 (shl .i64 1 (l.length : Int) - 1)
    · have hbb := bits_are (rd l i) i hin.1 (by omega) h0 (by omega)
      by_cases hbit : rd l i / 2 ^ i.toNat % 2 = 1
      · have hn : ¬ (Go.bits .and .i64 (shr .i64 (rd l i) i) 1 = 0) := by rw [hbb]; simpa using hbit
        refine ⟨b, ?_, ?_⟩
        · refine Ev.step (fun k => by rw [impl_StateOk.l0]) ?_
          refine ev_pos (by omega) ?_
          refine ev_pos h0 ?_
          refine ev_pos (by omega) ?_
          refine ev_bind0 (within_is _ _ _) ?_
          refine ev_dpos hin ?_
          exact ev_neg hn hi
        · rw [hb]
          constructor
          · intro h j hj hl
            by_cases e : j = i
            · rw [e]; exact ⟨hin.1, by rw [← hm]; exact hin.2, hbit⟩
            · exact h j (by omega) hl
          · intro h j hj hl
            exact h j (by omega) hl
      · have hp : Go.bits .and .i64 (shr .i64 (rd l i) i) 1 = 0 := by rw [hbb]; exact hbit
        refine ⟨false, ?_, ⟨fun h => (by cases h), fun h => absurd (h i (by omega) (by omega)).2.2 hbit⟩⟩
        refine Ev.step (fun k => by rw [impl_StateOk.l0]) ?_
        refine ev_pos (by omega) ?_
        refine ev_pos h0 ?_
        refine ev_pos (by omega) ?_
        refine ev_bind0 (within_is _ _ _) ?_
        refine ev_dpos hin ?_
        exact ev_pos hp (ev_some _)
    · refine ⟨false, ?_, ⟨fun h => (by cases h), fun h => absurd ⟨(h i (by omega) (by omega)).1, by rw [hm]; exact (h i (by omega) (by omega)).2.1⟩ hin⟩⟩
      refine Ev.step (fun k => by rw [impl_StateOk.l0]) ?_
      refine ev_pos (by omega) ?_
      refine ev_pos h0 ?_
      refine ev_pos (by omega) ?_
      refine ev_bind0 (within_is _ _ _) ?_
      exact ev_dneg hin (ev_some _)
theorem istate_is (l : List Int) (hl : l.length ≤ 4611686018427387904) : ∃ b, Ev (fun k => impl_StateOk.f k l) b ∧ (b = true ↔ Good l) := by
  unfold impl_StateOk.f
  by_cases h : 2 ≤ (l.length : Int) ∧ (l.length : Int) ≤ 5
  · obtain ⟨b, hi, hb⟩ := istates l (by omega) (by omega) l.length 0 (by omega) (by omega) (by omega)
    refine ⟨b, ev_bind0 (icallers_is _) (ev_dpos h hi), ?_⟩
    rw [hb]
    exact ⟨fun hf => ⟨by omega, by omega, hf⟩, fun hg => hg.2.2⟩
  · exact ⟨false, ev_bind0 (icallers_is _) (ev_dneg h (ev_some _)), ⟨fun h => (by cases h), fun hg => absurd (show 2 ≤ (l.length : Int) ∧ (l.length : Int) ≤ 5 from ⟨by have := hg.1; omega, by have := hg.2.1; omega⟩) h⟩⟩
theorem igood_ok {l : List Int} (h : Good l) : Ev (fun k => impl_StateOk.f k l) true := by
  obtain ⟨b, hi, hb⟩ := istate_is l (by have := h.2.1; omega)
  rw [← hb.2 h]
  exact hi

theorem l01In_is (a b c : Int) : spec_l01In.f a b c = some (decide (b ≤ a ∧ a ≤ c)) := by
  unfold spec_l01In.f
  by_cases h : b ≤ a <;> simp [h]

theorem scallers_is (a : Int) : spec_CallersOk.f a = some (decide (2 ≤ a ∧ a ≤ 5)) := by
  unfold spec_CallersOk.f; rw [l01In_is]; rfl

theorem sbit_l0 (n : Int) (hn : n ≤ 4611686018427387904) (d : Nat) : ∀ (x i : Int), 0 ≤ i → i ≤ n → n - i = d → 0 ≤ x → x ≤ 9223372036854775807 →
    Ev (fun k => spec_l03Bit.l0 k x n i) (x / 2 ^ d % 2) := by
  induction d with
  | zero =>
    intro x i h0 h1 hd hx hx2
    refine Ev.step (fun k => by rw [spec_l03Bit.l0]) (ev_neg (by omega) (ev_eq (ev_some _) ?_))
    rw [Int.tmod_eq_emod_of_nonneg hx]
    simp
  | succ d ih =>
    intro x i h0 h1 hd hx hx2
    refine Ev.step (fun k => by rw [spec_l03Bit.l0]) (ev_pos (by omega) ?_)
    rw [Int.tdiv_eq_ediv_of_nonneg hx, w64 (x := x / 2) (by omega) (by omega), w64 (by omega) (by omega)]
    refine ev_eq (ih (x / 2) (i + 1) (by omega) (by omega) (by omega) (by omega) (by omega)) ?_
    rw [Int.ediv_ediv_of_nonneg (by omega), Int.pow_succ, Int.mul_comm]
theorem sbit_ev (x n : Int) (h0 : 0 ≤ n) (hn : n ≤ 4611686018427387904) (hx : 0 ≤ x) (hx2 : x ≤ 9223372036854775807) :
    Ev (fun k => spec_l03Bit.f k x n) (x / 2 ^ n.toNat % 2) := by
  unfold spec_l03Bit.f
  exact sbit_l0 n hn n.toNat x 0 (by omega) h0 (by omega) hx hx2

theorem sstates (l : List Int) (h2 : 2 ≤ l.length) (h5 : l.length ≤ 5) (d : Nat) : ∀ i : Int, 0 ≤ i → i ≤ l.length → (l.length : Int) - i = d →
    ∃ b, Ev (fun k => spec_StateOk.l0 k l l l.length i) b ∧ (b = true ↔ ∀ j : Int, i ≤ j → j < l.length → FitAt l j) := by
  induction d with
  | zero =>
    intro i h0 h1 hd
    exact ⟨true, Ev.step (fun k => by rw [spec_StateOk.l0]) (ev_neg (by omega) (ev_some _)), ⟨fun _ j _ _ => (by omega), fun _ => rfl⟩⟩
  | succ d ih =>
    intro i h0 h1 hd
    obtain ⟨b, hs, hb⟩ := ih (i + 1) (by omega) (by omega) (by omega)
    obtain ⟨hm, hm2⟩ := shl_is l.length h2 h5
    have ew : wrap64 (i + 1) = i + 1 := w64 (by omega) (by omega)
    rw [← ew] at hs
    by_cases hin : 0 ≤ rd l i ∧ rd l i ≤ wrap64 (shl .i64 1 (l.length : Int) - 1)
    · by_cases hbit : rd l i / 2 ^ i.toNat % 2 = 1
      · refine ⟨b, ?_, ?_⟩
        · refine Ev.step (fun k => by rw [spec_StateOk.l0]) ?_
          refine ev_pos (by omega) ?_
          refine ev_pos h0 ?_
          refine ev_pos (by omega) ?_
          refine ev_bind0 (l01In_is _ _ _) ?_
          refine ev_dpos hin ?_
          refine Ev.bind (sbit_ev _ _ h0 (by omega) hin.1 (by omega)) ?_
          exact ev_pos hbit hs
        · rw [hb]
          constructor
          · intro h j hj hl
            by_cases e : j = i
            · rw [e]; exact ⟨hin.1, by rw [← hm]; exact hin.2, hbit⟩
            · exact h j (by omega) hl
          · intro h j hj hl
            exact h j (by omega) hl
      · refine ⟨false, ?_, ⟨fun h => (by cases h), fun h => absurd (h i (by omega) (by omega)).2.2 hbit⟩⟩
        refine Ev.step (fun k => by rw [spec_StateOk.l0]) ?_
        refine ev_pos (by omega) ?_
        refine ev_pos h0 ?_
        refine ev_pos (by omega) ?_
        refine ev_bind0 (l01In_is _ _ _) ?_
        refine ev_dpos hin ?_
        refine Ev.bind (sbit_ev _ _ h0 (by omega) hin.1 (by omega)) ?_
        exact ev_neg hbit (ev_some _)
    · refine ⟨false, ?_, ⟨fun h => (by cases h), fun h => absurd ⟨(h i (by omega) (by omega)).1, by rw [hm]; exact (h i (by omega) (by omega)).2.1⟩ hin⟩⟩
      refine Ev.step (fun k => by rw [spec_StateOk.l0]) ?_
      refine ev_pos (by omega) ?_
      refine ev_pos h0 ?_
      refine ev_pos (by omega) ?_
      refine ev_bind0 (l01In_is _ _ _) ?_
      exact ev_dneg hin (ev_some _)
theorem sstate_is (l : List Int) (hl : l.length ≤ 4611686018427387904) : ∃ b, Ev (fun k => spec_StateOk.f k l) b ∧ (b = true ↔ Good l) := by
  unfold spec_StateOk.f
  by_cases h : 2 ≤ (l.length : Int) ∧ (l.length : Int) ≤ 5
  · obtain ⟨b, hs, hb⟩ := sstates l (by omega) (by omega) l.length 0 (by omega) (by omega) (by omega)
    refine ⟨b, ev_bind0 (scallers_is _) (ev_dpos h hs), ?_⟩
    rw [hb]
    exact ⟨fun hf => ⟨by omega, by omega, hf⟩, fun hg => hg.2.2⟩
  · exact ⟨false, ev_bind0 (scallers_is _) (ev_dneg h (ev_some _)), ⟨fun h => (by cases h), fun hg => absurd (show 2 ≤ (l.length : Int) ∧ (l.length : Int) ≤ 5 from ⟨by have := hg.1; omega, by have := hg.2.1; omega⟩) h⟩⟩
theorem sgood_ok {l : List Int} (h : Good l) : Ev (fun k => spec_StateOk.f k l) true := by
  obtain ⟨b, hi, hb⟩ := sstate_is l (by have := h.2.1; omega)
  rw [← hb.2 h]
  exact hi

theorem state_both (l : List Int) (hl : l.length ≤ 4611686018427387904) : ∃ b, Ev (fun k => spec_StateOk.f k l) b ∧ Ev (fun k => impl_StateOk.f k l) b ∧ (b = true ↔ Good l) := by
  obtain ⟨b, hs, hb⟩ := sstate_is l hl
  obtain ⟨c, hi, hc⟩ := istate_is l hl
  have : b = c := by rw [Bool.eq_iff_iff, hb, hc]
  subst this
  exact ⟨b, hs, hi, hb⟩

/-- All calls of n callers, in order. -/
def prs (n : Nat) : List S48 := match n with
  | 2 => [⟨0, 1⟩]
  | 3 => [⟨0, 1⟩, ⟨0, 2⟩, ⟨1, 2⟩]
  | 4 => [⟨0, 1⟩, ⟨0, 2⟩, ⟨0, 3⟩, ⟨1, 2⟩, ⟨1, 3⟩, ⟨2, 3⟩]
  | 5 => [⟨0, 1⟩, ⟨0, 2⟩, ⟨0, 3⟩, ⟨0, 4⟩, ⟨1, 2⟩, ⟨1, 3⟩, ⟨1, 4⟩, ⟨2, 3⟩, ⟨2, 4⟩, ⟨3, 4⟩]
  | _ => []
theorem prs_spec (n : Nat) (h2 : 2 ≤ n) (h5 : n ≤ 5) : Ev (fun k => spec_l14Pairs.f k (n : Int)) (prs n) := by
  have : n = 2 ∨ n = 3 ∨ n = 4 ∨ n = 5 := by omega
  rcases this with rfl | rfl | rfl | rfl <;> exact Ev.of (k := 40) (fun k => spec_l14Pairs.mono _ k) (by kernel_rfl)
theorem prs_impl (n : Nat) (h2 : 2 ≤ n) (h5 : n ≤ 5) : Ev (fun k => impl_allCalls.f k (n : Int)) (prs n) := by
  have : n = 2 ∨ n = 3 ∨ n = 4 ∨ n = 5 := by omega
  rcases this with rfl | rfl | rfl | rfl <;> exact Ev.of (k := 40) (fun k => impl_allCalls.mono _ k) (by kernel_rfl)
/-- A call of n callers. -/
def InR (n : Nat) (x : S48) : Prop := 0 ≤ x.f0 ∧ x.f0 < n ∧ 0 ≤ x.f1 ∧ x.f1 < n
instance (n : Nat) (x : S48) : Decidable (InR n x) := by unfold InR; infer_instance
theorem prs_in (n : Nat) (h2 : 2 ≤ n) (h5 : n ≤ 5) : ∀ x ∈ prs n, InR n x := by
  have : n = 2 ∨ n = 3 ∨ n = 4 ∨ n = 5 := by omega
  rcases this with rfl | rfl | rfl | rfl <;> decide +kernel
theorem prs_length (n : Nat) (h2 : 2 ≤ n) (h5 : n ≤ 5) : (prs n).length ≤ 10 := by
  have : n = 2 ∨ n = 3 ∨ n = 4 ∨ n = 5 := by omega
  rcases this with rfl | rfl | rfl | rfl <;> decide
/-- Is a call a new one? -/
def newB (l : List Int) (x : S48) : Bool := !(decide (rd l x.f0 / 2 ^ x.f1.toNat % 2 = 1) && decide (rd l x.f1 / 2 ^ x.f0.toNat % 2 = 1))
theorem bit1_alike : ∀ (n : Fin 32) (i : Fin 5), (Go.bits .and .i64 (shr .i64 ((n.val : Nat) : Int) ((i.val : Nat) : Int)) 1 == 1) = decide (((n.val : Nat) : Int) / 2 ^ i.val % 2 = 1) := by decide +kernel
theorem bit1_are (x i : Int) (h0 : 0 ≤ x) (h1 : x ≤ 31) (i0 : 0 ≤ i) (i1 : i < 5) : (Go.bits .and .i64 (shr .i64 x i) 1 == 1) = decide (x / 2 ^ i.toNat % 2 = 1) := by
  have := bit1_alike ⟨x.toNat, by omega⟩ ⟨i.toNat, by omega⟩
  simp only [Int.toNat_of_nonneg h0, Int.toNat_of_nonneg i0] at this
  exact this
theorem newp_is {l : List Int} (hg : Good l) {x : S48} (hx : InR l.length x) : impl_newCalls.p l x = some (!newB l x) := by
  have h5 := hg.2.1
  obtain ⟨a0, a1, b0, b1⟩ := hx
  have h1 := hg.le31 _ a0 a1
  have h2 := hg.le31 _ b0 b1
  unfold impl_newCalls.p newB
  rw [if_pos a0, if_pos a1, if_pos b0, if_pos b1, bit1_are _ _ h1.1 h1.2 b0 (by omega), bit1_are _ _ h2.1 h2.2 a0 (by omega), Bool.not_not]
theorem del_is {l : List Int} (hg : Good l) : ∀ (ps : List S48), (∀ x ∈ ps, InR l.length x) → delO (impl_newCalls.p l) ps = some (ps.filter (newB l))
  | [], _ => rfl
  | x :: ps, h => by
    simp only [delO]
    rw [newp_is hg (h x (by simp)), del_is hg ps (fun y hy => h y (by simp [hy]))]
    simp only [Option.bind_some, List.filter_cons]
    cases newB l x <;> simp
theorem inew_ev {l : List Int} (hg : Good l) : Ev (fun k => impl_newCalls.f k l) ((prs l.length).filter (newB l)) := by
  unfold impl_newCalls.f
  refine Ev.bind (prs_impl l.length hg.1 hg.2.1) ?_
  refine ev_pos (by have := prs_length l.length hg.1 hg.2.1; omega) ?_
  rw [del_is hg _ (prs_in l.length hg.1 hg.2.1)]
  exact ev_some _
theorem snew_l0 (l : List Int) (hg : Good l) (ps : List S48) (hp : ∀ x ∈ ps, InR l.length x) (hn : ps.length ≤ 1000) (d : Nat) : ∀ (i : Nat) (acc : List S48), i ≤ ps.length → ps.length - i = d → acc.length ≤ i →
    Ev (fun k => spec_NewCalls.l0 k l acc ps ps.length i) (acc ++ (ps.drop i).filter (newB l)) := by
  induction d with
  | zero =>
    intro i acc h1 hd ha
    refine Ev.step (fun k => by rw [spec_NewCalls.l0]) (ev_neg (by omega) (ev_eq (ev_some _) ?_))
    rw [List.drop_eq_nil_of_le (by omega)]
    simp
  | succ d ih =>
    intro i acc h1 hd ha
    have hil : i < ps.length := by omega
    have z0 : (0 : Int) ≤ (i : Int) := by omega
    have z1 : (i : Int) < (ps.length : Int) := by omega
    have y1 : i + 1 ≤ ps.length := by omega
    have y2 : ps.length - (i + 1) = d := by omega
    have y3 : acc.length < 8796093022208 := by omega
    have y4 : acc.length ≤ i + 1 := by omega
    have ew : wrap64 ((i : Int) + 1) = ((i + 1 : Nat) : Int) := by rw [w64 (by omega) (by omega)]; omega
    have hrd : rd_T48 ps (i : Int) = ps[i] := by simp [rd_T48, List.getD_eq_getElem?_getD, List.getElem?_eq_getElem hil]
    have hin := hp ps[i] (List.getElem_mem _)
    have ih1 : ∀ y, Ev (fun k => spec_NewCalls.l0 k l (acc ++ [y]) ps ps.length ((i + 1 : Nat) : Int)) (acc ++ [y] ++ (ps.drop (i + 1)).filter (newB l)) := fun y => ih (i + 1) (acc ++ [y]) y1 y2 (by rw [List.length_append]; exact Nat.succ_le_succ ha)
    have ih0 := ih (i + 1) acc y1 y2 y4
    rw [List.drop_eq_getElem_cons hil, List.filter_cons]
    generalize ps[i] = x at hrd hin
    obtain ⟨xa, xb⟩ := x
    obtain ⟨a0, a1, b0, b1⟩ := hin
    dsimp only at a0 a1 b0 b1
    have h5 := hg.2.1
    have q1 := hg.le31 _ a0 a1
    have q2 := hg.le31 _ b0 b1
    have e1 := sbit_ev (rd l xa) xb b0 (by omega) q1.1 (by omega)
    have e2 := sbit_ev (rd l xb) xa a0 (by omega) q2.1 (by omega)
    have r1 : rd l xa / 2 ^ xb.toNat % 2 = 0 ∨ rd l xa / 2 ^ xb.toNat % 2 = 1 := Int.emod_two_eq _
    have r2 : rd l xb / 2 ^ xa.toNat % 2 = 0 ∨ rd l xb / 2 ^ xa.toNat % 2 = 1 := Int.emod_two_eq _
    refine Ev.step (fun k => by rw [spec_NewCalls.l0]) ?_
    rw [hrd, ew]
    refine ev_pos z1 ?_
    refine ev_pos z0 ?_
    refine ev_pos z1 ?_
    refine ev_pos a0 ?_
    refine ev_pos a1 ?_
    refine Ev.bind e1 ?_
    rcases r1 with c1 | c1
    · have hb : newB l ⟨xa, xb⟩ = true := by unfold newB; simp [c1]
      rw [if_pos hb]
      refine ev_pos c1 ?_
      refine ev_pos y3 ?_
      exact ev_eq (ih1 ⟨xa, xb⟩) (by simp)
    · refine ev_neg (by rw [c1]; decide) ?_
      refine ev_pos b0 ?_
      refine ev_pos b1 ?_
      refine Ev.bind e2 ?_
      rcases r2 with c2 | c2
      · have hb : newB l ⟨xa, xb⟩ = true := by unfold newB; simp [c2]
        rw [if_pos hb]
        refine ev_pos c2 ?_
        refine ev_pos y3 ?_
        exact ev_eq (ih1 ⟨xa, xb⟩) (by simp)
      · have hb : newB l ⟨xa, xb⟩ = false := by unfold newB; simp [c1, c2]
        rw [hb]
        refine ev_neg (by rw [c2]; decide) ?_
        exact ev_eq ih0 (by simp)
/-- Both sides' new calls. -/
theorem newcalls_both (l : List Int) (hl : l.length ≤ 1048576) : ∃ r : List S48, r.length ≤ 10 ∧ Ev (fun k => spec_NewCalls.f k l) r ∧ Ev (fun k => impl_NewCalls.f k l) r := by
  obtain ⟨g, hs, hi, hg⟩ := state_both l (by omega)
  unfold spec_NewCalls.f impl_NewCalls.f
  cases g with
  | false => exact ⟨[], by simp, Ev.bind hs (ev_neg (by simp) (ev_some _)), Ev.bind hi (ev_neg (by simp) (ev_some _))⟩
  | true =>
    have hg := hg.1 rfl
    have hle := prs_length l.length hg.1 hg.2.1
    refine ⟨(prs l.length).filter (newB l), Nat.le_trans (List.length_filter_le _ _) hle, ?_, ?_⟩
    · refine Ev.bind hs (ev_pos rfl ?_)
      refine Ev.bind (prs_spec l.length hg.1 hg.2.1) ?_
      exact ev_eq (snew_l0 l hg (prs l.length) (prs_in l.length hg.1 hg.2.1) (by omega) (prs l.length).length 0 [] (by omega) (by omega) (by simp)) (by simp)
    · refine Ev.bind hi (ev_pos rfl ?_)
      exact Ev.bind (inew_ev hg) (ev_some _)

theorem toIntS_l0 (l : List Int) (hn : l.length ≤ 35184372088832) (d : Nat) : ∀ (i : Nat) (o : List Int), i ≤ l.length → l.length - i = d → o.length = l.length → o.take i = l.take i →
    Ev (fun k => laws_toIntS.l0 k l o i) l := by
  induction d with
  | zero =>
    intro i o h1 hd ho ht
    refine Ev.step (fun k => by rw [laws_toIntS.l0]) (ev_neg (by omega) (ev_eq (ev_some o) ?_))
    rw [List.take_of_length_le (by omega), List.take_of_length_le (by omega)] at ht
    exact ht
  | succ d ih =>
    intro i o h1 hd ho ht
    refine Ev.step (fun k => by rw [laws_toIntS.l0]) (ev_pos (by omega) (ev_pos (by omega) (ev_pos (by omega) ?_)))
    rw [w64 (by omega) (by omega)]
    have e : ((i : Int) + 1) = ((i + 1 : Nat) : Int) := by omega
    rw [e]
    refine ih (i + 1) _ (by omega) (by omega) (by simp [ho]) ?_
    simp only [Int.toNat_natCast]
    rw [List.take_succ_eq_append_getElem (by simp; omega), List.take_succ_eq_append_getElem (by omega), List.take_set_of_le (Nat.le_refl _), ht]
    congr 1
    simp [rd, List.getD_eq_getElem?_getD, List.getElem?_eq_getElem (show i < l.length by omega)]
theorem toIntS_ev (l : List Int) (hn : l.length ≤ 35184372088832) : Ev (fun k => laws_toIntS.f k l) l := by
  unfold laws_toIntS.f
  refine ev_pos (by omega) (ev_pos (by omega) ?_)
  exact toIntS_l0 l hn l.length 0 _ (by omega) (by omega) (by simp) (by simp)

theorem eqIntS_l0 (l m : List Int) (hlm : l.length = m.length) (hn : l.length ≤ 9223372036854775807) (d : Nat) : ∀ i : Int, 0 ≤ i → i ≤ l.length → (l.length : Int) - i = d →
    ∃ b, Ev (fun k => laws_eqIntS.l0 k l m i) b ∧ (b = true ↔ ∀ j : Int, i ≤ j → j < l.length → rd l j = rd m j) := by
  induction d with
  | zero =>
    intro i h0 h1 hd
    exact ⟨true, Ev.step (fun k => by rw [laws_eqIntS.l0]) (ev_neg (by omega) (ev_some true)), ⟨fun _ j _ _ => (by omega), fun _ => rfl⟩⟩
  | succ d ih =>
    intro i h0 h1 hd
    by_cases he : rd l i = rd m i
    · obtain ⟨b, hb, hi⟩ := ih (i + 1) (by omega) (by omega) (by omega)
      refine ⟨b, Ev.step (fun k => by rw [laws_eqIntS.l0]) (ev_pos (by omega) (ev_pos h0 (ev_pos (by omega) (ev_pos he ?_)))), ?_⟩
      · rw [w64 (by omega) (by omega)]; exact hb
      · rw [hi]
        constructor
        · intro h j hj hl
          by_cases e : j = i
          · rw [e]; exact he
          · exact h j (by omega) hl
        · intro h j hj hl
          exact h j (by omega) hl
    · exact ⟨false, Ev.step (fun k => by rw [laws_eqIntS.l0]) (ev_pos (by omega) (ev_pos h0 (ev_pos (by omega) (ev_neg he (ev_some false))))), ⟨fun h => (by cases h), fun h => absurd (h i (by omega) (by omega)) he⟩⟩
theorem eqIntS_ev (l m : List Int) (hn : l.length ≤ 9223372036854775807) : Ev (fun k => laws_eqIntS.f k l m) (decide (l = m)) := by
  unfold laws_eqIntS.f
  by_cases h : l.length = m.length
  · obtain ⟨b, hb, hi⟩ := eqIntS_l0 l m h hn l.length 0 (by omega) (by omega) (by omega)
    refine ev_pos (by omega) (ev_eq hb ?_)
    rw [Bool.eq_iff_iff, hi, decide_eq_true_eq]
    exact ⟨fun hr => ext_rd h (fun i h0 h1 => hr i h0 h1), fun e j _ _ => by rw [e]⟩
  · refine ev_neg (by omega) (ev_eq (ev_some false) ?_)
    symm; rw [decide_eq_false_iff_not]
    intro e; exact h (by rw [e])

theorem markIntS_l0 (n : Nat) (hn : n ≤ 4611686018427387904) (d : Nat) : ∀ (i : Nat) (l : List Int) (a : Int), l.length = n → i ≤ n → n - i = d → -4611686018427387904 ≤ a → a + d ≤ 4611686018427387904 →
    Ev (fun k => laws_markIntS.l0 k l a i) (a + d, l.take i ++ iota a d) := by
  induction d with
  | zero =>
    intro i l a hl h1 hd ha hb
    refine Ev.step (fun k => by rw [laws_markIntS.l0]) (ev_neg (by omega) (ev_eq (ev_some (a, l)) ?_))
    rw [List.take_of_length_le (by omega)]
    simp [iota]
  | succ d ih =>
    intro i l a hl h1 hd ha hb
    refine Ev.step (fun k => by rw [laws_markIntS.l0]) (ev_pos (by omega) (ev_pos (by omega) ?_))
    rw [w64 (x := a + 1) (by omega) (by omega), w64 (by omega) (by omega)]
    have e : ((i : Int) + 1) = ((i + 1 : Nat) : Int) := by omega
    rw [e]
    refine ev_eq (ih (i + 1) _ (a + 1) (by simp [hl]) (by omega) (by omega) (by omega) (by omega)) ?_
    simp only [Int.toNat_natCast]
    rw [List.take_succ_eq_append_getElem (by simp; omega), List.take_set_of_le (Nat.le_refl _)]
    simp [iota]
    omega
theorem markIntS_ev (l : List Int) (a : Int) (hn : l.length ≤ 4611686018427387904) (ha : -4611686018427387904 ≤ a) (hb : a + l.length ≤ 4611686018427387904) :
    Ev (fun k => laws_markIntS.f k l a) (a + l.length, iota a l.length) := by
  unfold laws_markIntS.f
  exact ev_eq (markIntS_l0 l.length hn l.length 0 l a rfl (by omega) (by omega) ha hb) (by simp)

theorem eqCall_is (a b c d : Int) : laws_eqCall.f a b c d = some (decide (a = c ∧ b = d)) := by
  unfold laws_eqCall.f
  by_cases h : a = c <;> by_cases h' : b = d <;> simp [h, h']
theorem rdC_eq {l : List S48} {i : Int} (h0 : 0 ≤ i) (h1 : i < l.length) : l[i.toNat]? = some (rd_T48 l i) := by
  unfold rd_T48
  rw [List.getD_eq_getElem?_getD, List.getElem?_eq_getElem (by omega)]
  rfl
theorem eqCallS_l0 (l : List S48) (hn : l.length ≤ 9223372036854775807) (d : Nat) : ∀ i : Int, 0 ≤ i → i ≤ l.length → (l.length : Int) - i = d → Ev (fun k => laws_eqCallS.l0 k l l i) true := by
  induction d with
  | zero =>
    intro i h0 h1 hd
    exact Ev.step (fun k => by rw [laws_eqCallS.l0]) (ev_neg (by omega) (ev_some true))
  | succ d ih =>
    intro i h0 h1 hd
    have := ih (i + 1) (by omega) (by omega) (by omega)
    refine Ev.step (fun k => by rw [laws_eqCallS.l0]) ?_
    refine ev_pos (by omega) ?_
    refine ev_pos h0 ?_
    refine ev_pos (by omega) ?_
    refine ev_bind0 (eqCall_is _ _ _ _) ?_
    refine ev_dpos ⟨rfl, rfl⟩ ?_
    rw [w64 (by omega) (by omega)]; exact this
theorem eqCallS_ev (l : List S48) (hn : l.length ≤ 9223372036854775807) : Ev (fun k => laws_eqCallS.f k l l) true := by
  unfold laws_eqCallS.f
  exact ev_pos rfl (eqCallS_l0 l hn l.length 0 (by omega) (by omega) (by omega))

/-- The marks of a list of calls. -/
def cmarks (a : Int) : Nat → List S48
  | 0 => []
  | n + 1 => ⟨a, a + 1⟩ :: cmarks (a + 2) n
theorem cmarks_length (a : Int) (n : Nat) : (cmarks a n).length = n := by
  induction n generalizing a with
  | zero => rfl
  | succ n ih => simp [cmarks, ih]
theorem markCallS_l0 (n : Nat) (hn : n ≤ 1152921504606846976) (d : Nat) : ∀ (i : Nat) (l : List S48) (a : Int), l.length = n → i ≤ n → n - i = d → 0 ≤ a → a + 2 * d ≤ 4611686018427387904 →
    Ev (fun k => laws_markCallS.l0 k l a i) (a + 2 * d, l.take i ++ cmarks a d) := by
  induction d with
  | zero =>
    intro i l a hl h1 hd ha hb
    refine Ev.step (fun k => by rw [laws_markCallS.l0]) (ev_neg (by omega) (ev_eq (ev_some (a, l)) ?_))
    rw [List.take_of_length_le (by omega)]
    simp [cmarks]
  | succ d ih =>
    intro i l a hl h1 hd ha hb
    refine Ev.step (fun k => by rw [laws_markCallS.l0]) ?_
    refine ev_pos (by omega) ?_
    refine ev_pos (by omega) ?_
    refine ev_bind0 rfl ?_
    rw [w64 (x := a + 1) (by omega) (by omega), w64 (x := a + 1 + 1) (by omega) (by omega), w64 (x := (i : Int) + 1) (by omega) (by omega)]
    have e : ((i : Int) + 1) = ((i + 1 : Nat) : Int) := by omega
    have e2 : a + 1 + 1 = a + 2 := by omega
    rw [e, e2]
    refine ev_eq (ih (i + 1) _ (a + 2) (by simp [hl]) (by omega) (by omega) (by omega) (by omega)) ?_
    simp only [Int.toNat_natCast]
    have hrd : (rd_T48 (l.set i ⟨a, (rd_T48 l (i : Int)).f1⟩) (i : Int)).f0 = a := by
      unfold rd_T48
      simp [List.getD_eq_getElem?_getD, List.getElem?_set, hl, show i < n by omega]
    rw [hrd, List.set_set, List.take_succ_eq_append_getElem (by simp; omega), List.take_set_of_le (Nat.le_refl _)]
    simp [cmarks]
    omega
theorem markCallS_ev (l : List S48) (a : Int) (hn : l.length ≤ 1152921504606846976) (ha : 0 ≤ a) (hb : a + 2 * l.length ≤ 4611686018427387904) :
    Ev (fun k => laws_markCallS.f k l a) (a + 2 * l.length, cmarks a l.length) := by
  unfold laws_markCallS.f
  exact ev_eq (markCallS_l0 l.length hn l.length 0 l a rfl (by omega) (by omega) ha hb) (by simp)

theorem heldCallS_l0 (d : Nat) : ∀ (a : Int) (n i : Nat) (l : List S48), l.length = n → n ≤ 1152921504606846976 → i ≤ n → n - i = d → 0 ≤ a → a + 2 * d ≤ 4611686018427387904 → l.drop i = cmarks a d →
    Ev (fun k => laws_heldCallS.l0 k l a i) (a + 2 * d) := by
  induction d with
  | zero =>
    intro a n i l hl hn h1 hd ha hb he
    exact Ev.step (fun k => by rw [laws_heldCallS.l0]) (ev_neg (by omega) (ev_eq (ev_some _) (by omega)))
  | succ d ih =>
    intro a n i l hl hn h1 hd ha hb he
    have hil : i < l.length := by omega
    have hrd : rd_T48 l (i : Int) = l[i] := by simp [rd_T48, List.getD_eq_getElem?_getD, List.getElem?_eq_getElem hil]
    rw [List.drop_eq_getElem_cons hil] at he
    simp only [cmarks] at he
    injection he with he1 he2
    have ew : wrap64 ((i : Int) + 1) = ((i + 1 : Nat) : Int) := by rw [w64 (by omega) (by omega)]; omega
    refine Ev.step (fun k => by rw [laws_heldCallS.l0]) ?_
    rw [hrd, he1, ew, w64 (x := a + 1) (by omega) (by omega), w64 (x := a + 1 + 1) (by omega) (by omega)]
    refine ev_pos (by omega) ?_
    refine ev_pos (by omega) ?_
    refine ev_pos rfl ?_
    refine ev_pos rfl ?_
    have e2 : a + 1 + 1 = a + 2 := by omega
    rw [e2]
    exact ev_eq (ih (a + 2) n (i + 1) l hl hn (by omega) (by omega) (by omega) (by omega) he2) (by omega)
theorem heldCallS_ev (a : Int) (n : Nat) (hn : n ≤ 1152921504606846976) (ha : 0 ≤ a) (hb : a + 2 * n ≤ 4611686018427387904) :
    Ev (fun k => laws_heldCallS.f k (cmarks a n) a) (a + 2 * n) := by
  unfold laws_heldCallS.f
  exact heldCallS_l0 n a n 0 (cmarks a n) (cmarks_length a n) hn (by omega) (by omega) ha hb (by simp)

theorem FnExactNewCalls (l : List Int) (hm : l.length ≤ maxLen) (_ : ∀ x ∈ l, (Lit.int .i64 x).wf = true) : ∃ k, laws_FnExactNewCalls.f k l = some true := by
  apply Ev.rounds
  unfold laws_FnExactNewCalls.f
  by_cases hl : (l.length : Int) > 1048576
  · exact ev_pos hl (ev_some _)
  · obtain ⟨r, hr, hs, hi⟩ := newcalls_both l (by omega)
    have ht := toIntS_ev l (by omega)
    have el := eqIntS_ev l l (by omega)
    have er := eqCallS_ev r (by omega)
    have ml := markIntS_ev l 1 (by omega) (by omega) (by omega)
    have mr := markCallS_ev r 1 (by omega) (by omega) (by omega)
    have hh := heldCallS_ev 1 r.length (by omega) (by omega) (by omega)
    refine ev_neg hl ?_
    refine Ev.bind ht ?_
    refine Ev.bind hs ?_
    refine Ev.bind ht ?_
    refine Ev.bind hi ?_
    refine Ev.bind er ?_
    refine ev_pos rfl ?_
    refine Ev.bind ht ?_
    refine Ev.bind el ?_
    refine ev_pos (by simp) ?_
    refine Ev.bind ml ?_
    refine ev_neg (by simp; omega) ?_
    refine Ev.bind er ?_
    refine Ev.step (fun k => by rw [laws_FnExactNewCalls.j0]) ?_
    refine ev_neg (by simp) ?_
    refine Ev.bind mr ?_
    refine Ev.bind hh ?_
    refine ev_neg (by omega) ?_
    refine ev_pos rfl ?_
    refine Ev.bind ht ?_
    refine Ev.bind hi ?_
    refine Ev.bind er ?_
    refine ev_pos rfl ?_
    refine Ev.bind hh ?_
    refine ev_neg (by omega) ?_
    exact ev_pos rfl (ev_some _)

end Go.Proofs.Ythibhcohcbgdpaa.Pure
