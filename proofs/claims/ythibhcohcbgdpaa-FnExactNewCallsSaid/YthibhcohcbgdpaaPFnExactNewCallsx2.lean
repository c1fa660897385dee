-- laid by myprint.py (a program of this session's, over the kit's printer)
import Derived.Test.YthibhcohcbgdpaaPFnExactNewCallsx0
import Derived.Test.YthibhcohcbgdpaaPFnExactNewCallsx1
namespace Go.Proofs.Ythibhcohcbgdpaa.PFnExactNewCalls
open Go.RowKit Go.Proofs.Ythibhcohcbgdpaa.H Go.Proofs.YthibhcohcbgdpaaW.PrintWords Go.Proofs.YthibhcohcbgdpaaW.PrintLast Go.Proofs.YthibhcohcbgdpaaW.PrintMore
attribute [local go_sem] max2_int min2_int max_two min_two max_three min_three max_four min_four   -- for this text's walks alone
set_option linter.unusedVariables false
set_option linter.unusedSimpArgs false

/-! ### impl_StateOk: function 46 -/
def impl_StateOk.l0 : Nat → List Int → List Int → Int → Int → Option (Bool)
  | 0, _, _, _, _ => none
  | k + 1, x0, x9, x10, x11 => if x11 < x10 then (if 0 ≤ x11 then (if x11 < (x9.length : Int) then ((impl_within.f (rd x9 x11) 0 (wrap64 ((shl .i64 1 (x0.length : Int)) - 1))).bind fun t139 => (if t139 = true then (if (Go.bits .and .i64 (shr .i64 (rd x9 x11) x11) 1) = 0 then (some false) else (impl_StateOk.l0 k x0 x9 x10 (wrap64 (x11 + 1)))) else (some false))) else (none)) else (none)) else (some true)
def impl_StateOk.f (k : Nat) (l0 : List Int) : Option (Bool) := (impl_CallersOk.f (l0.length : Int)).bind fun t137 => (if t137 = true then (impl_StateOk.l0 k l0 l0 (l0.length : Int) 0) else (some false))
theorem impl_StateOk.mono_l : ∀ k, (∀ y0 y1 y2 y3, LeO (impl_StateOk.l0 k y0 y1 y2 y3) (impl_StateOk.l0 (k + 1) y0 y1 y2 y3))
  | 0 => fun _ _ _ _ r h => by simp [impl_StateOk.l0] at h
  | k + 1 => by
    have ih0 := impl_StateOk.mono_l k
    · intro y0 y1 y2 y3
      unfold impl_StateOk.l0
      repeat' first
      | (with_reducible exact ih0 _ _ _ _)
      | (with_reducible exact LeO.refl _)
      | (with_reducible exact LeO.none _)
      | (with_reducible refine LeO.ite ?_ ?_)
      | (with_reducible refine LeO.bind ?_ (fun _ => ?_))
      | exact ih0 _ _ _ _
      | exact LeO.none _
      | refine LeO.ite ?_ ?_
      | refine LeO.bind ?_ (fun _ => ?_)
theorem impl_StateOk.mono : ∀ a0 k, LeO (impl_StateOk.f k a0) (impl_StateOk.f (k + 1) a0) := by
  intro a0 k
  have ih0 := impl_StateOk.mono_l k
  unfold impl_StateOk.f
  repeat' first
      | (with_reducible exact ih0 _ _ _ _)
      | (with_reducible exact LeO.refl _)
      | (with_reducible exact LeO.none _)
      | (with_reducible refine LeO.ite ?_ ?_)
      | (with_reducible refine LeO.bind ?_ (fun _ => ?_))
      | exact ih0 _ _ _ _
      | exact LeO.none _
      | refine LeO.ite ?_ ?_
      | refine LeO.bind ?_ (fun _ => ?_)
set_option maxHeartbeats 8000000 in
set_option maxRecDepth 100000 in
theorem impl_StateOk.calls (k : Nat) (A0 : Option Addr) (c0 : Nat) (l0 : List Int) (r : Bool) (w : World) (hr0 : Kd.C (Kd.int .i64) w A0 l0.length l0) (hc0 : l0.length ≤ c0) (h : impl_StateOk.f k l0 = some r) :
    Calls Try.prog 46 #[.slice A0 l0.length c0] w fun e w' => e = .returned (.bool r) ∧ Drawn0 w w' := by
  have HR0 := Aside0.mk hr0
  have HC0 := Aside0.mk hc0
  clear hr0 hc0
  have H : ((impl_CallersOk.f (l0.length : Int)).bind fun t137 => (if t137 = true then (impl_StateOk.l0 k l0 l0 (l0.length : Int) 0) else (some false))) = some r := h
  clear h
  replace H := Option.bind_eq_some_iff.mp H
  obtain ⟨t137, A20, H⟩ := H
  replace H : (if t137 = true then (impl_StateOk.l0 k l0 l0 (l0.length : Int) 0) else (some false)) = some r := H
  have A2 := Aside0.mk A20
  clear A20
  by_cases c3 : t137 = true
  · subst c3
    have H1 : (impl_StateOk.l0 k l0 l0 (l0.length : Int) 0) = some r := by rw [if_pos rfl] at H; exact H
    clear H
    have H := H1
    clear H1
    have H' := Aside0.mk H
    clear H
    go_enter Try.func46, Try.ntmps46
    go_wp2_with (first | ((with_reducible refine gate_callee (f := 49) rfl ?_); refine goesL_ (some 7) rfl rfl Try.func49 (by kernel_rfl) rfl #[.int .i64 (l0.length : Int)] rfl (by (try simp only [List.map_toArray, List.map_cons, List.map_nil]); first | done | rfl | (simp only [List.length_drop, List.length_take]; rfl)) ?_; (with_reducible refine (impl_CallersOk.calls (l0.length : Int) true _ A2.out).mono ?_); rintro e w' ⟨rfl, ⟨nd, rfl⟩⟩; refine ⟨_, rfl, ?_⟩))
    go_loopg [11] k (fun kq v11 w' => ∃ (x11_1 : Int), v11 = .int .i64 x11_1 ∧ Aside0 (impl_StateOk.l0 kq l0 l0 (l0.length : Int) x11_1 = some r) ∧ Aside0 (kq ≤ k) ∧ Drawn0 w w')
    case atStart => exact ⟨(0), (by first | rfl | (simp; done) | (simp [*]; done)), H', ⟨Nat.le_refl _⟩, by repeat (first | exact Drawn0.refl _ | apply Drawn0.step)⟩
    case round =>
      clear H'
      try clear p2
      try clear c3
      obtain ⟨x11_1, rfl, HA, HK1, ⟨m1, rfl⟩⟩ := hrel
      cases gk with
      | zero => exact absurd HA.out (by simp [impl_StateOk.l0])
      | succ k1 =>
        have H := HA.out
        clear HA
        simp only [impl_StateOk.l0] at H
        by_cases c4 : x11_1 < (l0.length : Int)
        · rw [if_pos c4] at H
          have c4b0 : decide (x11_1 < (l0.length : Int)) = true := decide_eq_true c4
          clear c4
          by_cases c5 : 0 ≤ x11_1
          · rw [if_pos c5] at H
            have c5b0 : decide (0 ≤ x11_1) = true := decide_eq_true c5
            clear c5
            by_cases c6 : x11_1 < (l0.length : Int)
            · rw [if_pos c6] at H
              have c6b0 : decide (x11_1 < (l0.length : Int)) = true := decide_eq_true c6
              clear c6
              obtain ⟨ji7, hji7⟩ : ∃ j_ : Int, (shl .i64 1 (l0.length : Int)) = j_ := ⟨_, rfl⟩
              replace H : ((impl_within.f (rd l0 x11_1) 0 (wrap64 ((ji7) - 1))).bind fun t139 => (if t139 = true then (if (Go.bits .and .i64 (shr .i64 (rd l0 x11_1) x11_1) 1) = 0 then (some false) else (impl_StateOk.l0 k1 l0 l0 (l0.length : Int) (wrap64 (x11_1 + 1)))) else (some false))) = some r := by first | (rw [hji7] at H; exact H) | (simp only [hji7] at H ⊢; exact H)
              have hji7_ : (IntKind.i64.wrap (1 * 2 ^ min (l0.length : Int).toNat 64)) = ji7 := hji7
              have hji7z : (l0.length : Int) ≤ 64 → (IntKind.i64.wrap (1 * 2 ^ (l0.length : Int).toNat)) = ji7 := shl_small hji7
              have hji7p : (IntKind.i64.wrap (1 * 2 ^ min l0.length 64)) = ji7 := hji7_
              have hji7q : (l0.length : Int) ≤ 64 → (IntKind.i64.wrap (1 * 2 ^ l0.length)) = ji7 := hji7z
              have hji7r : (IntKind.i64.wrap (2 ^ min l0.length 64)) = ji7 := by have h_ := hji7p; rw [Int.one_mul] at h_; exact h_
              have hji7s : (l0.length : Int) ≤ 64 → (IntKind.i64.wrap (2 ^ l0.length)) = ji7 := fun hle_ => by have h_ := hji7q hle_; rw [Int.one_mul] at h_; exact h_
              have hji7u : (IntKind.i64.wrap (2 ^ min (l0.length : Int).toNat 64)) = ji7 := by have h_ := hji7_; rw [Int.one_mul] at h_; exact h_
              have hji7v : (l0.length : Int) ≤ 64 → (IntKind.i64.wrap (2 ^ (l0.length : Int).toNat)) = ji7 := fun hle_ => by have h_ := hji7z hle_; rw [Int.one_mul] at h_; exact h_
              have hji7y : (wrap64 (1 * 2 ^ min (l0.length : Int).toNat 64)) = ji7 := (i64_w _).symm.trans hji7_
              have hji7x : (l0.length : Int) ≤ 64 → (wrap64 (1 * 2 ^ (l0.length : Int).toNat)) = ji7 := fun h_ => (i64_w _).symm.trans (hji7z h_)
              replace H := Option.bind_eq_some_iff.mp H
              obtain ⟨t139, A80, H⟩ := H
              replace H : (if t139 = true then (if (Go.bits .and .i64 (shr .i64 (rd l0 x11_1) x11_1) 1) = 0 then (some false) else (impl_StateOk.l0 k1 l0 l0 (l0.length : Int) (wrap64 (x11_1 + 1)))) else (some false)) = some r := H
              have A8 := Aside0.mk A80
              clear A80
              by_cases c9 : t139 = true
              · subst c9
                have H1 : (if (Go.bits .and .i64 (shr .i64 (rd l0 x11_1) x11_1) 1) = 0 then (some false) else (impl_StateOk.l0 k1 l0 l0 (l0.length : Int) (wrap64 (x11_1 + 1)))) = some r := by rw [if_pos rfl] at H; exact H
                clear H
                have H := H1
                clear H1
                have c10b0 := eq_true (of_decide_eq_true (by first | (with_reducible assumption) | assumption) : 0 ≤ x11_1)
                obtain ⟨ji11, hji11⟩ : ∃ j_ : Int, (shr .i64 (rd l0 x11_1) x11_1) = j_ := ⟨_, rfl⟩
                replace H : (if (Go.bits .and .i64 (ji11) 1) = 0 then (some false) else (impl_StateOk.l0 k1 l0 l0 (l0.length : Int) (wrap64 (x11_1 + 1)))) = some r := by first | (rw [hji11] at H; exact H) | (simp only [hji11] at H ⊢; exact H)
                (try rw [hji11] at A8)
                have hji11_ : ((rd l0 x11_1) / 2 ^ min x11_1.toNat 64) = ji11 := hji11
                have hji11z : x11_1 ≤ 64 → ((rd l0 x11_1) / 2 ^ x11_1.toNat) = ji11 := shr_small hji11
                by_cases c12 : (Go.bits .and .i64 (ji11) 1) = 0
                · rw [if_pos c12] at H
                  have c12b0 : ((Go.bits .and .i64 (ji11) 1) == 0) = true := beq_iff_eq.mpr c12
                  have c12b1 : ((Go.bits .and .i64 (ji11) 1) != 0) = false := bne_eq_false_iff_eq.mpr c12
                  clear c12
                  obtain rfl := Option.some.inj H
                  have p138 : 0 ≤ (x11_1 : Int) := of_decide_eq_true (by first | (with_reducible assumption) | assumption)
                  have q138 : x11_1 < (l0.length : Int) := of_decide_eq_true (by first | (with_reducible assumption) | assumption)
                  obtain ⟨ad138, e138, hx138_0⟩ := Kd.at_int HR0.out x11_1 p138 q138
                  cases e138
                  replace p138 := eq_true p138
                  replace q138 := eq_true q138
                  go_wp2_with (first | ((with_reducible refine gate_callee (f := 52) rfl ?_); refine goesL_ (some 21) rfl rfl Try.func52 (by kernel_rfl) rfl #[.int .i64 (rd l0 x11_1), .int .i64 0, .int .i64 (wrap64 ((ji7) - 1))] rfl (by (try simp only [List.map_toArray, List.map_cons, List.map_nil]); first | done | (simp only [hji7]; rfl) | rfl | (simp only [List.length_drop, List.length_take]; rfl)) ?_; (with_reducible refine (impl_within.calls (rd l0 x11_1) 0 (wrap64 ((ji7) - 1)) true _ A8.out).mono ?_); rintro e w' ⟨rfl, ⟨nd, rfl⟩⟩; refine ⟨_, rfl, ?_⟩))
                  go_ret
                  exact ⟨by first | rfl | (simp; done) | (simp only [← hji7, ← hji11] <;> (first | rfl | simp)) | (simp [*]; done), by repeat (first | exact Drawn0.refl _ | apply Drawn0.step)⟩
                · rw [if_neg c12] at H
                  have c12b0 : ((Go.bits .and .i64 (ji11) 1) == 0) = false := beq_eq_false_iff_ne.mpr c12
                  have c12b1 : ((Go.bits .and .i64 (ji11) 1) != 0) = true := bne_iff_ne.mpr c12
                  have H' := Aside0.mk H
                  clear H
                  have p138 : 0 ≤ (x11_1 : Int) := of_decide_eq_true (by first | (with_reducible assumption) | assumption)
                  have q138 : x11_1 < (l0.length : Int) := of_decide_eq_true (by first | (with_reducible assumption) | assumption)
                  obtain ⟨ad138, e138, hx138_0⟩ := Kd.at_int HR0.out x11_1 p138 q138
                  cases e138
                  replace p138 := eq_true p138
                  replace q138 := eq_true q138
                  go_wp2_with (first | ((with_reducible refine gate_callee (f := 52) rfl ?_); refine goesL_ (some 21) rfl rfl Try.func52 (by kernel_rfl) rfl #[.int .i64 (rd l0 x11_1), .int .i64 0, .int .i64 (wrap64 ((ji7) - 1))] rfl (by (try simp only [List.map_toArray, List.map_cons, List.map_nil]); first | done | (simp only [hji7]; rfl) | rfl | (simp only [List.length_drop, List.length_take]; rfl)) ?_; (with_reducible refine (impl_within.calls (rd l0 x11_1) 0 (wrap64 ((ji7) - 1)) true _ A8.out).mono ?_); rintro e w' ⟨rfl, ⟨nd, rfl⟩⟩; refine ⟨_, rfl, ?_⟩))
                  go_roundg k1
                  case measure => have := HK1.out; omega
                  case rel => exact ⟨(wrap64 (x11_1 + 1)), (by first | rfl | (simp; done) | (simp [*]; done)), H', ⟨by have := HK1.out; omega⟩, by repeat (first | exact Drawn0.refl _ | apply Drawn0.step)⟩
              · replace c9 := Bool.eq_false_iff.mpr c9
                subst c9
                have H1 : (some false) = some r := by rw [if_neg (show ¬ (false = true) by decide)] at H; exact H
                clear H
                have H := H1
                clear H1
                obtain rfl := Option.some.inj H
                have p138 : 0 ≤ (x11_1 : Int) := of_decide_eq_true (by first | (with_reducible assumption) | assumption)
                have q138 : x11_1 < (l0.length : Int) := of_decide_eq_true (by first | (with_reducible assumption) | assumption)
                obtain ⟨ad138, e138, hx138_0⟩ := Kd.at_int HR0.out x11_1 p138 q138
                cases e138
                replace p138 := eq_true p138
                replace q138 := eq_true q138
                go_wp2_with (first | ((with_reducible refine gate_callee (f := 52) rfl ?_); refine goesL_ (some 21) rfl rfl Try.func52 (by kernel_rfl) rfl #[.int .i64 (rd l0 x11_1), .int .i64 0, .int .i64 (wrap64 ((ji7) - 1))] rfl (by (try simp only [List.map_toArray, List.map_cons, List.map_nil]); first | done | (simp only [hji7]; rfl) | rfl | (simp only [List.length_drop, List.length_take]; rfl)) ?_; (with_reducible refine (impl_within.calls (rd l0 x11_1) 0 (wrap64 ((ji7) - 1)) false _ A8.out).mono ?_); rintro e w' ⟨rfl, ⟨nd, rfl⟩⟩; refine ⟨_, rfl, ?_⟩))
                go_ret
                exact ⟨by first | rfl | (simp; done) | (simp only [← hji7] <;> (first | rfl | simp)) | (simp [*]; done), by repeat (first | exact Drawn0.refl _ | apply Drawn0.step)⟩
            · rw [if_neg c6] at H
              exact absurd H (by simp)
          · rw [if_neg c5] at H
            exact absurd H (by simp)
        · rw [if_neg c4] at H
          have c4b0 : decide (x11_1 < (l0.length : Int)) = false := decide_eq_false c4
          clear c4
          obtain rfl := Option.some.inj H
          go_wp2
          go_ret
          exact ⟨by first | rfl | (simp; done) | (simp [*]; done), by repeat (first | exact Drawn0.refl _ | apply Drawn0.step)⟩
  · replace c3 := Bool.eq_false_iff.mpr c3
    subst c3
    have H1 : (some false) = some r := by rw [if_neg (show ¬ (false = true) by decide)] at H; exact H
    clear H
    have H := H1
    clear H1
    obtain rfl := Option.some.inj H
    go_enter Try.func46, Try.ntmps46
    go_wp2_with (first | ((with_reducible refine gate_callee (f := 49) rfl ?_); refine goesL_ (some 7) rfl rfl Try.func49 (by kernel_rfl) rfl #[.int .i64 (l0.length : Int)] rfl (by (try simp only [List.map_toArray, List.map_cons, List.map_nil]); first | done | rfl | (simp only [List.length_drop, List.length_take]; rfl)) ?_; (with_reducible refine (impl_CallersOk.calls (l0.length : Int) false _ A2.out).mono ?_); rintro e w' ⟨rfl, ⟨nd, rfl⟩⟩; refine ⟨_, rfl, ?_⟩))
    go_ret
    exact ⟨by first | rfl | (simp; done) | (simp [*]; done), by repeat (first | exact Drawn0.refl _ | apply Drawn0.step)⟩

/-! ### impl_allCalls: function 85 -/
mutual
def impl_allCalls.l0 : Nat → Int → List (S48) → Int → Int → Option ((List (S48)))
  | 0, _, _, _, _ => none
  | k + 1, x0, x3, x7, x8 => if x8 < x7 then (impl_allCalls.l1 k x0 x3 x8 (wrap64 (x8 + 1)) x7 x8) else (some x3)
def impl_allCalls.l1 : Nat → Int → List (S48) → Int → Int → Int → Int → Option ((List (S48)))
  | 0, _, _, _, _, _, _ => none
  | k + 1, x0, x3, x4, x5, x7, x8 => if x5 < x0 then (if x3.length < 8796093022208 then (impl_allCalls.l1 k x0 (x3 ++ [(⟨x4, x5⟩ : S48)]) x4 (wrap64 (x5 + 1)) x7 x8) else (none)) else (impl_allCalls.l0 k x0 x3 x7 (wrap64 (x8 + 1)))
end
def impl_allCalls.f (k : Nat) (a0 : Int) : Option ((List (S48))) := impl_allCalls.l0 k a0 (([] : List (S48))) a0 0
theorem impl_allCalls.mono_l : ∀ k, (∀ y0 y1 y2 y3, LeO (impl_allCalls.l0 k y0 y1 y2 y3) (impl_allCalls.l0 (k + 1) y0 y1 y2 y3)) ∧ (∀ y0 y1 y2 y3 y4 y5, LeO (impl_allCalls.l1 k y0 y1 y2 y3 y4 y5) (impl_allCalls.l1 (k + 1) y0 y1 y2 y3 y4 y5))
  | 0 => ⟨fun _ _ _ _ r h => by simp [impl_allCalls.l0] at h, fun _ _ _ _ _ _ r h => by simp [impl_allCalls.l1] at h⟩
  | k + 1 => by
    obtain ⟨ih0, ih1⟩ := impl_allCalls.mono_l k
    refine ⟨?_, ?_⟩
    · intro y0 y1 y2 y3
      unfold impl_allCalls.l0
      repeat' first
      | (with_reducible exact ih0 _ _ _ _)
      | (with_reducible exact ih1 _ _ _ _ _ _)
      | (with_reducible exact LeO.refl _)
      | (with_reducible exact LeO.none _)
      | (with_reducible refine LeO.ite ?_ ?_)
      | (with_reducible refine LeO.bind ?_ (fun _ => ?_))
      | exact ih0 _ _ _ _
      | exact ih1 _ _ _ _ _ _
      | exact LeO.none _
      | refine LeO.ite ?_ ?_
      | refine LeO.bind ?_ (fun _ => ?_)
    · intro y0 y1 y2 y3 y4 y5
      unfold impl_allCalls.l1
      repeat' first
      | (with_reducible exact ih0 _ _ _ _)
      | (with_reducible exact ih1 _ _ _ _ _ _)
      | (with_reducible exact LeO.refl _)
      | (with_reducible exact LeO.none _)
      | (with_reducible refine LeO.ite ?_ ?_)
      | (with_reducible refine LeO.bind ?_ (fun _ => ?_))
      | exact ih0 _ _ _ _
      | exact ih1 _ _ _ _ _ _
      | exact LeO.none _
      | refine LeO.ite ?_ ?_
      | refine LeO.bind ?_ (fun _ => ?_)
theorem impl_allCalls.mono : ∀ a0 k, LeO (impl_allCalls.f k a0) (impl_allCalls.f (k + 1) a0) := by
  intro a0 k
  obtain ⟨ih0, ih1⟩ := impl_allCalls.mono_l k
  unfold impl_allCalls.f
  repeat' first
      | (with_reducible exact ih0 _ _ _ _)
      | (with_reducible exact ih1 _ _ _ _ _ _)
      | (with_reducible exact LeO.refl _)
      | (with_reducible exact LeO.none _)
      | (with_reducible refine LeO.ite ?_ ?_)
      | (with_reducible refine LeO.bind ?_ (fun _ => ?_))
      | exact ih0 _ _ _ _
      | exact ih1 _ _ _ _ _ _
      | exact LeO.none _
      | refine LeO.ite ?_ ?_
      | refine LeO.bind ?_ (fun _ => ?_)
set_option maxHeartbeats 8000000 in
set_option maxRecDepth 100000 in
theorem impl_allCalls.calls (k : Nat) (a0 : Int) (r : List (S48)) (w : World) (h : impl_allCalls.f k a0 = some r) :
    Calls Try.prog 85 #[.int .i64 a0] w fun e w' => ∃ v0_ : Value, e = .returned (v0_) ∧ Kd.R k48 48 w' w.heap.size (fun _ => True) v0_ r ∧ Below w.heap.size w w' := by
  have hu48 := Try.underlying48
  have HB := Aside0.mk (Below.refl w.heap.size w)
  have H : (impl_allCalls.l0 k a0 (([] : List (S48))) a0 0) = some r := h
  clear h
  obtain ⟨y140, hy140⟩ : ∃ y_ : List (S48), y_ = (([] : List (S48))) := ⟨_, rfl⟩
  replace H : (impl_allCalls.l0 k a0 y140 a0 0) = some r := by first | (rw [hy140]; with_reducible exact H) | (have H2_ := (Option.bind_some _ _).symm.trans H; rw [hy140]; with_reducible exact H2_) | (have H2_ := (Option.bind_some _ _).symm.trans H; with_reducible exact H2_) | with_reducible exact H | (rw [hy140]; exact H) | exact H
  have Ny140 := Aside0.mk hy140
  clear hy140
  have H' := Aside0.mk H
  clear H
  go_enter Try.func85, Try.ntmps85
  go_wp2_with (first | ((with_reducible refine gate_dst (N := 6) rfl ?_); refine Kd.R_lit k48 _ 48 ?hg (N := 6) ?hd (xs := ([] : List (S48))) (inner := []) (ok := fun _ => True) (okp := fun _ => True) ?hr ?hp (fun _ hk => hk) trivial (Below.refl _ _) (Nat.le_refl _) (by simp) ?_; (case hd => rfl); (case hg => rfl); (case hr => first | (go_simp; done) | (go_simp; rfl)); (case hp => exact (Reps.none _ _)); intro v141 w2 ho3 hb hg_ hnew_; clear hg_ hnew_; (first | rw [← Ny140.out] at ho3 | (simp only [Int.reduceToNat] at ho3; rw [← Ny140.out] at ho3)); have n0_ := Aside0.mk (Kd.R_lower ho3 (below_size (by repeat (first | (with_reducible first | exact HB.out | apply below_alloc | apply pw_below_drewN | apply below_drew1) | exact HB.out)))); have n1_ := Aside0.mk (below_step (by repeat (first | (with_reducible first | exact HB.out | apply below_alloc | apply pw_below_drewN | apply below_drew1) | exact HB.out)) hb); clear HB; have HO142 := n0_; have HB := n1_; clear n0_ n1_; clear hb ho3))
  go_loopg [3, 8] k (fun kq v3 v8 w' => ∃ (x3_1 : List (S48)) (x8_1 : Int), v8 = .int .i64 x8_1 ∧ Aside0 (impl_allCalls.l0 kq a0 x3_1 a0 x8_1 = some r) ∧ Aside0 (kq ≤ k) ∧ Aside0 (Kd.R k48 48 w' w.heap.size (fun _ => True) v3 x3_1) ∧ Aside0 (Below w.heap.size w w'))
  case atStart => exact ⟨(y140), (0), (by first | rfl | (simp; done) | (simp [*]; done)), H', ⟨Nat.le_refl _⟩, ⟨by (with_reducible repeat (first | apply Kd.R_alloc | apply Kd.R_drewN | apply Kd.R_drew)); exact HO142.out⟩, ⟨by repeat (first | (with_reducible first | exact HB.out | apply below_alloc | apply pw_below_drewN | apply below_drew1) | exact HB.out)⟩⟩
  case round =>
    clear H'
    try clear p2
    obtain ⟨x3_1, x8_1, rfl, HA, HK1, HO_3, HB⟩ := hrel
    cases gk with
    | zero => exact absurd HA.out (by simp [impl_allCalls.l0])
    | succ k1 =>
      have H := HA.out
      clear HA
      simp only [impl_allCalls.l0] at H
      by_cases c4 : x8_1 < a0
      · rw [if_pos c4] at H
        have c4b0 : decide (x8_1 < a0) = true := decide_eq_true c4
        clear c4
        have H' := Aside0.mk H
        clear H
        go_wp2
        go_loopg [3, 5] k1 (fun kq v3 v5 w' => ∃ (x3_2 : List (S48)) (x5_2 : Int), v5 = .int .i64 x5_2 ∧ Aside0 (impl_allCalls.l1 kq a0 x3_2 x8_1 x5_2 a0 x8_1 = some r) ∧ Aside0 (kq ≤ k1) ∧ Aside0 (Kd.R k48 48 w' w.heap.size (fun _ => True) v3 x3_2) ∧ Aside0 (Below w.heap.size w w'))
        case atStart => exact ⟨(x3_1), (wrap64 (x8_1 + 1)), (by first | rfl | (simp; done) | (simp [*]; done)), H', ⟨Nat.le_refl _⟩, ⟨by (with_reducible repeat (first | apply Kd.R_alloc | apply Kd.R_drewN | apply Kd.R_drew)); exact HO_3.out⟩, ⟨by repeat (first | (with_reducible first | exact HB.out | apply below_alloc | apply pw_below_drewN | apply below_drew1) | exact HB.out)⟩⟩
        case round =>
          clear H'
          try clear p2
          try clear c4
          try clear c4b0
          try clear p2
          obtain ⟨x3_2, x5_2, rfl, HA, HK2, HO_3, HB⟩ := hrel
          cases gk with
          | zero => exact absurd HA.out (by simp [impl_allCalls.l1])
          | succ k2 =>
            have H := HA.out
            clear HA
            simp only [impl_allCalls.l1] at H
            by_cases c5 : x5_2 < a0
            · rw [if_pos c5] at H
              have c5b0 : decide (x5_2 < a0) = true := decide_eq_true c5
              clear c5
              by_cases c6 : x3_2.length < 8796093022208
              · rw [if_pos c6] at H
                have LMc6 := Aside0.mk c6
                clear c6
                obtain ⟨y143, hy143⟩ : ∃ y_ : List (S48), y_ = (x3_2 ++ [(⟨x8_1, x5_2⟩ : S48)]) := ⟨_, rfl⟩
                replace H : (impl_allCalls.l1 k2 a0 y143 x8_1 (wrap64 (x5_2 + 1)) a0 x8_1) = some r := by first | (rw [hy143]; with_reducible exact H) | (have H2_ := (Option.bind_some _ _).symm.trans H; rw [hy143]; with_reducible exact H2_) | (have H2_ := (Option.bind_some _ _).symm.trans H; with_reducible exact H2_) | with_reducible exact H | (rw [hy143]; exact H) | exact H
                have Ny143 := Aside0.mk hy143
                clear hy143
                have H' := Aside0.mk H
                clear H
                go_wp2_with (first | ((with_reducible refine gate_builtin (b := .append) (xs := #[.tmp 18, .tmp 22]) rfl ?_); at_builtin; refine Kd.R_append k48 (w0 := w) w.heap.size rfl (.tmp 18) (.tmp 22) 31 48 (.agg #[(.int .i64 0), (.int .i64 0)]) 16 rfl Try.underlying31 info48 rfl (by decide) (by omega) u3 x3_2 (⟨x8_1, x5_2⟩ : S48) [.int .i64 x8_1, .int .i64 x5_2] (fun _ => True) (fun _ => False) rfl rfl ?aP (fun _ hk => hk.elim) ?aF ?aO ?aB ?aS ?aL ?_; (case aP => exact k48_mkM _ _ _ (⟨x8_1, x5_2⟩ : S48)); (case aB => exact (by repeat (first | (with_reducible first | exact HB.out | apply below_alloc | apply pw_below_drewN | apply below_drew1) | exact HB.out))); (case aF => exact (fun _ _ => trivial)); (case aO => exact (by (with_reducible repeat (first | apply Kd.R_alloc | apply Kd.R_drewN | apply Kd.R_drew)); exact HO_3.out)); (case aS => exact (below_size (by repeat (first | (with_reducible first | exact HB.out | apply below_alloc | apply pw_below_drewN | apply below_drew1) | exact HB.out)))); (case aL => have := LMc6.out; omega); intro v144 w7 ho hb hg hat; rw [← Ny143.out] at ho; have n0_ := Aside0.mk (hb); have n1_ := Aside0.mk (ho); clear HB; clear HO_3; have HB := n0_; have HO145 := n1_; clear n0_ n1_; clear ho hb hg hat))
                go_roundg k2
                case measure => have := HK1.out; have := HK2.out; omega
                case rel => exact ⟨(y143), (wrap64 (x5_2 + 1)), (by first | rfl | (simp; done) | (simp [*]; done)), H', ⟨by have := HK1.out; have := HK2.out; omega⟩, ⟨by (with_reducible repeat (first | apply Kd.R_alloc | apply Kd.R_drewN | apply Kd.R_drew)); exact HO145.out⟩, ⟨by repeat (first | (with_reducible first | exact HB.out | apply below_alloc | apply pw_below_drewN | apply below_drew1) | exact HB.out)⟩⟩
              · rw [if_neg c6] at H
                exact absurd H (by simp)
            · rw [if_neg c5] at H
              have c5b0 : decide (x5_2 < a0) = false := decide_eq_false c5
              clear c5
              have H' := Aside0.mk H
              clear H
              go_wp2
              go_roundg k2
              case measure => have := HK1.out; have := HK2.out; omega
              case rel => exact ⟨(x3_2), (wrap64 (x8_1 + 1)), (by first | rfl | (simp; done) | (simp [*]; done)), H', ⟨by have := HK1.out; have := HK2.out; omega⟩, ⟨by (with_reducible repeat (first | apply Kd.R_alloc | apply Kd.R_drewN | apply Kd.R_drew)); exact HO_3.out⟩, ⟨by repeat (first | (with_reducible first | exact HB.out | apply below_alloc | apply pw_below_drewN | apply below_drew1) | exact HB.out)⟩⟩
      · rw [if_neg c4] at H
        have c4b0 : decide (x8_1 < a0) = false := decide_eq_false c4
        clear c4
        obtain rfl := Option.some.inj H
        go_wp2
        go_ret
        exact ⟨_, by first | rfl | (simp [errW_none, errW_some] <;> rfl) | (simp [*, errW_none, errW_some] <;> rfl), by (with_reducible repeat (first | apply Kd.R_alloc | apply Kd.R_drewN | apply Kd.R_drew)); exact HO_3.out, by repeat (first | (with_reducible first | exact HB.out | apply below_alloc | apply pw_below_drewN | apply below_drew1) | exact HB.out)⟩

-- left out: function 88 (impl_Call_88)
-- left out: function 95 (impl_Call_95)
/-! ### slices.IndexFunc at []Call: by hand -/
theorem call_at {W : World} {A : Option Addr} {n : Nat} {l : List S48} (h : Kd.C k48 W A n l) (k : Nat) (hk : k < l.length) (hn : k < n) : ∃ ad, A = some ad ∧ W.cell? (ad.add (k * 2)) = some (.int .i64 l[k].f0) ∧ W.cell? ⟨(ad.add (k * 2)).block, (ad.add (k * 2)).off + 1, none⟩ = some (.int .i64 l[k].f1) := by
  obtain ⟨ad, e, h0, h1⟩ := at_T48 h (k : Int) (by omega) (by omega)
  have hrd : rd_T48 l (k : Int) = l[k] := by simp [rd_T48, List.getD_eq_getElem?_getD, List.getElem?_eq_getElem hk]
  rw [hrd] at h0 h1
  exact ⟨ad, e, by simpa using h0, by simpa using h1⟩
def encCall (x : S48) : Value := .agg #[.int .i64 x.f0, .int .i64 x.f1]
set_option maxHeartbeats 8000000 in
set_option maxRecDepth 100000 in
theorem indexFunc_Call (g : Nat) (lb : Array Value) (p : S48 → Option Bool) (eg : ∀ args w, (callFunc g args).run Try.prog w = .ok (.enter g args) w) (A0 : Option Addr) (c0 : Nat) (l0 : List S48) (r : Int) (w : World)
    (hp : H.Answers Try.prog g lb encCall p l0 w) (hr0 : Kd.C k48 w A0 l0.length l0) (hc0 : l0.length ≤ c0) (hl : l0.length ≤ 9223372036854775806) (h : H.idxO p l0 0 = some r) :
    Calls Try.prog 88 #[.slice A0 l0.length c0, .func (.func g) #[] lb] w fun e w' => e = .returned (.int .i64 r) ∧ Below w.heap.size w w' := by
  have hu := Try.underlying48
  have HP := Aside0.mk hp
  have HR := Aside0.mk hr0
  have HL := Aside0.mk hl
  have H' := Aside0.mk h
  clear hp hr0 hc0 hl h
  go_enter Try.func88, Try.ntmps88
  go_wp2
  go_loopg [5, 8] l0.length (fun kq v5 v8 w' => ∃ k : Nat, v8 = .int .i64 k ∧ Aside0 (k ≤ l0.length) ∧ Aside0 (l0.length - k ≤ kq) ∧ Aside0 (H.idxO p (l0.drop k) k = some r) ∧ Aside0 (Below w.heap.size w w'))
  case atStart => exact ⟨0, rfl, ⟨Nat.zero_le _⟩, ⟨by omega⟩, ⟨by simpa using H'.out⟩, ⟨Below.refl _ _⟩⟩
  case round =>
    obtain ⟨k, rfl, HK, HM, HI, HB⟩ := hrel
    by_cases hlt : k < l0.length
    · obtain ⟨b, hb, hT, hF⟩ := H.idx_step hlt HI.out
      have HT := Aside0.mk hT
      have HF := Aside0.mk hF
      clear hT hF HI
      obtain ⟨ad, e, hcell, hcell1⟩ := call_at HR.out k hlt hlt
      cases e
      replace hcell := pw_cell_below HB.out hcell
      replace hcell1 := pw_cell_below HB.out hcell1
      have HC := Aside0.mk (HP.out wr l0[k] b (List.getElem_mem _) HB.out hb)
      clear hb
      unfold encCall at HC
      generalize l0[k] = y at hcell hcell1 HC
      have hltz : (k : Int) < (l0.length : Int) := by omega
      cases b with
      | true =>
        have hr := HT.out rfl
        subst hr
        clear HT HF H'
        go_wp2_with (fail)
        refine HC.out.mono ?_
        rintro e w2 ⟨rfl, hb2⟩
        have HB2 := Aside0.mk hb2
        clear hb2
        dsimp only
        go_wp2
        go_ret
        exact ⟨rfl, below_step HB.out HB2.out⟩
      | false =>
        have hbig : l0.length ≤ 9223372036854775806 := HL.out
        replace HF := Aside0.mk (HF.out rfl)
        go_wp2_with (fail)
        refine HC.out.mono ?_
        rintro e w2 ⟨rfl, hb2⟩
        have HB2 := Aside0.mk hb2
        clear hb2
        dsimp only
        go_wp2
        go_roundg (l0.length - (k + 1))
        case measure => have := HM.out; omega
        case rel => exact ⟨k + 1, by go_num, ⟨by omega⟩, ⟨Nat.le_refl _⟩, HF, ⟨below_step HB.out HB2.out⟩⟩
    · have hke : k = l0.length := by have := HK.out; omega
      subst hke
      have hr := H.idx_end HI.out
      subst hr
      clear HI H'
      go_wp2
      go_ret
      exact ⟨rfl, HB.out⟩
/-! ### slices.DeleteFunc at []Call: by hand -/
def delO {α : Type} (p : α → Option Bool) : List α → Option (List α)
  | [] => some []
  | x :: xs => (p x).bind fun b => (delO p xs).bind fun r => some (if b = true then r else x :: r)
theorem delO_idx {α : Type} (p : α → Option Bool) : ∀ (l : List α) (i : Int) (r : List α), 0 ≤ i → delO p l = some r → ∃ j, H.idxO p l i = some j ∧ ((j = -1 ∧ r = l) ∨ ∃ k : Nat, j = i + k ∧ k < l.length ∧ ∃ rs, delO p (l.drop (k + 1)) = some rs ∧ l.take k ++ rs = r)
  | [], i, r, _, h => by
    simp only [delO, Option.some.injEq] at h
    subst h
    exact ⟨-1, rfl, .inl ⟨rfl, rfl⟩⟩
  | x :: xs, i, r, h0, h => by
    simp only [delO] at h
    obtain ⟨b, hb, h⟩ := Option.bind_eq_some_iff.1 h
    obtain ⟨r', hr', h⟩ := Option.bind_eq_some_iff.1 h
    have h := Option.some.inj h
    cases b with
    | true =>
      simp at h
      subst h
      exact ⟨i, by simp [H.idxO, hb], .inr ⟨0, by simp, by simp, r', by simpa using hr', by simp⟩⟩
    | false =>
      simp at h
      subst h
      obtain ⟨j, hj, hc⟩ := delO_idx p xs (i + 1) r' (by omega) hr'
      refine ⟨j, by simp [H.idxO, hb, hj], ?_⟩
      rcases hc with ⟨h1, h2⟩ | ⟨k, h1, h2, rs, h3, h4⟩
      · exact .inl ⟨h1, by rw [h2]⟩
      · exact .inr ⟨k + 1, by omega, by simp; omega, rs, by simpa using h3, by simp [h4]⟩
theorem delO_step {α : Type} {p : α → Option Bool} {l : List α} {k : Nat} {rs : List α} (hlt : k < l.length) (h : delO p (l.drop k) = some rs) :
    ∃ b rs', p l[k] = some b ∧ delO p (l.drop (k + 1)) = some rs' ∧ rs = if b = true then rs' else l[k] :: rs' := by
  rw [List.drop_eq_getElem_cons hlt] at h
  simp only [delO] at h
  obtain ⟨b, hb, h⟩ := Option.bind_eq_some_iff.1 h
  obtain ⟨r', hr', h⟩ := Option.bind_eq_some_iff.1 h
  exact ⟨b, r', hb, hr', (Option.some.inj h).symm⟩
theorem set_take {α : Type} (l : List α) (i : Nat) (y : α) (h : i < l.length) : (l.set i y).take (i + 1) = l.take i ++ [y] := by
  rw [List.take_succ_eq_append_getElem (by simpa using h)]
  simp [List.take_set_of_le]
theorem set_drop {α : Type} (l : List α) (i j : Nat) (y : α) (h : i < j) : (l.set i y).drop j = l.drop j := by
  rw [List.drop_set_of_lt h]
theorem call_at0 {W : World} {g0 n : Nat} {l : List S48} (h : Kd.C k48 W (some ⟨g0, 0, none⟩) n l) (k : Nat) (hk : k < l.length) (hn : k < n) : W.cell? ⟨g0, k * 2, none⟩ = some (.int .i64 l[k].f0) ∧ W.cell? ⟨g0, k * 2 + 1, none⟩ = some (.int .i64 l[k].f1) := by
  obtain ⟨ad, e, h0, h1⟩ := call_at h k hk hn
  injection e with e
  subst e
  have he : (⟨g0, 0, none⟩ : Addr).add (k * 2) = ⟨g0, k * 2, none⟩ := by
    unfold Addr.add
    by_cases hz : k * 2 = 0 <;> simp [hz]
  rw [he] at h0 h1
  exact ⟨h0, h1⟩
theorem clear_run (W : World) (g o n c : Nat) (cur : Array Value) (ty : TypeId) (hh : W.heap[g]? = some (.cells cur 48 (0, 0))) (hfit : o + (n + 1) * 2 ≤ cur.size) :
    (Builtin.clear_ #[31] ty #[.slice (some ⟨g, o, none⟩) (n + 1) c]).run Try.prog W = .ok (.tuple #[]) (W.setCells g o (Builtin.zeroCells #[.int .i64 0, .int .i64 0] (n + 1)).toList) := by
  have hu := Try.underlying31
  have hi := info48
  cases hI : Try.prog.info? 48 with
  | none => rw [hI] at hi; cases hi
  | some x =>
    rw [hI] at hi
    simp only [Option.map_some, Option.some.injEq, Prod.mk.injEq] at hi
    have hlen : (Builtin.zeroCells #[Value.int .i64 0, .int .i64 0] (n + 1)).toList.length = (n + 1) * 2 := by rw [Array.length_toList, size_zeroCells]; rfl
    have hst := run_storeCells_cells (P := Try.prog) g o (Builtin.zeroCells #[Value.int .i64 0, .int .i64 0] (n + 1)).toList 0 W (fun j hj => by rw [cell_of_row W g _ cur 48 (0, 0) hh]; simp; rw [hlen] at hj; omega) (fun j _ => blk_frozen hh _) (by
      intro v hv
      simp only [Builtin.zeroCells, Array.toList_map, List.mem_map] at hv
      obtain ⟨i, _, rfl⟩ := hv
      have h2 : i % 2 = 0 ∨ i % 2 = 1 := by omega
      rcases h2 with h2 | h2 <;> simp [h2] <;> rfl)
    simp only [Nat.add_zero] at hst
    simp [Builtin.clear_, run_underlying hu, zeroValue, typeInfo, hI, hi.1, Value.cells, hst]
theorem clear_op {P : Program} {ops : Array Oper} {rest : List Oper} {o : Oper} {a : Act} {Q : Exit → Act → World → Prop} {W W' : World} (hN : o.dst = none) (hgd : o.guard = none) (x : Operand) (t : TypeId) (ho : o.op = .call { callee := .builtin .clear, args := #[x], argTypes := #[t] }) (hrun : (Builtin.clear_ #[t] o.type #[a.eval x]).run P W = .ok (.tuple #[]) W') (h : wpList P ops Q rest a W') : wpList P ops Q (o :: rest) a W := by
  refine wpList_plain hgd fun K hK => ?_
  unfold Oper.wp execOp
  simp only [ho, List.map_toArray, List.map_cons, List.map_nil]
  simp [resolve, invoke, builtin, Sem.run_bind, hrun, Oper.upon, Act.put, hN]
  exact hK a _ h
theorem R_prefix {W W' : World} {base g n c i : Nat} {ys : List S48} (h : Kd.R k48 48 W base (fun _ => True) (.slice (some ⟨g, 0, none⟩) n c) ys) (hi : i ≤ ys.length) (hn : n = ys.length) (cur : Array Value) (hcur : W.heap[g]? = some (.cells cur 48 (0, 0))) (cur' : Array Value) (hcur' : W'.heap[g]? = some (.cells cur' 48 (0, 0))) (hsz : cur'.size = cur.size) (ht : cur'.toList.take (i * 2) = cur.toList.take (i * 2)) : Kd.R k48 48 W' base (fun _ => True) (.slice (some ⟨g, 0, none⟩) i c) (ys.take i) := by
  obtain ⟨_, inner, ⟨hl, hown⟩, hr⟩ := h
  rcases hown with ⟨he, _⟩ | ⟨g', cap, cur0, he, hb, hh, hnc, hcm, hcs, htk⟩
  · cases he
  injection he with ha hx hc
  injection ha with ha
  injection ha with hg
  subst hg; subst hc
  rw [hcur] at hh
  injection hh with hh
  injection hh with hh _ _
  subst hh
  have hlt : (ys.take i).length = i := by rw [List.length_take]; omega
  have hl' : inner.length = ys.length * 2 := hl
  refine ⟨fun _ _ => trivial, inner.take (i * 2), ⟨?_, .inr ⟨g, c, cur', by rw [hlt], hb, hcur', by omega, hcm, by rw [hsz]; exact hcs, ?_⟩⟩, ?_, ?_⟩
  · rw [hlt, List.length_take]; show min (i * 2) _ = i * 2; omega
  · rw [hlt]
    show cur'.toList.take (i * 2) = _
    rw [ht, ← htk, List.take_take]
    show _ = cur.toList.take (min (i * 2) (ys.length * 2))
    congr 1
    omega
  · rw [hlt, List.length_take]; show min (i * 2) _ = i * 2; omega
  · intro j p hj
    have hji : j < i := by
      have := List.getElem?_eq_some_iff.1 hj
      obtain ⟨h1, _⟩ := this
      omega
    rw [List.getElem?_take_of_lt hji] at hj
    have h2 := hr.2 j p hj
    have h3 := k48_openM h2
    show k48.M W' base _ p (((inner.take (i * 2)).drop (j * 2)).take 2)
    rw [List.drop_take, List.take_take, show min 2 (i * 2 - j * 2) = 2 by omega]
    have h4 : (inner.drop (j * 2)).take 2 = [.int .i64 p.f0, .int .i64 p.f1] := h3
    rw [h4]
    exact k48_mkM _ _ _ _
set_option maxHeartbeats 8000000 in
set_option maxRecDepth 100000 in
theorem deleteFunc_Call (g : Nat) (lb : Array Value) (p : S48 → Option Bool) (eg : ∀ args w, (callFunc g args).run Try.prog w = .ok (.enter g args) w) (v : Value) (l0 : List S48) (r : List S48) (w0 w : World) (hB : Below w0.heap.size w0 w)
    (hp : H.Answers Try.prog g lb encCall p l0 w0) (ho : Kd.R k48 48 w w0.heap.size (fun _ => True) v l0) (hl : l0.length ≤ 9223372036854775806) (h : delO p l0 = some r) :
    Calls Try.prog 95 #[v, .func (.func g) #[] lb] w fun e w' => ∃ v0_ : Value, e = .returned v0_ ∧ Kd.R k48 48 w' w0.heap.size (fun _ => True) v0_ r ∧ Below w0.heap.size w0 w' := by
  obtain ⟨i0, hi0, hcase⟩ := delO_idx p l0 0 r (by omega) h
  obtain ⟨A0, c0, hv0⟩ := Kd.R_slice ho
  subst hv0
  have hRd := Kd.R_reads' ho
  have hu := Try.underlying48
  have HI := Aside0.mk (indexFunc_Call g lb p eg A0 c0 l0 i0 w (fun W x b hx hW hpx => hp W x b hx (below_step hB hW) hpx) hRd.2.2 hRd.2.1 hl hi0)
  have HB := Aside0.mk hB
  have HP := Aside0.mk hp
  have HO := Aside0.mk ho
  have HL := Aside0.mk hl
  have HCS := Aside0.mk hcase
  clear hB hp ho hl h hcase hRd hi0
  go_enter Try.func95, Try.ntmps95
  by_cases hneg : i0 = -1
  · obtain ⟨_, hr⟩ : i0 = -1 ∧ r = l0 := by
      rcases HCS.out with h1 | ⟨k, h1, _⟩
      · exact h1
      · omega
    subst hr
    subst hneg
    clear HCS
    go_wp2_with (first | (go_at_call 88; refine HI.out.mono ?_; rintro e w2 ⟨rfl, hb2⟩; have HB2 := Aside0.mk hb2; clear hb2))
    go_ret
    exact ⟨_, rfl, Kd.R_below HO.out HB2.out, below_step HB.out HB2.out⟩
  · obtain ⟨k, hk_, hkl, rs, hrs, hcat⟩ : ∃ k : Nat, i0 = 0 + k ∧ k < l0.length ∧ ∃ rs, delO p (l0.drop (k + 1)) = some rs ∧ l0.take k ++ rs = r := by
      rcases HCS.out with h1 | h1
      · exact absurd h1.1 hneg
      · exact h1
    have hk : i0 = (k : Int) := by omega
    clear hk_
    subst hk
    clear HCS
    have HKL := Aside0.mk hkl
    have HRS := Aside0.mk hrs
    have HCT := Aside0.mk hcat
    obtain ⟨g0, hg0⟩ : ∃ g0, A0 = some ⟨g0, 0, none⟩ := by
      obtain ⟨_, inner, ⟨_, hown⟩, _⟩ := HO.out
      rcases hown with ⟨he, hn⟩ | ⟨g', cap, cur, he, _⟩
      · omega
      · injection he with he1 he2 he3
        exact ⟨g', he1⟩
    subst hg0
    clear hrs hcat hneg
    have hkz : (k : Int) < (l0.length : Int) := by omega
    have hk0 : ((k : Int) == -1) = false := by simp
    clear hkl
    have hbig : l0.length ≤ 9223372036854775806 := HL.out
    go_wp2_with (first | (go_at_call 88; refine HI.out.mono ?_; rintro e w2 ⟨rfl, hb2⟩; have HB2 := Aside0.mk hb2; clear hb2))
    have HB3 := Aside0.mk (below_step HB.out HB2.out)
    have HO3 := Aside0.mk (Kd.R_below HO.out HB2.out)
    clear HI HB HO HB2
    go_loopg [5, 6, 7] l0.length (fun kq v5 v6 v7 w' => ∃ (i j : Nat) (ys rs : List S48), v5 = .int .i64 i ∧ v6 = .int .i64 j ∧ Aside0 (i < j ∧ j ≤ l0.length) ∧ Aside0 (l0.length - j ≤ kq) ∧ Aside0 (ys.length = l0.length) ∧ Aside0 (delO p (l0.drop j) = some rs) ∧ Aside0 (ys.take i ++ rs = r) ∧ Aside0 (ys.drop j = l0.drop j) ∧ Aside0 (Kd.R k48 48 w' w0.heap.size (fun _ => True) (.slice (some ⟨g0, 0, none⟩) l0.length c0) ys) ∧ Aside0 (Below w0.heap.size w0 w'))
    case atStart => exact ⟨k, k + 1, l0, rs, rfl, by go_num, ⟨by omega⟩, ⟨by omega⟩, ⟨rfl⟩, HRS, HCT, ⟨rfl⟩, HO3, HB3⟩
    case round =>
      clear HRS HCT HO3 HB3 HKL
      obtain ⟨i, j, ys, rs, rfl, rfl, HIJ, HM, HY, HD, HT, HE, HO, HB⟩ := hrel
      by_cases hlt : j < l0.length
      · obtain ⟨b, rs', hb, hrs', hrs⟩ := delO_step hlt HD.out
        have HD' := Aside0.mk hrs'
        subst hrs
        have hlj : ys[j]'(by have := HY.out; omega) = l0[j] := by
          have h1 := HE.out
          have h2 := List.drop_eq_getElem_cons (l := ys) (i := j) (by have := HY.out; omega)
          rw [h1, List.drop_eq_getElem_cons hlt] at h2
          injection h2 with h2 _
          exact h2.symm
        obtain ⟨hcell, hcell1⟩ := call_at0 (Kd.R_reads' HO.out).2.2 j (by have := HY.out; omega) (by have := HY.out; omega)
        rw [hlj] at hcell hcell1
        have HX := Aside0.mk hb
        clear hb hrs' HD
        have hltz : (j : Int) < (l0.length : Int) := by omega
        have hsz := Aside0.mk HB.out.size
        go_wp2_with (fail)
        have HC := Aside0.mk (HP.out (wr.alloc (.cells #[.int .i64 l0[j].f0, .int .i64 l0[j].f1] 48)) l0[j] b (List.getElem_mem _) (below_alloc HB.out _) HX.out)
        unfold encCall at HC
        refine HC.out.mono ?_
        clear HC
        rintro e w2 ⟨rfl, hb2⟩
        have HBK := Aside0.mk (blk_below (blk_new wr (.cells #[.int .i64 l0[j].f0, .int .i64 l0[j].f1] 48)) hb2)
        have HO2 := Aside0.mk (Kd.R_below (Kd.R_alloc HO.out (.cells #[.int .i64 l0[j].f0, .int .i64 l0[j].f1] 48)) hb2)
        have HB2 := Aside0.mk (below_step (below_alloc HB.out (.cells #[.int .i64 l0[j].f0, .int .i64 l0[j].f1] 48)) hb2)
        have c70 : w2.cell? ⟨wr.heap.size, 0, none⟩ = some (.int .i64 l0[j].f0) := (blk_cell HBK.out 0).trans rfl
        have c71 : w2.cell? ⟨wr.heap.size, 1, none⟩ = some (.int .i64 l0[j].f1) := (blk_cell HBK.out 1).trans rfl
        clear hb2 HO HB HX hcell hcell1
        have HLJ := Aside0.mk hlj
        clear hlj
        dsimp only
        cases b with
        | true =>
          go_wp2
          go_roundg (l0.length - (j + 1))
          case measure => have := HM.out; omega
          case rel => exact ⟨i, j + 1, ys, rs', rfl, by go_num, ⟨by have := HIJ.out; omega⟩, ⟨Nat.le_refl _⟩, HY, HD', ⟨by simpa using HT.out⟩, ⟨by rw [← List.drop_drop, HE.out, List.drop_drop]⟩, HO2, HB2⟩
        | false =>
          have hiltz : (i : Int) < (l0.length : Int) := by have := HIJ.out; omega
          go_wp2_with (first | ((with_reducible refine gate_ (.store 48 (.tmp 33) (.tmp 32)) rfl ?_); refine Kd.R_store k48 (w0 := w0) w0.heap.size rfl rfl 48 (.tmp 33) (.tmp 32) rfl 48 (g := g0) (n := l0.length) (cap := c0) (o' := i * 2) (i : Int) 0 ys l0[j] (.agg #[.int .i64 l0[j].f0, .int .i64 l0[j].f1]) [.int .i64 l0[j].f0, .int .i64 l0[j].f1] [.int .i64 (ys[i]'(by have := HIJ.out; have := HY.out; omega)).f0, .int .i64 (ys[i]'(by have := HIJ.out; have := HY.out; omega)).f1] (fun _ => True) (fun _ => False) rfl (by simp; rfl) rfl rfl ?sT ?s1 HO2.out (by omega) hiltz rfl ?sC (show 0 + 2 ≤ 2 from Nat.le_refl 2) (k48_mkM _ _ _ _) (fun _ h_ => h_.elim) HB2.out ?_; (case sT => exact (by have h_ := info48; cases hI : Try.prog.info? 48 with | none => rw [hI] at h_; cases h_ | some x => rw [hI] at h_; simp only [Option.map_some, Option.some.injEq, Prod.mk.injEq] at h_ ⊢; exact h_.2.1)); (case s1 => exact (by intro q hq; simp at hq; rcases hq with rfl | rfl <;> rfl)); (case sC => exact (by
            have hc := call_at0 (Kd.R_reads' HO2.out).2.2 i (by have := HIJ.out; have := HY.out; omega) (by have := HIJ.out; have := HY.out; omega)
            intro q u hq
            match q, hq with
            | 0, hq => simp at hq; subst hq; exact hc.1
            | 1, hq => simp at hq; subst hq; exact hc.2
            | q + 2, hq => simp at hq)); intro w3 ho hb hg; have HO3 := Aside0.mk ho; have HB3 := Aside0.mk hb; clear ho hb hg))
          go_roundg (l0.length - (j + 1))
          case measure => have := HM.out; omega
          case rel => exact ⟨i + 1, j + 1, ys.set i l0[j], rs', by go_num, by go_num, ⟨by have := HIJ.out; omega⟩, ⟨Nat.le_refl _⟩, ⟨by rw [List.length_set]; exact HY.out⟩, HD', ⟨by rw [set_take _ _ _ (by have := HIJ.out; have := HY.out; omega)]; simpa using HT.out⟩, ⟨by rw [set_drop _ _ _ _ (by have := HIJ.out; omega), ← List.drop_drop, HE.out, List.drop_drop]⟩, HO3, HB3⟩
      · have hje : j = l0.length := by have := HIJ.out; omega
        subst hje
        have hr : ys.take i = r := by
          have h1 := HD.out
          have h2 := HT.out
          rw [List.drop_length] at h1
          simp only [delO, Option.some.injEq] at h1
          subst h1
          simpa using h2
        have HR := Aside0.mk hr
        have hil : i < l0.length := HIJ.out.1
        have HIL := Aside0.mk hil
        clear HT HD HE HM hlt hr hil
        have hiltz : (i : Int) < (l0.length : Int) := by have := HIL.out; omega
        have hnlt : ¬ ((l0.length : Int) < (l0.length : Int)) := by omega
        obtain ⟨cur, hcur, hcs, hcc⟩ : ∃ cur : Array Value, wr.heap[g0]? = some (.cells cur 48 (0, 0)) ∧ cur.size = c0 * 2 ∧ l0.length ≤ c0 := by
          obtain ⟨_, inner, ⟨_, hown⟩, _⟩ := HO.out
          rcases hown with ⟨he, _⟩ | ⟨g', cap, cur, he, _, hh, hnc, _, hcs, _⟩
          · cases he
          injection he with ha hx hc
          injection ha with ha
          injection ha with hg
          subst hg; subst hc
          exact ⟨cur, hh, hcs, by have := HY.out; omega⟩
        have hi0 : (0 : Int) ≤ (i : Int) := Int.natCast_nonneg i
        have hel : Try.prog.elem 31 = 48 := by simp [Program.elem, Try.underlying31]
        have hsz0 : ∀ W, (sizeOf (Try.prog.elem 31)).run Try.prog W = .ok 2 W := by
          intro W
          have h_ := info48
          rw [hel]
          cases hI : Try.prog.info? 48 with
          | none => rw [hI] at h_; cases h_
          | some x =>
            rw [hI] at h_
            simp only [Option.map_some, Option.some.injEq, Prod.mk.injEq] at h_
            simp [sizeOf, typeInfo, hI, h_.2.1]
        have hut : Try.prog.underlying 31 = some (.slice (Try.prog.elem 31)) := by rw [hel]; exact Try.underlying31
        have hcutL : ∀ W : World, (Instr.slice 31 (.slice (some ⟨g0, 0, none⟩) l0.length c0) (some (.int .i64 (i : Int))) none none).run Try.prog W = .ok (.slice (some ⟨g0, i * 2, none⟩) (l0.length - i) (c0 - i)) W := by
          intro W
          rw [run_slice_l W 31 _ _ _ hut .i64 (i : Int) hi0 (by omega), hsz0]
          have hne : ¬ c0 = i := by omega
          have he : (⟨g0, 0, none⟩ : Addr).add (i * 2) = ⟨g0, i * 2, none⟩ := by
            unfold Addr.add
            by_cases hz : i * 2 = 0 <;> simp [hz]
          simp [sliced, Result.andThen, hne, he]
        have hcutH : ∀ W : World, (Instr.slice 31 (.slice (some ⟨g0, 0, none⟩) l0.length c0) none (some (.int .i64 (i : Int))) none).run Try.prog W = .ok (.slice (some ⟨g0, 0, none⟩) i c0) W := by
          intro W
          rw [run_slice_h W 31 _ _ _ hut .i64 (i : Int) hi0 (by omega), hsz0]
          have he : (⟨g0, 0, none⟩ : Addr).add 0 = ⟨g0, 0, none⟩ := by simp [Addr.add]
          simp [sliced, Result.andThen, he]
        obtain ⟨m, hm⟩ : ∃ m, l0.length - i = m + 1 := ⟨l0.length - i - 1, by omega⟩
        have hclr := clear_run wr g0 (i * 2) m (c0 - i) cur 0 hcur (by omega)
        rw [← hm] at hclr
        have hzl : (Builtin.zeroCells #[Value.int .i64 0, .int .i64 0] (l0.length - i)).toList.length = (l0.length - i) * 2 := by rw [Array.length_toList, size_zeroCells]; rfl
        obtain ⟨cur', hcur', hcs', hct'⟩ := setCells_row (Builtin.zeroCells #[Value.int .i64 0, .int .i64 0] (l0.length - i)).toList (i * 2) wr cur hcur (by rw [hzl]; omega)
        have HRR := Aside0.mk (R_prefix (W' := wr.setCells g0 (i * 2) (Builtin.zeroCells #[Value.int .i64 0, .int .i64 0] (l0.length - i)).toList) HO.out (i := i) (by have := HY.out; omega) HY.out.symm cur hcur cur' hcur' hcs' (by rw [hct', List.append_assoc, List.take_append_of_le_length (by rw [List.length_take, Array.length_toList]; omega), List.take_take, Nat.min_self]))
        have HG0 : w0.heap.size ≤ g0 := Kd.R_base HO.out g0 (by simp [Value.ownBlock])
        have HBR := Aside0.mk (show Below w0.heap.size w0 (wr.setCells g0 (i * 2) (Builtin.zeroCells #[Value.int .i64 0, .int .i64 0] (l0.length - i)).toList) from by
          obtain ⟨s1, s2, s3, s4⟩ := setCells_same g0 (Builtin.zeroCells #[Value.int .i64 0, .int .i64 0] (l0.length - i)).toList (i * 2) wr
          exact ⟨by rw [s1]; exact HB.out.os, by rw [s2]; exact HB.out.tape, by rw [s3]; exact HB.out.output, by rw [s4]; exact HB.out.size, fun q hq => by rw [setCells_far _ _ q (by omega)]; exact HB.out.block q hq⟩)
        rw [HR.out] at HRR
        have HCL := Aside0.mk hclr
        clear hclr hcur hcur' hcs' hct' hzl hm HG0 hcs hsz0 hut hel
        generalize wr.setCells g0 (i * 2) (Builtin.zeroCells #[Value.int .i64 0, .int .i64 0] (l0.length - i)).toList = wz at HCL HRR HBR
        go_wp2_with (first | ((with_reducible refine gate_builtin (b := .clear) (xs := #[.tmp 38]) rfl ?_); refine clear_op rfl rfl (.tmp 38) 31 rfl HCL.out ?_))
        go_ret
        exact ⟨_, rfl, HRR.out, HBR.out⟩
/-! ### impl_newCalls: by hand: the closure, and slices.DeleteFunc over it -/
def impl_newCalls.p (l : List Int) (x : S48) : Option Bool := if 0 ≤ x.f0 then (if x.f0 < (l.length : Int) then (if 0 ≤ x.f1 then (if x.f1 < (l.length : Int) then some ((Go.bits .and .i64 (shr .i64 (rd l x.f0) x.f1) 1 == 1) && (Go.bits .and .i64 (shr .i64 (rd l x.f1) x.f0) 1 == 1)) else none) else none) else none) else none
def impl_newCalls.f (k : Nat) (l0 : List Int) : Option (List S48) := (impl_allCalls.f k (l0.length : Int)).bind fun t => if t.length ≤ 9223372036854775806 then delO (impl_newCalls.p l0) t else none
theorem impl_newCalls.mono : ∀ a0 k, LeO (impl_newCalls.f k a0) (impl_newCalls.f (k + 1) a0) := by
  intro a0 k
  unfold impl_newCalls.f
  exact LeO.bind (impl_allCalls.mono _ _) (fun _ => LeO.refl _)
set_option maxHeartbeats 8000000 in
set_option maxRecDepth 100000 in
theorem impl_newCalls.one (l : List Int) (x : S48) (b : Bool) (W : World) (g1 : Nat) (A : Option Addr) (c : Nat) (h1 : W.heap[g1]? = some (.cells #[.slice A l.length c] 22 (0, 0))) (hr : Kd.C (Kd.int .i64) W A l.length l)
    (h : impl_newCalls.p l x = some b) :
    Calls Try.prog 96 (#[encCall x] ++ #[.pointer (some ⟨g1, 0, none⟩)]) W fun e w' => e = .returned (.bool b) ∧ Below W.heap.size W w' := by
  obtain ⟨a, d⟩ := x
  unfold impl_newCalls.p at h
  dsimp only at h
  by_cases q0 : 0 ≤ a
  · rw [if_pos q0] at h
    by_cases q1 : a < (l.length : Int)
    · rw [if_pos q1] at h
      by_cases q2 : 0 ≤ d
      · rw [if_pos q2] at h
        by_cases q3 : d < (l.length : Int)
        · rw [if_pos q3] at h
          have hb := Option.some.inj h
          clear h
          have hu := Try.underlying48
          have cst : W.cell? ⟨g1, 0, none⟩ = some (.slice A l.length c) := (blk_cell h1 0).trans rfl
          clear h1
          obtain ⟨ad, e1, hx1⟩ := Kd.at_int hr a q0 q1
          obtain ⟨ad', e2, hx2⟩ := Kd.at_int hr d q2 q3
          subst e1
          injection e2 with e2
          subst e2
          clear hr
          obtain ⟨j1, hj1⟩ : ∃ j_ : Int, shr .i64 (rd l a) d = j_ := ⟨_, rfl⟩
          obtain ⟨j2, hj2⟩ : ∃ j_ : Int, shr .i64 (rd l d) a = j_ := ⟨_, rfl⟩
          rw [hj1, hj2] at hb
          have hj1_ : ((rd l a) / 2 ^ min d.toNat 64) = j1 := hj1
          have hj1z : d ≤ 64 → ((rd l a) / 2 ^ d.toNat) = j1 := shr_small hj1
          have hj2_ : ((rd l d) / 2 ^ min a.toNat 64) = j2 := hj2
          have hj2z : a ≤ 64 → ((rd l d) / 2 ^ a.toNat) = j2 := shr_small hj2
          have p0 := eq_true q0
          have p1 := eq_true q1
          have p2 := eq_true q2
          have p3 := eq_true q3
          have d0 : decide (0 ≤ a) = true := decide_eq_true q0
          have d1 : decide (a < (l.length : Int)) = true := decide_eq_true q1
          have d2 : decide (0 ≤ d) = true := decide_eq_true q2
          have d3 : decide (d < (l.length : Int)) = true := decide_eq_true q3
          clear q0 q1 q2 q3
          unfold encCall
          simp only [List.push_toArray, List.append_toArray, List.cons_append, List.nil_append]
          by_cases e1 : (Go.bits .and .i64 j1 1) = 1
          · have f1 : (Go.bits .and .i64 j1 1 == 1) = true := beq_iff_eq.mpr e1
            rw [f1, Bool.true_and] at hb
            subst hb
            clear e1
            go_enter Try.func96, Try.ntmps96
            go_wp2
            have hB1 : Below W.heap.size W (W.alloc (.cells #[.int .i64 a, .int .i64 d] 48)) := below_alloc (Below.refl _ _) _
            have hbx := blk_new W (.cells #[.int .i64 a, .int .i64 d] 48)
            replace cst := pw_cell_below hB1 cst
            replace hx1 := pw_cell_below hB1 hx1
            replace hx2 := pw_cell_below hB1 hx2
            have cb0 : (W.alloc (.cells #[.int .i64 a, .int .i64 d] 48)).cell? ⟨W.heap.size, 0, none⟩ = some (.int .i64 a) := (blk_cell hbx 0).trans rfl
            have cb1 : (W.alloc (.cells #[.int .i64 a, .int .i64 d] 48)).cell? ⟨W.heap.size, 1, none⟩ = some (.int .i64 d) := (blk_cell hbx 1).trans rfl
            have HB1 := Aside0.mk hB1
            clear hB1 hbx
            generalize W.alloc (.cells #[.int .i64 a, .int .i64 d] 48) = W1 at *
            repeat (go_quiet (fail); try go_wp2)
            go_ret
            exact ⟨by first | rfl | (simp only [← hj1, ← hj2] <;> first | rfl | simp) | (simp [*]; done), by repeat (first | exact HB1.out | apply below_alloc | apply pw_below_drewN | apply below_drew1)⟩
          · have f1 : (Go.bits .and .i64 j1 1 == 1) = false := beq_eq_false_iff_ne.mpr e1
            rw [f1, Bool.false_and] at hb
            subst hb
            clear e1
            go_enter Try.func96, Try.ntmps96
            go_wp2
            have hB1 : Below W.heap.size W (W.alloc (.cells #[.int .i64 a, .int .i64 d] 48)) := below_alloc (Below.refl _ _) _
            have hbx := blk_new W (.cells #[.int .i64 a, .int .i64 d] 48)
            replace cst := pw_cell_below hB1 cst
            replace hx1 := pw_cell_below hB1 hx1
            replace hx2 := pw_cell_below hB1 hx2
            have cb0 : (W.alloc (.cells #[.int .i64 a, .int .i64 d] 48)).cell? ⟨W.heap.size, 0, none⟩ = some (.int .i64 a) := (blk_cell hbx 0).trans rfl
            have cb1 : (W.alloc (.cells #[.int .i64 a, .int .i64 d] 48)).cell? ⟨W.heap.size, 1, none⟩ = some (.int .i64 d) := (blk_cell hbx 1).trans rfl
            have HB1 := Aside0.mk hB1
            clear hB1 hbx
            generalize W.alloc (.cells #[.int .i64 a, .int .i64 d] 48) = W1 at *
            repeat (go_quiet (fail); try go_wp2)
            go_ret
            exact ⟨by first | rfl | (simp only [← hj1, ← hj2] <;> first | rfl | simp) | (simp [*]; done), by repeat (first | exact HB1.out | apply below_alloc | apply pw_below_drewN | apply below_drew1)⟩
        · rw [if_neg q3] at h; cases h
      · rw [if_neg q2] at h; cases h
    · rw [if_neg q1] at h; cases h
  · rw [if_neg q0] at h; cases h
set_option maxHeartbeats 8000000 in
set_option maxRecDepth 100000 in
theorem impl_newCalls.calls (k : Nat) (A0 : Option Addr) (c0 : Nat) (l0 : List Int) (r : List (S48)) (w : World) (hr0 : Kd.C (Kd.int .i64) w A0 l0.length l0) (hc0 : l0.length ≤ c0) (h : impl_newCalls.f k l0 = some r) :
    Calls Try.prog 61 #[.slice A0 l0.length c0] w fun e w' => ∃ v0_ : Value, e = .returned (v0_) ∧ Kd.R k48 48 w' w.heap.size (fun _ => True) v0_ r ∧ Below w.heap.size w w' := by
  obtain ⟨t, ht, h⟩ := Option.bind_eq_some_iff.mp h
  by_cases hl : t.length ≤ 9223372036854775806
  · rw [if_pos hl] at h
    have HT := Aside0.mk ht
    have HD := Aside0.mk h
    have HL := Aside0.mk hl
    have HR := Aside0.mk hr0
    clear ht h hl hr0 hc0
    have eg : ∀ args w, (callFunc 96 args).run Try.prog w = .ok (.enter 96 args) w := _root_.Go.Proofs.enters_of Try.func96 (by kernel_rfl) rfl
    have EG := Aside0.mk eg
    clear eg
    have HB1 := Aside0.mk (show Below w.heap.size w (w.alloc (.cells #[.slice A0 l0.length c0] 22)) from below_alloc (Below.refl _ _) _)
    have HX := Aside0.mk (blk_new w (.cells #[.slice A0 l0.length c0] 22))
    go_enter Try.func61, Try.ntmps61
    go_wp2_with (fail)
    refine (impl_allCalls.calls k (l0.length : Int) t _ HT.out).mono ?_
    rintro e w2 ⟨v1, rfl, ho, hb⟩
    have HO := Aside0.mk ho
    have HB := Aside0.mk hb
    clear ho hb
    dsimp only
    obtain ⟨A1, c1, hv1⟩ := Kd.R_slice HO.out
    subst hv1
    go_wp2_with (fail)
    refine (deleteFunc_Call 96 _ (impl_newCalls.p l0) EG.out _ t r _ _ HB.out ?hp HO.out HL.out HD.out).mono ?_
    case hp =>
      intro W x b' _ hB hx
      refine impl_newCalls.one l0 x b' W w.heap.size A0 c0 ?_ ?_ hx
      · exact blk_below HX.out hB
      · exact Kd.C_below (Kd.C_below HR.out HB1.out) hB
    rintro e w3 ⟨v2, rfl, ho, hb⟩
    have HO3 := Aside0.mk ho
    have HB3 := Aside0.mk (below_step HB1.out hb)
    clear ho hb
    dsimp only
    go_wp2
    go_ret
    exact ⟨_, rfl, Kd.R_lower HO3.out (by simp), HB3.out⟩
  · rw [if_neg hl] at h; cases h

/-! ### impl_NewCalls: function 19 -/
def impl_NewCalls.f (k : Nat) (l0 : List Int) : Option ((List (S48))) := (impl_StateOk.f k l0).bind fun t146 => (if t146 = true then ((impl_newCalls.f k l0).bind fun t147 => (some t147)) else (some ([] : List (S48))))
theorem impl_NewCalls.mono : ∀ a0 k, LeO (impl_NewCalls.f k a0) (impl_NewCalls.f (k + 1) a0) := by
  intro a0 k
  unfold impl_NewCalls.f
  repeat' first
      | (with_reducible exact impl_StateOk.mono _ _)
      | (with_reducible exact impl_newCalls.mono _ _)
      | (with_reducible exact LeO.refl _)
      | (with_reducible exact LeO.none _)
      | (with_reducible refine LeO.ite ?_ ?_)
      | (with_reducible refine LeO.bind ?_ (fun _ => ?_))
      | exact impl_StateOk.mono _ _
      | exact impl_newCalls.mono _ _
      | exact LeO.none _
      | refine LeO.ite ?_ ?_
      | refine LeO.bind ?_ (fun _ => ?_)
set_option maxHeartbeats 8000000 in
set_option maxRecDepth 100000 in
theorem impl_NewCalls.calls (k : Nat) (A0 : Option Addr) (c0 : Nat) (l0 : List Int) (r : List (S48)) (w : World) (hr0 : Kd.C (Kd.int .i64) w A0 l0.length l0) (hc0 : l0.length ≤ c0) (h : impl_NewCalls.f k l0 = some r) :
    Calls Try.prog 19 #[.slice A0 l0.length c0] w fun e w' => ∃ v0_ : Value, e = .returned (v0_) ∧ Kd.R k48 48 w' w.heap.size (fun _ => True) v0_ r ∧ Below w.heap.size w w' := by
  have HR0 := Aside0.mk hr0
  have HC0 := Aside0.mk hc0
  clear hr0 hc0
  have HB := Aside0.mk (Below.refl w.heap.size w)
  have H : ((impl_StateOk.f k l0).bind fun t146 => (if t146 = true then ((impl_newCalls.f k l0).bind fun t147 => (some t147)) else (some ([] : List (S48))))) = some r := h
  clear h
  replace H := Option.bind_eq_some_iff.mp H
  obtain ⟨t146, A20, H⟩ := H
  replace H : (if t146 = true then ((impl_newCalls.f k l0).bind fun t147 => (some t147)) else (some ([] : List (S48)))) = some r := H
  have A2 := Aside0.mk A20
  clear A20
  by_cases c3 : t146 = true
  · subst c3
    have H1 : ((impl_newCalls.f k l0).bind fun t147 => (some t147)) = some r := by rw [if_pos rfl] at H; exact H
    clear H
    have H := H1
    clear H1
    replace H := Option.bind_eq_some_iff.mp H
    obtain ⟨t147, A40, H⟩ := H
    replace H : (some t147) = some r := H
    have A4 := Aside0.mk A40
    clear A40
    obtain rfl := Option.some.inj H
    go_enter Try.func19, Try.ntmps19
    go_wp2_with (first | ((with_reducible refine gate_callee (f := 46) rfl ?_); refine goesL_ (some 4) rfl rfl Try.func46 (by kernel_rfl) rfl #[.slice A0 l0.length c0] rfl (by (try simp only [List.map_toArray, List.map_cons, List.map_nil]); first | done | rfl | (simp only [List.length_drop, List.length_take]; rfl)) ?_; (with_reducible refine (impl_StateOk.calls k _ _ l0 true _ ?side1 ?side2 A2.out).mono ?_); (case side1 => repeat (first | exact HR0.out | (with_reducible refine Kd.C_alloc ?_ _) | (with_reducible refine Kd.C_drewN ?_ _) | (with_reducible refine Kd.C_drew ?_))); (case side2 => exact HC0.out); rintro e w' ⟨rfl, ⟨nd, rfl⟩⟩; refine ⟨_, rfl, ?_⟩) | ((with_reducible refine gate_callee (f := 61) rfl ?_); refine goesL_ (some 7) rfl rfl Try.func61 (by kernel_rfl) rfl #[.slice A0 l0.length c0] rfl (by (try simp only [List.map_toArray, List.map_cons, List.map_nil]); first | done | rfl | (simp only [List.length_drop, List.length_take]; rfl)) ?_; (with_reducible refine (impl_newCalls.calls k _ _ l0 t147 _ ?side1 ?side2 A4.out).mono ?_); (case side1 => repeat (first | exact HR0.out | (with_reducible refine Kd.C_alloc ?_ _) | (with_reducible refine Kd.C_drewN ?_ _) | (with_reducible refine Kd.C_drew ?_))); (case side2 => exact HC0.out); rintro e w5 ⟨v148, rfl, ho0, hb⟩; refine ⟨_, rfl, ?_⟩; have n0_ := Aside0.mk (Kd.R_lower ho0 (below_size (by repeat (first | (with_reducible first | exact HB.out | apply below_alloc | apply pw_below_drewN | apply below_drew1) | exact HB.out)))); have n1_ := Aside0.mk (below_step (by repeat (first | (with_reducible first | exact HB.out | apply below_alloc | apply pw_below_drewN | apply below_drew1) | exact HB.out)) hb); clear HB; have HO149 := n0_; have HB := n1_; clear n0_ n1_; (try clear hb); (try clear hb2); (try clear hk); (try clear hi); (try clear ho0)))
    go_ret
    exact ⟨_, by first | rfl | (simp [errW_none, errW_some] <;> rfl) | (simp [*, errW_none, errW_some] <;> rfl), by (with_reducible repeat (first | apply Kd.R_alloc | apply Kd.R_drewN | apply Kd.R_drew)); exact HO149.out, by repeat (first | (with_reducible first | exact HB.out | apply below_alloc | apply pw_below_drewN | apply below_drew1) | exact HB.out)⟩
  · replace c3 := Bool.eq_false_iff.mpr c3
    subst c3
    have H1 : (some ([] : List (S48))) = some r := by rw [if_neg (show ¬ (false = true) by decide)] at H; exact H
    clear H
    have H := H1
    clear H1
    obtain rfl := Option.some.inj H
    go_enter Try.func19, Try.ntmps19
    go_wp2_with (first | ((with_reducible refine gate_callee (f := 46) rfl ?_); refine goesL_ (some 4) rfl rfl Try.func46 (by kernel_rfl) rfl #[.slice A0 l0.length c0] rfl (by (try simp only [List.map_toArray, List.map_cons, List.map_nil]); first | done | rfl | (simp only [List.length_drop, List.length_take]; rfl)) ?_; (with_reducible refine (impl_StateOk.calls k _ _ l0 false _ ?side1 ?side2 A2.out).mono ?_); (case side1 => repeat (first | exact HR0.out | (with_reducible refine Kd.C_alloc ?_ _) | (with_reducible refine Kd.C_drewN ?_ _) | (with_reducible refine Kd.C_drew ?_))); (case side2 => exact HC0.out); rintro e w' ⟨rfl, ⟨nd, rfl⟩⟩; refine ⟨_, rfl, ?_⟩))
    go_ret
    exact ⟨_, by first | rfl | (simp [errW_none, errW_some] <;> rfl) | (simp [*, errW_none, errW_some] <;> rfl), by first | exact Kd.R_nil _ _ _ _ _ | exact Kd.N_nil _ _ _ _ _ | exact Kd.V_nil _ _ _ _ _ | exact Kd.Q_nil _ _ _ _ _ | exact Kd.S_nil _ _ _ _ _, by repeat (first | (with_reducible first | exact HB.out | apply below_alloc | apply pw_below_drewN | apply below_drew1) | exact HB.out)⟩

end Go.Proofs.Ythibhcohcbgdpaa.PFnExactNewCalls
