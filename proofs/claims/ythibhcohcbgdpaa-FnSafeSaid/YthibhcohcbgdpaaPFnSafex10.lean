-- laid by myprint.py (a program of this session's, over the kit's printer)
import Derived.Test.YthibhcohcbgdpaaPFnSafex0
import Derived.Test.YthibhcohcbgdpaaPFnSafex1
import Derived.Test.YthibhcohcbgdpaaPFnSafex4
import Derived.Test.YthibhcohcbgdpaaPFnSafex8
import Derived.Test.YthibhcohcbgdpaaPFnSafex9
namespace Go.Proofs.Ythibhcohcbgdpaa.PFnSafe
open Go.RowKit Go.Proofs.Ythibhcohcbgdpaa.H Go.Proofs.YthibhcohcbgdpaaW.PrintWords Go.Proofs.YthibhcohcbgdpaaW.PrintLast Go.Proofs.YthibhcohcbgdpaaW.PrintMore
attribute [local go_sem] max2_int min2_int max_two min_two max_three min_three max_four min_four   -- for this text's walks alone
set_option linter.unusedVariables false
set_option linter.unusedSimpArgs false

/-! ### laws_FnSafe: function 7 -/
def laws_FnSafe.j0 : Nat → Bool → Option (Bool)
  | 0, _ => none
  | k + 1, x71 => if x71 = true then (some false) else ((impl_IsSafe.f k 3 3 1 (([7, 25, 42, 52, 76, 82, 97] : List Int))).bind fun t323 => (if t323 = true then ((impl_IsSafe.f k 3 3 1 (([7, 25] : List Int))).bind fun t327 => (some (!t327))) else (some false)))
def laws_FnSafe.f (k : Nat) (l0 : List Int) : Option (Bool) := if (l0.length : Int) > 1048576 then (some true) else ((spec_MakeDeal.f k l0).bind fun bt299 => ((impl_HandsOf.f k bt299.1 bt299.2.1 bt299.2.2).bind fun t303 => ((spec_MakeNum.f k l0 20).bind fun t306 => (if (t303.length : Int) = 0 then (some false) else ((spec_MakeNum.f k l0 22).bind fun t307 => (if 0 ≤ (Int.tmod t307 (t303.length : Int)) then (if (Int.tmod t307 (t303.length : Int)) < (t303.length : Int) then ((impl_FirstSafe.f k bt299.1 bt299.2.1 bt299.2.2 (rd t303 (Int.tmod t307 (t303.length : Int))) (wrap64 (1 + (Int.tmod t306 4)))).bind fun bt309 => ((spec_FirstSafe.f k bt299.1 bt299.2.1 bt299.2.2 (rd t303 (Int.tmod t307 (t303.length : Int))) (wrap64 (1 + (Int.tmod t306 4)))).bind fun bt313 => (if (bt309.2 != bt313.2) = true then (laws_FnSafe.j0 k true) else (if bt309.2 = true then (if (bt309.1.length : Int) = (wrap64 (1 + (Int.tmod t306 4))) then ((laws_has.f k bt309.1 (rd t303 (Int.tmod t307 (t303.length : Int)))).bind fun t317 => (if t317 = true then ((impl_IsSafe.f k bt299.1 bt299.2.1 bt299.2.2 bt309.1).bind fun t318 => (laws_FnSafe.j0 k (!t318))) else (laws_FnSafe.j0 k true))) else (laws_FnSafe.j0 k true)) else (laws_FnSafe.j0 k false))))) else (none)) else (none)))))))
theorem laws_FnSafe.mono_l : ∀ k, (∀ y0, LeO (laws_FnSafe.j0 k y0) (laws_FnSafe.j0 (k + 1) y0))
  | 0 => fun _ r h => by simp [laws_FnSafe.j0] at h
  | k + 1 => by
    have ih0 := laws_FnSafe.mono_l k
    · intro y0
      unfold laws_FnSafe.j0
      repeat' first
      | (with_reducible exact ih0 _)
      | (with_reducible exact impl_FirstSafe.mono _ _ _ _ _ _)
      | (with_reducible exact impl_HandsOf.mono _ _ _ _)
      | (with_reducible exact impl_IsSafe.mono _ _ _ _ _)
      | (with_reducible exact laws_has.mono _ _ _)
      | (with_reducible exact spec_FirstSafe.mono _ _ _ _ _ _)
      | (with_reducible exact spec_MakeDeal.mono _ _)
      | (with_reducible exact spec_MakeNum.mono _ _ _)
      | (with_reducible exact LeO.refl _)
      | (with_reducible exact LeO.none _)
      | (with_reducible refine LeO.ite ?_ ?_)
      | (with_reducible refine LeO.bind ?_ (fun _ => ?_))
      | exact ih0 _
      | exact impl_FirstSafe.mono _ _ _ _ _ _
      | exact impl_HandsOf.mono _ _ _ _
      | exact impl_IsSafe.mono _ _ _ _ _
      | exact laws_has.mono _ _ _
      | exact spec_FirstSafe.mono _ _ _ _ _ _
      | exact spec_MakeDeal.mono _ _
      | exact spec_MakeNum.mono _ _ _
      | exact LeO.none _
      | refine LeO.ite ?_ ?_
      | refine LeO.bind ?_ (fun _ => ?_)
theorem laws_FnSafe.mono : ∀ a0 k, LeO (laws_FnSafe.f k a0) (laws_FnSafe.f (k + 1) a0) := by
  intro a0 k
  have ih0 := laws_FnSafe.mono_l k
  unfold laws_FnSafe.f
  repeat' first
      | (with_reducible exact ih0 _)
      | (with_reducible exact impl_FirstSafe.mono _ _ _ _ _ _)
      | (with_reducible exact impl_HandsOf.mono _ _ _ _)
      | (with_reducible exact impl_IsSafe.mono _ _ _ _ _)
      | (with_reducible exact laws_has.mono _ _ _)
      | (with_reducible exact spec_FirstSafe.mono _ _ _ _ _ _)
      | (with_reducible exact spec_MakeDeal.mono _ _)
      | (with_reducible exact spec_MakeNum.mono _ _ _)
      | (with_reducible exact LeO.refl _)
      | (with_reducible exact LeO.none _)
      | (with_reducible refine LeO.ite ?_ ?_)
      | (with_reducible refine LeO.bind ?_ (fun _ => ?_))
      | exact ih0 _
      | exact impl_FirstSafe.mono _ _ _ _ _ _
      | exact impl_HandsOf.mono _ _ _ _
      | exact impl_IsSafe.mono _ _ _ _ _
      | exact laws_has.mono _ _ _
      | exact spec_FirstSafe.mono _ _ _ _ _ _
      | exact spec_MakeDeal.mono _ _
      | exact spec_MakeNum.mono _ _ _
      | exact LeO.none _
      | refine LeO.ite ?_ ?_
      | refine LeO.bind ?_ (fun _ => ?_)
set_option maxHeartbeats 8000000 in
set_option maxRecDepth 100000 in
theorem laws_FnSafe.calls (k : Nat) (A0 : Option Addr) (c0 : Nat) (l0 : List Int) (w : World) (hr0 : Kd.C (Kd.int .u8) w A0 l0.length l0) (hc0 : l0.length ≤ c0) (h : laws_FnSafe.f k l0 = some true) :
    Calls Try.prog 7 #[.slice A0 l0.length c0] w fun e w' => e = .returned (.bool true) ∧ Below w.heap.size w w' := by
  have hu52 := Try.underlying52
  have HR0 := Aside0.mk hr0
  have HC0 := Aside0.mk hc0
  clear hr0 hc0
  have HB := Aside0.mk (Below.refl w.heap.size w)
  have H : (if (l0.length : Int) > 1048576 then (some true) else ((spec_MakeDeal.f k l0).bind fun bt299 => ((impl_HandsOf.f k bt299.1 bt299.2.1 bt299.2.2).bind fun t303 => ((spec_MakeNum.f k l0 20).bind fun t306 => (if (t303.length : Int) = 0 then (some false) else ((spec_MakeNum.f k l0 22).bind fun t307 => (if 0 ≤ (Int.tmod t307 (t303.length : Int)) then (if (Int.tmod t307 (t303.length : Int)) < (t303.length : Int) then ((impl_FirstSafe.f k bt299.1 bt299.2.1 bt299.2.2 (rd t303 (Int.tmod t307 (t303.length : Int))) (wrap64 (1 + (Int.tmod t306 4)))).bind fun bt309 => ((spec_FirstSafe.f k bt299.1 bt299.2.1 bt299.2.2 (rd t303 (Int.tmod t307 (t303.length : Int))) (wrap64 (1 + (Int.tmod t306 4)))).bind fun bt313 => (if (bt309.2 != bt313.2) = true then (laws_FnSafe.j0 k true) else (if bt309.2 = true then (if (bt309.1.length : Int) = (wrap64 (1 + (Int.tmod t306 4))) then ((laws_has.f k bt309.1 (rd t303 (Int.tmod t307 (t303.length : Int)))).bind fun t317 => (if t317 = true then ((impl_IsSafe.f k bt299.1 bt299.2.1 bt299.2.2 bt309.1).bind fun t318 => (laws_FnSafe.j0 k (!t318))) else (laws_FnSafe.j0 k true))) else (laws_FnSafe.j0 k true)) else (laws_FnSafe.j0 k false))))) else (none)) else (none)))))))) = some true := h
  clear h
  by_cases c2 : (l0.length : Int) > 1048576
  · rw [if_pos c2] at H
    have c2b0 : decide (1048576 < (l0.length : Int)) = true := decide_eq_true c2
    have c2b1 : decide (1048576 < l0.length) = true := decide_eq_true (by omega)
    clear c2
    (first | (obtain rfl := Option.some.inj H) | (have hz_ := Option.some.inj H; simp only [Bool.not_eq_true'] at hz_) | (clear H))
    go_enter Try.func7, Try.ntmps7
    go_wp2
    go_ret
    exact ⟨by first | rfl | (simp [errW_none, errW_some] <;> rfl) | (simp [*, errW_none, errW_some] <;> rfl), by repeat (first | (with_reducible first | exact HB.out | apply below_alloc | apply pw_below_drewN | apply below_drew1) | exact HB.out)⟩
  · rw [if_neg c2] at H
    have c2b0 : decide (1048576 < (l0.length : Int)) = false := decide_eq_false c2
    have c2b1 : decide (1048576 < l0.length) = false := decide_eq_false (by omega)
    clear c2
    replace H := Option.bind_eq_some_iff.mp H
    obtain ⟨⟨t299, t300, t301⟩, A30, H⟩ := H
    replace H : ((impl_HandsOf.f k t299 t300 t301).bind fun t303 => ((spec_MakeNum.f k l0 20).bind fun t306 => (if (t303.length : Int) = 0 then (some false) else ((spec_MakeNum.f k l0 22).bind fun t307 => (if 0 ≤ (Int.tmod t307 (t303.length : Int)) then (if (Int.tmod t307 (t303.length : Int)) < (t303.length : Int) then ((impl_FirstSafe.f k t299 t300 t301 (rd t303 (Int.tmod t307 (t303.length : Int))) (wrap64 (1 + (Int.tmod t306 4)))).bind fun bt309 => ((spec_FirstSafe.f k t299 t300 t301 (rd t303 (Int.tmod t307 (t303.length : Int))) (wrap64 (1 + (Int.tmod t306 4)))).bind fun bt313 => (if (bt309.2 != bt313.2) = true then (laws_FnSafe.j0 k true) else (if bt309.2 = true then (if (bt309.1.length : Int) = (wrap64 (1 + (Int.tmod t306 4))) then ((laws_has.f k bt309.1 (rd t303 (Int.tmod t307 (t303.length : Int)))).bind fun t317 => (if t317 = true then ((impl_IsSafe.f k t299 t300 t301 bt309.1).bind fun t318 => (laws_FnSafe.j0 k (!t318))) else (laws_FnSafe.j0 k true))) else (laws_FnSafe.j0 k true)) else (laws_FnSafe.j0 k false))))) else (none)) else (none)))))) = some true := H
    have A3 := Aside0.mk A30
    clear A30
    replace H := Option.bind_eq_some_iff.mp H
    obtain ⟨t303, A40, H⟩ := H
    replace H : ((spec_MakeNum.f k l0 20).bind fun t306 => (if (t303.length : Int) = 0 then (some false) else ((spec_MakeNum.f k l0 22).bind fun t307 => (if 0 ≤ (Int.tmod t307 (t303.length : Int)) then (if (Int.tmod t307 (t303.length : Int)) < (t303.length : Int) then ((impl_FirstSafe.f k t299 t300 t301 (rd t303 (Int.tmod t307 (t303.length : Int))) (wrap64 (1 + (Int.tmod t306 4)))).bind fun bt309 => ((spec_FirstSafe.f k t299 t300 t301 (rd t303 (Int.tmod t307 (t303.length : Int))) (wrap64 (1 + (Int.tmod t306 4)))).bind fun bt313 => (if (bt309.2 != bt313.2) = true then (laws_FnSafe.j0 k true) else (if bt309.2 = true then (if (bt309.1.length : Int) = (wrap64 (1 + (Int.tmod t306 4))) then ((laws_has.f k bt309.1 (rd t303 (Int.tmod t307 (t303.length : Int)))).bind fun t317 => (if t317 = true then ((impl_IsSafe.f k t299 t300 t301 bt309.1).bind fun t318 => (laws_FnSafe.j0 k (!t318))) else (laws_FnSafe.j0 k true))) else (laws_FnSafe.j0 k true)) else (laws_FnSafe.j0 k false))))) else (none)) else (none))))) = some true := H
    have A4 := Aside0.mk A40
    clear A40
    replace H := Option.bind_eq_some_iff.mp H
    obtain ⟨t306, A50, H⟩ := H
    replace H : (if (t303.length : Int) = 0 then (some false) else ((spec_MakeNum.f k l0 22).bind fun t307 => (if 0 ≤ (Int.tmod t307 (t303.length : Int)) then (if (Int.tmod t307 (t303.length : Int)) < (t303.length : Int) then ((impl_FirstSafe.f k t299 t300 t301 (rd t303 (Int.tmod t307 (t303.length : Int))) (wrap64 (1 + (Int.tmod t306 4)))).bind fun bt309 => ((spec_FirstSafe.f k t299 t300 t301 (rd t303 (Int.tmod t307 (t303.length : Int))) (wrap64 (1 + (Int.tmod t306 4)))).bind fun bt313 => (if (bt309.2 != bt313.2) = true then (laws_FnSafe.j0 k true) else (if bt309.2 = true then (if (bt309.1.length : Int) = (wrap64 (1 + (Int.tmod t306 4))) then ((laws_has.f k bt309.1 (rd t303 (Int.tmod t307 (t303.length : Int)))).bind fun t317 => (if t317 = true then ((impl_IsSafe.f k t299 t300 t301 bt309.1).bind fun t318 => (laws_FnSafe.j0 k (!t318))) else (laws_FnSafe.j0 k true))) else (laws_FnSafe.j0 k true)) else (laws_FnSafe.j0 k false))))) else (none)) else (none)))) = some true := H
    have A5 := Aside0.mk A50
    clear A50
    by_cases c6 : (t303.length : Int) = 0
    · rw [if_pos c6] at H
      have c6b0 : ((t303.length : Int) == 0) = true := beq_iff_eq.mpr c6
      have c6b1 : ((t303.length : Int) != 0) = false := bne_eq_false_iff_eq.mpr c6
      clear c6
      exact absurd H (by simp)
    · rw [if_neg c6] at H
      have c6b0 : ((t303.length : Int) == 0) = false := beq_eq_false_iff_ne.mpr c6
      have c6b1 : ((t303.length : Int) != 0) = true := bne_iff_ne.mpr c6
      have c6b2 : ¬ (t303 = []) := fun h_ => c6 (by rw [h_]; rfl)
      replace H := Option.bind_eq_some_iff.mp H
      obtain ⟨t307, A70, H⟩ := H
      replace H : (if 0 ≤ (Int.tmod t307 (t303.length : Int)) then (if (Int.tmod t307 (t303.length : Int)) < (t303.length : Int) then ((impl_FirstSafe.f k t299 t300 t301 (rd t303 (Int.tmod t307 (t303.length : Int))) (wrap64 (1 + (Int.tmod t306 4)))).bind fun bt309 => ((spec_FirstSafe.f k t299 t300 t301 (rd t303 (Int.tmod t307 (t303.length : Int))) (wrap64 (1 + (Int.tmod t306 4)))).bind fun bt313 => (if (bt309.2 != bt313.2) = true then (laws_FnSafe.j0 k true) else (if bt309.2 = true then (if (bt309.1.length : Int) = (wrap64 (1 + (Int.tmod t306 4))) then ((laws_has.f k bt309.1 (rd t303 (Int.tmod t307 (t303.length : Int)))).bind fun t317 => (if t317 = true then ((impl_IsSafe.f k t299 t300 t301 bt309.1).bind fun t318 => (laws_FnSafe.j0 k (!t318))) else (laws_FnSafe.j0 k true))) else (laws_FnSafe.j0 k true)) else (laws_FnSafe.j0 k false))))) else (none)) else (none)) = some true := H
      have A7 := Aside0.mk A70
      clear A70
      obtain ⟨ji8, hji8⟩ : ∃ j_ : Int, (Int.tmod t307 (t303.length : Int)) = j_ := ⟨_, rfl⟩
      replace H : (if 0 ≤ (ji8) then (if (ji8) < (t303.length : Int) then ((impl_FirstSafe.f k t299 t300 t301 (rd t303 (ji8)) (wrap64 (1 + (Int.tmod t306 4)))).bind fun bt309 => ((spec_FirstSafe.f k t299 t300 t301 (rd t303 (ji8)) (wrap64 (1 + (Int.tmod t306 4)))).bind fun bt313 => (if (bt309.2 != bt313.2) = true then (laws_FnSafe.j0 k true) else (if bt309.2 = true then (if (bt309.1.length : Int) = (wrap64 (1 + (Int.tmod t306 4))) then ((laws_has.f k bt309.1 (rd t303 (ji8))).bind fun t317 => (if t317 = true then ((impl_IsSafe.f k t299 t300 t301 bt309.1).bind fun t318 => (laws_FnSafe.j0 k (!t318))) else (laws_FnSafe.j0 k true))) else (laws_FnSafe.j0 k true)) else (laws_FnSafe.j0 k false))))) else (none)) else (none)) = some true := by first | (rw [hji8] at H; exact H) | (simp only [hji8] at H ⊢; exact H)
      (try rw [hji8] at A3)
      (try rw [hji8] at A4)
      (try rw [hji8] at A5)
      (try rw [hji8] at A7)
      by_cases c9 : 0 ≤ (ji8)
      · rw [if_pos c9] at H
        have c9b0 : decide (0 ≤ (ji8)) = true := decide_eq_true c9
        clear c9
        by_cases c10 : (ji8) < (t303.length : Int)
        · rw [if_pos c10] at H
          have c10b0 : decide ((ji8) < (t303.length : Int)) = true := decide_eq_true c10
          clear c10
          replace H := Option.bind_eq_some_iff.mp H
          obtain ⟨⟨t309, t312⟩, A110, H⟩ := H
          replace H : ((spec_FirstSafe.f k t299 t300 t301 (rd t303 (ji8)) (wrap64 (1 + (Int.tmod t306 4)))).bind fun bt313 => (if (t312 != bt313.2) = true then (laws_FnSafe.j0 k true) else (if t312 = true then (if (t309.length : Int) = (wrap64 (1 + (Int.tmod t306 4))) then ((laws_has.f k t309 (rd t303 (ji8))).bind fun t317 => (if t317 = true then ((impl_IsSafe.f k t299 t300 t301 t309).bind fun t318 => (laws_FnSafe.j0 k (!t318))) else (laws_FnSafe.j0 k true))) else (laws_FnSafe.j0 k true)) else (laws_FnSafe.j0 k false)))) = some true := H
          have A11 := Aside0.mk A110
          clear A110
          replace H := Option.bind_eq_some_iff.mp H
          obtain ⟨⟨t313, t316⟩, A120, H⟩ := H
          replace H : (if (t312 != t316) = true then (laws_FnSafe.j0 k true) else (if t312 = true then (if (t309.length : Int) = (wrap64 (1 + (Int.tmod t306 4))) then ((laws_has.f k t309 (rd t303 (ji8))).bind fun t317 => (if t317 = true then ((impl_IsSafe.f k t299 t300 t301 t309).bind fun t318 => (laws_FnSafe.j0 k (!t318))) else (laws_FnSafe.j0 k true))) else (laws_FnSafe.j0 k true)) else (laws_FnSafe.j0 k false))) = some true := H
          have A12 := Aside0.mk A120
          clear A120
          have HC13 := Aside0.mk H
          clear H
          go_enter Try.func7, Try.ntmps7
          go_upto_region 11 with (first | ((with_reducible refine gate_callee (f := 32) rfl ?_); refine goesL_ (some 16) rfl rfl Try.func32 (by kernel_rfl) rfl #[.slice A0 l0.length c0] rfl (by (try simp only [List.map_toArray, List.map_cons, List.map_nil]); first | done | rfl | (simp only [List.length_drop, List.length_take]; rfl)) ?_; (with_reducible refine (spec_MakeDeal.calls k _ _ l0 t299 t300 t301 _ ?side1 ?side2 A3.out).mono ?_); (case side1 => repeat (first | exact HR0.out | (with_reducible refine Kd.C_alloc ?_ _) | (with_reducible refine Kd.C_drewN ?_ _) | (with_reducible refine Kd.C_drew ?_))); (case side2 => exact HC0.out); rintro e w14 ⟨rfl, hb⟩; refine ⟨_, rfl, ?_⟩; have n0_ := Aside0.mk (below_step (by repeat (first | (with_reducible first | exact HB.out | apply below_alloc | apply pw_below_drewN | apply below_drew1) | exact HB.out)) hb); clear HB; have HB := n0_; clear n0_; (try clear hb); (try clear hb2); (try clear hk); (try clear hi)) | ((with_reducible refine gate_dst (N := 3) rfl ?_); (try (refine gate_guard (by rfl) ?_; dsimp only)); refine box_event ?hg (N := 3) ?hd (cs := #[.int .i64 0, .int .i64 0, .int .i64 0]) (t := 52) ?hr ?_; (case hd => rfl); (case hg => rfl); (case hr => first | (go_simp; done) | (go_simp; rfl)); intro gb302 hg w15 hbox hb; have n0_ := Aside0.mk (below_step (by repeat (first | (with_reducible first | exact HB.out | apply below_alloc | apply pw_below_drewN | apply below_drew1) | exact HB.out)) hb); have n1_ := Aside0.mk (hbox); have n2_ := Aside0.mk ((by rw [hg]; exact (below_size (by repeat (first | (with_reducible first | exact HB.out | apply below_alloc | apply pw_below_drewN | apply below_drew1) | exact HB.out))) : w.heap.size ≤ gb302)); have n3_ := Aside0.mk ((by rw [hg]; exact (below_size (by repeat (first | (with_reducible first | exact HB.out | apply below_alloc | apply pw_below_drewN | apply below_drew1) | exact HB.out))) : w.heap.size ≤ gb302)); clear HB; have HB := n0_; have BK302 := n1_; have GW302 := n2_; have GE302 := n3_; clear n0_ n1_ n2_ n3_; clear hb hbox hg; have hcz16_0 : w15.cell? ⟨gb302, 0, none⟩ = some (.int .i64 0) := (blk_cell BK302.out 0).trans rfl; have hcz16_1 : w15.cell? ⟨gb302, 1, none⟩ = some (.int .i64 0) := (blk_cell BK302.out 1).trans rfl; have hcz16_2 : w15.cell? ⟨gb302, 2, none⟩ = some (.int .i64 0) := (blk_cell BK302.out 2).trans rfl; have hfz16_0 := blk_frozen BK302.out 0; have hfz16_1 := blk_frozen BK302.out 1; have hfz16_2 := blk_frozen BK302.out 2) | ((with_reducible refine gate_callee (f := 33) rfl ?_); refine goesL_ (some 18) rfl rfl Try.func33 (by kernel_rfl) rfl #[.agg #[.int .i64 t299, .int .i64 t300, .int .i64 t301]] rfl (by (try simp only [List.map_toArray, List.map_cons, List.map_nil]); first | done | rfl | (simp only [List.length_drop, List.length_take]; rfl)) ?_; (with_reducible refine (impl_HandsOf.calls k t299 t300 t301 t303 _ A4.out).mono ?_); rintro e w17 ⟨v304, rfl, ho0, hb⟩; refine ⟨_, rfl, ?_⟩; have n0_ := Aside0.mk (Kd.R_lower ho0 (below_size (by repeat (first | (with_reducible first | exact HB.out | apply below_alloc | apply pw_below_drewN | apply below_drew1 | refine below_set ?_ GE302.out) | exact HB.out)))); have n1_ := Aside0.mk (blk_below (g := gb302) (o := .cells #[.int .i64 t299, .int .i64 t300, .int .i64 t301] 52 (0, 0)) (by (with_reducible repeat (first | refine blk_drewN ?_ _ | refine blk_drew ?_ | refine blk_alloc ?_ _)); refine blk_put (cs := #[.int .i64 t299, .int .i64 t300, .int .i64 0]) ?_ 2 _ rfl; (with_reducible repeat (first | refine blk_drewN ?_ _ | refine blk_drew ?_ | refine blk_alloc ?_ _)); refine blk_put (cs := #[.int .i64 t299, .int .i64 0, .int .i64 0]) ?_ 1 _ rfl; (with_reducible repeat (first | refine blk_drewN ?_ _ | refine blk_drew ?_ | refine blk_alloc ?_ _)); refine blk_put (cs := #[.int .i64 0, .int .i64 0, .int .i64 0]) ?_ 0 _ rfl; (with_reducible repeat (first | refine blk_drewN ?_ _ | refine blk_drew ?_ | refine blk_alloc ?_ _)); exact BK302.out) hb); have n2_ := Aside0.mk (below_step (by repeat (first | (with_reducible first | exact HB.out | apply below_alloc | apply pw_below_drewN | apply below_drew1 | refine below_set ?_ GE302.out) | exact HB.out)) hb); clear BK302; clear HB; have HO305 := n0_; have BK302 := n1_; have HB := n2_; clear n0_ n1_ n2_; (try clear hb); (try clear hb2); (try clear hk); (try clear hi); (try clear ho0)) | ((with_reducible refine gate_callee (f := 27) rfl ?_); refine goesL_ (some 20) rfl rfl Try.func27 (by kernel_rfl) rfl #[.slice A0 l0.length c0, .int .i64 20] rfl (by (try simp only [List.map_toArray, List.map_cons, List.map_nil]); first | done | rfl | (simp only [List.length_drop, List.length_take]; rfl)) ?_; (with_reducible refine (spec_MakeNum.calls k _ _ l0 20 t306 _ ?side1 ?side2 A5.out).mono ?_); (case side1 => repeat (first | exact (Kd.C_below HR0.out HB.out) | (with_reducible refine Kd.C_alloc ?_ _) | (with_reducible refine Kd.C_drewN ?_ _) | (with_reducible refine Kd.C_drew ?_))); (case side2 => exact HC0.out); rintro e w18 ⟨rfl, hb⟩; refine ⟨_, rfl, ?_⟩; have n0_ := Aside0.mk (Kd.R_below (by (with_reducible repeat (first | apply Kd.R_alloc | apply Kd.R_drewN | apply Kd.R_drew)); exact HO305.out) hb); have n1_ := Aside0.mk (blk_below (g := gb302) (o := .cells #[.int .i64 t299, .int .i64 t300, .int .i64 t301] 52 (0, 0)) (by (with_reducible repeat (first | refine blk_drewN ?_ _ | refine blk_drew ?_ | refine blk_alloc ?_ _)); exact BK302.out) hb); have n2_ := Aside0.mk (below_step (by repeat (first | (with_reducible first | exact HB.out | apply below_alloc | apply pw_below_drewN | apply below_drew1 | refine below_set ?_ GE302.out) | exact HB.out)) hb); clear HO305; clear BK302; clear HB; have HO305 := n0_; have BK302 := n1_; have HB := n2_; clear n0_ n1_ n2_; (try clear hb); (try clear hb2); (try clear hk); (try clear hi); obtain ⟨Ao19, co19, eo19⟩ := Kd.R_slice HO305.out; subst eo19) | ((with_reducible refine gate_callee (f := 27) rfl ?_); refine goesL_ (some 28) rfl rfl Try.func27 (by kernel_rfl) rfl #[.slice A0 l0.length c0, .int .i64 22] rfl (by (try simp only [List.map_toArray, List.map_cons, List.map_nil]); first | done | rfl | (simp only [List.length_drop, List.length_take]; rfl)) ?_; (with_reducible refine (spec_MakeNum.calls k _ _ l0 22 t307 _ ?side1 ?side2 A7.out).mono ?_); (case side1 => repeat (first | exact (Kd.C_below HR0.out HB.out) | (with_reducible refine Kd.C_alloc ?_ _) | (with_reducible refine Kd.C_drewN ?_ _) | (with_reducible refine Kd.C_drew ?_))); (case side2 => exact HC0.out); rintro e w20 ⟨rfl, hb⟩; refine ⟨_, rfl, ?_⟩; have n0_ := Aside0.mk (Kd.R_below (by (with_reducible repeat (first | apply Kd.R_alloc | apply Kd.R_drewN | apply Kd.R_drew)); exact HO305.out) hb); have n1_ := Aside0.mk (blk_below (g := gb302) (o := .cells #[.int .i64 t299, .int .i64 t300, .int .i64 t301] 52 (0, 0)) (by (with_reducible repeat (first | refine blk_drewN ?_ _ | refine blk_drew ?_ | refine blk_alloc ?_ _)); exact BK302.out) hb); have n2_ := Aside0.mk (below_step (by repeat (first | (with_reducible first | exact HB.out | apply below_alloc | apply pw_below_drewN | apply below_drew1 | refine below_set ?_ GE302.out) | exact HB.out)) hb); clear HO305; clear BK302; clear HB; have HO305 := n0_; have BK302 := n1_; have HB := n2_; clear n0_ n1_ n2_; (try clear hb); (try clear hb2); (try clear hk); (try clear hi); have p308 : 0 ≤ ((ji8) : Int) := of_decide_eq_true (by first | (with_reducible assumption) | assumption); have q308 : (ji8) < (t303.length : Int) := of_decide_eq_true (by first | (with_reducible assumption) | assumption); obtain ⟨ad308, e308, hx308_0⟩ := Kd.at_int (Kd.R_reads' HO305.out).2.2 (ji8) p308 q308; cases e308; replace p308 := eq_true p308; replace q308 := eq_true q308; have hcz21_0 : w20.cell? ⟨gb302, 0, none⟩ = some (.int .i64 t299) := (blk_cell BK302.out 0).trans rfl; have hcz21_1 : w20.cell? ⟨gb302, 1, none⟩ = some (.int .i64 t300) := (blk_cell BK302.out 1).trans rfl; have hcz21_2 : w20.cell? ⟨gb302, 2, none⟩ = some (.int .i64 t301) := (blk_cell BK302.out 2).trans rfl; have hfz21_0 := blk_frozen BK302.out 0; have hfz21_1 := blk_frozen BK302.out 1; have hfz21_2 := blk_frozen BK302.out 2) | ((with_reducible refine gate_callee (f := 34) rfl ?_); refine goesL_ (some 38) rfl rfl Try.func34 (by kernel_rfl) rfl #[.agg #[.int .i64 t299, .int .i64 t300, .int .i64 t301], .int .i64 (rd t303 (ji8)), .int .i64 (wrap64 (1 + (Int.tmod t306 4)))] rfl (by (try simp only [List.map_toArray, List.map_cons, List.map_nil]); first | done | (simp only [hji8]; rfl) | rfl | (simp only [List.length_drop, List.length_take]; rfl)) ?_; (with_reducible refine (impl_FirstSafe.calls k t299 t300 t301 (rd t303 (ji8)) (wrap64 (1 + (Int.tmod t306 4))) t309 t312 _ A11.out).mono ?_); rintro e w22 ⟨v310, rfl, ho0, hb⟩; refine ⟨_, rfl, ?_⟩; have n0_ := Aside0.mk (Kd.R_elder' (by (with_reducible repeat (first | apply Kd.R_alloc | apply Kd.R_drewN | apply Kd.R_drew)); exact HO305.out) (Kd.R_base ho0) hb); have n1_ := Aside0.mk (Kd.R_lower (Kd.R_new' ho0 (Kd.R_lt (by (with_reducible repeat (first | apply Kd.R_alloc | apply Kd.R_drewN | apply Kd.R_drew)); exact HO305.out))) (below_size (by repeat (first | (with_reducible first | exact HB.out | apply below_alloc | apply pw_below_drewN | apply below_drew1 | refine below_set ?_ GE302.out) | exact HB.out)))); have n2_ := Aside0.mk (blk_below (g := gb302) (o := .cells #[.int .i64 t299, .int .i64 t300, .int .i64 t301] 52 (0, 0)) (by (with_reducible repeat (first | refine blk_drewN ?_ _ | refine blk_drew ?_ | refine blk_alloc ?_ _)); exact BK302.out) hb); have n3_ := Aside0.mk (below_step (by repeat (first | (with_reducible first | exact HB.out | apply below_alloc | apply pw_below_drewN | apply below_drew1 | refine below_set ?_ GE302.out) | exact HB.out)) hb); clear HO305; clear BK302; clear HB; have HO305 := n0_; have HO311 := n1_; have BK302 := n2_; have HB := n3_; clear n0_ n1_ n2_ n3_; (try clear hb); (try clear hb2); (try clear hk); (try clear hi); (try clear ho0); have hcz23_0 : w22.cell? ⟨gb302, 0, none⟩ = some (.int .i64 t299) := (blk_cell BK302.out 0).trans rfl; have hcz23_1 : w22.cell? ⟨gb302, 1, none⟩ = some (.int .i64 t300) := (blk_cell BK302.out 1).trans rfl; have hcz23_2 : w22.cell? ⟨gb302, 2, none⟩ = some (.int .i64 t301) := (blk_cell BK302.out 2).trans rfl; have hfz23_0 := blk_frozen BK302.out 0; have hfz23_1 := blk_frozen BK302.out 1; have hfz23_2 := blk_frozen BK302.out 2) | ((with_reducible refine gate_callee (f := 35) rfl ?_); refine goesL_ (some 45) rfl rfl Try.func35 (by kernel_rfl) rfl #[.agg #[.int .i64 t299, .int .i64 t300, .int .i64 t301], .int .i64 (rd t303 (ji8)), .int .i64 (wrap64 (1 + (Int.tmod t306 4)))] rfl (by (try simp only [List.map_toArray, List.map_cons, List.map_nil]); first | done | (simp only [hji8]; rfl) | rfl | (simp only [List.length_drop, List.length_take]; rfl)) ?_; (with_reducible refine (spec_FirstSafe.calls k t299 t300 t301 (rd t303 (ji8)) (wrap64 (1 + (Int.tmod t306 4))) t313 t316 _ A12.out).mono ?_); rintro e w24 ⟨v314, rfl, ho0, hb⟩; refine ⟨_, rfl, ?_⟩; have n0_ := Aside0.mk (Kd.R_elder' (by (with_reducible repeat (first | apply Kd.R_alloc | apply Kd.R_drewN | apply Kd.R_drew)); exact HO305.out) (Kd.R_base ho0) hb); have n1_ := Aside0.mk (Kd.R_elder' (by (with_reducible repeat (first | apply Kd.R_alloc | apply Kd.R_drewN | apply Kd.R_drew)); exact HO311.out) (Kd.R_base ho0) hb); have n2_ := Aside0.mk (Kd.R_lower (Kd.R_new' (Kd.R_new' ho0 (Kd.R_lt (by (with_reducible repeat (first | apply Kd.R_alloc | apply Kd.R_drewN | apply Kd.R_drew)); exact HO305.out))) (Kd.R_lt (by (with_reducible repeat (first | apply Kd.R_alloc | apply Kd.R_drewN | apply Kd.R_drew)); exact HO311.out))) (below_size (by repeat (first | (with_reducible first | exact HB.out | apply below_alloc | apply pw_below_drewN | apply below_drew1 | refine below_set ?_ GE302.out) | exact HB.out)))); have n3_ := Aside0.mk (blk_below (g := gb302) (o := .cells #[.int .i64 t299, .int .i64 t300, .int .i64 t301] 52 (0, 0)) (by (with_reducible repeat (first | refine blk_drewN ?_ _ | refine blk_drew ?_ | refine blk_alloc ?_ _)); exact BK302.out) hb); have n4_ := Aside0.mk (below_step (by repeat (first | (with_reducible first | exact HB.out | apply below_alloc | apply pw_below_drewN | apply below_drew1 | refine below_set ?_ GE302.out) | exact HB.out)) hb); clear HO305; clear HO311; clear BK302; clear HB; have HO305 := n0_; have HO311 := n1_; have HO315 := n2_; have BK302 := n3_; have HB := n4_; clear n0_ n1_ n2_ n3_ n4_; (try clear hb); (try clear hb2); (try clear hk); (try clear hi); (try clear ho0)))
          (try simp only [Act.put, List.setIfInBounds_toArray, List.set_cons_zero, List.set_cons_succ])
          go_cut [71] (fun v71 wc => ∃ (kq : Nat) (x71_12 : Bool), v71 = .bool x71_12 ∧ Aside0 (laws_FnSafe.j0 kq x71_12 = some true) ∧ Aside0 (kq ≤ k) ∧ Aside0 (wc.heap[gb302]? = some (.cells #[.int .i64 t299, .int .i64 t300, .int .i64 t301] 52 (0, 0))) ∧ Aside0 (Below w.heap.size w wc))
          case first =>
            have H := HC13.out
            clear HC13
            by_cases c25 : (t312 != t316) = true
            · rw [if_pos c25] at H
              have c25b0 : (t312 != t316) = true := c25
              (try (have c25b1 : decide (t312 = t316) = false := by simpa using c25))
              (try (have c25b2 : (t312 == t316) = false := by simpa using c25))
              (try (have c25b3 : ¬ (t312 = t316) := by simpa using c25))
              clear c25
              (first | rw [c25b0] | (simp only [i64_w, i32_w]; rw [c25b0]) | skip)
              have H' := Aside0.mk H
              clear H
              go_wp2
              go_meet
              case rel => exact ⟨_, (true), (by first | rfl | (simp; done) | (simp [*]; done)), H', ⟨by first | omega | exact Nat.le_refl _⟩, ⟨by (with_reducible repeat (first | refine blk_drewN ?_ _ | refine blk_drew ?_ | refine blk_alloc ?_ _)); exact BK302.out⟩, ⟨by repeat (first | (with_reducible first | exact HB.out | apply below_alloc | apply pw_below_drewN | apply below_drew1 | refine below_set ?_ GE302.out) | exact HB.out)⟩⟩
            · rw [if_neg c25] at H
              have c25b0 : (t312 != t316) = false := by simpa using c25
              (try (have c25b1 : decide (t312 = t316) = true := by simpa using c25))
              (try (have c25b2 : (t312 == t316) = true := by simpa using c25))
              clear c25
              (first | rw [c25b0] | (simp only [i64_w, i32_w]; rw [c25b0]) | skip)
              by_cases c26 : t312 = true
              · subst c26
                have H1 : (if (t309.length : Int) = (wrap64 (1 + (Int.tmod t306 4))) then ((laws_has.f k t309 (rd t303 (ji8))).bind fun t317 => (if t317 = true then ((impl_IsSafe.f k t299 t300 t301 t309).bind fun t318 => (laws_FnSafe.j0 k (!t318))) else (laws_FnSafe.j0 k true))) else (laws_FnSafe.j0 k true)) = some true := by rw [if_pos rfl] at H; exact H
                clear H
                have H := H1
                clear H1
                by_cases c27 : (t309.length : Int) = (wrap64 (1 + (Int.tmod t306 4)))
                · rw [if_pos c27] at H
                  have c27b0 : ((t309.length : Int) == (wrap64 (1 + (Int.tmod t306 4)))) = true := beq_iff_eq.mpr c27
                  have c27b1 : ((t309.length : Int) != (wrap64 (1 + (Int.tmod t306 4)))) = false := bne_eq_false_iff_eq.mpr c27
                  clear c27
                  replace H := Option.bind_eq_some_iff.mp H
                  obtain ⟨t317, A280, H⟩ := H
                  replace H : (if t317 = true then ((impl_IsSafe.f k t299 t300 t301 t309).bind fun t318 => (laws_FnSafe.j0 k (!t318))) else (laws_FnSafe.j0 k true)) = some true := H
                  have A28 := Aside0.mk A280
                  clear A280
                  by_cases c29 : t317 = true
                  · subst c29
                    have H1 : ((impl_IsSafe.f k t299 t300 t301 t309).bind fun t318 => (laws_FnSafe.j0 k (!t318))) = some true := by rw [if_pos rfl] at H; exact H
                    clear H
                    have H := H1
                    clear H1
                    replace H := Option.bind_eq_some_iff.mp H
                    obtain ⟨t318, A300, H⟩ := H
                    replace H : (laws_FnSafe.j0 k (!t318)) = some true := H
                    have A30 := Aside0.mk A300
                    clear A300
                    have H' := Aside0.mk H
                    clear H
                    obtain ⟨Ao31, co31, eo31⟩ := Kd.R_slice HO311.out
                    subst eo31
                    go_wp2_with (first | (go_at_call 36; (with_reducible refine (laws_has.calls k _ _ t309 (rd t303 (ji8)) true _ ?side1 ?side2 A28.out).mono ?_); (case side1 => repeat (first | exact (Kd.R_reads' HO311.out).2.2 | (with_reducible refine Kd.C_alloc ?_ _) | (with_reducible refine Kd.C_drewN ?_ _) | (with_reducible refine Kd.C_drew ?_))); (case side2 => exact (Kd.R_reads' HO311.out).2.1); rintro e w' ⟨rfl, ⟨nd, rfl⟩⟩; have hcz32_0 : w24.cell? ⟨gb302, 0, none⟩ = some (.int .i64 t299) := (blk_cell BK302.out 0).trans rfl; have hcz32_1 : w24.cell? ⟨gb302, 1, none⟩ = some (.int .i64 t300) := (blk_cell BK302.out 1).trans rfl; have hcz32_2 : w24.cell? ⟨gb302, 2, none⟩ = some (.int .i64 t301) := (blk_cell BK302.out 2).trans rfl; have hfz32_0 := blk_frozen BK302.out 0; have hfz32_1 := blk_frozen BK302.out 1; have hfz32_2 := blk_frozen BK302.out 2) | (go_at_call 37; (with_reducible refine (impl_IsSafe.calls k t299 t300 t301 _ _ t309 t318 _ ?side1 ?side2 A30.out).mono ?_); (case side1 => repeat (first | exact (Kd.R_reads' HO311.out).2.2 | (with_reducible refine Kd.C_alloc ?_ _) | (with_reducible refine Kd.C_drewN ?_ _) | (with_reducible refine Kd.C_drew ?_))); (case side2 => exact (Kd.R_reads' HO311.out).2.1); rintro e w33 ⟨rfl, hb⟩; have n0_ := Aside0.mk (Kd.R_below (by (with_reducible repeat (first | apply Kd.R_alloc | apply Kd.R_drewN | apply Kd.R_drew)); exact HO305.out) hb); have n1_ := Aside0.mk (Kd.R_below (by (with_reducible repeat (first | apply Kd.R_alloc | apply Kd.R_drewN | apply Kd.R_drew)); exact HO311.out) hb); have n2_ := Aside0.mk (Kd.R_below (by (with_reducible repeat (first | apply Kd.R_alloc | apply Kd.R_drewN | apply Kd.R_drew)); exact HO315.out) hb); have n3_ := Aside0.mk (blk_below (g := gb302) (o := .cells #[.int .i64 t299, .int .i64 t300, .int .i64 t301] 52 (0, 0)) (by (with_reducible repeat (first | refine blk_drewN ?_ _ | refine blk_drew ?_ | refine blk_alloc ?_ _)); exact BK302.out) hb); have n4_ := Aside0.mk (below_step (by repeat (first | (with_reducible first | exact HB.out | apply below_alloc | apply pw_below_drewN | apply below_drew1 | refine below_set ?_ GE302.out) | exact HB.out)) hb); clear HO305; clear HO311; clear HO315; clear BK302; clear HB; have HO305 := n0_; have HO311 := n1_; have HO315 := n2_; have BK302 := n3_; have HB := n4_; clear n0_ n1_ n2_ n3_ n4_; (try clear hb); (try clear hb2); (try clear hk); (try clear hi)))
                    go_meet
                    case rel => exact ⟨_, (!t318), (by first | rfl | (simp; done) | (simp [*]; done)), H', ⟨by first | omega | exact Nat.le_refl _⟩, ⟨by (with_reducible repeat (first | refine blk_drewN ?_ _ | refine blk_drew ?_ | refine blk_alloc ?_ _)); exact BK302.out⟩, ⟨by repeat (first | (with_reducible first | exact HB.out | apply below_alloc | apply pw_below_drewN | apply below_drew1 | refine below_set ?_ GE302.out) | exact HB.out)⟩⟩
                  · replace c29 := Bool.eq_false_iff.mpr c29
                    subst c29
                    have H1 : (laws_FnSafe.j0 k true) = some true := by rw [if_neg (show ¬ (false = true) by decide)] at H; exact H
                    clear H
                    have H := H1
                    clear H1
                    have H' := Aside0.mk H
                    clear H
                    obtain ⟨Ao34, co34, eo34⟩ := Kd.R_slice HO311.out
                    subst eo34
                    go_wp2_with (first | (go_at_call 36; (with_reducible refine (laws_has.calls k _ _ t309 (rd t303 (ji8)) false _ ?side1 ?side2 A28.out).mono ?_); (case side1 => repeat (first | exact (Kd.R_reads' HO311.out).2.2 | (with_reducible refine Kd.C_alloc ?_ _) | (with_reducible refine Kd.C_drewN ?_ _) | (with_reducible refine Kd.C_drew ?_))); (case side2 => exact (Kd.R_reads' HO311.out).2.1); rintro e w' ⟨rfl, ⟨nd, rfl⟩⟩))
                    go_meet
                    case rel => exact ⟨_, (true), (by first | rfl | (simp; done) | (simp [*]; done)), H', ⟨by first | omega | exact Nat.le_refl _⟩, ⟨by (with_reducible repeat (first | refine blk_drewN ?_ _ | refine blk_drew ?_ | refine blk_alloc ?_ _)); exact BK302.out⟩, ⟨by repeat (first | (with_reducible first | exact HB.out | apply below_alloc | apply pw_below_drewN | apply below_drew1 | refine below_set ?_ GE302.out) | exact HB.out)⟩⟩
                · rw [if_neg c27] at H
                  have c27b0 : ((t309.length : Int) == (wrap64 (1 + (Int.tmod t306 4)))) = false := beq_eq_false_iff_ne.mpr c27
                  have c27b1 : ((t309.length : Int) != (wrap64 (1 + (Int.tmod t306 4)))) = true := bne_iff_ne.mpr c27
                  have H' := Aside0.mk H
                  clear H
                  obtain ⟨Ao35, co35, eo35⟩ := Kd.R_slice HO311.out
                  subst eo35
                  go_wp2
                  go_meet
                  case rel => exact ⟨_, (true), (by first | rfl | (simp; done) | (simp [*]; done)), H', ⟨by first | omega | exact Nat.le_refl _⟩, ⟨by (with_reducible repeat (first | refine blk_drewN ?_ _ | refine blk_drew ?_ | refine blk_alloc ?_ _)); exact BK302.out⟩, ⟨by repeat (first | (with_reducible first | exact HB.out | apply below_alloc | apply pw_below_drewN | apply below_drew1 | refine below_set ?_ GE302.out) | exact HB.out)⟩⟩
              · replace c26 := Bool.eq_false_iff.mpr c26
                subst c26
                have H1 : (laws_FnSafe.j0 k false) = some true := by rw [if_neg (show ¬ (false = true) by decide)] at H; exact H
                clear H
                have H := H1
                clear H1
                have H' := Aside0.mk H
                clear H
                go_wp2
                go_meet
                case rel => exact ⟨_, (false), (by first | rfl | (simp; done) | (simp [*]; done)), H', ⟨by first | omega | exact Nat.le_refl _⟩, ⟨by (with_reducible repeat (first | refine blk_drewN ?_ _ | refine blk_drew ?_ | refine blk_alloc ?_ _)); exact BK302.out⟩, ⟨by repeat (first | (with_reducible first | exact HB.out | apply below_alloc | apply pw_below_drewN | apply below_drew1 | refine below_set ?_ GE302.out) | exact HB.out)⟩⟩
          case rest =>
            clear HC13
            try clear c1
            try clear c2
            try clear c2b0
            try clear c2b1
            try clear p2
            try clear c3
            try clear p3
            try clear q3
            try clear hx3
            try clear c6
            try clear c6b0
            try clear c6b1
            try clear c6b2
            try clear p6
            try clear c7
            try clear c9
            try clear c9b0
            try clear c10
            try clear c10b0
            try clear c25
            try clear c25b0
            try clear c25b1
            try clear c25b2
            try clear c26
            try clear c27
            try clear c27b0
            try clear c27b1
            try clear c29
            try clear p30
            try clear q30
            try clear hx30
            try clear c32
            try clear c33
            try clear c34
            try clear c35
            try clear hcz16_0
            try clear hcz16_1
            try clear hcz16_2
            try clear hcz21_0
            try clear hcz21_1
            try clear hcz21_2
            try clear hcz23_0
            try clear hcz23_1
            try clear hcz23_2
            try clear hcz32_0
            try clear hcz32_1
            try clear hcz32_2
            try clear hfz16_0
            try clear hfz16_1
            try clear hfz16_2
            try clear hfz21_0
            try clear hfz21_1
            try clear hfz21_2
            try clear hfz23_0
            try clear hfz23_1
            try clear hfz23_2
            try clear hfz32_0
            try clear hfz32_1
            try clear hfz32_2
            try clear hx308_0
            try clear p308
            try clear q308
            obtain ⟨kq, x71_12, rfl, HA, HJ12, BK302, HB⟩ := hcut
            cases kq with
            | zero => exact absurd HA.out (by simp [laws_FnSafe.j0])
            | succ kj12 =>
              have H := HA.out
              clear HA
              simp only [laws_FnSafe.j0] at H
              by_cases c36 : x71_12 = true
              · subst c36
                have H1 : (some false) = some true := by rw [if_pos rfl] at H; exact H
                clear H
                have H := H1
                clear H1
                exact absurd H (by simp)
              · replace c36 := Bool.eq_false_iff.mpr c36
                subst c36
                have H1 : ((impl_IsSafe.f kj12 3 3 1 (([7, 25, 42, 52, 76, 82, 97] : List Int))).bind fun t323 => (if t323 = true then ((impl_IsSafe.f kj12 3 3 1 (([7, 25] : List Int))).bind fun t327 => (some (!t327))) else (some false))) = some true := by rw [if_neg (show ¬ (false = true) by decide)] at H; exact H
                clear H
                have H := H1
                clear H1
                obtain ⟨y320, hy320⟩ : ∃ y_ : List Int, y_ = (([7, 25, 42, 52, 76, 82, 97] : List Int)) := ⟨_, rfl⟩
                replace H : ((impl_IsSafe.f kj12 3 3 1 y320).bind fun t323 => (if t323 = true then ((impl_IsSafe.f kj12 3 3 1 (([7, 25] : List Int))).bind fun t327 => (some (!t327))) else (some false))) = some true := by first | (rw [hy320]; with_reducible exact H) | (have H2_ := (Option.bind_some _ _).symm.trans H; rw [hy320]; with_reducible exact H2_) | (have H2_ := (Option.bind_some _ _).symm.trans H; with_reducible exact H2_) | with_reducible exact H | (rw [hy320]; exact H) | exact H
                have Ny320 := Aside0.mk hy320
                clear hy320
                replace H := Option.bind_eq_some_iff.mp H
                obtain ⟨t323, A370, H⟩ := H
                replace H : (if t323 = true then ((impl_IsSafe.f kj12 3 3 1 (([7, 25] : List Int))).bind fun t327 => (some (!t327))) else (some false)) = some true := H
                have A37 := Aside0.mk A370
                clear A370
                by_cases c38 : t323 = true
                · subst c38
                  have H1 : ((impl_IsSafe.f kj12 3 3 1 (([7, 25] : List Int))).bind fun t327 => (some (!t327))) = some true := by rw [if_pos rfl] at H; exact H
                  clear H
                  have H := H1
                  clear H1
                  obtain ⟨y324, hy324⟩ : ∃ y_ : List Int, y_ = (([7, 25] : List Int)) := ⟨_, rfl⟩
                  replace H : ((impl_IsSafe.f kj12 3 3 1 y324).bind fun t327 => (some (!t327))) = some true := by first | (rw [hy324]; with_reducible exact H) | (have H2_ := (Option.bind_some _ _).symm.trans H; rw [hy324]; with_reducible exact H2_) | (have H2_ := (Option.bind_some _ _).symm.trans H; with_reducible exact H2_) | with_reducible exact H | (rw [hy324]; exact H) | exact H
                  have Ny324 := Aside0.mk hy324
                  clear hy324
                  replace H := Option.bind_eq_some_iff.mp H
                  obtain ⟨t327, A390, H⟩ := H
                  replace H : (some (!t327)) = some true := H
                  have A39 := Aside0.mk A390
                  clear A390
                  (first | (obtain rfl := Option.some.inj H) | (have hz_ := Option.some.inj H; simp only [Bool.not_eq_true'] at hz_) | (clear H))
                  go_wp2_with (first | ((with_reducible refine gate_dst (N := 11) rfl ?_); (try (refine gate_guard (by rfl) ?_; dsimp only)); refine box_event ?hg (N := 11) ?hd (cs := #[.int .i64 0, .int .i64 0, .int .i64 0]) (t := 52) ?hr ?_; (case hd => rfl); (case hg => rfl); (case hr => first | (go_simp; done) | (go_simp; rfl)); intro gb319 hg w40 hbox hb; have n0_ := Aside0.mk (blk_below (g := gb302) (o := .cells #[.int .i64 t299, .int .i64 t300, .int .i64 t301] 52 (0, 0)) (by (with_reducible repeat (first | refine blk_drewN ?_ _ | refine blk_drew ?_ | refine blk_alloc ?_ _)); exact BK302.out) hb); have n1_ := Aside0.mk (below_step (by repeat (first | (with_reducible first | exact HB.out | apply below_alloc | apply pw_below_drewN | apply below_drew1 | refine below_set ?_ GE302.out) | exact HB.out)) hb); have n2_ := Aside0.mk (hbox); have n3_ := Aside0.mk ((by rw [hg]; exact (below_size (by repeat (first | (with_reducible first | exact HB.out | apply below_alloc | apply pw_below_drewN | apply below_drew1 | refine below_set ?_ GE302.out) | exact HB.out))) : w.heap.size ≤ gb319)); have n4_ := Aside0.mk ((by rw [hg]; exact (below_size (by repeat (first | (with_reducible first | exact HB.out | apply below_alloc | apply pw_below_drewN | apply below_drew1 | refine below_set ?_ GE302.out) | exact HB.out))) : w.heap.size ≤ gb319)); have n5_ := Aside0.mk ((by rw [hg]; exact Nat.ne_of_lt (blk_lt (g := gb302) (o := .cells #[.int .i64 t299, .int .i64 t300, .int .i64 t301] 52 (0, 0)) (by (with_reducible repeat (first | refine blk_drewN ?_ _ | refine blk_drew ?_ | refine blk_alloc ?_ _)); exact BK302.out)) : gb302 ≠ gb319)); have n6_ := Aside0.mk ((by rw [hg]; exact Nat.ne_of_gt (blk_lt (g := gb302) (o := .cells #[.int .i64 t299, .int .i64 t300, .int .i64 t301] 52 (0, 0)) (by (with_reducible repeat (first | refine blk_drewN ?_ _ | refine blk_drew ?_ | refine blk_alloc ?_ _)); exact BK302.out)) : gb319 ≠ gb302)); clear BK302; clear HB; have BK302 := n0_; have HB := n1_; have BK319 := n2_; have GW319 := n3_; have GE319 := n4_; have NB302_319 := n5_; have NB319_302 := n6_; clear n0_ n1_ n2_ n3_ n4_ n5_ n6_; clear hb hbox hg; have hnb41 := NB319_302.out; have hnc41 := NB302_319.out; have hcz42_0 : w40.cell? ⟨gb319, 0, none⟩ = some (.int .i64 0) := (blk_cell BK319.out 0).trans rfl; have hcz42_1 : w40.cell? ⟨gb319, 1, none⟩ = some (.int .i64 0) := (blk_cell BK319.out 1).trans rfl; have hcz42_2 : w40.cell? ⟨gb319, 2, none⟩ = some (.int .i64 0) := (blk_cell BK319.out 2).trans rfl; have hfz42_0 := blk_frozen BK319.out 0; have hfz42_1 := blk_frozen BK319.out 1; have hfz42_2 := blk_frozen BK319.out 2) | ((with_reducible refine gate_dst (N := 74) rfl ?_); (try (refine gate_guard (by rfl) ?_; dsimp only)); refine Kd.R_lit (Kd.int .i64) _ 3 ?hg (N := 74) ?hd (xs := ([7, 25, 42, 52, 76, 82, 97] : List Int)) (inner := [.int .i64 7, .int .i64 25, .int .i64 42, .int .i64 52, .int .i64 76, .int .i64 82, .int .i64 97]) (ok := fun _ => True) (okp := fun _ => True) ?hr ?hp (fun _ hk => hk) trivial (Below.refl _ _) (Nat.le_refl _) (by simp) ?_; (case hd => rfl); (case hg => rfl); (case hr => first | (go_simp; done) | (go_simp; rfl)); (case hp => exact (Reps.one (show Kd.M (Kd.int .i64) _ _ _ 7 [.int .i64 7] from rfl) (Reps.one (show Kd.M (Kd.int .i64) _ _ _ 25 [.int .i64 25] from rfl) (Reps.one (show Kd.M (Kd.int .i64) _ _ _ 42 [.int .i64 42] from rfl) (Reps.one (show Kd.M (Kd.int .i64) _ _ _ 52 [.int .i64 52] from rfl) (Reps.one (show Kd.M (Kd.int .i64) _ _ _ 76 [.int .i64 76] from rfl) (Reps.one (show Kd.M (Kd.int .i64) _ _ _ 82 [.int .i64 82] from rfl) (Reps.one (show Kd.M (Kd.int .i64) _ _ _ 97 [.int .i64 97] from rfl) (Reps.none _ _))))))))); intro v321 w43 ho44 hb hg_ hnew_; clear hg_ hnew_; (first | rw [← Ny320.out] at ho44 | (simp only [Int.reduceToNat] at ho44; rw [← Ny320.out] at ho44)); have n0_ := Aside0.mk (Kd.R_lower ho44 (below_size (by repeat (first | (with_reducible first | exact HB.out | apply below_alloc | apply pw_below_drewN | apply below_drew1 | refine below_set ?_ GE302.out | refine below_set ?_ GE319.out) | exact HB.out)))); have n1_ := Aside0.mk (blk_below (g := gb302) (o := .cells #[.int .i64 t299, .int .i64 t300, .int .i64 t301] 52 (0, 0)) (by (with_reducible repeat (first | refine blk_drewN ?_ _ | refine blk_drew ?_ | refine blk_alloc ?_ _)); refine blk_far ?_ NB302_319.out _; (with_reducible repeat (first | refine blk_drewN ?_ _ | refine blk_drew ?_ | refine blk_alloc ?_ _)); refine blk_far ?_ NB302_319.out _; (with_reducible repeat (first | refine blk_drewN ?_ _ | refine blk_drew ?_ | refine blk_alloc ?_ _)); refine blk_far ?_ NB302_319.out _; (with_reducible repeat (first | refine blk_drewN ?_ _ | refine blk_drew ?_ | refine blk_alloc ?_ _)); exact BK302.out) hb); have n2_ := Aside0.mk (blk_below (g := gb319) (o := .cells #[.int .i64 3, .int .i64 3, .int .i64 1] 52 (0, 0)) (by (with_reducible repeat (first | refine blk_drewN ?_ _ | refine blk_drew ?_ | refine blk_alloc ?_ _)); refine blk_put (cs := #[.int .i64 3, .int .i64 3, .int .i64 0]) ?_ 2 _ rfl; (with_reducible repeat (first | refine blk_drewN ?_ _ | refine blk_drew ?_ | refine blk_alloc ?_ _)); refine blk_put (cs := #[.int .i64 3, .int .i64 0, .int .i64 0]) ?_ 1 _ rfl; (with_reducible repeat (first | refine blk_drewN ?_ _ | refine blk_drew ?_ | refine blk_alloc ?_ _)); refine blk_put (cs := #[.int .i64 0, .int .i64 0, .int .i64 0]) ?_ 0 _ rfl; (with_reducible repeat (first | refine blk_drewN ?_ _ | refine blk_drew ?_ | refine blk_alloc ?_ _)); exact BK319.out) hb); have n3_ := Aside0.mk (below_step (by repeat (first | (with_reducible first | exact HB.out | apply below_alloc | apply pw_below_drewN | apply below_drew1 | refine below_set ?_ GE302.out | refine below_set ?_ GE319.out) | exact HB.out)) hb); clear BK302; clear BK319; clear HB; have HO322 := n0_; have BK302 := n1_; have BK319 := n2_; have HB := n3_; clear n0_ n1_ n2_ n3_; clear hb ho44; obtain ⟨Ao45, co45, eo45⟩ := Kd.R_slice HO322.out; subst eo45) | ((with_reducible refine gate_callee (f := 37) rfl ?_); refine goesL_ (some 75) rfl rfl Try.func37 (by kernel_rfl) rfl #[.agg #[.int .i64 3, .int .i64 3, .int .i64 1], .slice Ao45 y320.length co45] rfl (by (try simp only [List.map_toArray, List.map_cons, List.map_nil]); first | done | rfl | (simp only [List.length_drop, List.length_take]; rfl)) ?_; (with_reducible refine (impl_IsSafe.calls kj12 3 3 1 _ _ y320 true _ ?side1 ?side2 A37.out).mono ?_); (case side1 => repeat (first | exact (Kd.R_reads' HO322.out).2.2 | (with_reducible refine Kd.C_alloc ?_ _) | (with_reducible refine Kd.C_drewN ?_ _) | (with_reducible refine Kd.C_drew ?_))); (case side2 => exact (Kd.R_reads' HO322.out).2.1); rintro e w46 ⟨rfl, hb⟩; refine ⟨_, rfl, ?_⟩; have n0_ := Aside0.mk (Kd.R_below (by (with_reducible repeat (first | apply Kd.R_alloc | apply Kd.R_drewN | apply Kd.R_drew)); exact HO322.out) hb); have n1_ := Aside0.mk (blk_below (g := gb302) (o := .cells #[.int .i64 t299, .int .i64 t300, .int .i64 t301] 52 (0, 0)) (by (with_reducible repeat (first | refine blk_drewN ?_ _ | refine blk_drew ?_ | refine blk_alloc ?_ _)); exact BK302.out) hb); have n2_ := Aside0.mk (blk_below (g := gb319) (o := .cells #[.int .i64 3, .int .i64 3, .int .i64 1] 52 (0, 0)) (by (with_reducible repeat (first | refine blk_drewN ?_ _ | refine blk_drew ?_ | refine blk_alloc ?_ _)); exact BK319.out) hb); have n3_ := Aside0.mk (below_step (by repeat (first | (with_reducible first | exact HB.out | apply below_alloc | apply pw_below_drewN | apply below_drew1 | refine below_set ?_ GE302.out | refine below_set ?_ GE319.out) | exact HB.out)) hb); clear HO322; clear BK302; clear BK319; clear HB; have HO322 := n0_; have BK302 := n1_; have BK319 := n2_; have HB := n3_; clear n0_ n1_ n2_ n3_; (try clear hb); (try clear hb2); (try clear hk); (try clear hi); have hcz47_0 : w46.cell? ⟨gb319, 0, none⟩ = some (.int .i64 3) := (blk_cell BK319.out 0).trans rfl; have hcz47_1 : w46.cell? ⟨gb319, 1, none⟩ = some (.int .i64 3) := (blk_cell BK319.out 1).trans rfl; have hcz47_2 : w46.cell? ⟨gb319, 2, none⟩ = some (.int .i64 1) := (blk_cell BK319.out 2).trans rfl; have hfz47_0 := blk_frozen BK319.out 0; have hfz47_1 := blk_frozen BK319.out 1; have hfz47_2 := blk_frozen BK319.out 2) | ((with_reducible refine gate_dst (N := 78) rfl ?_); (try (refine gate_guard (by rfl) ?_; dsimp only)); refine Kd.R_lit (Kd.int .i64) _ 3 ?hg (N := 78) ?hd (xs := ([7, 25] : List Int)) (inner := [.int .i64 7, .int .i64 25]) (ok := fun _ => True) (okp := fun _ => True) ?hr ?hp (fun _ hk => hk) trivial (Below.refl _ _) (Nat.le_refl _) (by simp) ?_; (case hd => rfl); (case hg => rfl); (case hr => first | (go_simp; done) | (go_simp; rfl)); (case hp => exact (Reps.one (show Kd.M (Kd.int .i64) _ _ _ 7 [.int .i64 7] from rfl) (Reps.one (show Kd.M (Kd.int .i64) _ _ _ 25 [.int .i64 25] from rfl) (Reps.none _ _)))); intro v325 w48 ho49 hb hg_ hnew_; clear hg_ hnew_; (first | rw [← Ny324.out] at ho49 | (simp only [Int.reduceToNat] at ho49; rw [← Ny324.out] at ho49)); have n0_ := Aside0.mk (Kd.R_elder' (by (with_reducible repeat (first | apply Kd.R_alloc | apply Kd.R_drewN | apply Kd.R_drew)); exact HO322.out) (Kd.R_base ho49) hb); have n1_ := Aside0.mk (Kd.R_lower (Kd.R_new' ho49 (Kd.R_lt (by (with_reducible repeat (first | apply Kd.R_alloc | apply Kd.R_drewN | apply Kd.R_drew)); exact HO322.out))) (below_size (by repeat (first | (with_reducible first | exact HB.out | apply below_alloc | apply pw_below_drewN | apply below_drew1 | refine below_set ?_ GE302.out | refine below_set ?_ GE319.out) | exact HB.out)))); have n2_ := Aside0.mk (blk_below (g := gb302) (o := .cells #[.int .i64 t299, .int .i64 t300, .int .i64 t301] 52 (0, 0)) (by (with_reducible repeat (first | refine blk_drewN ?_ _ | refine blk_drew ?_ | refine blk_alloc ?_ _)); exact BK302.out) hb); have n3_ := Aside0.mk (blk_below (g := gb319) (o := .cells #[.int .i64 3, .int .i64 3, .int .i64 1] 52 (0, 0)) (by (with_reducible repeat (first | refine blk_drewN ?_ _ | refine blk_drew ?_ | refine blk_alloc ?_ _)); exact BK319.out) hb); have n4_ := Aside0.mk (below_step (by repeat (first | (with_reducible first | exact HB.out | apply below_alloc | apply pw_below_drewN | apply below_drew1 | refine below_set ?_ GE302.out | refine below_set ?_ GE319.out) | exact HB.out)) hb); clear HO322; clear BK302; clear BK319; clear HB; have HO322 := n0_; have HO326 := n1_; have BK302 := n2_; have BK319 := n3_; have HB := n4_; clear n0_ n1_ n2_ n3_ n4_; clear hb ho49; obtain ⟨Ao50, co50, eo50⟩ := Kd.R_slice HO326.out; subst eo50) | (go_at_call 37; (with_reducible refine (impl_IsSafe.calls kj12 3 3 1 _ _ y324 t327 _ ?side1 ?side2 A39.out).mono ?_); (case side1 => repeat (first | exact (Kd.R_reads' HO326.out).2.2 | (with_reducible refine Kd.C_alloc ?_ _) | (with_reducible refine Kd.C_drewN ?_ _) | (with_reducible refine Kd.C_drew ?_))); (case side2 => exact (Kd.R_reads' HO326.out).2.1); rintro e w51 ⟨rfl, hb⟩; have n0_ := Aside0.mk (Kd.R_below (by (with_reducible repeat (first | apply Kd.R_alloc | apply Kd.R_drewN | apply Kd.R_drew)); exact HO322.out) hb); have n1_ := Aside0.mk (Kd.R_below (by (with_reducible repeat (first | apply Kd.R_alloc | apply Kd.R_drewN | apply Kd.R_drew)); exact HO326.out) hb); have n2_ := Aside0.mk (blk_below (g := gb302) (o := .cells #[.int .i64 t299, .int .i64 t300, .int .i64 t301] 52 (0, 0)) (by (with_reducible repeat (first | refine blk_drewN ?_ _ | refine blk_drew ?_ | refine blk_alloc ?_ _)); exact BK302.out) hb); have n3_ := Aside0.mk (blk_below (g := gb319) (o := .cells #[.int .i64 3, .int .i64 3, .int .i64 1] 52 (0, 0)) (by (with_reducible repeat (first | refine blk_drewN ?_ _ | refine blk_drew ?_ | refine blk_alloc ?_ _)); exact BK319.out) hb); have n4_ := Aside0.mk (below_step (by repeat (first | (with_reducible first | exact HB.out | apply below_alloc | apply pw_below_drewN | apply below_drew1 | refine below_set ?_ GE302.out | refine below_set ?_ GE319.out) | exact HB.out)) hb); clear HO322; clear HO326; clear BK302; clear BK319; clear HB; have HO322 := n0_; have HO326 := n1_; have BK302 := n2_; have BK319 := n3_; have HB := n4_; clear n0_ n1_ n2_ n3_ n4_; (try clear hb); (try clear hb2); (try clear hk); (try clear hi)))
                  go_ret
                  exact ⟨by first | rfl | (simp [errW_none, errW_some] <;> rfl) | (simp only [← hji8]; first | rfl | (simp [errW_none, errW_some] <;> rfl)) | (simp [*, errW_none, errW_some] <;> rfl), by repeat (first | (with_reducible first | exact HB.out | apply below_alloc | apply pw_below_drewN | apply below_drew1 | refine below_set ?_ GE302.out | refine below_set ?_ GE319.out) | exact HB.out)⟩
                · replace c38 := Bool.eq_false_iff.mpr c38
                  subst c38
                  have H1 : (some false) = some true := by rw [if_neg (show ¬ (false = true) by decide)] at H; exact H
                  clear H
                  have H := H1
                  clear H1
                  exact absurd H (by simp)
        · rw [if_neg c10] at H
          exact absurd H (by simp)
      · rw [if_neg c9] at H
        exact absurd H (by simp)

/-- THE ONE PURE STATEMENT of laws_FnSafe: yours. -/
def laws_FnSafe.Pure : Prop := ∀ (l0 : List Int), l0.length ≤ maxLen → l0.length * 1 ≤ 140737488351232 → (∀ x ∈ l0, (Lit.int .u8 x).wf = true) → ∃ k, laws_FnSafe.f k l0 = some true
theorem laws_FnSafe.walk (P : laws_FnSafe.Pure) (a0 : Option Addr) (len0 cap0 : Nat) (z0 : List Int) (w : World) (w0 : (a0 = none ∧ len0 = 0 ∧ cap0 = 0 ∧ z0 = []) ∨ ∃ x, a0 = some x ∧ len0 ≤ cap0 ∧ cap0 ≤ maxLen ∧ z0.length = cap0 ∧ (∀ i, i < z0.length → w.cell? (x.add i) = some (.int .u8 (z0.getD i 0))) ∧ ∀ n ∈ z0, (Lit.int .u8 n).wf = true) (y0 : len0 * 1 ≤ 140737488351232) :
    Calls Try.prog 7 #[.slice a0 len0 cap0] w fun e w' => e = .returned (.bool true) ∧ Below w.heap.size w w' := by
  obtain ⟨l0, rfl, hr0, hm0, hw0, hc0⟩ := ReadsInt.ofRowC w0
  obtain ⟨k, h⟩ := P l0 hm0 y0 hw0
  refine (laws_FnSafe.calls k _ _ l0 w (Kd.C_of_reads (d := (0 : Int)) (h1 := fun _ => rfl) hr0) hc0 h).mono ?_
  rintro e w' ⟨rfl, hd⟩
  exact ⟨rfl, hd⟩

end Go.Proofs.Ythibhcohcbgdpaa.PFnSafe
