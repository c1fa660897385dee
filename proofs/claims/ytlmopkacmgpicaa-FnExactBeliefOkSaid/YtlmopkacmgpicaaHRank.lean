/-
  CONTRACT BY HAND: impl.rankAgain: for each element the number of different lesser ones, by slices.Sort, Compact and BinarySearch (the shelf's contracts).
-/
import Derived.Test.YtlmopkacmgpicaaHClone
import Derived.Test.YtlmopkacmgpicaaHFuncG
import Derived.Test.YtlmopkacmgpicaaShSort
import Derived.Shelf.Slices.In.SortNone
import Derived.Shelf.Slices.CompactI
import Derived.Sort.Row
import Derived.Sort.Grow
namespace Go.Proofs.Ytlmopkacmgpicaa.H
open Go.RowKit Go.Sort Go.Proofs.YtlmopkacmgpicaaW.PrintWords Go.Proofs.YtlmopkacmgpicaaW.PrintLast Go.Proofs.YtlmopkacmgpicaaW.PrintMore
set_option linter.unusedVariables false
set_option linter.unusedSimpArgs false
/-- The elements in order, each once. -/
def once (l : List Int) : List Int := Lib.compact (l.mergeSort fun x y => decide (x ≤ y))
def rankOf (l : List Int) (x : Int) : Int := ((once l).countP (· < x) : Nat)
def ranks (l : List Int) : List Int := l.map (rankOf l)
def impl_rankAgain.f (l0 : List Int) : Option (List Int) := if l0.length ≤ 1048576 then some (ranks l0) else none
theorem sorted_pair (l : List Int) : (l.mergeSort fun x y => decide (x ≤ y)).Pairwise (· ≤ ·) := by
  have h := List.pairwise_mergeSort (le := fun x y : Int => decide (x ≤ y)) (fun a b c h1 h2 => by simp at *; omega) (fun a b => by simp; omega) l
  exact h.imp (fun h => by simpa using h)
theorem compactUp (d : Array Int) (hs : ∀ i j, i ≤ j → j < d.size → d[i]! ≤ d[j]!) : ∀ m, m ≤ d.size → (Lib.compactUpTo d m).Pairwise (· < ·) ∧ (∀ y, y ∈ Lib.compactUpTo d m ↔ ∃ j, j < m ∧ d[j]! = y)
  | 0, _ => ⟨by simp [Lib.compactUpTo], fun y => by simp [Lib.compactUpTo]⟩
  | m + 1, hm => by
    obtain ⟨h1, h2⟩ := compactUp d hs m (by omega)
    rw [Lib.compactUpTo_succ]
    by_cases hk : Lib.keeps d m = true
    · rw [if_pos hk]
      refine ⟨?_, fun y => ?_⟩
      · rw [List.pairwise_append]
        refine ⟨h1, by simp, fun a ha b hb => ?_⟩
        simp only [List.mem_singleton] at hb
        subst hb
        obtain ⟨j, hj, rfl⟩ := (h2 a).1 ha
        have hne : d[m]! ≠ d[m - 1]! := by
          have := hk
          simp only [Lib.keeps, decide_eq_true_eq] at this
          rcases this with h | h
          · omega
          · exact h
        have l1 := hs j (m - 1) (by omega) (by omega)
        have l2 := hs (m - 1) m (by omega) (by omega)
        omega
      · rw [List.mem_append, h2 y]
        constructor
        · rintro (⟨j, hj, e⟩ | h)
          · exact ⟨j, by omega, e⟩
          · simp only [List.mem_singleton] at h
            exact ⟨m, by omega, h.symm⟩
        · rintro ⟨j, hj, e⟩
          by_cases hjm : j = m
          · subst hjm; exact .inr (by simp [e])
          · exact .inl ⟨j, by omega, e⟩
    · rw [if_neg hk, List.append_nil]
      refine ⟨h1, fun y => ?_⟩
      rw [h2 y]
      constructor
      · rintro ⟨j, hj, e⟩
        exact ⟨j, by omega, e⟩
      · rintro ⟨j, hj, e⟩
        by_cases hjm : j = m
        · subst hjm
          have : ¬ (j = 0 ∨ d[j]! ≠ d[j - 1]!) := by simpa [Lib.keeps] using hk
          have h0 : ¬ j = 0 := fun h => this (.inl h)
          have heq : d[j]! = d[j - 1]! := Classical.byContradiction fun h => this (.inr h)
          exact ⟨j - 1, by omega, by rw [← heq]; exact e⟩
        · exact ⟨j, by omega, e⟩
theorem once_facts (l : List Int) : (once l).Pairwise (· < ·) ∧ (∀ y, y ∈ once l ↔ y ∈ l) := by
  have hp := sorted_pair l
  have hlen : (l.mergeSort fun x y => decide (x ≤ y)).toArray.size = (l.mergeSort fun x y => decide (x ≤ y)).length := by simp
  obtain ⟨h1, h2⟩ := compactUp (l.mergeSort fun x y => decide (x ≤ y)).toArray (fun i j hij hj => by
    rw [hlen] at hj
    rw [List.getElem!_toArray, List.getElem!_toArray, getElem!_pos _ i (by omega), getElem!_pos _ j hj]
    rcases Nat.lt_or_ge i j with h | h
    · exact (List.pairwise_iff_getElem.1 hp) i j (by omega) hj h
    · have : i = j := by omega
      subst this; exact Int.le_refl _) _ (by rw [hlen]; exact Nat.le_refl _)
  refine ⟨h1, fun y => ?_⟩
  show y ∈ Lib.compactUpTo _ _ ↔ _
  rw [h2 y, ← List.mem_mergeSort (l := l) (le := fun x y => decide (x ≤ y)), List.mem_iff_getElem]
  constructor
  · rintro ⟨j, hj, e⟩
    refine ⟨j, hj, ?_⟩
    rw [List.getElem!_toArray, getElem!_pos _ j hj] at e
    exact e
  · rintro ⟨j, hj, e⟩
    refine ⟨j, hj, ?_⟩
    rw [List.getElem!_toArray, getElem!_pos _ j hj]
    exact e
theorem holds_of_R {w : World} {base g n cap : Nat} {ok : Nat → Prop} {l : List Int} (h : Kd.R (Kd.int .i64) 3 w base ok (.slice (some ⟨g, 0, none⟩) n cap) l) (hn : n = l.length) : Holds (Value.int .i64) w g 0 l.toArray := by
  subst hn
  intro j hj
  simp only [List.size_toArray] at hj
  obtain ⟨h1, h2⟩ := Kd.R_cell (0 : Int) h (j : Int) (by omega) (by omega)
  simp only [Int.toNat_natCast] at h1 h2
  rw [Nat.zero_add]
  refine ⟨?_, h2⟩
  rw [h1, List.getElem!_toArray, getElem!_pos _ j hj]
  simp [rdOf, List.getD_eq_getElem?_getD, List.getElem?_eq_getElem hj]
theorem below_put {w0 w : World} {B : Nat} (h : Below B w0 w) (hB : B ≤ w.heap.size) (n g off : Nat) (d : Array Int) (os : Array Obj) (hg : B ≤ g) : Below B w0 (grow (putRow (Value.int .i64) (Sort.ahead w n) g off d) os) := by
  refine ⟨h.os, h.tape, h.output, ?_, fun k hk => ?_⟩
  · rw [size_grow, size_putRow]
    have hz := h.size
    show w0.heap.size ≤ w.heap.size + os.size
    omega
  · have hsz : k < (putRow (Value.int .i64) (Sort.ahead w n) g off d).heap.size := by rw [size_putRow]; show k < w.heap.size; omega
    rw [heap_grow_old _ _ hsz]
    show (mapBlock (Sort.ahead w n) g _).heap[k]? = _
    unfold mapBlock
    simp only [Array.getElem?_modify]
    rw [if_neg (by omega)]
    exact h.block k hk
set_option maxHeartbeats 8000000 in
set_option maxRecDepth 100000 in
/-- The loop's part: the searches, over a row that holds the elements in order, each once. -/
theorem rank_loop_at (l0 : List Int) (w3 wr : World) (g1 : Nat) (hc : ∀ j, j < (once l0).length → w3.cell? ⟨g1, 0 + j, none⟩ = some (.int .i64 ((once l0).getD j 0))) (hB : Below w3.heap.size w3 wr) (c1 : Nat) (x : Int) (hl : (once l0).length ≤ 1048576) :
    Calls Try.prog 25 #[.slice (some ⟨g1, 0, none⟩) (once l0).length c1, .int .i64 x] wr fun e w' => (∃ b, e = .returned (.tuple #[.int .i64 (rankOf l0 x), .bool b])) ∧ ∃ q, w' = wr.drewN q := by
  refine (Try.slices_BinarySearch_int g1 0 (once l0).length c1 (once l0) x wr (Nat.le_refl _) (by omega) (fun j hj => pw_cell_below hB (hc j hj)) (by rw [List.take_length]; exact (once_facts l0).1.imp (fun h => Int.le_of_lt h))).mono ?_
  rintro e w' ⟨rfl, hq⟩
  refine ⟨⟨(once l0).contains x, ?_⟩, hq⟩
  rw [List.take_length]
  rfl
set_option maxHeartbeats 8000000 in
set_option maxRecDepth 100000 in
theorem impl_rankAgain.calls (A0 : Option Addr) (c0 : Nat) (l0 : List Int) (r : List Int) (w : World) (hr0 : Kd.C (Kd.int .i64) w A0 l0.length l0) (hc0 : l0.length ≤ c0) (h : impl_rankAgain.f l0 = some r) :
    Calls Try.prog 16 #[.slice A0 l0.length c0] w fun e w' => ∃ v0_ : Value, e = .returned (v0_) ∧ Kd.R (Kd.int .i64) 3 w' w.heap.size (fun _ => True) v0_ r ∧ Below w.heap.size w w' := by
  unfold impl_rankAgain.f at h
  by_cases hl : l0.length ≤ 1048576
  · rw [if_pos hl] at h
    have h := Option.some.inj h
    subst h
    have HR := Aside0.mk hr0
    have HC := Aside0.mk hc0
    have HL := Aside0.mk hl
    clear hr0 hc0 hl
    have hcl : slices_Clone_int_int.f l0 = some l0 := by unfold slices_Clone_int_int.f; rw [if_pos (by have := HL.out; omega)]
    go_enter Try.func16, Try.ntmps16
    go_wp2_with (fail)
    refine (slices_Clone_int_int.calls A0 c0 l0 l0 w HR.out HC.out hcl).mono ?_
    clear hcl
    rintro e w1 ⟨v1, rfl, ho, hb⟩
    have HO := Aside0.mk ho
    have HB := Aside0.mk hb
    clear ho hb
    dsimp only
    obtain ⟨A1, c1, hv1⟩ := Kd.R_slice HO.out
    subst hv1
    by_cases hz : l0 = []
    · subst hz
      clear HO
      go_wp2_with (fail)
      refine (Go.Proofs.Any.slices_Sort_int_none Try.lays189 A1 c1 w1).mono ?_
      rintro e w2 ⟨rfl, rfl⟩
      dsimp only
      go_wp2_with (fail)
      refine (Go.Proofs.Any.slices_Compact_int_empty Try.laysNm220 A1 c1 w2).mono ?_
      rintro e w3 ⟨rfl, rfl⟩
      dsimp only
      go_wp2_with (first | ((with_reducible refine gate_dst (N := 15) rfl ?_); refine Kd.R_lit (Kd.int .i64) _ 3 ?hg (N := 15) ?hd (xs := ([] : List Int)) (inner := []) (ok := fun _ => True) (okp := fun _ => True) ?hr ?hp (fun _ hk => hk) trivial (Below.refl _ _) (Nat.le_refl _) (by simp) ?_; (case hd => rfl); (case hg => rfl); (case hr => first | (go_simp; done) | (go_simp; rfl)); (case hp => exact (Reps.none _ _)); intro v15 w4 ho4 hb4 hg_ hnew_; clear hg_ hnew_; have HO4 := Aside0.mk ho4; have HB4 := Aside0.mk hb4; clear ho4 hb4))
      go_loopg [4, 18] 1 (fun kq v4 v18 w' => v18 = .int .i64 0 ∧ Aside0 (Kd.R (Kd.int .i64) 3 w' w3.heap.size (fun _ => True) v4 []) ∧ Aside0 (Below w3.heap.size w3 w'))
      case atStart => exact ⟨rfl, HO4, HB4⟩
      case round =>
        clear HO4 HB4
        obtain ⟨rfl, HO, HBB⟩ := hrel
        go_wp2
        go_ret
        exact ⟨_, rfl, Kd.R_lower HO.out HB.out.size, below_step HB.out HBB.out⟩
    · have hpos : 0 < l0.length := by
        rcases Nat.eq_zero_or_pos l0.length with h | h
        · exact absurd (List.length_eq_zero_iff.1 h) hz
        · exact h
      obtain ⟨g1, hg1, hg0, hcc, hgl⟩ : ∃ g1, A1 = some ⟨g1, 0, none⟩ ∧ w.heap.size ≤ g1 ∧ l0.length ≤ c1 ∧ g1 < w1.heap.size := by
        obtain ⟨_, inner, ⟨_, hown⟩, _⟩ := HO.out
        rcases hown with ⟨he, hn⟩ | ⟨g', cap, cur, he, hb, hh, hnc, _⟩
        · omega
        · injection he with he1 he2 he3
          subst he3
          exact ⟨g', he1, hb, hnc, blk_lt hh⟩
      subst hg1
      clear hz
      have HH := Aside0.mk (holds_of_R HO.out rfl)
      have HG := Aside0.mk hg0
      have HGL := Aside0.mk hgl
      have HCC := Aside0.mk hcc
      have HPOS := Aside0.mk hpos
      clear HO hg0 hgl hcc hpos
      go_wp2_with (fail)
      refine (Try.slices_Sort_int g1 0 c1 l0 w1 HH.out HGL.out (by have := HL.out; omega)).mono ?_
      rintro e w2 ⟨rfl, n2, os2, hw2⟩
      have hsz : (l0.mergeSort fun x y => decide (x ≤ y)).length = l0.length := List.length_mergeSort _
      have HB2 := Aside0.mk (show Below w.heap.size w w2 from by rw [hw2]; exact below_put HB.out HB.out.size n2 g1 0 _ os2 HG.out)
      have HGL2 := Aside0.mk (show g1 < w2.heap.size from by rw [hw2, size_grow, size_putRow]; show g1 < w1.heap.size + _; have := HGL.out; omega)
      have HH2 := Aside0.mk (show Holds (Value.int .i64) w2 g1 0 (l0.mergeSort fun x y => decide (x ≤ y)).toArray from by
        rw [hw2]
        refine holds_grow _ _ _ _ _ _ (by rw [size_putRow]; exact HGL.out) ?_
        exact holds_putRow _ _ _ _ l0.toArray _ (holds_ahead _ _ _ _ _ _ HH.out) (by simp [hsz]))
      clear hw2 HH
      dsimp only
      have hcmp := Aside0.mk (Try.slices_Compact_int g1 0 c1 (l0.mergeSort fun x y => decide (x ≤ y)) w2 HH2.out (by rw [hsz]; have := HL.out; omega) (by rw [hsz]; exact HCC.out))
      rw [hsz] at hcmp
      have HSZ := Aside0.mk hsz
      clear hsz
      go_wp2_with (fail)
      refine hcmp.out.mono ?_
      clear hcmp
      rintro e w3 ⟨rfl, q3, hw3⟩
      have HB3 := Aside0.mk (show Below w.heap.size w w3 from by
        rw [hw3]
        have h_ := below_put HB2.out HB2.out.size q3 g1 0 (Lib.compact (l0.mergeSort fun x y => decide (x ≤ y)) ++ List.replicate (l0.length - (Lib.compact (l0.mergeSort fun x y => decide (x ≤ y))).length) 0).toArray #[] HG.out
        rw [grow_empty] at h_
        exact h_)
      have hcl : (once l0).length ≤ l0.length := by
        have h_ := Lib.compact_length_le (l0.mergeSort fun x y => decide (x ≤ y))
        rw [HSZ.out] at h_
        exact h_
      have HC3 := Aside0.mk (show ∀ j, j < (once l0).length → w3.cell? ⟨g1, 0 + j, none⟩ = some (.int .i64 ((once l0).getD j 0)) from by
        intro j hj
        have h_ := holds_putRow (Value.int .i64) (Sort.ahead w2 q3) g1 0 _ (once l0 ++ List.replicate (l0.length - (once l0).length) 0).toArray (holds_ahead _ _ q3 _ _ _ HH2.out) (by simp [HSZ.out]; omega) j (by simp; omega)
        rw [hw3]
        refine h_.1.trans ?_
        rw [List.getElem!_toArray, getElem!_pos _ j (by simp; omega), List.getElem_append_left hj]
        simp [List.getD_eq_getElem?_getD, List.getElem?_eq_getElem hj])
      have HOL := Aside0.mk (show (once l0).length ≤ 1048576 from Nat.le_trans hcl HL.out)
      clear hw3 HH2 hcl HSZ
      dsimp only
      rw [show Lib.compact (l0.mergeSort fun x y => decide (x ≤ y)) = once l0 from rfl]
      go_wp2_with (first | ((with_reducible refine gate_dst (N := 15) rfl ?_); refine Kd.R_lit (Kd.int .i64) _ 3 ?hg (N := 15) ?hd (xs := ([] : List Int)) (inner := []) (ok := fun _ => True) (okp := fun _ => True) ?hr ?hp (fun _ hk => hk) trivial (Below.refl _ _) (Nat.le_refl _) (by simp) ?_; (case hd => rfl); (case hg => rfl); (case hr => first | (go_simp; done) | (go_simp; rfl)); (case hp => exact (Reps.none _ _)); intro v15 w4 ho4 hb4 hg_ hnew_; clear hg_ hnew_; have HO4 := Aside0.mk ho4; have HB4 := Aside0.mk hb4; clear ho4 hb4))
      go_loopg [4, 18] l0.length (fun kq v4 v18 w' => ∃ i : Nat, v18 = .int .i64 i ∧ Aside0 (i ≤ l0.length) ∧ Aside0 (l0.length - i ≤ kq) ∧ Aside0 (Kd.R (Kd.int .i64) 3 w' w3.heap.size (fun _ => True) v4 ((ranks l0).take i)) ∧ Aside0 (Below w3.heap.size w3 w'))
      case atStart => exact ⟨0, rfl, ⟨Nat.zero_le _⟩, ⟨by omega⟩, ⟨by simpa using HO4.out⟩, HB4⟩
      case round =>
        clear HO4 HB4
        obtain ⟨i, rfl, HK, HM, HO, HB⟩ := hrel
        by_cases hlt : i < l0.length
        · obtain ⟨ad, e, hcell⟩ := Kd.at_int (Kd.C_below HR.out (below_step HB3.out HB.out)) (i : Int) (by omega) (by omega)
          cases e
          simp only [Int.toNat_natCast] at hcell
          have hrd : Go.Proofs.YtlmopkacmgpicaaW.PrintWords.rd l0 (i : Int) = l0[i] := by
            show l0.getD ((i : Int)).toNat 0 = l0[i]
            simp [List.getD_eq_getElem?_getD, List.getElem?_eq_getElem hlt]
          rw [hrd] at hcell
          have HTK := Aside0.mk (show (ranks l0).take (i + 1) = (ranks l0).take i ++ [rankOf l0 l0[i]] from by
            show (l0.map (rankOf l0)).take (i + 1) = (l0.map (rankOf l0)).take i ++ [rankOf l0 l0[i]]
            rw [List.take_succ_eq_append_getElem (show i < (l0.map (rankOf l0)).length by rw [List.length_map]; exact hlt), List.getElem_map])
          clear hrd
          generalize l0[i] = x at hcell HTK
          have hltz : (i : Int) < (l0.length : Int) := by omega
          have hbig : l0.length ≤ 1048576 := HL.out
          go_wp2_with (fail)
          refine (rank_loop_at l0 w3 wr g1 HC3.out HB.out c1 x HOL.out).mono ?_
          rintro e w5 ⟨⟨b, rfl⟩, q, rfl⟩
          dsimp only
          go_wp2_with (first | ((with_reducible refine gate_builtin (b := .append) (xs := #[.tmp 28, .tmp 30]) rfl ?_); at_builtin; refine Kd.R_append (Kd.int .i64) (w0 := w3) w3.heap.size rfl (.tmp 28) (.tmp 30) 22 3 (.int .i64 0) 8 rfl Try.underlying22 infoI rfl (by decide) (by omega) u4 ((ranks l0).take i) (rankOf l0 x) [.int .i64 (rankOf l0 x)] (fun _ => True) (fun _ => False) rfl rfl ?aP (fun _ hk => hk.elim) ?aF ?aO ?aB ?aS ?aL ?_; (case aP => exact rfl); (case aB => exact (by repeat (first | (with_reducible first | exact HB.out | apply below_alloc | apply pw_below_drewN | apply below_drew1) | exact HB.out))); (case aF => exact (fun _ _ => trivial)); (case aO => exact (by (with_reducible repeat (first | apply Kd.R_alloc | apply Kd.R_drewN | apply Kd.R_drew)); exact HO.out)); (case aS => exact (below_size (by repeat (first | (with_reducible first | exact HB.out | apply below_alloc | apply pw_below_drewN | apply below_drew1) | exact HB.out)))); (case aL => rw [List.length_take]; omega); intro v31 w6 ho hb hg hat; rw [← HTK.out] at ho; have HO6 := Aside0.mk ho; have HB6 := Aside0.mk hb; clear ho hb hg hat))
          go_roundg (l0.length - (i + 1))
          case measure => have := HM.out; omega
          case rel => exact ⟨i + 1, by go_num, ⟨by omega⟩, ⟨Nat.le_refl _⟩, HO6, HB6⟩
        · have hke : i = l0.length := by have := HK.out; omega
          subst hke
          have hra : (ranks l0).take l0.length = ranks l0 := List.take_of_length_le (by show (l0.map (rankOf l0)).length ≤ _; rw [List.length_map]; exact Nat.le_refl _)
          rw [hra] at HO
          clear hra
          go_wp2
          go_ret
          exact ⟨_, rfl, Kd.R_lower HO.out HB3.out.size, below_step HB3.out HB.out⟩
  · rw [if_neg hl] at h; cases h
end Go.Proofs.Ytlmopkacmgpicaa.H
