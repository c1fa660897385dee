/-
  FnSafe over numbers: there are five deals, their hands and four sizes; both searches are computed for all of them.
-/
import Derived.Test.YthibhcohcbgdpaaPFnSafex
import Derived.Test.YthibhcohcbgdpaaPL
set_option linter.unusedVariables false
set_option linter.unusedSimpArgs false
namespace Go.Proofs.Ythibhcohcbgdpaa.Pure
open Go.RowKit Go.Proofs.Ythibhcohcbgdpaa Go.Proofs.Ythibhcohcbgdpaa.PFnSafe Go.Proofs.YthibhcohcbgdpaaW.PrintWords Go.Proofs.YthibhcohcbgdpaaW.PrintLast Go.Proofs.YthibhcohcbgdpaaW.PrintMore Go.Proofs.Ythibhcohcbgdpaa.PL

theorem and255 (n : Int) : Go.bits .and .i64 n 255 = n % 256 := by
  have h255 : (BitVec.ofInt 64 255).toNat = 2 ^ 8 - 1 := by decide
  have key : (BitVec.ofInt 64 n &&& BitVec.ofInt 64 255).toNat = (n % ((2 ^ 64 : Nat) : Int)).toNat % 2 ^ 8 := by
    rw [BitVec.toNat_and, BitVec.toNat_ofInt, h255, Nat.and_two_pow_sub_one_eq_mod]
  show IntKind.i64.wrap ((BitVec.ofInt 64 n &&& BitVec.ofInt 64 255).toNat : Nat) = n % 256
  rw [key, IntKind.wrap_i64]
  omega
/-- One byte is drawn: from 0 to 255, and the place goes on within the list. -/
theorem byte_is (l : List Int) (i h : Int) (hl : l.length ≤ 1048576) (h0 : 0 ≤ i) (h1 : i ≤ l.length) : ∃ x i' h', spec_l01Byte.f l i h = some (x, i', h') ∧ 0 ≤ x ∧ x ≤ 255 ∧ 0 ≤ i' ∧ i' ≤ l.length := by
  unfold spec_l01Byte.f
  by_cases hi : i < (l.length : Int)
  · rw [if_pos hi, if_pos h0]
    refine ⟨_, _, _, rfl, ?_, ?_, ?_, ?_⟩
    · rw [and255]; omega
    · rw [and255]; omega
    · rw [w64 (by omega) (by omega)]; omega
    · rw [w64 (by omega) (by omega)]; omega
  · rw [if_neg hi]
    refine ⟨_, _, _, rfl, ?_, ?_, h0, h1⟩
    · rw [and255]; omega
    · rw [and255]; omega
theorem new_l0 (l : List Int) (hl : l.length ≤ 1048576) (d : Nat) : ∀ (h i : Int), 0 ≤ i → i ≤ l.length → (l.length : Int) - i = d → ∃ h', Ev (fun k => spec_l01New.l0 k l h i) (l, 0, h') := by
  induction d with
  | zero =>
    intro h i h0 h1 hd
    exact ⟨h, Ev.step (fun k => by rw [spec_l01New.l0]) (ev_neg (by omega) (ev_some _))⟩
  | succ d ih =>
    intro h i h0 h1 hd
    by_cases h4 : i < 4000
    · obtain ⟨h', hh⟩ := ih (Go.bits .and .i64 (wrap64 ((wrap64 ((wrap64 (h * 113)) + (wrap64 (rd l i)))) + 7)) 1073741823) (i + 1) (by omega) (by omega) (by omega)
      refine ⟨h', Ev.step (fun k => by rw [spec_l01New.l0]) ?_⟩
      rw [show wrap64 (i + 1) = i + 1 from w64 (by omega) (by omega)]
      exact ev_pos (by omega) (ev_pos h4 (ev_pos h0 hh))
    · exact ⟨h, Ev.step (fun k => by rw [spec_l01New.l0]) (ev_pos (by omega) (ev_neg h4 (ev_some _)))⟩
theorem new_ev (l : List Int) (hl : l.length ≤ 1048576) : ∃ h, Ev (fun k => spec_l01New.f k l) (l, 0, h) := by
  unfold spec_l01New.f
  exact new_l0 l hl l.length _ 0 (by omega) (by omega) (by omega)
theorem l19_l0 (l : List Int) (hl : l.length ≤ 1048576) (n : Int) (hn : n ≤ 1000000) (d : Nat) : ∀ (i h j : Int), 0 ≤ i → i ≤ l.length → 0 ≤ j → j ≤ n → n - j = d → ∃ i' h', Ev (fun k => spec_l19New.l0 k l i h n j) (l, i', h') ∧ 0 ≤ i' ∧ i' ≤ l.length := by
  induction d with
  | zero =>
    intro i h j h0 h1 j0 j1 hd
    exact ⟨i, h, Ev.step (fun k => by rw [spec_l19New.l0]) (ev_neg (by omega) (ev_some _)), h0, h1⟩
  | succ d ih =>
    intro i h j h0 h1 j0 j1 hd
    obtain ⟨x, i1, h2, hb, _, _, g0, g1⟩ := byte_is l i h hl h0 h1
    obtain ⟨i', h', he, q0, q1⟩ := ih i1 h2 (j + 1) g0 g1 (by omega) (by omega) (by omega)
    refine ⟨i', h', Ev.step (fun k => by rw [spec_l19New.l0]) ?_, q0, q1⟩
    rw [show wrap64 (j + 1) = j + 1 from w64 (by omega) (by omega)]
    exact ev_pos (by omega) (ev_bind0 hb he)
/-- MakeNum gives a number from 0 to 65535. -/
theorem num_ev (l : List Int) (hl : l.length ≤ 1048576) (n : Int) (h0 : 0 ≤ n) (hn : n ≤ 1000000) : ∃ v, 0 ≤ v ∧ v ≤ 65535 ∧ Ev (fun k => spec_MakeNum.f k l n) v := by
  obtain ⟨h, hnew⟩ := new_ev l hl
  obtain ⟨i1, h1, he, a0, a1⟩ := l19_l0 l hl n hn n.toNat 0 h 0 (by omega) (by omega) (by omega) h0 (by omega)
  obtain ⟨x, i2, h2, hb, x0, x1, b0, b1⟩ := byte_is l i1 h1 hl a0 a1
  obtain ⟨y, i3, h3, hc, y0, y1, _, _⟩ := byte_is l i2 h2 hl b0 b1
  refine ⟨x * 256 + y, by omega, by omega, ?_⟩
  unfold spec_MakeNum.f spec_l19New.f
  refine Ev.bind (Ev.bind hnew he) ?_
  refine ev_bind0 hb ?_
  refine ev_bind0 hc ?_
  refine ev_eq (ev_some _) ?_
  rw [w64 (x := x * 256) (by omega) (by omega), w64 (by omega) (by omega)]

/-- MakeDeal gives one of five deals. -/
theorem deal_ev (l : List Int) (hl : l.length ≤ 1048576) : ∃ a b c, Ev (fun k => spec_MakeDeal.f k l) (a, b, c) ∧ (a, b, c) ∈ [((2 : Int), (2 : Int), (1 : Int)), (3, 2, 1), (2, 3, 1), (2, 2, 0), (1, 2, 1)] := by
  obtain ⟨h, hnew⟩ := new_ev l hl
  obtain ⟨x, i1, h1, hb, x0, x1, _, _⟩ := byte_is l 0 h hl (by omega) (by omega)
  have hx : 0 ≤ Int.tmod x 5 ∧ Int.tmod x 5 < 5 := by rw [Int.tmod_eq_emod_of_nonneg x0]; omega
  have hbel : spec_l01Below.f l 0 h 5 = some (Int.tmod x 5, i1, h1) := by
    unfold spec_l01Below.f
    rw [if_neg (by decide), if_pos (by decide), hb]
    rfl
  have key : ∀ v : Int, 0 ≤ v → v < 5 → ∃ a b c, (if 0 ≤ v then (if v < ((([(⟨2, 2, 1⟩ : S52), (⟨3, 2, 1⟩ : S52), (⟨2, 3, 1⟩ : S52), (⟨2, 2, 0⟩ : S52), (⟨1, 2, 1⟩ : S52)] : List (S52)).length : Int)) then (some ((rd_T52 [(⟨2, 2, 1⟩ : S52), (⟨3, 2, 1⟩ : S52), (⟨2, 3, 1⟩ : S52), (⟨2, 2, 0⟩ : S52), (⟨1, 2, 1⟩ : S52)] v).f0, (rd_T52 [(⟨2, 2, 1⟩ : S52), (⟨3, 2, 1⟩ : S52), (⟨2, 3, 1⟩ : S52), (⟨2, 2, 0⟩ : S52), (⟨1, 2, 1⟩ : S52)] v).f1, (rd_T52 [(⟨2, 2, 1⟩ : S52), (⟨3, 2, 1⟩ : S52), (⟨2, 3, 1⟩ : S52), (⟨2, 2, 0⟩ : S52), (⟨1, 2, 1⟩ : S52)] v).f2, i1, h1)) else none) else none) = some (a, b, c, i1, h1) ∧ (a, b, c) ∈ [((2 : Int), (2 : Int), (1 : Int)), (3, 2, 1), (2, 3, 1), (2, 2, 0), (1, 2, 1)] := by
    intro v v0 v5
    have : v = 0 ∨ v = 1 ∨ v = 2 ∨ v = 3 ∨ v = 4 := by omega
    rcases this with rfl | rfl | rfl | rfl | rfl
    · exact ⟨2, 2, 1, rfl, by decide⟩
    · exact ⟨3, 2, 1, rfl, by decide⟩
    · exact ⟨2, 3, 1, rfl, by decide⟩
    · exact ⟨2, 2, 0, rfl, by decide⟩
    · exact ⟨1, 2, 1, rfl, by decide⟩
  obtain ⟨a, b, c, hk, hm⟩ := key _ hx.1 hx.2
  have hd : spec_l13Deal.f l 0 h = some (a, b, c, i1, h1) := by
    unfold spec_l13Deal.f
    rw [hbel]
    exact hk
  refine ⟨a, b, c, ?_, hm⟩
  unfold spec_MakeDeal.f
  refine Ev.bind hnew ?_
  exact ev_bind0 hd (ev_some _)

/-- The law's middle part at one deal, hand and size. -/
def safeAt (k : Nat) (a b c h s : Int) : Bool :=
  match impl_FirstSafe.f k a b c h s, spec_FirstSafe.f k a b c h s with
  | some (l, o), some (_, o') => o == o' && (!o || (decide ((l.length : Int) = s) && (laws_has.f k l h == some true) && (impl_IsSafe.f k a b c l == some true)))
  | _, _ => false
def safeAll (k : Nat) (a b c : Int) : Bool :=
  match impl_HandsOf.f k a b c with
  | some hs => hs.length != 0 && hs.all fun h => [(1 : Int), 2, 3, 4].all fun s => safeAt k a b c h s
  | none => false
theorem safe221 : safeAll 200 2 2 1 = true := by decide +kernel
theorem safe321 : safeAll 200 3 2 1 = true := by decide +kernel
theorem safe231 : safeAll 200 2 3 1 = true := by decide +kernel
theorem safe220 : safeAll 200 2 2 0 = true := by decide +kernel
theorem safe121 : safeAll 200 1 2 1 = true := by decide +kernel
theorem big_yes : impl_IsSafe.f 300 3 3 1 [7, 25, 42, 52, 76, 82, 97] = some true := by decide +kernel
theorem big_no : impl_IsSafe.f 300 3 3 1 [7, 25] = some false := by decide +kernel
theorem safe_end : Ev (fun k => laws_FnSafe.j0 k false) true := by
  refine Ev.step (fun k => by rw [laws_FnSafe.j0]) ?_
  refine ev_neg (by decide) ?_
  refine Ev.bind (Ev.of (k := 300) (fun k => impl_IsSafe.mono _ _ _ _ k) big_yes) ?_
  refine ev_pos rfl ?_
  refine Ev.bind (Ev.of (k := 300) (fun k => impl_IsSafe.mono _ _ _ _ k) big_no) ?_
  exact ev_some _
theorem rd_mem (l : List Int) (i : Int) (h0 : 0 ≤ i) (h1 : i < l.length) : rd l i ∈ l := by
  have hlt : i.toNat < l.length := by omega
  unfold rd
  rw [List.getD_eq_getElem?_getD, List.getElem?_eq_getElem hlt]
  exact List.getElem_mem hlt
theorem safe_case (a b c v1 v2 : Int) (hv1 : 0 ≤ v1) (hv2 : 0 ≤ v2) (hsafe : safeAll 200 a b c = true) : ∃ hs : List Int, Ev (fun k => impl_HandsOf.f k a b c) hs ∧ ¬ (hs.length : Int) = 0 ∧ 0 ≤ Int.tmod v2 (hs.length : Int) ∧ Int.tmod v2 (hs.length : Int) < (hs.length : Int) ∧
    ∃ l o l', Ev (fun k => impl_FirstSafe.f k a b c (rd hs (Int.tmod v2 (hs.length : Int))) (wrap64 (1 + Int.tmod v1 4))) (l, o) ∧ Ev (fun k => spec_FirstSafe.f k a b c (rd hs (Int.tmod v2 (hs.length : Int))) (wrap64 (1 + Int.tmod v1 4))) (l', o) ∧
      (o = true → (l.length : Int) = wrap64 (1 + Int.tmod v1 4) ∧ Ev (fun k => laws_has.f k l (rd hs (Int.tmod v2 (hs.length : Int)))) true ∧ Ev (fun k => impl_IsSafe.f k a b c l) true) := by
  unfold safeAll at hsafe
  cases hh : impl_HandsOf.f 200 a b c with
  | none => rw [hh] at hsafe; cases hsafe
  | some hs =>
    rw [hh] at hsafe
    simp only [Bool.and_eq_true, List.all_eq_true, bne_iff_ne, ne_eq] at hsafe
    obtain ⟨hne, hall⟩ := hsafe
    have hpos : (0 : Int) < (hs.length : Int) := by omega
    have m0 : 0 ≤ Int.tmod v2 (hs.length : Int) := by rw [Int.tmod_eq_emod_of_nonneg hv2]; exact Int.emod_nonneg _ (by omega)
    have m1 : Int.tmod v2 (hs.length : Int) < (hs.length : Int) := by rw [Int.tmod_eq_emod_of_nonneg hv2]; exact Int.emod_lt_of_pos _ hpos
    have hsz : wrap64 (1 + Int.tmod v1 4) ∈ [(1 : Int), 2, 3, 4] := by
      rw [Int.tmod_eq_emod_of_nonneg hv1, w64 (by omega) (by omega)]
      have : v1 % 4 = 0 ∨ v1 % 4 = 1 ∨ v1 % 4 = 2 ∨ v1 % 4 = 3 := by omega
      rcases this with h | h | h | h <;> rw [h] <;> decide
    have hat := hall _ (rd_mem hs _ m0 m1) _ hsz
    refine ⟨hs, Ev.of (fun k => impl_HandsOf.mono _ _ _ k) hh, by omega, m0, m1, ?_⟩
    generalize rd hs (Int.tmod v2 (hs.length : Int)) = h at hat
    generalize wrap64 (1 + Int.tmod v1 4) = s at hat
    unfold safeAt at hat
    cases h1 : impl_FirstSafe.f 200 a b c h s with
    | none => rw [h1] at hat; cases hat
    | some x =>
      cases h2 : spec_FirstSafe.f 200 a b c h s with
      | none => rw [h1, h2] at hat; cases hat
      | some y =>
        obtain ⟨l, o⟩ := x
        obtain ⟨l', o'⟩ := y
        rw [h1, h2] at hat
        simp only [Bool.and_eq_true, beq_iff_eq] at hat
        obtain ⟨rfl, hat⟩ := hat
        refine ⟨l, o, l', Ev.of (fun k => impl_FirstSafe.mono _ _ _ _ _ k) h1, Ev.of (fun k => spec_FirstSafe.mono _ _ _ _ _ k) h2, fun ho => ?_⟩
        subst ho
        simp only [Bool.not_true, Bool.false_or, Bool.and_eq_true, decide_eq_true_eq, beq_iff_eq] at hat
        obtain ⟨⟨q1, q2⟩, q3⟩ := hat
        exact ⟨q1, Ev.of (fun k => laws_has.mono _ _ k) q2, Ev.of (fun k => impl_IsSafe.mono _ _ _ _ k) q3⟩
theorem FnSafe (l : List Int) (hm : l.length ≤ maxLen) (_ : ∀ x ∈ l, (Lit.int .u8 x).wf = true) : ∃ k, laws_FnSafe.f k l = some true := by
  apply Ev.rounds
  unfold laws_FnSafe.f
  by_cases hl : (l.length : Int) > 1048576
  · exact ev_pos hl (ev_some _)
  · refine ev_neg hl ?_
    obtain ⟨a, b, c, hd, hmem⟩ := deal_ev l (by omega)
    obtain ⟨v1, p1, _, e1⟩ := num_ev l (by omega) 20 (by omega) (by omega)
    obtain ⟨v2, p2, _, e2⟩ := num_ev l (by omega) 22 (by omega) (by omega)
    have hsafe : safeAll 200 a b c = true := by
      simp only [List.mem_cons, Prod.mk.injEq, List.not_mem_nil, or_false] at hmem
      rcases hmem with ⟨rfl, rfl, rfl⟩ | ⟨rfl, rfl, rfl⟩ | ⟨rfl, rfl, rfl⟩ | ⟨rfl, rfl, rfl⟩ | ⟨rfl, rfl, rfl⟩
      · exact safe221
      · exact safe321
      · exact safe231
      · exact safe220
      · exact safe121
    obtain ⟨hs, g0, g1, g2, g3, q, o, q', f1, f2, f3⟩ := safe_case a b c v1 v2 p1 p2 hsafe
    refine Ev.bind hd ?_
    refine Ev.bind g0 ?_
    refine Ev.bind e1 ?_
    refine ev_neg g1 ?_
    refine Ev.bind e2 ?_
    refine ev_pos g2 ?_
    refine ev_pos g3 ?_
    refine Ev.bind f1 ?_
    refine Ev.bind f2 ?_
    refine ev_neg (by simp) ?_
    cases o with
    | false => exact ev_neg (by simp) safe_end
    | true =>
      obtain ⟨r1, r2, r3⟩ := f3 rfl
      refine ev_pos rfl ?_
      refine ev_pos r1 ?_
      refine Ev.bind r2 ?_
      refine ev_pos rfl ?_
      refine Ev.bind r3 ?_
      exact safe_end

end Go.Proofs.Ythibhcohcbgdpaa.Pure
