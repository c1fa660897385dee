/-
  FnExactBeliefOk over lists: both ask the same of the facts and of the ranks.
-/
import Derived.Test.YtlmopkacmgpicaaPFnExactBeliefOkx
import Derived.Test.YtlmopkacmgpicaaPL
set_option linter.unusedVariables false
set_option linter.unusedSimpArgs false
namespace Go.Proofs.Ytlmopkacmgpicaa.Pure
open Go.RowKit Go.Proofs.Ytlmopkacmgpicaa Go.Proofs.Ytlmopkacmgpicaa.PFnExactBeliefOk Go.Proofs.YtlmopkacmgpicaaW.PrintWords Go.Proofs.YtlmopkacmgpicaaW.PrintLast Go.Proofs.YtlmopkacmgpicaaW.PrintMore Go.Proofs.Ytlmopkacmgpicaa.PL

theorem within_is (a b c : Int) : impl_within.f a b c = some (decide (b ≤ a ∧ a ≤ c)) := by
  unfold impl_within.f
  by_cases h : b ≤ a <;> simp [h]

theorem l01In_is (a b c : Int) : spec_l01In.f a b c = some (decide (b ≤ a ∧ a ≤ c)) := by
  unfold spec_l01In.f
  by_cases h : b ≤ a <;> simp [h]

theorem nodup_le : ∀ (a b : List Int), a.Nodup → (∀ y ∈ a, y ∈ b) → a.length ≤ b.length
  | [], b, _, _ => Nat.zero_le _
  | x :: t, b, hn, hs => by
    obtain ⟨h1, h2⟩ := List.nodup_cons.1 hn
    have hx : x ∈ b := hs x (by simp)
    have ht := nodup_le t (b.erase x) h2 (fun y hy => by
      have hne : y ≠ x := fun e => h1 (by rw [← e]; exact hy)
      exact (List.mem_erase_of_ne hne).2 (hs y (by simp [hy])))
    rw [List.length_erase_of_mem hx] at ht
    have := List.length_pos_of_mem hx
    simp only [List.length_cons]
    omega
theorem rank_is (l fin : List Int) (x : Int) (hn : fin.Nodup) (hm : ∀ y, y ∈ fin ↔ (y ∈ l ∧ y < x)) : (fin.length : Int) = H.rankOf l x := by
  obtain ⟨h1, h2⟩ := H.once_facts l
  have hnd : (H.once l).Nodup := h1.imp (fun h => by omega)
  have hf : ((H.once l).filter (· < x)).Nodup := hnd.sublist List.filter_sublist
  have e1 := nodup_le fin ((H.once l).filter (· < x)) hn (fun y hy => by
    obtain ⟨q1, q2⟩ := (hm y).1 hy
    exact List.mem_filter.2 ⟨(h2 y).2 q1, by simpa using q2⟩)
  have e2 := nodup_le ((H.once l).filter (· < x)) fin hf (fun y hy => by
    obtain ⟨q1, q2⟩ := List.mem_filter.1 hy
    exact (hm y).2 ⟨(h2 y).1 q1, by simpa using q2⟩)
  unfold H.rankOf
  rw [List.countP_eq_length_filter]
  omega
theorem rd_at (l : List Int) (i : Nat) (h : i < l.length) : rd l (i : Int) = l[i] := by
  unfold rd
  simp [List.getD_eq_getElem?_getD, List.getElem?_eq_getElem h]
theorem has_l0 (l : List Int) (x : Int) (hn : l.length ≤ 1048576) (d : Nat) : ∀ i : Nat, i ≤ l.length → l.length - i = d → Ev (fun k => spec_l13Has.l0 k x l l.length i) (decide (x ∈ l.drop i)) := by
  induction d with
  | zero =>
    intro i hi hd
    refine Ev.step (fun k => by rw [spec_l13Has.l0]) (ev_neg (by omega) (ev_eq (ev_some _) ?_))
    rw [List.drop_eq_nil_of_le (by omega)]
    simp
  | succ d ih =>
    intro i hi hd
    have hil : i < l.length := by omega
    have ew : wrap64 ((i : Int) + 1) = ((i + 1 : Nat) : Int) := by rw [w64 (by omega) (by omega)]; omega
    have z1 : (i : Int) < (l.length : Int) := by omega
    have z0 : (0 : Int) ≤ (i : Int) := by omega
    have hih := ih (i + 1) (by omega) (by omega)
    rw [List.drop_eq_getElem_cons hil]
    refine Ev.step (fun k => by rw [spec_l13Has.l0]) ?_
    rw [rd_at l i hil, ew]
    refine ev_pos z1 (ev_pos z0 (ev_pos z1 ?_))
    by_cases he : l[i] = x
    · exact ev_pos he (ev_eq (ev_some _) (by simp [he]))
    · refine ev_neg he (ev_eq hih ?_)
      rw [decide_eq_decide, List.mem_cons]
      exact ⟨.inr, fun h => h.resolve_left (Ne.symm he)⟩
theorem has_ev (l : List Int) (x : Int) (hn : l.length ≤ 1048576) : Ev (fun k => spec_l13Has.f k l x) (decide (x ∈ l)) := by
  unfold spec_l13Has.f
  exact ev_eq (has_l0 l x hn l.length 0 (by omega) (by omega)) (by simp)
theorem less_l1 (l out : List Int) (x i : Int) (hn : l.length ≤ 16) (ho : out.length ≤ 16) (r : List Int) (d : Nat) : ∀ (j : Nat) (acc : List Int), j ≤ l.length → l.length - j = d → acc.length ≤ j → acc.Nodup → (∀ y ∈ acc, y < x) →
    ∃ fin : List Int, fin.Nodup ∧ (∀ y, y ∈ fin ↔ (y ∈ acc ∨ (y ∈ l.drop j ∧ y < x))) ∧ (Ev (fun k => spec_RankAgain.l0 k l (out ++ [(fin.length : Int)]) l l.length (wrap64 (i + 1))) r → Ev (fun k => spec_RankAgain.l1 k l out x acc l l.length i l l.length j) r) := by
  induction d with
  | zero =>
    intro j acc hj hd ha hnd hlt
    refine ⟨acc, hnd, fun y => ?_, fun h => ?_⟩
    · rw [List.drop_eq_nil_of_le (by omega)]; simp
    · exact Ev.step (fun k => by rw [spec_RankAgain.l1]) (ev_neg (by omega) (ev_pos (by omega) h))
  | succ d ih =>
    intro j acc hj hd ha hnd hlt
    have hjl : j < l.length := by omega
    have ew : wrap64 ((j : Int) + 1) = ((j + 1 : Nat) : Int) := by rw [w64 (by omega) (by omega)]; omega
    have z1 : (j : Int) < (l.length : Int) := by omega
    have z0 : (0 : Int) ≤ (j : Int) := by omega
    have hal : acc.length < 17592186044416 := by omega
    have hrd := rd_at l j hjl
    have hdr := List.drop_eq_getElem_cons hjl
    have ih0 := ih (j + 1) acc (by omega) (by omega) (by omega) hnd hlt
    have ih1 := ih (j + 1) (acc ++ [l[j]]) (by omega) (by omega) (by rw [List.length_append]; exact Nat.succ_le_succ ha)
    have hhas := has_ev acc l[j] (by omega)
    generalize l[j] = v at hrd hdr ih1 hhas
    by_cases hv : v < x
    · by_cases hm : v ∈ acc
      · obtain ⟨fin, f1, f2, f3⟩ := ih0
        refine ⟨fin, f1, fun y => ?_, fun h => ?_⟩
        · rw [f2 y, hdr]
          simp only [List.mem_cons]
          constructor
          · rintro (h | ⟨h, h'⟩)
            · exact .inl h
            · exact .inr ⟨.inr h, h'⟩
          · rintro (h | ⟨h | h, h'⟩)
            · exact .inl h
            · exact .inl (h ▸ hm)
            · exact .inr ⟨h, h'⟩
        · refine Ev.step (fun k => by rw [spec_RankAgain.l1]) ?_
          rw [hrd, ew]
          refine ev_pos z1 (ev_pos z0 (ev_pos z1 (ev_pos hv ?_)))
          refine Ev.bind hhas ?_
          exact ev_pos (decide_eq_true hm) (f3 h)
      · obtain ⟨fin, f1, f2, f3⟩ := ih1 (by
          rw [List.nodup_append]
          refine ⟨hnd, by simp, fun a ha' b hb => ?_⟩
          simp only [List.mem_singleton] at hb
          subst hb
          exact fun e => hm (e ▸ ha')) (fun y hy => by
          rcases List.mem_append.1 hy with h | h
          · exact hlt y h
          · simp only [List.mem_singleton] at h; rw [h]; exact hv)
        refine ⟨fin, f1, fun y => ?_, fun h => ?_⟩
        · rw [f2 y, hdr]
          simp only [List.mem_cons, List.mem_append, List.not_mem_nil, or_false]
          constructor
          · rintro ((h | h) | ⟨h, h'⟩)
            · exact .inl h
            · exact .inr ⟨.inl h, h ▸ hv⟩
            · exact .inr ⟨.inr h, h'⟩
          · rintro (h | ⟨h | h, h'⟩)
            · exact .inl (.inl h)
            · exact .inl (.inr h)
            · exact .inr ⟨h, h'⟩
        · refine Ev.step (fun k => by rw [spec_RankAgain.l1]) ?_
          rw [hrd, ew]
          refine ev_pos z1 (ev_pos z0 (ev_pos z1 (ev_pos hv ?_)))
          refine Ev.bind hhas ?_
          exact ev_neg (by simpa using hm) (ev_pos hal (f3 h))
    · obtain ⟨fin, f1, f2, f3⟩ := ih0
      refine ⟨fin, f1, fun y => ?_, fun h => ?_⟩
      · rw [f2 y, hdr]
        simp only [List.mem_cons]
        constructor
        · rintro (h | ⟨h, h'⟩)
          · exact .inl h
          · exact .inr ⟨.inr h, h'⟩
        · rintro (h | ⟨h | h, h'⟩)
          · exact .inl h
          · exact absurd (h ▸ h') hv
          · exact .inr ⟨h, h'⟩
      · refine Ev.step (fun k => by rw [spec_RankAgain.l1]) ?_
        rw [hrd, ew]
        exact ev_pos z1 (ev_pos z0 (ev_pos z1 (ev_neg hv (f3 h))))
theorem ranks_l0 (l : List Int) (hn : l.length ≤ 16) (d : Nat) : ∀ (i : Nat) (out : List Int), i ≤ l.length → l.length - i = d → out = (H.ranks l).take i → Ev (fun k => spec_RankAgain.l0 k l out l l.length i) (H.ranks l) := by
  have hrl : (H.ranks l).length = l.length := by unfold H.ranks; rw [List.length_map]
  induction d with
  | zero =>
    intro i out hi hd ho
    subst ho
    refine Ev.step (fun k => by rw [spec_RankAgain.l0]) (ev_neg (by omega) (ev_eq (ev_some _) ?_))
    exact List.take_of_length_le (by omega)
  | succ d ih =>
    intro i out hi hd ho
    have hil : i < l.length := by omega
    have ew : wrap64 ((i : Int) + 1) = ((i + 1 : Nat) : Int) := by rw [w64 (by omega) (by omega)]; omega
    have z1 : (i : Int) < (l.length : Int) := by omega
    have z0 : (0 : Int) ≤ (i : Int) := by omega
    have hol : out.length ≤ 16 := by rw [ho, List.length_take]; omega
    obtain ⟨fin, f1, f2, f3⟩ := less_l1 l out l[i] i hn hol (H.ranks l) l.length 0 [] (by omega) (by omega) (by simp) (by simp) (by simp)
    have hfin := rank_is l fin l[i] f1 (fun y => by rw [f2 y]; simp)
    have hnext := ih (i + 1) (out ++ [(fin.length : Int)]) (by omega) (by omega) (by
      rw [List.take_succ_eq_append_getElem (by omega), ← ho, hfin]
      congr 1
      show _ = [(l.map (H.rankOf l))[i]'(by rw [List.length_map]; exact hil)]
      rw [List.getElem_map])
    rw [← ew] at hnext
    refine Ev.step (fun k => by rw [spec_RankAgain.l0]) ?_
    rw [rd_at l i hil]
    exact ev_pos z1 (ev_pos z0 (ev_pos z1 (f3 hnext)))
theorem srank_ev (l : List Int) (h : l.length ≤ 16) : Ev (fun k => spec_RankAgain.f k l) (H.ranks l) := by
  unfold spec_RankAgain.f
  exact ev_neg (by omega) (ranks_l0 l h l.length 0 [] (by omega) (by omega) (by simp))

theorem eqIntS_l0 (l m : List Int) (hlm : l.length = m.length) (hn : l.length ≤ 9223372036854775807) (d : Nat) : ∀ i : Int, 0 ≤ i → i ≤ l.length → (l.length : Int) - i = d →
    ∃ b, Ev (fun k => laws_eqIntS.l0 k l m i) b ∧ (b = true ↔ ∀ j : Int, i ≤ j → j < l.length → rd l j = rd m j) := by
  induction d with
  | zero =>
    intro i h0 h1 hd
    exact ⟨true, Ev.step (fun k => by rw [laws_eqIntS.l0]) (ev_neg (by omega) (ev_some true)), ⟨fun _ j _ _ => (by omega), fun _ => rfl⟩⟩
  | succ d ih =>
    intro i h0 h1 hd
    by_cases he : rd l i = rd m i
    · obtain ⟨b, hb, hi⟩ := ih (i + 1) (by omega) (by omega) (by omega)
      refine ⟨b, Ev.step (fun k => by rw [laws_eqIntS.l0]) (ev_pos (by omega) (ev_pos h0 (ev_pos (by omega) (ev_pos he ?_)))), ?_⟩
      · rw [w64 (by omega) (by omega)]; exact hb
      · rw [hi]
        constructor
        · intro h j hj hl
          by_cases e : j = i
          · rw [e]; exact he
          · exact h j (by omega) hl
        · intro h j hj hl
          exact h j (by omega) hl
    · exact ⟨false, Ev.step (fun k => by rw [laws_eqIntS.l0]) (ev_pos (by omega) (ev_pos h0 (ev_pos (by omega) (ev_neg he (ev_some false))))), ⟨fun h => (by cases h), fun h => absurd (h i (by omega) (by omega)) he⟩⟩
theorem eqIntS_ev (l m : List Int) (hn : l.length ≤ 9223372036854775807) : Ev (fun k => laws_eqIntS.f k l m) (decide (l = m)) := by
  unfold laws_eqIntS.f
  by_cases h : l.length = m.length
  · obtain ⟨b, hb, hi⟩ := eqIntS_l0 l m h hn l.length 0 (by omega) (by omega) (by omega)
    refine ev_pos (by omega) (ev_eq hb ?_)
    rw [Bool.eq_iff_iff, hi, decide_eq_true_eq]
    exact ⟨fun hr => ext_rd h (fun i h0 h1 => hr i h0 h1), fun e j _ _ => by rw [e]⟩
  · refine ev_neg (by omega) (ev_eq (ev_some false) ?_)
    symm; rw [decide_eq_false_iff_not]
    intro e; exact h (by rw [e])

theorem same_l0 (l m : List Int) (hlm : l.length = m.length) (hn : l.length ≤ 1048576) (d : Nat) : ∀ i : Int, 0 ≤ i → i ≤ l.length → (l.length : Int) - i = d →
    ∃ b, Ev (fun k => spec_l03Same.l0 k m l l.length i) b ∧ Ev (fun k => slices_Equal_int_int.l0 k l m l.length i) b ∧ (b = true ↔ ∀ j : Int, i ≤ j → j < l.length → rd l j = rd m j) := by
  induction d with
  | zero =>
    intro i h0 h1 hd
    exact ⟨true, Ev.step (fun k => by rw [spec_l03Same.l0]) (ev_neg (by omega) (ev_some true)), Ev.step (fun k => by rw [slices_Equal_int_int.l0]) (ev_neg (by omega) (ev_some true)), ⟨fun _ j _ _ => (by omega), fun _ => rfl⟩⟩
  | succ d ih =>
    intro i h0 h1 hd
    have z1 : i < (l.length : Int) := by omega
    have z2 : i < (m.length : Int) := by omega
    have ew : wrap64 (i + 1) = i + 1 := w64 (by omega) (by omega)
    by_cases he : rd l i = rd m i
    · obtain ⟨b, hb, hc, hi⟩ := ih (i + 1) (by omega) (by omega) (by omega)
      rw [← ew] at hb hc
      refine ⟨b, Ev.step (fun k => by rw [spec_l03Same.l0]) (ev_pos z1 (ev_pos h0 (ev_pos z1 (ev_pos z2 (ev_pos he hb))))), Ev.step (fun k => by rw [slices_Equal_int_int.l0]) (ev_pos z1 (ev_pos h0 (ev_pos z1 (ev_pos z2 (ev_pos he hc))))), ?_⟩
      rw [hi]
      constructor
      · intro h j hj hl
        by_cases e : j = i
        · rw [e]; exact he
        · exact h j (by omega) hl
      · intro h j hj hl
        exact h j (by omega) hl
    · exact ⟨false, Ev.step (fun k => by rw [spec_l03Same.l0]) (ev_pos z1 (ev_pos h0 (ev_pos z1 (ev_pos z2 (ev_neg he (ev_some false)))))), Ev.step (fun k => by rw [slices_Equal_int_int.l0]) (ev_pos z1 (ev_pos h0 (ev_pos z1 (ev_pos z2 (ev_neg he (ev_some false)))))), ⟨fun h => (by cases h), fun h => absurd (h i (by omega) z1) he⟩⟩
theorem same_both (l m : List Int) (hn : l.length ≤ 1048576) : ∃ b, Ev (fun k => spec_l03Same.f k l m) b ∧ Ev (fun k => slices_Equal_int_int.f k l m) b := by
  unfold spec_l03Same.f slices_Equal_int_int.f
  by_cases h : l.length = m.length
  · obtain ⟨b, hb, hc, _⟩ := same_l0 l m h hn l.length 0 (by omega) (by omega) (by omega)
    exact ⟨b, ev_pos (by omega) hb, ev_pos (by omega) hc⟩
  · exact ⟨false, ev_neg (by omega) (ev_some _), ev_neg (by omega) (ev_some _)⟩
theorem facts_loop (l m : List Int) (hl : l.length ≤ 16) (hm : m.length ≤ 16) (b : Bool) (hb : Ev (fun k => (spec_RankAgain.f k m).bind fun t126 => ((spec_l03Same.f k t126 m).bind fun t129 => (some t129))) b) (d : Nat) : ∀ i : Nat, i ≤ l.length → l.length - i = d →
    ∃ a, H.anyO impl_areFacts.p (l.drop i) = some (!a) ∧ Ev (fun k => spec_BeliefOk.l0 k l l.length i l m) (a && b) := by
  induction d with
  | zero =>
    intro i hi hd
    refine ⟨true, ?_, ?_⟩
    · rw [List.drop_eq_nil_of_le (by omega)]; rfl
    · refine Ev.step (fun k => by rw [spec_BeliefOk.l0]) (ev_neg (by omega) ?_)
      rw [Bool.true_and]
      exact hb
  | succ d ih =>
    intro i hi hd
    obtain ⟨a, ha, hs⟩ := ih (i + 1) (by omega) (by omega)
    have hil : i < l.length := by omega
    have z0 : (0 : Int) ≤ (i : Int) := by omega
    have z1 : (i : Int) < (l.length : Int) := by omega
    have ew : wrap64 ((i : Int) + 1) = ((i + 1 : Nat) : Int) := by rw [w64 (by omega) (by omega)]; omega
    rw [List.drop_eq_getElem_cons hil]
    simp only [H.anyO, impl_areFacts.p]
    rw [within_is]
    have hrd := rd_at l i hil
    generalize l[i] = x at hrd
    by_cases hx : 0 ≤ x ∧ x ≤ 15
    · refine ⟨a, ?_, ?_⟩
      · rw [decide_eq_true hx]; exact ha
      · refine Ev.step (fun k => by rw [spec_BeliefOk.l0]) ?_
        rw [hrd, ew]
        refine ev_pos z1 (ev_pos z0 (ev_pos z1 ?_))
        refine ev_bind0 (l01In_is _ _ _) ?_
        exact ev_dpos hx hs
    · refine ⟨false, ?_, ?_⟩
      · rw [decide_eq_false hx]; rfl
      · refine Ev.step (fun k => by rw [spec_BeliefOk.l0]) ?_
        rw [hrd]
        refine ev_pos z1 (ev_pos z0 (ev_pos z1 ?_))
        refine ev_bind0 (l01In_is _ _ _) ?_
        exact ev_dneg hx (ev_some _)
/-- BeliefOk, on both sides. -/
theorem belief_both (l m : List Int) (hl : l.length ≤ 1048576) (hm : m.length ≤ 1048576) : ∃ b, Ev (fun k => spec_BeliefOk.f k l m) b ∧ Ev (fun k => impl_BeliefOk.f k l m) b := by
  unfold spec_BeliefOk.f impl_BeliefOk.f
  have hfalse : Ev (fun k => spec_BeliefOk.j0 k true l m) false := Ev.step (fun k => by rw [spec_BeliefOk.j0]) (ev_pos rfl (ev_some _))
  by_cases h : 1 ≤ (l.length : Int) ∧ (l.length : Int) ≤ 16
  · by_cases he : (m.length : Int) = (l.length : Int)
    · have hm16 : m.length ≤ 16 := by omega
      have hrl : (H.ranks m).length = m.length := by unfold H.ranks; rw [List.length_map]
      obtain ⟨b, hb1, hb2⟩ := same_both (H.ranks m) m (by omega)
      obtain ⟨a, ha, hs⟩ := facts_loop l m (by omega) hm16 b (Ev.bind (srank_ev m hm16) (Ev.bind hb1 (ev_some _))) l.length 0 (by omega) (by omega)
      rw [List.drop_zero] at ha
      have hf : impl_areFacts.f l = some a := by
        unfold impl_areFacts.f
        rw [within_is, decide_eq_true h]
        simp only [Option.bind_some, if_true]
        rw [if_pos (by omega), ha]
        simp
      have hr : H.impl_rankAgain.f m = some (H.ranks m) := by unfold H.impl_rankAgain.f; rw [if_pos (by omega)]
      refine ⟨a && b, ?_, ?_⟩
      · refine ev_bind0 (l01In_is _ _ _) ?_
        refine ev_dpos h ?_
        refine Ev.step (fun k => by rw [spec_BeliefOk.j0]) ?_
        exact ev_neg (by simp [he]) hs
      · refine ev_bind0 hf ?_
        cases a with
        | true =>
          rw [Bool.true_and]
          exact ev_pos rfl (ev_pos he (ev_bind0 hr (Ev.bind hb2 (ev_some _))))
        | false => exact ev_neg (by decide) (ev_some _)
    · have hne : ((m.length : Int) != (l.length : Int)) = true := by simpa using he
      have hex : ∃ a, impl_areFacts.f l = some a := by
        have hany : ∀ q : List Int, ∃ a, H.anyO impl_areFacts.p q = some a := by
          intro q
          induction q with
          | nil => exact ⟨_, rfl⟩
          | cons x xs ih =>
            obtain ⟨a, ha⟩ := ih
            simp only [H.anyO, impl_areFacts.p]
            rw [within_is]
            cases hd : decide (0 ≤ x ∧ x ≤ 15) with
            | true => exact ⟨a, by simpa using ha⟩
            | false => exact ⟨true, by simp⟩
        obtain ⟨a, ha⟩ := hany l
        refine ⟨!a, ?_⟩
        unfold impl_areFacts.f
        rw [within_is, decide_eq_true h]
        simp only [Option.bind_some, if_true]
        rw [if_pos (by omega), ha]
        rfl
      obtain ⟨a, hf⟩ := hex
      refine ⟨false, ?_, ?_⟩
      · refine ev_bind0 (l01In_is _ _ _) ?_
        refine ev_dpos h ?_
        rw [hne]
        exact hfalse
      · refine ev_bind0 hf ?_
        cases a with
        | true => exact ev_pos rfl (ev_neg he (ev_some _))
        | false => exact ev_neg (by decide) (ev_some _)
  · have hf : impl_areFacts.f l = some false := by
      unfold impl_areFacts.f
      rw [within_is, decide_eq_false h]
      rfl
    refine ⟨false, ?_, ?_⟩
    · refine ev_bind0 (l01In_is _ _ _) ?_
      exact ev_dneg h hfalse
    · refine ev_bind0 hf ?_
      exact ev_neg (by decide) (ev_some _)

theorem toIntS_l0 (l : List Int) (hn : l.length ≤ 35184372088832) (d : Nat) : ∀ (i : Nat) (o : List Int), i ≤ l.length → l.length - i = d → o.length = l.length → o.take i = l.take i →
    Ev (fun k => laws_toIntS.l0 k l o i) l := by
  induction d with
  | zero =>
    intro i o h1 hd ho ht
    refine Ev.step (fun k => by rw [laws_toIntS.l0]) (ev_neg (by omega) (ev_eq (ev_some o) ?_))
    rw [List.take_of_length_le (by omega), List.take_of_length_le (by omega)] at ht
    exact ht
  | succ d ih =>
    intro i o h1 hd ho ht
    refine Ev.step (fun k => by rw [laws_toIntS.l0]) (ev_pos (by omega) (ev_pos (by omega) (ev_pos (by omega) ?_)))
    rw [w64 (by omega) (by omega)]
    have e : ((i : Int) + 1) = ((i + 1 : Nat) : Int) := by omega
    rw [e]
    refine ih (i + 1) _ (by omega) (by omega) (by simp [ho]) ?_
    simp only [Int.toNat_natCast]
    rw [List.take_succ_eq_append_getElem (by simp; omega), List.take_succ_eq_append_getElem (by omega), List.take_set_of_le (Nat.le_refl _), ht]
    congr 1
    simp [rd, List.getD_eq_getElem?_getD, List.getElem?_eq_getElem (show i < l.length by omega)]
theorem toIntS_ev (l : List Int) (hn : l.length ≤ 35184372088832) : Ev (fun k => laws_toIntS.f k l) l := by
  unfold laws_toIntS.f
  refine ev_pos (by omega) (ev_pos (by omega) ?_)
  exact toIntS_l0 l hn l.length 0 _ (by omega) (by omega) (by simp) (by simp)

theorem szI_is (l : List Int) (a : Int) (h0 : 0 ≤ a) (ha : a ≤ 1048576) (h : (l.length : Int) ≤ 9223372036854775807) : laws_szIntS.f l a = some (if a - (l.length : Int) < 0 then (-1 : Int) else (a - (l.length : Int) : Int)) := by
  unfold laws_szIntS.f
  rw [w64 (by omega) (by omega)]
  split <;> rfl
theorem FnExactBeliefOk (l m : List Int) (hl : l.length ≤ maxLen) (_ : ∀ x ∈ l, (Lit.int .i64 x).wf = true) (hm : m.length ≤ maxLen) (_ : ∀ x ∈ m, (Lit.int .i64 x).wf = true) : ∃ k, laws_FnExactBeliefOk.f k l m = some true := by
  apply Ev.rounds
  unfold laws_FnExactBeliefOk.f laws_szBelief.f
  have hml : maxLen = 9223372036854775807 := rfl
  by_cases h1 : 1048576 - (l.length : Int) < 0
  · have e1 : laws_szIntS.f l 1048576 = some (-1) := by rw [szI_is l _ (by omega) (by omega) (by omega), if_pos h1]
    refine ev_bind0 (a := (-1 : Int)) (by rw [e1]; rfl) ?_
    exact ev_pos (by decide) (ev_some _)
  · have e1 : laws_szIntS.f l 1048576 = some (1048576 - (l.length : Int)) := by rw [szI_is l _ (by omega) (by omega) (by omega), if_neg h1]
    by_cases h2 : 1048576 - (l.length : Int) - (m.length : Int) < 0
    · have e2 : laws_szIntS.f m (1048576 - (l.length : Int)) = some (-1) := by rw [szI_is m _ (by omega) (by omega) (by omega), if_pos h2]
      refine ev_bind0 (a := (-1 : Int)) (by
        rw [e1]
        show (if 1048576 - (l.length : Int) < 0 then some (-1) else _) = _
        rw [if_neg h1, e2]
        rfl) ?_
      exact ev_pos (by decide) (ev_some _)
    · have e2 : laws_szIntS.f m (1048576 - (l.length : Int)) = some (1048576 - (l.length : Int) - (m.length : Int)) := by rw [szI_is m _ (by omega) (by omega) (by omega), if_neg h2]
      refine ev_bind0 (a := 1048576 - (l.length : Int) - (m.length : Int)) (by
        rw [e1]
        show (if 1048576 - (l.length : Int) < 0 then some (-1) else _) = _
        rw [if_neg h1, e2]
        show (if 1048576 - (l.length : Int) - (m.length : Int) < 0 then some (-1) else _) = _
        rw [if_neg h2]) ?_
      obtain ⟨b, hs, hi⟩ := belief_both l m (by omega) (by omega)
      have tl := toIntS_ev l (by omega)
      have tm := toIntS_ev m (by omega)
      have tb : Ev (fun k => laws_toBelief.f k l m) (l, m) := by unfold laws_toBelief.f; exact Ev.bind tl (Ev.bind tm (ev_some _))
      have el := eqIntS_ev l l (by omega)
      have em := eqIntS_ev m m (by omega)
      have eb : Ev (fun k => laws_eqBelief.f k l m l m) true := by
        unfold laws_eqBelief.f
        exact Ev.bind el (ev_pos (by simp) (Ev.bind em (ev_pos (by simp) (ev_some _))))
      refine ev_neg h2 ?_
      refine Ev.bind tb ?_
      refine Ev.bind hs ?_
      refine Ev.bind tb ?_
      refine Ev.bind hi ?_
      refine ev_neg (by simp) ?_
      refine Ev.bind tb ?_
      refine Ev.bind eb ?_
      exact ev_pos rfl (ev_some _)

end Go.Proofs.Ytlmopkacmgpicaa.Pure
