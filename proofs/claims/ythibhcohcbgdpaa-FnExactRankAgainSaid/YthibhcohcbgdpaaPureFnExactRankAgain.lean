/-
  FnExactRankAgain over lists: for each element both count the different lesser ones.
-/
import Derived.Test.YthibhcohcbgdpaaPFnExactRankAgainx
import Derived.Test.YthibhcohcbgdpaaPL
set_option linter.unusedVariables false
set_option linter.unusedSimpArgs false
namespace Go.Proofs.Ythibhcohcbgdpaa.Pure
open Go.RowKit Go.Proofs.Ythibhcohcbgdpaa Go.Proofs.Ythibhcohcbgdpaa.PFnExactRankAgain Go.Proofs.YthibhcohcbgdpaaW.PrintWords Go.Proofs.YthibhcohcbgdpaaW.PrintLast Go.Proofs.YthibhcohcbgdpaaW.PrintMore Go.Proofs.Ythibhcohcbgdpaa.PL

theorem nodup_le : ∀ (a b : List Int), a.Nodup → (∀ y ∈ a, y ∈ b) → a.length ≤ b.length
  | [], b, _, _ => Nat.zero_le _
  | x :: t, b, hn, hs => by
    obtain ⟨h1, h2⟩ := List.nodup_cons.1 hn
    have hx : x ∈ b := hs x (by simp)
    have ht := nodup_le t (b.erase x) h2 (fun y hy => by
      have hne : y ≠ x := fun e => h1 (by rw [← e]; exact hy)
      exact (List.mem_erase_of_ne hne).2 (hs y (by simp [hy])))
    rw [List.length_erase_of_mem hx] at ht
    have := List.length_pos_of_mem hx
    simp only [List.length_cons]
    omega
theorem rank_is (l fin : List Int) (x : Int) (hn : fin.Nodup) (hm : ∀ y, y ∈ fin ↔ (y ∈ l ∧ y < x)) : (fin.length : Int) = H.rankOf l x := by
  obtain ⟨h1, h2⟩ := H.once_facts l
  have hnd : (H.once l).Nodup := h1.imp (fun h => by omega)
  have hf : ((H.once l).filter (· < x)).Nodup := hnd.sublist List.filter_sublist
  have e1 := nodup_le fin ((H.once l).filter (· < x)) hn (fun y hy => by
    obtain ⟨q1, q2⟩ := (hm y).1 hy
    exact List.mem_filter.2 ⟨(h2 y).2 q1, by simpa using q2⟩)
  have e2 := nodup_le ((H.once l).filter (· < x)) fin hf (fun y hy => by
    obtain ⟨q1, q2⟩ := List.mem_filter.1 hy
    exact (hm y).2 ⟨(h2 y).1 q1, by simpa using q2⟩)
  unfold H.rankOf
  rw [List.countP_eq_length_filter]
  omega
theorem rd_at (l : List Int) (i : Nat) (h : i < l.length) : rd l (i : Int) = l[i] := by
  unfold rd
  simp [List.getD_eq_getElem?_getD, List.getElem?_eq_getElem h]
theorem has_l0 (l : List Int) (x : Int) (hn : l.length ≤ 1048576) (d : Nat) : ∀ i : Nat, i ≤ l.length → l.length - i = d → Ev (fun k => spec_l13Has.l0 k x l l.length i) (decide (x ∈ l.drop i)) := by
  induction d with
  | zero =>
    intro i hi hd
    refine Ev.step (fun k => by rw [spec_l13Has.l0]) (ev_neg (by omega) (ev_eq (ev_some _) ?_))
    rw [List.drop_eq_nil_of_le (by omega)]
    simp
  | succ d ih =>
    intro i hi hd
    have hil : i < l.length := by omega
    have ew : wrap64 ((i : Int) + 1) = ((i + 1 : Nat) : Int) := by rw [w64 (by omega) (by omega)]; omega
    have z1 : (i : Int) < (l.length : Int) := by omega
    have z0 : (0 : Int) ≤ (i : Int) := by omega
    have hih := ih (i + 1) (by omega) (by omega)
    rw [List.drop_eq_getElem_cons hil]
    refine Ev.step (fun k => by rw [spec_l13Has.l0]) ?_
    rw [rd_at l i hil, ew]
    refine ev_pos z1 (ev_pos z0 (ev_pos z1 ?_))
    by_cases he : l[i] = x
    · exact ev_pos he (ev_eq (ev_some _) (by simp [he]))
    · refine ev_neg he (ev_eq hih ?_)
      rw [decide_eq_decide, List.mem_cons]
      exact ⟨.inr, fun h => h.resolve_left (Ne.symm he)⟩
theorem has_ev (l : List Int) (x : Int) (hn : l.length ≤ 1048576) : Ev (fun k => spec_l13Has.f k l x) (decide (x ∈ l)) := by
  unfold spec_l13Has.f
  exact ev_eq (has_l0 l x hn l.length 0 (by omega) (by omega)) (by simp)
theorem less_l1 (l out : List Int) (x i : Int) (hn : l.length ≤ 16) (ho : out.length ≤ 16) (r : List Int) (d : Nat) : ∀ (j : Nat) (acc : List Int), j ≤ l.length → l.length - j = d → acc.length ≤ j → acc.Nodup → (∀ y ∈ acc, y < x) →
    ∃ fin : List Int, fin.Nodup ∧ (∀ y, y ∈ fin ↔ (y ∈ acc ∨ (y ∈ l.drop j ∧ y < x))) ∧ (Ev (fun k => spec_RankAgain.l0 k l (out ++ [(fin.length : Int)]) l l.length (wrap64 (i + 1))) r → Ev (fun k => spec_RankAgain.l1 k l out x acc l l.length i l l.length j) r) := by
  induction d with
  | zero =>
    intro j acc hj hd ha hnd hlt
    refine ⟨acc, hnd, fun y => ?_, fun h => ?_⟩
    · rw [List.drop_eq_nil_of_le (by omega)]; simp
    · exact Ev.step (fun k => by rw [spec_RankAgain.l1]) (ev_neg (by omega) (ev_pos (by omega) h))
  | succ d ih =>
    intro j acc hj hd ha hnd hlt
    have hjl : j < l.length := by omega
    have ew : wrap64 ((j : Int) + 1) = ((j + 1 : Nat) : Int) := by rw [w64 (by omega) (by omega)]; omega
    have z1 : (j : Int) < (l.length : Int) := by omega
    have z0 : (0 : Int) ≤ (j : Int) := by omega
    have hal : acc.length < 17592186044416 := by omega
    have hrd := rd_at l j hjl
    have hdr := List.drop_eq_getElem_cons hjl
    have ih0 := ih (j + 1) acc (by omega) (by omega) (by omega) hnd hlt
    have ih1 := ih (j + 1) (acc ++ [l[j]]) (by omega) (by omega) (by rw [List.length_append]; exact Nat.succ_le_succ ha)
    have hhas := has_ev acc l[j] (by omega)
    generalize l[j] = v at hrd hdr ih1 hhas
    by_cases hv : v < x
    · by_cases hm : v ∈ acc
      · obtain ⟨fin, f1, f2, f3⟩ := ih0
        refine ⟨fin, f1, fun y => ?_, fun h => ?_⟩
        · rw [f2 y, hdr]
          simp only [List.mem_cons]
          constructor
          · rintro (h | ⟨h, h'⟩)
            · exact .inl h
            · exact .inr ⟨.inr h, h'⟩
          · rintro (h | ⟨h | h, h'⟩)
            · exact .inl h
            · exact .inl (h ▸ hm)
            · exact .inr ⟨h, h'⟩
        · refine Ev.step (fun k => by rw [spec_RankAgain.l1]) ?_
          rw [hrd, ew]
          refine ev_pos z1 (ev_pos z0 (ev_pos z1 (ev_pos hv ?_)))
          refine Ev.bind hhas ?_
          exact ev_pos (decide_eq_true hm) (f3 h)
      · obtain ⟨fin, f1, f2, f3⟩ := ih1 (by
          rw [List.nodup_append]
          refine ⟨hnd, by simp, fun a ha' b hb => ?_⟩
          simp only [List.mem_singleton] at hb
          subst hb
          exact fun e => hm (e ▸ ha')) (fun y hy => by
          rcases List.mem_append.1 hy with h | h
          · exact hlt y h
          · simp only [List.mem_singleton] at h; rw [h]; exact hv)
        refine ⟨fin, f1, fun y => ?_, fun h => ?_⟩
        · rw [f2 y, hdr]
          simp only [List.mem_cons, List.mem_append, List.not_mem_nil, or_false]
          constructor
          · rintro ((h | h) | ⟨h, h'⟩)
            · exact .inl h
            · exact .inr ⟨.inl h, h ▸ hv⟩
            · exact .inr ⟨.inr h, h'⟩
          · rintro (h | ⟨h | h, h'⟩)
            · exact .inl (.inl h)
            · exact .inl (.inr h)
            · exact .inr ⟨h, h'⟩
        · refine Ev.step (fun k => by rw [spec_RankAgain.l1]) ?_
          rw [hrd, ew]
          refine ev_pos z1 (ev_pos z0 (ev_pos z1 (ev_pos hv ?_)))
          refine Ev.bind hhas ?_
          exact ev_neg (by simpa using hm) (ev_pos hal (f3 h))
    · obtain ⟨fin, f1, f2, f3⟩ := ih0
      refine ⟨fin, f1, fun y => ?_, fun h => ?_⟩
      · rw [f2 y, hdr]
        simp only [List.mem_cons]
        constructor
        · rintro (h | ⟨h, h'⟩)
          · exact .inl h
          · exact .inr ⟨.inr h, h'⟩
        · rintro (h | ⟨h | h, h'⟩)
          · exact .inl h
          · exact absurd (h ▸ h') hv
          · exact .inr ⟨h, h'⟩
      · refine Ev.step (fun k => by rw [spec_RankAgain.l1]) ?_
        rw [hrd, ew]
        exact ev_pos z1 (ev_pos z0 (ev_pos z1 (ev_neg hv (f3 h))))
theorem ranks_l0 (l : List Int) (hn : l.length ≤ 16) (d : Nat) : ∀ (i : Nat) (out : List Int), i ≤ l.length → l.length - i = d → out = (H.ranks l).take i → Ev (fun k => spec_RankAgain.l0 k l out l l.length i) (H.ranks l) := by
  have hrl : (H.ranks l).length = l.length := by unfold H.ranks; rw [List.length_map]
  induction d with
  | zero =>
    intro i out hi hd ho
    subst ho
    refine Ev.step (fun k => by rw [spec_RankAgain.l0]) (ev_neg (by omega) (ev_eq (ev_some _) ?_))
    exact List.take_of_length_le (by omega)
  | succ d ih =>
    intro i out hi hd ho
    have hil : i < l.length := by omega
    have ew : wrap64 ((i : Int) + 1) = ((i + 1 : Nat) : Int) := by rw [w64 (by omega) (by omega)]; omega
    have z1 : (i : Int) < (l.length : Int) := by omega
    have z0 : (0 : Int) ≤ (i : Int) := by omega
    have hol : out.length ≤ 16 := by rw [ho, List.length_take]; omega
    obtain ⟨fin, f1, f2, f3⟩ := less_l1 l out l[i] i hn hol (H.ranks l) l.length 0 [] (by omega) (by omega) (by simp) (by simp) (by simp)
    have hfin := rank_is l fin l[i] f1 (fun y => by rw [f2 y]; simp)
    have hnext := ih (i + 1) (out ++ [(fin.length : Int)]) (by omega) (by omega) (by
      rw [List.take_succ_eq_append_getElem (by omega), ← ho, hfin]
      congr 1
      show _ = [(l.map (H.rankOf l))[i]'(by rw [List.length_map]; exact hil)]
      rw [List.getElem_map])
    rw [← ew] at hnext
    refine Ev.step (fun k => by rw [spec_RankAgain.l0]) ?_
    rw [rd_at l i hil]
    exact ev_pos z1 (ev_pos z0 (ev_pos z1 (f3 hnext)))
/-- RankAgain, on both sides. -/
theorem rank_both (l : List Int) : ∃ r : List Int, r.length ≤ 16 ∧ Ev (fun k => spec_RankAgain.f k l) r ∧ impl_RankAgain.f l = some r := by
  unfold spec_RankAgain.f impl_RankAgain.f
  by_cases h : (l.length : Int) > 16
  · exact ⟨[], by simp, ev_pos h (ev_some _), by rw [if_pos h]⟩
  · refine ⟨H.ranks l, by unfold H.ranks; rw [List.length_map]; omega, ev_neg h ?_, ?_⟩
    · exact ranks_l0 l (by omega) l.length 0 [] (by omega) (by omega) (by simp)
    · rw [if_neg h]
      unfold H.impl_rankAgain.f
      rw [if_pos (by omega)]
      rfl

theorem toIntS_l0 (l : List Int) (hn : l.length ≤ 35184372088832) (d : Nat) : ∀ (i : Nat) (o : List Int), i ≤ l.length → l.length - i = d → o.length = l.length → o.take i = l.take i →
    Ev (fun k => laws_toIntS.l0 k l o i) l := by
  induction d with
  | zero =>
    intro i o h1 hd ho ht
    refine Ev.step (fun k => by rw [laws_toIntS.l0]) (ev_neg (by omega) (ev_eq (ev_some o) ?_))
    rw [List.take_of_length_le (by omega), List.take_of_length_le (by omega)] at ht
    exact ht
  | succ d ih =>
    intro i o h1 hd ho ht
    refine Ev.step (fun k => by rw [laws_toIntS.l0]) (ev_pos (by omega) (ev_pos (by omega) (ev_pos (by omega) ?_)))
    rw [w64 (by omega) (by omega)]
    have e : ((i : Int) + 1) = ((i + 1 : Nat) : Int) := by omega
    rw [e]
    refine ih (i + 1) _ (by omega) (by omega) (by simp [ho]) ?_
    simp only [Int.toNat_natCast]
    rw [List.take_succ_eq_append_getElem (by simp; omega), List.take_succ_eq_append_getElem (by omega), List.take_set_of_le (Nat.le_refl _), ht]
    congr 1
    simp [rd, List.getD_eq_getElem?_getD, List.getElem?_eq_getElem (show i < l.length by omega)]
theorem toIntS_ev (l : List Int) (hn : l.length ≤ 35184372088832) : Ev (fun k => laws_toIntS.f k l) l := by
  unfold laws_toIntS.f
  refine ev_pos (by omega) (ev_pos (by omega) ?_)
  exact toIntS_l0 l hn l.length 0 _ (by omega) (by omega) (by simp) (by simp)

theorem eqIntS_l0 (l m : List Int) (hlm : l.length = m.length) (hn : l.length ≤ 9223372036854775807) (d : Nat) : ∀ i : Int, 0 ≤ i → i ≤ l.length → (l.length : Int) - i = d →
    ∃ b, Ev (fun k => laws_eqIntS.l0 k l m i) b ∧ (b = true ↔ ∀ j : Int, i ≤ j → j < l.length → rd l j = rd m j) := by
  induction d with
  | zero =>
    intro i h0 h1 hd
    exact ⟨true, Ev.step (fun k => by rw [laws_eqIntS.l0]) (ev_neg (by omega) (ev_some true)), ⟨fun _ j _ _ => (by omega), fun _ => rfl⟩⟩
  | succ d ih =>
    intro i h0 h1 hd
    by_cases he : rd l i = rd m i
    · obtain ⟨b, hb, hi⟩ := ih (i + 1) (by omega) (by omega) (by omega)
      refine ⟨b, Ev.step (fun k => by rw [laws_eqIntS.l0]) (ev_pos (by omega) (ev_pos h0 (ev_pos (by omega) (ev_pos he ?_)))), ?_⟩
      · rw [w64 (by omega) (by omega)]; exact hb
      · rw [hi]
        constructor
        · intro h j hj hl
          by_cases e : j = i
          · rw [e]; exact he
          · exact h j (by omega) hl
        · intro h j hj hl
          exact h j (by omega) hl
    · exact ⟨false, Ev.step (fun k => by rw [laws_eqIntS.l0]) (ev_pos (by omega) (ev_pos h0 (ev_pos (by omega) (ev_neg he (ev_some false))))), ⟨fun h => (by cases h), fun h => absurd (h i (by omega) (by omega)) he⟩⟩
theorem eqIntS_ev (l m : List Int) (hn : l.length ≤ 9223372036854775807) : Ev (fun k => laws_eqIntS.f k l m) (decide (l = m)) := by
  unfold laws_eqIntS.f
  by_cases h : l.length = m.length
  · obtain ⟨b, hb, hi⟩ := eqIntS_l0 l m h hn l.length 0 (by omega) (by omega) (by omega)
    refine ev_pos (by omega) (ev_eq hb ?_)
    rw [Bool.eq_iff_iff, hi, decide_eq_true_eq]
    exact ⟨fun hr => ext_rd h (fun i h0 h1 => hr i h0 h1), fun e j _ _ => by rw [e]⟩
  · refine ev_neg (by omega) (ev_eq (ev_some false) ?_)
    symm; rw [decide_eq_false_iff_not]
    intro e; exact h (by rw [e])

theorem markIntS_l0 (n : Nat) (hn : n ≤ 4611686018427387904) (d : Nat) : ∀ (i : Nat) (l : List Int) (a : Int), l.length = n → i ≤ n → n - i = d → -4611686018427387904 ≤ a → a + d ≤ 4611686018427387904 →
    Ev (fun k => laws_markIntS.l0 k l a i) (a + d, l.take i ++ iota a d) := by
  induction d with
  | zero =>
    intro i l a hl h1 hd ha hb
    refine Ev.step (fun k => by rw [laws_markIntS.l0]) (ev_neg (by omega) (ev_eq (ev_some (a, l)) ?_))
    rw [List.take_of_length_le (by omega)]
    simp [iota]
  | succ d ih =>
    intro i l a hl h1 hd ha hb
    refine Ev.step (fun k => by rw [laws_markIntS.l0]) (ev_pos (by omega) (ev_pos (by omega) ?_))
    rw [w64 (x := a + 1) (by omega) (by omega), w64 (by omega) (by omega)]
    have e : ((i : Int) + 1) = ((i + 1 : Nat) : Int) := by omega
    rw [e]
    refine ev_eq (ih (i + 1) _ (a + 1) (by simp [hl]) (by omega) (by omega) (by omega) (by omega)) ?_
    simp only [Int.toNat_natCast]
    rw [List.take_succ_eq_append_getElem (by simp; omega), List.take_set_of_le (Nat.le_refl _)]
    simp [iota]
    omega
theorem markIntS_ev (l : List Int) (a : Int) (hn : l.length ≤ 4611686018427387904) (ha : -4611686018427387904 ≤ a) (hb : a + l.length ≤ 4611686018427387904) :
    Ev (fun k => laws_markIntS.f k l a) (a + l.length, iota a l.length) := by
  unfold laws_markIntS.f
  exact ev_eq (markIntS_l0 l.length hn l.length 0 l a rfl (by omega) (by omega) ha hb) (by simp)

theorem heldIntS_l0 (a0 : Int) (n : Nat) (h0 : -4611686018427387904 ≤ a0) (hb : a0 + n ≤ 4611686018427387904) (hn : n ≤ 4611686018427387904) (d : Nat) : ∀ (i : Nat), i ≤ n → n - i = d →
    Ev (fun k => laws_heldIntS.l0 k (iota a0 n) (a0 + i) i) (a0 + n) := by
  induction d with
  | zero =>
    intro i h1 hd
    refine Ev.step (fun k => by rw [laws_heldIntS.l0]) (ev_neg (by rw [iota_length]; omega) (ev_eq (ev_some _) (by omega)))
  | succ d ih =>
    intro i h1 hd
    refine Ev.step (fun k => by rw [laws_heldIntS.l0]) (ev_pos (by rw [iota_length]; omega) (ev_pos (by omega) (ev_pos (rd_iota _ _ _ (by omega) (by omega)) ?_)))
    rw [w64 (x := a0 + i + 1) (by omega) (by omega), w64 (by omega) (by omega)]
    have e : ((i : Int) + 1) = ((i + 1 : Nat) : Int) := by omega
    have e2 : a0 + (i : Int) + 1 = a0 + ((i + 1 : Nat) : Int) := by omega
    rw [e2, e]
    exact ih (i + 1) (by omega) (by omega)
theorem heldIntS_ev (a : Int) (n : Nat) (ha : -4611686018427387904 ≤ a) (hb : a + n ≤ 4611686018427387904) (hn : n ≤ 4611686018427387904) :
    Ev (fun k => laws_heldIntS.f k (iota a n) a) (a + n) := by
  unfold laws_heldIntS.f
  have := heldIntS_l0 a n ha hb hn n 0 (by omega) (by omega)
  simpa using this

theorem FnExactRankAgain (l : List Int) (hm : l.length ≤ maxLen) (_ : ∀ x ∈ l, (Lit.int .i64 x).wf = true) : ∃ k, laws_FnExactRankAgain.f k l = some true := by
  apply Ev.rounds
  unfold laws_FnExactRankAgain.f
  by_cases hl : (l.length : Int) > 1048576
  · exact ev_pos hl (ev_some _)
  · obtain ⟨r, hr, hs, hi⟩ := rank_both l
    have ht := toIntS_ev l (by omega)
    have el := eqIntS_ev l l (by omega)
    have er := eqIntS_ev r r (by omega)
    have ml := markIntS_ev l 1 (by omega) (by omega) (by omega)
    have mr := markIntS_ev r 1 (by omega) (by omega) (by omega)
    have hh := heldIntS_ev 1 r.length (by omega) (by omega) (by omega)
    refine ev_neg hl ?_
    refine Ev.bind ht ?_
    refine Ev.bind hs ?_
    refine Ev.bind ht ?_
    refine ev_bind0 hi ?_
    refine Ev.bind er ?_
    refine ev_pos (by simp) ?_
    refine Ev.bind ht ?_
    refine Ev.bind el ?_
    refine ev_pos (by simp) ?_
    refine Ev.bind ml ?_
    refine ev_neg (by simp; omega) ?_
    refine Ev.bind er ?_
    refine Ev.step (fun k => by rw [laws_FnExactRankAgain.j0]) ?_
    refine ev_neg (by simp) ?_
    refine Ev.bind mr ?_
    refine Ev.bind hh ?_
    refine ev_neg (by omega) ?_
    refine ev_pos rfl ?_
    refine Ev.bind ht ?_
    refine ev_bind0 hi ?_
    refine Ev.bind er ?_
    refine ev_pos (by simp) ?_
    refine Ev.bind hh ?_
    refine ev_neg (by omega) ?_
    exact ev_pos rfl (ev_some _)

end Go.Proofs.Ythibhcohcbgdpaa.Pure
