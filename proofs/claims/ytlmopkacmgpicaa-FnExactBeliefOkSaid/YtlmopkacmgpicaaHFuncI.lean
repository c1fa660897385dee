/-
  CONTRACTS BY HAND: slices.IndexFunc and slices.ContainsFunc at []int, for every function value of which it is known what it answers at the elements.
-/
import Derived.Test.YtlmopkacmgpicaaHFuncG
import Derived.Test.YtlmopkacmgpicaaWWords
import Derived.Test.YtlmopkacmgpicaaWMore
import Derived.WalkKit
import Derived.KernelRfl
import Derived.RowKit3
import Derived.Deep.LoopGhost
import Derived.Deep.Draws
import Derived.Deep.QuietTactic
import Derived.BigQuiet
import Derived.Tactics
import Derived.Shelf.Abstract
namespace Go.Proofs.Ytlmopkacmgpicaa.H
open Go.RowKit Go.Proofs.YtlmopkacmgpicaaW.PrintWords Go.Proofs.YtlmopkacmgpicaaW.PrintLast Go.Proofs.YtlmopkacmgpicaaW.PrintMore
set_option linter.unusedVariables false
set_option linter.unusedSimpArgs false
theorem int_at {W : World} {A : Option Addr} {n : Nat} {l : List Int} (h : Kd.C (Kd.int .i64) W A n l) (k : Nat) (hk : k < l.length) (hn : k < n) : ∃ ad, A = some ad ∧ W.cell? (ad.add k) = some (.int .i64 l[k]) := by
  obtain ⟨ad, e, hcell⟩ := Kd.at_int h (k : Int) (by omega) (by omega)
  have hrd : rd l (k : Int) = l[k] := by simp [rd, List.getD_eq_getElem?_getD, List.getElem?_eq_getElem hk]
  rw [hrd] at hcell
  exact ⟨ad, e, by simpa using hcell⟩
set_option maxHeartbeats 8000000 in
set_option maxRecDepth 100000 in
theorem indexFunc_int (g : Nat) (lb : Array Value) (p : Int → Option Bool) (eg : ∀ args w, (callFunc g args).run Try.prog w = .ok (.enter g args) w) (A0 : Option Addr) (c0 : Nat) (l0 : List Int) (r : Int) (w : World)
    (hp : Answers Try.prog g lb (Value.int .i64) p l0 w) (hr0 : Kd.C (Kd.int .i64) w A0 l0.length l0) (hc0 : l0.length ≤ c0) (hl : l0.length ≤ 9223372036854775806) (h : idxO p l0 0 = some r) :
    Calls Try.prog 26 #[.slice A0 l0.length c0, .func (.func g) #[] lb] w fun e w' => e = .returned (.int .i64 r) ∧ Below w.heap.size w w' := by
  have HP := Aside0.mk hp
  have HR := Aside0.mk hr0
  have HL := Aside0.mk hl
  have H' := Aside0.mk h
  clear hp hr0 hc0 hl h
  go_enter Try.func26, Try.ntmps26
  go_wp2
  go_loopg [5, 8] l0.length (fun kq v5 v8 w' => ∃ k : Nat, v8 = .int .i64 k ∧ Aside0 (k ≤ l0.length) ∧ Aside0 (l0.length - k ≤ kq) ∧ Aside0 (idxO p (l0.drop k) k = some r) ∧ Aside0 (Below w.heap.size w w'))
  case atStart => exact ⟨0, rfl, ⟨Nat.zero_le _⟩, ⟨by omega⟩, ⟨by simpa using H'.out⟩, ⟨Below.refl _ _⟩⟩
  case round =>
    obtain ⟨k, rfl, HK, HM, HI, HB⟩ := hrel
    by_cases hlt : k < l0.length
    · obtain ⟨b, hb, hT, hF⟩ := idx_step hlt HI.out
      have HT := Aside0.mk hT
      have HF := Aside0.mk hF
      clear hT hF HI
      obtain ⟨ad, e, hcell⟩ := int_at HR.out k hlt hlt
      cases e
      replace hcell := pw_cell_below HB.out hcell
      have HC := Aside0.mk (HP.out wr l0[k] b (List.getElem_mem _) HB.out hb)
      clear hb
      generalize l0[k] = y at hcell HC
      have hltz : (k : Int) < (l0.length : Int) := by omega
      cases b with
      | true =>
        have hr := HT.out rfl
        subst hr
        clear HT HF H'
        go_wp2_with (fail)
        refine HC.out.mono ?_
        rintro e w2 ⟨rfl, hb2⟩
        have HB2 := Aside0.mk hb2
        clear hb2
        dsimp only
        go_wp2
        go_ret
        exact ⟨rfl, below_step HB.out HB2.out⟩
      | false =>
        have hbig : l0.length ≤ 9223372036854775806 := HL.out
        replace HF := Aside0.mk (HF.out rfl)
        go_wp2_with (fail)
        refine HC.out.mono ?_
        rintro e w2 ⟨rfl, hb2⟩
        have HB2 := Aside0.mk hb2
        clear hb2
        dsimp only
        go_wp2
        go_roundg (l0.length - (k + 1))
        case measure => have := HM.out; omega
        case rel => exact ⟨k + 1, by go_num, ⟨by omega⟩, ⟨Nat.le_refl _⟩, HF, ⟨below_step HB.out HB2.out⟩⟩
    · have hke : k = l0.length := by have := HK.out; omega
      subst hke
      have hr := idx_end HI.out
      subst hr
      clear HI H'
      go_wp2
      go_ret
      exact ⟨rfl, HB.out⟩
set_option maxHeartbeats 8000000 in
theorem containsFunc_int (g : Nat) (lb : Array Value) (p : Int → Option Bool) (eg : ∀ args w, (callFunc g args).run Try.prog w = .ok (.enter g args) w) (A0 : Option Addr) (c0 : Nat) (l0 : List Int) (r : Bool) (w : World)
    (hp : Answers Try.prog g lb (Value.int .i64) p l0 w) (hr0 : Kd.C (Kd.int .i64) w A0 l0.length l0) (hc0 : l0.length ≤ c0) (hl : l0.length ≤ 9223372036854775806) (h : anyO p l0 = some r) :
    Calls Try.prog 20 #[.slice A0 l0.length c0, .func (.func g) #[] lb] w fun e w' => e = .returned (.bool r) ∧ Below w.heap.size w w' := by
  obtain ⟨i, hi, hd, _⟩ := idx_any p l0 0 r (by omega) h
  have H1 := Aside0.mk (indexFunc_int g lb p eg A0 c0 l0 i w hp hr0 hc0 hl hi)
  clear hp hr0 hc0 hl h hi
  go_enter Try.func20, Try.ntmps20
  go_wp2_with (go_at_call 26; refine H1.out.mono ?_; rintro e w2 ⟨rfl, hb2⟩; have HB2 := Aside0.mk hb2; clear hb2)
  go_ret
  exact ⟨rfl, HB2.out⟩
end Go.Proofs.Ytlmopkacmgpicaa.H
