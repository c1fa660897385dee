/-
  FnExactBeliefOk over lists: both ask the same of the facts and of the ranks. The row: for every input the law answers true and leaves what came in as it was.
-/
import Derived.Test.YtlmopkacmgpicaaRows
import Derived.Test.YtlmopkacmgpicaaPFnExactBeliefOkx
import Derived.Test.YtlmopkacmgpicaaPureFnExactBeliefOk
import Derived.Test.YtlmopkacmgpicaaPO
import Derived.Test.YtlmopkacmgpicaaHd
import Derived.WalkKit
import Derived.ProofKit
import Derived.OpenShut
import Derived.ShutString
import Derived.ChangeOld
import Derived.Below
import Derived.SizedLaws
import Derived.Carry
namespace Go.Proofs.Ytlmopkacmgpicaa.fnExactBeliefOk
open Go.ChangeShapes Go.WideShapes Go.ChangeAt Go.RowKit Go.Proofs.YtlmopkacmgpicaaW.PrintWords Go.Proofs.Ytlmopkacmgpicaa.PFnExactBeliefOk
open Go.ChangeMaps (open_string shut_string)
set_option linter.unusedVariables false
open Hd (own laidOut)
set_option maxRecDepth 100000 in
theorem lifted (os : Os) (started : os.Started) (H : Type) (enc : TypeId × Value → H) :
    ReturnsInHanded {} Try.checked os 3 .any (Rows.fnExactBeliefOkSpec.pre6 enc Try.prog Try.f3 Rows.fnExactBeliefOkRow.domain false) (Rows.fnExactBeliefOkSpec.post enc Try.prog Try.f3 false true false false) := by
  refine returnsInHanded_of_change_sized (C := Try.checked) own started (by kernel_rfl) Try.func3
    (ChangeSpec.witness6 (enc := enc) (C := Try.checked) false ⟨#[], #[.agg #[.slice none 0 0, .slice none 0 0]], []⟩ 8 (by kernel_rfl) (by kernel_rfl) (by kernel_rfl) (by kernel_rfl)) ?_
  intro W base args ds gs before hval0 hW hcnd hsz0 _
  have hval : ∀ (j : Nat) t v, Try.f3.params[j]? = some t → args[j]? = some v → Value.okWide Try.prog W .any base t v := hval0
  have hW' := hW
  obtain ⟨p, q, hA0, hV, rfl, hfz, hnd⟩ := hW
  have hA : DataW.TrodAll enc Try.prog W 0 (fun _ => true) true Try.f3.params.toList args.toList ds p := hA0
  rw [Try.params3] at hA hval
  obtain ⟨v0, vs0, d0, ds0, p0, q0, hargs, rfl, rfl, h0, r0⟩ := trodAll_cons hA
  obtain ⟨rfl, rfl, rfl⟩ := trodAll_nil r0
  obtain rfl : args = #[v0] := by cases args; simp_all
  obtain ⟨rfl, rfl⟩ := trodVars_none hV
  have k0 := h0
  have lt0 : ∀ x ∈ p0, x.block < W.heap.size := by obtain ⟨m, hm⟩ := k0; exact DataW.trod_lt m _ _ _ hm
  obtain ⟨cs0, y0, rfl, hK0, hg0⟩ := PO.arg_struct (PO.opens_struct2 Try.underlying24 (PO.opens_slice (PO.opens_int Try.underlying3 (by kernel_rfl)) Try.underlying22 (by kernel_rfl)) (PO.opens_slice (PO.opens_int Try.underlying3 (by kernel_rfl)) Try.underlying22 (by kernel_rfl)) rfl rfl (by kernel_rfl)) Try.underlying24 (hval 0 24 v0 rfl rfl) k0
  obtain ⟨_, _, e0, ⟨A0_0, c0_0, rfl, hc0_0, hr0_0⟩, ⟨A0_1, c0_1, rfl, hc0_1, hr0_1⟩⟩ := hK0
  obtain rfl : cs0 = #[.slice A0_0 y0.1.length c0_0, .slice A0_1 y0.2.length c0_1] := Array.toList_inj.1 e0
  clear hA0 hval0 hsz0 hval
  obtain ⟨k, h⟩ := Pure.FnExactBeliefOk y0.1 y0.2 hg0.1.1 hg0.1.2 hg0.2.1 hg0.2.2
  refine (PFnExactBeliefOk.laws_FnExactBeliefOk.calls k A0_0 c0_0 y0.1 A0_1 c0_1 y0.2 W hr0_0 hc0_0 hr0_1 hc0_1 h).mono fun e W' ⟨he, bel0⟩ => ?_
  have bel : Below W.heap.size W W' := bel0
  subst he
  exact ⟨_, rfl, _, _, _, [], _, [], hW', trodAll_mk1 (shut_bool Try.underlying4 _), (trodAll_cons_mk (Below.trod laidOut (by kernel_rfl) (of_decide_eq_true (by kernel_rfl)) k0 bel lt0) trodAll_mk0), rfl, bel.frame _, fun h => by cases h⟩
theorem fWf : Rows.fnExactBeliefOkRow.wf (OpenSpec.ofChange Rows.fnExactBeliefOkSpec) = true := by kernel_rfl
theorem fPar : Try.f3.params.all (Try.prog.readableRec ·) = true := by kernel_rfl
theorem fTie : namedTie Try.prog Rows.fnExactBeliefOkRow.named Rows.fnExactBeliefOkSpec.vars = true := by kernel_rfl
theorem fPlace : (Rows.fnExactBeliefOkRow.inPlace == Try.prog.inPlace 3) = true := by kernel_rfl
theorem fUnf : (Rows.fnExactBeliefOkRow.unfollowed == Try.prog.unfollowed 3) = true := by kernel_rfl
theorem fRec : (Rows.fnExactBeliefOkRow.recurses == Try.prog.recurses 3) = true := by kernel_rfl
theorem fNamed : (Rows.fnExactBeliefOkRow.named == Try.prog.varsNamed 3) = true := by kernel_rfl
theorem fMaps : (Rows.fnExactBeliefOkRow.maps == (Try.f3.params.toList ++ Rows.fnExactBeliefOkSpec.plain.varTypes Try.prog).any (Try.prog.mapsRec ·)) = true := by kernel_rfl
theorem fIfs : (Rows.fnExactBeliefOkRow.ifaces == (Try.f3.params.toList ++ Rows.fnExactBeliefOkSpec.plain.varTypes Try.prog).any (Try.prog.ifacesRec ·)) = true := by kernel_rfl
theorem fPin : (Rows.fnExactBeliefOkRow.pinned == Rows.fnExactBeliefOkRow.pinnedBy) = true := by kernel_rfl
theorem fName : Try.prog.funcNamed Rows.fnExactBeliefOkRow.func = some 3 := by kernel_rfl
theorem closed : joinedFacts Try.prog 3 Try.f3 Rows.fnExactBeliefOkSpec Rows.fnExactBeliefOkRow = true := by
  unfold joinedFacts
  repeat' (with_reducible refine Hd.band ?_ ?_)
  · exact fWf
  · exact Hd.laidOut
  · exact Hd.mapsRowed
  · exact fPar
  · exact fTie
  · as_aux_lemma => kernel_rfl
  · exact Hd.beqt Hd.stops
  · as_aux_lemma => kernel_rfl
  · exact Hd.beqt Hd.stopKnobs
  · exact fPlace
  · exact fUnf
  · exact fRec
  · exact fNamed
  · exact fMaps
  · exact fIfs
  · as_aux_lemma => kernel_rfl
  · as_aux_lemma => kernel_rfl
  · as_aux_lemma => kernel_rfl
  · as_aux_lemma => kernel_rfl
  · as_aux_lemma => kernel_rfl
  · as_aux_lemma => kernel_rfl
  · as_aux_lemma => kernel_rfl
  · exact Hd.beqt (show Rows.fnExactBeliefOkRow.plainKeys = Try.prog.plainKeys from Hd.plainKeys.symm)
  · as_aux_lemma => kernel_rfl
  · exact Hd.stopsHeard
  · exact Hd.mayEnter
  · exact Hd.beqt (show Rows.fnExactBeliefOkRow.lifted = Try.prog.liftsFinal from Hd.liftsFinal.symm)
  · exact Hd.beqt (show Try.prog.make = some Rows.fnExactBeliefOkRow.make from Hd.make)
  · as_aux_lemma => kernel_rfl
  · exact fPin
  · as_aux_lemma => kernel_rfl
  · as_aux_lemma => kernel_rfl
theorem over : Rows.fnExactBeliefOkRow.holds Try.pinned (OpenSpec.ofChange Rows.fnExactBeliefOkSpec) :=
  OpenClaim.holds_of_wide 3 Try.f3 rfl rfl rfl rfl rfl rfl rfl ⟨rfl, rfl, rfl, rfl, rfl⟩ rfl rfl rfl rfl rfl fName Try.func3 closed
    (of_decide_eq_true (by kernel_rfl)) (by unfold Func.isWrapper; first | (rw [if_pos (by decide +kernel)]; kernel_rfl) | (rw [if_neg (by decide +kernel)]; exact ⟨rfl, rfl⟩))
    (fun os started H enc _ => lifted os started H enc)
#print axioms over
end Go.Proofs.Ytlmopkacmgpicaa.fnExactBeliefOk
namespace Go.Proofs.Ytlmopkacmgpicaa
/-- The row, under a short name, for the claim. -/
theorem fnExactBeliefOk_holds : Rows.FnExactBeliefOkSaid := fnExactBeliefOk.over
end Go.Proofs.Ytlmopkacmgpicaa
