/-
  FnExactEveryOrder over numbers: for 2 to 4 callers both searches are computed, elsewhere both answer 0, 0, 0. The row: for every input the law answers true and leaves what came in as it was.
-/
import Derived.Test.YthibhcohcbgdpaaRows
import Derived.Test.YthibhcohcbgdpaaPFnExactEveryOrderx
import Derived.Test.YthibhcohcbgdpaaPureFnExactEveryOrder
import Derived.Test.YthibhcohcbgdpaaPO
import Derived.Test.YthibhcohcbgdpaaHd
import Derived.WalkKit
import Derived.ProofKit
import Derived.OpenShut
import Derived.ShutString
import Derived.ChangeOld
import Derived.Below
import Derived.SizedLaws
import Derived.Carry
namespace Go.Proofs.Ythibhcohcbgdpaa.fnExactEveryOrder
open Go.ChangeShapes Go.WideShapes Go.ChangeAt Go.RowKit Go.Proofs.YthibhcohcbgdpaaW.PrintWords Go.Proofs.Ythibhcohcbgdpaa.PFnExactEveryOrder
open Go.ChangeMaps (open_string shut_string)
set_option linter.unusedVariables false
open Hd (own laidOut)
set_option maxRecDepth 100000 in
theorem lifted (os : Os) (started : os.Started) (H : Type) (enc : TypeId × Value → H) :
    ReturnsInHanded {} Try.checked os 5 .any (Rows.fnExactEveryOrderSpec.pre6 enc Try.prog Try.f5 Rows.fnExactEveryOrderRow.domain false) (Rows.fnExactEveryOrderSpec.post enc Try.prog Try.f5 false true false false) := by
  refine returnsInHanded_of_change_sized (C := Try.checked) own started (by kernel_rfl) Try.func5
    (ChangeSpec.witness6 (enc := enc) (C := Try.checked) false ⟨#[], #[.int .i64 0], []⟩ 8 (by kernel_rfl) (by kernel_rfl) (by kernel_rfl) (by kernel_rfl)) ?_
  intro W base args ds gs before hval0 hW hcnd hsz0 _
  have hval : ∀ (j : Nat) t v, Try.f5.params[j]? = some t → args[j]? = some v → Value.okWide Try.prog W .any base t v := hval0
  have hW' := hW
  obtain ⟨p, q, hA0, hV, rfl, hfz, hnd⟩ := hW
  have hA : DataW.TrodAll enc Try.prog W 0 (fun _ => true) true Try.f5.params.toList args.toList ds p := hA0
  rw [Try.params5] at hA hval
  obtain ⟨v0, vs0, d0, ds0, p0, q0, hargs, rfl, rfl, h0, r0⟩ := trodAll_cons hA
  obtain ⟨rfl, rfl, rfl⟩ := trodAll_nil r0
  obtain rfl : args = #[v0] := by cases args; simp_all
  obtain ⟨rfl, rfl⟩ := trodVars_none hV
  have k0 := h0
  have lt0 : ∀ x ∈ p0, x.block < W.heap.size := by obtain ⟨m, hm⟩ := k0; exact DataW.trod_lt m _ _ _ hm
  obtain ⟨a0, rfl, rfl, rfl, w0⟩ := open_int Try.underlying3 (hval 0 3 v0 rfl rfl) h0
  clear hA0 hval0 hsz0 hval
  obtain ⟨k, h⟩ := Pure.FnExactEveryOrder a0 w0
  refine (PFnExactEveryOrder.laws_FnExactEveryOrder.calls k a0 W h).mono fun e W' ⟨he, bel0⟩ => ?_
  have bel : Below W.heap.size W W' := bel0
  subst he
  exact ⟨_, rfl, _, _, _, [], _, [], hW', trodAll_mk1 (shut_bool Try.underlying4 _), (trodAll_cons_mk (shut_int Try.underlying3 w0) trodAll_mk0), rfl, bel.frame _, fun h => by cases h⟩
theorem fWf : Rows.fnExactEveryOrderRow.wf (OpenSpec.ofChange Rows.fnExactEveryOrderSpec) = true := by kernel_rfl
theorem fPar : Try.f5.params.all (Try.prog.readableRec ·) = true := by kernel_rfl
theorem fTie : namedTie Try.prog Rows.fnExactEveryOrderRow.named Rows.fnExactEveryOrderSpec.vars = true := by kernel_rfl
theorem fPlace : (Rows.fnExactEveryOrderRow.inPlace == Try.prog.inPlace 5) = true := by kernel_rfl
theorem fUnf : (Rows.fnExactEveryOrderRow.unfollowed == Try.prog.unfollowed 5) = true := by kernel_rfl
theorem fRec : (Rows.fnExactEveryOrderRow.recurses == Try.prog.recurses 5) = true := by kernel_rfl
theorem fNamed : (Rows.fnExactEveryOrderRow.named == Try.prog.varsNamed 5) = true := by kernel_rfl
theorem fMaps : (Rows.fnExactEveryOrderRow.maps == (Try.f5.params.toList ++ Rows.fnExactEveryOrderSpec.plain.varTypes Try.prog).any (Try.prog.mapsRec ·)) = true := by kernel_rfl
theorem fIfs : (Rows.fnExactEveryOrderRow.ifaces == (Try.f5.params.toList ++ Rows.fnExactEveryOrderSpec.plain.varTypes Try.prog).any (Try.prog.ifacesRec ·)) = true := by kernel_rfl
theorem fPin : (Rows.fnExactEveryOrderRow.pinned == Rows.fnExactEveryOrderRow.pinnedBy) = true := by kernel_rfl
theorem fName : Try.prog.funcNamed Rows.fnExactEveryOrderRow.func = some 5 := by kernel_rfl
theorem closed : joinedFacts Try.prog 5 Try.f5 Rows.fnExactEveryOrderSpec Rows.fnExactEveryOrderRow = true := by
  unfold joinedFacts
  repeat' (with_reducible refine Hd.band ?_ ?_)
  · exact fWf
  · exact Hd.laidOut
  · exact Hd.mapsRowed
  · exact fPar
  · exact fTie
  · as_aux_lemma => kernel_rfl
  · exact Hd.beqt Hd.stops
  · as_aux_lemma => kernel_rfl
  · exact Hd.beqt Hd.stopKnobs
  · exact fPlace
  · exact fUnf
  · exact fRec
  · exact fNamed
  · exact fMaps
  · exact fIfs
  · as_aux_lemma => kernel_rfl
  · as_aux_lemma => kernel_rfl
  · as_aux_lemma => kernel_rfl
  · as_aux_lemma => kernel_rfl
  · as_aux_lemma => kernel_rfl
  · as_aux_lemma => kernel_rfl
  · as_aux_lemma => kernel_rfl
  · exact Hd.beqt (show Rows.fnExactEveryOrderRow.plainKeys = Try.prog.plainKeys from Hd.plainKeys.symm)
  · as_aux_lemma => kernel_rfl
  · exact Hd.stopsHeard
  · exact Hd.mayEnter
  · exact Hd.beqt (show Rows.fnExactEveryOrderRow.lifted = Try.prog.liftsFinal from Hd.liftsFinal.symm)
  · exact Hd.beqt (show Try.prog.make = some Rows.fnExactEveryOrderRow.make from Hd.make)
  · as_aux_lemma => kernel_rfl
  · exact fPin
  · as_aux_lemma => kernel_rfl
  · as_aux_lemma => kernel_rfl
theorem over : Rows.fnExactEveryOrderRow.holds Try.pinned (OpenSpec.ofChange Rows.fnExactEveryOrderSpec) :=
  OpenClaim.holds_of_wide 5 Try.f5 rfl rfl rfl rfl rfl rfl rfl ⟨rfl, rfl, rfl, rfl, rfl⟩ rfl rfl rfl rfl rfl fName Try.func5 closed
    (of_decide_eq_true (by kernel_rfl)) (by unfold Func.isWrapper; first | (rw [if_pos (by decide +kernel)]; kernel_rfl) | (rw [if_neg (by decide +kernel)]; exact ⟨rfl, rfl⟩))
    (fun os started H enc _ => lifted os started H enc)
#print axioms over
end Go.Proofs.Ythibhcohcbgdpaa.fnExactEveryOrder
namespace Go.Proofs.Ythibhcohcbgdpaa
/-- The row, under a short name, for the claim. -/
theorem fnExactEveryOrder_holds : Rows.FnExactEveryOrderSaid := fnExactEveryOrder.over
end Go.Proofs.Ythibhcohcbgdpaa
