/-
  FnExactNewConsole over numbers and lists: it takes nothing, and is computed. The row: for every input the law answers true and leaves what came in as it was.
-/
import Derived.Test.YtcdaflkkmgofdaaRows
import Derived.Test.YtcdaflkkmgofdaaPFnExactNewConsolex
import Derived.Test.YtcdaflkkmgofdaaPureFnExactNewConsole
import Derived.Test.YtcdaflkkmgofdaaPO
import Derived.Test.YtcdaflkkmgofdaaHd
import Derived.WalkKit
import Derived.ProofKit
import Derived.OpenShut
import Derived.ShutString
import Derived.ChangeOld
import Derived.Below
import Derived.SizedLaws
import Derived.Carry
namespace Go.Proofs.Ytcdaflkkmgofdaa.fnExactNewConsole
open Go.ChangeShapes Go.WideShapes Go.ChangeAt Go.RowKit Go.Proofs.YtcdaflkkmgofdaaW.PrintWords Go.Proofs.Ytcdaflkkmgofdaa.PFnExactNewConsole
open Go.ChangeMaps (open_string shut_string)
set_option linter.unusedVariables false
open Hd (own laidOut)
set_option maxRecDepth 100000 in
theorem lifted (os : Os) (started : os.Started) (H : Type) (enc : TypeId × Value → H) :
    ReturnsInHanded {} Try.checked os 5 .any (Rows.fnExactNewConsoleSpec.pre6 enc Try.prog Try.f5 Rows.fnExactNewConsoleRow.domain false) (Rows.fnExactNewConsoleSpec.post enc Try.prog Try.f5 false true false false) := by
  refine returnsInHanded_of_change_sized (C := Try.checked) own started (by kernel_rfl) Try.func5
    (ChangeSpec.witness6 (enc := enc) (C := Try.checked) false ⟨#[], #[], []⟩ 8 (by kernel_rfl) (by kernel_rfl) (by kernel_rfl) (by kernel_rfl)) ?_
  intro W base args ds gs before hval0 hW hcnd hsz0 _
  have hval : ∀ (j : Nat) t v, Try.f5.params[j]? = some t → args[j]? = some v → Value.okWide Try.prog W .any base t v := hval0
  have hW' := hW
  obtain ⟨p, q, hA0, hV, rfl, hfz, hnd⟩ := hW
  have hA : DataW.TrodAll enc Try.prog W 0 (fun _ => true) true Try.f5.params.toList args.toList ds p := hA0
  rw [Try.params5] at hA hval
  obtain ⟨hargs, rfl, rfl⟩ := trodAll_nil hA
  obtain rfl : args = #[] := by cases args; simp_all
  obtain ⟨rfl, rfl⟩ := trodVars_none hV
  clear hA0 hval0 hsz0 hval
  obtain ⟨k, h⟩ := Pure.FnExactNewConsole 
  refine (PFnExactNewConsole.laws_FnExactNewConsole.calls k  W h).mono fun e W' ⟨he, bel0⟩ => ?_
  have bel : Below W.heap.size W W' := bel0
  subst he
  exact ⟨_, rfl, _, _, _, [], _, [], hW', trodAll_mk1 (shut_bool Try.underlying4 _), trodAll_mk0, rfl, bel.frame _, fun h => by cases h⟩
theorem fWf : Rows.fnExactNewConsoleRow.wf (OpenSpec.ofChange Rows.fnExactNewConsoleSpec) = true := by kernel_rfl
theorem fPar : Try.f5.params.all (Try.prog.readableRec ·) = true := by kernel_rfl
theorem fTie : namedTie Try.prog Rows.fnExactNewConsoleRow.named Rows.fnExactNewConsoleSpec.vars = true := by kernel_rfl
theorem fPlace : (Rows.fnExactNewConsoleRow.inPlace == Try.prog.inPlace 5) = true := by kernel_rfl
theorem fUnf : (Rows.fnExactNewConsoleRow.unfollowed == Try.prog.unfollowed 5) = true := by kernel_rfl
theorem fRec : (Rows.fnExactNewConsoleRow.recurses == Try.prog.recurses 5) = true := by kernel_rfl
theorem fNamed : (Rows.fnExactNewConsoleRow.named == Try.prog.varsNamed 5) = true := by kernel_rfl
theorem fMaps : (Rows.fnExactNewConsoleRow.maps == (Try.f5.params.toList ++ Rows.fnExactNewConsoleSpec.plain.varTypes Try.prog).any (Try.prog.mapsRec ·)) = true := by kernel_rfl
theorem fIfs : (Rows.fnExactNewConsoleRow.ifaces == (Try.f5.params.toList ++ Rows.fnExactNewConsoleSpec.plain.varTypes Try.prog).any (Try.prog.ifacesRec ·)) = true := by kernel_rfl
theorem fPin : (Rows.fnExactNewConsoleRow.pinned == Rows.fnExactNewConsoleRow.pinnedBy) = true := by kernel_rfl
theorem fName : Try.prog.funcNamed Rows.fnExactNewConsoleRow.func = some 5 := by kernel_rfl
theorem closed : joinedFacts Try.prog 5 Try.f5 Rows.fnExactNewConsoleSpec Rows.fnExactNewConsoleRow = true := by
  unfold joinedFacts
  repeat' (with_reducible refine Hd.band ?_ ?_)
  · exact fWf
  · exact Hd.laidOut
  · exact Hd.mapsRowed
  · exact fPar
  · exact fTie
  · as_aux_lemma => kernel_rfl
  · exact Hd.beqt Hd.stops
  · as_aux_lemma => kernel_rfl
  · exact Hd.beqt Hd.stopKnobs
  · exact fPlace
  · exact fUnf
  · exact fRec
  · exact fNamed
  · exact fMaps
  · exact fIfs
  · as_aux_lemma => kernel_rfl
  · as_aux_lemma => kernel_rfl
  · as_aux_lemma => kernel_rfl
  · as_aux_lemma => kernel_rfl
  · as_aux_lemma => kernel_rfl
  · as_aux_lemma => kernel_rfl
  · as_aux_lemma => kernel_rfl
  · exact Hd.beqt (show Rows.fnExactNewConsoleRow.plainKeys = Try.prog.plainKeys from Hd.plainKeys.symm)
  · as_aux_lemma => kernel_rfl
  · exact Hd.stopsHeard
  · exact Hd.mayEnter
  · exact Hd.beqt (show Rows.fnExactNewConsoleRow.lifted = Try.prog.liftsFinal from Hd.liftsFinal.symm)
  · exact Hd.beqt (show Try.prog.make = some Rows.fnExactNewConsoleRow.make from Hd.make)
  · as_aux_lemma => kernel_rfl
  · exact fPin
  · as_aux_lemma => kernel_rfl
  · as_aux_lemma => kernel_rfl
theorem over : Rows.fnExactNewConsoleRow.holds Try.pinned (OpenSpec.ofChange Rows.fnExactNewConsoleSpec) :=
  OpenClaim.holds_of_wide 5 Try.f5 rfl rfl rfl rfl rfl rfl rfl ⟨rfl, rfl, rfl, rfl, rfl⟩ rfl rfl rfl rfl rfl fName Try.func5 closed
    (of_decide_eq_true (by kernel_rfl)) (by unfold Func.isWrapper; first | (rw [if_pos (by decide +kernel)]; kernel_rfl) | (rw [if_neg (by decide +kernel)]; exact ⟨rfl, rfl⟩))
    (fun os started H enc _ => lifted os started H enc)
#print axioms over
end Go.Proofs.Ytcdaflkkmgofdaa.fnExactNewConsole
namespace Go.Proofs.Ytcdaflkkmgofdaa
/-- The row, under a short name, for the claim. -/
theorem fnExactNewConsole_holds : Rows.FnExactNewConsoleSaid := fnExactNewConsole.over
end Go.Proofs.Ytcdaflkkmgofdaa
