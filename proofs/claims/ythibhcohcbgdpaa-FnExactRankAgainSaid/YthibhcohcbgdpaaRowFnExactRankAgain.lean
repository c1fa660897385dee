/-
  FnExactRankAgain over lists: for each element both count the different lesser ones. The row: for every input the law answers true and leaves what came in as it was.
-/
import Derived.Test.YthibhcohcbgdpaaRows
import Derived.Test.YthibhcohcbgdpaaPFnExactRankAgainx
import Derived.Test.YthibhcohcbgdpaaPureFnExactRankAgain
import Derived.Test.YthibhcohcbgdpaaPO
import Derived.Test.YthibhcohcbgdpaaHd
import Derived.WalkKit
import Derived.ProofKit
import Derived.OpenShut
import Derived.ShutString
import Derived.ChangeOld
import Derived.Below
import Derived.SizedLaws
import Derived.Carry
namespace Go.Proofs.Ythibhcohcbgdpaa.fnExactRankAgain
open Go.ChangeShapes Go.WideShapes Go.ChangeAt Go.RowKit Go.Proofs.YthibhcohcbgdpaaW.PrintWords Go.Proofs.Ythibhcohcbgdpaa.PFnExactRankAgain
open Go.ChangeMaps (open_string shut_string)
set_option linter.unusedVariables false
open Hd (own laidOut)
set_option maxRecDepth 100000 in
theorem lifted (os : Os) (started : os.Started) (H : Type) (enc : TypeId × Value → H) :
    ReturnsInHanded {} Try.checked os 9 .any (Rows.fnExactRankAgainSpec.pre6 enc Try.prog Try.f9 Rows.fnExactRankAgainRow.domain false) (Rows.fnExactRankAgainSpec.post enc Try.prog Try.f9 false true false false) := by
  refine returnsInHanded_of_change_sized (C := Try.checked) own started (by kernel_rfl) Try.func9
    (ChangeSpec.witness6 (enc := enc) (C := Try.checked) false ⟨#[], #[.slice none 0 0], []⟩ 8 (by kernel_rfl) (by kernel_rfl) (by kernel_rfl) (by kernel_rfl)) ?_
  intro W base args ds gs before hval0 hW hcnd hsz0 _
  have hval : ∀ (j : Nat) t v, Try.f9.params[j]? = some t → args[j]? = some v → Value.okWide Try.prog W .any base t v := hval0
  have hW' := hW
  obtain ⟨p, q, hA0, hV, rfl, hfz, hnd⟩ := hW
  have hA : DataW.TrodAll enc Try.prog W 0 (fun _ => true) true Try.f9.params.toList args.toList ds p := hA0
  rw [Try.params9] at hA hval
  obtain ⟨v0, vs0, d0, ds0, p0, q0, hargs, rfl, rfl, h0, r0⟩ := trodAll_cons hA
  obtain ⟨rfl, rfl, rfl⟩ := trodAll_nil r0
  obtain rfl : args = #[v0] := by cases args; simp_all
  obtain ⟨rfl, rfl⟩ := trodVars_none hV
  have k0 := h0
  have lt0 : ∀ x ∈ p0, x.block < W.heap.size := by obtain ⟨m, hm⟩ := k0; exact DataW.trod_lt m _ _ _ hm
  obtain ⟨A0, c0, l0, rfl, hc0, hr0, hm0, hg0⟩ := PO.arg_slice (PO.opens_int Try.underlying3 (by kernel_rfl)) Try.underlying22 (by kernel_rfl) (hval 0 22 v0 rfl rfl) k0
  clear hA0 hval0 hsz0 hval
  obtain ⟨k, h⟩ := Pure.FnExactRankAgain l0 hm0 hg0
  refine (PFnExactRankAgain.laws_FnExactRankAgain.calls k A0 c0 l0 W hr0 hc0 h).mono fun e W' ⟨he, bel0⟩ => ?_
  have bel : Below W.heap.size W W' := bel0
  subst he
  exact ⟨_, rfl, _, _, _, [], _, [], hW', trodAll_mk1 (shut_bool Try.underlying4 _), (trodAll_cons_mk (Below.trod laidOut (by kernel_rfl) (of_decide_eq_true (by kernel_rfl)) k0 bel lt0) trodAll_mk0), rfl, bel.frame _, fun h => by cases h⟩
theorem fWf : Rows.fnExactRankAgainRow.wf (OpenSpec.ofChange Rows.fnExactRankAgainSpec) = true := by kernel_rfl
theorem fPar : Try.f9.params.all (Try.prog.readableRec ·) = true := by kernel_rfl
theorem fTie : namedTie Try.prog Rows.fnExactRankAgainRow.named Rows.fnExactRankAgainSpec.vars = true := by kernel_rfl
theorem fPlace : (Rows.fnExactRankAgainRow.inPlace == Try.prog.inPlace 9) = true := by kernel_rfl
theorem fUnf : (Rows.fnExactRankAgainRow.unfollowed == Try.prog.unfollowed 9) = true := by kernel_rfl
theorem fRec : (Rows.fnExactRankAgainRow.recurses == Try.prog.recurses 9) = true := by kernel_rfl
theorem fNamed : (Rows.fnExactRankAgainRow.named == Try.prog.varsNamed 9) = true := by kernel_rfl
theorem fMaps : (Rows.fnExactRankAgainRow.maps == (Try.f9.params.toList ++ Rows.fnExactRankAgainSpec.plain.varTypes Try.prog).any (Try.prog.mapsRec ·)) = true := by kernel_rfl
theorem fIfs : (Rows.fnExactRankAgainRow.ifaces == (Try.f9.params.toList ++ Rows.fnExactRankAgainSpec.plain.varTypes Try.prog).any (Try.prog.ifacesRec ·)) = true := by kernel_rfl
theorem fPin : (Rows.fnExactRankAgainRow.pinned == Rows.fnExactRankAgainRow.pinnedBy) = true := by kernel_rfl
theorem fName : Try.prog.funcNamed Rows.fnExactRankAgainRow.func = some 9 := by kernel_rfl
theorem closed : joinedFacts Try.prog 9 Try.f9 Rows.fnExactRankAgainSpec Rows.fnExactRankAgainRow = true := by
  unfold joinedFacts
  repeat' (with_reducible refine Hd.band ?_ ?_)
  · exact fWf
  · exact Hd.laidOut
  · exact Hd.mapsRowed
  · exact fPar
  · exact fTie
  · as_aux_lemma => kernel_rfl
  · exact Hd.beqt Hd.stops
  · as_aux_lemma => kernel_rfl
  · exact Hd.beqt Hd.stopKnobs
  · exact fPlace
  · exact fUnf
  · exact fRec
  · exact fNamed
  · exact fMaps
  · exact fIfs
  · as_aux_lemma => kernel_rfl
  · as_aux_lemma => kernel_rfl
  · as_aux_lemma => kernel_rfl
  · as_aux_lemma => kernel_rfl
  · as_aux_lemma => kernel_rfl
  · as_aux_lemma => kernel_rfl
  · as_aux_lemma => kernel_rfl
  · exact Hd.beqt (show Rows.fnExactRankAgainRow.plainKeys = Try.prog.plainKeys from Hd.plainKeys.symm)
  · as_aux_lemma => kernel_rfl
  · exact Hd.stopsHeard
  · exact Hd.mayEnter
  · exact Hd.beqt (show Rows.fnExactRankAgainRow.lifted = Try.prog.liftsFinal from Hd.liftsFinal.symm)
  · exact Hd.beqt (show Try.prog.make = some Rows.fnExactRankAgainRow.make from Hd.make)
  · as_aux_lemma => kernel_rfl
  · exact fPin
  · as_aux_lemma => kernel_rfl
  · as_aux_lemma => kernel_rfl
theorem over : Rows.fnExactRankAgainRow.holds Try.pinned (OpenSpec.ofChange Rows.fnExactRankAgainSpec) :=
  OpenClaim.holds_of_wide 9 Try.f9 rfl rfl rfl rfl rfl rfl rfl ⟨rfl, rfl, rfl, rfl, rfl⟩ rfl rfl rfl rfl rfl fName Try.func9 closed
    (of_decide_eq_true (by kernel_rfl)) (by unfold Func.isWrapper; first | (rw [if_pos (by decide +kernel)]; kernel_rfl) | (rw [if_neg (by decide +kernel)]; exact ⟨rfl, rfl⟩))
    (fun os started H enc _ => lifted os started H enc)
#print axioms over
end Go.Proofs.Ythibhcohcbgdpaa.fnExactRankAgain
namespace Go.Proofs.Ythibhcohcbgdpaa
/-- The row, under a short name, for the claim. -/
theorem fnExactRankAgain_holds : Rows.FnExactRankAgainSaid := fnExactRankAgain.over
end Go.Proofs.Ythibhcohcbgdpaa
