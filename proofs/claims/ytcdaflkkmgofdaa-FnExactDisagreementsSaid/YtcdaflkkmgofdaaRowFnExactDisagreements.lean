/-
  FnExactDisagreements over numbers and lists: both look at the same two lists in the same order. The row: for every input the law answers true and leaves what came in as it was.
-/
import Derived.Test.YtcdaflkkmgofdaaRows
import Derived.Test.YtcdaflkkmgofdaaPFnExactDisagreementsx
import Derived.Test.YtcdaflkkmgofdaaPureFnExactDisagreements
import Derived.Test.YtcdaflkkmgofdaaPO
import Derived.Test.YtcdaflkkmgofdaaHd
import Derived.WalkKit
import Derived.ProofKit
import Derived.OpenShut
import Derived.ShutString
import Derived.ChangeOld
import Derived.Below
import Derived.SizedLaws
import Derived.Carry
namespace Go.Proofs.Ytcdaflkkmgofdaa.fnExactDisagreements
open Go.ChangeShapes Go.WideShapes Go.ChangeAt Go.RowKit Go.Proofs.YtcdaflkkmgofdaaW.PrintWords Go.Proofs.Ytcdaflkkmgofdaa.PFnExactDisagreements
open Go.ChangeMaps (open_string shut_string)
set_option linter.unusedVariables false
open Hd (own laidOut)
set_option maxRecDepth 100000 in
theorem lifted (os : Os) (started : os.Started) (H : Type) (enc : TypeId × Value → H) :
    ReturnsInHanded {} Try.checked os 4 .any (Rows.fnExactDisagreementsSpec.pre6 enc Try.prog Try.f4 Rows.fnExactDisagreementsRow.domain false) (Rows.fnExactDisagreementsSpec.post enc Try.prog Try.f4 false true false false) := by
  refine returnsInHanded_of_change_sized (C := Try.checked) own started (by kernel_rfl) Try.func4
    (ChangeSpec.witness6 (enc := enc) (C := Try.checked) false ⟨#[], #[.int .i64 0, .int .i64 0, .int .i64 0], []⟩ 8 (by kernel_rfl) (by kernel_rfl) (by kernel_rfl) (by kernel_rfl)) ?_
  intro W base args ds gs before hval0 hW hcnd hsz0 _
  have hval : ∀ (j : Nat) t v, Try.f4.params[j]? = some t → args[j]? = some v → Value.okWide Try.prog W .any base t v := hval0
  have hW' := hW
  obtain ⟨p, q, hA0, hV, rfl, hfz, hnd⟩ := hW
  have hA : DataW.TrodAll enc Try.prog W 0 (fun _ => true) true Try.f4.params.toList args.toList ds p := hA0
  rw [Try.params4] at hA hval
  obtain ⟨v0, vs0, d0, ds0, p0, q0, hargs, rfl, rfl, h0, r0⟩ := trodAll_cons hA
  obtain ⟨v1, vs1, d1, ds1, p1, q1, rfl, rfl, rfl, h1, r1⟩ := trodAll_cons r0
  obtain ⟨v2, vs2, d2, ds2, p2, q2, rfl, rfl, rfl, h2, r2⟩ := trodAll_cons r1
  obtain ⟨rfl, rfl, rfl⟩ := trodAll_nil r2
  obtain rfl : args = #[v0, v1, v2] := by cases args; simp_all
  obtain ⟨rfl, rfl⟩ := trodVars_none hV
  have k0 := h0
  have lt0 : ∀ x ∈ p0, x.block < W.heap.size := by obtain ⟨m, hm⟩ := k0; exact DataW.trod_lt m _ _ _ hm
  obtain ⟨a0, rfl, rfl, rfl, w0⟩ := open_int Try.underlying3 (hval 0 3 v0 rfl rfl) h0
  have k1 := h1
  have lt1 : ∀ x ∈ p1, x.block < W.heap.size := by obtain ⟨m, hm⟩ := k1; exact DataW.trod_lt m _ _ _ hm
  obtain ⟨a1, rfl, rfl, rfl, w1⟩ := open_int Try.underlying3 (hval 1 3 v1 rfl rfl) h1
  have k2 := h2
  have lt2 : ∀ x ∈ p2, x.block < W.heap.size := by obtain ⟨m, hm⟩ := k2; exact DataW.trod_lt m _ _ _ hm
  obtain ⟨a2, rfl, rfl, rfl, w2⟩ := open_int Try.underlying3 (hval 2 3 v2 rfl rfl) h2
  clear hA0 hval0 hsz0 hval
  obtain ⟨k, h⟩ := Pure.FnExactDisagreements a0 a1 a2 w0 w1 w2
  refine (PFnExactDisagreements.laws_FnExactDisagreements.calls k a0 a1 a2 true W h).mono fun e W' ⟨he, bel0⟩ => ?_
  have bel : Below W.heap.size W W' := bel0
  subst he
  exact ⟨_, rfl, _, _, _, [], _, [], hW', trodAll_mk1 (shut_bool Try.underlying4 _), (trodAll_cons_mk (shut_int Try.underlying3 w0) (trodAll_cons_mk (shut_int Try.underlying3 w1) (trodAll_cons_mk (shut_int Try.underlying3 w2) trodAll_mk0))), rfl, bel.frame _, fun h => by cases h⟩
theorem fWf : Rows.fnExactDisagreementsRow.wf (OpenSpec.ofChange Rows.fnExactDisagreementsSpec) = true := by kernel_rfl
theorem fPar : Try.f4.params.all (Try.prog.readableRec ·) = true := by kernel_rfl
theorem fTie : namedTie Try.prog Rows.fnExactDisagreementsRow.named Rows.fnExactDisagreementsSpec.vars = true := by kernel_rfl
theorem fPlace : (Rows.fnExactDisagreementsRow.inPlace == Try.prog.inPlace 4) = true := by kernel_rfl
theorem fUnf : (Rows.fnExactDisagreementsRow.unfollowed == Try.prog.unfollowed 4) = true := by kernel_rfl
theorem fRec : (Rows.fnExactDisagreementsRow.recurses == Try.prog.recurses 4) = true := by kernel_rfl
theorem fNamed : (Rows.fnExactDisagreementsRow.named == Try.prog.varsNamed 4) = true := by kernel_rfl
theorem fMaps : (Rows.fnExactDisagreementsRow.maps == (Try.f4.params.toList ++ Rows.fnExactDisagreementsSpec.plain.varTypes Try.prog).any (Try.prog.mapsRec ·)) = true := by kernel_rfl
theorem fIfs : (Rows.fnExactDisagreementsRow.ifaces == (Try.f4.params.toList ++ Rows.fnExactDisagreementsSpec.plain.varTypes Try.prog).any (Try.prog.ifacesRec ·)) = true := by kernel_rfl
theorem fPin : (Rows.fnExactDisagreementsRow.pinned == Rows.fnExactDisagreementsRow.pinnedBy) = true := by kernel_rfl
theorem fName : Try.prog.funcNamed Rows.fnExactDisagreementsRow.func = some 4 := by kernel_rfl
theorem closed : joinedFacts Try.prog 4 Try.f4 Rows.fnExactDisagreementsSpec Rows.fnExactDisagreementsRow = true := by
  unfold joinedFacts
  repeat' (with_reducible refine Hd.band ?_ ?_)
  · exact fWf
  · exact Hd.laidOut
  · exact Hd.mapsRowed
  · exact fPar
  · exact fTie
  · as_aux_lemma => kernel_rfl
  · exact Hd.beqt Hd.stops
  · as_aux_lemma => kernel_rfl
  · exact Hd.beqt Hd.stopKnobs
  · exact fPlace
  · exact fUnf
  · exact fRec
  · exact fNamed
  · exact fMaps
  · exact fIfs
  · as_aux_lemma => kernel_rfl
  · as_aux_lemma => kernel_rfl
  · as_aux_lemma => kernel_rfl
  · as_aux_lemma => kernel_rfl
  · as_aux_lemma => kernel_rfl
  · as_aux_lemma => kernel_rfl
  · as_aux_lemma => kernel_rfl
  · exact Hd.beqt (show Rows.fnExactDisagreementsRow.plainKeys = Try.prog.plainKeys from Hd.plainKeys.symm)
  · as_aux_lemma => kernel_rfl
  · exact Hd.stopsHeard
  · exact Hd.mayEnter
  · exact Hd.beqt (show Rows.fnExactDisagreementsRow.lifted = Try.prog.liftsFinal from Hd.liftsFinal.symm)
  · exact Hd.beqt (show Try.prog.make = some Rows.fnExactDisagreementsRow.make from Hd.make)
  · as_aux_lemma => kernel_rfl
  · exact fPin
  · as_aux_lemma => kernel_rfl
  · as_aux_lemma => kernel_rfl
theorem over : Rows.fnExactDisagreementsRow.holds Try.pinned (OpenSpec.ofChange Rows.fnExactDisagreementsSpec) :=
  OpenClaim.holds_of_wide 4 Try.f4 rfl rfl rfl rfl rfl rfl rfl ⟨rfl, rfl, rfl, rfl, rfl⟩ rfl rfl rfl rfl rfl fName Try.func4 closed
    (of_decide_eq_true (by kernel_rfl)) (by unfold Func.isWrapper; first | (rw [if_pos (by decide +kernel)]; kernel_rfl) | (rw [if_neg (by decide +kernel)]; exact ⟨rfl, rfl⟩))
    (fun os started H enc _ => lifted os started H enc)
#print axioms over
end Go.Proofs.Ytcdaflkkmgofdaa.fnExactDisagreements
namespace Go.Proofs.Ytcdaflkkmgofdaa
/-- The row, under a short name, for the claim. -/
theorem fnExactDisagreements_holds : Rows.FnExactDisagreementsSaid := fnExactDisagreements.over
end Go.Proofs.Ytcdaflkkmgofdaa
