/-
  FnExactAfterCalls over lists: call by call both are the same good state, or none. The row: for every input the law answers true and leaves what came in as it was.
-/
import Derived.Test.YtcdaflkkmgofdaaRows
import Derived.Test.YtcdaflkkmgofdaaPFnExactAfterCallsx
import Derived.Test.YtcdaflkkmgofdaaPureFnExactAfterCalls
import Derived.Test.YtcdaflkkmgofdaaPO
import Derived.Test.YtcdaflkkmgofdaaHd
import Derived.WalkKit
import Derived.ProofKit
import Derived.OpenShut
import Derived.ShutString
import Derived.ChangeOld
import Derived.Below
import Derived.SizedLaws
import Derived.Carry
namespace Go.Proofs.Ytcdaflkkmgofdaa.fnExactAfterCalls
open Go.ChangeShapes Go.WideShapes Go.ChangeAt Go.RowKit Go.Proofs.YtcdaflkkmgofdaaW.PrintWords Go.Proofs.Ytcdaflkkmgofdaa.PFnExactAfterCalls
open Go.ChangeMaps (open_string shut_string)
set_option linter.unusedVariables false
open Hd (own laidOut)
instance : Inhabited S40 := ⟨z40⟩
set_option maxRecDepth 100000 in
theorem lifted (os : Os) (started : os.Started) (H : Type) (enc : TypeId × Value → H) :
    ReturnsInHanded {} Try.checked os 13 .any (Rows.fnExactAfterCallsSpec.pre6 enc Try.prog Try.f13 Rows.fnExactAfterCallsRow.domain false) (Rows.fnExactAfterCallsSpec.post enc Try.prog Try.f13 false true false false) := by
  refine returnsInHanded_of_change_sized (C := Try.checked) own started (by kernel_rfl) Try.func13
    (ChangeSpec.witness6 (enc := enc) (C := Try.checked) false ⟨#[], #[.int .i64 0, .slice none 0 0], []⟩ 8 (by kernel_rfl) (by kernel_rfl) (by kernel_rfl) (by kernel_rfl)) ?_
  intro W base args ds gs before hval0 hW hcnd hsz0 _
  have hval : ∀ (j : Nat) t v, Try.f13.params[j]? = some t → args[j]? = some v → Value.okWide Try.prog W .any base t v := hval0
  have hW' := hW
  obtain ⟨p, q, hA0, hV, rfl, hfz, hnd⟩ := hW
  have hA : DataW.TrodAll enc Try.prog W 0 (fun _ => true) true Try.f13.params.toList args.toList ds p := hA0
  rw [Try.params13] at hA hval
  obtain ⟨v0, vs0, d0, ds0, p0, q0, hargs, rfl, rfl, h0, r0⟩ := trodAll_cons hA
  obtain ⟨v1, vs1, d1, ds1, p1, q1, rfl, rfl, rfl, h1, r1⟩ := trodAll_cons r0
  obtain ⟨rfl, rfl, rfl⟩ := trodAll_nil r1
  obtain rfl : args = #[v0, v1] := by cases args; simp_all
  obtain ⟨rfl, rfl⟩ := trodVars_none hV
  have k0 := h0
  have lt0 : ∀ x ∈ p0, x.block < W.heap.size := by obtain ⟨m, hm⟩ := k0; exact DataW.trod_lt m _ _ _ hm
  obtain ⟨a0, rfl, rfl, rfl, w0⟩ := open_int Try.underlying3 (hval 0 3 v0 rfl rfl) h0
  have k1 := h1
  have lt1 : ∀ x ∈ p1, x.block < W.heap.size := by obtain ⟨m, hm⟩ := k1; exact DataW.trod_lt m _ _ _ hm
  obtain ⟨A1, c1, l1, rfl, hc1, hr1, hm1, hg1⟩ := PO.arg_slice (PO.opens_iso (f := fun (x : S40) => (x.f0, x.f1)) (g := fun p => ⟨p.1, p.2⟩) (PO.opens_struct2 Try.underlying40 (PO.opens_int Try.underlying3 (by kernel_rfl)) (PO.opens_int Try.underlying3 (by kernel_rfl)) rfl rfl (by kernel_rfl)) (fun _ => rfl)) Try.underlying60 (by kernel_rfl) (hval 1 60 v1 rfl rfl) k1
  clear hA0 hval0 hsz0 hval
  obtain ⟨k, h⟩ := Pure.FnExactAfterCalls a0 l1 w0 hm1 hg1
  refine (PFnExactAfterCalls.laws_FnExactAfterCalls.calls k a0 A1 c1 l1 true W hr1 hc1 h).mono fun e W' ⟨he, bel0⟩ => ?_
  have bel : Below W.heap.size W W' := bel0
  subst he
  exact ⟨_, rfl, _, _, _, [], _, [], hW', trodAll_mk1 (shut_bool Try.underlying4 _), (trodAll_cons_mk (shut_int Try.underlying3 w0) (trodAll_cons_mk (Below.trod laidOut (by kernel_rfl) (of_decide_eq_true (by kernel_rfl)) k1 bel lt1) trodAll_mk0)), rfl, bel.frame _, fun h => by cases h⟩
theorem fWf : Rows.fnExactAfterCallsRow.wf (OpenSpec.ofChange Rows.fnExactAfterCallsSpec) = true := by kernel_rfl
theorem fPar : Try.f13.params.all (Try.prog.readableRec ·) = true := by kernel_rfl
theorem fTie : namedTie Try.prog Rows.fnExactAfterCallsRow.named Rows.fnExactAfterCallsSpec.vars = true := by kernel_rfl
theorem fPlace : (Rows.fnExactAfterCallsRow.inPlace == Try.prog.inPlace 13) = true := by kernel_rfl
theorem fUnf : (Rows.fnExactAfterCallsRow.unfollowed == Try.prog.unfollowed 13) = true := by kernel_rfl
theorem fRec : (Rows.fnExactAfterCallsRow.recurses == Try.prog.recurses 13) = true := by kernel_rfl
theorem fNamed : (Rows.fnExactAfterCallsRow.named == Try.prog.varsNamed 13) = true := by kernel_rfl
theorem fMaps : (Rows.fnExactAfterCallsRow.maps == (Try.f13.params.toList ++ Rows.fnExactAfterCallsSpec.plain.varTypes Try.prog).any (Try.prog.mapsRec ·)) = true := by kernel_rfl
theorem fIfs : (Rows.fnExactAfterCallsRow.ifaces == (Try.f13.params.toList ++ Rows.fnExactAfterCallsSpec.plain.varTypes Try.prog).any (Try.prog.ifacesRec ·)) = true := by kernel_rfl
theorem fPin : (Rows.fnExactAfterCallsRow.pinned == Rows.fnExactAfterCallsRow.pinnedBy) = true := by kernel_rfl
theorem fName : Try.prog.funcNamed Rows.fnExactAfterCallsRow.func = some 13 := by kernel_rfl
theorem closed : joinedFacts Try.prog 13 Try.f13 Rows.fnExactAfterCallsSpec Rows.fnExactAfterCallsRow = true := by
  unfold joinedFacts
  repeat' (with_reducible refine Hd.band ?_ ?_)
  · exact fWf
  · exact Hd.laidOut
  · exact Hd.mapsRowed
  · exact fPar
  · exact fTie
  · as_aux_lemma => kernel_rfl
  · exact Hd.beqt Hd.stops
  · as_aux_lemma => kernel_rfl
  · exact Hd.beqt Hd.stopKnobs
  · exact fPlace
  · exact fUnf
  · exact fRec
  · exact fNamed
  · exact fMaps
  · exact fIfs
  · as_aux_lemma => kernel_rfl
  · as_aux_lemma => kernel_rfl
  · as_aux_lemma => kernel_rfl
  · as_aux_lemma => kernel_rfl
  · as_aux_lemma => kernel_rfl
  · as_aux_lemma => kernel_rfl
  · as_aux_lemma => kernel_rfl
  · exact Hd.beqt (show Rows.fnExactAfterCallsRow.plainKeys = Try.prog.plainKeys from Hd.plainKeys.symm)
  · as_aux_lemma => kernel_rfl
  · exact Hd.stopsHeard
  · exact Hd.mayEnter
  · exact Hd.beqt (show Rows.fnExactAfterCallsRow.lifted = Try.prog.liftsFinal from Hd.liftsFinal.symm)
  · exact Hd.beqt (show Try.prog.make = some Rows.fnExactAfterCallsRow.make from Hd.make)
  · as_aux_lemma => kernel_rfl
  · exact fPin
  · as_aux_lemma => kernel_rfl
  · as_aux_lemma => kernel_rfl
theorem over : Rows.fnExactAfterCallsRow.holds Try.pinned (OpenSpec.ofChange Rows.fnExactAfterCallsSpec) :=
  OpenClaim.holds_of_wide 13 Try.f13 rfl rfl rfl rfl rfl rfl rfl ⟨rfl, rfl, rfl, rfl, rfl⟩ rfl rfl rfl rfl rfl fName Try.func13 closed
    (of_decide_eq_true (by kernel_rfl)) (by unfold Func.isWrapper; first | (rw [if_pos (by decide +kernel)]; kernel_rfl) | (rw [if_neg (by decide +kernel)]; exact ⟨rfl, rfl⟩))
    (fun os started H enc _ => lifted os started H enc)
#print axioms over
end Go.Proofs.Ytcdaflkkmgofdaa.fnExactAfterCalls
namespace Go.Proofs.Ytcdaflkkmgofdaa
/-- The row, under a short name, for the claim. -/
theorem fnExactAfterCalls_holds : Rows.FnExactAfterCallsSaid := fnExactAfterCalls.over
end Go.Proofs.Ytcdaflkkmgofdaa
