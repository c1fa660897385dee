/-
  FnExactAfterCall over lists: both are the same state after the call, or none. The row: for every input the law answers true and leaves what came in as it was.
-/
import Derived.Test.YtcdaflkkmgofdaaRows
import Derived.Test.YtcdaflkkmgofdaaPFnExactAfterCallx
import Derived.Test.YtcdaflkkmgofdaaPureFnExactAfterCall
import Derived.Test.YtcdaflkkmgofdaaPO
import Derived.Test.YtcdaflkkmgofdaaHd
import Derived.WalkKit
import Derived.ProofKit
import Derived.OpenShut
import Derived.ShutString
import Derived.ChangeOld
import Derived.Below
import Derived.SizedLaws
import Derived.Carry
namespace Go.Proofs.Ytcdaflkkmgofdaa.fnExactAfterCall
open Go.ChangeShapes Go.WideShapes Go.ChangeAt Go.RowKit Go.Proofs.YtcdaflkkmgofdaaW.PrintWords Go.Proofs.Ytcdaflkkmgofdaa.PFnExactAfterCall
open Go.ChangeMaps (open_string shut_string)
set_option linter.unusedVariables false
open Hd (own laidOut)
set_option maxRecDepth 100000 in
theorem lifted (os : Os) (started : os.Started) (H : Type) (enc : TypeId × Value → H) :
    ReturnsInHanded {} Try.checked os 6 .any (Rows.fnExactAfterCallSpec.pre6 enc Try.prog Try.f6 Rows.fnExactAfterCallRow.domain false) (Rows.fnExactAfterCallSpec.post enc Try.prog Try.f6 false true false false) := by
  refine returnsInHanded_of_change_sized (C := Try.checked) own started (by kernel_rfl) Try.func6
    (ChangeSpec.witness6 (enc := enc) (C := Try.checked) false ⟨#[], #[.slice none 0 0, .agg #[.int .i64 0, .int .i64 0]], []⟩ 8 (by kernel_rfl) (by kernel_rfl) (by kernel_rfl) (by kernel_rfl)) ?_
  intro W base args ds gs before hval0 hW hcnd hsz0 _
  have hval : ∀ (j : Nat) t v, Try.f6.params[j]? = some t → args[j]? = some v → Value.okWide Try.prog W .any base t v := hval0
  have hW' := hW
  obtain ⟨p, q, hA0, hV, rfl, hfz, hnd⟩ := hW
  have hA : DataW.TrodAll enc Try.prog W 0 (fun _ => true) true Try.f6.params.toList args.toList ds p := hA0
  rw [Try.params6] at hA hval
  obtain ⟨v0, vs0, d0, ds0, p0, q0, hargs, rfl, rfl, h0, r0⟩ := trodAll_cons hA
  obtain ⟨v1, vs1, d1, ds1, p1, q1, rfl, rfl, rfl, h1, r1⟩ := trodAll_cons r0
  obtain ⟨rfl, rfl, rfl⟩ := trodAll_nil r1
  obtain rfl : args = #[v0, v1] := by cases args; simp_all
  obtain ⟨rfl, rfl⟩ := trodVars_none hV
  have k0 := h0
  have lt0 : ∀ x ∈ p0, x.block < W.heap.size := by obtain ⟨m, hm⟩ := k0; exact DataW.trod_lt m _ _ _ hm
  obtain ⟨A0, c0, l0, rfl, hc0, hr0, hm0, hg0⟩ := PO.arg_slice (PO.opens_int Try.underlying3 (by kernel_rfl)) Try.underlying28 (by kernel_rfl) (hval 0 28 v0 rfl rfl) k0
  have k1 := h1
  have lt1 : ∀ x ∈ p1, x.block < W.heap.size := by obtain ⟨m, hm⟩ := k1; exact DataW.trod_lt m _ _ _ hm
  obtain ⟨cs1, y1, rfl, hK1, hg1⟩ := PO.arg_struct (PO.opens_struct2 Try.underlying40 (PO.opens_int Try.underlying3 (by kernel_rfl)) (PO.opens_int Try.underlying3 (by kernel_rfl)) rfl rfl (by kernel_rfl)) Try.underlying40 (hval 1 40 v1 rfl rfl) k1
  obtain ⟨_, _, e1, rfl, rfl⟩ := hK1
  obtain rfl : cs1 = #[.int .i64 y1.1, .int .i64 y1.2] := Array.toList_inj.1 e1
  clear hA0 hval0 hsz0 hval
  obtain ⟨k, h⟩ := Pure.FnExactAfterCall l0 y1.1 y1.2 hm0 hg0 hg1.1 hg1.2
  refine (PFnExactAfterCall.laws_FnExactAfterCall.calls k A0 c0 l0 y1.1 y1.2 true W hr0 hc0 h).mono fun e W' ⟨he, bel0⟩ => ?_
  have bel : Below W.heap.size W W' := bel0
  subst he
  exact ⟨_, rfl, _, _, _, [], _, [], hW', trodAll_mk1 (shut_bool Try.underlying4 _), (trodAll_cons_mk (Below.trod laidOut (by kernel_rfl) (of_decide_eq_true (by kernel_rfl)) k0 bel lt0) (trodAll_cons_mk (Below.trod laidOut (by kernel_rfl) (of_decide_eq_true (by kernel_rfl)) k1 bel lt1) trodAll_mk0)), rfl, bel.frame _, fun h => by cases h⟩
theorem fWf : Rows.fnExactAfterCallRow.wf (OpenSpec.ofChange Rows.fnExactAfterCallSpec) = true := by kernel_rfl
theorem fPar : Try.f6.params.all (Try.prog.readableRec ·) = true := by kernel_rfl
theorem fTie : namedTie Try.prog Rows.fnExactAfterCallRow.named Rows.fnExactAfterCallSpec.vars = true := by kernel_rfl
theorem fPlace : (Rows.fnExactAfterCallRow.inPlace == Try.prog.inPlace 6) = true := by kernel_rfl
theorem fUnf : (Rows.fnExactAfterCallRow.unfollowed == Try.prog.unfollowed 6) = true := by kernel_rfl
theorem fRec : (Rows.fnExactAfterCallRow.recurses == Try.prog.recurses 6) = true := by kernel_rfl
theorem fNamed : (Rows.fnExactAfterCallRow.named == Try.prog.varsNamed 6) = true := by kernel_rfl
theorem fMaps : (Rows.fnExactAfterCallRow.maps == (Try.f6.params.toList ++ Rows.fnExactAfterCallSpec.plain.varTypes Try.prog).any (Try.prog.mapsRec ·)) = true := by kernel_rfl
theorem fIfs : (Rows.fnExactAfterCallRow.ifaces == (Try.f6.params.toList ++ Rows.fnExactAfterCallSpec.plain.varTypes Try.prog).any (Try.prog.ifacesRec ·)) = true := by kernel_rfl
theorem fPin : (Rows.fnExactAfterCallRow.pinned == Rows.fnExactAfterCallRow.pinnedBy) = true := by kernel_rfl
theorem fName : Try.prog.funcNamed Rows.fnExactAfterCallRow.func = some 6 := by kernel_rfl
theorem closed : joinedFacts Try.prog 6 Try.f6 Rows.fnExactAfterCallSpec Rows.fnExactAfterCallRow = true := by
  unfold joinedFacts
  repeat' (with_reducible refine Hd.band ?_ ?_)
  · exact fWf
  · exact Hd.laidOut
  · exact Hd.mapsRowed
  · exact fPar
  · exact fTie
  · as_aux_lemma => kernel_rfl
  · exact Hd.beqt Hd.stops
  · as_aux_lemma => kernel_rfl
  · exact Hd.beqt Hd.stopKnobs
  · exact fPlace
  · exact fUnf
  · exact fRec
  · exact fNamed
  · exact fMaps
  · exact fIfs
  · as_aux_lemma => kernel_rfl
  · as_aux_lemma => kernel_rfl
  · as_aux_lemma => kernel_rfl
  · as_aux_lemma => kernel_rfl
  · as_aux_lemma => kernel_rfl
  · as_aux_lemma => kernel_rfl
  · as_aux_lemma => kernel_rfl
  · exact Hd.beqt (show Rows.fnExactAfterCallRow.plainKeys = Try.prog.plainKeys from Hd.plainKeys.symm)
  · as_aux_lemma => kernel_rfl
  · exact Hd.stopsHeard
  · exact Hd.mayEnter
  · exact Hd.beqt (show Rows.fnExactAfterCallRow.lifted = Try.prog.liftsFinal from Hd.liftsFinal.symm)
  · exact Hd.beqt (show Try.prog.make = some Rows.fnExactAfterCallRow.make from Hd.make)
  · as_aux_lemma => kernel_rfl
  · exact fPin
  · as_aux_lemma => kernel_rfl
  · as_aux_lemma => kernel_rfl
theorem over : Rows.fnExactAfterCallRow.holds Try.pinned (OpenSpec.ofChange Rows.fnExactAfterCallSpec) :=
  OpenClaim.holds_of_wide 6 Try.f6 rfl rfl rfl rfl rfl rfl rfl ⟨rfl, rfl, rfl, rfl, rfl⟩ rfl rfl rfl rfl rfl fName Try.func6 closed
    (of_decide_eq_true (by kernel_rfl)) (by unfold Func.isWrapper; first | (rw [if_pos (by decide +kernel)]; kernel_rfl) | (rw [if_neg (by decide +kernel)]; exact ⟨rfl, rfl⟩))
    (fun os started H enc _ => lifted os started H enc)
#print axioms over
end Go.Proofs.Ytcdaflkkmgofdaa.fnExactAfterCall
namespace Go.Proofs.Ytcdaflkkmgofdaa
/-- The row, under a short name, for the claim. -/
theorem fnExactAfterCall_holds : Rows.FnExactAfterCallSaid := fnExactAfterCall.over
end Go.Proofs.Ytcdaflkkmgofdaa
