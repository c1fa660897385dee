/-
  FnExactIsPlain over lists of nodes: both answer the same, for a formula and for any other list. The row: for every input the law answers true and leaves what came in as it was.
-/
import Derived.Test.YtkkmfodoilbdlaaRows
import Derived.Test.YtkkmfodoilbdlaaPFnExactIsPlainx
import Derived.Test.YtkkmfodoilbdlaaPureFnExactIsPlain
import Derived.Test.YtkkmfodoilbdlaaPO
import Derived.Test.YtkkmfodoilbdlaaHd
import Derived.WalkKit
import Derived.ProofKit
import Derived.OpenShut
import Derived.ShutString
import Derived.ChangeOld
import Derived.Below
import Derived.SizedLaws
import Derived.Carry
namespace Go.Proofs.Ytkkmfodoilbdlaa.fnExactIsPlain
open Go.ChangeShapes Go.WideShapes Go.ChangeAt Go.RowKit Go.Proofs.YtkkmfodoilbdlaaW.PrintWords Go.Proofs.Ytkkmfodoilbdlaa.PFnExactIsPlain
open Go.ChangeMaps (open_string shut_string)
set_option linter.unusedVariables false
open Hd (own laidOut)
instance : Inhabited S32 := ⟨z32⟩
set_option maxRecDepth 100000 in
theorem lifted (os : Os) (started : os.Started) (H : Type) (enc : TypeId × Value → H) :
    ReturnsInHanded {} Try.checked os 3 .any (Rows.fnExactIsPlainSpec.pre6 enc Try.prog Try.f3 Rows.fnExactIsPlainRow.domain false) (Rows.fnExactIsPlainSpec.post enc Try.prog Try.f3 false true false false) := by
  refine returnsInHanded_of_change_sized (C := Try.checked) own started (by kernel_rfl) Try.func3
    (ChangeSpec.witness6 (enc := enc) (C := Try.checked) false ⟨#[], #[.slice none 0 0], []⟩ 8 (by kernel_rfl) (by kernel_rfl) (by kernel_rfl) (by kernel_rfl)) ?_
  intro W base args ds gs before hval0 hW hcnd hsz0 _
  have hval : ∀ (j : Nat) t v, Try.f3.params[j]? = some t → args[j]? = some v → Value.okWide Try.prog W .any base t v := hval0
  have hW' := hW
  obtain ⟨p, q, hA0, hV, rfl, hfz, hnd⟩ := hW
  have hA : DataW.TrodAll enc Try.prog W 0 (fun _ => true) true Try.f3.params.toList args.toList ds p := hA0
  rw [Try.params3] at hA hval
  obtain ⟨v0, vs0, d0, ds0, p0, q0, hargs, rfl, rfl, h0, r0⟩ := trodAll_cons hA
  obtain ⟨rfl, rfl, rfl⟩ := trodAll_nil r0
  obtain rfl : args = #[v0] := by cases args; simp_all
  obtain ⟨rfl, rfl⟩ := trodVars_none hV
  have k0 := h0
  have lt0 : ∀ x ∈ p0, x.block < W.heap.size := by obtain ⟨m, hm⟩ := k0; exact DataW.trod_lt m _ _ _ hm
  obtain ⟨A0, c0, l0, rfl, hc0, hr0, hm0, hg0⟩ := PO.arg_slice (PO.opens_iso (f := fun (x : S32) => (x.f0, x.f1, x.f2, x.f3)) (g := fun p => ⟨p.1, p.2.1, p.2.2.1, p.2.2.2⟩) (PO.opens_struct4 Try.underlying32 (PO.opens_int Try.underlying3 (by kernel_rfl)) (PO.opens_int Try.underlying3 (by kernel_rfl)) (PO.opens_int Try.underlying3 (by kernel_rfl)) (PO.opens_int Try.underlying3 (by kernel_rfl)) rfl rfl rfl rfl (by kernel_rfl)) (fun _ => rfl)) Try.underlying22 (by kernel_rfl) (hval 0 22 v0 rfl rfl) k0
  clear hA0 hval0 hsz0 hval
  obtain ⟨k, h⟩ := Pure.FnExactIsPlain l0 hm0 hg0
  refine (PFnExactIsPlain.laws_FnExactIsPlain.calls k A0 c0 l0 W hr0 hc0 h).mono fun e W' ⟨he, bel0⟩ => ?_
  have bel : Below W.heap.size W W' := bel0
  subst he
  exact ⟨_, rfl, _, _, _, [], _, [], hW', trodAll_mk1 (shut_bool Try.underlying4 _), (trodAll_cons_mk (Below.trod laidOut (by kernel_rfl) (of_decide_eq_true (by kernel_rfl)) k0 bel lt0) trodAll_mk0), rfl, bel.frame _, fun h => by cases h⟩
theorem fWf : Rows.fnExactIsPlainRow.wf (OpenSpec.ofChange Rows.fnExactIsPlainSpec) = true := by kernel_rfl
theorem fPar : Try.f3.params.all (Try.prog.readableRec ·) = true := by kernel_rfl
theorem fTie : namedTie Try.prog Rows.fnExactIsPlainRow.named Rows.fnExactIsPlainSpec.vars = true := by kernel_rfl
theorem fPlace : (Rows.fnExactIsPlainRow.inPlace == Try.prog.inPlace 3) = true := by kernel_rfl
theorem fUnf : (Rows.fnExactIsPlainRow.unfollowed == Try.prog.unfollowed 3) = true := by kernel_rfl
theorem fRec : (Rows.fnExactIsPlainRow.recurses == Try.prog.recurses 3) = true := by kernel_rfl
theorem fNamed : (Rows.fnExactIsPlainRow.named == Try.prog.varsNamed 3) = true := by kernel_rfl
theorem fMaps : (Rows.fnExactIsPlainRow.maps == (Try.f3.params.toList ++ Rows.fnExactIsPlainSpec.plain.varTypes Try.prog).any (Try.prog.mapsRec ·)) = true := by kernel_rfl
theorem fIfs : (Rows.fnExactIsPlainRow.ifaces == (Try.f3.params.toList ++ Rows.fnExactIsPlainSpec.plain.varTypes Try.prog).any (Try.prog.ifacesRec ·)) = true := by kernel_rfl
theorem fPin : (Rows.fnExactIsPlainRow.pinned == Rows.fnExactIsPlainRow.pinnedBy) = true := by kernel_rfl
theorem fName : Try.prog.funcNamed Rows.fnExactIsPlainRow.func = some 3 := by kernel_rfl
theorem closed : joinedFacts Try.prog 3 Try.f3 Rows.fnExactIsPlainSpec Rows.fnExactIsPlainRow = true := by
  unfold joinedFacts
  repeat' (with_reducible refine Hd.band ?_ ?_)
  · exact fWf
  · exact Hd.laidOut
  · exact Hd.mapsRowed
  · exact fPar
  · exact fTie
  · as_aux_lemma => kernel_rfl
  · exact Hd.beqt Hd.stops
  · as_aux_lemma => kernel_rfl
  · exact Hd.beqt Hd.stopKnobs
  · exact fPlace
  · exact fUnf
  · exact fRec
  · exact fNamed
  · exact fMaps
  · exact fIfs
  · as_aux_lemma => kernel_rfl
  · as_aux_lemma => kernel_rfl
  · as_aux_lemma => kernel_rfl
  · as_aux_lemma => kernel_rfl
  · as_aux_lemma => kernel_rfl
  · as_aux_lemma => kernel_rfl
  · as_aux_lemma => kernel_rfl
  · exact Hd.beqt (show Rows.fnExactIsPlainRow.plainKeys = Try.prog.plainKeys from Hd.plainKeys.symm)
  · as_aux_lemma => kernel_rfl
  · exact Hd.stopsHeard
  · exact Hd.mayEnter
  · exact Hd.beqt (show Rows.fnExactIsPlainRow.lifted = Try.prog.liftsFinal from Hd.liftsFinal.symm)
  · exact Hd.beqt (show Try.prog.make = some Rows.fnExactIsPlainRow.make from Hd.make)
  · as_aux_lemma => kernel_rfl
  · exact fPin
  · as_aux_lemma => kernel_rfl
  · as_aux_lemma => kernel_rfl
theorem over : Rows.fnExactIsPlainRow.holds Try.pinned (OpenSpec.ofChange Rows.fnExactIsPlainSpec) :=
  OpenClaim.holds_of_wide 3 Try.f3 rfl rfl rfl rfl rfl rfl rfl ⟨rfl, rfl, rfl, rfl, rfl⟩ rfl rfl rfl rfl rfl fName Try.func3 closed
    (of_decide_eq_true (by kernel_rfl)) (by unfold Func.isWrapper; first | (rw [if_pos (by decide +kernel)]; kernel_rfl) | (rw [if_neg (by decide +kernel)]; exact ⟨rfl, rfl⟩))
    (fun os started H enc _ => lifted os started H enc)
#print axioms over
end Go.Proofs.Ytkkmfodoilbdlaa.fnExactIsPlain
namespace Go.Proofs.Ytkkmfodoilbdlaa
/-- The row, under a short name, for the claim. -/
theorem fnExactIsPlain_holds : Rows.FnExactIsPlainSaid := fnExactIsPlain.over
end Go.Proofs.Ytkkmfodoilbdlaa
