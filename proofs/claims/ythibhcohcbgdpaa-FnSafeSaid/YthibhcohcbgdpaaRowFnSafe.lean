/-
  FnSafe over numbers: there are five deals, their hands and four sizes; both searches are computed for all of them. The row: for every input the law answers true and leaves what came in as it was.
-/
import Derived.Test.YthibhcohcbgdpaaRows
import Derived.Test.YthibhcohcbgdpaaPFnSafex
import Derived.Test.YthibhcohcbgdpaaPureFnSafe
import Derived.Test.YthibhcohcbgdpaaPO
import Derived.Test.YthibhcohcbgdpaaHd
import Derived.WalkKit
import Derived.ProofKit
import Derived.OpenShut
import Derived.ShutString
import Derived.ChangeOld
import Derived.Below
import Derived.SizedLaws
import Derived.Carry
namespace Go.Proofs.Ythibhcohcbgdpaa.fnSafe
open Go.ChangeShapes Go.WideShapes Go.ChangeAt Go.RowKit Go.Proofs.YthibhcohcbgdpaaW.PrintWords Go.Proofs.Ythibhcohcbgdpaa.PFnSafe
open Go.ChangeMaps (open_string shut_string)
set_option linter.unusedVariables false
open Hd (own laidOut)
set_option maxRecDepth 100000 in
theorem lifted (os : Os) (started : os.Started) (H : Type) (enc : TypeId × Value → H) :
    ReturnsInHanded {} Try.checked os 7 .any (Rows.fnSafeSpec.pre6 enc Try.prog Try.f7 Rows.fnSafeRow.domain false) (Rows.fnSafeSpec.post enc Try.prog Try.f7 false true false false) := by
  refine returnsInHanded_of_change_sized (C := Try.checked) own started (by kernel_rfl) Try.func7
    (ChangeSpec.witness6 (enc := enc) (C := Try.checked) false ⟨#[], #[.slice none 0 0], []⟩ 8 (by kernel_rfl) (by kernel_rfl) (by kernel_rfl) (by kernel_rfl)) ?_
  intro W base args ds gs before hval0 hW hcnd hsz0 _
  have hval : ∀ (j : Nat) t v, Try.f7.params[j]? = some t → args[j]? = some v → Value.okWide Try.prog W .any base t v := hval0
  have hW' := hW
  obtain ⟨p, q, hA0, hV, rfl, hfz, hnd⟩ := hW
  have hA : DataW.TrodAll enc Try.prog W 0 (fun _ => true) true Try.f7.params.toList args.toList ds p := hA0
  rw [Try.params7] at hA hval
  obtain ⟨v0, vs0, d0, ds0, p0, q0, hargs, rfl, rfl, h0, r0⟩ := trodAll_cons hA
  obtain ⟨rfl, rfl, rfl⟩ := trodAll_nil r0
  obtain rfl : args = #[v0] := by cases args; simp_all
  obtain ⟨rfl, rfl⟩ := trodVars_none hV
  have k0 := h0
  have lt0 : ∀ x ∈ p0, x.block < W.heap.size := by obtain ⟨m, hm⟩ := k0; exact DataW.trod_lt m _ _ _ hm
  obtain ⟨A0, c0, l0, rfl, hc0, hr0, hm0, hg0⟩ := PO.arg_slice (PO.opens_int Try.underlying5 (by kernel_rfl)) Try.underlying42 (by kernel_rfl) (hval 0 42 v0 rfl rfl) k0
  clear hA0 hval0 hsz0 hval
  obtain ⟨k, h⟩ := Pure.FnSafe l0 hm0 hg0
  refine (PFnSafe.laws_FnSafe.calls k A0 c0 l0 W hr0 hc0 h).mono fun e W' ⟨he, bel0⟩ => ?_
  have bel : Below W.heap.size W W' := bel0
  subst he
  exact ⟨_, rfl, _, _, _, [], _, [], hW', trodAll_mk1 (shut_bool Try.underlying4 _), (trodAll_cons_mk (Below.trod laidOut (by kernel_rfl) (of_decide_eq_true (by kernel_rfl)) k0 bel lt0) trodAll_mk0), rfl, bel.frame _, fun h => by cases h⟩
theorem fWf : Rows.fnSafeRow.wf (OpenSpec.ofChange Rows.fnSafeSpec) = true := by kernel_rfl
theorem fPar : Try.f7.params.all (Try.prog.readableRec ·) = true := by kernel_rfl
theorem fTie : namedTie Try.prog Rows.fnSafeRow.named Rows.fnSafeSpec.vars = true := by kernel_rfl
theorem fPlace : (Rows.fnSafeRow.inPlace == Try.prog.inPlace 7) = true := by kernel_rfl
theorem fUnf : (Rows.fnSafeRow.unfollowed == Try.prog.unfollowed 7) = true := by kernel_rfl
theorem fRec : (Rows.fnSafeRow.recurses == Try.prog.recurses 7) = true := by kernel_rfl
theorem fNamed : (Rows.fnSafeRow.named == Try.prog.varsNamed 7) = true := by kernel_rfl
theorem fMaps : (Rows.fnSafeRow.maps == (Try.f7.params.toList ++ Rows.fnSafeSpec.plain.varTypes Try.prog).any (Try.prog.mapsRec ·)) = true := by kernel_rfl
theorem fIfs : (Rows.fnSafeRow.ifaces == (Try.f7.params.toList ++ Rows.fnSafeSpec.plain.varTypes Try.prog).any (Try.prog.ifacesRec ·)) = true := by kernel_rfl
theorem fPin : (Rows.fnSafeRow.pinned == Rows.fnSafeRow.pinnedBy) = true := by kernel_rfl
theorem fName : Try.prog.funcNamed Rows.fnSafeRow.func = some 7 := by kernel_rfl
theorem closed : joinedFacts Try.prog 7 Try.f7 Rows.fnSafeSpec Rows.fnSafeRow = true := by
  unfold joinedFacts
  repeat' (with_reducible refine Hd.band ?_ ?_)
  · exact fWf
  · exact Hd.laidOut
  · exact Hd.mapsRowed
  · exact fPar
  · exact fTie
  · as_aux_lemma => kernel_rfl
  · exact Hd.beqt Hd.stops
  · as_aux_lemma => kernel_rfl
  · exact Hd.beqt Hd.stopKnobs
  · exact fPlace
  · exact fUnf
  · exact fRec
  · exact fNamed
  · exact fMaps
  · exact fIfs
  · as_aux_lemma => kernel_rfl
  · as_aux_lemma => kernel_rfl
  · as_aux_lemma => kernel_rfl
  · as_aux_lemma => kernel_rfl
  · as_aux_lemma => kernel_rfl
  · as_aux_lemma => kernel_rfl
  · as_aux_lemma => kernel_rfl
  · exact Hd.beqt (show Rows.fnSafeRow.plainKeys = Try.prog.plainKeys from Hd.plainKeys.symm)
  · as_aux_lemma => kernel_rfl
  · exact Hd.stopsHeard
  · exact Hd.mayEnter
  · exact Hd.beqt (show Rows.fnSafeRow.lifted = Try.prog.liftsFinal from Hd.liftsFinal.symm)
  · exact Hd.beqt (show Try.prog.make = some Rows.fnSafeRow.make from Hd.make)
  · as_aux_lemma => kernel_rfl
  · exact fPin
  · as_aux_lemma => kernel_rfl
  · as_aux_lemma => kernel_rfl
theorem over : Rows.fnSafeRow.holds Try.pinned (OpenSpec.ofChange Rows.fnSafeSpec) :=
  OpenClaim.holds_of_wide 7 Try.f7 rfl rfl rfl rfl rfl rfl rfl ⟨rfl, rfl, rfl, rfl, rfl⟩ rfl rfl rfl rfl rfl fName Try.func7 closed
    (of_decide_eq_true (by kernel_rfl)) (by unfold Func.isWrapper; first | (rw [if_pos (by decide +kernel)]; kernel_rfl) | (rw [if_neg (by decide +kernel)]; exact ⟨rfl, rfl⟩))
    (fun os started H enc _ => lifted os started H enc)
#print axioms over
end Go.Proofs.Ythibhcohcbgdpaa.fnSafe
namespace Go.Proofs.Ythibhcohcbgdpaa
/-- The row, under a short name, for the claim. -/
theorem fnSafe_holds : Rows.FnSafeSaid := fnSafe.over
end Go.Proofs.Ythibhcohcbgdpaa
