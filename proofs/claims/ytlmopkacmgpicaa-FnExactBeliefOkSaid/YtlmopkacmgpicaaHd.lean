/-
  What every row of this seat asks of the program's head word: read once, sign by sign; and the other facts that are alike for all rows.
-/
import Derived.Test.YtlmopkacmgpicaaChecked
import Derived.JoinedOf
import Derived.KernelRfl
set_option maxRecDepth 100000
namespace Go.Proofs.Ytlmopkacmgpicaa.Hd
open Go
theorem io0 : Try.prog.initOrder = "harness 6379cfd00c7a1817aa03fc4bceda9be83f3446ede647f7c78b27964bd40c6e1e cut at loop.example/g00945/laws.FnExactBeliefOk" := by kernel_rfl
theorem io1 : "harness 6379cfd00c7a1817aa03fc4bceda9be83f3446ede647f7c78b27964bd40c6e1e cut at loop.example/g00945/laws.FnExactBeliefOk" = String.ofList [Char.ofNat 104, Char.ofNat 97, Char.ofNat 114, Char.ofNat 110, Char.ofNat 101, Char.ofNat 115, Char.ofNat 115, Char.ofNat 32, Char.ofNat 54, Char.ofNat 51, Char.ofNat 55, Char.ofNat 57, Char.ofNat 99, Char.ofNat 102, Char.ofNat 100, Char.ofNat 48, Char.ofNat 48, Char.ofNat 99, Char.ofNat 55, Char.ofNat 97, Char.ofNat 49, Char.ofNat 56, Char.ofNat 49, Char.ofNat 55, Char.ofNat 97, Char.ofNat 97, Char.ofNat 48, Char.ofNat 51, Char.ofNat 102, Char.ofNat 99, Char.ofNat 52, Char.ofNat 98, Char.ofNat 99, Char.ofNat 101, Char.ofNat 100, Char.ofNat 97, Char.ofNat 57, Char.ofNat 98, Char.ofNat 101, Char.ofNat 56, Char.ofNat 51, Char.ofNat 102, Char.ofNat 51, Char.ofNat 52, Char.ofNat 52, Char.ofNat 54, Char.ofNat 101, Char.ofNat 100, Char.ofNat 101, Char.ofNat 54, Char.ofNat 52, Char.ofNat 55, Char.ofNat 102, Char.ofNat 55, Char.ofNat 99, Char.ofNat 55, Char.ofNat 56, Char.ofNat 98, Char.ofNat 50, Char.ofNat 55, Char.ofNat 57, Char.ofNat 54, Char.ofNat 52, Char.ofNat 98, Char.ofNat 100, Char.ofNat 52, Char.ofNat 48, Char.ofNat 99, Char.ofNat 54, Char.ofNat 101, Char.ofNat 49, Char.ofNat 101, Char.ofNat 32, Char.ofNat 99, Char.ofNat 117, Char.ofNat 116, Char.ofNat 32, Char.ofNat 97, Char.ofNat 116, Char.ofNat 32, Char.ofNat 108, Char.ofNat 111, Char.ofNat 111, Char.ofNat 112, Char.ofNat 46, Char.ofNat 101, Char.ofNat 120, Char.ofNat 97, Char.ofNat 109, Char.ofNat 112, Char.ofNat 108, Char.ofNat 101, Char.ofNat 47, Char.ofNat 103, Char.ofNat 48, Char.ofNat 48, Char.ofNat 57, Char.ofNat 52, Char.ofNat 53, Char.ofNat 47, Char.ofNat 108, Char.ofNat 97, Char.ofNat 119, Char.ofNat 115, Char.ofNat 46, Char.ofNat 70, Char.ofNat 110, Char.ofNat 69, Char.ofNat 120, Char.ofNat 97, Char.ofNat 99, Char.ofNat 116, Char.ofNat 66, Char.ofNat 101, Char.ofNat 108, Char.ofNat 105, Char.ofNat 101, Char.ofNat 102, Char.ofNat 79, Char.ofNat 107] := by kernel_rfl
theorem io : Try.prog.initOrder = String.ofList [Char.ofNat 104, Char.ofNat 97, Char.ofNat 114, Char.ofNat 110, Char.ofNat 101, Char.ofNat 115, Char.ofNat 115, Char.ofNat 32, Char.ofNat 54, Char.ofNat 51, Char.ofNat 55, Char.ofNat 57, Char.ofNat 99, Char.ofNat 102, Char.ofNat 100, Char.ofNat 48, Char.ofNat 48, Char.ofNat 99, Char.ofNat 55, Char.ofNat 97, Char.ofNat 49, Char.ofNat 56, Char.ofNat 49, Char.ofNat 55, Char.ofNat 97, Char.ofNat 97, Char.ofNat 48, Char.ofNat 51, Char.ofNat 102, Char.ofNat 99, Char.ofNat 52, Char.ofNat 98, Char.ofNat 99, Char.ofNat 101, Char.ofNat 100, Char.ofNat 97, Char.ofNat 57, Char.ofNat 98, Char.ofNat 101, Char.ofNat 56, Char.ofNat 51, Char.ofNat 102, Char.ofNat 51, Char.ofNat 52, Char.ofNat 52, Char.ofNat 54, Char.ofNat 101, Char.ofNat 100, Char.ofNat 101, Char.ofNat 54, Char.ofNat 52, Char.ofNat 55, Char.ofNat 102, Char.ofNat 55, Char.ofNat 99, Char.ofNat 55, Char.ofNat 56, Char.ofNat 98, Char.ofNat 50, Char.ofNat 55, Char.ofNat 57, Char.ofNat 54, Char.ofNat 52, Char.ofNat 98, Char.ofNat 100, Char.ofNat 52, Char.ofNat 48, Char.ofNat 99, Char.ofNat 54, Char.ofNat 101, Char.ofNat 49, Char.ofNat 101, Char.ofNat 32, Char.ofNat 99, Char.ofNat 117, Char.ofNat 116, Char.ofNat 32, Char.ofNat 97, Char.ofNat 116, Char.ofNat 32, Char.ofNat 108, Char.ofNat 111, Char.ofNat 111, Char.ofNat 112, Char.ofNat 46, Char.ofNat 101, Char.ofNat 120, Char.ofNat 97, Char.ofNat 109, Char.ofNat 112, Char.ofNat 108, Char.ofNat 101, Char.ofNat 47, Char.ofNat 103, Char.ofNat 48, Char.ofNat 48, Char.ofNat 57, Char.ofNat 52, Char.ofNat 53, Char.ofNat 47, Char.ofNat 108, Char.ofNat 97, Char.ofNat 119, Char.ofNat 115, Char.ofNat 46, Char.ofNat 70, Char.ofNat 110, Char.ofNat 69, Char.ofNat 120, Char.ofNat 97, Char.ofNat 99, Char.ofNat 116, Char.ofNat 66, Char.ofNat 101, Char.ofNat 108, Char.ofNat 105, Char.ofNat 101, Char.ofNat 102, Char.ofNat 79, Char.ofNat 107] := io0.trans io1
theorem ws : behindMainWord (wordsSigns Try.prog.initOrder.toList) = [[Char.ofNat 99, Char.ofNat 117, Char.ofNat 116], [Char.ofNat 97, Char.ofNat 116], [Char.ofNat 108, Char.ofNat 111, Char.ofNat 111, Char.ofNat 112, Char.ofNat 46, Char.ofNat 101, Char.ofNat 120, Char.ofNat 97, Char.ofNat 109, Char.ofNat 112, Char.ofNat 108, Char.ofNat 101, Char.ofNat 47, Char.ofNat 103, Char.ofNat 48, Char.ofNat 48, Char.ofNat 57, Char.ofNat 52, Char.ofNat 53, Char.ofNat 47, Char.ofNat 108, Char.ofNat 97, Char.ofNat 119, Char.ofNat 115, Char.ofNat 46, Char.ofNat 70, Char.ofNat 110, Char.ofNat 69, Char.ofNat 120, Char.ofNat 97, Char.ofNat 99, Char.ofNat 116, Char.ofNat 66, Char.ofNat 101, Char.ofNat 108, Char.ofNat 105, Char.ofNat 101, Char.ofNat 102, Char.ofNat 79, Char.ofNat 107]] := by
  rw [io, String.toList_ofList]; kernel_rfl
theorem mayEnter_of {P : Program} {c : List Char} {rest : List (List Char)} (h : behindMainWord (wordsSigns P.initOrder.toList) = c :: rest) (hw : stripLifts liftWords (c :: rest) = ([], c :: rest)) (h0 : c = "cut".toList)
    (h1 : P.laysLater = false) (h2 : P.bearsReflect = false) (h3 : P.doorFits [] = true) : P.mayEnter = true := by
  unfold Program.mayEnter
  rw [h]
  simp only [hw, h1, h2, h3]
  subst h0
  simp
theorem make_of {P : Program} {c : List Char} {rest : List (List Char)} (h : behindMainWord (wordsSigns P.initOrder.toList) = c :: rest) (h0 : c = "cut".toList) : P.make = some .cut := by
  unfold Program.make
  rw [h]
  subst h0
  exact (if_neg (by decide +kernel)).trans (if_pos (by simp))
theorem strip : stripLifts liftWords [[Char.ofNat 99, Char.ofNat 117, Char.ofNat 116], [Char.ofNat 97, Char.ofNat 116], [Char.ofNat 108, Char.ofNat 111, Char.ofNat 111, Char.ofNat 112, Char.ofNat 46, Char.ofNat 101, Char.ofNat 120, Char.ofNat 97, Char.ofNat 109, Char.ofNat 112, Char.ofNat 108, Char.ofNat 101, Char.ofNat 47, Char.ofNat 103, Char.ofNat 48, Char.ofNat 48, Char.ofNat 57, Char.ofNat 52, Char.ofNat 53, Char.ofNat 47, Char.ofNat 108, Char.ofNat 97, Char.ofNat 119, Char.ofNat 115, Char.ofNat 46, Char.ofNat 70, Char.ofNat 110, Char.ofNat 69, Char.ofNat 120, Char.ofNat 97, Char.ofNat 99, Char.ofNat 116, Char.ofNat 66, Char.ofNat 101, Char.ofNat 108, Char.ofNat 105, Char.ofNat 101, Char.ofNat 102, Char.ofNat 79, Char.ofNat 107]] = ([], [[Char.ofNat 99, Char.ofNat 117, Char.ofNat 116], [Char.ofNat 97, Char.ofNat 116], [Char.ofNat 108, Char.ofNat 111, Char.ofNat 111, Char.ofNat 112, Char.ofNat 46, Char.ofNat 101, Char.ofNat 120, Char.ofNat 97, Char.ofNat 109, Char.ofNat 112, Char.ofNat 108, Char.ofNat 101, Char.ofNat 47, Char.ofNat 103, Char.ofNat 48, Char.ofNat 48, Char.ofNat 57, Char.ofNat 52, Char.ofNat 53, Char.ofNat 47, Char.ofNat 108, Char.ofNat 97, Char.ofNat 119, Char.ofNat 115, Char.ofNat 46, Char.ofNat 70, Char.ofNat 110, Char.ofNat 69, Char.ofNat 120, Char.ofNat 97, Char.ofNat 99, Char.ofNat 116, Char.ofNat 66, Char.ofNat 101, Char.ofNat 108, Char.ofNat 105, Char.ofNat 101, Char.ofNat 102, Char.ofNat 79, Char.ofNat 107]]) := by kernel_rfl
theorem cutw : [Char.ofNat 99, Char.ofNat 117, Char.ofNat 116] = "cut".toList := by kernel_rfl
theorem laysLater : Try.prog.laysLater = false := by kernel_rfl
theorem bearsReflect : Try.prog.bearsReflect = false := by kernel_rfl
theorem doorFits : Try.prog.doorFits [] = true := by kernel_rfl
theorem mayEnter : Try.prog.mayEnter = true := mayEnter_of ws strip cutw laysLater bearsReflect doorFits
theorem liftsFinal_of {P : Program} {c : List Char} {rest : List (List Char)} (h : behindMainWord (wordsSigns P.initOrder.toList) = c :: rest) (hw : stripLifts liftWords (c :: rest) = ([], c :: rest)) (h0 : c = "cut".toList) : P.liftsFinal = false := by
  unfold Program.liftsFinal Program.headLifts
  simp only [h, hw]
  subst h0
  simp
theorem liftsFinal : Try.prog.liftsFinal = false := liftsFinal_of ws strip cutw
theorem make : Try.prog.make = some .cut := make_of ws cutw
theorem laidOut : laidOutB Try.prog = true := by kernel_rfl
theorem mapsRowed : mapsRowed Try.prog = true := by kernel_rfl
theorem stops : Try.prog.stops = [] := by kernel_rfl
theorem stopKnobs : Try.prog.stopKnobs = [] := by kernel_rfl
theorem plainKeys : Try.prog.plainKeys = true := by kernel_rfl
theorem stopsHeard : Try.prog.stopsHeard = true := by kernel_rfl
theorem own : ownKnob Try.prog.godebug = none := by kernel_rfl
theorem band {a b : Bool} (ha : a = true) (hb : b = true) : (a && b) = true := by rw [ha, hb]; rfl
theorem beqt {α : Type} [BEq α] [LawfulBEq α] {a b : α} (h : a = b) : (a == b) = true := by rw [h]; exact beq_self_eq_true b
end Go.Proofs.Ytlmopkacmgpicaa.Hd
