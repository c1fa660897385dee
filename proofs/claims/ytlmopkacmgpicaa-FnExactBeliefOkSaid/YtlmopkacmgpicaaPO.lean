/-
  FROM AN ARGUMENT'S READING TO THE KIND'S READING: for whole numbers, bools, strings, slices of what is told, structs of two, three and four fields.
-/
import Derived.Test.YtlmopkacmgpicaaWWords
import Derived.Test.YtlmopkacmgpicaaWMore
import Derived.ChangeArms
import Derived.ChangeSlices
import Derived.Deep.Slices
namespace Go.Proofs.Ytlmopkacmgpicaa.PO
open Go.RowKit Go.ChangeShapes Go.WideShapes Go.Proofs.YtlmopkacmgpicaaW.PrintWords Go.Proofs.YtlmopkacmgpicaaW.PrintMore

structure Opens (P : Program) {α : Type} (d : Kd α) (t : TypeId) (G : α → Prop) : Prop where
  sz : P.cellsOf t = d.sz
  read : ∀ {H : Type} {enc : TypeId × Value → H} {W : World} {fuel : Nat} {cs : List Value} {x : DataW H × List MemPlace},
    DataW.trod enc P W 0 (fun _ => true) true fuel t cs = some x → ∃ a, d.K W a cs ∧ G a

variable {P : Program} {t e : TypeId}

theorem opens_int {k : IntKind} (ht : P.underlying t = some (.int k)) (hc : P.cellsOf t = 1) : Opens P (Kd.int k) t (fun n => (Lit.int k n).wf = true) :=
  ⟨hc, fun h => by
    obtain ⟨n, rfl, _, hw⟩ := DataW.trod_int ht h
    exact ⟨n, rfl, hw⟩⟩
theorem opens_bool (ht : P.underlying t = some .bool) (hc : P.cellsOf t = 1) : Opens P Kd.bool t (fun _ => True) :=
  ⟨hc, fun h => by
    obtain ⟨n, rfl, _⟩ := DataW.trod_bool ht h
    exact ⟨n, rfl, trivial⟩⟩
theorem opens_string (ht : P.underlying t = some .string) (hc : P.cellsOf t = 1) : Opens P Kd.string t (fun s => s.size ≤ maxLen) :=
  ⟨hc, fun h => by
    obtain ⟨n, rfl, _, hw⟩ := DataW.trod_string ht h
    exact ⟨n, rfl, hw⟩⟩
theorem opens_slice {α : Type} [Inhabited α] {d : Kd α} {G : α → Prop} (hd : Opens P d e G) (ht : P.underlying t = some (.slice e)) (hc : P.cellsOf t = 1) :
    Opens P (Kd.slice e d) t (fun xs => xs.length ≤ maxLen ∧ ∀ x ∈ xs, G x) :=
  ⟨hc, fun {H enc W fuel cs x} h => by
    rcases Deep.open_slice ht h with ⟨rfl, _⟩ | ⟨a, len, cap, m, n, D, Pl, rfl, _, hl, hm, hmm, _, hx⟩
    · exact ⟨[], ⟨none, 0, rfl, Nat.le_refl _, rfl, by simp, fun h => absurd h (Nat.lt_irrefl _)⟩, by simp, by simp⟩
    · obtain ⟨f, hf⟩ := Deep.choose_lt (α := α) (n := len) (p := fun i y => ∃ cs', W.cells? 0 (a.add (i * P.cellsOf e)) (P.cellsOf e) = some cs' ∧ d.K W y cs' ∧ G y) (fun i hi => by
        obtain ⟨cs', h1, h2⟩ := hx i (by rw [hmm]; split <;> omega)
        obtain ⟨y, hy, hg⟩ := hd.read h2
        exact ⟨y, cs', h1, hy, hg⟩)
      have hlen : ((List.range len).map f).length = len := by simp
      have hml : maxLen = 9223372036854775807 := rfl
      refine ⟨(List.range len).map f, ⟨some a, cap, by rw [hlen], by rw [hlen]; exact hl, rfl, by rw [hlen]; omega, fun _ => ⟨a, rfl, fun j p hj => ?_⟩⟩, by rw [hlen]; omega, fun y hy => ?_⟩
      · have hj' : j < len := by have := (List.getElem?_eq_some_iff.1 hj).1; simpa using this
        have hp : f j = p := by simpa [hj'] using hj
        obtain ⟨cs', h1, h2, _⟩ := hf j hj'
        obtain ⟨_, h3, h4⟩ := World.cells?_some h1
        refine ⟨cs', h3.trans hd.sz, hp ▸ h2, fun i u hu => ?_⟩
        have hi : i < P.cellsOf e := by have := (List.getElem?_eq_some_iff.1 hu).1; omega
        have := h4 i hi
        rw [Deep.add_add, hd.sz] at this
        rw [this, hu]
      · obtain ⟨i, hi, rfl⟩ := List.mem_map.1 hy
        obtain ⟨_, _, _, hg⟩ := hf i (by simpa using hi)
        exact hg⟩

theorem field_at {H : Type} {enc : TypeId × Value → H} {W : World} {fuel : Nat} {cs : List Value} {x : DataW H × List MemPlace} {fs : Array Field} (ht : P.underlying t = some (.struct fs))
    (h : DataW.trod enc P W 0 (fun _ => true) true fuel t cs = some x) :
    cs.length = P.cellsOf t ∧ ∀ (i : Nat) (f : Field), fs[i]? = some f → ∃ n y, DataW.trod enc P W 0 (fun _ => true) true n f.type ((cs.drop f.offset).take (P.cellsOf f.type)) = some y := by
  obtain ⟨xs, n, _, _, hl, hn, hf⟩ := DataW.trod_struct ht h
  refine ⟨hl, fun i f hi => ?_⟩
  have hlt : i < xs.length := by rw [hn]; exact (Array.getElem?_eq_some_iff.1 hi).1
  exact ⟨n, _, (hf i f hi).trans (List.getElem?_eq_getElem hlt)⟩

theorem opens_struct2 {α β : Type} {a : Kd α} {b : Kd β} {Ga : α → Prop} {Gb : β → Prop} {f0 f1 : Field} (ht : P.underlying t = some (.struct #[f0, f1])) (ha : Opens P a f0.type Ga) (hb : Opens P b f1.type Gb)
    (h0 : f0.offset = 0) (h1 : f1.offset = a.sz) (hs : P.cellsOf t = a.sz + b.sz) : Opens P (Kd.pair a b) t (fun x => Ga x.1 ∧ Gb x.2) :=
  ⟨hs, fun {H enc W fuel cs x} h => by
    obtain ⟨hl, hf⟩ := field_at ht h
    obtain ⟨_, _, e0⟩ := hf 0 f0 rfl
    obtain ⟨_, _, e1⟩ := hf 1 f1 rfl
    obtain ⟨x0, k0, g0⟩ := ha.read e0
    obtain ⟨x1, k1, g1⟩ := hb.read e1
    rw [h0, ha.sz] at k0
    rw [h1, hb.sz] at k1
    refine ⟨(x0, x1), ⟨_, _, ?_, k0, k1⟩, g0, g1⟩
    rw [List.drop_zero, List.take_of_length_le (l := cs.drop a.sz) (by rw [List.length_drop]; omega), List.take_append_drop]⟩
theorem opens_struct3 {α β γ : Type} {a : Kd α} {b : Kd β} {c : Kd γ} {Ga : α → Prop} {Gb : β → Prop} {Gc : γ → Prop} {f0 f1 f2 : Field} (ht : P.underlying t = some (.struct #[f0, f1, f2])) (ha : Opens P a f0.type Ga) (hb : Opens P b f1.type Gb) (hc : Opens P c f2.type Gc)
    (h0 : f0.offset = 0) (h1 : f1.offset = a.sz) (h2 : f2.offset = a.sz + b.sz) (hs : P.cellsOf t = a.sz + (b.sz + c.sz)) : Opens P (Kd.pair a (Kd.pair b c)) t (fun x => Ga x.1 ∧ Gb x.2.1 ∧ Gc x.2.2) :=
  ⟨hs, fun {H enc W fuel cs x} h => by
    obtain ⟨hl, hf⟩ := field_at ht h
    obtain ⟨_, _, e0⟩ := hf 0 f0 rfl
    obtain ⟨_, _, e1⟩ := hf 1 f1 rfl
    obtain ⟨_, _, e2⟩ := hf 2 f2 rfl
    obtain ⟨x0, k0, g0⟩ := ha.read e0
    obtain ⟨x1, k1, g1⟩ := hb.read e1
    obtain ⟨x2, k2, g2⟩ := hc.read e2
    rw [h0, ha.sz] at k0
    rw [h1, hb.sz] at k1
    rw [h2, hc.sz] at k2
    refine ⟨(x0, x1, x2), ⟨_, _, ?_, k0, _, _, rfl, k1, k2⟩, g0, g1, g2⟩
    rw [List.drop_zero, ← List.drop_drop, List.take_of_length_le (l := (cs.drop a.sz).drop b.sz) (by rw [List.length_drop, List.length_drop]; omega), List.take_append_drop, List.take_append_drop]⟩
theorem opens_struct4 {α β γ δ : Type} {a : Kd α} {b : Kd β} {c : Kd γ} {d : Kd δ} {Ga : α → Prop} {Gb : β → Prop} {Gc : γ → Prop} {Gd : δ → Prop} {f0 f1 f2 f3 : Field} (ht : P.underlying t = some (.struct #[f0, f1, f2, f3]))
    (ha : Opens P a f0.type Ga) (hb : Opens P b f1.type Gb) (hc : Opens P c f2.type Gc) (hd : Opens P d f3.type Gd)
    (h0 : f0.offset = 0) (h1 : f1.offset = a.sz) (h2 : f2.offset = a.sz + b.sz) (h3 : f3.offset = a.sz + b.sz + c.sz) (hs : P.cellsOf t = a.sz + (b.sz + (c.sz + d.sz))) :
    Opens P (Kd.pair a (Kd.pair b (Kd.pair c d))) t (fun x => Ga x.1 ∧ Gb x.2.1 ∧ Gc x.2.2.1 ∧ Gd x.2.2.2) :=
  ⟨hs, fun {H enc W fuel cs x} h => by
    obtain ⟨hl, hf⟩ := field_at ht h
    obtain ⟨_, _, e0⟩ := hf 0 f0 rfl
    obtain ⟨_, _, e1⟩ := hf 1 f1 rfl
    obtain ⟨_, _, e2⟩ := hf 2 f2 rfl
    obtain ⟨_, _, e3⟩ := hf 3 f3 rfl
    obtain ⟨x0, k0, g0⟩ := ha.read e0
    obtain ⟨x1, k1, g1⟩ := hb.read e1
    obtain ⟨x2, k2, g2⟩ := hc.read e2
    obtain ⟨x3, k3, g3⟩ := hd.read e3
    rw [h0, ha.sz] at k0
    rw [h1, hb.sz] at k1
    rw [h2, hc.sz] at k2
    rw [h3, hd.sz] at k3
    refine ⟨(x0, x1, x2, x3), ⟨_, _, ?_, k0, _, _, rfl, k1, _, _, rfl, k2, k3⟩, g0, g1, g2, g3⟩
    rw [List.drop_zero, ← List.drop_drop, ← List.drop_drop, ← List.drop_drop, List.take_of_length_le (l := ((cs.drop a.sz).drop b.sz).drop c.sz) (by rw [List.length_drop, List.length_drop, List.length_drop]; omega), List.take_append_drop, List.take_append_drop, List.take_append_drop]⟩
theorem opens_iso {α β : Type} {d : Kd α} {G : α → Prop} {f : β → α} {g : α → β} (h : Opens P d t G) (hfg : ∀ x, f (g x) = x) : Opens P (Kd.iso d f) t (fun y => G (f y)) :=
  ⟨h.sz, fun {H enc W fuel cs x} hx => by
    obtain ⟨a, ha, hg⟩ := h.read hx
    exact ⟨g a, by show d.K W (f (g a)) cs; rw [hfg]; exact ha, by rw [hfg]; exact hg⟩⟩
/-- An argument that is one cell: its slice. -/
theorem arg_slice {α : Type} [Inhabited α] {d : Kd α} {G : α → Prop} {H : Type} {enc : TypeId × Value → H} {W : World} {r : Reach} {b0 : Nat} {v : Value} {x : DataW H} {ps : List MemPlace} (hd : Opens P d e G) (ht : P.underlying t = some (.slice e)) (hc : P.cellsOf t = 1)
    (hval : Value.okWide P W r b0 t v) (h : DataW.Trod enc P W 0 (fun _ => true) true t v x ps) :
    ∃ A c xs, v = .slice A xs.length c ∧ xs.length ≤ c ∧ d.C W A xs.length xs ∧ xs.length ≤ maxLen ∧ ∀ y ∈ xs, G y := by
  obtain ⟨a, l, c, rfl⟩ := okWide_slice ht hval
  obtain ⟨fuel, hf⟩ := h
  obtain ⟨xs, ⟨A, c', he, hl, hC⟩, hg, hG⟩ := (opens_slice hd ht hc).read hf
  simp [Value.cells] at he
  obtain ⟨rfl, rfl, rfl⟩ := he
  exact ⟨a, c, xs, rfl, hl, hC, hg, hG⟩
/-- An argument that is a struct: its cells. -/
theorem arg_struct {α : Type} {d : Kd α} {G : α → Prop} {H : Type} {enc : TypeId × Value → H} {W : World} {r : Reach} {b0 : Nat} {v : Value} {x : DataW H} {ps : List MemPlace} {fs : Array Field} (hd : Opens P d t G) (ht : P.underlying t = some (.struct fs))
    (hval : Value.okWide P W r b0 t v) (h : DataW.Trod enc P W 0 (fun _ => true) true t v x ps) :
    ∃ cs y, v = .agg cs ∧ d.K W y cs.toList ∧ G y := by
  simp only [Value.okWide, ht] at hval
  obtain ⟨cs, rfl, _, _⟩ := hval
  obtain ⟨fuel, hf⟩ := h
  obtain ⟨y, hK, hG⟩ := hd.read hf
  exact ⟨cs, y, rfl, hK, hG⟩
end Go.Proofs.Ytlmopkacmgpicaa.PO
