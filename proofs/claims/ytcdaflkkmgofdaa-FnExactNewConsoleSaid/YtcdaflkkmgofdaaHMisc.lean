/-
  SMALL LEMMAS ON CELLS: a cell that is stored into twice.
-/
import Derived.Test.YtcdaflkkmgofdaaWWords
namespace Go.Proofs.Ytcdaflkkmgofdaa.H
open Go.RowKit
theorem set_twice (w : World) (b o : Nat) (u v : Value) : (w.setCell ⟨b, o, none⟩ u).setCell ⟨b, o, none⟩ v = w.setCell ⟨b, o, none⟩ v := by
  unfold World.setCell
  simp only
  congr 1
  apply Array.ext
  · simp
  · intro i h1 h2
    simp only [Array.getElem_modify]
    split
    · rename_i hb
      cases w.heap[i]'(by simpa using h2) <;> simp
    · rfl
end Go.Proofs.Ytcdaflkkmgofdaa.H
