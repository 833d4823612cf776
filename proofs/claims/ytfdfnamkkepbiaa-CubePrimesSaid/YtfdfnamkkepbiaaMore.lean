/-
  Small lemmas on worlds.
-/
import Derived.Test.YtfdfnamkkepbiaaAwake
import Derived.Test.YtfdfnamkkepbiaaLaw
namespace Go.Proofs.Ytfdfnamkkepbiaa
open Go.RowKit
theorem alc (w : World) (o : Obj) {b j : Nat} (h : b < w.heap.size) : (w.alloc o).cell? ⟨b, j, none⟩ = w.cell? ⟨b, j, none⟩ := World.cell?_alloc_lt w o _ h
theorem Below.from_later {w W : World} (h : Below w.heap.size w W) {W2 : World} (h2 : Below W.heap.size W W2) : Below w.heap.size w W2 := h.trans (h2.mono h.size)
end Go.Proofs.Ytfdfnamkkepbiaa
