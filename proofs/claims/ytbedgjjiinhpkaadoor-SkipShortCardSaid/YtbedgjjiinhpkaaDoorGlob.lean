/-
  The package-level tables that the code reads: what a world must hold of them, and that it goes on holding it.
-/
import Derived.Test.YtbedgjjiinhpkaaDoorPBase
import Derived.Lib.TrailingZeros
set_option linter.unusedVariables false
set_option linter.unusedSimpArgs false
namespace Go.Proofs.YtbedgjjiinhpkaaDoor.P
open Go.RowKit Go.Proofs.YtbedgjjiinhpkaaDoorW.PrintWords Go.Proofs.YtbedgjjiinhpkaaDoorW.PrintLast Go.Proofs.YtbedgjjiinhpkaaDoorW.PrintMore

/-- math/bits.deBruijn64tab stands as its text lays it. -/
def GlobT (w : World) : Prop := ∀ j, j < 64 → w.cell? ⟨1, j, none⟩ = some (.int .u8 (Lib.deBruijn64tab.getD j 0))

theorem GlobT.of {w0 w : World} (h : GlobT w0) (hb : Below w0.heap.size w0 w) : GlobT w :=
  fun j hj => (hb.cell (World.block_lt_of_cell? w0 _ (h j hj))).trans (h j hj)
theorem GlobT.alloc {w : World} (h : GlobT w) (o : Obj) : GlobT (w.alloc o) := h.of (below_alloc (Below.refl _ _) o)
theorem GlobT.drew {w : World} (h : GlobT w) : GlobT w.drew := h
theorem GlobT.drewN {w : World} (h : GlobT w) (n : Nat) : GlobT (w.drewN n) := h.of (pw_below_drewN (Below.refl _ _) n)
theorem GlobT.drawn {w w' : World} (h : GlobT w) (hd : Drawn0 w w') : GlobT w' := h.of hd.below

/-- sha.first, sha.added stand as their texts lay them. -/
def shaFirst : List Int := [1779033703, 3144134277, 1013904242, 2773480762, 1359893119, 2600822924, 528734635, 1541459225]
def shaAdded : List Int := [1116352408, 1899447441, 3049323471, 3921009573, 961987163, 1508970993, 2453635748, 2870763221, 3624381080, 310598401, 607225278, 1426881987, 1925078388, 2162078206, 2614888103, 3248222580, 3835390401, 4022224774, 264347078, 604807628, 770255983, 1249150122, 1555081692, 1996064986, 2554220882, 2821834349, 2952996808, 3210313671, 3336571891, 3584528711, 113926993, 338241895, 666307205, 773529912, 1294757372, 1396182291, 1695183700, 1986661051, 2177026350, 2456956037, 2730485921, 2820302411, 3259730800, 3345764771, 3516065817, 3600352804, 4094571909, 275423344, 430227734, 506948616, 659060556, 883997877, 958139571, 1322822218, 1537002063, 1747873779, 1955562222, 2024104815, 2227730452, 2361852424, 2428436474, 2756734187, 3204031479, 3329325298]
def GlobS (w : World) : Prop := (∀ j, j < 8 → w.cell? ⟨2, j, none⟩ = some (.int .u32 (shaFirst.getD j 0))) ∧ (∀ j, j < 64 → w.cell? ⟨4, j, none⟩ = some (.int .u32 (shaAdded.getD j 0)))
theorem GlobS.of {w0 w : World} (h : GlobS w0) (hb : Below w0.heap.size w0 w) : GlobS w :=
  ⟨fun j hj => (hb.cell (World.block_lt_of_cell? w0 _ (h.1 j hj))).trans (h.1 j hj), fun j hj => (hb.cell (World.block_lt_of_cell? w0 _ (h.2 j hj))).trans (h.2 j hj)⟩
theorem GlobS.alloc {w : World} (h : GlobS w) (o : Obj) : GlobS (w.alloc o) := h.of (below_alloc (Below.refl _ _) o)
theorem GlobS.drew {w : World} (h : GlobS w) : GlobS w.drew := h
theorem GlobS.drewN {w : World} (h : GlobS w) (n : Nat) : GlobS (w.drewN n) := h.of (pw_below_drewN (Below.refl _ _) n)
theorem GlobS.drawn {w w' : World} (h : GlobS w) (hd : Drawn0 w w') : GlobS w' := h.of hd.below

end Go.Proofs.YtbedgjjiinhpkaaDoor.P
