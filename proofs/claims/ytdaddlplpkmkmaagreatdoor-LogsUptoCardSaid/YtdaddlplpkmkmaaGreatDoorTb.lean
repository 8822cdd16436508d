/- What the library's functions read of the package-level variables, as one fact of a world; it lasts while what lies below does. -/
import Derived.Test.YtdaddlplpkmkmaaGreatDoorProg
import Derived.Lib.LaidTab
import Derived.Lib.ItoaNum
import Derived.Below
namespace Go.Proofs.YtdaddlplpkmkmaaGreatDoor.P
open Go.RowKit
structure Tb (w : World) : Prop where
  pow : Lib.TabIs Tryz.prog w "internal/strconv.uint64pow10" .u64 Lib.pow10Tab
  syn : ∃ tp p, w.cell? ⟨3, 0, none⟩ = some (.iface tp p)
  rng : ∃ tp p, w.cell? ⟨4, 0, none⟩ = some (.iface tp p)
  most : ∃ m, w.cell? ⟨2, 0, none⟩ = some (.int .i64 m)
theorem tb_lt {w : World} {a : Addr} {v : Value} (h : w.cell? a = some v) : a.block < w.heap.size := World.block_lt_of_cell? w _ h
theorem Tb.below {w w' : World} (h : Tb w) (hb : Below w.heap.size w w') : Tb w' := by
  obtain ⟨h1, ⟨t2, p2, h2⟩, ⟨t3, p3, h3⟩, m4, h4⟩ := h
  refine ⟨?_, ⟨t2, p2, (hb.cell (tb_lt h2)).trans h2⟩, ⟨t3, p3, (hb.cell (tb_lt h3)).trans h3⟩, m4, (hb.cell (tb_lt h4)).trans h4⟩
  have hg : Tryz.prog.globalNamed "internal/strconv.uint64pow10" = some 5 := by kernel_rfl
  have hc := h1.cell hg 0 (by decide)
  have hlt : 5 < w.heap.size := tb_lt hc
  unfold Lib.TabIs World.var? at h1 ⊢
  rw [hg] at h1 ⊢
  simp only [Option.bind_some] at h1 ⊢
  rw [hb.block _ hlt]
  exact h1
end Go.Proofs.YtdaddlplpkmkmaaGreatDoor.P
