/- Part 2 of 36 of the proof of bookAbbr_holds. What it holds was printed or written for this claim, text by text, and merged. -/
import Derived.Test.YtmgnnplcnmhbaaaGreatDoorZ1
import Derived.Below
import Derived.WalkSmall
import Derived.Sort.Grow
import Derived.Lib.LaidTab
import Derived.KernelRfl
section
namespace Go.Proofs.YtmgnnplcnmhbaaaGreatDoor.PT
open Go.RowKit
structure LaidT (w : World) : Prop where
  most : ∃ m : Int, w.cell? ⟨0, 0, none⟩ = some (.int .i64 m)
  pow : Lib.TabIs Tryz.prog w "internal/strconv.uint64pow10" .u64 Lib.pow10Tab
theorem LaidT.powN : Tryz.prog.globalNamed "internal/strconv.uint64pow10" = some 7 := by kernel_rfl
theorem LaidT.lt {w : World} (h : LaidT w) : 7 < w.heap.size :=
  World.block_lt_of_cell? w _ (h.pow.cell LaidT.powN 0 (by decide))
theorem LaidT.sub {w w' : World} (h : LaidT w) (hb : Below w.heap.size w w') : LaidT w' := by
  obtain ⟨m, hm⟩ := h.most
  exact ⟨⟨m, (hb.cell (World.block_lt_of_cell? w _ hm)).trans hm⟩, var?_below hb LaidT.powN h.lt h.pow⟩
theorem ba_size (a : Array UInt8) : (ByteArray.mk a).size = a.size := rfl
theorem below_drewN {w : World} (n : Nat) : Below w.heap.size w (w.drewN n) := ⟨rfl, rfl, rfl, Nat.le_refl _, fun _ _ => rfl⟩
theorem below_grow_drewN {w : World} (n : Nat) (os : Array Obj) : Below w.heap.size w (Go.Sort.grow (w.drewN n) os) :=
  ⟨rfl, rfl, rfl, by rw [Go.Sort.size_grow]; exact Nat.le_add_right _ _, fun k hk => Go.Sort.heap_grow_old (w.drewN n) os hk⟩
end Go.Proofs.YtmgnnplcnmhbaaaGreatDoor.PT
end
