-- joined by wip/tools/shake.py
import Derived.Test.YtkmmoheeoblmnaaGreatDoorVWeTK
import Derived.Test.YtkmmoheeoblmnaaGreatDoorVWeTShelf
import Derived.Shelf.Strconv.Itoa3
import Derived.ChangeVars
import Derived.LaidLaws
import Derived.Stop.LaidErr
namespace Go.Proofs.YtkmmoheeoblmnaaGreatDoor.A
open Go.RowKit Go.Proofs.YtkmmoheeoblmnaaGreatDoorW.PrintWords Go.Proofs.YtkmmoheeoblmnaaGreatDoorW.PrintLast Go.Proofs.YtkmmoheeoblmnaaGreatDoorW.PrintMore
set_option linter.unusedVariables false
structure LibOk (w : World) : Prop where
 maxLen : ∃ m : Int, w.cell? ⟨0, 0, none⟩ = some (.int .i64 m)
 pow10 : Lib.TabIs Tryz.prog w "internal/strconv.uint64pow10" .u64 Lib.pow10Tab
theorem tabIs_below {w w' : World} (h : Lib.TabIs Tryz.prog w "internal/strconv.uint64pow10" .u64 Lib.pow10Tab) (hb : Below w.heap.size w w') : Lib.TabIs Tryz.prog w' "internal/strconv.uint64pow10" .u64 Lib.pow10Tab := by
 have hg : Tryz.prog.globalNamed "internal/strconv.uint64pow10" = some 5 := by kernel_rfl
 unfold Lib.TabIs World.var? at h ⊢
 simp only [hg, Option.bind_some] at h ⊢
 have hlt : 5 < w.heap.size := by
  by_cases hc : 5 < w.heap.size
  ·exact hc
  ·rw [Array.getElem?_eq_none (by omega)] at h; simp at h
 rw [hb.block 5 hlt]
 exact h
theorem LibOk.below {w w' : World} (h : LibOk w) (hb : Below w.heap.size w w') : LibOk w' :=
 ⟨by obtain ⟨m, hm⟩ := h.maxLen; exact ⟨m, (hb.cell (World.block_lt_of_cell? w _ hm)).trans hm⟩, tabIs_below h.pow10 hb⟩
structure LibErr (w : World) : Prop where
 errSyntax : ∃ ev : Value, w.cell? ⟨1, 0, none⟩ = some ev ∧ (ev = .nilIface ∨ ∃ te pe, ev = .iface te pe)
theorem LibErr.below {w w' : World} (h : LibErr w) (hb : Below w.heap.size w w') : LibErr w' :=
 ⟨by obtain ⟨m, hm, hx⟩ := h.errSyntax; exact ⟨m, (hb.cell (World.block_lt_of_cell? w _ hm)).trans hm, hx⟩⟩
theorem errRow (u : TypeId) (h : Tryz.prog.typeName? 3 u = some "*errors.errorString") : u = 182 :=
 typeName_ptr_named (nm := "errors.errorString") (by kernel_rfl) (by kernel_rfl) (by decide) u h
theorem LibErr.laid {text : List UInt8} {rest : List (String × DataW Unit)} {W : World} (h : laidMet Tryz.prog (("strconv.ErrSyntax", .iface "*errors.errorString" (.ptr (.agg [.lit (.string text)]))) :: rest) W) : LibErr W := by
 have hg : Tryz.prog.globalNamed "strconv.ErrSyntax" = some 1 := by kernel_rfl
 obtain ⟨a, s, hv, _⟩ := laid_sentinel h hg (show (Tryz.prog.globals[1]?).map (·.type) = some 73 by kernel_rfl) Tryz.underlying73 errRow Tryz.underlying182 Tryz.underlying184 rfl rfl Tryz.underlying9 (by kernel_rfl) (by kernel_rfl)
 exact ⟨_, World.var?_cell hg hv 0, .inr ⟨_, _, rfl⟩⟩
end Go.Proofs.YtkmmoheeoblmnaaGreatDoor.A
