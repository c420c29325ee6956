-- joined by wip/tools/shake.py
import Derived.Test.YtkmmoheeoblmnaaDoorVXaTK
import Derived.Test.YtkmmoheeoblmnaaDoorVXaTShelf
import Derived.Shelf.Strconv.Itoa3
import Derived.ChangeVars
import Derived.LaidLaws
import Derived.Stop.LaidErr
namespace Go.Proofs.YtkmmoheeoblmnaaDoor.A
open Go.RowKit Go.Proofs.YtkmmoheeoblmnaaDoorW.PrintWords Go.Proofs.YtkmmoheeoblmnaaDoorW.PrintLast Go.Proofs.YtkmmoheeoblmnaaDoorW.PrintMore
set_option linter.unusedVariables false
structure LibOk (w : World) : Prop where
  maxLen : ∃ m : Int, w.cell? ⟨1, 0, none⟩ = some (.int .i64 m)
  pow10 : Lib.TabIs Tryd.prog w "internal/strconv.uint64pow10" .u64 Lib.pow10Tab
theorem tabIs_below {w w' : World} (h : Lib.TabIs Tryd.prog w "internal/strconv.uint64pow10" .u64 Lib.pow10Tab) (hb : Below w.heap.size w w') : Lib.TabIs Tryd.prog w' "internal/strconv.uint64pow10" .u64 Lib.pow10Tab := by
  have hg : Tryd.prog.globalNamed "internal/strconv.uint64pow10" = some 0 := by kernel_rfl
  unfold Lib.TabIs World.var? at h ⊢
  simp only [hg, Option.bind_some] at h ⊢
  have hlt : 0 < w.heap.size := by
    by_cases hc : 0 < w.heap.size
    · exact hc
    · rw [Array.getElem?_eq_none (by omega)] at h; simp at h
  rw [hb.block 0 hlt]
  exact h
theorem LibOk.below {w w' : World} (h : LibOk w) (hb : Below w.heap.size w w') : LibOk w' :=
  ⟨by obtain ⟨m, hm⟩ := h.maxLen; exact ⟨m, (hb.cell (World.block_lt_of_cell? w _ hm)).trans hm⟩, tabIs_below h.pow10 hb⟩
structure LibErr (w : World) : Prop where
  errSyntax : ∃ ev : Value, w.cell? ⟨2, 0, none⟩ = some ev ∧ (ev = .nilIface ∨ ∃ te pe, ev = .iface te pe)
theorem LibErr.below {w w' : World} (h : LibErr w) (hb : Below w.heap.size w w') : LibErr w' :=
  ⟨by obtain ⟨m, hm, hx⟩ := h.errSyntax; exact ⟨m, (hb.cell (World.block_lt_of_cell? w _ hm)).trans hm, hx⟩⟩
theorem errRow (u : TypeId) (h : Tryd.prog.typeName? 3 u = some "*errors.errorString") : u = 134 :=
  typeName_ptr_named (nm := "errors.errorString") (by kernel_rfl) (by kernel_rfl) (by decide) u h
theorem LibErr.laid {text : List UInt8} {rest : List (String × DataW Unit)} {W : World} (h : laidMet Tryd.prog (("strconv.ErrSyntax", .iface "*errors.errorString" (.ptr (.agg [.lit (.string text)]))) :: rest) W) : LibErr W := by
  have hg : Tryd.prog.globalNamed "strconv.ErrSyntax" = some 2 := by kernel_rfl
  obtain ⟨a, s, hv, _⟩ := laid_sentinel h hg (show (Tryd.prog.globals[2]?).map (·.type) = some 58 by kernel_rfl) Tryd.underlying58 errRow Tryd.underlying134 Tryd.underlying136 rfl rfl Tryd.underlying9 (by kernel_rfl) (by kernel_rfl)
  exact ⟨_, World.var?_cell hg hv 0, .inr ⟨_, _, rfl⟩⟩
end Go.Proofs.YtkmmoheeoblmnaaDoor.A
