-- joined by wip/tools/shake.py
import Derived.Test.YtlocaaebgghkbaaMTree0
import Derived.Test.YtlocaaebgghkbaaMTree2
namespace Go.Proofs.Ytlocaaebgghkbaa.A
open Go.RowKit Go.Proofs.YtlocaaebgghkbaaW.PrintWords Go.Proofs.YtlocaaebgghkbaaW.PrintLast Go.Proofs.YtlocaaebgghkbaaW.PrintMore
attribute [local go_sem] max2_int min2_int max_two min_two max_three min_three max_four min_four   -- for this text's walks alone
set_option linter.unusedVariables false
set_option linter.unusedSimpArgs false
def impl_itemOk.f (k : Nat) (a0_0 : Int) (a0_1 : Int) (a0_2 : ByteArray) (l0_3 : List (S53)) (a0_4 : ByteArray) (a0_5 : Int) (l0_6 : List Int) : Option (Bool) := if a0_0 = 2 then (if a0_4.toList = ([] : List UInt8) then (if a0_2.toList = ([] : List UInt8) then (some false) else ((impl_inRange.f a0_1 0 2).bind fun t545 => (if t545 = true then ((impl_namesOnce.f k l0_3).bind fun t546 => (some t546)) else (some false)))) else (some false)) else (if a0_0 = 3 then (if a0_2.toList = ([] : List UInt8) then (if a0_1 = 0 then (if (l0_3.length : Int) = 0 then (some ((l0_6.length : Int) == 0)) else (some false)) else (some false)) else (some false)) else (if a0_0 = 4 then (if a0_2.toList = ([] : List UInt8) then (if a0_1 = 0 then (if (l0_3.length : Int) = 0 then (some ((l0_6.length : Int) == 0)) else (some false)) else (some false)) else (some false)) else (if a0_0 = 5 then (if a0_2.toList = ([] : List UInt8) then (if a0_1 = 0 then (if (l0_3.length : Int) = 0 then (some ((l0_6.length : Int) == 0)) else (some false)) else (some false)) else (some false)) else (some false))))
theorem impl_itemOk.mono : ∀ a0 a1 a2 a3 a4 a5 a6 k, LeO (impl_itemOk.f k a0 a1 a2 a3 a4 a5 a6) (impl_itemOk.f (k + 1) a0 a1 a2 a3 a4 a5 a6) := by
 intro a0 a1 a2 a3 a4 a5 a6 k
 unfold impl_itemOk.f
 repeat' first
   | (with_reducible exact impl_namesOnce.mono _ _)
   | (with_reducible exact LeO.refl _)
   | (with_reducible exact LeO.none _)
   | (with_reducible refine LeO.ite ?_ ?_)
   | (with_reducible refine LeO.bind ?_ (fun _ => ?_))
   | exact impl_namesOnce.mono _ _
   | exact LeO.none _
   | refine LeO.ite ?_ ?_
   | refine LeO.bind ?_ (fun _ => ?_)
set_option maxHeartbeats 8000000 in
set_option maxRecDepth 100000 in
theorem impl_itemOk.calls (k : Nat) (a0_0 : Int) (a0_1 : Int) (a0_2 : ByteArray) (A0_3 : Option Addr) (c0_3 : Nat) (l0_3 : List (S53)) (a0_4 : ByteArray) (a0_5 : Int) (A0_6 : Option Addr) (c0_6 : Nat) (l0_6 : List Int) (r : Bool) (w : World) (hr0_3 : Kd.C k53 w A0_3 l0_3.length l0_3) (hc0_3 : l0_3.length ≤ c0_3) (hr0_6 : Kd.C (Kd.int .i64) w A0_6 l0_6.length l0_6) (hc0_6 : l0_6.length ≤ c0_6) (h : impl_itemOk.f k a0_0 a0_1 a0_2 l0_3 a0_4 a0_5 l0_6 = some r) :
  Calls Try.prog 110 #[.agg #[.int .i64 a0_0, .int .i64 a0_1, .string a0_2, .slice A0_3 l0_3.length c0_3, .string a0_4, .int .i64 a0_5, .slice A0_6 l0_6.length c0_6]] w fun e w' => e = .returned (.bool r) ∧ Below w.heap.size w w' := by
 have hu89 := Try.underlying89
 have HR0_3 := Aside0.mk hr0_3
 have HC0_3 := Aside0.mk hc0_3
 clear hr0_3 hc0_3
 have HR0_6 := Aside0.mk hr0_6
 have HC0_6 := Aside0.mk hc0_6
 clear hr0_6 hc0_6
 have HB := Aside0.mk (Below.refl w.heap.size w)
 have H : (if a0_0 = 2 then (if a0_4.toList = ([] : List UInt8) then (if a0_2.toList = ([] : List UInt8) then (some false) else ((impl_inRange.f a0_1 0 2).bind fun t545 => (if t545 = true then ((impl_namesOnce.f k l0_3).bind fun t546 => (some t546)) else (some false)))) else (some false)) else (if a0_0 = 3 then (if a0_2.toList = ([] : List UInt8) then (if a0_1 = 0 then (if (l0_3.length : Int) = 0 then (some ((l0_6.length : Int) == 0)) else (some false)) else (some false)) else (some false)) else (if a0_0 = 4 then (if a0_2.toList = ([] : List UInt8) then (if a0_1 = 0 then (if (l0_3.length : Int) = 0 then (some ((l0_6.length : Int) == 0)) else (some false)) else (some false)) else (some false)) else (if a0_0 = 5 then (if a0_2.toList = ([] : List UInt8) then (if a0_1 = 0 then (if (l0_3.length : Int) = 0 then (some ((l0_6.length : Int) == 0)) else (some false)) else (some false)) else (some false)) else (some false))))) = some r := h
 clear h
 by_cases c2 : a0_0 = 2
 ·rw [if_pos c2] at H
  have c2b0 : (a0_0 == 2) = true := beq_iff_eq.mpr c2
  have c2b1 : (a0_0 != 2) = false := bne_eq_false_iff_eq.mpr c2
  clear c2
  by_cases c3 : a0_4.toList = ([] : List UInt8)
  ·rw [if_pos c3] at H
   have c3b0 : (a0_4.toList == ([] : List UInt8)) = true := beq_iff_eq.mpr c3
   have c3b1 : (a0_4.toList != ([] : List UInt8)) = false := bne_eq_false_iff_eq.mpr c3
   clear c3
   by_cases c4 : a0_2.toList = ([] : List UInt8)
   ·rw [if_pos c4] at H
    have c4b0 : (a0_2.toList == ([] : List UInt8)) = true := beq_iff_eq.mpr c4
    have c4b1 : (a0_2.toList != ([] : List UInt8)) = false := bne_eq_false_iff_eq.mpr c4
    clear c4
    obtain rfl := Option.some.inj H
    go_enter Try.func110, Try.ntmps110
    go_wp2_with (first | ((with_reducible refine gate_dst (N := 1) rfl ?_); (try (refine gate_guard (by rfl) ?_; dsimp only)); refine box_event ?hg (N := 1) ?hd (cs := #[.int .i64 a0_0, .int .i64 a0_1, .string a0_2, .slice A0_3 l0_3.length c0_3, .string a0_4, .int .i64 a0_5, .slice A0_6 l0_6.length c0_6]) (t := 89) ?hr ?_; (case hd => rfl); (case hg => rfl); (case hr => first | (go_simp; done) | (go_simp; rfl)); intro gb544 hg w5 hbox hb; have n0_ := Aside0.mk (below_step (by repeat (first | (with_reducible first | exact HB.out | apply below_alloc | apply pw_below_drewN | apply below_drew1) | exact HB.out)) hb); have n1_ := Aside0.mk (hbox); have n2_ := Aside0.mk ((by rw [hg]; exact (below_size (by repeat (first | (with_reducible first | exact HB.out | apply below_alloc | apply pw_below_drewN | apply below_drew1) | exact HB.out))) : w.heap.size ≤ gb544)); have n3_ := Aside0.mk ((by rw [hg]; exact (below_size (by repeat (first | (with_reducible first | exact HB.out | apply below_alloc | apply pw_below_drewN | apply below_drew1) | exact HB.out))) : w.heap.size ≤ gb544)); clear HB; have HB := n0_; have BK544 := n1_; have GW544 := n2_; have GE544 := n3_; clear n0_ n1_ n2_ n3_; clear hb hbox hg; have hcz6_0 : w5.cell? ⟨gb544, 0, none⟩ = some (.int .i64 a0_0) := (blk_cell BK544.out 0).trans rfl; have hcz6_1 : w5.cell? ⟨gb544, 1, none⟩ = some (.int .i64 a0_1) := (blk_cell BK544.out 1).trans rfl; have hcz6_2 : w5.cell? ⟨gb544, 2, none⟩ = some (.string a0_2) := (blk_cell BK544.out 2).trans rfl; have hcz6_3 : w5.cell? ⟨gb544, 3, none⟩ = some (.slice A0_3 l0_3.length c0_3) := (blk_cell BK544.out 3).trans rfl; have hcz6_4 : w5.cell? ⟨gb544, 4, none⟩ = some (.string a0_4) := (blk_cell BK544.out 4).trans rfl; have hcz6_5 : w5.cell? ⟨gb544, 5, none⟩ = some (.int .i64 a0_5) := (blk_cell BK544.out 5).trans rfl; have hcz6_6 : w5.cell? ⟨gb544, 6, none⟩ = some (.slice A0_6 l0_6.length c0_6) := (blk_cell BK544.out 6).trans rfl; have hfz6_0 := blk_frozen BK544.out 0; have hfz6_1 := blk_frozen BK544.out 1; have hfz6_2 := blk_frozen BK544.out 2; have hfz6_3 := blk_frozen BK544.out 3; have hfz6_4 := blk_frozen BK544.out 4; have hfz6_5 := blk_frozen BK544.out 5; have hfz6_6 := blk_frozen BK544.out 6))
    go_ret
    exact ⟨by first | rfl | (simp [errW_none, errW_some] <;> rfl) | (simp [*, errW_none, errW_some] <;> rfl), by repeat (first | (with_reducible first | exact HB.out | apply below_alloc | apply pw_below_drewN | apply below_drew1 | refine below_set ?_ GE544.out) | exact HB.out)⟩
   ·rw [if_neg c4] at H
    have c4b0 : (a0_2.toList == ([] : List UInt8)) = false := beq_eq_false_iff_ne.mpr c4
    have c4b1 : (a0_2.toList != ([] : List UInt8)) = true := bne_iff_ne.mpr c4
    replace H := Option.bind_eq_some_iff.mp H
    obtain ⟨t545, A70, H⟩ := H
    replace H : (if t545 = true then ((impl_namesOnce.f k l0_3).bind fun t546 => (some t546)) else (some false)) = some r := H
    have A7 := Aside0.mk A70
    clear A70
    by_cases c8 : t545 = true
    ·subst c8
     have H1 : ((impl_namesOnce.f k l0_3).bind fun t546 => (some t546)) = some r := by rw [if_pos rfl] at H; exact H
     clear H
     have H := H1
     clear H1
     replace H := Option.bind_eq_some_iff.mp H
     obtain ⟨t546, A90, H⟩ := H
     replace H : (some t546) = some r := H
     have A9 := Aside0.mk A90
     clear A90
     obtain rfl := Option.some.inj H
     go_enter Try.func110, Try.ntmps110
     go_wp2_with (first | ((with_reducible refine gate_dst (N := 1) rfl ?_); (try (refine gate_guard (by rfl) ?_; dsimp only)); refine box_event ?hg (N := 1) ?hd (cs := #[.int .i64 a0_0, .int .i64 a0_1, .string a0_2, .slice A0_3 l0_3.length c0_3, .string a0_4, .int .i64 a0_5, .slice A0_6 l0_6.length c0_6]) (t := 89) ?hr ?_; (case hd => rfl); (case hg => rfl); (case hr => first | (go_simp; done) | (go_simp; rfl)); intro gb544 hg w10 hbox hb; have n0_ := Aside0.mk (below_step (by repeat (first | (with_reducible first | exact HB.out | apply below_alloc | apply pw_below_drewN | apply below_drew1) | exact HB.out)) hb); have n1_ := Aside0.mk (hbox); have n2_ := Aside0.mk ((by rw [hg]; exact (below_size (by repeat (first | (with_reducible first | exact HB.out | apply below_alloc | apply pw_below_drewN | apply below_drew1) | exact HB.out))) : w.heap.size ≤ gb544)); have n3_ := Aside0.mk ((by rw [hg]; exact (below_size (by repeat (first | (with_reducible first | exact HB.out | apply below_alloc | apply pw_below_drewN | apply below_drew1) | exact HB.out))) : w.heap.size ≤ gb544)); clear HB; have HB := n0_; have BK544 := n1_; have GW544 := n2_; have GE544 := n3_; clear n0_ n1_ n2_ n3_; clear hb hbox hg; have hcz11_0 : w10.cell? ⟨gb544, 0, none⟩ = some (.int .i64 a0_0) := (blk_cell BK544.out 0).trans rfl; have hcz11_1 : w10.cell? ⟨gb544, 1, none⟩ = some (.int .i64 a0_1) := (blk_cell BK544.out 1).trans rfl; have hcz11_2 : w10.cell? ⟨gb544, 2, none⟩ = some (.string a0_2) := (blk_cell BK544.out 2).trans rfl; have hcz11_3 : w10.cell? ⟨gb544, 3, none⟩ = some (.slice A0_3 l0_3.length c0_3) := (blk_cell BK544.out 3).trans rfl; have hcz11_4 : w10.cell? ⟨gb544, 4, none⟩ = some (.string a0_4) := (blk_cell BK544.out 4).trans rfl; have hcz11_5 : w10.cell? ⟨gb544, 5, none⟩ = some (.int .i64 a0_5) := (blk_cell BK544.out 5).trans rfl; have hcz11_6 : w10.cell? ⟨gb544, 6, none⟩ = some (.slice A0_6 l0_6.length c0_6) := (blk_cell BK544.out 6).trans rfl; have hfz11_0 := blk_frozen BK544.out 0; have hfz11_1 := blk_frozen BK544.out 1; have hfz11_2 := blk_frozen BK544.out 2; have hfz11_3 := blk_frozen BK544.out 3; have hfz11_4 := blk_frozen BK544.out 4; have hfz11_5 := blk_frozen BK544.out 5; have hfz11_6 := blk_frozen BK544.out 6) | (go_at_call 48; (with_reducible refine (impl_inRange.calls a0_1 0 2 true _ A7.out).mono ?_); rintro e w' ⟨rfl, ⟨nd, rfl⟩⟩) | (go_at_call 149; (with_reducible refine (impl_namesOnce.calls k _ _ l0_3 t546 _ ?side1 ?side2 A9.out).mono ?_); (case side1 => repeat (first | exact (Kd.C_below HR0_3.out (by repeat (first | (with_reducible first | exact HB.out | apply below_alloc | apply pw_below_drewN | apply below_drew1 | refine below_set ?_ GE544.out) | exact HB.out))) | (with_reducible refine Kd.C_alloc ?_ _) | (with_reducible refine Kd.C_drewN ?_ _) | (with_reducible refine Kd.C_drew ?_))); (case side2 => exact HC0_3.out); rintro e w12 ⟨rfl, hb⟩; have n0_ := Aside0.mk (blk_below (g := gb544) (o := .cells #[.int .i64 a0_0, .int .i64 a0_1, .string a0_2, .slice A0_3 l0_3.length c0_3, .string a0_4, .int .i64 a0_5, .slice A0_6 l0_6.length c0_6] 89 (0, 0)) (by (with_reducible repeat (first | refine blk_drewN ?_ _ | refine blk_drew ?_ | refine blk_alloc ?_ _)); exact BK544.out) hb); have n1_ := Aside0.mk (below_step (by repeat (first | (with_reducible first | exact HB.out | apply below_alloc | apply pw_below_drewN | apply below_drew1 | refine below_set ?_ GE544.out) | exact HB.out)) hb); clear BK544; clear HB; have BK544 := n0_; have HB := n1_; clear n0_ n1_; (try clear hb); (try clear hb2); (try clear hk); (try clear hi)))
     go_ret
     exact ⟨by first | rfl | (simp [errW_none, errW_some] <;> rfl) | (simp [*, errW_none, errW_some] <;> rfl), by repeat (first | (with_reducible first | exact HB.out | apply below_alloc | apply pw_below_drewN | apply below_drew1 | refine below_set ?_ GE544.out) | exact HB.out)⟩
    ·replace c8 := Bool.eq_false_iff.mpr c8
     subst c8
     have H1 : (some false) = some r := by rw [if_neg (show ¬ (false = true) by decide)] at H; exact H
     clear H
     have H := H1
     clear H1
     obtain rfl := Option.some.inj H
     go_enter Try.func110, Try.ntmps110
     go_wp2_with (first | ((with_reducible refine gate_dst (N := 1) rfl ?_); (try (refine gate_guard (by rfl) ?_; dsimp only)); refine box_event ?hg (N := 1) ?hd (cs := #[.int .i64 a0_0, .int .i64 a0_1, .string a0_2, .slice A0_3 l0_3.length c0_3, .string a0_4, .int .i64 a0_5, .slice A0_6 l0_6.length c0_6]) (t := 89) ?hr ?_; (case hd => rfl); (case hg => rfl); (case hr => first | (go_simp; done) | (go_simp; rfl)); intro gb544 hg w13 hbox hb; have n0_ := Aside0.mk (below_step (by repeat (first | (with_reducible first | exact HB.out | apply below_alloc | apply pw_below_drewN | apply below_drew1) | exact HB.out)) hb); have n1_ := Aside0.mk (hbox); have n2_ := Aside0.mk ((by rw [hg]; exact (below_size (by repeat (first | (with_reducible first | exact HB.out | apply below_alloc | apply pw_below_drewN | apply below_drew1) | exact HB.out))) : w.heap.size ≤ gb544)); have n3_ := Aside0.mk ((by rw [hg]; exact (below_size (by repeat (first | (with_reducible first | exact HB.out | apply below_alloc | apply pw_below_drewN | apply below_drew1) | exact HB.out))) : w.heap.size ≤ gb544)); clear HB; have HB := n0_; have BK544 := n1_; have GW544 := n2_; have GE544 := n3_; clear n0_ n1_ n2_ n3_; clear hb hbox hg; have hcz14_0 : w13.cell? ⟨gb544, 0, none⟩ = some (.int .i64 a0_0) := (blk_cell BK544.out 0).trans rfl; have hcz14_1 : w13.cell? ⟨gb544, 1, none⟩ = some (.int .i64 a0_1) := (blk_cell BK544.out 1).trans rfl; have hcz14_2 : w13.cell? ⟨gb544, 2, none⟩ = some (.string a0_2) := (blk_cell BK544.out 2).trans rfl; have hcz14_3 : w13.cell? ⟨gb544, 3, none⟩ = some (.slice A0_3 l0_3.length c0_3) := (blk_cell BK544.out 3).trans rfl; have hcz14_4 : w13.cell? ⟨gb544, 4, none⟩ = some (.string a0_4) := (blk_cell BK544.out 4).trans rfl; have hcz14_5 : w13.cell? ⟨gb544, 5, none⟩ = some (.int .i64 a0_5) := (blk_cell BK544.out 5).trans rfl; have hcz14_6 : w13.cell? ⟨gb544, 6, none⟩ = some (.slice A0_6 l0_6.length c0_6) := (blk_cell BK544.out 6).trans rfl; have hfz14_0 := blk_frozen BK544.out 0; have hfz14_1 := blk_frozen BK544.out 1; have hfz14_2 := blk_frozen BK544.out 2; have hfz14_3 := blk_frozen BK544.out 3; have hfz14_4 := blk_frozen BK544.out 4; have hfz14_5 := blk_frozen BK544.out 5; have hfz14_6 := blk_frozen BK544.out 6) | (go_at_call 48; (with_reducible refine (impl_inRange.calls a0_1 0 2 false _ A7.out).mono ?_); rintro e w' ⟨rfl, ⟨nd, rfl⟩⟩))
     go_ret
     exact ⟨by first | rfl | (simp [errW_none, errW_some] <;> rfl) | (simp [*, errW_none, errW_some] <;> rfl), by repeat (first | (with_reducible first | exact HB.out | apply below_alloc | apply pw_below_drewN | apply below_drew1 | refine below_set ?_ GE544.out) | exact HB.out)⟩
  ·rw [if_neg c3] at H
   have c3b0 : (a0_4.toList == ([] : List UInt8)) = false := beq_eq_false_iff_ne.mpr c3
   have c3b1 : (a0_4.toList != ([] : List UInt8)) = true := bne_iff_ne.mpr c3
   obtain rfl := Option.some.inj H
   go_enter Try.func110, Try.ntmps110
   go_wp2_with (first | ((with_reducible refine gate_dst (N := 1) rfl ?_); (try (refine gate_guard (by rfl) ?_; dsimp only)); refine box_event ?hg (N := 1) ?hd (cs := #[.int .i64 a0_0, .int .i64 a0_1, .string a0_2, .slice A0_3 l0_3.length c0_3, .string a0_4, .int .i64 a0_5, .slice A0_6 l0_6.length c0_6]) (t := 89) ?hr ?_; (case hd => rfl); (case hg => rfl); (case hr => first | (go_simp; done) | (go_simp; rfl)); intro gb544 hg w15 hbox hb; have n0_ := Aside0.mk (below_step (by repeat (first | (with_reducible first | exact HB.out | apply below_alloc | apply pw_below_drewN | apply below_drew1) | exact HB.out)) hb); have n1_ := Aside0.mk (hbox); have n2_ := Aside0.mk ((by rw [hg]; exact (below_size (by repeat (first | (with_reducible first | exact HB.out | apply below_alloc | apply pw_below_drewN | apply below_drew1) | exact HB.out))) : w.heap.size ≤ gb544)); have n3_ := Aside0.mk ((by rw [hg]; exact (below_size (by repeat (first | (with_reducible first | exact HB.out | apply below_alloc | apply pw_below_drewN | apply below_drew1) | exact HB.out))) : w.heap.size ≤ gb544)); clear HB; have HB := n0_; have BK544 := n1_; have GW544 := n2_; have GE544 := n3_; clear n0_ n1_ n2_ n3_; clear hb hbox hg; have hcz16_0 : w15.cell? ⟨gb544, 0, none⟩ = some (.int .i64 a0_0) := (blk_cell BK544.out 0).trans rfl; have hcz16_1 : w15.cell? ⟨gb544, 1, none⟩ = some (.int .i64 a0_1) := (blk_cell BK544.out 1).trans rfl; have hcz16_2 : w15.cell? ⟨gb544, 2, none⟩ = some (.string a0_2) := (blk_cell BK544.out 2).trans rfl; have hcz16_3 : w15.cell? ⟨gb544, 3, none⟩ = some (.slice A0_3 l0_3.length c0_3) := (blk_cell BK544.out 3).trans rfl; have hcz16_4 : w15.cell? ⟨gb544, 4, none⟩ = some (.string a0_4) := (blk_cell BK544.out 4).trans rfl; have hcz16_5 : w15.cell? ⟨gb544, 5, none⟩ = some (.int .i64 a0_5) := (blk_cell BK544.out 5).trans rfl; have hcz16_6 : w15.cell? ⟨gb544, 6, none⟩ = some (.slice A0_6 l0_6.length c0_6) := (blk_cell BK544.out 6).trans rfl; have hfz16_0 := blk_frozen BK544.out 0; have hfz16_1 := blk_frozen BK544.out 1; have hfz16_2 := blk_frozen BK544.out 2; have hfz16_3 := blk_frozen BK544.out 3; have hfz16_4 := blk_frozen BK544.out 4; have hfz16_5 := blk_frozen BK544.out 5; have hfz16_6 := blk_frozen BK544.out 6))
   go_ret
   exact ⟨by first | rfl | (simp [errW_none, errW_some] <;> rfl) | (simp [*, errW_none, errW_some] <;> rfl), by repeat (first | (with_reducible first | exact HB.out | apply below_alloc | apply pw_below_drewN | apply below_drew1 | refine below_set ?_ GE544.out) | exact HB.out)⟩
 ·rw [if_neg c2] at H
  have c2b0 : (a0_0 == 2) = false := beq_eq_false_iff_ne.mpr c2
  have c2b1 : (a0_0 != 2) = true := bne_iff_ne.mpr c2
  by_cases c17 : a0_0 = 3
  ·rw [if_pos c17] at H
   have c17b0 : (a0_0 == 3) = true := beq_iff_eq.mpr c17
   have c17b1 : (a0_0 != 3) = false := bne_eq_false_iff_eq.mpr c17
   clear c17
   by_cases c18 : a0_2.toList = ([] : List UInt8)
   ·rw [if_pos c18] at H
    have c18b0 : (a0_2.toList == ([] : List UInt8)) = true := beq_iff_eq.mpr c18
    have c18b1 : (a0_2.toList != ([] : List UInt8)) = false := bne_eq_false_iff_eq.mpr c18
    clear c18
    by_cases c19 : a0_1 = 0
    ·rw [if_pos c19] at H
     have c19b0 : (a0_1 == 0) = true := beq_iff_eq.mpr c19
     have c19b1 : (a0_1 != 0) = false := bne_eq_false_iff_eq.mpr c19
     clear c19
     by_cases c20 : (l0_3.length : Int) = 0
     ·rw [if_pos c20] at H
      have c20b0 : ((l0_3.length : Int) == 0) = true := beq_iff_eq.mpr c20
      have c20b1 : ((l0_3.length : Int) != 0) = false := bne_eq_false_iff_eq.mpr c20
      clear c20
      obtain rfl := Option.some.inj H
      go_enter Try.func110, Try.ntmps110
      go_wp2_with (first | ((with_reducible refine gate_dst (N := 1) rfl ?_); (try (refine gate_guard (by rfl) ?_; dsimp only)); refine box_event ?hg (N := 1) ?hd (cs := #[.int .i64 a0_0, .int .i64 a0_1, .string a0_2, .slice A0_3 l0_3.length c0_3, .string a0_4, .int .i64 a0_5, .slice A0_6 l0_6.length c0_6]) (t := 89) ?hr ?_; (case hd => rfl); (case hg => rfl); (case hr => first | (go_simp; done) | (go_simp; rfl)); intro gb544 hg w21 hbox hb; have n0_ := Aside0.mk (below_step (by repeat (first | (with_reducible first | exact HB.out | apply below_alloc | apply pw_below_drewN | apply below_drew1) | exact HB.out)) hb); have n1_ := Aside0.mk (hbox); have n2_ := Aside0.mk ((by rw [hg]; exact (below_size (by repeat (first | (with_reducible first | exact HB.out | apply below_alloc | apply pw_below_drewN | apply below_drew1) | exact HB.out))) : w.heap.size ≤ gb544)); have n3_ := Aside0.mk ((by rw [hg]; exact (below_size (by repeat (first | (with_reducible first | exact HB.out | apply below_alloc | apply pw_below_drewN | apply below_drew1) | exact HB.out))) : w.heap.size ≤ gb544)); clear HB; have HB := n0_; have BK544 := n1_; have GW544 := n2_; have GE544 := n3_; clear n0_ n1_ n2_ n3_; clear hb hbox hg; have hcz22_0 : w21.cell? ⟨gb544, 0, none⟩ = some (.int .i64 a0_0) := (blk_cell BK544.out 0).trans rfl; have hcz22_1 : w21.cell? ⟨gb544, 1, none⟩ = some (.int .i64 a0_1) := (blk_cell BK544.out 1).trans rfl; have hcz22_2 : w21.cell? ⟨gb544, 2, none⟩ = some (.string a0_2) := (blk_cell BK544.out 2).trans rfl; have hcz22_3 : w21.cell? ⟨gb544, 3, none⟩ = some (.slice A0_3 l0_3.length c0_3) := (blk_cell BK544.out 3).trans rfl; have hcz22_4 : w21.cell? ⟨gb544, 4, none⟩ = some (.string a0_4) := (blk_cell BK544.out 4).trans rfl; have hcz22_5 : w21.cell? ⟨gb544, 5, none⟩ = some (.int .i64 a0_5) := (blk_cell BK544.out 5).trans rfl; have hcz22_6 : w21.cell? ⟨gb544, 6, none⟩ = some (.slice A0_6 l0_6.length c0_6) := (blk_cell BK544.out 6).trans rfl; have hfz22_0 := blk_frozen BK544.out 0; have hfz22_1 := blk_frozen BK544.out 1; have hfz22_2 := blk_frozen BK544.out 2; have hfz22_3 := blk_frozen BK544.out 3; have hfz22_4 := blk_frozen BK544.out 4; have hfz22_5 := blk_frozen BK544.out 5; have hfz22_6 := blk_frozen BK544.out 6))
      go_ret
      exact ⟨by first | rfl | (simp [errW_none, errW_some] <;> rfl) | (simp [*, errW_none, errW_some] <;> rfl), by repeat (first | (with_reducible first | exact HB.out | apply below_alloc | apply pw_below_drewN | apply below_drew1 | refine below_set ?_ GE544.out) | exact HB.out)⟩
     ·rw [if_neg c20] at H
      have c20b0 : ((l0_3.length : Int) == 0) = false := beq_eq_false_iff_ne.mpr c20
      have c20b1 : ((l0_3.length : Int) != 0) = true := bne_iff_ne.mpr c20
      have c20b2 : ¬ (l0_3 = []) := fun h_ => c20 (by rw [h_]; rfl)
      obtain rfl := Option.some.inj H
      go_enter Try.func110, Try.ntmps110
      go_wp2_with (first | ((with_reducible refine gate_dst (N := 1) rfl ?_); (try (refine gate_guard (by rfl) ?_; dsimp only)); refine box_event ?hg (N := 1) ?hd (cs := #[.int .i64 a0_0, .int .i64 a0_1, .string a0_2, .slice A0_3 l0_3.length c0_3, .string a0_4, .int .i64 a0_5, .slice A0_6 l0_6.length c0_6]) (t := 89) ?hr ?_; (case hd => rfl); (case hg => rfl); (case hr => first | (go_simp; done) | (go_simp; rfl)); intro gb544 hg w23 hbox hb; have n0_ := Aside0.mk (below_step (by repeat (first | (with_reducible first | exact HB.out | apply below_alloc | apply pw_below_drewN | apply below_drew1) | exact HB.out)) hb); have n1_ := Aside0.mk (hbox); have n2_ := Aside0.mk ((by rw [hg]; exact (below_size (by repeat (first | (with_reducible first | exact HB.out | apply below_alloc | apply pw_below_drewN | apply below_drew1) | exact HB.out))) : w.heap.size ≤ gb544)); have n3_ := Aside0.mk ((by rw [hg]; exact (below_size (by repeat (first | (with_reducible first | exact HB.out | apply below_alloc | apply pw_below_drewN | apply below_drew1) | exact HB.out))) : w.heap.size ≤ gb544)); clear HB; have HB := n0_; have BK544 := n1_; have GW544 := n2_; have GE544 := n3_; clear n0_ n1_ n2_ n3_; clear hb hbox hg; have hcz24_0 : w23.cell? ⟨gb544, 0, none⟩ = some (.int .i64 a0_0) := (blk_cell BK544.out 0).trans rfl; have hcz24_1 : w23.cell? ⟨gb544, 1, none⟩ = some (.int .i64 a0_1) := (blk_cell BK544.out 1).trans rfl; have hcz24_2 : w23.cell? ⟨gb544, 2, none⟩ = some (.string a0_2) := (blk_cell BK544.out 2).trans rfl; have hcz24_3 : w23.cell? ⟨gb544, 3, none⟩ = some (.slice A0_3 l0_3.length c0_3) := (blk_cell BK544.out 3).trans rfl; have hcz24_4 : w23.cell? ⟨gb544, 4, none⟩ = some (.string a0_4) := (blk_cell BK544.out 4).trans rfl; have hcz24_5 : w23.cell? ⟨gb544, 5, none⟩ = some (.int .i64 a0_5) := (blk_cell BK544.out 5).trans rfl; have hcz24_6 : w23.cell? ⟨gb544, 6, none⟩ = some (.slice A0_6 l0_6.length c0_6) := (blk_cell BK544.out 6).trans rfl; have hfz24_0 := blk_frozen BK544.out 0; have hfz24_1 := blk_frozen BK544.out 1; have hfz24_2 := blk_frozen BK544.out 2; have hfz24_3 := blk_frozen BK544.out 3; have hfz24_4 := blk_frozen BK544.out 4; have hfz24_5 := blk_frozen BK544.out 5; have hfz24_6 := blk_frozen BK544.out 6))
      go_ret
      exact ⟨by first | rfl | (simp [errW_none, errW_some] <;> rfl) | (simp [*, errW_none, errW_some] <;> rfl), by repeat (first | (with_reducible first | exact HB.out | apply below_alloc | apply pw_below_drewN | apply below_drew1 | refine below_set ?_ GE544.out) | exact HB.out)⟩
    ·rw [if_neg c19] at H
     have c19b0 : (a0_1 == 0) = false := beq_eq_false_iff_ne.mpr c19
     have c19b1 : (a0_1 != 0) = true := bne_iff_ne.mpr c19
     obtain rfl := Option.some.inj H
     go_enter Try.func110, Try.ntmps110
     go_wp2_with (first | ((with_reducible refine gate_dst (N := 1) rfl ?_); (try (refine gate_guard (by rfl) ?_; dsimp only)); refine box_event ?hg (N := 1) ?hd (cs := #[.int .i64 a0_0, .int .i64 a0_1, .string a0_2, .slice A0_3 l0_3.length c0_3, .string a0_4, .int .i64 a0_5, .slice A0_6 l0_6.length c0_6]) (t := 89) ?hr ?_; (case hd => rfl); (case hg => rfl); (case hr => first | (go_simp; done) | (go_simp; rfl)); intro gb544 hg w25 hbox hb; have n0_ := Aside0.mk (below_step (by repeat (first | (with_reducible first | exact HB.out | apply below_alloc | apply pw_below_drewN | apply below_drew1) | exact HB.out)) hb); have n1_ := Aside0.mk (hbox); have n2_ := Aside0.mk ((by rw [hg]; exact (below_size (by repeat (first | (with_reducible first | exact HB.out | apply below_alloc | apply pw_below_drewN | apply below_drew1) | exact HB.out))) : w.heap.size ≤ gb544)); have n3_ := Aside0.mk ((by rw [hg]; exact (below_size (by repeat (first | (with_reducible first | exact HB.out | apply below_alloc | apply pw_below_drewN | apply below_drew1) | exact HB.out))) : w.heap.size ≤ gb544)); clear HB; have HB := n0_; have BK544 := n1_; have GW544 := n2_; have GE544 := n3_; clear n0_ n1_ n2_ n3_; clear hb hbox hg; have hcz26_0 : w25.cell? ⟨gb544, 0, none⟩ = some (.int .i64 a0_0) := (blk_cell BK544.out 0).trans rfl; have hcz26_1 : w25.cell? ⟨gb544, 1, none⟩ = some (.int .i64 a0_1) := (blk_cell BK544.out 1).trans rfl; have hcz26_2 : w25.cell? ⟨gb544, 2, none⟩ = some (.string a0_2) := (blk_cell BK544.out 2).trans rfl; have hcz26_3 : w25.cell? ⟨gb544, 3, none⟩ = some (.slice A0_3 l0_3.length c0_3) := (blk_cell BK544.out 3).trans rfl; have hcz26_4 : w25.cell? ⟨gb544, 4, none⟩ = some (.string a0_4) := (blk_cell BK544.out 4).trans rfl; have hcz26_5 : w25.cell? ⟨gb544, 5, none⟩ = some (.int .i64 a0_5) := (blk_cell BK544.out 5).trans rfl; have hcz26_6 : w25.cell? ⟨gb544, 6, none⟩ = some (.slice A0_6 l0_6.length c0_6) := (blk_cell BK544.out 6).trans rfl; have hfz26_0 := blk_frozen BK544.out 0; have hfz26_1 := blk_frozen BK544.out 1; have hfz26_2 := blk_frozen BK544.out 2; have hfz26_3 := blk_frozen BK544.out 3; have hfz26_4 := blk_frozen BK544.out 4; have hfz26_5 := blk_frozen BK544.out 5; have hfz26_6 := blk_frozen BK544.out 6))
     go_ret
     exact ⟨by first | rfl | (simp [errW_none, errW_some] <;> rfl) | (simp [*, errW_none, errW_some] <;> rfl), by repeat (first | (with_reducible first | exact HB.out | apply below_alloc | apply pw_below_drewN | apply below_drew1 | refine below_set ?_ GE544.out) | exact HB.out)⟩
   ·rw [if_neg c18] at H
    have c18b0 : (a0_2.toList == ([] : List UInt8)) = false := beq_eq_false_iff_ne.mpr c18
    have c18b1 : (a0_2.toList != ([] : List UInt8)) = true := bne_iff_ne.mpr c18
    obtain rfl := Option.some.inj H
    go_enter Try.func110, Try.ntmps110
    go_wp2_with (first | ((with_reducible refine gate_dst (N := 1) rfl ?_); (try (refine gate_guard (by rfl) ?_; dsimp only)); refine box_event ?hg (N := 1) ?hd (cs := #[.int .i64 a0_0, .int .i64 a0_1, .string a0_2, .slice A0_3 l0_3.length c0_3, .string a0_4, .int .i64 a0_5, .slice A0_6 l0_6.length c0_6]) (t := 89) ?hr ?_; (case hd => rfl); (case hg => rfl); (case hr => first | (go_simp; done) | (go_simp; rfl)); intro gb544 hg w27 hbox hb; have n0_ := Aside0.mk (below_step (by repeat (first | (with_reducible first | exact HB.out | apply below_alloc | apply pw_below_drewN | apply below_drew1) | exact HB.out)) hb); have n1_ := Aside0.mk (hbox); have n2_ := Aside0.mk ((by rw [hg]; exact (below_size (by repeat (first | (with_reducible first | exact HB.out | apply below_alloc | apply pw_below_drewN | apply below_drew1) | exact HB.out))) : w.heap.size ≤ gb544)); have n3_ := Aside0.mk ((by rw [hg]; exact (below_size (by repeat (first | (with_reducible first | exact HB.out | apply below_alloc | apply pw_below_drewN | apply below_drew1) | exact HB.out))) : w.heap.size ≤ gb544)); clear HB; have HB := n0_; have BK544 := n1_; have GW544 := n2_; have GE544 := n3_; clear n0_ n1_ n2_ n3_; clear hb hbox hg; have hcz28_0 : w27.cell? ⟨gb544, 0, none⟩ = some (.int .i64 a0_0) := (blk_cell BK544.out 0).trans rfl; have hcz28_1 : w27.cell? ⟨gb544, 1, none⟩ = some (.int .i64 a0_1) := (blk_cell BK544.out 1).trans rfl; have hcz28_2 : w27.cell? ⟨gb544, 2, none⟩ = some (.string a0_2) := (blk_cell BK544.out 2).trans rfl; have hcz28_3 : w27.cell? ⟨gb544, 3, none⟩ = some (.slice A0_3 l0_3.length c0_3) := (blk_cell BK544.out 3).trans rfl; have hcz28_4 : w27.cell? ⟨gb544, 4, none⟩ = some (.string a0_4) := (blk_cell BK544.out 4).trans rfl; have hcz28_5 : w27.cell? ⟨gb544, 5, none⟩ = some (.int .i64 a0_5) := (blk_cell BK544.out 5).trans rfl; have hcz28_6 : w27.cell? ⟨gb544, 6, none⟩ = some (.slice A0_6 l0_6.length c0_6) := (blk_cell BK544.out 6).trans rfl; have hfz28_0 := blk_frozen BK544.out 0; have hfz28_1 := blk_frozen BK544.out 1; have hfz28_2 := blk_frozen BK544.out 2; have hfz28_3 := blk_frozen BK544.out 3; have hfz28_4 := blk_frozen BK544.out 4; have hfz28_5 := blk_frozen BK544.out 5; have hfz28_6 := blk_frozen BK544.out 6))
    go_ret
    exact ⟨by first | rfl | (simp [errW_none, errW_some] <;> rfl) | (simp [*, errW_none, errW_some] <;> rfl), by repeat (first | (with_reducible first | exact HB.out | apply below_alloc | apply pw_below_drewN | apply below_drew1 | refine below_set ?_ GE544.out) | exact HB.out)⟩
  ·rw [if_neg c17] at H
   have c17b0 : (a0_0 == 3) = false := beq_eq_false_iff_ne.mpr c17
   have c17b1 : (a0_0 != 3) = true := bne_iff_ne.mpr c17
   by_cases c29 : a0_0 = 4
   ·rw [if_pos c29] at H
    have c29b0 : (a0_0 == 4) = true := beq_iff_eq.mpr c29
    have c29b1 : (a0_0 != 4) = false := bne_eq_false_iff_eq.mpr c29
    clear c29
    by_cases c30 : a0_2.toList = ([] : List UInt8)
    ·rw [if_pos c30] at H
     have c30b0 : (a0_2.toList == ([] : List UInt8)) = true := beq_iff_eq.mpr c30
     have c30b1 : (a0_2.toList != ([] : List UInt8)) = false := bne_eq_false_iff_eq.mpr c30
     clear c30
     by_cases c31 : a0_1 = 0
     ·rw [if_pos c31] at H
      have c31b0 : (a0_1 == 0) = true := beq_iff_eq.mpr c31
      have c31b1 : (a0_1 != 0) = false := bne_eq_false_iff_eq.mpr c31
      clear c31
      by_cases c32 : (l0_3.length : Int) = 0
      ·rw [if_pos c32] at H
       have c32b0 : ((l0_3.length : Int) == 0) = true := beq_iff_eq.mpr c32
       have c32b1 : ((l0_3.length : Int) != 0) = false := bne_eq_false_iff_eq.mpr c32
       clear c32
       obtain rfl := Option.some.inj H
       go_enter Try.func110, Try.ntmps110
       go_wp2_with (first | ((with_reducible refine gate_dst (N := 1) rfl ?_); (try (refine gate_guard (by rfl) ?_; dsimp only)); refine box_event ?hg (N := 1) ?hd (cs := #[.int .i64 a0_0, .int .i64 a0_1, .string a0_2, .slice A0_3 l0_3.length c0_3, .string a0_4, .int .i64 a0_5, .slice A0_6 l0_6.length c0_6]) (t := 89) ?hr ?_; (case hd => rfl); (case hg => rfl); (case hr => first | (go_simp; done) | (go_simp; rfl)); intro gb544 hg w33 hbox hb; have n0_ := Aside0.mk (below_step (by repeat (first | (with_reducible first | exact HB.out | apply below_alloc | apply pw_below_drewN | apply below_drew1) | exact HB.out)) hb); have n1_ := Aside0.mk (hbox); have n2_ := Aside0.mk ((by rw [hg]; exact (below_size (by repeat (first | (with_reducible first | exact HB.out | apply below_alloc | apply pw_below_drewN | apply below_drew1) | exact HB.out))) : w.heap.size ≤ gb544)); have n3_ := Aside0.mk ((by rw [hg]; exact (below_size (by repeat (first | (with_reducible first | exact HB.out | apply below_alloc | apply pw_below_drewN | apply below_drew1) | exact HB.out))) : w.heap.size ≤ gb544)); clear HB; have HB := n0_; have BK544 := n1_; have GW544 := n2_; have GE544 := n3_; clear n0_ n1_ n2_ n3_; clear hb hbox hg; have hcz34_0 : w33.cell? ⟨gb544, 0, none⟩ = some (.int .i64 a0_0) := (blk_cell BK544.out 0).trans rfl; have hcz34_1 : w33.cell? ⟨gb544, 1, none⟩ = some (.int .i64 a0_1) := (blk_cell BK544.out 1).trans rfl; have hcz34_2 : w33.cell? ⟨gb544, 2, none⟩ = some (.string a0_2) := (blk_cell BK544.out 2).trans rfl; have hcz34_3 : w33.cell? ⟨gb544, 3, none⟩ = some (.slice A0_3 l0_3.length c0_3) := (blk_cell BK544.out 3).trans rfl; have hcz34_4 : w33.cell? ⟨gb544, 4, none⟩ = some (.string a0_4) := (blk_cell BK544.out 4).trans rfl; have hcz34_5 : w33.cell? ⟨gb544, 5, none⟩ = some (.int .i64 a0_5) := (blk_cell BK544.out 5).trans rfl; have hcz34_6 : w33.cell? ⟨gb544, 6, none⟩ = some (.slice A0_6 l0_6.length c0_6) := (blk_cell BK544.out 6).trans rfl; have hfz34_0 := blk_frozen BK544.out 0; have hfz34_1 := blk_frozen BK544.out 1; have hfz34_2 := blk_frozen BK544.out 2; have hfz34_3 := blk_frozen BK544.out 3; have hfz34_4 := blk_frozen BK544.out 4; have hfz34_5 := blk_frozen BK544.out 5; have hfz34_6 := blk_frozen BK544.out 6))
       go_ret
       exact ⟨by first | rfl | (simp [errW_none, errW_some] <;> rfl) | (simp [*, errW_none, errW_some] <;> rfl), by repeat (first | (with_reducible first | exact HB.out | apply below_alloc | apply pw_below_drewN | apply below_drew1 | refine below_set ?_ GE544.out) | exact HB.out)⟩
      ·rw [if_neg c32] at H
       have c32b0 : ((l0_3.length : Int) == 0) = false := beq_eq_false_iff_ne.mpr c32
       have c32b1 : ((l0_3.length : Int) != 0) = true := bne_iff_ne.mpr c32
       have c32b2 : ¬ (l0_3 = []) := fun h_ => c32 (by rw [h_]; rfl)
       obtain rfl := Option.some.inj H
       go_enter Try.func110, Try.ntmps110
       go_wp2_with (first | ((with_reducible refine gate_dst (N := 1) rfl ?_); (try (refine gate_guard (by rfl) ?_; dsimp only)); refine box_event ?hg (N := 1) ?hd (cs := #[.int .i64 a0_0, .int .i64 a0_1, .string a0_2, .slice A0_3 l0_3.length c0_3, .string a0_4, .int .i64 a0_5, .slice A0_6 l0_6.length c0_6]) (t := 89) ?hr ?_; (case hd => rfl); (case hg => rfl); (case hr => first | (go_simp; done) | (go_simp; rfl)); intro gb544 hg w35 hbox hb; have n0_ := Aside0.mk (below_step (by repeat (first | (with_reducible first | exact HB.out | apply below_alloc | apply pw_below_drewN | apply below_drew1) | exact HB.out)) hb); have n1_ := Aside0.mk (hbox); have n2_ := Aside0.mk ((by rw [hg]; exact (below_size (by repeat (first | (with_reducible first | exact HB.out | apply below_alloc | apply pw_below_drewN | apply below_drew1) | exact HB.out))) : w.heap.size ≤ gb544)); have n3_ := Aside0.mk ((by rw [hg]; exact (below_size (by repeat (first | (with_reducible first | exact HB.out | apply below_alloc | apply pw_below_drewN | apply below_drew1) | exact HB.out))) : w.heap.size ≤ gb544)); clear HB; have HB := n0_; have BK544 := n1_; have GW544 := n2_; have GE544 := n3_; clear n0_ n1_ n2_ n3_; clear hb hbox hg; have hcz36_0 : w35.cell? ⟨gb544, 0, none⟩ = some (.int .i64 a0_0) := (blk_cell BK544.out 0).trans rfl; have hcz36_1 : w35.cell? ⟨gb544, 1, none⟩ = some (.int .i64 a0_1) := (blk_cell BK544.out 1).trans rfl; have hcz36_2 : w35.cell? ⟨gb544, 2, none⟩ = some (.string a0_2) := (blk_cell BK544.out 2).trans rfl; have hcz36_3 : w35.cell? ⟨gb544, 3, none⟩ = some (.slice A0_3 l0_3.length c0_3) := (blk_cell BK544.out 3).trans rfl; have hcz36_4 : w35.cell? ⟨gb544, 4, none⟩ = some (.string a0_4) := (blk_cell BK544.out 4).trans rfl; have hcz36_5 : w35.cell? ⟨gb544, 5, none⟩ = some (.int .i64 a0_5) := (blk_cell BK544.out 5).trans rfl; have hcz36_6 : w35.cell? ⟨gb544, 6, none⟩ = some (.slice A0_6 l0_6.length c0_6) := (blk_cell BK544.out 6).trans rfl; have hfz36_0 := blk_frozen BK544.out 0; have hfz36_1 := blk_frozen BK544.out 1; have hfz36_2 := blk_frozen BK544.out 2; have hfz36_3 := blk_frozen BK544.out 3; have hfz36_4 := blk_frozen BK544.out 4; have hfz36_5 := blk_frozen BK544.out 5; have hfz36_6 := blk_frozen BK544.out 6))
       go_ret
       exact ⟨by first | rfl | (simp [errW_none, errW_some] <;> rfl) | (simp [*, errW_none, errW_some] <;> rfl), by repeat (first | (with_reducible first | exact HB.out | apply below_alloc | apply pw_below_drewN | apply below_drew1 | refine below_set ?_ GE544.out) | exact HB.out)⟩
     ·rw [if_neg c31] at H
      have c31b0 : (a0_1 == 0) = false := beq_eq_false_iff_ne.mpr c31
      have c31b1 : (a0_1 != 0) = true := bne_iff_ne.mpr c31
      obtain rfl := Option.some.inj H
      go_enter Try.func110, Try.ntmps110
      go_wp2_with (first | ((with_reducible refine gate_dst (N := 1) rfl ?_); (try (refine gate_guard (by rfl) ?_; dsimp only)); refine box_event ?hg (N := 1) ?hd (cs := #[.int .i64 a0_0, .int .i64 a0_1, .string a0_2, .slice A0_3 l0_3.length c0_3, .string a0_4, .int .i64 a0_5, .slice A0_6 l0_6.length c0_6]) (t := 89) ?hr ?_; (case hd => rfl); (case hg => rfl); (case hr => first | (go_simp; done) | (go_simp; rfl)); intro gb544 hg w37 hbox hb; have n0_ := Aside0.mk (below_step (by repeat (first | (with_reducible first | exact HB.out | apply below_alloc | apply pw_below_drewN | apply below_drew1) | exact HB.out)) hb); have n1_ := Aside0.mk (hbox); have n2_ := Aside0.mk ((by rw [hg]; exact (below_size (by repeat (first | (with_reducible first | exact HB.out | apply below_alloc | apply pw_below_drewN | apply below_drew1) | exact HB.out))) : w.heap.size ≤ gb544)); have n3_ := Aside0.mk ((by rw [hg]; exact (below_size (by repeat (first | (with_reducible first | exact HB.out | apply below_alloc | apply pw_below_drewN | apply below_drew1) | exact HB.out))) : w.heap.size ≤ gb544)); clear HB; have HB := n0_; have BK544 := n1_; have GW544 := n2_; have GE544 := n3_; clear n0_ n1_ n2_ n3_; clear hb hbox hg; have hcz38_0 : w37.cell? ⟨gb544, 0, none⟩ = some (.int .i64 a0_0) := (blk_cell BK544.out 0).trans rfl; have hcz38_1 : w37.cell? ⟨gb544, 1, none⟩ = some (.int .i64 a0_1) := (blk_cell BK544.out 1).trans rfl; have hcz38_2 : w37.cell? ⟨gb544, 2, none⟩ = some (.string a0_2) := (blk_cell BK544.out 2).trans rfl; have hcz38_3 : w37.cell? ⟨gb544, 3, none⟩ = some (.slice A0_3 l0_3.length c0_3) := (blk_cell BK544.out 3).trans rfl; have hcz38_4 : w37.cell? ⟨gb544, 4, none⟩ = some (.string a0_4) := (blk_cell BK544.out 4).trans rfl; have hcz38_5 : w37.cell? ⟨gb544, 5, none⟩ = some (.int .i64 a0_5) := (blk_cell BK544.out 5).trans rfl; have hcz38_6 : w37.cell? ⟨gb544, 6, none⟩ = some (.slice A0_6 l0_6.length c0_6) := (blk_cell BK544.out 6).trans rfl; have hfz38_0 := blk_frozen BK544.out 0; have hfz38_1 := blk_frozen BK544.out 1; have hfz38_2 := blk_frozen BK544.out 2; have hfz38_3 := blk_frozen BK544.out 3; have hfz38_4 := blk_frozen BK544.out 4; have hfz38_5 := blk_frozen BK544.out 5; have hfz38_6 := blk_frozen BK544.out 6))
      go_ret
      exact ⟨by first | rfl | (simp [errW_none, errW_some] <;> rfl) | (simp [*, errW_none, errW_some] <;> rfl), by repeat (first | (with_reducible first | exact HB.out | apply below_alloc | apply pw_below_drewN | apply below_drew1 | refine below_set ?_ GE544.out) | exact HB.out)⟩
    ·rw [if_neg c30] at H
     have c30b0 : (a0_2.toList == ([] : List UInt8)) = false := beq_eq_false_iff_ne.mpr c30
     have c30b1 : (a0_2.toList != ([] : List UInt8)) = true := bne_iff_ne.mpr c30
     obtain rfl := Option.some.inj H
     go_enter Try.func110, Try.ntmps110
     go_wp2_with (first | ((with_reducible refine gate_dst (N := 1) rfl ?_); (try (refine gate_guard (by rfl) ?_; dsimp only)); refine box_event ?hg (N := 1) ?hd (cs := #[.int .i64 a0_0, .int .i64 a0_1, .string a0_2, .slice A0_3 l0_3.length c0_3, .string a0_4, .int .i64 a0_5, .slice A0_6 l0_6.length c0_6]) (t := 89) ?hr ?_; (case hd => rfl); (case hg => rfl); (case hr => first | (go_simp; done) | (go_simp; rfl)); intro gb544 hg w39 hbox hb; have n0_ := Aside0.mk (below_step (by repeat (first | (with_reducible first | exact HB.out | apply below_alloc | apply pw_below_drewN | apply below_drew1) | exact HB.out)) hb); have n1_ := Aside0.mk (hbox); have n2_ := Aside0.mk ((by rw [hg]; exact (below_size (by repeat (first | (with_reducible first | exact HB.out | apply below_alloc | apply pw_below_drewN | apply below_drew1) | exact HB.out))) : w.heap.size ≤ gb544)); have n3_ := Aside0.mk ((by rw [hg]; exact (below_size (by repeat (first | (with_reducible first | exact HB.out | apply below_alloc | apply pw_below_drewN | apply below_drew1) | exact HB.out))) : w.heap.size ≤ gb544)); clear HB; have HB := n0_; have BK544 := n1_; have GW544 := n2_; have GE544 := n3_; clear n0_ n1_ n2_ n3_; clear hb hbox hg; have hcz40_0 : w39.cell? ⟨gb544, 0, none⟩ = some (.int .i64 a0_0) := (blk_cell BK544.out 0).trans rfl; have hcz40_1 : w39.cell? ⟨gb544, 1, none⟩ = some (.int .i64 a0_1) := (blk_cell BK544.out 1).trans rfl; have hcz40_2 : w39.cell? ⟨gb544, 2, none⟩ = some (.string a0_2) := (blk_cell BK544.out 2).trans rfl; have hcz40_3 : w39.cell? ⟨gb544, 3, none⟩ = some (.slice A0_3 l0_3.length c0_3) := (blk_cell BK544.out 3).trans rfl; have hcz40_4 : w39.cell? ⟨gb544, 4, none⟩ = some (.string a0_4) := (blk_cell BK544.out 4).trans rfl; have hcz40_5 : w39.cell? ⟨gb544, 5, none⟩ = some (.int .i64 a0_5) := (blk_cell BK544.out 5).trans rfl; have hcz40_6 : w39.cell? ⟨gb544, 6, none⟩ = some (.slice A0_6 l0_6.length c0_6) := (blk_cell BK544.out 6).trans rfl; have hfz40_0 := blk_frozen BK544.out 0; have hfz40_1 := blk_frozen BK544.out 1; have hfz40_2 := blk_frozen BK544.out 2; have hfz40_3 := blk_frozen BK544.out 3; have hfz40_4 := blk_frozen BK544.out 4; have hfz40_5 := blk_frozen BK544.out 5; have hfz40_6 := blk_frozen BK544.out 6))
     go_ret
     exact ⟨by first | rfl | (simp [errW_none, errW_some] <;> rfl) | (simp [*, errW_none, errW_some] <;> rfl), by repeat (first | (with_reducible first | exact HB.out | apply below_alloc | apply pw_below_drewN | apply below_drew1 | refine below_set ?_ GE544.out) | exact HB.out)⟩
   ·rw [if_neg c29] at H
    have c29b0 : (a0_0 == 4) = false := beq_eq_false_iff_ne.mpr c29
    have c29b1 : (a0_0 != 4) = true := bne_iff_ne.mpr c29
    by_cases c41 : a0_0 = 5
    ·rw [if_pos c41] at H
     have c41b0 : (a0_0 == 5) = true := beq_iff_eq.mpr c41
     have c41b1 : (a0_0 != 5) = false := bne_eq_false_iff_eq.mpr c41
     clear c41
     by_cases c42 : a0_2.toList = ([] : List UInt8)
     ·rw [if_pos c42] at H
      have c42b0 : (a0_2.toList == ([] : List UInt8)) = true := beq_iff_eq.mpr c42
      have c42b1 : (a0_2.toList != ([] : List UInt8)) = false := bne_eq_false_iff_eq.mpr c42
      clear c42
      by_cases c43 : a0_1 = 0
      ·rw [if_pos c43] at H
       have c43b0 : (a0_1 == 0) = true := beq_iff_eq.mpr c43
       have c43b1 : (a0_1 != 0) = false := bne_eq_false_iff_eq.mpr c43
       clear c43
       by_cases c44 : (l0_3.length : Int) = 0
       ·rw [if_pos c44] at H
        have c44b0 : ((l0_3.length : Int) == 0) = true := beq_iff_eq.mpr c44
        have c44b1 : ((l0_3.length : Int) != 0) = false := bne_eq_false_iff_eq.mpr c44
        clear c44
        obtain rfl := Option.some.inj H
        go_enter Try.func110, Try.ntmps110
        go_wp2_with (first | ((with_reducible refine gate_dst (N := 1) rfl ?_); (try (refine gate_guard (by rfl) ?_; dsimp only)); refine box_event ?hg (N := 1) ?hd (cs := #[.int .i64 a0_0, .int .i64 a0_1, .string a0_2, .slice A0_3 l0_3.length c0_3, .string a0_4, .int .i64 a0_5, .slice A0_6 l0_6.length c0_6]) (t := 89) ?hr ?_; (case hd => rfl); (case hg => rfl); (case hr => first | (go_simp; done) | (go_simp; rfl)); intro gb544 hg w45 hbox hb; have n0_ := Aside0.mk (below_step (by repeat (first | (with_reducible first | exact HB.out | apply below_alloc | apply pw_below_drewN | apply below_drew1) | exact HB.out)) hb); have n1_ := Aside0.mk (hbox); have n2_ := Aside0.mk ((by rw [hg]; exact (below_size (by repeat (first | (with_reducible first | exact HB.out | apply below_alloc | apply pw_below_drewN | apply below_drew1) | exact HB.out))) : w.heap.size ≤ gb544)); have n3_ := Aside0.mk ((by rw [hg]; exact (below_size (by repeat (first | (with_reducible first | exact HB.out | apply below_alloc | apply pw_below_drewN | apply below_drew1) | exact HB.out))) : w.heap.size ≤ gb544)); clear HB; have HB := n0_; have BK544 := n1_; have GW544 := n2_; have GE544 := n3_; clear n0_ n1_ n2_ n3_; clear hb hbox hg; have hcz46_0 : w45.cell? ⟨gb544, 0, none⟩ = some (.int .i64 a0_0) := (blk_cell BK544.out 0).trans rfl; have hcz46_1 : w45.cell? ⟨gb544, 1, none⟩ = some (.int .i64 a0_1) := (blk_cell BK544.out 1).trans rfl; have hcz46_2 : w45.cell? ⟨gb544, 2, none⟩ = some (.string a0_2) := (blk_cell BK544.out 2).trans rfl; have hcz46_3 : w45.cell? ⟨gb544, 3, none⟩ = some (.slice A0_3 l0_3.length c0_3) := (blk_cell BK544.out 3).trans rfl; have hcz46_4 : w45.cell? ⟨gb544, 4, none⟩ = some (.string a0_4) := (blk_cell BK544.out 4).trans rfl; have hcz46_5 : w45.cell? ⟨gb544, 5, none⟩ = some (.int .i64 a0_5) := (blk_cell BK544.out 5).trans rfl; have hcz46_6 : w45.cell? ⟨gb544, 6, none⟩ = some (.slice A0_6 l0_6.length c0_6) := (blk_cell BK544.out 6).trans rfl; have hfz46_0 := blk_frozen BK544.out 0; have hfz46_1 := blk_frozen BK544.out 1; have hfz46_2 := blk_frozen BK544.out 2; have hfz46_3 := blk_frozen BK544.out 3; have hfz46_4 := blk_frozen BK544.out 4; have hfz46_5 := blk_frozen BK544.out 5; have hfz46_6 := blk_frozen BK544.out 6))
        go_ret
        exact ⟨by first | rfl | (simp [errW_none, errW_some] <;> rfl) | (simp [*, errW_none, errW_some] <;> rfl), by repeat (first | (with_reducible first | exact HB.out | apply below_alloc | apply pw_below_drewN | apply below_drew1 | refine below_set ?_ GE544.out) | exact HB.out)⟩
       ·rw [if_neg c44] at H
        have c44b0 : ((l0_3.length : Int) == 0) = false := beq_eq_false_iff_ne.mpr c44
        have c44b1 : ((l0_3.length : Int) != 0) = true := bne_iff_ne.mpr c44
        have c44b2 : ¬ (l0_3 = []) := fun h_ => c44 (by rw [h_]; rfl)
        obtain rfl := Option.some.inj H
        go_enter Try.func110, Try.ntmps110
        go_wp2_with (first | ((with_reducible refine gate_dst (N := 1) rfl ?_); (try (refine gate_guard (by rfl) ?_; dsimp only)); refine box_event ?hg (N := 1) ?hd (cs := #[.int .i64 a0_0, .int .i64 a0_1, .string a0_2, .slice A0_3 l0_3.length c0_3, .string a0_4, .int .i64 a0_5, .slice A0_6 l0_6.length c0_6]) (t := 89) ?hr ?_; (case hd => rfl); (case hg => rfl); (case hr => first | (go_simp; done) | (go_simp; rfl)); intro gb544 hg w47 hbox hb; have n0_ := Aside0.mk (below_step (by repeat (first | (with_reducible first | exact HB.out | apply below_alloc | apply pw_below_drewN | apply below_drew1) | exact HB.out)) hb); have n1_ := Aside0.mk (hbox); have n2_ := Aside0.mk ((by rw [hg]; exact (below_size (by repeat (first | (with_reducible first | exact HB.out | apply below_alloc | apply pw_below_drewN | apply below_drew1) | exact HB.out))) : w.heap.size ≤ gb544)); have n3_ := Aside0.mk ((by rw [hg]; exact (below_size (by repeat (first | (with_reducible first | exact HB.out | apply below_alloc | apply pw_below_drewN | apply below_drew1) | exact HB.out))) : w.heap.size ≤ gb544)); clear HB; have HB := n0_; have BK544 := n1_; have GW544 := n2_; have GE544 := n3_; clear n0_ n1_ n2_ n3_; clear hb hbox hg; have hcz48_0 : w47.cell? ⟨gb544, 0, none⟩ = some (.int .i64 a0_0) := (blk_cell BK544.out 0).trans rfl; have hcz48_1 : w47.cell? ⟨gb544, 1, none⟩ = some (.int .i64 a0_1) := (blk_cell BK544.out 1).trans rfl; have hcz48_2 : w47.cell? ⟨gb544, 2, none⟩ = some (.string a0_2) := (blk_cell BK544.out 2).trans rfl; have hcz48_3 : w47.cell? ⟨gb544, 3, none⟩ = some (.slice A0_3 l0_3.length c0_3) := (blk_cell BK544.out 3).trans rfl; have hcz48_4 : w47.cell? ⟨gb544, 4, none⟩ = some (.string a0_4) := (blk_cell BK544.out 4).trans rfl; have hcz48_5 : w47.cell? ⟨gb544, 5, none⟩ = some (.int .i64 a0_5) := (blk_cell BK544.out 5).trans rfl; have hcz48_6 : w47.cell? ⟨gb544, 6, none⟩ = some (.slice A0_6 l0_6.length c0_6) := (blk_cell BK544.out 6).trans rfl; have hfz48_0 := blk_frozen BK544.out 0; have hfz48_1 := blk_frozen BK544.out 1; have hfz48_2 := blk_frozen BK544.out 2; have hfz48_3 := blk_frozen BK544.out 3; have hfz48_4 := blk_frozen BK544.out 4; have hfz48_5 := blk_frozen BK544.out 5; have hfz48_6 := blk_frozen BK544.out 6))
        go_ret
        exact ⟨by first | rfl | (simp [errW_none, errW_some] <;> rfl) | (simp [*, errW_none, errW_some] <;> rfl), by repeat (first | (with_reducible first | exact HB.out | apply below_alloc | apply pw_below_drewN | apply below_drew1 | refine below_set ?_ GE544.out) | exact HB.out)⟩
      ·rw [if_neg c43] at H
       have c43b0 : (a0_1 == 0) = false := beq_eq_false_iff_ne.mpr c43
       have c43b1 : (a0_1 != 0) = true := bne_iff_ne.mpr c43
       obtain rfl := Option.some.inj H
       go_enter Try.func110, Try.ntmps110
       go_wp2_with (first | ((with_reducible refine gate_dst (N := 1) rfl ?_); (try (refine gate_guard (by rfl) ?_; dsimp only)); refine box_event ?hg (N := 1) ?hd (cs := #[.int .i64 a0_0, .int .i64 a0_1, .string a0_2, .slice A0_3 l0_3.length c0_3, .string a0_4, .int .i64 a0_5, .slice A0_6 l0_6.length c0_6]) (t := 89) ?hr ?_; (case hd => rfl); (case hg => rfl); (case hr => first | (go_simp; done) | (go_simp; rfl)); intro gb544 hg w49 hbox hb; have n0_ := Aside0.mk (below_step (by repeat (first | (with_reducible first | exact HB.out | apply below_alloc | apply pw_below_drewN | apply below_drew1) | exact HB.out)) hb); have n1_ := Aside0.mk (hbox); have n2_ := Aside0.mk ((by rw [hg]; exact (below_size (by repeat (first | (with_reducible first | exact HB.out | apply below_alloc | apply pw_below_drewN | apply below_drew1) | exact HB.out))) : w.heap.size ≤ gb544)); have n3_ := Aside0.mk ((by rw [hg]; exact (below_size (by repeat (first | (with_reducible first | exact HB.out | apply below_alloc | apply pw_below_drewN | apply below_drew1) | exact HB.out))) : w.heap.size ≤ gb544)); clear HB; have HB := n0_; have BK544 := n1_; have GW544 := n2_; have GE544 := n3_; clear n0_ n1_ n2_ n3_; clear hb hbox hg; have hcz50_0 : w49.cell? ⟨gb544, 0, none⟩ = some (.int .i64 a0_0) := (blk_cell BK544.out 0).trans rfl; have hcz50_1 : w49.cell? ⟨gb544, 1, none⟩ = some (.int .i64 a0_1) := (blk_cell BK544.out 1).trans rfl; have hcz50_2 : w49.cell? ⟨gb544, 2, none⟩ = some (.string a0_2) := (blk_cell BK544.out 2).trans rfl; have hcz50_3 : w49.cell? ⟨gb544, 3, none⟩ = some (.slice A0_3 l0_3.length c0_3) := (blk_cell BK544.out 3).trans rfl; have hcz50_4 : w49.cell? ⟨gb544, 4, none⟩ = some (.string a0_4) := (blk_cell BK544.out 4).trans rfl; have hcz50_5 : w49.cell? ⟨gb544, 5, none⟩ = some (.int .i64 a0_5) := (blk_cell BK544.out 5).trans rfl; have hcz50_6 : w49.cell? ⟨gb544, 6, none⟩ = some (.slice A0_6 l0_6.length c0_6) := (blk_cell BK544.out 6).trans rfl; have hfz50_0 := blk_frozen BK544.out 0; have hfz50_1 := blk_frozen BK544.out 1; have hfz50_2 := blk_frozen BK544.out 2; have hfz50_3 := blk_frozen BK544.out 3; have hfz50_4 := blk_frozen BK544.out 4; have hfz50_5 := blk_frozen BK544.out 5; have hfz50_6 := blk_frozen BK544.out 6))
       go_ret
       exact ⟨by first | rfl | (simp [errW_none, errW_some] <;> rfl) | (simp [*, errW_none, errW_some] <;> rfl), by repeat (first | (with_reducible first | exact HB.out | apply below_alloc | apply pw_below_drewN | apply below_drew1 | refine below_set ?_ GE544.out) | exact HB.out)⟩
     ·rw [if_neg c42] at H
      have c42b0 : (a0_2.toList == ([] : List UInt8)) = false := beq_eq_false_iff_ne.mpr c42
      have c42b1 : (a0_2.toList != ([] : List UInt8)) = true := bne_iff_ne.mpr c42
      obtain rfl := Option.some.inj H
      go_enter Try.func110, Try.ntmps110
      go_wp2_with (first | ((with_reducible refine gate_dst (N := 1) rfl ?_); (try (refine gate_guard (by rfl) ?_; dsimp only)); refine box_event ?hg (N := 1) ?hd (cs := #[.int .i64 a0_0, .int .i64 a0_1, .string a0_2, .slice A0_3 l0_3.length c0_3, .string a0_4, .int .i64 a0_5, .slice A0_6 l0_6.length c0_6]) (t := 89) ?hr ?_; (case hd => rfl); (case hg => rfl); (case hr => first | (go_simp; done) | (go_simp; rfl)); intro gb544 hg w51 hbox hb; have n0_ := Aside0.mk (below_step (by repeat (first | (with_reducible first | exact HB.out | apply below_alloc | apply pw_below_drewN | apply below_drew1) | exact HB.out)) hb); have n1_ := Aside0.mk (hbox); have n2_ := Aside0.mk ((by rw [hg]; exact (below_size (by repeat (first | (with_reducible first | exact HB.out | apply below_alloc | apply pw_below_drewN | apply below_drew1) | exact HB.out))) : w.heap.size ≤ gb544)); have n3_ := Aside0.mk ((by rw [hg]; exact (below_size (by repeat (first | (with_reducible first | exact HB.out | apply below_alloc | apply pw_below_drewN | apply below_drew1) | exact HB.out))) : w.heap.size ≤ gb544)); clear HB; have HB := n0_; have BK544 := n1_; have GW544 := n2_; have GE544 := n3_; clear n0_ n1_ n2_ n3_; clear hb hbox hg; have hcz52_0 : w51.cell? ⟨gb544, 0, none⟩ = some (.int .i64 a0_0) := (blk_cell BK544.out 0).trans rfl; have hcz52_1 : w51.cell? ⟨gb544, 1, none⟩ = some (.int .i64 a0_1) := (blk_cell BK544.out 1).trans rfl; have hcz52_2 : w51.cell? ⟨gb544, 2, none⟩ = some (.string a0_2) := (blk_cell BK544.out 2).trans rfl; have hcz52_3 : w51.cell? ⟨gb544, 3, none⟩ = some (.slice A0_3 l0_3.length c0_3) := (blk_cell BK544.out 3).trans rfl; have hcz52_4 : w51.cell? ⟨gb544, 4, none⟩ = some (.string a0_4) := (blk_cell BK544.out 4).trans rfl; have hcz52_5 : w51.cell? ⟨gb544, 5, none⟩ = some (.int .i64 a0_5) := (blk_cell BK544.out 5).trans rfl; have hcz52_6 : w51.cell? ⟨gb544, 6, none⟩ = some (.slice A0_6 l0_6.length c0_6) := (blk_cell BK544.out 6).trans rfl; have hfz52_0 := blk_frozen BK544.out 0; have hfz52_1 := blk_frozen BK544.out 1; have hfz52_2 := blk_frozen BK544.out 2; have hfz52_3 := blk_frozen BK544.out 3; have hfz52_4 := blk_frozen BK544.out 4; have hfz52_5 := blk_frozen BK544.out 5; have hfz52_6 := blk_frozen BK544.out 6))
      go_ret
      exact ⟨by first | rfl | (simp [errW_none, errW_some] <;> rfl) | (simp [*, errW_none, errW_some] <;> rfl), by repeat (first | (with_reducible first | exact HB.out | apply below_alloc | apply pw_below_drewN | apply below_drew1 | refine below_set ?_ GE544.out) | exact HB.out)⟩
    ·rw [if_neg c41] at H
     have c41b0 : (a0_0 == 5) = false := beq_eq_false_iff_ne.mpr c41
     have c41b1 : (a0_0 != 5) = true := bne_iff_ne.mpr c41
     obtain rfl := Option.some.inj H
     go_enter Try.func110, Try.ntmps110
     go_wp2_with (first | ((with_reducible refine gate_dst (N := 1) rfl ?_); (try (refine gate_guard (by rfl) ?_; dsimp only)); refine box_event ?hg (N := 1) ?hd (cs := #[.int .i64 a0_0, .int .i64 a0_1, .string a0_2, .slice A0_3 l0_3.length c0_3, .string a0_4, .int .i64 a0_5, .slice A0_6 l0_6.length c0_6]) (t := 89) ?hr ?_; (case hd => rfl); (case hg => rfl); (case hr => first | (go_simp; done) | (go_simp; rfl)); intro gb544 hg w53 hbox hb; have n0_ := Aside0.mk (below_step (by repeat (first | (with_reducible first | exact HB.out | apply below_alloc | apply pw_below_drewN | apply below_drew1) | exact HB.out)) hb); have n1_ := Aside0.mk (hbox); have n2_ := Aside0.mk ((by rw [hg]; exact (below_size (by repeat (first | (with_reducible first | exact HB.out | apply below_alloc | apply pw_below_drewN | apply below_drew1) | exact HB.out))) : w.heap.size ≤ gb544)); have n3_ := Aside0.mk ((by rw [hg]; exact (below_size (by repeat (first | (with_reducible first | exact HB.out | apply below_alloc | apply pw_below_drewN | apply below_drew1) | exact HB.out))) : w.heap.size ≤ gb544)); clear HB; have HB := n0_; have BK544 := n1_; have GW544 := n2_; have GE544 := n3_; clear n0_ n1_ n2_ n3_; clear hb hbox hg; have hcz54_0 : w53.cell? ⟨gb544, 0, none⟩ = some (.int .i64 a0_0) := (blk_cell BK544.out 0).trans rfl; have hcz54_1 : w53.cell? ⟨gb544, 1, none⟩ = some (.int .i64 a0_1) := (blk_cell BK544.out 1).trans rfl; have hcz54_2 : w53.cell? ⟨gb544, 2, none⟩ = some (.string a0_2) := (blk_cell BK544.out 2).trans rfl; have hcz54_3 : w53.cell? ⟨gb544, 3, none⟩ = some (.slice A0_3 l0_3.length c0_3) := (blk_cell BK544.out 3).trans rfl; have hcz54_4 : w53.cell? ⟨gb544, 4, none⟩ = some (.string a0_4) := (blk_cell BK544.out 4).trans rfl; have hcz54_5 : w53.cell? ⟨gb544, 5, none⟩ = some (.int .i64 a0_5) := (blk_cell BK544.out 5).trans rfl; have hcz54_6 : w53.cell? ⟨gb544, 6, none⟩ = some (.slice A0_6 l0_6.length c0_6) := (blk_cell BK544.out 6).trans rfl; have hfz54_0 := blk_frozen BK544.out 0; have hfz54_1 := blk_frozen BK544.out 1; have hfz54_2 := blk_frozen BK544.out 2; have hfz54_3 := blk_frozen BK544.out 3; have hfz54_4 := blk_frozen BK544.out 4; have hfz54_5 := blk_frozen BK544.out 5; have hfz54_6 := blk_frozen BK544.out 6))
     go_ret
     exact ⟨by first | rfl | (simp [errW_none, errW_some] <;> rfl) | (simp [*, errW_none, errW_some] <;> rfl), by repeat (first | (with_reducible first | exact HB.out | apply below_alloc | apply pw_below_drewN | apply below_drew1 | refine below_set ?_ GE544.out) | exact HB.out)⟩
end Go.Proofs.Ytlocaaebgghkbaa.A
namespace Go.Proofs.Ytlocaaebgghkbaa.A
open Go.RowKit Go.Proofs.YtlocaaebgghkbaaW.PrintWords Go.Proofs.YtlocaaebgghkbaaW.PrintLast Go.Proofs.YtlocaaebgghkbaaW.PrintMore
attribute [local go_sem] max2_int min2_int max_two min_two max_three min_three max_four min_four   -- for this text's walks alone
set_option linter.unusedVariables false
set_option linter.unusedSimpArgs false
def impl_hasKids.f (a0 : Int) : Option (Bool) := if a0 = 1 then (some true) else (some (a0 == 2))
set_option maxHeartbeats 8000000 in
set_option maxRecDepth 100000 in
theorem impl_hasKids.calls (a0 : Int) (r : Bool) (w : World) (h : impl_hasKids.f a0 = some r) :
  Calls Try.prog 111 #[.int .i64 a0] w fun e w' => e = .returned (.bool r) ∧ Drawn0 w w' := by
 have H : (if a0 = 1 then (some true) else (some (a0 == 2))) = some r := h
 clear h
 by_cases c2 : a0 = 1
 ·rw [if_pos c2] at H
  have c2b0 : (a0 == 1) = true := beq_iff_eq.mpr c2
  have c2b1 : (a0 != 1) = false := bne_eq_false_iff_eq.mpr c2
  clear c2
  obtain rfl := Option.some.inj H
  go_enter Try.func111, Try.ntmps111
  go_wp2
  go_ret
  exact ⟨by first | rfl | (simp; done) | (simp [*]; done), by repeat (first | exact Drawn0.refl _ | apply Drawn0.step)⟩
 ·rw [if_neg c2] at H
  have c2b0 : (a0 == 1) = false := beq_eq_false_iff_ne.mpr c2
  have c2b1 : (a0 != 1) = true := bne_iff_ne.mpr c2
  obtain rfl := Option.some.inj H
  go_enter Try.func111, Try.ntmps111
  go_wp2
  go_ret
  exact ⟨by first | rfl | (simp; done) | (simp [*]; done), by repeat (first | exact Drawn0.refl _ | apply Drawn0.step)⟩
end Go.Proofs.Ytlocaaebgghkbaa.A
namespace Go.Proofs.Ytlocaaebgghkbaa.A
open Go.RowKit Go.Proofs.YtlocaaebgghkbaaW.PrintWords Go.Proofs.YtlocaaebgghkbaaW.PrintLast Go.Proofs.YtlocaaebgghkbaaW.PrintMore
attribute [local go_sem] max2_int min2_int max_two min_two max_three min_three max_four min_four   -- for this text's walks alone
set_option linter.unusedVariables false
set_option linter.unusedSimpArgs false
mutual
def impl_kidsOk.l0 : Nat → List (S89) → List Int → List (S89) → Int → Int → Option (Bool)
 | 0, _, _, _, _, _ => none
 | k + 1, x0, x3, x12, x13, x14 => if x14 < x13 then (if 0 ≤ x14 then (if x14 < (x12.length : Int) then (impl_kidsOk.l1 k x0 x3 x14 x12 x13 x14 ((rd_T89 x12 x14).f6) (((rd_T89 x12 x14).f6).length : Int) 0) else (none)) else (none)) else (impl_kidsOk.l2 k x0 x3 1)
def impl_kidsOk.l1 : Nat → List (S89) → List Int → Int → List (S89) → Int → Int → List Int → Int → Int → Option (Bool)
 | 0, _, _, _, _, _, _, _, _, _ => none
 | k + 1, x0, x3, x4, x12, x13, x14, x20, x21, x22 => if x22 < x21 then (if 0 ≤ x22 then (if x22 < (x20.length : Int) then ((impl_inRange.f (rd x20 x22) 1 (wrap64 ((x0.length : Int) - 1))).bind fun t553 => (if t553 = true then (if 0 ≤ (rd x20 x22) then (if (rd x20 x22) < (x0.length : Int) then (if ((rd_T89 x0 (rd x20 x22)).f5) = x4 then (if (rd x20 x22) < (x3.length : Int) then (impl_kidsOk.l1 k x0 (x3.set ((rd x20 x22) : Int).toNat (wrap64 ((rd x3 (rd x20 x22)) + 1))) x4 x12 x13 x14 x20 x21 (wrap64 (x22 + 1))) else (none)) else (some false)) else (none)) else (none)) else (some false))) else (none)) else (none)) else (impl_kidsOk.l0 k x0 x3 x12 x13 (wrap64 (x14 + 1)))
def impl_kidsOk.l2 : Nat → List (S89) → List Int → Int → Option (Bool)
 | 0, _, _, _ => none
 | k + 1, x0, x3, x8 => if x8 < (x0.length : Int) then (if 0 ≤ x8 then (if x8 < (x3.length : Int) then (if (rd x3 x8) = 1 then (impl_kidsOk.l2 k x0 x3 (wrap64 (x8 + 1))) else (some false)) else (none)) else (none)) else (some true)
end
def impl_kidsOk.f (k : Nat) (l0 : List (S89)) : Option (Bool) := if 0 ≤ (l0.length : Int) then (if ((l0.length : Int) : Int).toNat ≤ 35184372088832 then (impl_kidsOk.l0 k l0 (List.replicate ((l0.length : Int) : Int).toNat 0) l0 (l0.length : Int) 0) else (none)) else (none)
theorem impl_kidsOk.mono_l : ∀ k, (∀ y0 y1 y2 y3 y4, LeO (impl_kidsOk.l0 k y0 y1 y2 y3 y4) (impl_kidsOk.l0 (k + 1) y0 y1 y2 y3 y4)) ∧ (∀ y0 y1 y2 y3 y4 y5 y6 y7 y8, LeO (impl_kidsOk.l1 k y0 y1 y2 y3 y4 y5 y6 y7 y8) (impl_kidsOk.l1 (k + 1) y0 y1 y2 y3 y4 y5 y6 y7 y8)) ∧ (∀ y0 y1 y2, LeO (impl_kidsOk.l2 k y0 y1 y2) (impl_kidsOk.l2 (k + 1) y0 y1 y2))
 | 0 => ⟨fun _ _ _ _ _ r h => by simp [impl_kidsOk.l0] at h, fun _ _ _ _ _ _ _ _ _ r h => by simp [impl_kidsOk.l1] at h, fun _ _ _ r h => by simp [impl_kidsOk.l2] at h⟩
 | k + 1 => by
  obtain ⟨ih0, ih1, ih2⟩ := impl_kidsOk.mono_l k
  refine ⟨?_, ?_, ?_⟩
  ·intro y0 y1 y2 y3 y4
   unfold impl_kidsOk.l0
   repeat' first
   | (with_reducible exact ih0 _ _ _ _ _)
   | (with_reducible exact ih1 _ _ _ _ _ _ _ _ _)
   | (with_reducible exact ih2 _ _ _)
   | (with_reducible exact LeO.refl _)
   | (with_reducible exact LeO.none _)
   | (with_reducible refine LeO.ite ?_ ?_)
   | (with_reducible refine LeO.bind ?_ (fun _ => ?_))
   | exact ih0 _ _ _ _ _
   | exact ih1 _ _ _ _ _ _ _ _ _
   | exact ih2 _ _ _
   | exact LeO.none _
   | refine LeO.ite ?_ ?_
   | refine LeO.bind ?_ (fun _ => ?_)
  ·intro y0 y1 y2 y3 y4 y5 y6 y7 y8
   unfold impl_kidsOk.l1
   repeat' first
   | (with_reducible exact ih0 _ _ _ _ _)
   | (with_reducible exact ih1 _ _ _ _ _ _ _ _ _)
   | (with_reducible exact ih2 _ _ _)
   | (with_reducible exact LeO.refl _)
   | (with_reducible exact LeO.none _)
   | (with_reducible refine LeO.ite ?_ ?_)
   | (with_reducible refine LeO.bind ?_ (fun _ => ?_))
   | exact ih0 _ _ _ _ _
   | exact ih1 _ _ _ _ _ _ _ _ _
   | exact ih2 _ _ _
   | exact LeO.none _
   | refine LeO.ite ?_ ?_
   | refine LeO.bind ?_ (fun _ => ?_)
  ·intro y0 y1 y2
   unfold impl_kidsOk.l2
   repeat' first
   | (with_reducible exact ih0 _ _ _ _ _)
   | (with_reducible exact ih1 _ _ _ _ _ _ _ _ _)
   | (with_reducible exact ih2 _ _ _)
   | (with_reducible exact LeO.refl _)
   | (with_reducible exact LeO.none _)
   | (with_reducible refine LeO.ite ?_ ?_)
   | (with_reducible refine LeO.bind ?_ (fun _ => ?_))
   | exact ih0 _ _ _ _ _
   | exact ih1 _ _ _ _ _ _ _ _ _
   | exact ih2 _ _ _
   | exact LeO.none _
   | refine LeO.ite ?_ ?_
   | refine LeO.bind ?_ (fun _ => ?_)
theorem impl_kidsOk.mono : ∀ a0 k, LeO (impl_kidsOk.f k a0) (impl_kidsOk.f (k + 1) a0) := by
 intro a0 k
 obtain ⟨ih0, ih1, ih2⟩ := impl_kidsOk.mono_l k
 unfold impl_kidsOk.f
 repeat' first
   | (with_reducible exact ih0 _ _ _ _ _)
   | (with_reducible exact ih1 _ _ _ _ _ _ _ _ _)
   | (with_reducible exact ih2 _ _ _)
   | (with_reducible exact LeO.refl _)
   | (with_reducible exact LeO.none _)
   | (with_reducible refine LeO.ite ?_ ?_)
   | (with_reducible refine LeO.bind ?_ (fun _ => ?_))
   | exact ih0 _ _ _ _ _
   | exact ih1 _ _ _ _ _ _ _ _ _
   | exact ih2 _ _ _
   | exact LeO.none _
   | refine LeO.ite ?_ ?_
   | refine LeO.bind ?_ (fun _ => ?_)
set_option maxHeartbeats 8000000 in
set_option maxRecDepth 100000 in
theorem impl_kidsOk.calls (k : Nat) (A0 : Option Addr) (c0 : Nat) (l0 : List (S89)) (r : Bool) (w : World) (hr0 : Kd.C k89 w A0 l0.length l0) (hc0 : l0.length ≤ c0) (h : impl_kidsOk.f k l0 = some r) :
  Calls Try.prog 112 #[.slice A0 l0.length c0] w fun e w' => e = .returned (.bool r) ∧ Below w.heap.size w w' := by
 have hu89 := Try.underlying89
 have HR0 := Aside0.mk hr0
 have HC0 := Aside0.mk hc0
 clear hr0 hc0
 have HB := Aside0.mk (Below.refl w.heap.size w)
 have H : (if 0 ≤ (l0.length : Int) then (if ((l0.length : Int) : Int).toNat ≤ 35184372088832 then (impl_kidsOk.l0 k l0 (List.replicate ((l0.length : Int) : Int).toNat 0) l0 (l0.length : Int) 0) else (none)) else (none)) = some r := h
 clear h
 by_cases c2 : 0 ≤ (l0.length : Int)
 ·rw [if_pos c2] at H
  have c2b0 := eq_true c2
  have c2b1 : decide (0 ≤ (l0.length : Int)) = true := decide_eq_true c2
  clear c2
  by_cases c3 : ((l0.length : Int) : Int).toNat ≤ 35184372088832
  ·rw [if_pos c3] at H
   have c3b0 := eq_true c3
   have c3b1 : decide (((l0.length : Int) : Int).toNat ≤ 35184372088832) = true := decide_eq_true c3
   clear c3
   obtain ⟨y547, hy547⟩ : ∃ y_ : List Int, y_ = (List.replicate ((l0.length : Int) : Int).toNat 0) := ⟨_, rfl⟩
   replace H : (impl_kidsOk.l0 k l0 y547 l0 (l0.length : Int) 0) = some r := by first | (rw [hy547]; with_reducible exact H) | (have H2_ := (Option.bind_some _ _).symm.trans H; rw [hy547]; with_reducible exact H2_) | (have H2_ := (Option.bind_some _ _).symm.trans H; with_reducible exact H2_) | with_reducible exact H | (rw [hy547]; exact H) | exact H
   have Ny547 := Aside0.mk hy547
   clear hy547
   have H' := Aside0.mk H
   clear H
   go_enter Try.func112, Try.ntmps112
   go_wp2_with (first | ((with_reducible refine gate_dst (N := 11) rfl ?_); refine Kd.R_make (Kd.int .i64) _ 3 rfl (N := 11) rfl 84 _ _ rfl (l0.length : Int) rfl rfl Try.underlying84 (.int .i64 0) 8 info3 rfl (by decide) (by omega) 0 (ok := fun _ => True) (okp := fun _ => True) rfl (fun _ hk => hk) trivial (of_decide_eq_true (by first | (with_reducible assumption) | assumption)) (Nat.le_trans (Nat.mul_le_mul_right _ (of_decide_eq_true (by first | (with_reducible assumption) | assumption) : (l0.length : Int).toNat ≤ 35184372088832)) (by omega)) (Below.refl _ _) (Nat.le_refl _) ?_; intro v548 w4 ho5 hb hg_ hnew_; clear hg_ hnew_; (first | rw [← Ny547.out] at ho5 | (simp only [Int.reduceToNat] at ho5; rw [← Ny547.out] at ho5)); have n0_ := Aside0.mk (Kd.R_lower ho5 (below_size (by repeat (first | (with_reducible first | exact HB.out | apply below_alloc | apply pw_below_drewN | apply below_drew1) | exact HB.out)))); have n1_ := Aside0.mk (below_step (by repeat (first | (with_reducible first | exact HB.out | apply below_alloc | apply pw_below_drewN | apply below_drew1) | exact HB.out)) hb); clear HB; have HO549 := n0_; have HB := n1_; clear n0_ n1_; clear hb ho5))
   go_loopg [14] k (fun kq v14 w' => ∃ (x3_1 : List Int) (x14_1 : Int), v14 = .int .i64 x14_1 ∧ Aside0 (impl_kidsOk.l0 kq l0 x3_1 l0 (l0.length : Int) x14_1 = some r) ∧ Aside0 (kq ≤ k) ∧ Aside0 (Kd.R (Kd.int .i64) 3 w' w.heap.size (fun _ => True) v548 x3_1) ∧ Aside0 (Below w.heap.size w w'))
   case atStart => exact ⟨(y547), (0), (by first | rfl | (simp; done) | (simp [*]; done)), H', ⟨Nat.le_refl _⟩, ⟨by (with_reducible repeat (first | apply Kd.R_alloc | apply Kd.R_drewN | apply Kd.R_drew)); exact HO549.out⟩, ⟨by repeat (first | (with_reducible first | exact HB.out | apply below_alloc | apply pw_below_drewN | apply below_drew1) | exact HB.out)⟩⟩
   case round =>
    clear H'
    try clear c1
    try clear c2
    try clear c2b0
    try clear c2b1
    try clear p2
    try clear c3
    try clear c3b0
    try clear c3b1
    obtain ⟨x3_1, x14_1, rfl, HA, HK1, HO_3, HB⟩ := hrel
    cases gk with
    | zero => exact absurd HA.out (by simp [impl_kidsOk.l0])
    | succ k1 =>
     have H := HA.out
     clear HA
     simp only [impl_kidsOk.l0] at H
     by_cases c6 : x14_1 < (l0.length : Int)
     ·rw [if_pos c6] at H
      have c6b0 : decide (x14_1 < (l0.length : Int)) = true := decide_eq_true c6
      clear c6
      by_cases c7 : 0 ≤ x14_1
      ·rw [if_pos c7] at H
       have c7b0 : decide (0 ≤ x14_1) = true := decide_eq_true c7
       clear c7
       by_cases c8 : x14_1 < (l0.length : Int)
       ·rw [if_pos c8] at H
        have c8b0 : decide (x14_1 < (l0.length : Int)) = true := decide_eq_true c8
        clear c8
        have H' := Aside0.mk H
        clear H
        have p550 : 0 ≤ (x14_1 : Int) := of_decide_eq_true (by first | (with_reducible assumption) | assumption)
        have q550 : x14_1 < (l0.length : Int) := of_decide_eq_true (by first | (with_reducible assumption) | assumption)
        obtain ⟨ad550, A550_3, c550_3, A550_6, c550_6, e550, hx550_0, hx550_1, hx550_2, hx550_3, hx550_4, hx550_5, hx550_6, hl550_3, hi550_3, hl550_6, hi550_6⟩ := at_T89 HR0.out x14_1 p550 q550
        cases e550
        replace hx550_0 := (HB.out.cell (World.block_lt_of_cell? w _ hx550_0)).trans hx550_0
        replace hx550_1 := (HB.out.cell (World.block_lt_of_cell? w _ hx550_1)).trans hx550_1
        replace hx550_2 := (HB.out.cell (World.block_lt_of_cell? w _ hx550_2)).trans hx550_2
        replace hx550_3 := (HB.out.cell (World.block_lt_of_cell? w _ hx550_3)).trans hx550_3
        replace hx550_4 := (HB.out.cell (World.block_lt_of_cell? w _ hx550_4)).trans hx550_4
        replace hx550_5 := (HB.out.cell (World.block_lt_of_cell? w _ hx550_5)).trans hx550_5
        replace hx550_6 := (HB.out.cell (World.block_lt_of_cell? w _ hx550_6)).trans hx550_6
        have HR550_3 := Aside0.mk hi550_3
        have HC550_3 := Aside0.mk hl550_3
        clear hi550_3 hl550_3
        have HR550_6 := Aside0.mk hi550_6
        have HC550_6 := Aside0.mk hl550_6
        clear hi550_6 hl550_6
        replace p550 := eq_true p550
        replace q550 := eq_true q550
        go_wp2_with (first | ((with_reducible refine gate_dst (N := 5) rfl ?_); refine box_event ?hg (N := 5) ?hd (cs := #[.int .i64 0, .int .i64 0, .string (⟨#[]⟩ : ByteArray), .slice none 0 0, .string (⟨#[]⟩ : ByteArray), .int .i64 0, .slice none 0 0]) (t := 89) ?hr ?_; (case hd => rfl); (case hg => rfl); (case hr => first | (go_simp; done) | (go_simp; rfl)); intro gb551 hg w9 hbox hb; have n0_ := Aside0.mk (Kd.R_below (by (with_reducible repeat (first | apply Kd.R_alloc | apply Kd.R_drewN | apply Kd.R_drew)); exact HO_3.out) hb); have n1_ := Aside0.mk (below_step (by repeat (first | (with_reducible first | exact HB.out | apply below_alloc | apply pw_below_drewN | apply below_drew1) | exact HB.out)) hb); have n2_ := Aside0.mk (hbox); have n3_ := Aside0.mk ((by rw [hg]; exact (below_size (by repeat (first | (with_reducible first | exact HB.out | apply below_alloc | apply pw_below_drewN | apply below_drew1) | exact HB.out))) : w.heap.size ≤ gb551)); have n4_ := Aside0.mk ((by rw [hg]; exact (below_size (by repeat (first | (with_reducible first | exact HB.out | apply below_alloc | apply pw_below_drewN | apply below_drew1) | exact HB.out))) : w.heap.size ≤ gb551)); clear HO_3; clear HB; have HO_3 := n0_; have HB := n1_; have BK551 := n2_; have GW551 := n3_; have GE551 := n4_; clear n0_ n1_ n2_ n3_ n4_; clear hb hbox hg; have hcz10_0 : w9.cell? ⟨gb551, 0, none⟩ = some (.int .i64 0) := (blk_cell BK551.out 0).trans rfl; have hcz10_1 : w9.cell? ⟨gb551, 1, none⟩ = some (.int .i64 0) := (blk_cell BK551.out 1).trans rfl; have hcz10_2 : w9.cell? ⟨gb551, 2, none⟩ = some (.string (⟨#[]⟩ : ByteArray)) := (blk_cell BK551.out 2).trans rfl; have hcz10_3 : w9.cell? ⟨gb551, 3, none⟩ = some (.slice none 0 0) := (blk_cell BK551.out 3).trans rfl; have hcz10_4 : w9.cell? ⟨gb551, 4, none⟩ = some (.string (⟨#[]⟩ : ByteArray)) := (blk_cell BK551.out 4).trans rfl; have hcz10_5 : w9.cell? ⟨gb551, 5, none⟩ = some (.int .i64 0) := (blk_cell BK551.out 5).trans rfl; have hcz10_6 : w9.cell? ⟨gb551, 6, none⟩ = some (.slice none 0 0) := (blk_cell BK551.out 6).trans rfl; have hfz10_0 := blk_frozen BK551.out 0; have hfz10_1 := blk_frozen BK551.out 1; have hfz10_2 := blk_frozen BK551.out 2; have hfz10_3 := blk_frozen BK551.out 3; have hfz10_4 := blk_frozen BK551.out 4; have hfz10_5 := blk_frozen BK551.out 5; have hfz10_6 := blk_frozen BK551.out 6))
        go_loopg [22] k1 (fun kq v22 w' => ∃ (x3_2 : List Int) (x22_2 : Int), v22 = .int .i64 x22_2 ∧ Aside0 (impl_kidsOk.l1 kq l0 x3_2 x14_1 l0 (l0.length : Int) x14_1 ((rd_T89 l0 x14_1).f6) (((rd_T89 l0 x14_1).f6).length : Int) x22_2 = some r) ∧ Aside0 (kq ≤ k1) ∧ Aside0 (Kd.R (Kd.int .i64) 3 w' w.heap.size (fun _ => True) v548 x3_2) ∧ Aside0 (w'.heap[gb551]? = some (.cells #[.int .i64 ((rd_T89 l0 x14_1).f0), .int .i64 ((rd_T89 l0 x14_1).f1), .string ((rd_T89 l0 x14_1).f2), (.slice A550_3 ((rd_T89 l0 x14_1).f3).length c550_3), .string ((rd_T89 l0 x14_1).f4), .int .i64 ((rd_T89 l0 x14_1).f5), (.slice A550_6 ((rd_T89 l0 x14_1).f6).length c550_6)] 89 (0, 0))) ∧ Aside0 (Below w.heap.size w w'))
        case atStart => exact ⟨(x3_1), (0), (by first | rfl | (simp; done) | (simp [*]; done)), H', ⟨Nat.le_refl _⟩, ⟨by (with_reducible repeat (first | apply Kd.R_alloc | apply Kd.R_drewN | apply Kd.R_drew)); exact Kd.R_mono (Kd.R_far (p := ⟨gb551, 6, none⟩) (Kd.R_far (p := ⟨gb551, 5, none⟩) (Kd.R_far (p := ⟨gb551, 4, none⟩) (Kd.R_far (p := ⟨gb551, 3, none⟩) (Kd.R_far (p := ⟨gb551, 2, none⟩) (Kd.R_far (p := ⟨gb551, 1, none⟩) (Kd.R_far (p := ⟨gb551, 0, none⟩) (Kd.R_types HO_3.out BK551.out (by decide)) (fun _ hk => hk.2) (.int .i64 ((rd_T89 l0 x14_1).f0))) (fun _ hk => hk.2) (.int .i64 ((rd_T89 l0 x14_1).f1))) (fun _ hk => hk.2) (.string ((rd_T89 l0 x14_1).f2))) (fun _ hk => hk.2) (.slice A550_3 ((rd_T89 l0 x14_1).f3).length c550_3)) (fun _ hk => hk.2) (.string ((rd_T89 l0 x14_1).f4))) (fun _ hk => hk.2) (.int .i64 ((rd_T89 l0 x14_1).f5))) (fun _ hk => hk.2) (.slice A550_6 ((rd_T89 l0 x14_1).f6).length c550_6)) (fun _ hk => trivial)⟩, ⟨by (with_reducible repeat (first | refine blk_drewN ?_ _ | refine blk_drew ?_ | refine blk_alloc ?_ _)); refine blk_put (cs := #[.int .i64 ((rd_T89 l0 x14_1).f0), .int .i64 ((rd_T89 l0 x14_1).f1), .string ((rd_T89 l0 x14_1).f2), .slice A550_3 ((rd_T89 l0 x14_1).f3).length c550_3, .string ((rd_T89 l0 x14_1).f4), .int .i64 ((rd_T89 l0 x14_1).f5), .slice none 0 0]) ?_ 6 _ rfl; (with_reducible repeat (first | refine blk_drewN ?_ _ | refine blk_drew ?_ | refine blk_alloc ?_ _)); refine blk_put (cs := #[.int .i64 ((rd_T89 l0 x14_1).f0), .int .i64 ((rd_T89 l0 x14_1).f1), .string ((rd_T89 l0 x14_1).f2), .slice A550_3 ((rd_T89 l0 x14_1).f3).length c550_3, .string ((rd_T89 l0 x14_1).f4), .int .i64 0, .slice none 0 0]) ?_ 5 _ rfl; (with_reducible repeat (first | refine blk_drewN ?_ _ | refine blk_drew ?_ | refine blk_alloc ?_ _)); refine blk_put (cs := #[.int .i64 ((rd_T89 l0 x14_1).f0), .int .i64 ((rd_T89 l0 x14_1).f1), .string ((rd_T89 l0 x14_1).f2), .slice A550_3 ((rd_T89 l0 x14_1).f3).length c550_3, .string (⟨#[]⟩ : ByteArray), .int .i64 0, .slice none 0 0]) ?_ 4 _ rfl; (with_reducible repeat (first | refine blk_drewN ?_ _ | refine blk_drew ?_ | refine blk_alloc ?_ _)); refine blk_put (cs := #[.int .i64 ((rd_T89 l0 x14_1).f0), .int .i64 ((rd_T89 l0 x14_1).f1), .string ((rd_T89 l0 x14_1).f2), .slice none 0 0, .string (⟨#[]⟩ : ByteArray), .int .i64 0, .slice none 0 0]) ?_ 3 _ rfl; (with_reducible repeat (first | refine blk_drewN ?_ _ | refine blk_drew ?_ | refine blk_alloc ?_ _)); refine blk_put (cs := #[.int .i64 ((rd_T89 l0 x14_1).f0), .int .i64 ((rd_T89 l0 x14_1).f1), .string (⟨#[]⟩ : ByteArray), .slice none 0 0, .string (⟨#[]⟩ : ByteArray), .int .i64 0, .slice none 0 0]) ?_ 2 _ rfl; (with_reducible repeat (first | refine blk_drewN ?_ _ | refine blk_drew ?_ | refine blk_alloc ?_ _)); refine blk_put (cs := #[.int .i64 ((rd_T89 l0 x14_1).f0), .int .i64 0, .string (⟨#[]⟩ : ByteArray), .slice none 0 0, .string (⟨#[]⟩ : ByteArray), .int .i64 0, .slice none 0 0]) ?_ 1 _ rfl; (with_reducible repeat (first | refine blk_drewN ?_ _ | refine blk_drew ?_ | refine blk_alloc ?_ _)); refine blk_put (cs := #[.int .i64 0, .int .i64 0, .string (⟨#[]⟩ : ByteArray), .slice none 0 0, .string (⟨#[]⟩ : ByteArray), .int .i64 0, .slice none 0 0]) ?_ 0 _ rfl; (with_reducible repeat (first | refine blk_drewN ?_ _ | refine blk_drew ?_ | refine blk_alloc ?_ _)); exact BK551.out⟩, ⟨by repeat (first | (with_reducible first | exact HB.out | apply below_alloc | apply pw_below_drewN | apply below_drew1 | refine below_set ?_ GE551.out) | exact HB.out)⟩⟩
        case round =>
         clear H'
         try clear c1
         try clear c2
         try clear c2b0
         try clear c2b1
         try clear p2
         try clear c3
         try clear c3b0
         try clear c3b1
         try clear c5
         try clear p5
         try clear q5
         try clear hx5
         try clear c6
         try clear c6b0
         try clear c7
         try clear c7b0
         try clear c8
         try clear c8b0
         try clear hcz10_0
         try clear hcz10_1
         try clear hcz10_2
         try clear hcz10_3
         try clear hcz10_4
         try clear hcz10_5
         try clear hcz10_6
         try clear hfz10_0
         try clear hfz10_1
         try clear hfz10_2
         try clear hfz10_3
         try clear hfz10_4
         try clear hfz10_5
         try clear hfz10_6
         try clear hx550_0
         try clear hx550_1
         try clear hx550_2
         try clear hx550_3
         try clear hx550_4
         try clear hx550_5
         try clear hx550_6
         try clear p2
         try clear p550
         try clear q550
         obtain ⟨x3_2, x22_2, rfl, HA, HK2, HO_3, BK551, HB⟩ := hrel
         cases gk with
         | zero => exact absurd HA.out (by simp [impl_kidsOk.l1])
         | succ k2 =>
          have H := HA.out
          clear HA
          simp only [impl_kidsOk.l1] at H
          by_cases c11 : x22_2 < (((rd_T89 l0 x14_1).f6).length : Int)
          ·rw [if_pos c11] at H
           have c11b0 : decide (x22_2 < (((rd_T89 l0 x14_1).f6).length : Int)) = true := decide_eq_true c11
           clear c11
           by_cases c12 : 0 ≤ x22_2
           ·rw [if_pos c12] at H
            have c12b0 : decide (0 ≤ x22_2) = true := decide_eq_true c12
            clear c12
            by_cases c13 : x22_2 < (((rd_T89 l0 x14_1).f6).length : Int)
            ·rw [if_pos c13] at H
             have c13b0 : decide (x22_2 < (((rd_T89 l0 x14_1).f6).length : Int)) = true := decide_eq_true c13
             clear c13
             replace H := Option.bind_eq_some_iff.mp H
             obtain ⟨t553, A140, H⟩ := H
             replace H : (if t553 = true then (if 0 ≤ (rd ((rd_T89 l0 x14_1).f6) x22_2) then (if (rd ((rd_T89 l0 x14_1).f6) x22_2) < (l0.length : Int) then (if ((rd_T89 l0 (rd ((rd_T89 l0 x14_1).f6) x22_2)).f5) = x14_1 then (if (rd ((rd_T89 l0 x14_1).f6) x22_2) < (x3_2.length : Int) then (impl_kidsOk.l1 k2 l0 (x3_2.set ((rd ((rd_T89 l0 x14_1).f6) x22_2) : Int).toNat (wrap64 ((rd x3_2 (rd ((rd_T89 l0 x14_1).f6) x22_2)) + 1))) x14_1 l0 (l0.length : Int) x14_1 ((rd_T89 l0 x14_1).f6) (((rd_T89 l0 x14_1).f6).length : Int) (wrap64 (x22_2 + 1))) else (none)) else (some false)) else (none)) else (none)) else (some false)) = some r := H
             have A14 := Aside0.mk A140
             clear A140
             by_cases c15 : t553 = true
             ·subst c15
              have H1 : (if 0 ≤ (rd ((rd_T89 l0 x14_1).f6) x22_2) then (if (rd ((rd_T89 l0 x14_1).f6) x22_2) < (l0.length : Int) then (if ((rd_T89 l0 (rd ((rd_T89 l0 x14_1).f6) x22_2)).f5) = x14_1 then (if (rd ((rd_T89 l0 x14_1).f6) x22_2) < (x3_2.length : Int) then (impl_kidsOk.l1 k2 l0 (x3_2.set ((rd ((rd_T89 l0 x14_1).f6) x22_2) : Int).toNat (wrap64 ((rd x3_2 (rd ((rd_T89 l0 x14_1).f6) x22_2)) + 1))) x14_1 l0 (l0.length : Int) x14_1 ((rd_T89 l0 x14_1).f6) (((rd_T89 l0 x14_1).f6).length : Int) (wrap64 (x22_2 + 1))) else (none)) else (some false)) else (none)) else (none)) = some r := by rw [if_pos rfl] at H; exact H
              clear H
              have H := H1
              clear H1
              by_cases c16 : 0 ≤ (rd ((rd_T89 l0 x14_1).f6) x22_2)
              ·rw [if_pos c16] at H
               have c16b0 : decide (0 ≤ (rd ((rd_T89 l0 x14_1).f6) x22_2)) = true := decide_eq_true c16
               clear c16
               by_cases c17 : (rd ((rd_T89 l0 x14_1).f6) x22_2) < (l0.length : Int)
               ·rw [if_pos c17] at H
                have c17b0 : decide ((rd ((rd_T89 l0 x14_1).f6) x22_2) < (l0.length : Int)) = true := decide_eq_true c17
                clear c17
                by_cases c18 : ((rd_T89 l0 (rd ((rd_T89 l0 x14_1).f6) x22_2)).f5) = x14_1
                ·rw [if_pos c18] at H
                 have c18b0 : (((rd_T89 l0 (rd ((rd_T89 l0 x14_1).f6) x22_2)).f5) == x14_1) = true := beq_iff_eq.mpr c18
                 have c18b1 : (((rd_T89 l0 (rd ((rd_T89 l0 x14_1).f6) x22_2)).f5) != x14_1) = false := bne_eq_false_iff_eq.mpr c18
                 clear c18
                 by_cases c19 : (rd ((rd_T89 l0 x14_1).f6) x22_2) < (x3_2.length : Int)
                 ·rw [if_pos c19] at H
                  have c19b0 : decide ((rd ((rd_T89 l0 x14_1).f6) x22_2) < (x3_2.length : Int)) = true := decide_eq_true c19
                  clear c19
                  obtain ⟨y556, hy556⟩ : ∃ y_ : List Int, y_ = (x3_2.set ((rd ((rd_T89 l0 x14_1).f6) x22_2) : Int).toNat (wrap64 ((rd x3_2 (rd ((rd_T89 l0 x14_1).f6) x22_2)) + 1))) := ⟨_, rfl⟩
                  replace H : (impl_kidsOk.l1 k2 l0 y556 x14_1 l0 (l0.length : Int) x14_1 ((rd_T89 l0 x14_1).f6) (((rd_T89 l0 x14_1).f6).length : Int) (wrap64 (x22_2 + 1))) = some r := by first | (rw [hy556]; with_reducible exact H) | (have H2_ := (Option.bind_some _ _).symm.trans H; rw [hy556]; with_reducible exact H2_) | (have H2_ := (Option.bind_some _ _).symm.trans H; with_reducible exact H2_) | with_reducible exact H | (rw [hy556]; exact H) | exact H
                  have Ny556 := Aside0.mk hy556
                  clear hy556
                  have H' := Aside0.mk H
                  clear H
                  have p552 : 0 ≤ (x22_2 : Int) := of_decide_eq_true (by first | (with_reducible assumption) | assumption)
                  have q552 : x22_2 < (((rd_T89 l0 x14_1).f6).length : Int) := of_decide_eq_true (by first | (with_reducible assumption) | assumption)
                  obtain ⟨ad552, e552, hx552_0⟩ := Kd.at_int HR550_6.out x22_2 p552 q552
                  cases e552
                  replace hx552_0 := (HB.out.cell (World.block_lt_of_cell? w _ hx552_0)).trans hx552_0
                  replace p552 := eq_true p552
                  replace q552 := eq_true q552
                  go_wp2_with (first | ((with_reducible refine gate_callee (f := 48) rfl ?_); refine goesL_ (some 30) rfl rfl Try.func48 (by kernel_rfl) rfl #[.int .i64 (rd ((rd_T89 l0 x14_1).f6) x22_2), .int .i64 1, .int .i64 (wrap64 ((l0.length : Int) - 1))] rfl (by (try simp only [List.map_toArray, List.map_cons, List.map_nil]); first | done | rfl | (simp only [List.length_drop, List.length_take]; rfl)) ?_; (with_reducible refine (impl_inRange.calls (rd ((rd_T89 l0 x14_1).f6) x22_2) 1 (wrap64 ((l0.length : Int) - 1)) true _ A14.out).mono ?_); rintro e w' ⟨rfl, ⟨nd, rfl⟩⟩; refine ⟨_, rfl, ?_⟩; (try (rw [drewN_self wr]; generalize hq_ : World.drewN wr _ = wr; have n0_ : Aside0 (Kd.R (Kd.int .i64) 3 wr w.heap.size (fun _ => True) v548 x3_2) := ⟨by rw [← hq_]; exact (by (with_reducible repeat (first | apply Kd.R_alloc | apply Kd.R_drewN | apply Kd.R_drew)); exact HO_3.out)⟩; have n1_ : Aside0 (wr.heap[gb551]? = some (.cells #[.int .i64 ((rd_T89 l0 x14_1).f0), .int .i64 ((rd_T89 l0 x14_1).f1), .string ((rd_T89 l0 x14_1).f2), .slice A550_3 ((rd_T89 l0 x14_1).f3).length c550_3, .string ((rd_T89 l0 x14_1).f4), .int .i64 ((rd_T89 l0 x14_1).f5), .slice (some ad552) ((rd_T89 l0 x14_1).f6).length c550_6] 89 (0, 0))) := ⟨by rw [← hq_]; exact (by (with_reducible repeat (first | refine blk_drewN ?_ _ | refine blk_drew ?_ | refine blk_alloc ?_ _)); exact BK551.out)⟩; have n2_ : Aside0 (Below w.heap.size w wr) := ⟨by rw [← hq_]; exact (by repeat (first | (with_reducible first | exact HB.out | apply below_alloc | apply pw_below_drewN | apply below_drew1 | refine below_set ?_ GE551.out) | exact HB.out))⟩; clear HO_3 BK551 HB hq_; have HO_3 := n0_; have BK551 := n1_; have HB := n2_; clear n0_ n1_ n2_)); have p554 : 0 ≤ ((rd ((rd_T89 l0 x14_1).f6) x22_2) : Int) := of_decide_eq_true (by first | (with_reducible assumption) | assumption); have q554 : (rd ((rd_T89 l0 x14_1).f6) x22_2) < (l0.length : Int) := of_decide_eq_true (by first | (with_reducible assumption) | assumption); obtain ⟨ad554, A554_3, c554_3, A554_6, c554_6, e554, hx554_0, hx554_1, hx554_2, hx554_3, hx554_4, hx554_5, hx554_6, hl554_3, hi554_3, hl554_6, hi554_6⟩ := at_T89 HR0.out (rd ((rd_T89 l0 x14_1).f6) x22_2) p554 q554; obtain rfl : ad550 = ad554 := (by injection e554); replace hx554_0 := (HB.out.cell (World.block_lt_of_cell? w _ hx554_0)).trans hx554_0; replace hx554_1 := (HB.out.cell (World.block_lt_of_cell? w _ hx554_1)).trans hx554_1; replace hx554_2 := (HB.out.cell (World.block_lt_of_cell? w _ hx554_2)).trans hx554_2; replace hx554_3 := (HB.out.cell (World.block_lt_of_cell? w _ hx554_3)).trans hx554_3; replace hx554_4 := (HB.out.cell (World.block_lt_of_cell? w _ hx554_4)).trans hx554_4; replace hx554_5 := (HB.out.cell (World.block_lt_of_cell? w _ hx554_5)).trans hx554_5; replace hx554_6 := (HB.out.cell (World.block_lt_of_cell? w _ hx554_6)).trans hx554_6; have HR554_3 := Aside0.mk hi554_3; have HC554_3 := Aside0.mk hl554_3; clear hi554_3 hl554_3; have HR554_6 := Aside0.mk hi554_6; have HC554_6 := Aside0.mk hl554_6; clear hi554_6 hl554_6; replace p554 := eq_true p554; replace q554 := eq_true q554; obtain ⟨Ao21, co21, eo21⟩ := Kd.R_slice HO_3.out; subst eo21; have p555 : 0 ≤ ((rd ((rd_T89 l0 x14_1).f6) x22_2) : Int) := of_decide_eq_true (by first | (with_reducible assumption) | assumption); have q555 : (rd ((rd_T89 l0 x14_1).f6) x22_2) < (x3_2.length : Int) := of_decide_eq_true (by first | (with_reducible assumption) | assumption); obtain ⟨ad555, e555, hx555_0⟩ := Kd.at_int (Kd.R_reads' HO_3.out).2.2 (rd ((rd_T89 l0 x14_1).f6) x22_2) p555 q555; cases e555; replace p555 := eq_true p555; replace q555 := eq_true q555; have p20 : 0 ≤ ((rd ((rd_T89 l0 x14_1).f6) x22_2) : Int) := of_decide_eq_true (by first | (with_reducible assumption) | assumption); have q20 : ((rd ((rd_T89 l0 x14_1).f6) x22_2) : Int) < ((x3_2.length : Int) : Int) := of_decide_eq_true (by first | (with_reducible assumption) | assumption); obtain ⟨go20, co20, eo20, gb20, gl20, cl20, HG20⟩ := Kd.R_form HO_3.out (by omega); (first | cases eo20 | (injection eo20 with ea_ en_ ec_; (first | subst ea_ | (injection ea_ with ea_; subst ea_)); subst ec_; clear en_)); have GB20 := Aside0.mk gb20; have GG20 := Aside0.mk HG20; clear gb20 gl20 HG20; (first | simp only [add_plain] at hx555_0 | skip); obtain ⟨hx20_0, hf20_0⟩ := Kd.R_celln 0 HO_3.out ((rd ((rd_T89 l0 x14_1).f6) x22_2) : Int) p20 q20; replace p20 := eq_true p20; replace q20 := eq_true q20; obtain ⟨hy22_, hz22_⟩ := Kd.R_celln 0 HO_3.out ((rd ((rd_T89 l0 x14_1).f6) x22_2) : Int) (of_decide_eq_true (by first | (with_reducible assumption) | assumption)) (of_decide_eq_true (by first | (with_reducible assumption) | assumption)); have HP22 := Kd.R_putg HO_3.out ((rd ((rd_T89 l0 x14_1).f6) x22_2) : Int) (wrap64 ((rd x3_2 (rd ((rd_T89 l0 x14_1).f6) x22_2)) + 1))) | ((with_reducible refine gate_store (t := 3) (p := 46) rfl ?_); refine store_event (t := 3) (p := 46) (v := ?vo_w23) (w1 := (wr.setCell ⟨go20, ((rd ((rd_T89 l0 x14_1).f6) x22_2) : Int).toNat, none⟩ (.int .i64 (wrap64 ((rd x3_2 (rd ((rd_T89 l0 x14_1).f6) x22_2)) + 1))))) ?hg ?ho ?hn ?hr ?_; (case ho => rfl); (case hg => rfl); (case hn => rfl); (case hr => first | (go_simp; done) | (go_simp; rfl)); intro w23 hw; have hg : wr.grownBy w23 (some go20) := (by rw [hw]; exact HP22.2); have hp_ : Kd.R (Kd.int .i64) 3 w23 w.heap.size (fun _ => True) (.slice (some ⟨go20, 0, none⟩) x3_2.length co21) y556 := (by rw [hw, Ny556.out]; exact HP22.1); clear HP22; have n0_ := Aside0.mk (hp_); have n1_ := Aside0.mk (blk_grown (g := gb551) (o := .cells #[.int .i64 ((rd_T89 l0 x14_1).f0), .int .i64 ((rd_T89 l0 x14_1).f1), .string ((rd_T89 l0 x14_1).f2), .slice A550_3 ((rd_T89 l0 x14_1).f3).length c550_3, .string ((rd_T89 l0 x14_1).f4), .int .i64 ((rd_T89 l0 x14_1).f5), .slice (some ad552) ((rd_T89 l0 x14_1).f6).length c550_6] 89 (0, 0)) (by (with_reducible repeat (first | refine blk_drewN ?_ _ | refine blk_drew ?_ | refine blk_alloc ?_ _)); exact BK551.out) hg (Kd.R_ne HO_3.out BK551.out (by decide))); have n2_ := Aside0.mk ((by rw [hw]; exact below_set (HB.out) GB20.out : Below w.heap.size w w23)); clear HO_3; clear BK551; clear HB; have HO_3 := n0_; have BK551 := n1_; have HB := n2_; clear n0_ n1_ n2_; clear hg hw hp_))
                  go_roundg k2
                  case measure => have := HK1.out; have := HK2.out; omega
                  case rel => exact ⟨(y556), (wrap64 (x22_2 + 1)), (by first | rfl | (simp; done) | (simp [*]; done)), H', ⟨by have := HK1.out; have := HK2.out; omega⟩, ⟨by (with_reducible repeat (first | apply Kd.R_alloc | apply Kd.R_drewN | apply Kd.R_drew)); exact HO_3.out⟩, ⟨by (with_reducible repeat (first | refine blk_drewN ?_ _ | refine blk_drew ?_ | refine blk_alloc ?_ _)); exact BK551.out⟩, ⟨by repeat (first | (with_reducible first | exact HB.out | apply below_alloc | apply pw_below_drewN | apply below_drew1 | refine below_set ?_ GE551.out) | exact HB.out)⟩⟩
                 ·rw [if_neg c19] at H
                  exact absurd H (by simp)
                ·rw [if_neg c18] at H
                 have c18b0 : (((rd_T89 l0 (rd ((rd_T89 l0 x14_1).f6) x22_2)).f5) == x14_1) = false := beq_eq_false_iff_ne.mpr c18
                 have c18b1 : (((rd_T89 l0 (rd ((rd_T89 l0 x14_1).f6) x22_2)).f5) != x14_1) = true := bne_iff_ne.mpr c18
                 obtain rfl := Option.some.inj H
                 have p552 : 0 ≤ (x22_2 : Int) := of_decide_eq_true (by first | (with_reducible assumption) | assumption)
                 have q552 : x22_2 < (((rd_T89 l0 x14_1).f6).length : Int) := of_decide_eq_true (by first | (with_reducible assumption) | assumption)
                 obtain ⟨ad552, e552, hx552_0⟩ := Kd.at_int HR550_6.out x22_2 p552 q552
                 cases e552
                 replace hx552_0 := (HB.out.cell (World.block_lt_of_cell? w _ hx552_0)).trans hx552_0
                 replace p552 := eq_true p552
                 replace q552 := eq_true q552
                 go_wp2_with (first | ((with_reducible refine gate_callee (f := 48) rfl ?_); refine goesL_ (some 30) rfl rfl Try.func48 (by kernel_rfl) rfl #[.int .i64 (rd ((rd_T89 l0 x14_1).f6) x22_2), .int .i64 1, .int .i64 (wrap64 ((l0.length : Int) - 1))] rfl (by (try simp only [List.map_toArray, List.map_cons, List.map_nil]); first | done | rfl | (simp only [List.length_drop, List.length_take]; rfl)) ?_; (with_reducible refine (impl_inRange.calls (rd ((rd_T89 l0 x14_1).f6) x22_2) 1 (wrap64 ((l0.length : Int) - 1)) true _ A14.out).mono ?_); rintro e w' ⟨rfl, ⟨nd, rfl⟩⟩; refine ⟨_, rfl, ?_⟩; have p554 : 0 ≤ ((rd ((rd_T89 l0 x14_1).f6) x22_2) : Int) := of_decide_eq_true (by first | (with_reducible assumption) | assumption); have q554 : (rd ((rd_T89 l0 x14_1).f6) x22_2) < (l0.length : Int) := of_decide_eq_true (by first | (with_reducible assumption) | assumption); obtain ⟨ad554, A554_3, c554_3, A554_6, c554_6, e554, hx554_0, hx554_1, hx554_2, hx554_3, hx554_4, hx554_5, hx554_6, hl554_3, hi554_3, hl554_6, hi554_6⟩ := at_T89 HR0.out (rd ((rd_T89 l0 x14_1).f6) x22_2) p554 q554; obtain rfl : ad550 = ad554 := (by injection e554); replace hx554_0 := (HB.out.cell (World.block_lt_of_cell? w _ hx554_0)).trans hx554_0; replace hx554_1 := (HB.out.cell (World.block_lt_of_cell? w _ hx554_1)).trans hx554_1; replace hx554_2 := (HB.out.cell (World.block_lt_of_cell? w _ hx554_2)).trans hx554_2; replace hx554_3 := (HB.out.cell (World.block_lt_of_cell? w _ hx554_3)).trans hx554_3; replace hx554_4 := (HB.out.cell (World.block_lt_of_cell? w _ hx554_4)).trans hx554_4; replace hx554_5 := (HB.out.cell (World.block_lt_of_cell? w _ hx554_5)).trans hx554_5; replace hx554_6 := (HB.out.cell (World.block_lt_of_cell? w _ hx554_6)).trans hx554_6; have HR554_3 := Aside0.mk hi554_3; have HC554_3 := Aside0.mk hl554_3; clear hi554_3 hl554_3; have HR554_6 := Aside0.mk hi554_6; have HC554_6 := Aside0.mk hl554_6; clear hi554_6 hl554_6; replace p554 := eq_true p554; replace q554 := eq_true q554))
                 go_ret
                 exact ⟨by first | rfl | (simp [errW_none, errW_some] <;> rfl) | (simp [*, errW_none, errW_some] <;> rfl), by repeat (first | (with_reducible first | exact HB.out | apply below_alloc | apply pw_below_drewN | apply below_drew1 | refine below_set ?_ GE551.out) | exact HB.out)⟩
               ·rw [if_neg c17] at H
                exact absurd H (by simp)
              ·rw [if_neg c16] at H
               exact absurd H (by simp)
             ·replace c15 := Bool.eq_false_iff.mpr c15
              subst c15
              have H1 : (some false) = some r := by rw [if_neg (show ¬ (false = true) by decide)] at H; exact H
              clear H
              have H := H1
              clear H1
              obtain rfl := Option.some.inj H
              have p552 : 0 ≤ (x22_2 : Int) := of_decide_eq_true (by first | (with_reducible assumption) | assumption)
              have q552 : x22_2 < (((rd_T89 l0 x14_1).f6).length : Int) := of_decide_eq_true (by first | (with_reducible assumption) | assumption)
              obtain ⟨ad552, e552, hx552_0⟩ := Kd.at_int HR550_6.out x22_2 p552 q552
              cases e552
              replace hx552_0 := (HB.out.cell (World.block_lt_of_cell? w _ hx552_0)).trans hx552_0
              replace p552 := eq_true p552
              replace q552 := eq_true q552
              go_wp2_with (first | ((with_reducible refine gate_callee (f := 48) rfl ?_); refine goesL_ (some 30) rfl rfl Try.func48 (by kernel_rfl) rfl #[.int .i64 (rd ((rd_T89 l0 x14_1).f6) x22_2), .int .i64 1, .int .i64 (wrap64 ((l0.length : Int) - 1))] rfl (by (try simp only [List.map_toArray, List.map_cons, List.map_nil]); first | done | rfl | (simp only [List.length_drop, List.length_take]; rfl)) ?_; (with_reducible refine (impl_inRange.calls (rd ((rd_T89 l0 x14_1).f6) x22_2) 1 (wrap64 ((l0.length : Int) - 1)) false _ A14.out).mono ?_); rintro e w' ⟨rfl, ⟨nd, rfl⟩⟩; refine ⟨_, rfl, ?_⟩))
              go_ret
              exact ⟨by first | rfl | (simp [errW_none, errW_some] <;> rfl) | (simp [*, errW_none, errW_some] <;> rfl), by repeat (first | (with_reducible first | exact HB.out | apply below_alloc | apply pw_below_drewN | apply below_drew1 | refine below_set ?_ GE551.out) | exact HB.out)⟩
            ·rw [if_neg c13] at H
             exact absurd H (by simp)
           ·rw [if_neg c12] at H
            exact absurd H (by simp)
          ·rw [if_neg c11] at H
           have c11b0 : decide (x22_2 < (((rd_T89 l0 x14_1).f6).length : Int)) = false := decide_eq_false c11
           clear c11
           have H' := Aside0.mk H
           clear H
           go_wp2
           go_roundg k2
           case measure => have := HK1.out; have := HK2.out; omega
           case rel => exact ⟨(x3_2), (wrap64 (x14_1 + 1)), (by first | rfl | (simp; done) | (simp [*]; done)), H', ⟨by have := HK1.out; have := HK2.out; omega⟩, ⟨by (with_reducible repeat (first | apply Kd.R_alloc | apply Kd.R_drewN | apply Kd.R_drew)); exact HO_3.out⟩, ⟨by repeat (first | (with_reducible first | exact HB.out | apply below_alloc | apply pw_below_drewN | apply below_drew1 | refine below_set ?_ GE551.out) | exact HB.out)⟩⟩
       ·rw [if_neg c8] at H
        exact absurd H (by simp)
      ·rw [if_neg c7] at H
       exact absurd H (by simp)
     ·rw [if_neg c6] at H
      have c6b0 : decide (x14_1 < (l0.length : Int)) = false := decide_eq_false c6
      clear c6
      have H' := Aside0.mk H
      clear H
      go_wp2
      go_loopg [8] k1 (fun kq v8 w' => ∃ (x8_2 : Int), v8 = .int .i64 x8_2 ∧ Aside0 (impl_kidsOk.l2 kq l0 x3_1 x8_2 = some r) ∧ Aside0 (kq ≤ k1) ∧ Aside0 (Kd.R (Kd.int .i64) 3 w' w.heap.size (fun _ => True) v548 x3_1) ∧ Aside0 (Below w.heap.size w w'))
      case atStart => exact ⟨(1), (by first | rfl | (simp; done) | (simp [*]; done)), H', ⟨Nat.le_refl _⟩, ⟨by (with_reducible repeat (first | apply Kd.R_alloc | apply Kd.R_drewN | apply Kd.R_drew)); exact HO_3.out⟩, ⟨by repeat (first | (with_reducible first | exact HB.out | apply below_alloc | apply pw_below_drewN | apply below_drew1) | exact HB.out)⟩⟩
      case round =>
       clear H'
       try clear c1
       try clear c2
       try clear c2b0
       try clear c2b1
       try clear p2
       try clear q2
       try clear hx2
       try clear hf2
       try clear c3
       try clear c3b0
       try clear c3b1
       try clear c4
       try clear c5
       try clear p5
       try clear q5
       try clear hx5
       try clear c6
       try clear c6b0
       try clear p6
       try clear c7
       try clear c7b0
       try clear c8
       try clear c8b0
       try clear c11
       try clear c11b0
       try clear c12
       try clear c12b0
       try clear c13
       try clear c13b0
       try clear c15
       try clear c16
       try clear c16b0
       try clear c17
       try clear c17b0
       try clear c18
       try clear c18b0
       try clear c18b1
       try clear c19
       try clear c19b0
       try clear p20
       try clear q20
       try clear hx20
       try clear hf20
       try clear hcz10_0
       try clear hcz10_1
       try clear hcz10_2
       try clear hcz10_3
       try clear hcz10_4
       try clear hcz10_5
       try clear hcz10_6
       try clear hfz10_0
       try clear hfz10_1
       try clear hfz10_2
       try clear hfz10_3
       try clear hfz10_4
       try clear hfz10_5
       try clear hfz10_6
       try clear hx20_0
       try clear hx550_0
       try clear hx550_1
       try clear hx550_2
       try clear hx550_3
       try clear hx550_4
       try clear hx550_5
       try clear hx550_6
       try clear hx552_0
       try clear hx554_0
       try clear hx554_1
       try clear hx554_2
       try clear hx554_3
       try clear hx554_4
       try clear hx554_5
       try clear hx554_6
       try clear hx555_0
       try clear p2
       try clear p20
       try clear p5
       try clear p550
       try clear p552
       try clear p554
       try clear p555
       try clear q20
       try clear q5
       try clear q550
       try clear q552
       try clear q554
       try clear q555
       obtain ⟨x8_2, rfl, HA, HK2, HO_3, HB⟩ := hrel
       cases gk with
       | zero => exact absurd HA.out (by simp [impl_kidsOk.l2])
       | succ k2 =>
        have H := HA.out
        clear HA
        simp only [impl_kidsOk.l2] at H
        by_cases c24 : x8_2 < (l0.length : Int)
        ·rw [if_pos c24] at H
         have c24b0 : decide (x8_2 < (l0.length : Int)) = true := decide_eq_true c24
         clear c24
         by_cases c25 : 0 ≤ x8_2
         ·rw [if_pos c25] at H
          have c25b0 : decide (0 ≤ x8_2) = true := decide_eq_true c25
          clear c25
          by_cases c26 : x8_2 < (x3_1.length : Int)
          ·rw [if_pos c26] at H
           have c26b0 : decide (x8_2 < (x3_1.length : Int)) = true := decide_eq_true c26
           clear c26
           by_cases c27 : (rd x3_1 x8_2) = 1
           ·rw [if_pos c27] at H
            have c27b0 : ((rd x3_1 x8_2) == 1) = true := beq_iff_eq.mpr c27
            have c27b1 : ((rd x3_1 x8_2) != 1) = false := bne_eq_false_iff_eq.mpr c27
            clear c27
            have H' := Aside0.mk H
            clear H
            obtain ⟨Ao28, co28, eo28⟩ := Kd.R_slice HO_3.out
            subst eo28
            have p557 : 0 ≤ (x8_2 : Int) := of_decide_eq_true (by first | (with_reducible assumption) | assumption)
            have q557 : x8_2 < (x3_1.length : Int) := of_decide_eq_true (by first | (with_reducible assumption) | assumption)
            obtain ⟨ad557, e557, hx557_0⟩ := Kd.at_int (Kd.R_reads' HO_3.out).2.2 x8_2 p557 q557
            cases e557
            replace p557 := eq_true p557
            replace q557 := eq_true q557
            go_wp2
            go_roundg k2
            case measure => have := HK1.out; have := HK2.out; omega
            case rel => exact ⟨(wrap64 (x8_2 + 1)), (by first | rfl | (simp; done) | (simp [*]; done)), H', ⟨by have := HK1.out; have := HK2.out; omega⟩, ⟨by (with_reducible repeat (first | apply Kd.R_alloc | apply Kd.R_drewN | apply Kd.R_drew)); exact HO_3.out⟩, ⟨by repeat (first | (with_reducible first | exact HB.out | apply below_alloc | apply pw_below_drewN | apply below_drew1) | exact HB.out)⟩⟩
           ·rw [if_neg c27] at H
            have c27b0 : ((rd x3_1 x8_2) == 1) = false := beq_eq_false_iff_ne.mpr c27
            have c27b1 : ((rd x3_1 x8_2) != 1) = true := bne_iff_ne.mpr c27
            obtain rfl := Option.some.inj H
            obtain ⟨Ao29, co29, eo29⟩ := Kd.R_slice HO_3.out
            subst eo29
            have p557 : 0 ≤ (x8_2 : Int) := of_decide_eq_true (by first | (with_reducible assumption) | assumption)
            have q557 : x8_2 < (x3_1.length : Int) := of_decide_eq_true (by first | (with_reducible assumption) | assumption)
            obtain ⟨ad557, e557, hx557_0⟩ := Kd.at_int (Kd.R_reads' HO_3.out).2.2 x8_2 p557 q557
            cases e557
            replace p557 := eq_true p557
            replace q557 := eq_true q557
            go_wp2
            go_ret
            exact ⟨by first | rfl | (simp [errW_none, errW_some] <;> rfl) | (simp [*, errW_none, errW_some] <;> rfl), by repeat (first | (with_reducible first | exact HB.out | apply below_alloc | apply pw_below_drewN | apply below_drew1) | exact HB.out)⟩
          ·rw [if_neg c26] at H
           exact absurd H (by simp)
         ·rw [if_neg c25] at H
          exact absurd H (by simp)
        ·rw [if_neg c24] at H
         have c24b0 : decide (x8_2 < (l0.length : Int)) = false := decide_eq_false c24
         clear c24
         obtain rfl := Option.some.inj H
         go_wp2
         go_ret
         exact ⟨by first | rfl | (simp [errW_none, errW_some] <;> rfl) | (simp [*, errW_none, errW_some] <;> rfl), by repeat (first | (with_reducible first | exact HB.out | apply below_alloc | apply pw_below_drewN | apply below_drew1) | exact HB.out)⟩
  ·rw [if_neg c3] at H
   exact absurd H (by simp)
 ·rw [if_neg c2] at H
  exact absurd H (by simp)
end Go.Proofs.Ytlocaaebgghkbaa.A
namespace Go.Proofs.Ytlocaaebgghkbaa.A
open Go.RowKit Go.Proofs.YtlocaaebgghkbaaW.PrintWords Go.Proofs.YtlocaaebgghkbaaW.PrintLast Go.Proofs.YtlocaaebgghkbaaW.PrintMore
attribute [local go_sem] max2_int min2_int max_two min_two max_three min_three max_four min_four   -- for this text's walks alone
set_option linter.unusedVariables false
set_option linter.unusedSimpArgs false
mutual
def impl_TreeOk.j0 : Nat → List (S89) → Bool → Option (Bool)
 | 0, _, _ => none
 | k + 1, x0, x15 => if x15 = true then (some false) else (if 1 ≤ (x0.length : Int) then ((some (x0.drop 1 : List (S89))).bind fun y561 => (impl_TreeOk.l0 k x0 y561 (y561.length : Int) 0)) else (none))
def impl_TreeOk.l0 : Nat → List (S89) → List (S89) → Int → Int → Option (Bool)
 | 0, _, _, _, _ => none
 | k + 1, x0, x17, x18, x19 => if x19 < x18 then (if 0 ≤ x19 then (if x19 < (x17.length : Int) then ((impl_itemOk.f k ((rd_T89 x17 x19).f0) ((rd_T89 x17 x19).f1) ((rd_T89 x17 x19).f2) ((rd_T89 x17 x19).f3) ((rd_T89 x17 x19).f4) ((rd_T89 x17 x19).f5) ((rd_T89 x17 x19).f6)).bind fun t571 => (if t571 = true then ((impl_inRange.f ((rd_T89 x17 x19).f5) 0 (wrap64 ((x0.length : Int) - 1))).bind fun t572 => (if t572 = true then (if 0 ≤ ((rd_T89 x17 x19).f5) then (if ((rd_T89 x17 x19).f5) < (x0.length : Int) then ((impl_hasKids.f ((rd_T89 x0 ((rd_T89 x17 x19).f5)).f0)).bind fun t574 => (if t574 = true then (impl_TreeOk.l0 k x0 x17 x18 (wrap64 (x19 + 1))) else (some false))) else (none)) else (none)) else (some false))) else (some false))) else (none)) else (none)) else ((impl_kidsOk.f k x0).bind fun t565 => (if t565 = true then ((impl_order.f k x0).bind fun t566 => (some ((t566.length : Int) == (x0.length : Int)))) else (some false)))
end
def impl_TreeOk.f (k : Nat) (l0 : List (S89)) : Option (Bool) := (impl_inRange.f (l0.length : Int) 1 3000).bind fun t558 => (if t558 = true then (if 0 < (l0.length : Int) then ((impl_pageOk.f ((rd_T89 l0 0).f0) ((rd_T89 l0 0).f1) ((rd_T89 l0 0).f2) ((rd_T89 l0 0).f3) ((rd_T89 l0 0).f4) ((rd_T89 l0 0).f5) ((rd_T89 l0 0).f6)).bind fun t560 => (impl_TreeOk.j0 k l0 (!t560))) else (none)) else (impl_TreeOk.j0 k l0 true))
theorem impl_TreeOk.mono_l : ∀ k, (∀ y0 y1, LeO (impl_TreeOk.j0 k y0 y1) (impl_TreeOk.j0 (k + 1) y0 y1)) ∧ (∀ y0 y1 y2 y3, LeO (impl_TreeOk.l0 k y0 y1 y2 y3) (impl_TreeOk.l0 (k + 1) y0 y1 y2 y3))
 | 0 => ⟨fun _ _ r h => by simp [impl_TreeOk.j0] at h, fun _ _ _ _ r h => by simp [impl_TreeOk.l0] at h⟩
 | k + 1 => by
  obtain ⟨ih0, ih1⟩ := impl_TreeOk.mono_l k
  refine ⟨?_, ?_⟩
  ·intro y0 y1
   unfold impl_TreeOk.j0
   repeat' first
   | (with_reducible exact ih0 _ _)
   | (with_reducible exact ih1 _ _ _ _)
   | (with_reducible exact impl_itemOk.mono _ _ _ _ _ _ _ _)
   | (with_reducible exact impl_kidsOk.mono _ _)
   | (with_reducible exact impl_order.mono _ _)
   | (with_reducible exact LeO.refl _)
   | (with_reducible exact LeO.none _)
   | (with_reducible refine LeO.ite ?_ ?_)
   | (with_reducible refine LeO.bind ?_ (fun _ => ?_))
   | exact ih0 _ _
   | exact ih1 _ _ _ _
   | exact impl_itemOk.mono _ _ _ _ _ _ _ _
   | exact impl_kidsOk.mono _ _
   | exact impl_order.mono _ _
   | exact LeO.none _
   | refine LeO.ite ?_ ?_
   | refine LeO.bind ?_ (fun _ => ?_)
  ·intro y0 y1 y2 y3
   unfold impl_TreeOk.l0
   repeat' first
   | (with_reducible exact ih0 _ _)
   | (with_reducible exact ih1 _ _ _ _)
   | (with_reducible exact impl_itemOk.mono _ _ _ _ _ _ _ _)
   | (with_reducible exact impl_kidsOk.mono _ _)
   | (with_reducible exact impl_order.mono _ _)
   | (with_reducible exact LeO.refl _)
   | (with_reducible exact LeO.none _)
   | (with_reducible refine LeO.ite ?_ ?_)
   | (with_reducible refine LeO.bind ?_ (fun _ => ?_))
   | exact ih0 _ _
   | exact ih1 _ _ _ _
   | exact impl_itemOk.mono _ _ _ _ _ _ _ _
   | exact impl_kidsOk.mono _ _
   | exact impl_order.mono _ _
   | exact LeO.none _
   | refine LeO.ite ?_ ?_
   | refine LeO.bind ?_ (fun _ => ?_)
theorem impl_TreeOk.mono : ∀ a0 k, LeO (impl_TreeOk.f k a0) (impl_TreeOk.f (k + 1) a0) := by
 intro a0 k
 obtain ⟨ih0, ih1⟩ := impl_TreeOk.mono_l k
 unfold impl_TreeOk.f
 repeat' first
   | (with_reducible exact ih0 _ _)
   | (with_reducible exact ih1 _ _ _ _)
   | (with_reducible exact impl_itemOk.mono _ _ _ _ _ _ _ _)
   | (with_reducible exact impl_kidsOk.mono _ _)
   | (with_reducible exact impl_order.mono _ _)
   | (with_reducible exact LeO.refl _)
   | (with_reducible exact LeO.none _)
   | (with_reducible refine LeO.ite ?_ ?_)
   | (with_reducible refine LeO.bind ?_ (fun _ => ?_))
   | exact ih0 _ _
   | exact ih1 _ _ _ _
   | exact impl_itemOk.mono _ _ _ _ _ _ _ _
   | exact impl_kidsOk.mono _ _
   | exact impl_order.mono _ _
   | exact LeO.none _
   | refine LeO.ite ?_ ?_
   | refine LeO.bind ?_ (fun _ => ?_)
set_option maxHeartbeats 8000000 in
set_option maxRecDepth 100000 in
theorem impl_TreeOk.calls (k : Nat) (A0 : Option Addr) (c0 : Nat) (l0 : List (S89)) (r : Bool) (w : World) (hr0 : Kd.C k89 w A0 l0.length l0) (hc0 : l0.length ≤ c0) (h : impl_TreeOk.f k l0 = some r) :
  Calls Try.prog 76 #[.slice A0 l0.length c0] w fun e w' => e = .returned (.bool r) ∧ Below w.heap.size w w' := by
 have hu89 := Try.underlying89
 have HR0 := Aside0.mk hr0
 have HC0 := Aside0.mk hc0
 clear hr0 hc0
 have HB := Aside0.mk (Below.refl w.heap.size w)
 have H : ((impl_inRange.f (l0.length : Int) 1 3000).bind fun t558 => (if t558 = true then (if 0 < (l0.length : Int) then ((impl_pageOk.f ((rd_T89 l0 0).f0) ((rd_T89 l0 0).f1) ((rd_T89 l0 0).f2) ((rd_T89 l0 0).f3) ((rd_T89 l0 0).f4) ((rd_T89 l0 0).f5) ((rd_T89 l0 0).f6)).bind fun t560 => (impl_TreeOk.j0 k l0 (!t560))) else (none)) else (impl_TreeOk.j0 k l0 true))) = some r := h
 clear h
 have HC2 := Aside0.mk H
 clear H
 go_enter Try.func76, Try.ntmps76
 go_upto_region 1 with (fail)
 go_cut [15] (fun v15 wc => ∃ (kq : Nat) (x15_1 : Bool), v15 = .bool x15_1 ∧ Aside0 (impl_TreeOk.j0 kq l0 x15_1 = some r) ∧ Aside0 (kq ≤ k) ∧ Aside0 (Below w.heap.size w wc))
 case first =>
  have H := HC2.out
  clear HC2
  replace H := Option.bind_eq_some_iff.mp H
  obtain ⟨t558, A30, H⟩ := H
  replace H : (if t558 = true then (if 0 < (l0.length : Int) then ((impl_pageOk.f ((rd_T89 l0 0).f0) ((rd_T89 l0 0).f1) ((rd_T89 l0 0).f2) ((rd_T89 l0 0).f3) ((rd_T89 l0 0).f4) ((rd_T89 l0 0).f5) ((rd_T89 l0 0).f6)).bind fun t560 => (impl_TreeOk.j0 k l0 (!t560))) else (none)) else (impl_TreeOk.j0 k l0 true)) = some r := H
  have A3 := Aside0.mk A30
  clear A30
  by_cases c4 : t558 = true
  ·subst c4
   have H1 : (if 0 < (l0.length : Int) then ((impl_pageOk.f ((rd_T89 l0 0).f0) ((rd_T89 l0 0).f1) ((rd_T89 l0 0).f2) ((rd_T89 l0 0).f3) ((rd_T89 l0 0).f4) ((rd_T89 l0 0).f5) ((rd_T89 l0 0).f6)).bind fun t560 => (impl_TreeOk.j0 k l0 (!t560))) else (none)) = some r := by rw [if_pos rfl] at H; exact H
   clear H
   have H := H1
   clear H1
   by_cases c5 : 0 < (l0.length : Int)
   ·rw [if_pos c5] at H
    have c5b0 : decide (0 < (l0.length : Int)) = true := decide_eq_true c5
    have c5b1 : decide (0 < l0.length) = true := decide_eq_true (by omega)
    clear c5
    (first | rw [c5b0] | (simp only [i64_w, i32_w]; rw [c5b0]) | skip)
    replace H := Option.bind_eq_some_iff.mp H
    obtain ⟨t560, A60, H⟩ := H
    replace H : (impl_TreeOk.j0 k l0 (!t560)) = some r := H
    have A6 := Aside0.mk A60
    clear A60
    have H' := Aside0.mk H
    clear H
    go_wp2_with (first | ((with_reducible refine gate_callee (f := 48) rfl ?_); refine goesL_ (some 7) rfl rfl Try.func48 (by kernel_rfl) rfl #[.int .i64 (l0.length : Int), .int .i64 1, .int .i64 3000] rfl (by (try simp only [List.map_toArray, List.map_cons, List.map_nil]); first | done | rfl | (simp only [List.length_drop, List.length_take]; rfl)) ?_; (with_reducible refine (impl_inRange.calls (l0.length : Int) 1 3000 true _ A3.out).mono ?_); rintro e w' ⟨rfl, ⟨nd, rfl⟩⟩; refine ⟨_, rfl, ?_⟩; have p559 : 0 ≤ (0 : Int) := (by omega); have q559 : 0 < (l0.length : Int) := of_decide_eq_true (by first | (with_reducible assumption) | assumption); obtain ⟨ad559, A559_3, c559_3, A559_6, c559_6, e559, hx559_0, hx559_1, hx559_2, hx559_3, hx559_4, hx559_5, hx559_6, hl559_3, hi559_3, hl559_6, hi559_6⟩ := at_T89 HR0.out 0 p559 q559; cases e559; have qi559 : (0 < l0.length) = True := eq_true (by omega); (try rw [show ((0 : Int)).toNat = 0 from rfl] at hx559_0); (try rw [show 0 * 7 = 0 from rfl] at hx559_0); (try rw [Addr.add_zero'] at hx559_0); (try rw [show ((0 : Int)).toNat = 0 from rfl] at hx559_1); (try rw [show 0 * 7 = 0 from rfl] at hx559_1); (try rw [Addr.add_zero'] at hx559_1); (try rw [show ((0 : Int)).toNat = 0 from rfl] at hx559_2); (try rw [show 0 * 7 = 0 from rfl] at hx559_2); (try rw [Addr.add_zero'] at hx559_2); (try rw [show ((0 : Int)).toNat = 0 from rfl] at hx559_3); (try rw [show 0 * 7 = 0 from rfl] at hx559_3); (try rw [Addr.add_zero'] at hx559_3); (try rw [show ((0 : Int)).toNat = 0 from rfl] at hx559_4); (try rw [show 0 * 7 = 0 from rfl] at hx559_4); (try rw [Addr.add_zero'] at hx559_4); (try rw [show ((0 : Int)).toNat = 0 from rfl] at hx559_5); (try rw [show 0 * 7 = 0 from rfl] at hx559_5); (try rw [Addr.add_zero'] at hx559_5); (try rw [show ((0 : Int)).toNat = 0 from rfl] at hx559_6); (try rw [show 0 * 7 = 0 from rfl] at hx559_6); (try rw [Addr.add_zero'] at hx559_6); replace hx559_0 := (HB.out.cell (World.block_lt_of_cell? w _ hx559_0)).trans hx559_0; replace hx559_1 := (HB.out.cell (World.block_lt_of_cell? w _ hx559_1)).trans hx559_1; replace hx559_2 := (HB.out.cell (World.block_lt_of_cell? w _ hx559_2)).trans hx559_2; replace hx559_3 := (HB.out.cell (World.block_lt_of_cell? w _ hx559_3)).trans hx559_3; replace hx559_4 := (HB.out.cell (World.block_lt_of_cell? w _ hx559_4)).trans hx559_4; replace hx559_5 := (HB.out.cell (World.block_lt_of_cell? w _ hx559_5)).trans hx559_5; replace hx559_6 := (HB.out.cell (World.block_lt_of_cell? w _ hx559_6)).trans hx559_6; have HR559_3 := Aside0.mk hi559_3; have HC559_3 := Aside0.mk hl559_3; clear hi559_3 hl559_3; have HR559_6 := Aside0.mk hi559_6; have HC559_6 := Aside0.mk hl559_6; clear hi559_6 hl559_6; replace p559 := eq_true p559; replace q559 := eq_true q559) | (go_at_call 109; (with_reducible refine (impl_pageOk.calls ((rd_T89 l0 0).f0) ((rd_T89 l0 0).f1) ((rd_T89 l0 0).f2) _ _ ((rd_T89 l0 0).f3) ((rd_T89 l0 0).f4) ((rd_T89 l0 0).f5) _ _ ((rd_T89 l0 0).f6) t560 _ ?side1 ?side2 ?side3 ?side4 A6.out).mono ?_); (case side1 => repeat (first | exact (Kd.C_below HR559_3.out (by repeat (first | (with_reducible first | exact HB.out | apply below_alloc | apply pw_below_drewN | apply below_drew1) | exact HB.out))) | (with_reducible refine Kd.C_alloc ?_ _) | (with_reducible refine Kd.C_drewN ?_ _) | (with_reducible refine Kd.C_drew ?_))); (case side2 => exact HC559_3.out); (case side3 => repeat (first | exact (Kd.C_below HR559_6.out (by repeat (first | (with_reducible first | exact HB.out | apply below_alloc | apply pw_below_drewN | apply below_drew1) | exact HB.out))) | (with_reducible refine Kd.C_alloc ?_ _) | (with_reducible refine Kd.C_drewN ?_ _) | (with_reducible refine Kd.C_drew ?_))); (case side4 => exact HC559_6.out); rintro e w7 ⟨rfl, hb⟩; have n0_ := Aside0.mk (below_step (by repeat (first | (with_reducible first | exact HB.out | apply below_alloc | apply pw_below_drewN | apply below_drew1) | exact HB.out)) hb); clear HB; have HB := n0_; clear n0_; (try clear hb); (try clear hb2); (try clear hk); (try clear hi)))
    go_meet
    case rel => exact ⟨_, (!t560), (by first | rfl | (simp; done) | (simp [*]; done)), H', ⟨by first | omega | exact Nat.le_refl _⟩, ⟨by repeat (first | (with_reducible first | exact HB.out | apply below_alloc | apply pw_below_drewN | apply below_drew1) | exact HB.out)⟩⟩
   ·rw [if_neg c5] at H
    exact absurd H (by simp)
  ·replace c4 := Bool.eq_false_iff.mpr c4
   subst c4
   have H1 : (impl_TreeOk.j0 k l0 true) = some r := by rw [if_neg (show ¬ (false = true) by decide)] at H; exact H
   clear H
   have H := H1
   clear H1
   have H' := Aside0.mk H
   clear H
   go_wp2_with (first | ((with_reducible refine gate_callee (f := 48) rfl ?_); refine goesL_ (some 7) rfl rfl Try.func48 (by kernel_rfl) rfl #[.int .i64 (l0.length : Int), .int .i64 1, .int .i64 3000] rfl (by (try simp only [List.map_toArray, List.map_cons, List.map_nil]); first | done | rfl | (simp only [List.length_drop, List.length_take]; rfl)) ?_; (with_reducible refine (impl_inRange.calls (l0.length : Int) 1 3000 false _ A3.out).mono ?_); rintro e w' ⟨rfl, ⟨nd, rfl⟩⟩; refine ⟨_, rfl, ?_⟩))
   go_meet
   case rel => exact ⟨_, (true), (by first | rfl | (simp; done) | (simp [*]; done)), H', ⟨by first | omega | exact Nat.le_refl _⟩, ⟨by repeat (first | (with_reducible first | exact HB.out | apply below_alloc | apply pw_below_drewN | apply below_drew1) | exact HB.out)⟩⟩
 case rest =>
  clear HC2
  try clear p2
  try clear c4
  try clear c5
  try clear c5b0
  try clear c5b1
  try clear p5
  try clear q5
  try clear hx5
  try clear qi5
  try clear c7
  try clear hx559_0
  try clear hx559_1
  try clear hx559_2
  try clear hx559_3
  try clear hx559_4
  try clear hx559_5
  try clear hx559_6
  try clear p559
  try clear q559
  obtain ⟨kq, x15_1, rfl, HA, HJ1, HB⟩ := hcut
  cases kq with
  | zero => exact absurd HA.out (by simp [impl_TreeOk.j0])
  | succ kj1 =>
   have H := HA.out
   clear HA
   simp only [impl_TreeOk.j0] at H
   by_cases c8 : x15_1 = true
   ·subst c8
    have H1 : (some false) = some r := by rw [if_pos rfl] at H; exact H
    clear H
    have H := H1
    clear H1
    obtain rfl := Option.some.inj H
    go_wp2
    go_ret
    exact ⟨by first | rfl | (simp [errW_none, errW_some] <;> rfl) | (simp [*, errW_none, errW_some] <;> rfl), by repeat (first | (with_reducible first | exact HB.out | apply below_alloc | apply pw_below_drewN | apply below_drew1) | exact HB.out)⟩
   ·replace c8 := Bool.eq_false_iff.mpr c8
    subst c8
    have H1 : (if 1 ≤ (l0.length : Int) then ((some (l0.drop 1 : List (S89))).bind fun y561 => (impl_TreeOk.l0 kj1 l0 y561 (y561.length : Int) 0)) else (none)) = some r := by rw [if_neg (show ¬ (false = true) by decide)] at H; exact H
    clear H
    have H := H1
    clear H1
    by_cases c9 : 1 ≤ (l0.length : Int)
    ·rw [if_pos c9] at H
     have c9b0 := eq_true c9
     have c9b1 : decide (1 ≤ (l0.length : Int)) = true := decide_eq_true c9
     clear c9
     obtain ⟨y561, hy561⟩ : ∃ y_ : List (S89), y_ = (l0.drop 1) := ⟨_, rfl⟩
     replace H : (impl_TreeOk.l0 kj1 l0 y561 (y561.length : Int) 0) = some r := by first | (rw [hy561]; with_reducible exact H) | (have H2_ := (Option.bind_some _ _).symm.trans H; rw [hy561]; with_reducible exact H2_) | (have H2_ := (Option.bind_some _ _).symm.trans H; with_reducible exact H2_) | with_reducible exact H | (rw [hy561]; exact H) | exact H
     have Ny561 := Aside0.mk hy561
     clear hy561
     have H' := Aside0.mk H
     clear H
     have q10 : (1 : Int) ≤ ((l0.length : Int) : Int) := of_decide_eq_true (by first | (with_reducible assumption) | assumption)
     obtain ⟨i010, hi010, _, hsz10, _⟩ := info_parts info89
     have hroom10 : l0.length ≤ c0 := HC0.out
     have hC10 : Kd.C k89 _ A0 l0.length l0 := HR0.out
     have hcut10 := cut_from (P := Try.prog) 40 89 .i64 Try.underlying40 hi010 7 hsz10 A0 l0.length c0 1 (by omega) q10
     have hr10 := Kd.C_drop (m := (1 : Int).toNat) (c := c0) hC10 (by omega) hroom10
     obtain ⟨A10, hA10⟩ : ∃ A1, A1 = (if c0 = (1 : Int).toNat then A0 else (A0 : Option Addr).map (·.add ((1 : Int).toNat * 7))) := ⟨_, rfl⟩
     obtain ⟨c10, hc10⟩ : ∃ c1, c1 = c0 - (1 : Int).toNat := ⟨_, rfl⟩
     have hy10 : y561.length = l0.length - (1 : Int).toNat := (by rw [Ny561.out, List.length_drop] <;> omega)
     rw [show (l0).drop (1 : Int).toNat = y561 from Ny561.out.symm] at hr10
     replace hr10 : Kd.C k89 _ A10 y561.length y561 := (by rw [hA10]; exact hr10)
     rw [← hy10, ← hA10, ← hc10] at hcut10
     have HR564 := Aside0.mk hr10
     have HC564 := Aside0.mk (show y561.length ≤ c10 from by rw [hy10, hc10]; exact Nat.sub_le_sub_right hroom10 _)
     clear hr10 hC10 hroom10 hi010 hsz10 hc10
     have KY10 := Aside0.mk hy10
     have KA10 := Aside0.mk hA10
     clear hy10 hA10
     replace q10 := eq_true q10
     go_wp2
     go_loopg [19] kj1 (fun kq v19 w' => ∃ (x19_2 : Int), v19 = .int .i64 x19_2 ∧ Aside0 (impl_TreeOk.l0 kq l0 y561 (y561.length : Int) x19_2 = some r) ∧ Aside0 (kq ≤ kj1) ∧ Aside0 (Below w.heap.size w w'))
     case atStart => exact ⟨(0), (by first | rfl | (simp; done) | (simp [*]; done)), H', ⟨Nat.le_refl _⟩, ⟨by repeat (first | (with_reducible first | exact HB.out | apply below_alloc | apply pw_below_drewN | apply below_drew1) | exact HB.out)⟩⟩
     case round =>
      clear H'
      try clear c1
      try clear q1
      try clear p2
      try clear c4
      try clear c5
      try clear c5b0
      try clear c5b1
      try clear p5
      try clear q5
      try clear hx5
      try clear qi5
      try clear c7
      try clear c8
      try clear c9
      try clear c9b0
      try clear c9b1
      try clear c10
      try clear q10
      try clear hx559_0
      try clear hx559_1
      try clear hx559_2
      try clear hx559_3
      try clear hx559_4
      try clear hx559_5
      try clear hx559_6
      try clear p2
      try clear p5
      try clear p559
      try clear q10
      try clear q5
      try clear q559
      obtain ⟨x19_2, rfl, HA, HK2, HB⟩ := hrel
      cases gk with
      | zero => exact absurd HA.out (by simp [impl_TreeOk.l0])
      | succ k2 =>
       have H := HA.out
       clear HA
       simp only [impl_TreeOk.l0] at H
       by_cases c11 : x19_2 < (y561.length : Int)
       ·rw [if_pos c11] at H
        have c11b0 : decide (x19_2 < (y561.length : Int)) = true := decide_eq_true c11
        clear c11
        by_cases c12 : 0 ≤ x19_2
        ·rw [if_pos c12] at H
         have c12b0 : decide (0 ≤ x19_2) = true := decide_eq_true c12
         clear c12
         by_cases c13 : x19_2 < (y561.length : Int)
         ·rw [if_pos c13] at H
          have c13b0 : decide (x19_2 < (y561.length : Int)) = true := decide_eq_true c13
          clear c13
          replace H := Option.bind_eq_some_iff.mp H
          obtain ⟨t571, A140, H⟩ := H
          replace H : (if t571 = true then ((impl_inRange.f ((rd_T89 y561 x19_2).f5) 0 (wrap64 ((l0.length : Int) - 1))).bind fun t572 => (if t572 = true then (if 0 ≤ ((rd_T89 y561 x19_2).f5) then (if ((rd_T89 y561 x19_2).f5) < (l0.length : Int) then ((impl_hasKids.f ((rd_T89 l0 ((rd_T89 y561 x19_2).f5)).f0)).bind fun t574 => (if t574 = true then (impl_TreeOk.l0 k2 l0 y561 (y561.length : Int) (wrap64 (x19_2 + 1))) else (some false))) else (none)) else (none)) else (some false))) else (some false)) = some r := H
          have A14 := Aside0.mk A140
          clear A140
          by_cases c15 : t571 = true
          ·subst c15
           have H1 : ((impl_inRange.f ((rd_T89 y561 x19_2).f5) 0 (wrap64 ((l0.length : Int) - 1))).bind fun t572 => (if t572 = true then (if 0 ≤ ((rd_T89 y561 x19_2).f5) then (if ((rd_T89 y561 x19_2).f5) < (l0.length : Int) then ((impl_hasKids.f ((rd_T89 l0 ((rd_T89 y561 x19_2).f5)).f0)).bind fun t574 => (if t574 = true then (impl_TreeOk.l0 k2 l0 y561 (y561.length : Int) (wrap64 (x19_2 + 1))) else (some false))) else (none)) else (none)) else (some false))) = some r := by rw [if_pos rfl] at H; exact H
           clear H
           have H := H1
           clear H1
           replace H := Option.bind_eq_some_iff.mp H
           obtain ⟨t572, A160, H⟩ := H
           replace H : (if t572 = true then (if 0 ≤ ((rd_T89 y561 x19_2).f5) then (if ((rd_T89 y561 x19_2).f5) < (l0.length : Int) then ((impl_hasKids.f ((rd_T89 l0 ((rd_T89 y561 x19_2).f5)).f0)).bind fun t574 => (if t574 = true then (impl_TreeOk.l0 k2 l0 y561 (y561.length : Int) (wrap64 (x19_2 + 1))) else (some false))) else (none)) else (none)) else (some false)) = some r := H
           have A16 := Aside0.mk A160
           clear A160
           by_cases c17 : t572 = true
           ·subst c17
            have H1 : (if 0 ≤ ((rd_T89 y561 x19_2).f5) then (if ((rd_T89 y561 x19_2).f5) < (l0.length : Int) then ((impl_hasKids.f ((rd_T89 l0 ((rd_T89 y561 x19_2).f5)).f0)).bind fun t574 => (if t574 = true then (impl_TreeOk.l0 k2 l0 y561 (y561.length : Int) (wrap64 (x19_2 + 1))) else (some false))) else (none)) else (none)) = some r := by rw [if_pos rfl] at H; exact H
            clear H
            have H := H1
            clear H1
            by_cases c18 : 0 ≤ ((rd_T89 y561 x19_2).f5)
            ·rw [if_pos c18] at H
             have c18b0 : decide (0 ≤ ((rd_T89 y561 x19_2).f5)) = true := decide_eq_true c18
             clear c18
             by_cases c19 : ((rd_T89 y561 x19_2).f5) < (l0.length : Int)
             ·rw [if_pos c19] at H
              have c19b0 : decide (((rd_T89 y561 x19_2).f5) < (l0.length : Int)) = true := decide_eq_true c19
              clear c19
              replace H := Option.bind_eq_some_iff.mp H
              obtain ⟨t574, A200, H⟩ := H
              replace H : (if t574 = true then (impl_TreeOk.l0 k2 l0 y561 (y561.length : Int) (wrap64 (x19_2 + 1))) else (some false)) = some r := H
              have A20 := Aside0.mk A200
              clear A200
              by_cases c21 : t574 = true
              ·subst c21
               have H1 : (impl_TreeOk.l0 k2 l0 y561 (y561.length : Int) (wrap64 (x19_2 + 1))) = some r := by rw [if_pos rfl] at H; exact H
               clear H
               have H := H1
               clear H1
               have H' := Aside0.mk H
               clear H
               have p569 : 0 ≤ (x19_2 : Int) := of_decide_eq_true (by first | (with_reducible assumption) | assumption)
               have q569 : x19_2 < (y561.length : Int) := of_decide_eq_true (by first | (with_reducible assumption) | assumption)
               obtain ⟨ad569, A569_3, c569_3, A569_6, c569_6, e569, hx569_0, hx569_1, hx569_2, hx569_3, hx569_4, hx569_5, hx569_6, hl569_3, hi569_3, hl569_6, hi569_6⟩ := at_T89 HR564.out x19_2 p569 q569
               cases e569
               replace hx569_0 := (HB.out.cell (World.block_lt_of_cell? w _ hx569_0)).trans hx569_0
               replace hx569_1 := (HB.out.cell (World.block_lt_of_cell? w _ hx569_1)).trans hx569_1
               replace hx569_2 := (HB.out.cell (World.block_lt_of_cell? w _ hx569_2)).trans hx569_2
               replace hx569_3 := (HB.out.cell (World.block_lt_of_cell? w _ hx569_3)).trans hx569_3
               replace hx569_4 := (HB.out.cell (World.block_lt_of_cell? w _ hx569_4)).trans hx569_4
               replace hx569_5 := (HB.out.cell (World.block_lt_of_cell? w _ hx569_5)).trans hx569_5
               replace hx569_6 := (HB.out.cell (World.block_lt_of_cell? w _ hx569_6)).trans hx569_6
               have HR569_3 := Aside0.mk hi569_3
               have HC569_3 := Aside0.mk hl569_3
               clear hi569_3 hl569_3
               have HR569_6 := Aside0.mk hi569_6
               have HC569_6 := Aside0.mk hl569_6
               clear hi569_6 hl569_6
               replace p569 := eq_true p569
               replace q569 := eq_true q569
               go_wp2_with (first | ((with_reducible refine gate_dst (N := 4) rfl ?_); (try (refine gate_guard (by rfl) ?_; dsimp only)); refine box_event ?hg (N := 4) ?hd (cs := #[.int .i64 0, .int .i64 0, .string (⟨#[]⟩ : ByteArray), .slice none 0 0, .string (⟨#[]⟩ : ByteArray), .int .i64 0, .slice none 0 0]) (t := 89) ?hr ?_; (case hd => rfl); (case hg => rfl); (case hr => first | (go_simp; done) | (go_simp; rfl)); intro gb570 hg w22 hbox hb; have n0_ := Aside0.mk (below_step (by repeat (first | (with_reducible first | exact HB.out | apply below_alloc | apply pw_below_drewN | apply below_drew1) | exact HB.out)) hb); have n1_ := Aside0.mk (hbox); have n2_ := Aside0.mk ((by rw [hg]; exact (below_size (by repeat (first | (with_reducible first | exact HB.out | apply below_alloc | apply pw_below_drewN | apply below_drew1) | exact HB.out))) : w.heap.size ≤ gb570)); have n3_ := Aside0.mk ((by rw [hg]; exact (below_size (by repeat (first | (with_reducible first | exact HB.out | apply below_alloc | apply pw_below_drewN | apply below_drew1) | exact HB.out))) : w.heap.size ≤ gb570)); clear HB; have HB := n0_; have BK570 := n1_; have GW570 := n2_; have GE570 := n3_; clear n0_ n1_ n2_ n3_; clear hb hbox hg; have hcz23_0 : w22.cell? ⟨gb570, 0, none⟩ = some (.int .i64 0) := (blk_cell BK570.out 0).trans rfl; have hcz23_1 : w22.cell? ⟨gb570, 1, none⟩ = some (.int .i64 0) := (blk_cell BK570.out 1).trans rfl; have hcz23_2 : w22.cell? ⟨gb570, 2, none⟩ = some (.string (⟨#[]⟩ : ByteArray)) := (blk_cell BK570.out 2).trans rfl; have hcz23_3 : w22.cell? ⟨gb570, 3, none⟩ = some (.slice none 0 0) := (blk_cell BK570.out 3).trans rfl; have hcz23_4 : w22.cell? ⟨gb570, 4, none⟩ = some (.string (⟨#[]⟩ : ByteArray)) := (blk_cell BK570.out 4).trans rfl; have hcz23_5 : w22.cell? ⟨gb570, 5, none⟩ = some (.int .i64 0) := (blk_cell BK570.out 5).trans rfl; have hcz23_6 : w22.cell? ⟨gb570, 6, none⟩ = some (.slice none 0 0) := (blk_cell BK570.out 6).trans rfl; have hfz23_0 := blk_frozen BK570.out 0; have hfz23_1 := blk_frozen BK570.out 1; have hfz23_2 := blk_frozen BK570.out 2; have hfz23_3 := blk_frozen BK570.out 3; have hfz23_4 := blk_frozen BK570.out 4; have hfz23_5 := blk_frozen BK570.out 5; have hfz23_6 := blk_frozen BK570.out 6) | ((with_reducible refine gate_callee (f := 110) rfl ?_); refine goesL_ (some 24) rfl rfl Try.func110 (by kernel_rfl) rfl #[.agg #[.int .i64 ((rd_T89 y561 x19_2).f0), .int .i64 ((rd_T89 y561 x19_2).f1), .string ((rd_T89 y561 x19_2).f2), .slice A569_3 ((rd_T89 y561 x19_2).f3).length c569_3, .string ((rd_T89 y561 x19_2).f4), .int .i64 ((rd_T89 y561 x19_2).f5), .slice A569_6 ((rd_T89 y561 x19_2).f6).length c569_6]] rfl (by (try simp only [List.map_toArray, List.map_cons, List.map_nil]); first | done | rfl | (simp only [List.length_drop, List.length_take]; rfl)) ?_; (with_reducible refine (impl_itemOk.calls k2 ((rd_T89 y561 x19_2).f0) ((rd_T89 y561 x19_2).f1) ((rd_T89 y561 x19_2).f2) _ _ ((rd_T89 y561 x19_2).f3) ((rd_T89 y561 x19_2).f4) ((rd_T89 y561 x19_2).f5) _ _ ((rd_T89 y561 x19_2).f6) true _ ?side1 ?side2 ?side3 ?side4 A14.out).mono ?_); (case side1 => exact Kd.C_below HR569_3.out (by repeat (first | (with_reducible first | exact HB.out | apply below_alloc | apply pw_below_drewN | apply below_drew1 | refine below_set ?_ GE570.out) | exact HB.out))); (case side2 => exact HC569_3.out); (case side3 => exact Kd.C_below HR569_6.out (by repeat (first | (with_reducible first | exact HB.out | apply below_alloc | apply pw_below_drewN | apply below_drew1 | refine below_set ?_ GE570.out) | exact HB.out))); (case side4 => exact HC569_6.out); rintro e w24 ⟨rfl, hb⟩; refine ⟨_, rfl, ?_⟩; have n0_ := Aside0.mk (blk_below (g := gb570) (o := .cells #[.int .i64 ((rd_T89 y561 x19_2).f0), .int .i64 ((rd_T89 y561 x19_2).f1), .string ((rd_T89 y561 x19_2).f2), .slice A569_3 ((rd_T89 y561 x19_2).f3).length c569_3, .string ((rd_T89 y561 x19_2).f4), .int .i64 ((rd_T89 y561 x19_2).f5), .slice A569_6 ((rd_T89 y561 x19_2).f6).length c569_6] 89 (0, 0)) (by (with_reducible repeat (first | refine blk_drewN ?_ _ | refine blk_drew ?_ | refine blk_alloc ?_ _)); refine blk_put (cs := #[.int .i64 ((rd_T89 y561 x19_2).f0), .int .i64 ((rd_T89 y561 x19_2).f1), .string ((rd_T89 y561 x19_2).f2), .slice A569_3 ((rd_T89 y561 x19_2).f3).length c569_3, .string ((rd_T89 y561 x19_2).f4), .int .i64 ((rd_T89 y561 x19_2).f5), .slice none 0 0]) ?_ 6 _ rfl; (with_reducible repeat (first | refine blk_drewN ?_ _ | refine blk_drew ?_ | refine blk_alloc ?_ _)); refine blk_put (cs := #[.int .i64 ((rd_T89 y561 x19_2).f0), .int .i64 ((rd_T89 y561 x19_2).f1), .string ((rd_T89 y561 x19_2).f2), .slice A569_3 ((rd_T89 y561 x19_2).f3).length c569_3, .string ((rd_T89 y561 x19_2).f4), .int .i64 0, .slice none 0 0]) ?_ 5 _ rfl; (with_reducible repeat (first | refine blk_drewN ?_ _ | refine blk_drew ?_ | refine blk_alloc ?_ _)); refine blk_put (cs := #[.int .i64 ((rd_T89 y561 x19_2).f0), .int .i64 ((rd_T89 y561 x19_2).f1), .string ((rd_T89 y561 x19_2).f2), .slice A569_3 ((rd_T89 y561 x19_2).f3).length c569_3, .string (⟨#[]⟩ : ByteArray), .int .i64 0, .slice none 0 0]) ?_ 4 _ rfl; (with_reducible repeat (first | refine blk_drewN ?_ _ | refine blk_drew ?_ | refine blk_alloc ?_ _)); refine blk_put (cs := #[.int .i64 ((rd_T89 y561 x19_2).f0), .int .i64 ((rd_T89 y561 x19_2).f1), .string ((rd_T89 y561 x19_2).f2), .slice none 0 0, .string (⟨#[]⟩ : ByteArray), .int .i64 0, .slice none 0 0]) ?_ 3 _ rfl; (with_reducible repeat (first | refine blk_drewN ?_ _ | refine blk_drew ?_ | refine blk_alloc ?_ _)); refine blk_put (cs := #[.int .i64 ((rd_T89 y561 x19_2).f0), .int .i64 ((rd_T89 y561 x19_2).f1), .string (⟨#[]⟩ : ByteArray), .slice none 0 0, .string (⟨#[]⟩ : ByteArray), .int .i64 0, .slice none 0 0]) ?_ 2 _ rfl; (with_reducible repeat (first | refine blk_drewN ?_ _ | refine blk_drew ?_ | refine blk_alloc ?_ _)); refine blk_put (cs := #[.int .i64 ((rd_T89 y561 x19_2).f0), .int .i64 0, .string (⟨#[]⟩ : ByteArray), .slice none 0 0, .string (⟨#[]⟩ : ByteArray), .int .i64 0, .slice none 0 0]) ?_ 1 _ rfl; (with_reducible repeat (first | refine blk_drewN ?_ _ | refine blk_drew ?_ | refine blk_alloc ?_ _)); refine blk_put (cs := #[.int .i64 0, .int .i64 0, .string (⟨#[]⟩ : ByteArray), .slice none 0 0, .string (⟨#[]⟩ : ByteArray), .int .i64 0, .slice none 0 0]) ?_ 0 _ rfl; (with_reducible repeat (first | refine blk_drewN ?_ _ | refine blk_drew ?_ | refine blk_alloc ?_ _)); exact BK570.out) hb); have n1_ := Aside0.mk (below_step (by repeat (first | (with_reducible first | exact HB.out | apply below_alloc | apply pw_below_drewN | apply below_drew1 | refine below_set ?_ GE570.out) | exact HB.out)) hb); clear BK570; clear HB; have BK570 := n0_; have HB := n1_; clear n0_ n1_; (try clear hb); (try clear hb2); (try clear hk); (try clear hi); have hcz25_0 : w24.cell? ⟨gb570, 0, none⟩ = some (.int .i64 ((rd_T89 y561 x19_2).f0)) := (blk_cell BK570.out 0).trans rfl; have hcz25_1 : w24.cell? ⟨gb570, 1, none⟩ = some (.int .i64 ((rd_T89 y561 x19_2).f1)) := (blk_cell BK570.out 1).trans rfl; have hcz25_2 : w24.cell? ⟨gb570, 2, none⟩ = some (.string ((rd_T89 y561 x19_2).f2)) := (blk_cell BK570.out 2).trans rfl; have hcz25_3 : w24.cell? ⟨gb570, 3, none⟩ = some (.slice A569_3 ((rd_T89 y561 x19_2).f3).length c569_3) := (blk_cell BK570.out 3).trans rfl; have hcz25_4 : w24.cell? ⟨gb570, 4, none⟩ = some (.string ((rd_T89 y561 x19_2).f4)) := (blk_cell BK570.out 4).trans rfl; have hcz25_5 : w24.cell? ⟨gb570, 5, none⟩ = some (.int .i64 ((rd_T89 y561 x19_2).f5)) := (blk_cell BK570.out 5).trans rfl; have hcz25_6 : w24.cell? ⟨gb570, 6, none⟩ = some (.slice A569_6 ((rd_T89 y561 x19_2).f6).length c569_6) := (blk_cell BK570.out 6).trans rfl; have hfz25_0 := blk_frozen BK570.out 0; have hfz25_1 := blk_frozen BK570.out 1; have hfz25_2 := blk_frozen BK570.out 2; have hfz25_3 := blk_frozen BK570.out 3; have hfz25_4 := blk_frozen BK570.out 4; have hfz25_5 := blk_frozen BK570.out 5; have hfz25_6 := blk_frozen BK570.out 6) | (go_at_call 48; (with_reducible refine (impl_inRange.calls ((rd_T89 y561 x19_2).f5) 0 (wrap64 ((l0.length : Int) - 1)) true _ A16.out).mono ?_); rintro e w' ⟨rfl, ⟨nd, rfl⟩⟩; have p573 : 0 ≤ (((rd_T89 y561 x19_2).f5) : Int) := of_decide_eq_true (by first | (with_reducible assumption) | assumption); have q573 : ((rd_T89 y561 x19_2).f5) < (l0.length : Int) := of_decide_eq_true (by first | (with_reducible assumption) | assumption); obtain ⟨ad573, A573_3, c573_3, A573_6, c573_6, e573, hx573_0, hx573_1, hx573_2, hx573_3, hx573_4, hx573_5, hx573_6, hl573_3, hi573_3, hl573_6, hi573_6⟩ := at_T89 HR0.out ((rd_T89 y561 x19_2).f5) p573 q573; cases e573; replace hx573_0 := (HB.out.cell (World.block_lt_of_cell? w _ hx573_0)).trans hx573_0; replace hx573_1 := (HB.out.cell (World.block_lt_of_cell? w _ hx573_1)).trans hx573_1; replace hx573_2 := (HB.out.cell (World.block_lt_of_cell? w _ hx573_2)).trans hx573_2; replace hx573_3 := (HB.out.cell (World.block_lt_of_cell? w _ hx573_3)).trans hx573_3; replace hx573_4 := (HB.out.cell (World.block_lt_of_cell? w _ hx573_4)).trans hx573_4; replace hx573_5 := (HB.out.cell (World.block_lt_of_cell? w _ hx573_5)).trans hx573_5; replace hx573_6 := (HB.out.cell (World.block_lt_of_cell? w _ hx573_6)).trans hx573_6; have HR573_3 := Aside0.mk hi573_3; have HC573_3 := Aside0.mk hl573_3; clear hi573_3 hl573_3; have HR573_6 := Aside0.mk hi573_6; have HC573_6 := Aside0.mk hl573_6; clear hi573_6 hl573_6; replace p573 := eq_true p573; replace q573 := eq_true q573) | (go_at_call 111; (with_reducible refine (impl_hasKids.calls ((rd_T89 l0 ((rd_T89 y561 x19_2).f5)).f0) true _ A20.out).mono ?_); rintro e w' ⟨rfl, ⟨nd, rfl⟩⟩))
               go_roundg k2
               case measure => have := HJ1.out; have := HK2.out; omega
               case rel => exact ⟨(wrap64 (x19_2 + 1)), (by first | rfl | (simp; done) | (simp [*]; done)), H', ⟨by have := HJ1.out; have := HK2.out; omega⟩, ⟨by repeat (first | (with_reducible first | exact HB.out | apply below_alloc | apply pw_below_drewN | apply below_drew1 | refine below_set ?_ GE570.out) | exact HB.out)⟩⟩
              ·replace c21 := Bool.eq_false_iff.mpr c21
               subst c21
               have H1 : (some false) = some r := by rw [if_neg (show ¬ (false = true) by decide)] at H; exact H
               clear H
               have H := H1
               clear H1
               obtain rfl := Option.some.inj H
               have p569 : 0 ≤ (x19_2 : Int) := of_decide_eq_true (by first | (with_reducible assumption) | assumption)
               have q569 : x19_2 < (y561.length : Int) := of_decide_eq_true (by first | (with_reducible assumption) | assumption)
               obtain ⟨ad569, A569_3, c569_3, A569_6, c569_6, e569, hx569_0, hx569_1, hx569_2, hx569_3, hx569_4, hx569_5, hx569_6, hl569_3, hi569_3, hl569_6, hi569_6⟩ := at_T89 HR564.out x19_2 p569 q569
               cases e569
               replace hx569_0 := (HB.out.cell (World.block_lt_of_cell? w _ hx569_0)).trans hx569_0
               replace hx569_1 := (HB.out.cell (World.block_lt_of_cell? w _ hx569_1)).trans hx569_1
               replace hx569_2 := (HB.out.cell (World.block_lt_of_cell? w _ hx569_2)).trans hx569_2
               replace hx569_3 := (HB.out.cell (World.block_lt_of_cell? w _ hx569_3)).trans hx569_3
               replace hx569_4 := (HB.out.cell (World.block_lt_of_cell? w _ hx569_4)).trans hx569_4
               replace hx569_5 := (HB.out.cell (World.block_lt_of_cell? w _ hx569_5)).trans hx569_5
               replace hx569_6 := (HB.out.cell (World.block_lt_of_cell? w _ hx569_6)).trans hx569_6
               have HR569_3 := Aside0.mk hi569_3
               have HC569_3 := Aside0.mk hl569_3
               clear hi569_3 hl569_3
               have HR569_6 := Aside0.mk hi569_6
               have HC569_6 := Aside0.mk hl569_6
               clear hi569_6 hl569_6
               replace p569 := eq_true p569
               replace q569 := eq_true q569
               go_wp2_with (first | ((with_reducible refine gate_dst (N := 4) rfl ?_); (try (refine gate_guard (by rfl) ?_; dsimp only)); refine box_event ?hg (N := 4) ?hd (cs := #[.int .i64 0, .int .i64 0, .string (⟨#[]⟩ : ByteArray), .slice none 0 0, .string (⟨#[]⟩ : ByteArray), .int .i64 0, .slice none 0 0]) (t := 89) ?hr ?_; (case hd => rfl); (case hg => rfl); (case hr => first | (go_simp; done) | (go_simp; rfl)); intro gb570 hg w26 hbox hb; have n0_ := Aside0.mk (below_step (by repeat (first | (with_reducible first | exact HB.out | apply below_alloc | apply pw_below_drewN | apply below_drew1) | exact HB.out)) hb); have n1_ := Aside0.mk (hbox); have n2_ := Aside0.mk ((by rw [hg]; exact (below_size (by repeat (first | (with_reducible first | exact HB.out | apply below_alloc | apply pw_below_drewN | apply below_drew1) | exact HB.out))) : w.heap.size ≤ gb570)); have n3_ := Aside0.mk ((by rw [hg]; exact (below_size (by repeat (first | (with_reducible first | exact HB.out | apply below_alloc | apply pw_below_drewN | apply below_drew1) | exact HB.out))) : w.heap.size ≤ gb570)); clear HB; have HB := n0_; have BK570 := n1_; have GW570 := n2_; have GE570 := n3_; clear n0_ n1_ n2_ n3_; clear hb hbox hg; have hcz27_0 : w26.cell? ⟨gb570, 0, none⟩ = some (.int .i64 0) := (blk_cell BK570.out 0).trans rfl; have hcz27_1 : w26.cell? ⟨gb570, 1, none⟩ = some (.int .i64 0) := (blk_cell BK570.out 1).trans rfl; have hcz27_2 : w26.cell? ⟨gb570, 2, none⟩ = some (.string (⟨#[]⟩ : ByteArray)) := (blk_cell BK570.out 2).trans rfl; have hcz27_3 : w26.cell? ⟨gb570, 3, none⟩ = some (.slice none 0 0) := (blk_cell BK570.out 3).trans rfl; have hcz27_4 : w26.cell? ⟨gb570, 4, none⟩ = some (.string (⟨#[]⟩ : ByteArray)) := (blk_cell BK570.out 4).trans rfl; have hcz27_5 : w26.cell? ⟨gb570, 5, none⟩ = some (.int .i64 0) := (blk_cell BK570.out 5).trans rfl; have hcz27_6 : w26.cell? ⟨gb570, 6, none⟩ = some (.slice none 0 0) := (blk_cell BK570.out 6).trans rfl; have hfz27_0 := blk_frozen BK570.out 0; have hfz27_1 := blk_frozen BK570.out 1; have hfz27_2 := blk_frozen BK570.out 2; have hfz27_3 := blk_frozen BK570.out 3; have hfz27_4 := blk_frozen BK570.out 4; have hfz27_5 := blk_frozen BK570.out 5; have hfz27_6 := blk_frozen BK570.out 6) | ((with_reducible refine gate_callee (f := 110) rfl ?_); refine goesL_ (some 24) rfl rfl Try.func110 (by kernel_rfl) rfl #[.agg #[.int .i64 ((rd_T89 y561 x19_2).f0), .int .i64 ((rd_T89 y561 x19_2).f1), .string ((rd_T89 y561 x19_2).f2), .slice A569_3 ((rd_T89 y561 x19_2).f3).length c569_3, .string ((rd_T89 y561 x19_2).f4), .int .i64 ((rd_T89 y561 x19_2).f5), .slice A569_6 ((rd_T89 y561 x19_2).f6).length c569_6]] rfl (by (try simp only [List.map_toArray, List.map_cons, List.map_nil]); first | done | rfl | (simp only [List.length_drop, List.length_take]; rfl)) ?_; (with_reducible refine (impl_itemOk.calls k2 ((rd_T89 y561 x19_2).f0) ((rd_T89 y561 x19_2).f1) ((rd_T89 y561 x19_2).f2) _ _ ((rd_T89 y561 x19_2).f3) ((rd_T89 y561 x19_2).f4) ((rd_T89 y561 x19_2).f5) _ _ ((rd_T89 y561 x19_2).f6) true _ ?side1 ?side2 ?side3 ?side4 A14.out).mono ?_); (case side1 => exact Kd.C_below HR569_3.out (by repeat (first | (with_reducible first | exact HB.out | apply below_alloc | apply pw_below_drewN | apply below_drew1 | refine below_set ?_ GE570.out) | exact HB.out))); (case side2 => exact HC569_3.out); (case side3 => exact Kd.C_below HR569_6.out (by repeat (first | (with_reducible first | exact HB.out | apply below_alloc | apply pw_below_drewN | apply below_drew1 | refine below_set ?_ GE570.out) | exact HB.out))); (case side4 => exact HC569_6.out); rintro e w28 ⟨rfl, hb⟩; refine ⟨_, rfl, ?_⟩; have n0_ := Aside0.mk (blk_below (g := gb570) (o := .cells #[.int .i64 ((rd_T89 y561 x19_2).f0), .int .i64 ((rd_T89 y561 x19_2).f1), .string ((rd_T89 y561 x19_2).f2), .slice A569_3 ((rd_T89 y561 x19_2).f3).length c569_3, .string ((rd_T89 y561 x19_2).f4), .int .i64 ((rd_T89 y561 x19_2).f5), .slice A569_6 ((rd_T89 y561 x19_2).f6).length c569_6] 89 (0, 0)) (by (with_reducible repeat (first | refine blk_drewN ?_ _ | refine blk_drew ?_ | refine blk_alloc ?_ _)); refine blk_put (cs := #[.int .i64 ((rd_T89 y561 x19_2).f0), .int .i64 ((rd_T89 y561 x19_2).f1), .string ((rd_T89 y561 x19_2).f2), .slice A569_3 ((rd_T89 y561 x19_2).f3).length c569_3, .string ((rd_T89 y561 x19_2).f4), .int .i64 ((rd_T89 y561 x19_2).f5), .slice none 0 0]) ?_ 6 _ rfl; (with_reducible repeat (first | refine blk_drewN ?_ _ | refine blk_drew ?_ | refine blk_alloc ?_ _)); refine blk_put (cs := #[.int .i64 ((rd_T89 y561 x19_2).f0), .int .i64 ((rd_T89 y561 x19_2).f1), .string ((rd_T89 y561 x19_2).f2), .slice A569_3 ((rd_T89 y561 x19_2).f3).length c569_3, .string ((rd_T89 y561 x19_2).f4), .int .i64 0, .slice none 0 0]) ?_ 5 _ rfl; (with_reducible repeat (first | refine blk_drewN ?_ _ | refine blk_drew ?_ | refine blk_alloc ?_ _)); refine blk_put (cs := #[.int .i64 ((rd_T89 y561 x19_2).f0), .int .i64 ((rd_T89 y561 x19_2).f1), .string ((rd_T89 y561 x19_2).f2), .slice A569_3 ((rd_T89 y561 x19_2).f3).length c569_3, .string (⟨#[]⟩ : ByteArray), .int .i64 0, .slice none 0 0]) ?_ 4 _ rfl; (with_reducible repeat (first | refine blk_drewN ?_ _ | refine blk_drew ?_ | refine blk_alloc ?_ _)); refine blk_put (cs := #[.int .i64 ((rd_T89 y561 x19_2).f0), .int .i64 ((rd_T89 y561 x19_2).f1), .string ((rd_T89 y561 x19_2).f2), .slice none 0 0, .string (⟨#[]⟩ : ByteArray), .int .i64 0, .slice none 0 0]) ?_ 3 _ rfl; (with_reducible repeat (first | refine blk_drewN ?_ _ | refine blk_drew ?_ | refine blk_alloc ?_ _)); refine blk_put (cs := #[.int .i64 ((rd_T89 y561 x19_2).f0), .int .i64 ((rd_T89 y561 x19_2).f1), .string (⟨#[]⟩ : ByteArray), .slice none 0 0, .string (⟨#[]⟩ : ByteArray), .int .i64 0, .slice none 0 0]) ?_ 2 _ rfl; (with_reducible repeat (first | refine blk_drewN ?_ _ | refine blk_drew ?_ | refine blk_alloc ?_ _)); refine blk_put (cs := #[.int .i64 ((rd_T89 y561 x19_2).f0), .int .i64 0, .string (⟨#[]⟩ : ByteArray), .slice none 0 0, .string (⟨#[]⟩ : ByteArray), .int .i64 0, .slice none 0 0]) ?_ 1 _ rfl; (with_reducible repeat (first | refine blk_drewN ?_ _ | refine blk_drew ?_ | refine blk_alloc ?_ _)); refine blk_put (cs := #[.int .i64 0, .int .i64 0, .string (⟨#[]⟩ : ByteArray), .slice none 0 0, .string (⟨#[]⟩ : ByteArray), .int .i64 0, .slice none 0 0]) ?_ 0 _ rfl; (with_reducible repeat (first | refine blk_drewN ?_ _ | refine blk_drew ?_ | refine blk_alloc ?_ _)); exact BK570.out) hb); have n1_ := Aside0.mk (below_step (by repeat (first | (with_reducible first | exact HB.out | apply below_alloc | apply pw_below_drewN | apply below_drew1 | refine below_set ?_ GE570.out) | exact HB.out)) hb); clear BK570; clear HB; have BK570 := n0_; have HB := n1_; clear n0_ n1_; (try clear hb); (try clear hb2); (try clear hk); (try clear hi); have hcz29_0 : w28.cell? ⟨gb570, 0, none⟩ = some (.int .i64 ((rd_T89 y561 x19_2).f0)) := (blk_cell BK570.out 0).trans rfl; have hcz29_1 : w28.cell? ⟨gb570, 1, none⟩ = some (.int .i64 ((rd_T89 y561 x19_2).f1)) := (blk_cell BK570.out 1).trans rfl; have hcz29_2 : w28.cell? ⟨gb570, 2, none⟩ = some (.string ((rd_T89 y561 x19_2).f2)) := (blk_cell BK570.out 2).trans rfl; have hcz29_3 : w28.cell? ⟨gb570, 3, none⟩ = some (.slice A569_3 ((rd_T89 y561 x19_2).f3).length c569_3) := (blk_cell BK570.out 3).trans rfl; have hcz29_4 : w28.cell? ⟨gb570, 4, none⟩ = some (.string ((rd_T89 y561 x19_2).f4)) := (blk_cell BK570.out 4).trans rfl; have hcz29_5 : w28.cell? ⟨gb570, 5, none⟩ = some (.int .i64 ((rd_T89 y561 x19_2).f5)) := (blk_cell BK570.out 5).trans rfl; have hcz29_6 : w28.cell? ⟨gb570, 6, none⟩ = some (.slice A569_6 ((rd_T89 y561 x19_2).f6).length c569_6) := (blk_cell BK570.out 6).trans rfl; have hfz29_0 := blk_frozen BK570.out 0; have hfz29_1 := blk_frozen BK570.out 1; have hfz29_2 := blk_frozen BK570.out 2; have hfz29_3 := blk_frozen BK570.out 3; have hfz29_4 := blk_frozen BK570.out 4; have hfz29_5 := blk_frozen BK570.out 5; have hfz29_6 := blk_frozen BK570.out 6) | (go_at_call 48; (with_reducible refine (impl_inRange.calls ((rd_T89 y561 x19_2).f5) 0 (wrap64 ((l0.length : Int) - 1)) true _ A16.out).mono ?_); rintro e w' ⟨rfl, ⟨nd, rfl⟩⟩; have p573 : 0 ≤ (((rd_T89 y561 x19_2).f5) : Int) := of_decide_eq_true (by first | (with_reducible assumption) | assumption); have q573 : ((rd_T89 y561 x19_2).f5) < (l0.length : Int) := of_decide_eq_true (by first | (with_reducible assumption) | assumption); obtain ⟨ad573, A573_3, c573_3, A573_6, c573_6, e573, hx573_0, hx573_1, hx573_2, hx573_3, hx573_4, hx573_5, hx573_6, hl573_3, hi573_3, hl573_6, hi573_6⟩ := at_T89 HR0.out ((rd_T89 y561 x19_2).f5) p573 q573; cases e573; replace hx573_0 := (HB.out.cell (World.block_lt_of_cell? w _ hx573_0)).trans hx573_0; replace hx573_1 := (HB.out.cell (World.block_lt_of_cell? w _ hx573_1)).trans hx573_1; replace hx573_2 := (HB.out.cell (World.block_lt_of_cell? w _ hx573_2)).trans hx573_2; replace hx573_3 := (HB.out.cell (World.block_lt_of_cell? w _ hx573_3)).trans hx573_3; replace hx573_4 := (HB.out.cell (World.block_lt_of_cell? w _ hx573_4)).trans hx573_4; replace hx573_5 := (HB.out.cell (World.block_lt_of_cell? w _ hx573_5)).trans hx573_5; replace hx573_6 := (HB.out.cell (World.block_lt_of_cell? w _ hx573_6)).trans hx573_6; have HR573_3 := Aside0.mk hi573_3; have HC573_3 := Aside0.mk hl573_3; clear hi573_3 hl573_3; have HR573_6 := Aside0.mk hi573_6; have HC573_6 := Aside0.mk hl573_6; clear hi573_6 hl573_6; replace p573 := eq_true p573; replace q573 := eq_true q573) | (go_at_call 111; (with_reducible refine (impl_hasKids.calls ((rd_T89 l0 ((rd_T89 y561 x19_2).f5)).f0) false _ A20.out).mono ?_); rintro e w' ⟨rfl, ⟨nd, rfl⟩⟩))
               go_ret
               exact ⟨by first | rfl | (simp [errW_none, errW_some] <;> rfl) | (simp [*, errW_none, errW_some] <;> rfl), by repeat (first | (with_reducible first | exact HB.out | apply below_alloc | apply pw_below_drewN | apply below_drew1 | refine below_set ?_ GE570.out) | exact HB.out)⟩
             ·rw [if_neg c19] at H
              exact absurd H (by simp)
            ·rw [if_neg c18] at H
             exact absurd H (by simp)
           ·replace c17 := Bool.eq_false_iff.mpr c17
            subst c17
            have H1 : (some false) = some r := by rw [if_neg (show ¬ (false = true) by decide)] at H; exact H
            clear H
            have H := H1
            clear H1
            obtain rfl := Option.some.inj H
            have p569 : 0 ≤ (x19_2 : Int) := of_decide_eq_true (by first | (with_reducible assumption) | assumption)
            have q569 : x19_2 < (y561.length : Int) := of_decide_eq_true (by first | (with_reducible assumption) | assumption)
            obtain ⟨ad569, A569_3, c569_3, A569_6, c569_6, e569, hx569_0, hx569_1, hx569_2, hx569_3, hx569_4, hx569_5, hx569_6, hl569_3, hi569_3, hl569_6, hi569_6⟩ := at_T89 HR564.out x19_2 p569 q569
            cases e569
            replace hx569_0 := (HB.out.cell (World.block_lt_of_cell? w _ hx569_0)).trans hx569_0
            replace hx569_1 := (HB.out.cell (World.block_lt_of_cell? w _ hx569_1)).trans hx569_1
            replace hx569_2 := (HB.out.cell (World.block_lt_of_cell? w _ hx569_2)).trans hx569_2
            replace hx569_3 := (HB.out.cell (World.block_lt_of_cell? w _ hx569_3)).trans hx569_3
            replace hx569_4 := (HB.out.cell (World.block_lt_of_cell? w _ hx569_4)).trans hx569_4
            replace hx569_5 := (HB.out.cell (World.block_lt_of_cell? w _ hx569_5)).trans hx569_5
            replace hx569_6 := (HB.out.cell (World.block_lt_of_cell? w _ hx569_6)).trans hx569_6
            have HR569_3 := Aside0.mk hi569_3
            have HC569_3 := Aside0.mk hl569_3
            clear hi569_3 hl569_3
            have HR569_6 := Aside0.mk hi569_6
            have HC569_6 := Aside0.mk hl569_6
            clear hi569_6 hl569_6
            replace p569 := eq_true p569
            replace q569 := eq_true q569
            go_wp2_with (first | ((with_reducible refine gate_dst (N := 4) rfl ?_); (try (refine gate_guard (by rfl) ?_; dsimp only)); refine box_event ?hg (N := 4) ?hd (cs := #[.int .i64 0, .int .i64 0, .string (⟨#[]⟩ : ByteArray), .slice none 0 0, .string (⟨#[]⟩ : ByteArray), .int .i64 0, .slice none 0 0]) (t := 89) ?hr ?_; (case hd => rfl); (case hg => rfl); (case hr => first | (go_simp; done) | (go_simp; rfl)); intro gb570 hg w30 hbox hb; have n0_ := Aside0.mk (below_step (by repeat (first | (with_reducible first | exact HB.out | apply below_alloc | apply pw_below_drewN | apply below_drew1) | exact HB.out)) hb); have n1_ := Aside0.mk (hbox); have n2_ := Aside0.mk ((by rw [hg]; exact (below_size (by repeat (first | (with_reducible first | exact HB.out | apply below_alloc | apply pw_below_drewN | apply below_drew1) | exact HB.out))) : w.heap.size ≤ gb570)); have n3_ := Aside0.mk ((by rw [hg]; exact (below_size (by repeat (first | (with_reducible first | exact HB.out | apply below_alloc | apply pw_below_drewN | apply below_drew1) | exact HB.out))) : w.heap.size ≤ gb570)); clear HB; have HB := n0_; have BK570 := n1_; have GW570 := n2_; have GE570 := n3_; clear n0_ n1_ n2_ n3_; clear hb hbox hg; have hcz31_0 : w30.cell? ⟨gb570, 0, none⟩ = some (.int .i64 0) := (blk_cell BK570.out 0).trans rfl; have hcz31_1 : w30.cell? ⟨gb570, 1, none⟩ = some (.int .i64 0) := (blk_cell BK570.out 1).trans rfl; have hcz31_2 : w30.cell? ⟨gb570, 2, none⟩ = some (.string (⟨#[]⟩ : ByteArray)) := (blk_cell BK570.out 2).trans rfl; have hcz31_3 : w30.cell? ⟨gb570, 3, none⟩ = some (.slice none 0 0) := (blk_cell BK570.out 3).trans rfl; have hcz31_4 : w30.cell? ⟨gb570, 4, none⟩ = some (.string (⟨#[]⟩ : ByteArray)) := (blk_cell BK570.out 4).trans rfl; have hcz31_5 : w30.cell? ⟨gb570, 5, none⟩ = some (.int .i64 0) := (blk_cell BK570.out 5).trans rfl; have hcz31_6 : w30.cell? ⟨gb570, 6, none⟩ = some (.slice none 0 0) := (blk_cell BK570.out 6).trans rfl; have hfz31_0 := blk_frozen BK570.out 0; have hfz31_1 := blk_frozen BK570.out 1; have hfz31_2 := blk_frozen BK570.out 2; have hfz31_3 := blk_frozen BK570.out 3; have hfz31_4 := blk_frozen BK570.out 4; have hfz31_5 := blk_frozen BK570.out 5; have hfz31_6 := blk_frozen BK570.out 6) | ((with_reducible refine gate_callee (f := 110) rfl ?_); refine goesL_ (some 24) rfl rfl Try.func110 (by kernel_rfl) rfl #[.agg #[.int .i64 ((rd_T89 y561 x19_2).f0), .int .i64 ((rd_T89 y561 x19_2).f1), .string ((rd_T89 y561 x19_2).f2), .slice A569_3 ((rd_T89 y561 x19_2).f3).length c569_3, .string ((rd_T89 y561 x19_2).f4), .int .i64 ((rd_T89 y561 x19_2).f5), .slice A569_6 ((rd_T89 y561 x19_2).f6).length c569_6]] rfl (by (try simp only [List.map_toArray, List.map_cons, List.map_nil]); first | done | rfl | (simp only [List.length_drop, List.length_take]; rfl)) ?_; (with_reducible refine (impl_itemOk.calls k2 ((rd_T89 y561 x19_2).f0) ((rd_T89 y561 x19_2).f1) ((rd_T89 y561 x19_2).f2) _ _ ((rd_T89 y561 x19_2).f3) ((rd_T89 y561 x19_2).f4) ((rd_T89 y561 x19_2).f5) _ _ ((rd_T89 y561 x19_2).f6) true _ ?side1 ?side2 ?side3 ?side4 A14.out).mono ?_); (case side1 => exact Kd.C_below HR569_3.out (by repeat (first | (with_reducible first | exact HB.out | apply below_alloc | apply pw_below_drewN | apply below_drew1 | refine below_set ?_ GE570.out) | exact HB.out))); (case side2 => exact HC569_3.out); (case side3 => exact Kd.C_below HR569_6.out (by repeat (first | (with_reducible first | exact HB.out | apply below_alloc | apply pw_below_drewN | apply below_drew1 | refine below_set ?_ GE570.out) | exact HB.out))); (case side4 => exact HC569_6.out); rintro e w32 ⟨rfl, hb⟩; refine ⟨_, rfl, ?_⟩; have n0_ := Aside0.mk (blk_below (g := gb570) (o := .cells #[.int .i64 ((rd_T89 y561 x19_2).f0), .int .i64 ((rd_T89 y561 x19_2).f1), .string ((rd_T89 y561 x19_2).f2), .slice A569_3 ((rd_T89 y561 x19_2).f3).length c569_3, .string ((rd_T89 y561 x19_2).f4), .int .i64 ((rd_T89 y561 x19_2).f5), .slice A569_6 ((rd_T89 y561 x19_2).f6).length c569_6] 89 (0, 0)) (by (with_reducible repeat (first | refine blk_drewN ?_ _ | refine blk_drew ?_ | refine blk_alloc ?_ _)); refine blk_put (cs := #[.int .i64 ((rd_T89 y561 x19_2).f0), .int .i64 ((rd_T89 y561 x19_2).f1), .string ((rd_T89 y561 x19_2).f2), .slice A569_3 ((rd_T89 y561 x19_2).f3).length c569_3, .string ((rd_T89 y561 x19_2).f4), .int .i64 ((rd_T89 y561 x19_2).f5), .slice none 0 0]) ?_ 6 _ rfl; (with_reducible repeat (first | refine blk_drewN ?_ _ | refine blk_drew ?_ | refine blk_alloc ?_ _)); refine blk_put (cs := #[.int .i64 ((rd_T89 y561 x19_2).f0), .int .i64 ((rd_T89 y561 x19_2).f1), .string ((rd_T89 y561 x19_2).f2), .slice A569_3 ((rd_T89 y561 x19_2).f3).length c569_3, .string ((rd_T89 y561 x19_2).f4), .int .i64 0, .slice none 0 0]) ?_ 5 _ rfl; (with_reducible repeat (first | refine blk_drewN ?_ _ | refine blk_drew ?_ | refine blk_alloc ?_ _)); refine blk_put (cs := #[.int .i64 ((rd_T89 y561 x19_2).f0), .int .i64 ((rd_T89 y561 x19_2).f1), .string ((rd_T89 y561 x19_2).f2), .slice A569_3 ((rd_T89 y561 x19_2).f3).length c569_3, .string (⟨#[]⟩ : ByteArray), .int .i64 0, .slice none 0 0]) ?_ 4 _ rfl; (with_reducible repeat (first | refine blk_drewN ?_ _ | refine blk_drew ?_ | refine blk_alloc ?_ _)); refine blk_put (cs := #[.int .i64 ((rd_T89 y561 x19_2).f0), .int .i64 ((rd_T89 y561 x19_2).f1), .string ((rd_T89 y561 x19_2).f2), .slice none 0 0, .string (⟨#[]⟩ : ByteArray), .int .i64 0, .slice none 0 0]) ?_ 3 _ rfl; (with_reducible repeat (first | refine blk_drewN ?_ _ | refine blk_drew ?_ | refine blk_alloc ?_ _)); refine blk_put (cs := #[.int .i64 ((rd_T89 y561 x19_2).f0), .int .i64 ((rd_T89 y561 x19_2).f1), .string (⟨#[]⟩ : ByteArray), .slice none 0 0, .string (⟨#[]⟩ : ByteArray), .int .i64 0, .slice none 0 0]) ?_ 2 _ rfl; (with_reducible repeat (first | refine blk_drewN ?_ _ | refine blk_drew ?_ | refine blk_alloc ?_ _)); refine blk_put (cs := #[.int .i64 ((rd_T89 y561 x19_2).f0), .int .i64 0, .string (⟨#[]⟩ : ByteArray), .slice none 0 0, .string (⟨#[]⟩ : ByteArray), .int .i64 0, .slice none 0 0]) ?_ 1 _ rfl; (with_reducible repeat (first | refine blk_drewN ?_ _ | refine blk_drew ?_ | refine blk_alloc ?_ _)); refine blk_put (cs := #[.int .i64 0, .int .i64 0, .string (⟨#[]⟩ : ByteArray), .slice none 0 0, .string (⟨#[]⟩ : ByteArray), .int .i64 0, .slice none 0 0]) ?_ 0 _ rfl; (with_reducible repeat (first | refine blk_drewN ?_ _ | refine blk_drew ?_ | refine blk_alloc ?_ _)); exact BK570.out) hb); have n1_ := Aside0.mk (below_step (by repeat (first | (with_reducible first | exact HB.out | apply below_alloc | apply pw_below_drewN | apply below_drew1 | refine below_set ?_ GE570.out) | exact HB.out)) hb); clear BK570; clear HB; have BK570 := n0_; have HB := n1_; clear n0_ n1_; (try clear hb); (try clear hb2); (try clear hk); (try clear hi); have hcz33_0 : w32.cell? ⟨gb570, 0, none⟩ = some (.int .i64 ((rd_T89 y561 x19_2).f0)) := (blk_cell BK570.out 0).trans rfl; have hcz33_1 : w32.cell? ⟨gb570, 1, none⟩ = some (.int .i64 ((rd_T89 y561 x19_2).f1)) := (blk_cell BK570.out 1).trans rfl; have hcz33_2 : w32.cell? ⟨gb570, 2, none⟩ = some (.string ((rd_T89 y561 x19_2).f2)) := (blk_cell BK570.out 2).trans rfl; have hcz33_3 : w32.cell? ⟨gb570, 3, none⟩ = some (.slice A569_3 ((rd_T89 y561 x19_2).f3).length c569_3) := (blk_cell BK570.out 3).trans rfl; have hcz33_4 : w32.cell? ⟨gb570, 4, none⟩ = some (.string ((rd_T89 y561 x19_2).f4)) := (blk_cell BK570.out 4).trans rfl; have hcz33_5 : w32.cell? ⟨gb570, 5, none⟩ = some (.int .i64 ((rd_T89 y561 x19_2).f5)) := (blk_cell BK570.out 5).trans rfl; have hcz33_6 : w32.cell? ⟨gb570, 6, none⟩ = some (.slice A569_6 ((rd_T89 y561 x19_2).f6).length c569_6) := (blk_cell BK570.out 6).trans rfl; have hfz33_0 := blk_frozen BK570.out 0; have hfz33_1 := blk_frozen BK570.out 1; have hfz33_2 := blk_frozen BK570.out 2; have hfz33_3 := blk_frozen BK570.out 3; have hfz33_4 := blk_frozen BK570.out 4; have hfz33_5 := blk_frozen BK570.out 5; have hfz33_6 := blk_frozen BK570.out 6) | (go_at_call 48; (with_reducible refine (impl_inRange.calls ((rd_T89 y561 x19_2).f5) 0 (wrap64 ((l0.length : Int) - 1)) false _ A16.out).mono ?_); rintro e w' ⟨rfl, ⟨nd, rfl⟩⟩))
            go_ret
            exact ⟨by first | rfl | (simp [errW_none, errW_some] <;> rfl) | (simp [*, errW_none, errW_some] <;> rfl), by repeat (first | (with_reducible first | exact HB.out | apply below_alloc | apply pw_below_drewN | apply below_drew1 | refine below_set ?_ GE570.out) | exact HB.out)⟩
          ·replace c15 := Bool.eq_false_iff.mpr c15
           subst c15
           have H1 : (some false) = some r := by rw [if_neg (show ¬ (false = true) by decide)] at H; exact H
           clear H
           have H := H1
           clear H1
           obtain rfl := Option.some.inj H
           have p569 : 0 ≤ (x19_2 : Int) := of_decide_eq_true (by first | (with_reducible assumption) | assumption)
           have q569 : x19_2 < (y561.length : Int) := of_decide_eq_true (by first | (with_reducible assumption) | assumption)
           obtain ⟨ad569, A569_3, c569_3, A569_6, c569_6, e569, hx569_0, hx569_1, hx569_2, hx569_3, hx569_4, hx569_5, hx569_6, hl569_3, hi569_3, hl569_6, hi569_6⟩ := at_T89 HR564.out x19_2 p569 q569
           cases e569
           replace hx569_0 := (HB.out.cell (World.block_lt_of_cell? w _ hx569_0)).trans hx569_0
           replace hx569_1 := (HB.out.cell (World.block_lt_of_cell? w _ hx569_1)).trans hx569_1
           replace hx569_2 := (HB.out.cell (World.block_lt_of_cell? w _ hx569_2)).trans hx569_2
           replace hx569_3 := (HB.out.cell (World.block_lt_of_cell? w _ hx569_3)).trans hx569_3
           replace hx569_4 := (HB.out.cell (World.block_lt_of_cell? w _ hx569_4)).trans hx569_4
           replace hx569_5 := (HB.out.cell (World.block_lt_of_cell? w _ hx569_5)).trans hx569_5
           replace hx569_6 := (HB.out.cell (World.block_lt_of_cell? w _ hx569_6)).trans hx569_6
           have HR569_3 := Aside0.mk hi569_3
           have HC569_3 := Aside0.mk hl569_3
           clear hi569_3 hl569_3
           have HR569_6 := Aside0.mk hi569_6
           have HC569_6 := Aside0.mk hl569_6
           clear hi569_6 hl569_6
           replace p569 := eq_true p569
           replace q569 := eq_true q569
           go_wp2_with (first | ((with_reducible refine gate_dst (N := 4) rfl ?_); (try (refine gate_guard (by rfl) ?_; dsimp only)); refine box_event ?hg (N := 4) ?hd (cs := #[.int .i64 0, .int .i64 0, .string (⟨#[]⟩ : ByteArray), .slice none 0 0, .string (⟨#[]⟩ : ByteArray), .int .i64 0, .slice none 0 0]) (t := 89) ?hr ?_; (case hd => rfl); (case hg => rfl); (case hr => first | (go_simp; done) | (go_simp; rfl)); intro gb570 hg w34 hbox hb; have n0_ := Aside0.mk (below_step (by repeat (first | (with_reducible first | exact HB.out | apply below_alloc | apply pw_below_drewN | apply below_drew1) | exact HB.out)) hb); have n1_ := Aside0.mk (hbox); have n2_ := Aside0.mk ((by rw [hg]; exact (below_size (by repeat (first | (with_reducible first | exact HB.out | apply below_alloc | apply pw_below_drewN | apply below_drew1) | exact HB.out))) : w.heap.size ≤ gb570)); have n3_ := Aside0.mk ((by rw [hg]; exact (below_size (by repeat (first | (with_reducible first | exact HB.out | apply below_alloc | apply pw_below_drewN | apply below_drew1) | exact HB.out))) : w.heap.size ≤ gb570)); clear HB; have HB := n0_; have BK570 := n1_; have GW570 := n2_; have GE570 := n3_; clear n0_ n1_ n2_ n3_; clear hb hbox hg; have hcz35_0 : w34.cell? ⟨gb570, 0, none⟩ = some (.int .i64 0) := (blk_cell BK570.out 0).trans rfl; have hcz35_1 : w34.cell? ⟨gb570, 1, none⟩ = some (.int .i64 0) := (blk_cell BK570.out 1).trans rfl; have hcz35_2 : w34.cell? ⟨gb570, 2, none⟩ = some (.string (⟨#[]⟩ : ByteArray)) := (blk_cell BK570.out 2).trans rfl; have hcz35_3 : w34.cell? ⟨gb570, 3, none⟩ = some (.slice none 0 0) := (blk_cell BK570.out 3).trans rfl; have hcz35_4 : w34.cell? ⟨gb570, 4, none⟩ = some (.string (⟨#[]⟩ : ByteArray)) := (blk_cell BK570.out 4).trans rfl; have hcz35_5 : w34.cell? ⟨gb570, 5, none⟩ = some (.int .i64 0) := (blk_cell BK570.out 5).trans rfl; have hcz35_6 : w34.cell? ⟨gb570, 6, none⟩ = some (.slice none 0 0) := (blk_cell BK570.out 6).trans rfl; have hfz35_0 := blk_frozen BK570.out 0; have hfz35_1 := blk_frozen BK570.out 1; have hfz35_2 := blk_frozen BK570.out 2; have hfz35_3 := blk_frozen BK570.out 3; have hfz35_4 := blk_frozen BK570.out 4; have hfz35_5 := blk_frozen BK570.out 5; have hfz35_6 := blk_frozen BK570.out 6) | ((with_reducible refine gate_callee (f := 110) rfl ?_); refine goesL_ (some 24) rfl rfl Try.func110 (by kernel_rfl) rfl #[.agg #[.int .i64 ((rd_T89 y561 x19_2).f0), .int .i64 ((rd_T89 y561 x19_2).f1), .string ((rd_T89 y561 x19_2).f2), .slice A569_3 ((rd_T89 y561 x19_2).f3).length c569_3, .string ((rd_T89 y561 x19_2).f4), .int .i64 ((rd_T89 y561 x19_2).f5), .slice A569_6 ((rd_T89 y561 x19_2).f6).length c569_6]] rfl (by (try simp only [List.map_toArray, List.map_cons, List.map_nil]); first | done | rfl | (simp only [List.length_drop, List.length_take]; rfl)) ?_; (with_reducible refine (impl_itemOk.calls k2 ((rd_T89 y561 x19_2).f0) ((rd_T89 y561 x19_2).f1) ((rd_T89 y561 x19_2).f2) _ _ ((rd_T89 y561 x19_2).f3) ((rd_T89 y561 x19_2).f4) ((rd_T89 y561 x19_2).f5) _ _ ((rd_T89 y561 x19_2).f6) false _ ?side1 ?side2 ?side3 ?side4 A14.out).mono ?_); (case side1 => exact Kd.C_below HR569_3.out (by repeat (first | (with_reducible first | exact HB.out | apply below_alloc | apply pw_below_drewN | apply below_drew1 | refine below_set ?_ GE570.out) | exact HB.out))); (case side2 => exact HC569_3.out); (case side3 => exact Kd.C_below HR569_6.out (by repeat (first | (with_reducible first | exact HB.out | apply below_alloc | apply pw_below_drewN | apply below_drew1 | refine below_set ?_ GE570.out) | exact HB.out))); (case side4 => exact HC569_6.out); rintro e w36 ⟨rfl, hb⟩; refine ⟨_, rfl, ?_⟩; have n0_ := Aside0.mk (blk_below (g := gb570) (o := .cells #[.int .i64 ((rd_T89 y561 x19_2).f0), .int .i64 ((rd_T89 y561 x19_2).f1), .string ((rd_T89 y561 x19_2).f2), .slice A569_3 ((rd_T89 y561 x19_2).f3).length c569_3, .string ((rd_T89 y561 x19_2).f4), .int .i64 ((rd_T89 y561 x19_2).f5), .slice A569_6 ((rd_T89 y561 x19_2).f6).length c569_6] 89 (0, 0)) (by (with_reducible repeat (first | refine blk_drewN ?_ _ | refine blk_drew ?_ | refine blk_alloc ?_ _)); refine blk_put (cs := #[.int .i64 ((rd_T89 y561 x19_2).f0), .int .i64 ((rd_T89 y561 x19_2).f1), .string ((rd_T89 y561 x19_2).f2), .slice A569_3 ((rd_T89 y561 x19_2).f3).length c569_3, .string ((rd_T89 y561 x19_2).f4), .int .i64 ((rd_T89 y561 x19_2).f5), .slice none 0 0]) ?_ 6 _ rfl; (with_reducible repeat (first | refine blk_drewN ?_ _ | refine blk_drew ?_ | refine blk_alloc ?_ _)); refine blk_put (cs := #[.int .i64 ((rd_T89 y561 x19_2).f0), .int .i64 ((rd_T89 y561 x19_2).f1), .string ((rd_T89 y561 x19_2).f2), .slice A569_3 ((rd_T89 y561 x19_2).f3).length c569_3, .string ((rd_T89 y561 x19_2).f4), .int .i64 0, .slice none 0 0]) ?_ 5 _ rfl; (with_reducible repeat (first | refine blk_drewN ?_ _ | refine blk_drew ?_ | refine blk_alloc ?_ _)); refine blk_put (cs := #[.int .i64 ((rd_T89 y561 x19_2).f0), .int .i64 ((rd_T89 y561 x19_2).f1), .string ((rd_T89 y561 x19_2).f2), .slice A569_3 ((rd_T89 y561 x19_2).f3).length c569_3, .string (⟨#[]⟩ : ByteArray), .int .i64 0, .slice none 0 0]) ?_ 4 _ rfl; (with_reducible repeat (first | refine blk_drewN ?_ _ | refine blk_drew ?_ | refine blk_alloc ?_ _)); refine blk_put (cs := #[.int .i64 ((rd_T89 y561 x19_2).f0), .int .i64 ((rd_T89 y561 x19_2).f1), .string ((rd_T89 y561 x19_2).f2), .slice none 0 0, .string (⟨#[]⟩ : ByteArray), .int .i64 0, .slice none 0 0]) ?_ 3 _ rfl; (with_reducible repeat (first | refine blk_drewN ?_ _ | refine blk_drew ?_ | refine blk_alloc ?_ _)); refine blk_put (cs := #[.int .i64 ((rd_T89 y561 x19_2).f0), .int .i64 ((rd_T89 y561 x19_2).f1), .string (⟨#[]⟩ : ByteArray), .slice none 0 0, .string (⟨#[]⟩ : ByteArray), .int .i64 0, .slice none 0 0]) ?_ 2 _ rfl; (with_reducible repeat (first | refine blk_drewN ?_ _ | refine blk_drew ?_ | refine blk_alloc ?_ _)); refine blk_put (cs := #[.int .i64 ((rd_T89 y561 x19_2).f0), .int .i64 0, .string (⟨#[]⟩ : ByteArray), .slice none 0 0, .string (⟨#[]⟩ : ByteArray), .int .i64 0, .slice none 0 0]) ?_ 1 _ rfl; (with_reducible repeat (first | refine blk_drewN ?_ _ | refine blk_drew ?_ | refine blk_alloc ?_ _)); refine blk_put (cs := #[.int .i64 0, .int .i64 0, .string (⟨#[]⟩ : ByteArray), .slice none 0 0, .string (⟨#[]⟩ : ByteArray), .int .i64 0, .slice none 0 0]) ?_ 0 _ rfl; (with_reducible repeat (first | refine blk_drewN ?_ _ | refine blk_drew ?_ | refine blk_alloc ?_ _)); exact BK570.out) hb); have n1_ := Aside0.mk (below_step (by repeat (first | (with_reducible first | exact HB.out | apply below_alloc | apply pw_below_drewN | apply below_drew1 | refine below_set ?_ GE570.out) | exact HB.out)) hb); clear BK570; clear HB; have BK570 := n0_; have HB := n1_; clear n0_ n1_; (try clear hb); (try clear hb2); (try clear hk); (try clear hi)))
           go_ret
           exact ⟨by first | rfl | (simp [errW_none, errW_some] <;> rfl) | (simp [*, errW_none, errW_some] <;> rfl), by repeat (first | (with_reducible first | exact HB.out | apply below_alloc | apply pw_below_drewN | apply below_drew1 | refine below_set ?_ GE570.out) | exact HB.out)⟩
         ·rw [if_neg c13] at H
          exact absurd H (by simp)
        ·rw [if_neg c12] at H
         exact absurd H (by simp)
       ·rw [if_neg c11] at H
        have c11b0 : decide (x19_2 < (y561.length : Int)) = false := decide_eq_false c11
        clear c11
        replace H := Option.bind_eq_some_iff.mp H
        obtain ⟨t565, A370, H⟩ := H
        replace H : (if t565 = true then ((impl_order.f k2 l0).bind fun t566 => (some ((t566.length : Int) == (l0.length : Int)))) else (some false)) = some r := H
        have A37 := Aside0.mk A370
        clear A370
        by_cases c38 : t565 = true
        ·subst c38
         have H1 : ((impl_order.f k2 l0).bind fun t566 => (some ((t566.length : Int) == (l0.length : Int)))) = some r := by rw [if_pos rfl] at H; exact H
         clear H
         have H := H1
         clear H1
         replace H := Option.bind_eq_some_iff.mp H
         obtain ⟨t566, A390, H⟩ := H
         replace H : (some ((t566.length : Int) == (l0.length : Int))) = some r := H
         have A39 := Aside0.mk A390
         clear A390
         obtain rfl := Option.some.inj H
         go_wp2_with (first | ((with_reducible refine gate_callee (f := 112) rfl ?_); refine goesL_ (some 47) rfl rfl Try.func112 (by kernel_rfl) rfl #[.slice A0 l0.length c0] rfl (by (try simp only [List.map_toArray, List.map_cons, List.map_nil]); first | done | rfl | (simp only [List.length_drop, List.length_take]; rfl)) ?_; (with_reducible refine (impl_kidsOk.calls k2 _ _ l0 true _ ?side1 ?side2 A37.out).mono ?_); (case side1 => repeat (first | exact (Kd.C_below HR0.out HB.out) | (with_reducible refine Kd.C_alloc ?_ _) | (with_reducible refine Kd.C_drewN ?_ _) | (with_reducible refine Kd.C_drew ?_))); (case side2 => exact HC0.out); rintro e w40 ⟨rfl, hb⟩; refine ⟨_, rfl, ?_⟩; have n0_ := Aside0.mk (below_step (by repeat (first | (with_reducible first | exact HB.out | apply below_alloc | apply pw_below_drewN | apply below_drew1) | exact HB.out)) hb); clear HB; have HB := n0_; clear n0_; (try clear hb); (try clear hb2); (try clear hk); (try clear hi)) | (go_at_call 78; (with_reducible refine (impl_order.calls k2 _ _ l0 t566 _ ?side1 ?side2 A39.out).mono ?_); (case side1 => repeat (first | exact (Kd.C_below HR0.out HB.out) | (with_reducible refine Kd.C_alloc ?_ _) | (with_reducible refine Kd.C_drewN ?_ _) | (with_reducible refine Kd.C_drew ?_))); (case side2 => exact HC0.out); rintro e w41 ⟨v567, rfl, ho0, hb⟩; have n0_ := Aside0.mk (Kd.R_lower ho0 (below_size (by repeat (first | (with_reducible first | exact HB.out | apply below_alloc | apply pw_below_drewN | apply below_drew1) | exact HB.out)))); have n1_ := Aside0.mk (below_step (by repeat (first | (with_reducible first | exact HB.out | apply below_alloc | apply pw_below_drewN | apply below_drew1) | exact HB.out)) hb); clear HB; have HO568 := n0_; have HB := n1_; clear n0_ n1_; (try clear hb); (try clear hb2); (try clear hk); (try clear hi); (try clear ho0); obtain ⟨Ao42, co42, eo42⟩ := Kd.R_slice HO568.out; subst eo42))
         go_ret
         exact ⟨by first | rfl | (simp [errW_none, errW_some] <;> rfl) | (simp [*, errW_none, errW_some] <;> rfl), by repeat (first | (with_reducible first | exact HB.out | apply below_alloc | apply pw_below_drewN | apply below_drew1) | exact HB.out)⟩
        ·replace c38 := Bool.eq_false_iff.mpr c38
         subst c38
         have H1 : (some false) = some r := by rw [if_neg (show ¬ (false = true) by decide)] at H; exact H
         clear H
         have H := H1
         clear H1
         obtain rfl := Option.some.inj H
         go_wp2_with (first | ((with_reducible refine gate_callee (f := 112) rfl ?_); refine goesL_ (some 47) rfl rfl Try.func112 (by kernel_rfl) rfl #[.slice A0 l0.length c0] rfl (by (try simp only [List.map_toArray, List.map_cons, List.map_nil]); first | done | rfl | (simp only [List.length_drop, List.length_take]; rfl)) ?_; (with_reducible refine (impl_kidsOk.calls k2 _ _ l0 false _ ?side1 ?side2 A37.out).mono ?_); (case side1 => repeat (first | exact (Kd.C_below HR0.out HB.out) | (with_reducible refine Kd.C_alloc ?_ _) | (with_reducible refine Kd.C_drewN ?_ _) | (with_reducible refine Kd.C_drew ?_))); (case side2 => exact HC0.out); rintro e w43 ⟨rfl, hb⟩; refine ⟨_, rfl, ?_⟩; have n0_ := Aside0.mk (below_step (by repeat (first | (with_reducible first | exact HB.out | apply below_alloc | apply pw_below_drewN | apply below_drew1) | exact HB.out)) hb); clear HB; have HB := n0_; clear n0_; (try clear hb); (try clear hb2); (try clear hk); (try clear hi)))
         go_ret
         exact ⟨by first | rfl | (simp [errW_none, errW_some] <;> rfl) | (simp [*, errW_none, errW_some] <;> rfl), by repeat (first | (with_reducible first | exact HB.out | apply below_alloc | apply pw_below_drewN | apply below_drew1) | exact HB.out)⟩
    ·rw [if_neg c9] at H
     exact absurd H (by simp)
end Go.Proofs.Ytlocaaebgghkbaa.A
