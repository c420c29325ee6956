-- joined by wip/tools/shake.py
import Derived.Test.YtlocaaebgghkbaaMTexts0
namespace Go.Proofs.Ytlocaaebgghkbaa.A
open Go.RowKit Go.Proofs.YtlocaaebgghkbaaW.PrintWords Go.Proofs.YtlocaaebgghkbaaW.PrintLast Go.Proofs.YtlocaaebgghkbaaW.PrintMore
attribute [local go_sem] max2_int min2_int max_two min_two max_three min_three max_four min_four   -- for this text's walks alone
set_option linter.unusedVariables false
set_option linter.unusedSimpArgs false
def laws_eqItem.f (k : Nat) (a0_0 : Int) (a0_1 : Int) (a0_2 : ByteArray) (l0_3 : List (S53)) (a0_4 : ByteArray) (a0_5 : Int) (l0_6 : List Int) (a1_0 : Int) (a1_1 : Int) (a1_2 : ByteArray) (l1_3 : List (S53)) (a1_4 : ByteArray) (a1_5 : Int) (l1_6 : List Int) : Option (Bool) := if a0_0 = a1_0 then (if a0_1 = a1_1 then (if a0_2.toList = a1_2.toList then ((laws_eqAttrS.f k l0_3 l1_3).bind fun t594 => (if t594 = true then (if a0_4.toList = a1_4.toList then (if a0_5 = a1_5 then ((laws_eqIntS.f k l0_6 l1_6).bind fun t595 => (if t595 = true then (some true) else (some false))) else (some false)) else (some false)) else (some false))) else (some false)) else (some false)) else (some false)
theorem laws_eqItem.mono : ∀ a0 a1 a2 a3 a4 a5 a6 a7 a8 a9 a10 a11 a12 a13 k, LeO (laws_eqItem.f k a0 a1 a2 a3 a4 a5 a6 a7 a8 a9 a10 a11 a12 a13) (laws_eqItem.f (k + 1) a0 a1 a2 a3 a4 a5 a6 a7 a8 a9 a10 a11 a12 a13) := by
 intro a0 a1 a2 a3 a4 a5 a6 a7 a8 a9 a10 a11 a12 a13 k
 unfold laws_eqItem.f
 repeat' first
   | (with_reducible exact laws_eqAttrS.mono _ _ _)
   | (with_reducible exact laws_eqIntS.mono _ _ _)
   | (with_reducible exact LeO.refl _)
   | (with_reducible exact LeO.none _)
   | (with_reducible refine LeO.ite ?_ ?_)
   | (with_reducible refine LeO.bind ?_ (fun _ => ?_))
   | exact laws_eqAttrS.mono _ _ _
   | exact laws_eqIntS.mono _ _ _
   | exact LeO.none _
   | refine LeO.ite ?_ ?_
   | refine LeO.bind ?_ (fun _ => ?_)
set_option maxHeartbeats 8000000 in
set_option maxRecDepth 100000 in
theorem laws_eqItem.calls (k : Nat) (a0_0 : Int) (a0_1 : Int) (a0_2 : ByteArray) (A0_3 : Option Addr) (c0_3 : Nat) (l0_3 : List (S53)) (a0_4 : ByteArray) (a0_5 : Int) (A0_6 : Option Addr) (c0_6 : Nat) (l0_6 : List Int) (a1_0 : Int) (a1_1 : Int) (a1_2 : ByteArray) (A1_3 : Option Addr) (c1_3 : Nat) (l1_3 : List (S53)) (a1_4 : ByteArray) (a1_5 : Int) (A1_6 : Option Addr) (c1_6 : Nat) (l1_6 : List Int) (r : Bool) (w : World) (hr0_3 : Kd.C k53 w A0_3 l0_3.length l0_3) (hc0_3 : l0_3.length ≤ c0_3) (hr0_6 : Kd.C (Kd.int .i64) w A0_6 l0_6.length l0_6) (hc0_6 : l0_6.length ≤ c0_6) (hr1_3 : Kd.C k53 w A1_3 l1_3.length l1_3) (hc1_3 : l1_3.length ≤ c1_3) (hr1_6 : Kd.C (Kd.int .i64) w A1_6 l1_6.length l1_6) (hc1_6 : l1_6.length ≤ c1_6) (h : laws_eqItem.f k a0_0 a0_1 a0_2 l0_3 a0_4 a0_5 l0_6 a1_0 a1_1 a1_2 l1_3 a1_4 a1_5 l1_6 = some r) :
  Calls Try.prog 83 #[.agg #[.int .i64 a0_0, .int .i64 a0_1, .string a0_2, .slice A0_3 l0_3.length c0_3, .string a0_4, .int .i64 a0_5, .slice A0_6 l0_6.length c0_6], .agg #[.int .i64 a1_0, .int .i64 a1_1, .string a1_2, .slice A1_3 l1_3.length c1_3, .string a1_4, .int .i64 a1_5, .slice A1_6 l1_6.length c1_6]] w fun e w' => e = .returned (.bool r) ∧ Below w.heap.size w w' := by
 have hu89 := Try.underlying89
 have HR0_3 := Aside0.mk hr0_3
 have HC0_3 := Aside0.mk hc0_3
 clear hr0_3 hc0_3
 have HR0_6 := Aside0.mk hr0_6
 have HC0_6 := Aside0.mk hc0_6
 clear hr0_6 hc0_6
 have HR1_3 := Aside0.mk hr1_3
 have HC1_3 := Aside0.mk hc1_3
 clear hr1_3 hc1_3
 have HR1_6 := Aside0.mk hr1_6
 have HC1_6 := Aside0.mk hc1_6
 clear hr1_6 hc1_6
 have HB := Aside0.mk (Below.refl w.heap.size w)
 have H : (if a0_0 = a1_0 then (if a0_1 = a1_1 then (if a0_2.toList = a1_2.toList then ((laws_eqAttrS.f k l0_3 l1_3).bind fun t594 => (if t594 = true then (if a0_4.toList = a1_4.toList then (if a0_5 = a1_5 then ((laws_eqIntS.f k l0_6 l1_6).bind fun t595 => (if t595 = true then (some true) else (some false))) else (some false)) else (some false)) else (some false))) else (some false)) else (some false)) else (some false)) = some r := h
 clear h
 by_cases c3 : a0_0 = a1_0
 ·rw [if_pos c3] at H
  have c3b0 : (a0_0 == a1_0) = true := beq_iff_eq.mpr c3
  have c3b1 : (a0_0 != a1_0) = false := bne_eq_false_iff_eq.mpr c3
  clear c3
  by_cases c4 : a0_1 = a1_1
  ·rw [if_pos c4] at H
   have c4b0 : (a0_1 == a1_1) = true := beq_iff_eq.mpr c4
   have c4b1 : (a0_1 != a1_1) = false := bne_eq_false_iff_eq.mpr c4
   clear c4
   by_cases c5 : a0_2.toList = a1_2.toList
   ·rw [if_pos c5] at H
    have c5b0 : (a0_2.toList == a1_2.toList) = true := beq_iff_eq.mpr c5
    have c5b1 : (a0_2.toList != a1_2.toList) = false := bne_eq_false_iff_eq.mpr c5
    clear c5
    replace H := Option.bind_eq_some_iff.mp H
    obtain ⟨t594, A60, H⟩ := H
    replace H : (if t594 = true then (if a0_4.toList = a1_4.toList then (if a0_5 = a1_5 then ((laws_eqIntS.f k l0_6 l1_6).bind fun t595 => (if t595 = true then (some true) else (some false))) else (some false)) else (some false)) else (some false)) = some r := H
    have A6 := Aside0.mk A60
    clear A60
    by_cases c7 : t594 = true
    ·subst c7
     have H1 : (if a0_4.toList = a1_4.toList then (if a0_5 = a1_5 then ((laws_eqIntS.f k l0_6 l1_6).bind fun t595 => (if t595 = true then (some true) else (some false))) else (some false)) else (some false)) = some r := by rw [if_pos rfl] at H; exact H
     clear H
     have H := H1
     clear H1
     by_cases c8 : a0_4.toList = a1_4.toList
     ·rw [if_pos c8] at H
      have c8b0 : (a0_4.toList == a1_4.toList) = true := beq_iff_eq.mpr c8
      have c8b1 : (a0_4.toList != a1_4.toList) = false := bne_eq_false_iff_eq.mpr c8
      clear c8
      by_cases c9 : a0_5 = a1_5
      ·rw [if_pos c9] at H
       have c9b0 : (a0_5 == a1_5) = true := beq_iff_eq.mpr c9
       have c9b1 : (a0_5 != a1_5) = false := bne_eq_false_iff_eq.mpr c9
       clear c9
       replace H := Option.bind_eq_some_iff.mp H
       obtain ⟨t595, A100, H⟩ := H
       replace H : (if t595 = true then (some true) else (some false)) = some r := H
       have A10 := Aside0.mk A100
       clear A100
       by_cases c11 : t595 = true
       ·subst c11
        have H1 : (some true) = some r := by rw [if_pos rfl] at H; exact H
        clear H
        have H := H1
        clear H1
        obtain rfl := Option.some.inj H
        go_enter Try.func83, Try.ntmps83
        go_wp2_with (first | ((with_reducible refine gate_dst (N := 2) rfl ?_); refine box_event ?hg (N := 2) ?hd (cs := #[.int .i64 a0_0, .int .i64 a0_1, .string a0_2, .slice A0_3 l0_3.length c0_3, .string a0_4, .int .i64 a0_5, .slice A0_6 l0_6.length c0_6]) (t := 89) ?hr ?_; (case hd => rfl); (case hg => rfl); (case hr => first | (go_simp; done) | (go_simp; rfl)); intro gb592 hg w12 hbox hb; have n0_ := Aside0.mk (below_step (by repeat (first | (with_reducible first | exact HB.out | apply below_alloc | apply pw_below_drewN | apply below_drew1) | exact HB.out)) hb); have n1_ := Aside0.mk (hbox); have n2_ := Aside0.mk ((by rw [hg]; exact (below_size (by repeat (first | (with_reducible first | exact HB.out | apply below_alloc | apply pw_below_drewN | apply below_drew1) | exact HB.out))) : w.heap.size ≤ gb592)); have n3_ := Aside0.mk ((by rw [hg]; exact (below_size (by repeat (first | (with_reducible first | exact HB.out | apply below_alloc | apply pw_below_drewN | apply below_drew1) | exact HB.out))) : w.heap.size ≤ gb592)); clear HB; have HB := n0_; have BK592 := n1_; have GW592 := n2_; have GE592 := n3_; clear n0_ n1_ n2_ n3_; clear hb hbox hg) | ((with_reducible refine gate_dst (N := 3) rfl ?_); refine box_event ?hg (N := 3) ?hd (cs := #[.int .i64 a1_0, .int .i64 a1_1, .string a1_2, .slice A1_3 l1_3.length c1_3, .string a1_4, .int .i64 a1_5, .slice A1_6 l1_6.length c1_6]) (t := 89) ?hr ?_; (case hd => rfl); (case hg => rfl); (case hr => first | (go_simp; done) | (go_simp; rfl)); intro gb593 hg w13 hbox hb; have n0_ := Aside0.mk (blk_below (g := gb592) (o := .cells #[.int .i64 a0_0, .int .i64 a0_1, .string a0_2, .slice A0_3 l0_3.length c0_3, .string a0_4, .int .i64 a0_5, .slice A0_6 l0_6.length c0_6] 89 (0, 0)) (by (with_reducible repeat (first | refine blk_drewN ?_ _ | refine blk_drew ?_ | refine blk_alloc ?_ _)); exact BK592.out) hb); have n1_ := Aside0.mk (below_step (by repeat (first | (with_reducible first | exact HB.out | apply below_alloc | apply pw_below_drewN | apply below_drew1 | refine below_set ?_ GE592.out) | exact HB.out)) hb); have n2_ := Aside0.mk (hbox); have n3_ := Aside0.mk ((by rw [hg]; exact (below_size (by repeat (first | (with_reducible first | exact HB.out | apply below_alloc | apply pw_below_drewN | apply below_drew1 | refine below_set ?_ GE592.out) | exact HB.out))) : w.heap.size ≤ gb593)); have n4_ := Aside0.mk ((by rw [hg]; exact (below_size (by repeat (first | (with_reducible first | exact HB.out | apply below_alloc | apply pw_below_drewN | apply below_drew1 | refine below_set ?_ GE592.out) | exact HB.out))) : w.heap.size ≤ gb593)); have n5_ := Aside0.mk ((by rw [hg]; exact Nat.ne_of_lt (blk_lt (g := gb592) (o := .cells #[.int .i64 a0_0, .int .i64 a0_1, .string a0_2, .slice A0_3 l0_3.length c0_3, .string a0_4, .int .i64 a0_5, .slice A0_6 l0_6.length c0_6] 89 (0, 0)) (by (with_reducible repeat (first | refine blk_drewN ?_ _ | refine blk_drew ?_ | refine blk_alloc ?_ _)); exact BK592.out)) : gb592 ≠ gb593)); have n6_ := Aside0.mk ((by rw [hg]; exact Nat.ne_of_gt (blk_lt (g := gb592) (o := .cells #[.int .i64 a0_0, .int .i64 a0_1, .string a0_2, .slice A0_3 l0_3.length c0_3, .string a0_4, .int .i64 a0_5, .slice A0_6 l0_6.length c0_6] 89 (0, 0)) (by (with_reducible repeat (first | refine blk_drewN ?_ _ | refine blk_drew ?_ | refine blk_alloc ?_ _)); exact BK592.out)) : gb593 ≠ gb592)); clear BK592; clear HB; have BK592 := n0_; have HB := n1_; have BK593 := n2_; have GW593 := n3_; have GE593 := n4_; have NB592_593 := n5_; have NB593_592 := n6_; clear n0_ n1_ n2_ n3_ n4_ n5_ n6_; clear hb hbox hg; have hnb14 := NB592_593.out; have hnc14 := NB593_592.out; have hcz15_0 : w13.cell? ⟨gb592, 0, none⟩ = some (.int .i64 a0_0) := (blk_cell BK592.out 0).trans rfl; have hcz15_1 : w13.cell? ⟨gb592, 1, none⟩ = some (.int .i64 a0_1) := (blk_cell BK592.out 1).trans rfl; have hcz15_2 : w13.cell? ⟨gb592, 2, none⟩ = some (.string a0_2) := (blk_cell BK592.out 2).trans rfl; have hcz15_3 : w13.cell? ⟨gb592, 3, none⟩ = some (.slice A0_3 l0_3.length c0_3) := (blk_cell BK592.out 3).trans rfl; have hcz15_4 : w13.cell? ⟨gb592, 4, none⟩ = some (.string a0_4) := (blk_cell BK592.out 4).trans rfl; have hcz15_5 : w13.cell? ⟨gb592, 5, none⟩ = some (.int .i64 a0_5) := (blk_cell BK592.out 5).trans rfl; have hcz15_6 : w13.cell? ⟨gb592, 6, none⟩ = some (.slice A0_6 l0_6.length c0_6) := (blk_cell BK592.out 6).trans rfl; have hfz15_0 := blk_frozen BK592.out 0; have hfz15_1 := blk_frozen BK592.out 1; have hfz15_2 := blk_frozen BK592.out 2; have hfz15_3 := blk_frozen BK592.out 3; have hfz15_4 := blk_frozen BK592.out 4; have hfz15_5 := blk_frozen BK592.out 5; have hfz15_6 := blk_frozen BK592.out 6; have hcz16_0 : w13.cell? ⟨gb593, 0, none⟩ = some (.int .i64 a1_0) := (blk_cell BK593.out 0).trans rfl; have hcz16_1 : w13.cell? ⟨gb593, 1, none⟩ = some (.int .i64 a1_1) := (blk_cell BK593.out 1).trans rfl; have hcz16_2 : w13.cell? ⟨gb593, 2, none⟩ = some (.string a1_2) := (blk_cell BK593.out 2).trans rfl; have hcz16_3 : w13.cell? ⟨gb593, 3, none⟩ = some (.slice A1_3 l1_3.length c1_3) := (blk_cell BK593.out 3).trans rfl; have hcz16_4 : w13.cell? ⟨gb593, 4, none⟩ = some (.string a1_4) := (blk_cell BK593.out 4).trans rfl; have hcz16_5 : w13.cell? ⟨gb593, 5, none⟩ = some (.int .i64 a1_5) := (blk_cell BK593.out 5).trans rfl; have hcz16_6 : w13.cell? ⟨gb593, 6, none⟩ = some (.slice A1_6 l1_6.length c1_6) := (blk_cell BK593.out 6).trans rfl; have hfz16_0 := blk_frozen BK593.out 0; have hfz16_1 := blk_frozen BK593.out 1; have hfz16_2 := blk_frozen BK593.out 2; have hfz16_3 := blk_frozen BK593.out 3; have hfz16_4 := blk_frozen BK593.out 4; have hfz16_5 := blk_frozen BK593.out 5; have hfz16_6 := blk_frozen BK593.out 6) | ((with_reducible refine gate_callee (f := 21) rfl ?_); refine goesL_ (some 24) rfl rfl Try.func21 (by kernel_rfl) rfl #[.slice A0_3 l0_3.length c0_3, .slice A1_3 l1_3.length c1_3] rfl (by (try simp only [List.map_toArray, List.map_cons, List.map_nil]); first | done | rfl | (simp only [List.length_drop, List.length_take]; rfl)) ?_; (with_reducible refine (laws_eqAttrS.calls k _ _ l0_3 _ _ l1_3 true _ ?side1 ?side2 ?side3 ?side4 A6.out).mono ?_); (case side1 => repeat (first | exact (Kd.C_below HR0_3.out HB.out) | (with_reducible refine Kd.C_alloc ?_ _) | (with_reducible refine Kd.C_drewN ?_ _) | (with_reducible refine Kd.C_drew ?_))); (case side2 => exact HC0_3.out); (case side3 => repeat (first | exact (Kd.C_below HR1_3.out HB.out) | (with_reducible refine Kd.C_alloc ?_ _) | (with_reducible refine Kd.C_drewN ?_ _) | (with_reducible refine Kd.C_drew ?_))); (case side4 => exact HC1_3.out); rintro e w17 ⟨rfl, hb⟩; refine ⟨_, rfl, ?_⟩; have n0_ := Aside0.mk (blk_below (g := gb592) (o := .cells #[.int .i64 a0_0, .int .i64 a0_1, .string a0_2, .slice A0_3 l0_3.length c0_3, .string a0_4, .int .i64 a0_5, .slice A0_6 l0_6.length c0_6] 89 (0, 0)) (by (with_reducible repeat (first | refine blk_drewN ?_ _ | refine blk_drew ?_ | refine blk_alloc ?_ _)); exact BK592.out) hb); have n1_ := Aside0.mk (blk_below (g := gb593) (o := .cells #[.int .i64 a1_0, .int .i64 a1_1, .string a1_2, .slice A1_3 l1_3.length c1_3, .string a1_4, .int .i64 a1_5, .slice A1_6 l1_6.length c1_6] 89 (0, 0)) (by (with_reducible repeat (first | refine blk_drewN ?_ _ | refine blk_drew ?_ | refine blk_alloc ?_ _)); exact BK593.out) hb); have n2_ := Aside0.mk (below_step (by repeat (first | (with_reducible first | exact HB.out | apply below_alloc | apply pw_below_drewN | apply below_drew1 | refine below_set ?_ GE592.out | refine below_set ?_ GE593.out) | exact HB.out)) hb); clear BK592; clear BK593; clear HB; have BK592 := n0_; have BK593 := n1_; have HB := n2_; clear n0_ n1_ n2_; (try clear hb); (try clear hb2); (try clear hk); (try clear hi); have hcz18_0 : w17.cell? ⟨gb592, 0, none⟩ = some (.int .i64 a0_0) := (blk_cell BK592.out 0).trans rfl; have hcz18_1 : w17.cell? ⟨gb592, 1, none⟩ = some (.int .i64 a0_1) := (blk_cell BK592.out 1).trans rfl; have hcz18_2 : w17.cell? ⟨gb592, 2, none⟩ = some (.string a0_2) := (blk_cell BK592.out 2).trans rfl; have hcz18_3 : w17.cell? ⟨gb592, 3, none⟩ = some (.slice A0_3 l0_3.length c0_3) := (blk_cell BK592.out 3).trans rfl; have hcz18_4 : w17.cell? ⟨gb592, 4, none⟩ = some (.string a0_4) := (blk_cell BK592.out 4).trans rfl; have hcz18_5 : w17.cell? ⟨gb592, 5, none⟩ = some (.int .i64 a0_5) := (blk_cell BK592.out 5).trans rfl; have hcz18_6 : w17.cell? ⟨gb592, 6, none⟩ = some (.slice A0_6 l0_6.length c0_6) := (blk_cell BK592.out 6).trans rfl; have hfz18_0 := blk_frozen BK592.out 0; have hfz18_1 := blk_frozen BK592.out 1; have hfz18_2 := blk_frozen BK592.out 2; have hfz18_3 := blk_frozen BK592.out 3; have hfz18_4 := blk_frozen BK592.out 4; have hfz18_5 := blk_frozen BK592.out 5; have hfz18_6 := blk_frozen BK592.out 6; have hcz19_0 : w17.cell? ⟨gb593, 0, none⟩ = some (.int .i64 a1_0) := (blk_cell BK593.out 0).trans rfl; have hcz19_1 : w17.cell? ⟨gb593, 1, none⟩ = some (.int .i64 a1_1) := (blk_cell BK593.out 1).trans rfl; have hcz19_2 : w17.cell? ⟨gb593, 2, none⟩ = some (.string a1_2) := (blk_cell BK593.out 2).trans rfl; have hcz19_3 : w17.cell? ⟨gb593, 3, none⟩ = some (.slice A1_3 l1_3.length c1_3) := (blk_cell BK593.out 3).trans rfl; have hcz19_4 : w17.cell? ⟨gb593, 4, none⟩ = some (.string a1_4) := (blk_cell BK593.out 4).trans rfl; have hcz19_5 : w17.cell? ⟨gb593, 5, none⟩ = some (.int .i64 a1_5) := (blk_cell BK593.out 5).trans rfl; have hcz19_6 : w17.cell? ⟨gb593, 6, none⟩ = some (.slice A1_6 l1_6.length c1_6) := (blk_cell BK593.out 6).trans rfl; have hfz19_0 := blk_frozen BK593.out 0; have hfz19_1 := blk_frozen BK593.out 1; have hfz19_2 := blk_frozen BK593.out 2; have hfz19_3 := blk_frozen BK593.out 3; have hfz19_4 := blk_frozen BK593.out 4; have hfz19_5 := blk_frozen BK593.out 5; have hfz19_6 := blk_frozen BK593.out 6) | ((with_reducible refine gate_callee (f := 118) rfl ?_); refine goesL_ (some 40) rfl rfl Try.func118 (by kernel_rfl) rfl #[.slice A0_6 l0_6.length c0_6, .slice A1_6 l1_6.length c1_6] rfl (by (try simp only [List.map_toArray, List.map_cons, List.map_nil]); first | done | rfl | (simp only [List.length_drop, List.length_take]; rfl)) ?_; (with_reducible refine (laws_eqIntS.calls k _ _ l0_6 _ _ l1_6 true _ ?side1 ?side2 ?side3 ?side4 A10.out).mono ?_); (case side1 => repeat (first | exact (Kd.C_below HR0_6.out HB.out) | (with_reducible refine Kd.C_alloc ?_ _) | (with_reducible refine Kd.C_drewN ?_ _) | (with_reducible refine Kd.C_drew ?_))); (case side2 => exact HC0_6.out); (case side3 => repeat (first | exact (Kd.C_below HR1_6.out HB.out) | (with_reducible refine Kd.C_alloc ?_ _) | (with_reducible refine Kd.C_drewN ?_ _) | (with_reducible refine Kd.C_drew ?_))); (case side4 => exact HC1_6.out); rintro e w' ⟨rfl, ⟨nd, rfl⟩⟩; refine ⟨_, rfl, ?_⟩))
        go_ret
        exact ⟨by first | rfl | (simp [errW_none, errW_some] <;> rfl) | (simp [*, errW_none, errW_some] <;> rfl), by repeat (first | (with_reducible first | exact HB.out | apply below_alloc | apply pw_below_drewN | apply below_drew1 | refine below_set ?_ GE592.out | refine below_set ?_ GE593.out) | exact HB.out)⟩
       ·replace c11 := Bool.eq_false_iff.mpr c11
        subst c11
        have H1 : (some false) = some r := by rw [if_neg (show ¬ (false = true) by decide)] at H; exact H
        clear H
        have H := H1
        clear H1
        obtain rfl := Option.some.inj H
        go_enter Try.func83, Try.ntmps83
        go_wp2_with (first | ((with_reducible refine gate_dst (N := 2) rfl ?_); refine box_event ?hg (N := 2) ?hd (cs := #[.int .i64 a0_0, .int .i64 a0_1, .string a0_2, .slice A0_3 l0_3.length c0_3, .string a0_4, .int .i64 a0_5, .slice A0_6 l0_6.length c0_6]) (t := 89) ?hr ?_; (case hd => rfl); (case hg => rfl); (case hr => first | (go_simp; done) | (go_simp; rfl)); intro gb592 hg w20 hbox hb; have n0_ := Aside0.mk (below_step (by repeat (first | (with_reducible first | exact HB.out | apply below_alloc | apply pw_below_drewN | apply below_drew1) | exact HB.out)) hb); have n1_ := Aside0.mk (hbox); have n2_ := Aside0.mk ((by rw [hg]; exact (below_size (by repeat (first | (with_reducible first | exact HB.out | apply below_alloc | apply pw_below_drewN | apply below_drew1) | exact HB.out))) : w.heap.size ≤ gb592)); have n3_ := Aside0.mk ((by rw [hg]; exact (below_size (by repeat (first | (with_reducible first | exact HB.out | apply below_alloc | apply pw_below_drewN | apply below_drew1) | exact HB.out))) : w.heap.size ≤ gb592)); clear HB; have HB := n0_; have BK592 := n1_; have GW592 := n2_; have GE592 := n3_; clear n0_ n1_ n2_ n3_; clear hb hbox hg) | ((with_reducible refine gate_dst (N := 3) rfl ?_); refine box_event ?hg (N := 3) ?hd (cs := #[.int .i64 a1_0, .int .i64 a1_1, .string a1_2, .slice A1_3 l1_3.length c1_3, .string a1_4, .int .i64 a1_5, .slice A1_6 l1_6.length c1_6]) (t := 89) ?hr ?_; (case hd => rfl); (case hg => rfl); (case hr => first | (go_simp; done) | (go_simp; rfl)); intro gb593 hg w21 hbox hb; have n0_ := Aside0.mk (blk_below (g := gb592) (o := .cells #[.int .i64 a0_0, .int .i64 a0_1, .string a0_2, .slice A0_3 l0_3.length c0_3, .string a0_4, .int .i64 a0_5, .slice A0_6 l0_6.length c0_6] 89 (0, 0)) (by (with_reducible repeat (first | refine blk_drewN ?_ _ | refine blk_drew ?_ | refine blk_alloc ?_ _)); exact BK592.out) hb); have n1_ := Aside0.mk (below_step (by repeat (first | (with_reducible first | exact HB.out | apply below_alloc | apply pw_below_drewN | apply below_drew1 | refine below_set ?_ GE592.out) | exact HB.out)) hb); have n2_ := Aside0.mk (hbox); have n3_ := Aside0.mk ((by rw [hg]; exact (below_size (by repeat (first | (with_reducible first | exact HB.out | apply below_alloc | apply pw_below_drewN | apply below_drew1 | refine below_set ?_ GE592.out) | exact HB.out))) : w.heap.size ≤ gb593)); have n4_ := Aside0.mk ((by rw [hg]; exact (below_size (by repeat (first | (with_reducible first | exact HB.out | apply below_alloc | apply pw_below_drewN | apply below_drew1 | refine below_set ?_ GE592.out) | exact HB.out))) : w.heap.size ≤ gb593)); have n5_ := Aside0.mk ((by rw [hg]; exact Nat.ne_of_lt (blk_lt (g := gb592) (o := .cells #[.int .i64 a0_0, .int .i64 a0_1, .string a0_2, .slice A0_3 l0_3.length c0_3, .string a0_4, .int .i64 a0_5, .slice A0_6 l0_6.length c0_6] 89 (0, 0)) (by (with_reducible repeat (first | refine blk_drewN ?_ _ | refine blk_drew ?_ | refine blk_alloc ?_ _)); exact BK592.out)) : gb592 ≠ gb593)); have n6_ := Aside0.mk ((by rw [hg]; exact Nat.ne_of_gt (blk_lt (g := gb592) (o := .cells #[.int .i64 a0_0, .int .i64 a0_1, .string a0_2, .slice A0_3 l0_3.length c0_3, .string a0_4, .int .i64 a0_5, .slice A0_6 l0_6.length c0_6] 89 (0, 0)) (by (with_reducible repeat (first | refine blk_drewN ?_ _ | refine blk_drew ?_ | refine blk_alloc ?_ _)); exact BK592.out)) : gb593 ≠ gb592)); clear BK592; clear HB; have BK592 := n0_; have HB := n1_; have BK593 := n2_; have GW593 := n3_; have GE593 := n4_; have NB592_593 := n5_; have NB593_592 := n6_; clear n0_ n1_ n2_ n3_ n4_ n5_ n6_; clear hb hbox hg; have hnb22 := NB592_593.out; have hnc22 := NB593_592.out; have hcz23_0 : w21.cell? ⟨gb592, 0, none⟩ = some (.int .i64 a0_0) := (blk_cell BK592.out 0).trans rfl; have hcz23_1 : w21.cell? ⟨gb592, 1, none⟩ = some (.int .i64 a0_1) := (blk_cell BK592.out 1).trans rfl; have hcz23_2 : w21.cell? ⟨gb592, 2, none⟩ = some (.string a0_2) := (blk_cell BK592.out 2).trans rfl; have hcz23_3 : w21.cell? ⟨gb592, 3, none⟩ = some (.slice A0_3 l0_3.length c0_3) := (blk_cell BK592.out 3).trans rfl; have hcz23_4 : w21.cell? ⟨gb592, 4, none⟩ = some (.string a0_4) := (blk_cell BK592.out 4).trans rfl; have hcz23_5 : w21.cell? ⟨gb592, 5, none⟩ = some (.int .i64 a0_5) := (blk_cell BK592.out 5).trans rfl; have hcz23_6 : w21.cell? ⟨gb592, 6, none⟩ = some (.slice A0_6 l0_6.length c0_6) := (blk_cell BK592.out 6).trans rfl; have hfz23_0 := blk_frozen BK592.out 0; have hfz23_1 := blk_frozen BK592.out 1; have hfz23_2 := blk_frozen BK592.out 2; have hfz23_3 := blk_frozen BK592.out 3; have hfz23_4 := blk_frozen BK592.out 4; have hfz23_5 := blk_frozen BK592.out 5; have hfz23_6 := blk_frozen BK592.out 6; have hcz24_0 : w21.cell? ⟨gb593, 0, none⟩ = some (.int .i64 a1_0) := (blk_cell BK593.out 0).trans rfl; have hcz24_1 : w21.cell? ⟨gb593, 1, none⟩ = some (.int .i64 a1_1) := (blk_cell BK593.out 1).trans rfl; have hcz24_2 : w21.cell? ⟨gb593, 2, none⟩ = some (.string a1_2) := (blk_cell BK593.out 2).trans rfl; have hcz24_3 : w21.cell? ⟨gb593, 3, none⟩ = some (.slice A1_3 l1_3.length c1_3) := (blk_cell BK593.out 3).trans rfl; have hcz24_4 : w21.cell? ⟨gb593, 4, none⟩ = some (.string a1_4) := (blk_cell BK593.out 4).trans rfl; have hcz24_5 : w21.cell? ⟨gb593, 5, none⟩ = some (.int .i64 a1_5) := (blk_cell BK593.out 5).trans rfl; have hcz24_6 : w21.cell? ⟨gb593, 6, none⟩ = some (.slice A1_6 l1_6.length c1_6) := (blk_cell BK593.out 6).trans rfl; have hfz24_0 := blk_frozen BK593.out 0; have hfz24_1 := blk_frozen BK593.out 1; have hfz24_2 := blk_frozen BK593.out 2; have hfz24_3 := blk_frozen BK593.out 3; have hfz24_4 := blk_frozen BK593.out 4; have hfz24_5 := blk_frozen BK593.out 5; have hfz24_6 := blk_frozen BK593.out 6) | ((with_reducible refine gate_callee (f := 21) rfl ?_); refine goesL_ (some 24) rfl rfl Try.func21 (by kernel_rfl) rfl #[.slice A0_3 l0_3.length c0_3, .slice A1_3 l1_3.length c1_3] rfl (by (try simp only [List.map_toArray, List.map_cons, List.map_nil]); first | done | rfl | (simp only [List.length_drop, List.length_take]; rfl)) ?_; (with_reducible refine (laws_eqAttrS.calls k _ _ l0_3 _ _ l1_3 true _ ?side1 ?side2 ?side3 ?side4 A6.out).mono ?_); (case side1 => repeat (first | exact (Kd.C_below HR0_3.out HB.out) | (with_reducible refine Kd.C_alloc ?_ _) | (with_reducible refine Kd.C_drewN ?_ _) | (with_reducible refine Kd.C_drew ?_))); (case side2 => exact HC0_3.out); (case side3 => repeat (first | exact (Kd.C_below HR1_3.out HB.out) | (with_reducible refine Kd.C_alloc ?_ _) | (with_reducible refine Kd.C_drewN ?_ _) | (with_reducible refine Kd.C_drew ?_))); (case side4 => exact HC1_3.out); rintro e w25 ⟨rfl, hb⟩; refine ⟨_, rfl, ?_⟩; have n0_ := Aside0.mk (blk_below (g := gb592) (o := .cells #[.int .i64 a0_0, .int .i64 a0_1, .string a0_2, .slice A0_3 l0_3.length c0_3, .string a0_4, .int .i64 a0_5, .slice A0_6 l0_6.length c0_6] 89 (0, 0)) (by (with_reducible repeat (first | refine blk_drewN ?_ _ | refine blk_drew ?_ | refine blk_alloc ?_ _)); exact BK592.out) hb); have n1_ := Aside0.mk (blk_below (g := gb593) (o := .cells #[.int .i64 a1_0, .int .i64 a1_1, .string a1_2, .slice A1_3 l1_3.length c1_3, .string a1_4, .int .i64 a1_5, .slice A1_6 l1_6.length c1_6] 89 (0, 0)) (by (with_reducible repeat (first | refine blk_drewN ?_ _ | refine blk_drew ?_ | refine blk_alloc ?_ _)); exact BK593.out) hb); have n2_ := Aside0.mk (below_step (by repeat (first | (with_reducible first | exact HB.out | apply below_alloc | apply pw_below_drewN | apply below_drew1 | refine below_set ?_ GE592.out | refine below_set ?_ GE593.out) | exact HB.out)) hb); clear BK592; clear BK593; clear HB; have BK592 := n0_; have BK593 := n1_; have HB := n2_; clear n0_ n1_ n2_; (try clear hb); (try clear hb2); (try clear hk); (try clear hi); have hcz26_0 : w25.cell? ⟨gb592, 0, none⟩ = some (.int .i64 a0_0) := (blk_cell BK592.out 0).trans rfl; have hcz26_1 : w25.cell? ⟨gb592, 1, none⟩ = some (.int .i64 a0_1) := (blk_cell BK592.out 1).trans rfl; have hcz26_2 : w25.cell? ⟨gb592, 2, none⟩ = some (.string a0_2) := (blk_cell BK592.out 2).trans rfl; have hcz26_3 : w25.cell? ⟨gb592, 3, none⟩ = some (.slice A0_3 l0_3.length c0_3) := (blk_cell BK592.out 3).trans rfl; have hcz26_4 : w25.cell? ⟨gb592, 4, none⟩ = some (.string a0_4) := (blk_cell BK592.out 4).trans rfl; have hcz26_5 : w25.cell? ⟨gb592, 5, none⟩ = some (.int .i64 a0_5) := (blk_cell BK592.out 5).trans rfl; have hcz26_6 : w25.cell? ⟨gb592, 6, none⟩ = some (.slice A0_6 l0_6.length c0_6) := (blk_cell BK592.out 6).trans rfl; have hfz26_0 := blk_frozen BK592.out 0; have hfz26_1 := blk_frozen BK592.out 1; have hfz26_2 := blk_frozen BK592.out 2; have hfz26_3 := blk_frozen BK592.out 3; have hfz26_4 := blk_frozen BK592.out 4; have hfz26_5 := blk_frozen BK592.out 5; have hfz26_6 := blk_frozen BK592.out 6; have hcz27_0 : w25.cell? ⟨gb593, 0, none⟩ = some (.int .i64 a1_0) := (blk_cell BK593.out 0).trans rfl; have hcz27_1 : w25.cell? ⟨gb593, 1, none⟩ = some (.int .i64 a1_1) := (blk_cell BK593.out 1).trans rfl; have hcz27_2 : w25.cell? ⟨gb593, 2, none⟩ = some (.string a1_2) := (blk_cell BK593.out 2).trans rfl; have hcz27_3 : w25.cell? ⟨gb593, 3, none⟩ = some (.slice A1_3 l1_3.length c1_3) := (blk_cell BK593.out 3).trans rfl; have hcz27_4 : w25.cell? ⟨gb593, 4, none⟩ = some (.string a1_4) := (blk_cell BK593.out 4).trans rfl; have hcz27_5 : w25.cell? ⟨gb593, 5, none⟩ = some (.int .i64 a1_5) := (blk_cell BK593.out 5).trans rfl; have hcz27_6 : w25.cell? ⟨gb593, 6, none⟩ = some (.slice A1_6 l1_6.length c1_6) := (blk_cell BK593.out 6).trans rfl; have hfz27_0 := blk_frozen BK593.out 0; have hfz27_1 := blk_frozen BK593.out 1; have hfz27_2 := blk_frozen BK593.out 2; have hfz27_3 := blk_frozen BK593.out 3; have hfz27_4 := blk_frozen BK593.out 4; have hfz27_5 := blk_frozen BK593.out 5; have hfz27_6 := blk_frozen BK593.out 6) | ((with_reducible refine gate_callee (f := 118) rfl ?_); refine goesL_ (some 40) rfl rfl Try.func118 (by kernel_rfl) rfl #[.slice A0_6 l0_6.length c0_6, .slice A1_6 l1_6.length c1_6] rfl (by (try simp only [List.map_toArray, List.map_cons, List.map_nil]); first | done | rfl | (simp only [List.length_drop, List.length_take]; rfl)) ?_; (with_reducible refine (laws_eqIntS.calls k _ _ l0_6 _ _ l1_6 false _ ?side1 ?side2 ?side3 ?side4 A10.out).mono ?_); (case side1 => repeat (first | exact (Kd.C_below HR0_6.out HB.out) | (with_reducible refine Kd.C_alloc ?_ _) | (with_reducible refine Kd.C_drewN ?_ _) | (with_reducible refine Kd.C_drew ?_))); (case side2 => exact HC0_6.out); (case side3 => repeat (first | exact (Kd.C_below HR1_6.out HB.out) | (with_reducible refine Kd.C_alloc ?_ _) | (with_reducible refine Kd.C_drewN ?_ _) | (with_reducible refine Kd.C_drew ?_))); (case side4 => exact HC1_6.out); rintro e w' ⟨rfl, ⟨nd, rfl⟩⟩; refine ⟨_, rfl, ?_⟩))
        go_ret
        exact ⟨by first | rfl | (simp [errW_none, errW_some] <;> rfl) | (simp [*, errW_none, errW_some] <;> rfl), by repeat (first | (with_reducible first | exact HB.out | apply below_alloc | apply pw_below_drewN | apply below_drew1 | refine below_set ?_ GE592.out | refine below_set ?_ GE593.out) | exact HB.out)⟩
      ·rw [if_neg c9] at H
       have c9b0 : (a0_5 == a1_5) = false := beq_eq_false_iff_ne.mpr c9
       have c9b1 : (a0_5 != a1_5) = true := bne_iff_ne.mpr c9
       obtain rfl := Option.some.inj H
       go_enter Try.func83, Try.ntmps83
       go_wp2_with (first | ((with_reducible refine gate_dst (N := 2) rfl ?_); refine box_event ?hg (N := 2) ?hd (cs := #[.int .i64 a0_0, .int .i64 a0_1, .string a0_2, .slice A0_3 l0_3.length c0_3, .string a0_4, .int .i64 a0_5, .slice A0_6 l0_6.length c0_6]) (t := 89) ?hr ?_; (case hd => rfl); (case hg => rfl); (case hr => first | (go_simp; done) | (go_simp; rfl)); intro gb592 hg w28 hbox hb; have n0_ := Aside0.mk (below_step (by repeat (first | (with_reducible first | exact HB.out | apply below_alloc | apply pw_below_drewN | apply below_drew1) | exact HB.out)) hb); have n1_ := Aside0.mk (hbox); have n2_ := Aside0.mk ((by rw [hg]; exact (below_size (by repeat (first | (with_reducible first | exact HB.out | apply below_alloc | apply pw_below_drewN | apply below_drew1) | exact HB.out))) : w.heap.size ≤ gb592)); have n3_ := Aside0.mk ((by rw [hg]; exact (below_size (by repeat (first | (with_reducible first | exact HB.out | apply below_alloc | apply pw_below_drewN | apply below_drew1) | exact HB.out))) : w.heap.size ≤ gb592)); clear HB; have HB := n0_; have BK592 := n1_; have GW592 := n2_; have GE592 := n3_; clear n0_ n1_ n2_ n3_; clear hb hbox hg) | ((with_reducible refine gate_dst (N := 3) rfl ?_); refine box_event ?hg (N := 3) ?hd (cs := #[.int .i64 a1_0, .int .i64 a1_1, .string a1_2, .slice A1_3 l1_3.length c1_3, .string a1_4, .int .i64 a1_5, .slice A1_6 l1_6.length c1_6]) (t := 89) ?hr ?_; (case hd => rfl); (case hg => rfl); (case hr => first | (go_simp; done) | (go_simp; rfl)); intro gb593 hg w29 hbox hb; have n0_ := Aside0.mk (blk_below (g := gb592) (o := .cells #[.int .i64 a0_0, .int .i64 a0_1, .string a0_2, .slice A0_3 l0_3.length c0_3, .string a0_4, .int .i64 a0_5, .slice A0_6 l0_6.length c0_6] 89 (0, 0)) (by (with_reducible repeat (first | refine blk_drewN ?_ _ | refine blk_drew ?_ | refine blk_alloc ?_ _)); exact BK592.out) hb); have n1_ := Aside0.mk (below_step (by repeat (first | (with_reducible first | exact HB.out | apply below_alloc | apply pw_below_drewN | apply below_drew1 | refine below_set ?_ GE592.out) | exact HB.out)) hb); have n2_ := Aside0.mk (hbox); have n3_ := Aside0.mk ((by rw [hg]; exact (below_size (by repeat (first | (with_reducible first | exact HB.out | apply below_alloc | apply pw_below_drewN | apply below_drew1 | refine below_set ?_ GE592.out) | exact HB.out))) : w.heap.size ≤ gb593)); have n4_ := Aside0.mk ((by rw [hg]; exact (below_size (by repeat (first | (with_reducible first | exact HB.out | apply below_alloc | apply pw_below_drewN | apply below_drew1 | refine below_set ?_ GE592.out) | exact HB.out))) : w.heap.size ≤ gb593)); have n5_ := Aside0.mk ((by rw [hg]; exact Nat.ne_of_lt (blk_lt (g := gb592) (o := .cells #[.int .i64 a0_0, .int .i64 a0_1, .string a0_2, .slice A0_3 l0_3.length c0_3, .string a0_4, .int .i64 a0_5, .slice A0_6 l0_6.length c0_6] 89 (0, 0)) (by (with_reducible repeat (first | refine blk_drewN ?_ _ | refine blk_drew ?_ | refine blk_alloc ?_ _)); exact BK592.out)) : gb592 ≠ gb593)); have n6_ := Aside0.mk ((by rw [hg]; exact Nat.ne_of_gt (blk_lt (g := gb592) (o := .cells #[.int .i64 a0_0, .int .i64 a0_1, .string a0_2, .slice A0_3 l0_3.length c0_3, .string a0_4, .int .i64 a0_5, .slice A0_6 l0_6.length c0_6] 89 (0, 0)) (by (with_reducible repeat (first | refine blk_drewN ?_ _ | refine blk_drew ?_ | refine blk_alloc ?_ _)); exact BK592.out)) : gb593 ≠ gb592)); clear BK592; clear HB; have BK592 := n0_; have HB := n1_; have BK593 := n2_; have GW593 := n3_; have GE593 := n4_; have NB592_593 := n5_; have NB593_592 := n6_; clear n0_ n1_ n2_ n3_ n4_ n5_ n6_; clear hb hbox hg; have hnb30 := NB592_593.out; have hnc30 := NB593_592.out; have hcz31_0 : w29.cell? ⟨gb592, 0, none⟩ = some (.int .i64 a0_0) := (blk_cell BK592.out 0).trans rfl; have hcz31_1 : w29.cell? ⟨gb592, 1, none⟩ = some (.int .i64 a0_1) := (blk_cell BK592.out 1).trans rfl; have hcz31_2 : w29.cell? ⟨gb592, 2, none⟩ = some (.string a0_2) := (blk_cell BK592.out 2).trans rfl; have hcz31_3 : w29.cell? ⟨gb592, 3, none⟩ = some (.slice A0_3 l0_3.length c0_3) := (blk_cell BK592.out 3).trans rfl; have hcz31_4 : w29.cell? ⟨gb592, 4, none⟩ = some (.string a0_4) := (blk_cell BK592.out 4).trans rfl; have hcz31_5 : w29.cell? ⟨gb592, 5, none⟩ = some (.int .i64 a0_5) := (blk_cell BK592.out 5).trans rfl; have hcz31_6 : w29.cell? ⟨gb592, 6, none⟩ = some (.slice A0_6 l0_6.length c0_6) := (blk_cell BK592.out 6).trans rfl; have hfz31_0 := blk_frozen BK592.out 0; have hfz31_1 := blk_frozen BK592.out 1; have hfz31_2 := blk_frozen BK592.out 2; have hfz31_3 := blk_frozen BK592.out 3; have hfz31_4 := blk_frozen BK592.out 4; have hfz31_5 := blk_frozen BK592.out 5; have hfz31_6 := blk_frozen BK592.out 6; have hcz32_0 : w29.cell? ⟨gb593, 0, none⟩ = some (.int .i64 a1_0) := (blk_cell BK593.out 0).trans rfl; have hcz32_1 : w29.cell? ⟨gb593, 1, none⟩ = some (.int .i64 a1_1) := (blk_cell BK593.out 1).trans rfl; have hcz32_2 : w29.cell? ⟨gb593, 2, none⟩ = some (.string a1_2) := (blk_cell BK593.out 2).trans rfl; have hcz32_3 : w29.cell? ⟨gb593, 3, none⟩ = some (.slice A1_3 l1_3.length c1_3) := (blk_cell BK593.out 3).trans rfl; have hcz32_4 : w29.cell? ⟨gb593, 4, none⟩ = some (.string a1_4) := (blk_cell BK593.out 4).trans rfl; have hcz32_5 : w29.cell? ⟨gb593, 5, none⟩ = some (.int .i64 a1_5) := (blk_cell BK593.out 5).trans rfl; have hcz32_6 : w29.cell? ⟨gb593, 6, none⟩ = some (.slice A1_6 l1_6.length c1_6) := (blk_cell BK593.out 6).trans rfl; have hfz32_0 := blk_frozen BK593.out 0; have hfz32_1 := blk_frozen BK593.out 1; have hfz32_2 := blk_frozen BK593.out 2; have hfz32_3 := blk_frozen BK593.out 3; have hfz32_4 := blk_frozen BK593.out 4; have hfz32_5 := blk_frozen BK593.out 5; have hfz32_6 := blk_frozen BK593.out 6) | ((with_reducible refine gate_callee (f := 21) rfl ?_); refine goesL_ (some 24) rfl rfl Try.func21 (by kernel_rfl) rfl #[.slice A0_3 l0_3.length c0_3, .slice A1_3 l1_3.length c1_3] rfl (by (try simp only [List.map_toArray, List.map_cons, List.map_nil]); first | done | rfl | (simp only [List.length_drop, List.length_take]; rfl)) ?_; (with_reducible refine (laws_eqAttrS.calls k _ _ l0_3 _ _ l1_3 true _ ?side1 ?side2 ?side3 ?side4 A6.out).mono ?_); (case side1 => repeat (first | exact (Kd.C_below HR0_3.out HB.out) | (with_reducible refine Kd.C_alloc ?_ _) | (with_reducible refine Kd.C_drewN ?_ _) | (with_reducible refine Kd.C_drew ?_))); (case side2 => exact HC0_3.out); (case side3 => repeat (first | exact (Kd.C_below HR1_3.out HB.out) | (with_reducible refine Kd.C_alloc ?_ _) | (with_reducible refine Kd.C_drewN ?_ _) | (with_reducible refine Kd.C_drew ?_))); (case side4 => exact HC1_3.out); rintro e w33 ⟨rfl, hb⟩; refine ⟨_, rfl, ?_⟩; have n0_ := Aside0.mk (blk_below (g := gb592) (o := .cells #[.int .i64 a0_0, .int .i64 a0_1, .string a0_2, .slice A0_3 l0_3.length c0_3, .string a0_4, .int .i64 a0_5, .slice A0_6 l0_6.length c0_6] 89 (0, 0)) (by (with_reducible repeat (first | refine blk_drewN ?_ _ | refine blk_drew ?_ | refine blk_alloc ?_ _)); exact BK592.out) hb); have n1_ := Aside0.mk (blk_below (g := gb593) (o := .cells #[.int .i64 a1_0, .int .i64 a1_1, .string a1_2, .slice A1_3 l1_3.length c1_3, .string a1_4, .int .i64 a1_5, .slice A1_6 l1_6.length c1_6] 89 (0, 0)) (by (with_reducible repeat (first | refine blk_drewN ?_ _ | refine blk_drew ?_ | refine blk_alloc ?_ _)); exact BK593.out) hb); have n2_ := Aside0.mk (below_step (by repeat (first | (with_reducible first | exact HB.out | apply below_alloc | apply pw_below_drewN | apply below_drew1 | refine below_set ?_ GE592.out | refine below_set ?_ GE593.out) | exact HB.out)) hb); clear BK592; clear BK593; clear HB; have BK592 := n0_; have BK593 := n1_; have HB := n2_; clear n0_ n1_ n2_; (try clear hb); (try clear hb2); (try clear hk); (try clear hi); have hcz34_0 : w33.cell? ⟨gb592, 0, none⟩ = some (.int .i64 a0_0) := (blk_cell BK592.out 0).trans rfl; have hcz34_1 : w33.cell? ⟨gb592, 1, none⟩ = some (.int .i64 a0_1) := (blk_cell BK592.out 1).trans rfl; have hcz34_2 : w33.cell? ⟨gb592, 2, none⟩ = some (.string a0_2) := (blk_cell BK592.out 2).trans rfl; have hcz34_3 : w33.cell? ⟨gb592, 3, none⟩ = some (.slice A0_3 l0_3.length c0_3) := (blk_cell BK592.out 3).trans rfl; have hcz34_4 : w33.cell? ⟨gb592, 4, none⟩ = some (.string a0_4) := (blk_cell BK592.out 4).trans rfl; have hcz34_5 : w33.cell? ⟨gb592, 5, none⟩ = some (.int .i64 a0_5) := (blk_cell BK592.out 5).trans rfl; have hcz34_6 : w33.cell? ⟨gb592, 6, none⟩ = some (.slice A0_6 l0_6.length c0_6) := (blk_cell BK592.out 6).trans rfl; have hfz34_0 := blk_frozen BK592.out 0; have hfz34_1 := blk_frozen BK592.out 1; have hfz34_2 := blk_frozen BK592.out 2; have hfz34_3 := blk_frozen BK592.out 3; have hfz34_4 := blk_frozen BK592.out 4; have hfz34_5 := blk_frozen BK592.out 5; have hfz34_6 := blk_frozen BK592.out 6; have hcz35_0 : w33.cell? ⟨gb593, 0, none⟩ = some (.int .i64 a1_0) := (blk_cell BK593.out 0).trans rfl; have hcz35_1 : w33.cell? ⟨gb593, 1, none⟩ = some (.int .i64 a1_1) := (blk_cell BK593.out 1).trans rfl; have hcz35_2 : w33.cell? ⟨gb593, 2, none⟩ = some (.string a1_2) := (blk_cell BK593.out 2).trans rfl; have hcz35_3 : w33.cell? ⟨gb593, 3, none⟩ = some (.slice A1_3 l1_3.length c1_3) := (blk_cell BK593.out 3).trans rfl; have hcz35_4 : w33.cell? ⟨gb593, 4, none⟩ = some (.string a1_4) := (blk_cell BK593.out 4).trans rfl; have hcz35_5 : w33.cell? ⟨gb593, 5, none⟩ = some (.int .i64 a1_5) := (blk_cell BK593.out 5).trans rfl; have hcz35_6 : w33.cell? ⟨gb593, 6, none⟩ = some (.slice A1_6 l1_6.length c1_6) := (blk_cell BK593.out 6).trans rfl; have hfz35_0 := blk_frozen BK593.out 0; have hfz35_1 := blk_frozen BK593.out 1; have hfz35_2 := blk_frozen BK593.out 2; have hfz35_3 := blk_frozen BK593.out 3; have hfz35_4 := blk_frozen BK593.out 4; have hfz35_5 := blk_frozen BK593.out 5; have hfz35_6 := blk_frozen BK593.out 6))
       go_ret
       exact ⟨by first | rfl | (simp [errW_none, errW_some] <;> rfl) | (simp [*, errW_none, errW_some] <;> rfl), by repeat (first | (with_reducible first | exact HB.out | apply below_alloc | apply pw_below_drewN | apply below_drew1 | refine below_set ?_ GE592.out | refine below_set ?_ GE593.out) | exact HB.out)⟩
     ·rw [if_neg c8] at H
      have c8b0 : (a0_4.toList == a1_4.toList) = false := beq_eq_false_iff_ne.mpr c8
      have c8b1 : (a0_4.toList != a1_4.toList) = true := bne_iff_ne.mpr c8
      obtain rfl := Option.some.inj H
      go_enter Try.func83, Try.ntmps83
      go_wp2_with (first | ((with_reducible refine gate_dst (N := 2) rfl ?_); refine box_event ?hg (N := 2) ?hd (cs := #[.int .i64 a0_0, .int .i64 a0_1, .string a0_2, .slice A0_3 l0_3.length c0_3, .string a0_4, .int .i64 a0_5, .slice A0_6 l0_6.length c0_6]) (t := 89) ?hr ?_; (case hd => rfl); (case hg => rfl); (case hr => first | (go_simp; done) | (go_simp; rfl)); intro gb592 hg w36 hbox hb; have n0_ := Aside0.mk (below_step (by repeat (first | (with_reducible first | exact HB.out | apply below_alloc | apply pw_below_drewN | apply below_drew1) | exact HB.out)) hb); have n1_ := Aside0.mk (hbox); have n2_ := Aside0.mk ((by rw [hg]; exact (below_size (by repeat (first | (with_reducible first | exact HB.out | apply below_alloc | apply pw_below_drewN | apply below_drew1) | exact HB.out))) : w.heap.size ≤ gb592)); have n3_ := Aside0.mk ((by rw [hg]; exact (below_size (by repeat (first | (with_reducible first | exact HB.out | apply below_alloc | apply pw_below_drewN | apply below_drew1) | exact HB.out))) : w.heap.size ≤ gb592)); clear HB; have HB := n0_; have BK592 := n1_; have GW592 := n2_; have GE592 := n3_; clear n0_ n1_ n2_ n3_; clear hb hbox hg) | ((with_reducible refine gate_dst (N := 3) rfl ?_); refine box_event ?hg (N := 3) ?hd (cs := #[.int .i64 a1_0, .int .i64 a1_1, .string a1_2, .slice A1_3 l1_3.length c1_3, .string a1_4, .int .i64 a1_5, .slice A1_6 l1_6.length c1_6]) (t := 89) ?hr ?_; (case hd => rfl); (case hg => rfl); (case hr => first | (go_simp; done) | (go_simp; rfl)); intro gb593 hg w37 hbox hb; have n0_ := Aside0.mk (blk_below (g := gb592) (o := .cells #[.int .i64 a0_0, .int .i64 a0_1, .string a0_2, .slice A0_3 l0_3.length c0_3, .string a0_4, .int .i64 a0_5, .slice A0_6 l0_6.length c0_6] 89 (0, 0)) (by (with_reducible repeat (first | refine blk_drewN ?_ _ | refine blk_drew ?_ | refine blk_alloc ?_ _)); exact BK592.out) hb); have n1_ := Aside0.mk (below_step (by repeat (first | (with_reducible first | exact HB.out | apply below_alloc | apply pw_below_drewN | apply below_drew1 | refine below_set ?_ GE592.out) | exact HB.out)) hb); have n2_ := Aside0.mk (hbox); have n3_ := Aside0.mk ((by rw [hg]; exact (below_size (by repeat (first | (with_reducible first | exact HB.out | apply below_alloc | apply pw_below_drewN | apply below_drew1 | refine below_set ?_ GE592.out) | exact HB.out))) : w.heap.size ≤ gb593)); have n4_ := Aside0.mk ((by rw [hg]; exact (below_size (by repeat (first | (with_reducible first | exact HB.out | apply below_alloc | apply pw_below_drewN | apply below_drew1 | refine below_set ?_ GE592.out) | exact HB.out))) : w.heap.size ≤ gb593)); have n5_ := Aside0.mk ((by rw [hg]; exact Nat.ne_of_lt (blk_lt (g := gb592) (o := .cells #[.int .i64 a0_0, .int .i64 a0_1, .string a0_2, .slice A0_3 l0_3.length c0_3, .string a0_4, .int .i64 a0_5, .slice A0_6 l0_6.length c0_6] 89 (0, 0)) (by (with_reducible repeat (first | refine blk_drewN ?_ _ | refine blk_drew ?_ | refine blk_alloc ?_ _)); exact BK592.out)) : gb592 ≠ gb593)); have n6_ := Aside0.mk ((by rw [hg]; exact Nat.ne_of_gt (blk_lt (g := gb592) (o := .cells #[.int .i64 a0_0, .int .i64 a0_1, .string a0_2, .slice A0_3 l0_3.length c0_3, .string a0_4, .int .i64 a0_5, .slice A0_6 l0_6.length c0_6] 89 (0, 0)) (by (with_reducible repeat (first | refine blk_drewN ?_ _ | refine blk_drew ?_ | refine blk_alloc ?_ _)); exact BK592.out)) : gb593 ≠ gb592)); clear BK592; clear HB; have BK592 := n0_; have HB := n1_; have BK593 := n2_; have GW593 := n3_; have GE593 := n4_; have NB592_593 := n5_; have NB593_592 := n6_; clear n0_ n1_ n2_ n3_ n4_ n5_ n6_; clear hb hbox hg; have hnb38 := NB592_593.out; have hnc38 := NB593_592.out; have hcz39_0 : w37.cell? ⟨gb592, 0, none⟩ = some (.int .i64 a0_0) := (blk_cell BK592.out 0).trans rfl; have hcz39_1 : w37.cell? ⟨gb592, 1, none⟩ = some (.int .i64 a0_1) := (blk_cell BK592.out 1).trans rfl; have hcz39_2 : w37.cell? ⟨gb592, 2, none⟩ = some (.string a0_2) := (blk_cell BK592.out 2).trans rfl; have hcz39_3 : w37.cell? ⟨gb592, 3, none⟩ = some (.slice A0_3 l0_3.length c0_3) := (blk_cell BK592.out 3).trans rfl; have hcz39_4 : w37.cell? ⟨gb592, 4, none⟩ = some (.string a0_4) := (blk_cell BK592.out 4).trans rfl; have hcz39_5 : w37.cell? ⟨gb592, 5, none⟩ = some (.int .i64 a0_5) := (blk_cell BK592.out 5).trans rfl; have hcz39_6 : w37.cell? ⟨gb592, 6, none⟩ = some (.slice A0_6 l0_6.length c0_6) := (blk_cell BK592.out 6).trans rfl; have hfz39_0 := blk_frozen BK592.out 0; have hfz39_1 := blk_frozen BK592.out 1; have hfz39_2 := blk_frozen BK592.out 2; have hfz39_3 := blk_frozen BK592.out 3; have hfz39_4 := blk_frozen BK592.out 4; have hfz39_5 := blk_frozen BK592.out 5; have hfz39_6 := blk_frozen BK592.out 6; have hcz40_0 : w37.cell? ⟨gb593, 0, none⟩ = some (.int .i64 a1_0) := (blk_cell BK593.out 0).trans rfl; have hcz40_1 : w37.cell? ⟨gb593, 1, none⟩ = some (.int .i64 a1_1) := (blk_cell BK593.out 1).trans rfl; have hcz40_2 : w37.cell? ⟨gb593, 2, none⟩ = some (.string a1_2) := (blk_cell BK593.out 2).trans rfl; have hcz40_3 : w37.cell? ⟨gb593, 3, none⟩ = some (.slice A1_3 l1_3.length c1_3) := (blk_cell BK593.out 3).trans rfl; have hcz40_4 : w37.cell? ⟨gb593, 4, none⟩ = some (.string a1_4) := (blk_cell BK593.out 4).trans rfl; have hcz40_5 : w37.cell? ⟨gb593, 5, none⟩ = some (.int .i64 a1_5) := (blk_cell BK593.out 5).trans rfl; have hcz40_6 : w37.cell? ⟨gb593, 6, none⟩ = some (.slice A1_6 l1_6.length c1_6) := (blk_cell BK593.out 6).trans rfl; have hfz40_0 := blk_frozen BK593.out 0; have hfz40_1 := blk_frozen BK593.out 1; have hfz40_2 := blk_frozen BK593.out 2; have hfz40_3 := blk_frozen BK593.out 3; have hfz40_4 := blk_frozen BK593.out 4; have hfz40_5 := blk_frozen BK593.out 5; have hfz40_6 := blk_frozen BK593.out 6) | ((with_reducible refine gate_callee (f := 21) rfl ?_); refine goesL_ (some 24) rfl rfl Try.func21 (by kernel_rfl) rfl #[.slice A0_3 l0_3.length c0_3, .slice A1_3 l1_3.length c1_3] rfl (by (try simp only [List.map_toArray, List.map_cons, List.map_nil]); first | done | rfl | (simp only [List.length_drop, List.length_take]; rfl)) ?_; (with_reducible refine (laws_eqAttrS.calls k _ _ l0_3 _ _ l1_3 true _ ?side1 ?side2 ?side3 ?side4 A6.out).mono ?_); (case side1 => repeat (first | exact (Kd.C_below HR0_3.out HB.out) | (with_reducible refine Kd.C_alloc ?_ _) | (with_reducible refine Kd.C_drewN ?_ _) | (with_reducible refine Kd.C_drew ?_))); (case side2 => exact HC0_3.out); (case side3 => repeat (first | exact (Kd.C_below HR1_3.out HB.out) | (with_reducible refine Kd.C_alloc ?_ _) | (with_reducible refine Kd.C_drewN ?_ _) | (with_reducible refine Kd.C_drew ?_))); (case side4 => exact HC1_3.out); rintro e w41 ⟨rfl, hb⟩; refine ⟨_, rfl, ?_⟩; have n0_ := Aside0.mk (blk_below (g := gb592) (o := .cells #[.int .i64 a0_0, .int .i64 a0_1, .string a0_2, .slice A0_3 l0_3.length c0_3, .string a0_4, .int .i64 a0_5, .slice A0_6 l0_6.length c0_6] 89 (0, 0)) (by (with_reducible repeat (first | refine blk_drewN ?_ _ | refine blk_drew ?_ | refine blk_alloc ?_ _)); exact BK592.out) hb); have n1_ := Aside0.mk (blk_below (g := gb593) (o := .cells #[.int .i64 a1_0, .int .i64 a1_1, .string a1_2, .slice A1_3 l1_3.length c1_3, .string a1_4, .int .i64 a1_5, .slice A1_6 l1_6.length c1_6] 89 (0, 0)) (by (with_reducible repeat (first | refine blk_drewN ?_ _ | refine blk_drew ?_ | refine blk_alloc ?_ _)); exact BK593.out) hb); have n2_ := Aside0.mk (below_step (by repeat (first | (with_reducible first | exact HB.out | apply below_alloc | apply pw_below_drewN | apply below_drew1 | refine below_set ?_ GE592.out | refine below_set ?_ GE593.out) | exact HB.out)) hb); clear BK592; clear BK593; clear HB; have BK592 := n0_; have BK593 := n1_; have HB := n2_; clear n0_ n1_ n2_; (try clear hb); (try clear hb2); (try clear hk); (try clear hi); have hcz42_0 : w41.cell? ⟨gb592, 0, none⟩ = some (.int .i64 a0_0) := (blk_cell BK592.out 0).trans rfl; have hcz42_1 : w41.cell? ⟨gb592, 1, none⟩ = some (.int .i64 a0_1) := (blk_cell BK592.out 1).trans rfl; have hcz42_2 : w41.cell? ⟨gb592, 2, none⟩ = some (.string a0_2) := (blk_cell BK592.out 2).trans rfl; have hcz42_3 : w41.cell? ⟨gb592, 3, none⟩ = some (.slice A0_3 l0_3.length c0_3) := (blk_cell BK592.out 3).trans rfl; have hcz42_4 : w41.cell? ⟨gb592, 4, none⟩ = some (.string a0_4) := (blk_cell BK592.out 4).trans rfl; have hcz42_5 : w41.cell? ⟨gb592, 5, none⟩ = some (.int .i64 a0_5) := (blk_cell BK592.out 5).trans rfl; have hcz42_6 : w41.cell? ⟨gb592, 6, none⟩ = some (.slice A0_6 l0_6.length c0_6) := (blk_cell BK592.out 6).trans rfl; have hfz42_0 := blk_frozen BK592.out 0; have hfz42_1 := blk_frozen BK592.out 1; have hfz42_2 := blk_frozen BK592.out 2; have hfz42_3 := blk_frozen BK592.out 3; have hfz42_4 := blk_frozen BK592.out 4; have hfz42_5 := blk_frozen BK592.out 5; have hfz42_6 := blk_frozen BK592.out 6; have hcz43_0 : w41.cell? ⟨gb593, 0, none⟩ = some (.int .i64 a1_0) := (blk_cell BK593.out 0).trans rfl; have hcz43_1 : w41.cell? ⟨gb593, 1, none⟩ = some (.int .i64 a1_1) := (blk_cell BK593.out 1).trans rfl; have hcz43_2 : w41.cell? ⟨gb593, 2, none⟩ = some (.string a1_2) := (blk_cell BK593.out 2).trans rfl; have hcz43_3 : w41.cell? ⟨gb593, 3, none⟩ = some (.slice A1_3 l1_3.length c1_3) := (blk_cell BK593.out 3).trans rfl; have hcz43_4 : w41.cell? ⟨gb593, 4, none⟩ = some (.string a1_4) := (blk_cell BK593.out 4).trans rfl; have hcz43_5 : w41.cell? ⟨gb593, 5, none⟩ = some (.int .i64 a1_5) := (blk_cell BK593.out 5).trans rfl; have hcz43_6 : w41.cell? ⟨gb593, 6, none⟩ = some (.slice A1_6 l1_6.length c1_6) := (blk_cell BK593.out 6).trans rfl; have hfz43_0 := blk_frozen BK593.out 0; have hfz43_1 := blk_frozen BK593.out 1; have hfz43_2 := blk_frozen BK593.out 2; have hfz43_3 := blk_frozen BK593.out 3; have hfz43_4 := blk_frozen BK593.out 4; have hfz43_5 := blk_frozen BK593.out 5; have hfz43_6 := blk_frozen BK593.out 6))
      go_ret
      exact ⟨by first | rfl | (simp [errW_none, errW_some] <;> rfl) | (simp [*, errW_none, errW_some] <;> rfl), by repeat (first | (with_reducible first | exact HB.out | apply below_alloc | apply pw_below_drewN | apply below_drew1 | refine below_set ?_ GE592.out | refine below_set ?_ GE593.out) | exact HB.out)⟩
    ·replace c7 := Bool.eq_false_iff.mpr c7
     subst c7
     have H1 : (some false) = some r := by rw [if_neg (show ¬ (false = true) by decide)] at H; exact H
     clear H
     have H := H1
     clear H1
     obtain rfl := Option.some.inj H
     go_enter Try.func83, Try.ntmps83
     go_wp2_with (first | ((with_reducible refine gate_dst (N := 2) rfl ?_); refine box_event ?hg (N := 2) ?hd (cs := #[.int .i64 a0_0, .int .i64 a0_1, .string a0_2, .slice A0_3 l0_3.length c0_3, .string a0_4, .int .i64 a0_5, .slice A0_6 l0_6.length c0_6]) (t := 89) ?hr ?_; (case hd => rfl); (case hg => rfl); (case hr => first | (go_simp; done) | (go_simp; rfl)); intro gb592 hg w44 hbox hb; have n0_ := Aside0.mk (below_step (by repeat (first | (with_reducible first | exact HB.out | apply below_alloc | apply pw_below_drewN | apply below_drew1) | exact HB.out)) hb); have n1_ := Aside0.mk (hbox); have n2_ := Aside0.mk ((by rw [hg]; exact (below_size (by repeat (first | (with_reducible first | exact HB.out | apply below_alloc | apply pw_below_drewN | apply below_drew1) | exact HB.out))) : w.heap.size ≤ gb592)); have n3_ := Aside0.mk ((by rw [hg]; exact (below_size (by repeat (first | (with_reducible first | exact HB.out | apply below_alloc | apply pw_below_drewN | apply below_drew1) | exact HB.out))) : w.heap.size ≤ gb592)); clear HB; have HB := n0_; have BK592 := n1_; have GW592 := n2_; have GE592 := n3_; clear n0_ n1_ n2_ n3_; clear hb hbox hg) | ((with_reducible refine gate_dst (N := 3) rfl ?_); refine box_event ?hg (N := 3) ?hd (cs := #[.int .i64 a1_0, .int .i64 a1_1, .string a1_2, .slice A1_3 l1_3.length c1_3, .string a1_4, .int .i64 a1_5, .slice A1_6 l1_6.length c1_6]) (t := 89) ?hr ?_; (case hd => rfl); (case hg => rfl); (case hr => first | (go_simp; done) | (go_simp; rfl)); intro gb593 hg w45 hbox hb; have n0_ := Aside0.mk (blk_below (g := gb592) (o := .cells #[.int .i64 a0_0, .int .i64 a0_1, .string a0_2, .slice A0_3 l0_3.length c0_3, .string a0_4, .int .i64 a0_5, .slice A0_6 l0_6.length c0_6] 89 (0, 0)) (by (with_reducible repeat (first | refine blk_drewN ?_ _ | refine blk_drew ?_ | refine blk_alloc ?_ _)); exact BK592.out) hb); have n1_ := Aside0.mk (below_step (by repeat (first | (with_reducible first | exact HB.out | apply below_alloc | apply pw_below_drewN | apply below_drew1 | refine below_set ?_ GE592.out) | exact HB.out)) hb); have n2_ := Aside0.mk (hbox); have n3_ := Aside0.mk ((by rw [hg]; exact (below_size (by repeat (first | (with_reducible first | exact HB.out | apply below_alloc | apply pw_below_drewN | apply below_drew1 | refine below_set ?_ GE592.out) | exact HB.out))) : w.heap.size ≤ gb593)); have n4_ := Aside0.mk ((by rw [hg]; exact (below_size (by repeat (first | (with_reducible first | exact HB.out | apply below_alloc | apply pw_below_drewN | apply below_drew1 | refine below_set ?_ GE592.out) | exact HB.out))) : w.heap.size ≤ gb593)); have n5_ := Aside0.mk ((by rw [hg]; exact Nat.ne_of_lt (blk_lt (g := gb592) (o := .cells #[.int .i64 a0_0, .int .i64 a0_1, .string a0_2, .slice A0_3 l0_3.length c0_3, .string a0_4, .int .i64 a0_5, .slice A0_6 l0_6.length c0_6] 89 (0, 0)) (by (with_reducible repeat (first | refine blk_drewN ?_ _ | refine blk_drew ?_ | refine blk_alloc ?_ _)); exact BK592.out)) : gb592 ≠ gb593)); have n6_ := Aside0.mk ((by rw [hg]; exact Nat.ne_of_gt (blk_lt (g := gb592) (o := .cells #[.int .i64 a0_0, .int .i64 a0_1, .string a0_2, .slice A0_3 l0_3.length c0_3, .string a0_4, .int .i64 a0_5, .slice A0_6 l0_6.length c0_6] 89 (0, 0)) (by (with_reducible repeat (first | refine blk_drewN ?_ _ | refine blk_drew ?_ | refine blk_alloc ?_ _)); exact BK592.out)) : gb593 ≠ gb592)); clear BK592; clear HB; have BK592 := n0_; have HB := n1_; have BK593 := n2_; have GW593 := n3_; have GE593 := n4_; have NB592_593 := n5_; have NB593_592 := n6_; clear n0_ n1_ n2_ n3_ n4_ n5_ n6_; clear hb hbox hg; have hnb46 := NB592_593.out; have hnc46 := NB593_592.out; have hcz47_0 : w45.cell? ⟨gb592, 0, none⟩ = some (.int .i64 a0_0) := (blk_cell BK592.out 0).trans rfl; have hcz47_1 : w45.cell? ⟨gb592, 1, none⟩ = some (.int .i64 a0_1) := (blk_cell BK592.out 1).trans rfl; have hcz47_2 : w45.cell? ⟨gb592, 2, none⟩ = some (.string a0_2) := (blk_cell BK592.out 2).trans rfl; have hcz47_3 : w45.cell? ⟨gb592, 3, none⟩ = some (.slice A0_3 l0_3.length c0_3) := (blk_cell BK592.out 3).trans rfl; have hcz47_4 : w45.cell? ⟨gb592, 4, none⟩ = some (.string a0_4) := (blk_cell BK592.out 4).trans rfl; have hcz47_5 : w45.cell? ⟨gb592, 5, none⟩ = some (.int .i64 a0_5) := (blk_cell BK592.out 5).trans rfl; have hcz47_6 : w45.cell? ⟨gb592, 6, none⟩ = some (.slice A0_6 l0_6.length c0_6) := (blk_cell BK592.out 6).trans rfl; have hfz47_0 := blk_frozen BK592.out 0; have hfz47_1 := blk_frozen BK592.out 1; have hfz47_2 := blk_frozen BK592.out 2; have hfz47_3 := blk_frozen BK592.out 3; have hfz47_4 := blk_frozen BK592.out 4; have hfz47_5 := blk_frozen BK592.out 5; have hfz47_6 := blk_frozen BK592.out 6; have hcz48_0 : w45.cell? ⟨gb593, 0, none⟩ = some (.int .i64 a1_0) := (blk_cell BK593.out 0).trans rfl; have hcz48_1 : w45.cell? ⟨gb593, 1, none⟩ = some (.int .i64 a1_1) := (blk_cell BK593.out 1).trans rfl; have hcz48_2 : w45.cell? ⟨gb593, 2, none⟩ = some (.string a1_2) := (blk_cell BK593.out 2).trans rfl; have hcz48_3 : w45.cell? ⟨gb593, 3, none⟩ = some (.slice A1_3 l1_3.length c1_3) := (blk_cell BK593.out 3).trans rfl; have hcz48_4 : w45.cell? ⟨gb593, 4, none⟩ = some (.string a1_4) := (blk_cell BK593.out 4).trans rfl; have hcz48_5 : w45.cell? ⟨gb593, 5, none⟩ = some (.int .i64 a1_5) := (blk_cell BK593.out 5).trans rfl; have hcz48_6 : w45.cell? ⟨gb593, 6, none⟩ = some (.slice A1_6 l1_6.length c1_6) := (blk_cell BK593.out 6).trans rfl; have hfz48_0 := blk_frozen BK593.out 0; have hfz48_1 := blk_frozen BK593.out 1; have hfz48_2 := blk_frozen BK593.out 2; have hfz48_3 := blk_frozen BK593.out 3; have hfz48_4 := blk_frozen BK593.out 4; have hfz48_5 := blk_frozen BK593.out 5; have hfz48_6 := blk_frozen BK593.out 6) | ((with_reducible refine gate_callee (f := 21) rfl ?_); refine goesL_ (some 24) rfl rfl Try.func21 (by kernel_rfl) rfl #[.slice A0_3 l0_3.length c0_3, .slice A1_3 l1_3.length c1_3] rfl (by (try simp only [List.map_toArray, List.map_cons, List.map_nil]); first | done | rfl | (simp only [List.length_drop, List.length_take]; rfl)) ?_; (with_reducible refine (laws_eqAttrS.calls k _ _ l0_3 _ _ l1_3 false _ ?side1 ?side2 ?side3 ?side4 A6.out).mono ?_); (case side1 => repeat (first | exact (Kd.C_below HR0_3.out HB.out) | (with_reducible refine Kd.C_alloc ?_ _) | (with_reducible refine Kd.C_drewN ?_ _) | (with_reducible refine Kd.C_drew ?_))); (case side2 => exact HC0_3.out); (case side3 => repeat (first | exact (Kd.C_below HR1_3.out HB.out) | (with_reducible refine Kd.C_alloc ?_ _) | (with_reducible refine Kd.C_drewN ?_ _) | (with_reducible refine Kd.C_drew ?_))); (case side4 => exact HC1_3.out); rintro e w49 ⟨rfl, hb⟩; refine ⟨_, rfl, ?_⟩; have n0_ := Aside0.mk (blk_below (g := gb592) (o := .cells #[.int .i64 a0_0, .int .i64 a0_1, .string a0_2, .slice A0_3 l0_3.length c0_3, .string a0_4, .int .i64 a0_5, .slice A0_6 l0_6.length c0_6] 89 (0, 0)) (by (with_reducible repeat (first | refine blk_drewN ?_ _ | refine blk_drew ?_ | refine blk_alloc ?_ _)); exact BK592.out) hb); have n1_ := Aside0.mk (blk_below (g := gb593) (o := .cells #[.int .i64 a1_0, .int .i64 a1_1, .string a1_2, .slice A1_3 l1_3.length c1_3, .string a1_4, .int .i64 a1_5, .slice A1_6 l1_6.length c1_6] 89 (0, 0)) (by (with_reducible repeat (first | refine blk_drewN ?_ _ | refine blk_drew ?_ | refine blk_alloc ?_ _)); exact BK593.out) hb); have n2_ := Aside0.mk (below_step (by repeat (first | (with_reducible first | exact HB.out | apply below_alloc | apply pw_below_drewN | apply below_drew1 | refine below_set ?_ GE592.out | refine below_set ?_ GE593.out) | exact HB.out)) hb); clear BK592; clear BK593; clear HB; have BK592 := n0_; have BK593 := n1_; have HB := n2_; clear n0_ n1_ n2_; (try clear hb); (try clear hb2); (try clear hk); (try clear hi)))
     go_ret
     exact ⟨by first | rfl | (simp [errW_none, errW_some] <;> rfl) | (simp [*, errW_none, errW_some] <;> rfl), by repeat (first | (with_reducible first | exact HB.out | apply below_alloc | apply pw_below_drewN | apply below_drew1 | refine below_set ?_ GE592.out | refine below_set ?_ GE593.out) | exact HB.out)⟩
   ·rw [if_neg c5] at H
    have c5b0 : (a0_2.toList == a1_2.toList) = false := beq_eq_false_iff_ne.mpr c5
    have c5b1 : (a0_2.toList != a1_2.toList) = true := bne_iff_ne.mpr c5
    obtain rfl := Option.some.inj H
    go_enter Try.func83, Try.ntmps83
    go_wp2_with (first | ((with_reducible refine gate_dst (N := 2) rfl ?_); refine box_event ?hg (N := 2) ?hd (cs := #[.int .i64 a0_0, .int .i64 a0_1, .string a0_2, .slice A0_3 l0_3.length c0_3, .string a0_4, .int .i64 a0_5, .slice A0_6 l0_6.length c0_6]) (t := 89) ?hr ?_; (case hd => rfl); (case hg => rfl); (case hr => first | (go_simp; done) | (go_simp; rfl)); intro gb592 hg w50 hbox hb; have n0_ := Aside0.mk (below_step (by repeat (first | (with_reducible first | exact HB.out | apply below_alloc | apply pw_below_drewN | apply below_drew1) | exact HB.out)) hb); have n1_ := Aside0.mk (hbox); have n2_ := Aside0.mk ((by rw [hg]; exact (below_size (by repeat (first | (with_reducible first | exact HB.out | apply below_alloc | apply pw_below_drewN | apply below_drew1) | exact HB.out))) : w.heap.size ≤ gb592)); have n3_ := Aside0.mk ((by rw [hg]; exact (below_size (by repeat (first | (with_reducible first | exact HB.out | apply below_alloc | apply pw_below_drewN | apply below_drew1) | exact HB.out))) : w.heap.size ≤ gb592)); clear HB; have HB := n0_; have BK592 := n1_; have GW592 := n2_; have GE592 := n3_; clear n0_ n1_ n2_ n3_; clear hb hbox hg) | ((with_reducible refine gate_dst (N := 3) rfl ?_); refine box_event ?hg (N := 3) ?hd (cs := #[.int .i64 a1_0, .int .i64 a1_1, .string a1_2, .slice A1_3 l1_3.length c1_3, .string a1_4, .int .i64 a1_5, .slice A1_6 l1_6.length c1_6]) (t := 89) ?hr ?_; (case hd => rfl); (case hg => rfl); (case hr => first | (go_simp; done) | (go_simp; rfl)); intro gb593 hg w51 hbox hb; have n0_ := Aside0.mk (blk_below (g := gb592) (o := .cells #[.int .i64 a0_0, .int .i64 a0_1, .string a0_2, .slice A0_3 l0_3.length c0_3, .string a0_4, .int .i64 a0_5, .slice A0_6 l0_6.length c0_6] 89 (0, 0)) (by (with_reducible repeat (first | refine blk_drewN ?_ _ | refine blk_drew ?_ | refine blk_alloc ?_ _)); exact BK592.out) hb); have n1_ := Aside0.mk (below_step (by repeat (first | (with_reducible first | exact HB.out | apply below_alloc | apply pw_below_drewN | apply below_drew1 | refine below_set ?_ GE592.out) | exact HB.out)) hb); have n2_ := Aside0.mk (hbox); have n3_ := Aside0.mk ((by rw [hg]; exact (below_size (by repeat (first | (with_reducible first | exact HB.out | apply below_alloc | apply pw_below_drewN | apply below_drew1 | refine below_set ?_ GE592.out) | exact HB.out))) : w.heap.size ≤ gb593)); have n4_ := Aside0.mk ((by rw [hg]; exact (below_size (by repeat (first | (with_reducible first | exact HB.out | apply below_alloc | apply pw_below_drewN | apply below_drew1 | refine below_set ?_ GE592.out) | exact HB.out))) : w.heap.size ≤ gb593)); have n5_ := Aside0.mk ((by rw [hg]; exact Nat.ne_of_lt (blk_lt (g := gb592) (o := .cells #[.int .i64 a0_0, .int .i64 a0_1, .string a0_2, .slice A0_3 l0_3.length c0_3, .string a0_4, .int .i64 a0_5, .slice A0_6 l0_6.length c0_6] 89 (0, 0)) (by (with_reducible repeat (first | refine blk_drewN ?_ _ | refine blk_drew ?_ | refine blk_alloc ?_ _)); exact BK592.out)) : gb592 ≠ gb593)); have n6_ := Aside0.mk ((by rw [hg]; exact Nat.ne_of_gt (blk_lt (g := gb592) (o := .cells #[.int .i64 a0_0, .int .i64 a0_1, .string a0_2, .slice A0_3 l0_3.length c0_3, .string a0_4, .int .i64 a0_5, .slice A0_6 l0_6.length c0_6] 89 (0, 0)) (by (with_reducible repeat (first | refine blk_drewN ?_ _ | refine blk_drew ?_ | refine blk_alloc ?_ _)); exact BK592.out)) : gb593 ≠ gb592)); clear BK592; clear HB; have BK592 := n0_; have HB := n1_; have BK593 := n2_; have GW593 := n3_; have GE593 := n4_; have NB592_593 := n5_; have NB593_592 := n6_; clear n0_ n1_ n2_ n3_ n4_ n5_ n6_; clear hb hbox hg; have hnb52 := NB592_593.out; have hnc52 := NB593_592.out; have hcz53_0 : w51.cell? ⟨gb592, 0, none⟩ = some (.int .i64 a0_0) := (blk_cell BK592.out 0).trans rfl; have hcz53_1 : w51.cell? ⟨gb592, 1, none⟩ = some (.int .i64 a0_1) := (blk_cell BK592.out 1).trans rfl; have hcz53_2 : w51.cell? ⟨gb592, 2, none⟩ = some (.string a0_2) := (blk_cell BK592.out 2).trans rfl; have hcz53_3 : w51.cell? ⟨gb592, 3, none⟩ = some (.slice A0_3 l0_3.length c0_3) := (blk_cell BK592.out 3).trans rfl; have hcz53_4 : w51.cell? ⟨gb592, 4, none⟩ = some (.string a0_4) := (blk_cell BK592.out 4).trans rfl; have hcz53_5 : w51.cell? ⟨gb592, 5, none⟩ = some (.int .i64 a0_5) := (blk_cell BK592.out 5).trans rfl; have hcz53_6 : w51.cell? ⟨gb592, 6, none⟩ = some (.slice A0_6 l0_6.length c0_6) := (blk_cell BK592.out 6).trans rfl; have hfz53_0 := blk_frozen BK592.out 0; have hfz53_1 := blk_frozen BK592.out 1; have hfz53_2 := blk_frozen BK592.out 2; have hfz53_3 := blk_frozen BK592.out 3; have hfz53_4 := blk_frozen BK592.out 4; have hfz53_5 := blk_frozen BK592.out 5; have hfz53_6 := blk_frozen BK592.out 6; have hcz54_0 : w51.cell? ⟨gb593, 0, none⟩ = some (.int .i64 a1_0) := (blk_cell BK593.out 0).trans rfl; have hcz54_1 : w51.cell? ⟨gb593, 1, none⟩ = some (.int .i64 a1_1) := (blk_cell BK593.out 1).trans rfl; have hcz54_2 : w51.cell? ⟨gb593, 2, none⟩ = some (.string a1_2) := (blk_cell BK593.out 2).trans rfl; have hcz54_3 : w51.cell? ⟨gb593, 3, none⟩ = some (.slice A1_3 l1_3.length c1_3) := (blk_cell BK593.out 3).trans rfl; have hcz54_4 : w51.cell? ⟨gb593, 4, none⟩ = some (.string a1_4) := (blk_cell BK593.out 4).trans rfl; have hcz54_5 : w51.cell? ⟨gb593, 5, none⟩ = some (.int .i64 a1_5) := (blk_cell BK593.out 5).trans rfl; have hcz54_6 : w51.cell? ⟨gb593, 6, none⟩ = some (.slice A1_6 l1_6.length c1_6) := (blk_cell BK593.out 6).trans rfl; have hfz54_0 := blk_frozen BK593.out 0; have hfz54_1 := blk_frozen BK593.out 1; have hfz54_2 := blk_frozen BK593.out 2; have hfz54_3 := blk_frozen BK593.out 3; have hfz54_4 := blk_frozen BK593.out 4; have hfz54_5 := blk_frozen BK593.out 5; have hfz54_6 := blk_frozen BK593.out 6))
    go_ret
    exact ⟨by first | rfl | (simp [errW_none, errW_some] <;> rfl) | (simp [*, errW_none, errW_some] <;> rfl), by repeat (first | (with_reducible first | exact HB.out | apply below_alloc | apply pw_below_drewN | apply below_drew1 | refine below_set ?_ GE592.out | refine below_set ?_ GE593.out) | exact HB.out)⟩
  ·rw [if_neg c4] at H
   have c4b0 : (a0_1 == a1_1) = false := beq_eq_false_iff_ne.mpr c4
   have c4b1 : (a0_1 != a1_1) = true := bne_iff_ne.mpr c4
   obtain rfl := Option.some.inj H
   go_enter Try.func83, Try.ntmps83
   go_wp2_with (first | ((with_reducible refine gate_dst (N := 2) rfl ?_); refine box_event ?hg (N := 2) ?hd (cs := #[.int .i64 a0_0, .int .i64 a0_1, .string a0_2, .slice A0_3 l0_3.length c0_3, .string a0_4, .int .i64 a0_5, .slice A0_6 l0_6.length c0_6]) (t := 89) ?hr ?_; (case hd => rfl); (case hg => rfl); (case hr => first | (go_simp; done) | (go_simp; rfl)); intro gb592 hg w55 hbox hb; have n0_ := Aside0.mk (below_step (by repeat (first | (with_reducible first | exact HB.out | apply below_alloc | apply pw_below_drewN | apply below_drew1) | exact HB.out)) hb); have n1_ := Aside0.mk (hbox); have n2_ := Aside0.mk ((by rw [hg]; exact (below_size (by repeat (first | (with_reducible first | exact HB.out | apply below_alloc | apply pw_below_drewN | apply below_drew1) | exact HB.out))) : w.heap.size ≤ gb592)); have n3_ := Aside0.mk ((by rw [hg]; exact (below_size (by repeat (first | (with_reducible first | exact HB.out | apply below_alloc | apply pw_below_drewN | apply below_drew1) | exact HB.out))) : w.heap.size ≤ gb592)); clear HB; have HB := n0_; have BK592 := n1_; have GW592 := n2_; have GE592 := n3_; clear n0_ n1_ n2_ n3_; clear hb hbox hg) | ((with_reducible refine gate_dst (N := 3) rfl ?_); refine box_event ?hg (N := 3) ?hd (cs := #[.int .i64 a1_0, .int .i64 a1_1, .string a1_2, .slice A1_3 l1_3.length c1_3, .string a1_4, .int .i64 a1_5, .slice A1_6 l1_6.length c1_6]) (t := 89) ?hr ?_; (case hd => rfl); (case hg => rfl); (case hr => first | (go_simp; done) | (go_simp; rfl)); intro gb593 hg w56 hbox hb; have n0_ := Aside0.mk (blk_below (g := gb592) (o := .cells #[.int .i64 a0_0, .int .i64 a0_1, .string a0_2, .slice A0_3 l0_3.length c0_3, .string a0_4, .int .i64 a0_5, .slice A0_6 l0_6.length c0_6] 89 (0, 0)) (by (with_reducible repeat (first | refine blk_drewN ?_ _ | refine blk_drew ?_ | refine blk_alloc ?_ _)); exact BK592.out) hb); have n1_ := Aside0.mk (below_step (by repeat (first | (with_reducible first | exact HB.out | apply below_alloc | apply pw_below_drewN | apply below_drew1 | refine below_set ?_ GE592.out) | exact HB.out)) hb); have n2_ := Aside0.mk (hbox); have n3_ := Aside0.mk ((by rw [hg]; exact (below_size (by repeat (first | (with_reducible first | exact HB.out | apply below_alloc | apply pw_below_drewN | apply below_drew1 | refine below_set ?_ GE592.out) | exact HB.out))) : w.heap.size ≤ gb593)); have n4_ := Aside0.mk ((by rw [hg]; exact (below_size (by repeat (first | (with_reducible first | exact HB.out | apply below_alloc | apply pw_below_drewN | apply below_drew1 | refine below_set ?_ GE592.out) | exact HB.out))) : w.heap.size ≤ gb593)); have n5_ := Aside0.mk ((by rw [hg]; exact Nat.ne_of_lt (blk_lt (g := gb592) (o := .cells #[.int .i64 a0_0, .int .i64 a0_1, .string a0_2, .slice A0_3 l0_3.length c0_3, .string a0_4, .int .i64 a0_5, .slice A0_6 l0_6.length c0_6] 89 (0, 0)) (by (with_reducible repeat (first | refine blk_drewN ?_ _ | refine blk_drew ?_ | refine blk_alloc ?_ _)); exact BK592.out)) : gb592 ≠ gb593)); have n6_ := Aside0.mk ((by rw [hg]; exact Nat.ne_of_gt (blk_lt (g := gb592) (o := .cells #[.int .i64 a0_0, .int .i64 a0_1, .string a0_2, .slice A0_3 l0_3.length c0_3, .string a0_4, .int .i64 a0_5, .slice A0_6 l0_6.length c0_6] 89 (0, 0)) (by (with_reducible repeat (first | refine blk_drewN ?_ _ | refine blk_drew ?_ | refine blk_alloc ?_ _)); exact BK592.out)) : gb593 ≠ gb592)); clear BK592; clear HB; have BK592 := n0_; have HB := n1_; have BK593 := n2_; have GW593 := n3_; have GE593 := n4_; have NB592_593 := n5_; have NB593_592 := n6_; clear n0_ n1_ n2_ n3_ n4_ n5_ n6_; clear hb hbox hg; have hnb57 := NB592_593.out; have hnc57 := NB593_592.out; have hcz58_0 : w56.cell? ⟨gb592, 0, none⟩ = some (.int .i64 a0_0) := (blk_cell BK592.out 0).trans rfl; have hcz58_1 : w56.cell? ⟨gb592, 1, none⟩ = some (.int .i64 a0_1) := (blk_cell BK592.out 1).trans rfl; have hcz58_2 : w56.cell? ⟨gb592, 2, none⟩ = some (.string a0_2) := (blk_cell BK592.out 2).trans rfl; have hcz58_3 : w56.cell? ⟨gb592, 3, none⟩ = some (.slice A0_3 l0_3.length c0_3) := (blk_cell BK592.out 3).trans rfl; have hcz58_4 : w56.cell? ⟨gb592, 4, none⟩ = some (.string a0_4) := (blk_cell BK592.out 4).trans rfl; have hcz58_5 : w56.cell? ⟨gb592, 5, none⟩ = some (.int .i64 a0_5) := (blk_cell BK592.out 5).trans rfl; have hcz58_6 : w56.cell? ⟨gb592, 6, none⟩ = some (.slice A0_6 l0_6.length c0_6) := (blk_cell BK592.out 6).trans rfl; have hfz58_0 := blk_frozen BK592.out 0; have hfz58_1 := blk_frozen BK592.out 1; have hfz58_2 := blk_frozen BK592.out 2; have hfz58_3 := blk_frozen BK592.out 3; have hfz58_4 := blk_frozen BK592.out 4; have hfz58_5 := blk_frozen BK592.out 5; have hfz58_6 := blk_frozen BK592.out 6; have hcz59_0 : w56.cell? ⟨gb593, 0, none⟩ = some (.int .i64 a1_0) := (blk_cell BK593.out 0).trans rfl; have hcz59_1 : w56.cell? ⟨gb593, 1, none⟩ = some (.int .i64 a1_1) := (blk_cell BK593.out 1).trans rfl; have hcz59_2 : w56.cell? ⟨gb593, 2, none⟩ = some (.string a1_2) := (blk_cell BK593.out 2).trans rfl; have hcz59_3 : w56.cell? ⟨gb593, 3, none⟩ = some (.slice A1_3 l1_3.length c1_3) := (blk_cell BK593.out 3).trans rfl; have hcz59_4 : w56.cell? ⟨gb593, 4, none⟩ = some (.string a1_4) := (blk_cell BK593.out 4).trans rfl; have hcz59_5 : w56.cell? ⟨gb593, 5, none⟩ = some (.int .i64 a1_5) := (blk_cell BK593.out 5).trans rfl; have hcz59_6 : w56.cell? ⟨gb593, 6, none⟩ = some (.slice A1_6 l1_6.length c1_6) := (blk_cell BK593.out 6).trans rfl; have hfz59_0 := blk_frozen BK593.out 0; have hfz59_1 := blk_frozen BK593.out 1; have hfz59_2 := blk_frozen BK593.out 2; have hfz59_3 := blk_frozen BK593.out 3; have hfz59_4 := blk_frozen BK593.out 4; have hfz59_5 := blk_frozen BK593.out 5; have hfz59_6 := blk_frozen BK593.out 6))
   go_ret
   exact ⟨by first | rfl | (simp [errW_none, errW_some] <;> rfl) | (simp [*, errW_none, errW_some] <;> rfl), by repeat (first | (with_reducible first | exact HB.out | apply below_alloc | apply pw_below_drewN | apply below_drew1 | refine below_set ?_ GE592.out | refine below_set ?_ GE593.out) | exact HB.out)⟩
 ·rw [if_neg c3] at H
  have c3b0 : (a0_0 == a1_0) = false := beq_eq_false_iff_ne.mpr c3
  have c3b1 : (a0_0 != a1_0) = true := bne_iff_ne.mpr c3
  obtain rfl := Option.some.inj H
  go_enter Try.func83, Try.ntmps83
  go_wp2_with (first | ((with_reducible refine gate_dst (N := 2) rfl ?_); refine box_event ?hg (N := 2) ?hd (cs := #[.int .i64 a0_0, .int .i64 a0_1, .string a0_2, .slice A0_3 l0_3.length c0_3, .string a0_4, .int .i64 a0_5, .slice A0_6 l0_6.length c0_6]) (t := 89) ?hr ?_; (case hd => rfl); (case hg => rfl); (case hr => first | (go_simp; done) | (go_simp; rfl)); intro gb592 hg w60 hbox hb; have n0_ := Aside0.mk (below_step (by repeat (first | (with_reducible first | exact HB.out | apply below_alloc | apply pw_below_drewN | apply below_drew1) | exact HB.out)) hb); have n1_ := Aside0.mk (hbox); have n2_ := Aside0.mk ((by rw [hg]; exact (below_size (by repeat (first | (with_reducible first | exact HB.out | apply below_alloc | apply pw_below_drewN | apply below_drew1) | exact HB.out))) : w.heap.size ≤ gb592)); have n3_ := Aside0.mk ((by rw [hg]; exact (below_size (by repeat (first | (with_reducible first | exact HB.out | apply below_alloc | apply pw_below_drewN | apply below_drew1) | exact HB.out))) : w.heap.size ≤ gb592)); clear HB; have HB := n0_; have BK592 := n1_; have GW592 := n2_; have GE592 := n3_; clear n0_ n1_ n2_ n3_; clear hb hbox hg) | ((with_reducible refine gate_dst (N := 3) rfl ?_); refine box_event ?hg (N := 3) ?hd (cs := #[.int .i64 a1_0, .int .i64 a1_1, .string a1_2, .slice A1_3 l1_3.length c1_3, .string a1_4, .int .i64 a1_5, .slice A1_6 l1_6.length c1_6]) (t := 89) ?hr ?_; (case hd => rfl); (case hg => rfl); (case hr => first | (go_simp; done) | (go_simp; rfl)); intro gb593 hg w61 hbox hb; have n0_ := Aside0.mk (blk_below (g := gb592) (o := .cells #[.int .i64 a0_0, .int .i64 a0_1, .string a0_2, .slice A0_3 l0_3.length c0_3, .string a0_4, .int .i64 a0_5, .slice A0_6 l0_6.length c0_6] 89 (0, 0)) (by (with_reducible repeat (first | refine blk_drewN ?_ _ | refine blk_drew ?_ | refine blk_alloc ?_ _)); exact BK592.out) hb); have n1_ := Aside0.mk (below_step (by repeat (first | (with_reducible first | exact HB.out | apply below_alloc | apply pw_below_drewN | apply below_drew1 | refine below_set ?_ GE592.out) | exact HB.out)) hb); have n2_ := Aside0.mk (hbox); have n3_ := Aside0.mk ((by rw [hg]; exact (below_size (by repeat (first | (with_reducible first | exact HB.out | apply below_alloc | apply pw_below_drewN | apply below_drew1 | refine below_set ?_ GE592.out) | exact HB.out))) : w.heap.size ≤ gb593)); have n4_ := Aside0.mk ((by rw [hg]; exact (below_size (by repeat (first | (with_reducible first | exact HB.out | apply below_alloc | apply pw_below_drewN | apply below_drew1 | refine below_set ?_ GE592.out) | exact HB.out))) : w.heap.size ≤ gb593)); have n5_ := Aside0.mk ((by rw [hg]; exact Nat.ne_of_lt (blk_lt (g := gb592) (o := .cells #[.int .i64 a0_0, .int .i64 a0_1, .string a0_2, .slice A0_3 l0_3.length c0_3, .string a0_4, .int .i64 a0_5, .slice A0_6 l0_6.length c0_6] 89 (0, 0)) (by (with_reducible repeat (first | refine blk_drewN ?_ _ | refine blk_drew ?_ | refine blk_alloc ?_ _)); exact BK592.out)) : gb592 ≠ gb593)); have n6_ := Aside0.mk ((by rw [hg]; exact Nat.ne_of_gt (blk_lt (g := gb592) (o := .cells #[.int .i64 a0_0, .int .i64 a0_1, .string a0_2, .slice A0_3 l0_3.length c0_3, .string a0_4, .int .i64 a0_5, .slice A0_6 l0_6.length c0_6] 89 (0, 0)) (by (with_reducible repeat (first | refine blk_drewN ?_ _ | refine blk_drew ?_ | refine blk_alloc ?_ _)); exact BK592.out)) : gb593 ≠ gb592)); clear BK592; clear HB; have BK592 := n0_; have HB := n1_; have BK593 := n2_; have GW593 := n3_; have GE593 := n4_; have NB592_593 := n5_; have NB593_592 := n6_; clear n0_ n1_ n2_ n3_ n4_ n5_ n6_; clear hb hbox hg; have hnb62 := NB592_593.out; have hnc62 := NB593_592.out; have hcz63_0 : w61.cell? ⟨gb592, 0, none⟩ = some (.int .i64 a0_0) := (blk_cell BK592.out 0).trans rfl; have hcz63_1 : w61.cell? ⟨gb592, 1, none⟩ = some (.int .i64 a0_1) := (blk_cell BK592.out 1).trans rfl; have hcz63_2 : w61.cell? ⟨gb592, 2, none⟩ = some (.string a0_2) := (blk_cell BK592.out 2).trans rfl; have hcz63_3 : w61.cell? ⟨gb592, 3, none⟩ = some (.slice A0_3 l0_3.length c0_3) := (blk_cell BK592.out 3).trans rfl; have hcz63_4 : w61.cell? ⟨gb592, 4, none⟩ = some (.string a0_4) := (blk_cell BK592.out 4).trans rfl; have hcz63_5 : w61.cell? ⟨gb592, 5, none⟩ = some (.int .i64 a0_5) := (blk_cell BK592.out 5).trans rfl; have hcz63_6 : w61.cell? ⟨gb592, 6, none⟩ = some (.slice A0_6 l0_6.length c0_6) := (blk_cell BK592.out 6).trans rfl; have hfz63_0 := blk_frozen BK592.out 0; have hfz63_1 := blk_frozen BK592.out 1; have hfz63_2 := blk_frozen BK592.out 2; have hfz63_3 := blk_frozen BK592.out 3; have hfz63_4 := blk_frozen BK592.out 4; have hfz63_5 := blk_frozen BK592.out 5; have hfz63_6 := blk_frozen BK592.out 6; have hcz64_0 : w61.cell? ⟨gb593, 0, none⟩ = some (.int .i64 a1_0) := (blk_cell BK593.out 0).trans rfl; have hcz64_1 : w61.cell? ⟨gb593, 1, none⟩ = some (.int .i64 a1_1) := (blk_cell BK593.out 1).trans rfl; have hcz64_2 : w61.cell? ⟨gb593, 2, none⟩ = some (.string a1_2) := (blk_cell BK593.out 2).trans rfl; have hcz64_3 : w61.cell? ⟨gb593, 3, none⟩ = some (.slice A1_3 l1_3.length c1_3) := (blk_cell BK593.out 3).trans rfl; have hcz64_4 : w61.cell? ⟨gb593, 4, none⟩ = some (.string a1_4) := (blk_cell BK593.out 4).trans rfl; have hcz64_5 : w61.cell? ⟨gb593, 5, none⟩ = some (.int .i64 a1_5) := (blk_cell BK593.out 5).trans rfl; have hcz64_6 : w61.cell? ⟨gb593, 6, none⟩ = some (.slice A1_6 l1_6.length c1_6) := (blk_cell BK593.out 6).trans rfl; have hfz64_0 := blk_frozen BK593.out 0; have hfz64_1 := blk_frozen BK593.out 1; have hfz64_2 := blk_frozen BK593.out 2; have hfz64_3 := blk_frozen BK593.out 3; have hfz64_4 := blk_frozen BK593.out 4; have hfz64_5 := blk_frozen BK593.out 5; have hfz64_6 := blk_frozen BK593.out 6))
  go_ret
  exact ⟨by first | rfl | (simp [errW_none, errW_some] <;> rfl) | (simp [*, errW_none, errW_some] <;> rfl), by repeat (first | (with_reducible first | exact HB.out | apply below_alloc | apply pw_below_drewN | apply below_drew1 | refine below_set ?_ GE592.out | refine below_set ?_ GE593.out) | exact HB.out)⟩
end Go.Proofs.Ytlocaaebgghkbaa.A
namespace Go.Proofs.Ytlocaaebgghkbaa.A
open Go.RowKit Go.Proofs.YtlocaaebgghkbaaW.PrintWords Go.Proofs.YtlocaaebgghkbaaW.PrintLast Go.Proofs.YtlocaaebgghkbaaW.PrintMore
attribute [local go_sem] max2_int min2_int max_two min_two max_three min_three max_four min_four   -- for this text's walks alone
set_option linter.unusedVariables false
set_option linter.unusedSimpArgs false
def laws_eqItemS.l0 : Nat → List (S89) → List (S89) → Int → Option (Bool)
 | 0, _, _, _ => none
 | k + 1, x0, x1, x5 => if x5 < (x0.length : Int) then (if 0 ≤ x5 then (if x5 < (x1.length : Int) then ((laws_eqItem.f k ((rd_T89 x0 x5).f0) ((rd_T89 x0 x5).f1) ((rd_T89 x0 x5).f2) ((rd_T89 x0 x5).f3) ((rd_T89 x0 x5).f4) ((rd_T89 x0 x5).f5) ((rd_T89 x0 x5).f6) ((rd_T89 x1 x5).f0) ((rd_T89 x1 x5).f1) ((rd_T89 x1 x5).f2) ((rd_T89 x1 x5).f3) ((rd_T89 x1 x5).f4) ((rd_T89 x1 x5).f5) ((rd_T89 x1 x5).f6)).bind fun t598 => (if t598 = true then (laws_eqItemS.l0 k x0 x1 (wrap64 (x5 + 1))) else (some false))) else (none)) else (none)) else (some true)
def laws_eqItemS.f (k : Nat) (l0 : List (S89)) (l1 : List (S89)) : Option (Bool) := if (l0.length : Int) = (l1.length : Int) then (laws_eqItemS.l0 k l0 l1 0) else (some false)
theorem laws_eqItemS.mono_l : ∀ k, (∀ y0 y1 y2, LeO (laws_eqItemS.l0 k y0 y1 y2) (laws_eqItemS.l0 (k + 1) y0 y1 y2))
 | 0 => fun _ _ _ r h => by simp [laws_eqItemS.l0] at h
 | k + 1 => by
  have ih0 := laws_eqItemS.mono_l k
  ·intro y0 y1 y2
   unfold laws_eqItemS.l0
   repeat' first
   | (with_reducible exact ih0 _ _ _)
   | (with_reducible exact laws_eqItem.mono _ _ _ _ _ _ _ _ _ _ _ _ _ _ _)
   | (with_reducible exact LeO.refl _)
   | (with_reducible exact LeO.none _)
   | (with_reducible refine LeO.ite ?_ ?_)
   | (with_reducible refine LeO.bind ?_ (fun _ => ?_))
   | exact ih0 _ _ _
   | exact laws_eqItem.mono _ _ _ _ _ _ _ _ _ _ _ _ _ _ _
   | exact LeO.none _
   | refine LeO.ite ?_ ?_
   | refine LeO.bind ?_ (fun _ => ?_)
theorem laws_eqItemS.mono : ∀ a0 a1 k, LeO (laws_eqItemS.f k a0 a1) (laws_eqItemS.f (k + 1) a0 a1) := by
 intro a0 a1 k
 have ih0 := laws_eqItemS.mono_l k
 unfold laws_eqItemS.f
 repeat' first
   | (with_reducible exact ih0 _ _ _)
   | (with_reducible exact laws_eqItem.mono _ _ _ _ _ _ _ _ _ _ _ _ _ _ _)
   | (with_reducible exact LeO.refl _)
   | (with_reducible exact LeO.none _)
   | (with_reducible refine LeO.ite ?_ ?_)
   | (with_reducible refine LeO.bind ?_ (fun _ => ?_))
   | exact ih0 _ _ _
   | exact laws_eqItem.mono _ _ _ _ _ _ _ _ _ _ _ _ _ _ _
   | exact LeO.none _
   | refine LeO.ite ?_ ?_
   | refine LeO.bind ?_ (fun _ => ?_)
def laws_eqItemS.T6 : Bool × List (List Nat × List Nat) := (true, [([], []), ([], []), ([0, 1], [0, 1]), ([2], [2]), ([], []), ([], []), ([4, 5], [4, 5]), ([6], [6]), ([3, 7], [3, 7]), ([8], [8])])
def laws_eqItemS.B6 : List Nat := [0, 0, 3, 7, 0, 0, 48, 112, 255, 511]
theorem laws_eqItemS.tab6 : rtab .any (opsOf Try.f28 6) = laws_eqItemS.T6 := by kernel_rfl
theorem laws_eqItemS.bits6 : waitsOk laws_eqItemS.T6.2 laws_eqItemS.B6 = true := by kernel_rfl
set_option maxHeartbeats 8000000 in
set_option maxRecDepth 100000 in
theorem laws_eqItemS.calls (k : Nat) (A0 : Option Addr) (c0 : Nat) (l0 : List (S89)) (A1 : Option Addr) (c1 : Nat) (l1 : List (S89)) (r : Bool) (w : World) (hr0 : Kd.C k89 w A0 l0.length l0) (hc0 : l0.length ≤ c0) (hr1 : Kd.C k89 w A1 l1.length l1) (hc1 : l1.length ≤ c1) (h : laws_eqItemS.f k l0 l1 = some r) :
  Calls Try.prog 28 #[.slice A0 l0.length c0, .slice A1 l1.length c1] w fun e w' => e = .returned (.bool r) ∧ Below w.heap.size w w' := by
 have hu89 := Try.underlying89
 have HR0 := Aside0.mk hr0
 have HC0 := Aside0.mk hc0
 clear hr0 hc0
 have HR1 := Aside0.mk hr1
 have HC1 := Aside0.mk hc1
 clear hr1 hc1
 have HB := Aside0.mk (Below.refl w.heap.size w)
 have H : (if (l0.length : Int) = (l1.length : Int) then (laws_eqItemS.l0 k l0 l1 0) else (some false)) = some r := h
 clear h
 by_cases c3 : (l0.length : Int) = (l1.length : Int)
 ·rw [if_pos c3] at H
  have c3b0 : ((l0.length : Int) == (l1.length : Int)) = true := beq_iff_eq.mpr c3
  have c3b1 : ((l0.length : Int) != (l1.length : Int)) = false := bne_eq_false_iff_eq.mpr c3
  have c3b2 : (l0.length == l1.length) = true := by first | simpa using c3 | (simp at c3 ⊢; omega)
  clear c3
  have H' := Aside0.mk H
  clear H
  go_enter Try.func28, Try.ntmps28
  go_wp2
  go_loopg [5] k (fun kq v5 w' => ∃ (x5_1 : Int), v5 = .int .i64 x5_1 ∧ Aside0 (laws_eqItemS.l0 kq l0 l1 x5_1 = some r) ∧ Aside0 (kq ≤ k) ∧ Aside0 (Below w.heap.size w w'))
  case atStart => exact ⟨(0), (by first | rfl | (simp; done) | (simp [*]; done)), H', ⟨Nat.le_refl _⟩, ⟨by repeat (first | (with_reducible first | exact HB.out | apply below_alloc | apply pw_below_drewN | apply below_drew1) | exact HB.out)⟩⟩
  case round =>
   clear H'
   try clear c1
   try clear c2
   try clear p2
   try clear c3
   try clear c3b0
   try clear c3b1
   try clear c3b2
   obtain ⟨x5_1, rfl, HA, HK1, HB⟩ := hrel
   cases gk with
   | zero => exact absurd HA.out (by simp [laws_eqItemS.l0])
   | succ k1 =>
    have H := HA.out
    clear HA
    simp only [laws_eqItemS.l0] at H
    by_cases c4 : x5_1 < (l0.length : Int)
    ·rw [if_pos c4] at H
     have c4b0 : decide (x5_1 < (l0.length : Int)) = true := decide_eq_true c4
     clear c4
     by_cases c5 : 0 ≤ x5_1
     ·rw [if_pos c5] at H
      have c5b0 : decide (0 ≤ x5_1) = true := decide_eq_true c5
      clear c5
      by_cases c6 : x5_1 < (l1.length : Int)
      ·rw [if_pos c6] at H
       have c6b0 : decide (x5_1 < (l1.length : Int)) = true := decide_eq_true c6
       clear c6
       replace H := Option.bind_eq_some_iff.mp H
       obtain ⟨t598, A70, H⟩ := H
       replace H : (if t598 = true then (laws_eqItemS.l0 k1 l0 l1 (wrap64 (x5_1 + 1))) else (some false)) = some r := H
       have A7 := Aside0.mk A70
       clear A70
       by_cases c8 : t598 = true
       ·subst c8
        have H1 : (laws_eqItemS.l0 k1 l0 l1 (wrap64 (x5_1 + 1))) = some r := by rw [if_pos rfl] at H; exact H
        clear H
        have H := H1
        clear H1
        have H' := Aside0.mk H
        clear H
        try go_wp2
        have n0_ := Aside0.mk (below_drew1 HB.out)
        clear HB
        have HB := n0_
        clear n0_
        have p596 : 0 ≤ (x5_1 : Int) := of_decide_eq_true (by first | (with_reducible assumption) | assumption)
        have q596 : x5_1 < (l0.length : Int) := of_decide_eq_true (by first | (with_reducible assumption) | assumption)
        obtain ⟨ad596, A596_3, c596_3, A596_6, c596_6, e596, hx596_0, hx596_1, hx596_2, hx596_3, hx596_4, hx596_5, hx596_6, hl596_3, hi596_3, hl596_6, hi596_6⟩ := at_T89 HR0.out x5_1 p596 q596
        have hw596_6 := hx596_6
        have hw596_5 := hx596_5
        have hw596_4 := hx596_4
        have hw596_3 := hx596_3
        have hw596_2 := hx596_2
        have hw596_1 := hx596_1
        have hw596_0 := hx596_0
        cases e596
        replace hx596_0 := (HB.out.cell (World.block_lt_of_cell? w _ hx596_0)).trans hx596_0
        replace hx596_1 := (HB.out.cell (World.block_lt_of_cell? w _ hx596_1)).trans hx596_1
        replace hx596_2 := (HB.out.cell (World.block_lt_of_cell? w _ hx596_2)).trans hx596_2
        replace hx596_3 := (HB.out.cell (World.block_lt_of_cell? w _ hx596_3)).trans hx596_3
        replace hx596_4 := (HB.out.cell (World.block_lt_of_cell? w _ hx596_4)).trans hx596_4
        replace hx596_5 := (HB.out.cell (World.block_lt_of_cell? w _ hx596_5)).trans hx596_5
        replace hx596_6 := (HB.out.cell (World.block_lt_of_cell? w _ hx596_6)).trans hx596_6
        have HR596_3 := Aside0.mk hi596_3
        have HC596_3 := Aside0.mk hl596_3
        clear hi596_3 hl596_3
        have HR596_6 := Aside0.mk hi596_6
        have HC596_6 := Aside0.mk hl596_6
        clear hi596_6 hl596_6
        replace p596 := eq_true p596
        replace q596 := eq_true q596
        have p597 : 0 ≤ (x5_1 : Int) := of_decide_eq_true (by first | (with_reducible assumption) | assumption)
        have q597 : x5_1 < (l1.length : Int) := of_decide_eq_true (by first | (with_reducible assumption) | assumption)
        obtain ⟨ad597, A597_3, c597_3, A597_6, c597_6, e597, hx597_0, hx597_1, hx597_2, hx597_3, hx597_4, hx597_5, hx597_6, hl597_3, hi597_3, hl597_6, hi597_6⟩ := at_T89 HR1.out x5_1 p597 q597
        have hw597_6 := hx597_6
        have hw597_5 := hx597_5
        have hw597_4 := hx597_4
        have hw597_3 := hx597_3
        have hw597_2 := hx597_2
        have hw597_1 := hx597_1
        have hw597_0 := hx597_0
        cases e597
        replace hx597_0 := (HB.out.cell (World.block_lt_of_cell? w _ hx597_0)).trans hx597_0
        replace hx597_1 := (HB.out.cell (World.block_lt_of_cell? w _ hx597_1)).trans hx597_1
        replace hx597_2 := (HB.out.cell (World.block_lt_of_cell? w _ hx597_2)).trans hx597_2
        replace hx597_3 := (HB.out.cell (World.block_lt_of_cell? w _ hx597_3)).trans hx597_3
        replace hx597_4 := (HB.out.cell (World.block_lt_of_cell? w _ hx597_4)).trans hx597_4
        replace hx597_5 := (HB.out.cell (World.block_lt_of_cell? w _ hx597_5)).trans hx597_5
        replace hx597_6 := (HB.out.cell (World.block_lt_of_cell? w _ hx597_6)).trans hx597_6
        have HR597_3 := Aside0.mk hi597_3
        have HC597_3 := Aside0.mk hl597_3
        clear hi597_3 hl597_3
        have HR597_6 := Aside0.mk hi597_6
        have HC597_6 := Aside0.mk hl597_6
        clear hi597_6 hl597_6
        replace p597 := eq_true p597
        replace q597 := eq_true q597
        refine start_ (n := 10) (S := fun w' => w'.cell? (ad596.add ((x5_1).toNat * 7)) = some (.int .i64 ((rd_T89 l0 x5_1).f0)) ∧ w'.cell? ⟨(ad596.add ((x5_1).toNat * 7)).block, (ad596.add ((x5_1).toNat * 7)).off + 1, none⟩ = some (.int .i64 ((rd_T89 l0 x5_1).f1)) ∧ w'.cell? ⟨(ad596.add ((x5_1).toNat * 7)).block, (ad596.add ((x5_1).toNat * 7)).off + 2, none⟩ = some (.string ((rd_T89 l0 x5_1).f2)) ∧ w'.cell? ⟨(ad596.add ((x5_1).toNat * 7)).block, (ad596.add ((x5_1).toNat * 7)).off + 3, none⟩ = some (.slice A596_3 ((rd_T89 l0 x5_1).f3).length c596_3) ∧ w'.cell? ⟨(ad596.add ((x5_1).toNat * 7)).block, (ad596.add ((x5_1).toNat * 7)).off + 4, none⟩ = some (.string ((rd_T89 l0 x5_1).f4)) ∧ w'.cell? ⟨(ad596.add ((x5_1).toNat * 7)).block, (ad596.add ((x5_1).toNat * 7)).off + 5, none⟩ = some (.int .i64 ((rd_T89 l0 x5_1).f5)) ∧ w'.cell? ⟨(ad596.add ((x5_1).toNat * 7)).block, (ad596.add ((x5_1).toNat * 7)).off + 6, none⟩ = some (.slice A596_6 ((rd_T89 l0 x5_1).f6).length c596_6) ∧ w'.cell? (ad597.add ((x5_1).toNat * 7)) = some (.int .i64 ((rd_T89 l1 x5_1).f0)) ∧ w'.cell? ⟨(ad597.add ((x5_1).toNat * 7)).block, (ad597.add ((x5_1).toNat * 7)).off + 1, none⟩ = some (.int .i64 ((rd_T89 l1 x5_1).f1)) ∧ w'.cell? ⟨(ad597.add ((x5_1).toNat * 7)).block, (ad597.add ((x5_1).toNat * 7)).off + 2, none⟩ = some (.string ((rd_T89 l1 x5_1).f2)) ∧ w'.cell? ⟨(ad597.add ((x5_1).toNat * 7)).block, (ad597.add ((x5_1).toNat * 7)).off + 3, none⟩ = some (.slice A597_3 ((rd_T89 l1 x5_1).f3).length c597_3) ∧ w'.cell? ⟨(ad597.add ((x5_1).toNat * 7)).block, (ad597.add ((x5_1).toNat * 7)).off + 4, none⟩ = some (.string ((rd_T89 l1 x5_1).f4)) ∧ w'.cell? ⟨(ad597.add ((x5_1).toNat * 7)).block, (ad597.add ((x5_1).toNat * 7)).off + 5, none⟩ = some (.int .i64 ((rd_T89 l1 x5_1).f5)) ∧ w'.cell? ⟨(ad597.add ((x5_1).toNat * 7)).block, (ad597.add ((x5_1).toNat * 7)).off + 6, none⟩ = some (.slice A597_6 ((rd_T89 l1 x5_1).f6).length c597_6)) (ds := []) #[false, false, false, false, false, false, false, false, false, false] (by kernel_rfl) rfl rfl ⟨((HB.out.cell (World.block_lt_of_cell? w _ hw596_0)).trans hw596_0), ((HB.out.cell (World.block_lt_of_cell? w _ hw596_1)).trans hw596_1), ((HB.out.cell (World.block_lt_of_cell? w _ hw596_2)).trans hw596_2), ((HB.out.cell (World.block_lt_of_cell? w _ hw596_3)).trans hw596_3), ((HB.out.cell (World.block_lt_of_cell? w _ hw596_4)).trans hw596_4), ((HB.out.cell (World.block_lt_of_cell? w _ hw596_5)).trans hw596_5), ((HB.out.cell (World.block_lt_of_cell? w _ hw596_6)).trans hw596_6), ((HB.out.cell (World.block_lt_of_cell? w _ hw597_0)).trans hw597_0), ((HB.out.cell (World.block_lt_of_cell? w _ hw597_1)).trans hw597_1), ((HB.out.cell (World.block_lt_of_cell? w _ hw597_2)).trans hw597_2), ((HB.out.cell (World.block_lt_of_cell? w _ hw597_3)).trans hw597_3), ((HB.out.cell (World.block_lt_of_cell? w _ hw597_4)).trans hw597_4), ((HB.out.cell (World.block_lt_of_cell? w _ hw597_5)).trans hw597_5), ((HB.out.cell (World.block_lt_of_cell? w _ hw597_6)).trans hw597_6)⟩ (fun hHeld => ?_); refine with_tabW laws_eqItemS.tab6 laws_eqItemS.bits6 (fun HT_ HW_ => ?_)
        generalize wr.drew = w9 at HB HR596_3 HR596_6 HR597_3 HR597_6 hx596_0 hx596_1 hx596_2 hx596_3 hx596_4 hx596_5 hx596_6 hx597_0 hx597_1 hx597_2 hx597_3 hx597_4 hx597_5 hx597_6 hHeld ⊢
        refine pure_ (i := 0) (N := some 17) (v := ?_) (a' := ?_) #[true, false, false, false, false, false, false, false, false, false] rfl rfl (any_of HT_.out (by kernel_rfl)) (fun _ _ _ h => h) (Or.inl ⟨by rfl, ?_⟩) ?_ ?_
        rotate_left
        ·intro w'
         go_simp
         with_reducible rfl
        rotate_left
        ·simp only [Act.put, List.setIfInBounds_toArray, List.set_cons_zero, List.set_cons_succ, i64_w, i32_w]
         rfl
        refine pure_ (i := 1) (N := some 18) (v := ?_) (a' := ?_) #[true, true, false, false, false, false, false, false, false, false] rfl rfl (any_of HT_.out (by kernel_rfl)) (fun _ _ _ h => h) (Or.inl ⟨by rfl, ?_⟩) ?_ ?_
        rotate_left
        ·intro w'
         go_simp
         with_reducible rfl
        rotate_left
        ·simp only [Act.put, List.setIfInBounds_toArray, List.set_cons_zero, List.set_cons_succ, i64_w, i32_w]
         rfl
        refine pure_ (i := 2) (N := some 19) (v := ?_) (a' := ?_) #[true, true, true, false, false, false, false, false, false, false] rfl rfl (any_of HT_.out (by kernel_rfl)) (fun _ _ _ h => h) (Or.inl ⟨by rfl, ?_⟩) ?_ ?_
        rotate_left
        ·intro w'
         go_simp
         with_reducible rfl
        rotate_left
        ·simp only [Act.put, List.setIfInBounds_toArray, List.set_cons_zero, List.set_cons_succ, i64_w, i32_w]
         rfl
        refine pure_ (i := 4) (N := some 21) (v := ?_) (a' := ?_) #[true, true, true, false, true, false, false, false, false, false] rfl rfl (any_of HT_.out (by kernel_rfl)) (fun _ _ _ h => h) (Or.inl ⟨by rfl, ?_⟩) ?_ ?_
        rotate_left
        ·intro w'
         go_simp
         with_reducible rfl
        rotate_left
        ·simp only [Act.put, List.setIfInBounds_toArray, List.set_cons_zero, List.set_cons_succ, i64_w, i32_w]
         rfl
        refine pure_ (i := 5) (N := some 22) (v := ?_) (a' := ?_) #[true, true, true, false, true, true, false, false, false, false] rfl rfl (any_of HT_.out (by kernel_rfl)) (fun _ _ _ h => h) (Or.inl ⟨by rfl, ?_⟩) ?_ ?_
        rotate_left
        ·intro w'
         go_simp
         with_reducible rfl
        rotate_left
        ·simp only [Act.put, List.setIfInBounds_toArray, List.set_cons_zero, List.set_cons_succ, i64_w, i32_w]
         rfl
        refine pure_ (i := 6) (N := some 23) (v := ?_) (a' := ?_) #[true, true, true, false, true, true, true, false, false, false] rfl rfl (any_of HT_.out (by kernel_rfl)) (fun _ _ _ h => h) (Or.inl ⟨by rfl, ?_⟩) ?_ ?_
        rotate_left
        ·intro w'
         go_simp
         with_reducible rfl
        rotate_left
        ·simp only [Act.put, List.setIfInBounds_toArray, List.set_cons_zero, List.set_cons_succ, i64_w, i32_w]
         rfl
        refine take_ (i := 3) (N := some 20) (v := ?_) (a' := ?_) #[true, true, true, true, true, true, true, false, false, false] rfl rfl (take_ofW HT_.out HW_.out (by kernel_rfl)) (fun _ _ _ h => h) (Or.inl ⟨by rfl, ?_⟩) hHeld ?_ ?_
        rotate_left
        ·rintro w' ⟨s0, s1, s2, s3, s4, s5, s6, s7, s8, s9, s10, s11, s12, s13⟩
         go_simp
         with_reducible rfl
        rotate_left
        ·simp only [Act.put, List.setIfInBounds_toArray, List.set_cons_zero, List.set_cons_succ, i64_w, i32_w]
         rfl
        refine take_ (i := 7) (N := some 24) (v := ?_) (a' := ?_) #[true, true, true, true, true, true, true, true, false, false] rfl rfl (take_ofW HT_.out HW_.out (by kernel_rfl)) (fun _ _ _ h => h) (Or.inl ⟨by rfl, ?_⟩) hHeld ?_ ?_
        rotate_left
        ·rintro w' ⟨s0, s1, s2, s3, s4, s5, s6, s7, s8, s9, s10, s11, s12, s13⟩
         go_simp
         with_reducible rfl
        rotate_left
        ·simp only [Act.put, List.setIfInBounds_toArray, List.set_cons_zero, List.set_cons_succ, i64_w, i32_w]
         rfl
        refine one_ (i := 8) (N := some 25) #[true, true, true, true, true, true, true, true, true, false] rfl rfl (one_of HT_.out (by kernel_rfl)) (by decide) (fun K hK => ?_)
        refine goes_ Try.func83 (by kernel_rfl) rfl #[.agg #[.int .i64 ((rd_T89 l0 x5_1).f0), .int .i64 ((rd_T89 l0 x5_1).f1), .string ((rd_T89 l0 x5_1).f2), .slice A596_3 ((rd_T89 l0 x5_1).f3).length c596_3, .string ((rd_T89 l0 x5_1).f4), .int .i64 ((rd_T89 l0 x5_1).f5), .slice A596_6 ((rd_T89 l0 x5_1).f6).length c596_6], .agg #[.int .i64 ((rd_T89 l1 x5_1).f0), .int .i64 ((rd_T89 l1 x5_1).f1), .string ((rd_T89 l1 x5_1).f2), .slice A597_3 ((rd_T89 l1 x5_1).f3).length c597_3, .string ((rd_T89 l1 x5_1).f4), .int .i64 ((rd_T89 l1 x5_1).f5), .slice A597_6 ((rd_T89 l1 x5_1).f6).length c597_6]] (by rfl) rfl rfl (by (try simp only [List.map_toArray, List.map_cons, List.map_nil]); first | done | rfl | (simp only [List.length_drop, List.length_take]; rfl)) ?_
        with_reducible refine (laws_eqItem.calls k1 ((rd_T89 l0 x5_1).f0) ((rd_T89 l0 x5_1).f1) ((rd_T89 l0 x5_1).f2) _ _ ((rd_T89 l0 x5_1).f3) ((rd_T89 l0 x5_1).f4) ((rd_T89 l0 x5_1).f5) _ _ ((rd_T89 l0 x5_1).f6) ((rd_T89 l1 x5_1).f0) ((rd_T89 l1 x5_1).f1) ((rd_T89 l1 x5_1).f2) _ _ ((rd_T89 l1 x5_1).f3) ((rd_T89 l1 x5_1).f4) ((rd_T89 l1 x5_1).f5) _ _ ((rd_T89 l1 x5_1).f6) true _ ?side1 ?side2 ?side3 ?side4 ?side5 ?side6 ?side7 ?side8 A7.out).mono ?_
        (case side1 => repeat (first | exact (Kd.C_below HR596_3.out HB.out) | (with_reducible refine Kd.C_alloc ?_ _) | (with_reducible refine Kd.C_drewN ?_ _) | (with_reducible refine Kd.C_drew ?_)))
        (case side2 => exact HC596_3.out)
        (case side3 => repeat (first | exact (Kd.C_below HR596_6.out HB.out) | (with_reducible refine Kd.C_alloc ?_ _) | (with_reducible refine Kd.C_drewN ?_ _) | (with_reducible refine Kd.C_drew ?_)))
        (case side4 => exact HC596_6.out)
        (case side5 => repeat (first | exact (Kd.C_below HR597_3.out HB.out) | (with_reducible refine Kd.C_alloc ?_ _) | (with_reducible refine Kd.C_drewN ?_ _) | (with_reducible refine Kd.C_drew ?_)))
        (case side6 => exact HC597_3.out)
        (case side7 => repeat (first | exact (Kd.C_below HR597_6.out HB.out) | (with_reducible refine Kd.C_alloc ?_ _) | (with_reducible refine Kd.C_drewN ?_ _) | (with_reducible refine Kd.C_drew ?_)))
        (case side8 => exact HC597_6.out)
        rintro e w10 ⟨rfl, hb⟩
        refine ⟨_, rfl, ?_⟩
        have n0_ := Aside0.mk (below_step (by repeat (first | (with_reducible first | exact HB.out | apply below_alloc | apply pw_below_drewN | apply below_drew1) | exact HB.out)) hb)
        clear HB
        have HB := n0_
        clear n0_
        (try clear hb)
        (try clear hb2)
        (try clear hk)
        (try clear hi)
        refine hK.out _ _ ⟨((HB.out.cell (World.block_lt_of_cell? w _ hw596_0)).trans hw596_0), ((HB.out.cell (World.block_lt_of_cell? w _ hw596_1)).trans hw596_1), ((HB.out.cell (World.block_lt_of_cell? w _ hw596_2)).trans hw596_2), ((HB.out.cell (World.block_lt_of_cell? w _ hw596_3)).trans hw596_3), ((HB.out.cell (World.block_lt_of_cell? w _ hw596_4)).trans hw596_4), ((HB.out.cell (World.block_lt_of_cell? w _ hw596_5)).trans hw596_5), ((HB.out.cell (World.block_lt_of_cell? w _ hw596_6)).trans hw596_6), ((HB.out.cell (World.block_lt_of_cell? w _ hw597_0)).trans hw597_0), ((HB.out.cell (World.block_lt_of_cell? w _ hw597_1)).trans hw597_1), ((HB.out.cell (World.block_lt_of_cell? w _ hw597_2)).trans hw597_2), ((HB.out.cell (World.block_lt_of_cell? w _ hw597_3)).trans hw597_3), ((HB.out.cell (World.block_lt_of_cell? w _ hw597_4)).trans hw597_4), ((HB.out.cell (World.block_lt_of_cell? w _ hw597_5)).trans hw597_5), ((HB.out.cell (World.block_lt_of_cell? w _ hw597_6)).trans hw597_6)⟩ (fun hHeld => ?_)
        clear hK K
        refine norm_ (a' := ?_) ?_ ?_
        rotate_left
        ·show Act.put _ (some 25) _ = _
         simp only [Act.put, List.setIfInBounds_toArray, List.set_cons_zero, List.set_cons_succ, i64_w, i32_w]
         rfl
        refine pure_ (i := 9) (N := some 26) (v := ?_) (a' := ?_) #[true, true, true, true, true, true, true, true, true, true] rfl rfl (any_of HT_.out (by kernel_rfl)) (fun _ _ _ h => h) (Or.inl ⟨by rfl, ?_⟩) ?_ ?_
        rotate_left
        ·intro w'
         go_simp
         with_reducible rfl
        rotate_left
        ·simp only [Act.put, List.setIfInBounds_toArray, List.set_cons_zero, List.set_cons_succ, i64_w, i32_w]
         rfl
        refine done_ (done_of HT_.out (by kernel_rfl)) ?_
        try go_wp2
        go_roundg k1
        case measure => have := HK1.out; omega
        case rel => exact ⟨(wrap64 (x5_1 + 1)), (by first | rfl | (simp; done) | (simp [*]; done)), H', ⟨by have := HK1.out; omega⟩, ⟨by repeat (first | (with_reducible first | exact HB.out | apply below_alloc | apply pw_below_drewN | apply below_drew1) | exact HB.out)⟩⟩
       ·replace c8 := Bool.eq_false_iff.mpr c8
        subst c8
        have H1 : (some false) = some r := by rw [if_neg (show ¬ (false = true) by decide)] at H; exact H
        clear H
        have H := H1
        clear H1
        obtain rfl := Option.some.inj H
        try go_wp2
        have n0_ := Aside0.mk (below_drew1 HB.out)
        clear HB
        have HB := n0_
        clear n0_
        have p596 : 0 ≤ (x5_1 : Int) := of_decide_eq_true (by first | (with_reducible assumption) | assumption)
        have q596 : x5_1 < (l0.length : Int) := of_decide_eq_true (by first | (with_reducible assumption) | assumption)
        obtain ⟨ad596, A596_3, c596_3, A596_6, c596_6, e596, hx596_0, hx596_1, hx596_2, hx596_3, hx596_4, hx596_5, hx596_6, hl596_3, hi596_3, hl596_6, hi596_6⟩ := at_T89 HR0.out x5_1 p596 q596
        have hw596_6 := hx596_6
        have hw596_5 := hx596_5
        have hw596_4 := hx596_4
        have hw596_3 := hx596_3
        have hw596_2 := hx596_2
        have hw596_1 := hx596_1
        have hw596_0 := hx596_0
        cases e596
        replace hx596_0 := (HB.out.cell (World.block_lt_of_cell? w _ hx596_0)).trans hx596_0
        replace hx596_1 := (HB.out.cell (World.block_lt_of_cell? w _ hx596_1)).trans hx596_1
        replace hx596_2 := (HB.out.cell (World.block_lt_of_cell? w _ hx596_2)).trans hx596_2
        replace hx596_3 := (HB.out.cell (World.block_lt_of_cell? w _ hx596_3)).trans hx596_3
        replace hx596_4 := (HB.out.cell (World.block_lt_of_cell? w _ hx596_4)).trans hx596_4
        replace hx596_5 := (HB.out.cell (World.block_lt_of_cell? w _ hx596_5)).trans hx596_5
        replace hx596_6 := (HB.out.cell (World.block_lt_of_cell? w _ hx596_6)).trans hx596_6
        have HR596_3 := Aside0.mk hi596_3
        have HC596_3 := Aside0.mk hl596_3
        clear hi596_3 hl596_3
        have HR596_6 := Aside0.mk hi596_6
        have HC596_6 := Aside0.mk hl596_6
        clear hi596_6 hl596_6
        replace p596 := eq_true p596
        replace q596 := eq_true q596
        have p597 : 0 ≤ (x5_1 : Int) := of_decide_eq_true (by first | (with_reducible assumption) | assumption)
        have q597 : x5_1 < (l1.length : Int) := of_decide_eq_true (by first | (with_reducible assumption) | assumption)
        obtain ⟨ad597, A597_3, c597_3, A597_6, c597_6, e597, hx597_0, hx597_1, hx597_2, hx597_3, hx597_4, hx597_5, hx597_6, hl597_3, hi597_3, hl597_6, hi597_6⟩ := at_T89 HR1.out x5_1 p597 q597
        have hw597_6 := hx597_6
        have hw597_5 := hx597_5
        have hw597_4 := hx597_4
        have hw597_3 := hx597_3
        have hw597_2 := hx597_2
        have hw597_1 := hx597_1
        have hw597_0 := hx597_0
        cases e597
        replace hx597_0 := (HB.out.cell (World.block_lt_of_cell? w _ hx597_0)).trans hx597_0
        replace hx597_1 := (HB.out.cell (World.block_lt_of_cell? w _ hx597_1)).trans hx597_1
        replace hx597_2 := (HB.out.cell (World.block_lt_of_cell? w _ hx597_2)).trans hx597_2
        replace hx597_3 := (HB.out.cell (World.block_lt_of_cell? w _ hx597_3)).trans hx597_3
        replace hx597_4 := (HB.out.cell (World.block_lt_of_cell? w _ hx597_4)).trans hx597_4
        replace hx597_5 := (HB.out.cell (World.block_lt_of_cell? w _ hx597_5)).trans hx597_5
        replace hx597_6 := (HB.out.cell (World.block_lt_of_cell? w _ hx597_6)).trans hx597_6
        have HR597_3 := Aside0.mk hi597_3
        have HC597_3 := Aside0.mk hl597_3
        clear hi597_3 hl597_3
        have HR597_6 := Aside0.mk hi597_6
        have HC597_6 := Aside0.mk hl597_6
        clear hi597_6 hl597_6
        replace p597 := eq_true p597
        replace q597 := eq_true q597
        refine start_ (n := 10) (S := fun w' => w'.cell? (ad596.add ((x5_1).toNat * 7)) = some (.int .i64 ((rd_T89 l0 x5_1).f0)) ∧ w'.cell? ⟨(ad596.add ((x5_1).toNat * 7)).block, (ad596.add ((x5_1).toNat * 7)).off + 1, none⟩ = some (.int .i64 ((rd_T89 l0 x5_1).f1)) ∧ w'.cell? ⟨(ad596.add ((x5_1).toNat * 7)).block, (ad596.add ((x5_1).toNat * 7)).off + 2, none⟩ = some (.string ((rd_T89 l0 x5_1).f2)) ∧ w'.cell? ⟨(ad596.add ((x5_1).toNat * 7)).block, (ad596.add ((x5_1).toNat * 7)).off + 3, none⟩ = some (.slice A596_3 ((rd_T89 l0 x5_1).f3).length c596_3) ∧ w'.cell? ⟨(ad596.add ((x5_1).toNat * 7)).block, (ad596.add ((x5_1).toNat * 7)).off + 4, none⟩ = some (.string ((rd_T89 l0 x5_1).f4)) ∧ w'.cell? ⟨(ad596.add ((x5_1).toNat * 7)).block, (ad596.add ((x5_1).toNat * 7)).off + 5, none⟩ = some (.int .i64 ((rd_T89 l0 x5_1).f5)) ∧ w'.cell? ⟨(ad596.add ((x5_1).toNat * 7)).block, (ad596.add ((x5_1).toNat * 7)).off + 6, none⟩ = some (.slice A596_6 ((rd_T89 l0 x5_1).f6).length c596_6) ∧ w'.cell? (ad597.add ((x5_1).toNat * 7)) = some (.int .i64 ((rd_T89 l1 x5_1).f0)) ∧ w'.cell? ⟨(ad597.add ((x5_1).toNat * 7)).block, (ad597.add ((x5_1).toNat * 7)).off + 1, none⟩ = some (.int .i64 ((rd_T89 l1 x5_1).f1)) ∧ w'.cell? ⟨(ad597.add ((x5_1).toNat * 7)).block, (ad597.add ((x5_1).toNat * 7)).off + 2, none⟩ = some (.string ((rd_T89 l1 x5_1).f2)) ∧ w'.cell? ⟨(ad597.add ((x5_1).toNat * 7)).block, (ad597.add ((x5_1).toNat * 7)).off + 3, none⟩ = some (.slice A597_3 ((rd_T89 l1 x5_1).f3).length c597_3) ∧ w'.cell? ⟨(ad597.add ((x5_1).toNat * 7)).block, (ad597.add ((x5_1).toNat * 7)).off + 4, none⟩ = some (.string ((rd_T89 l1 x5_1).f4)) ∧ w'.cell? ⟨(ad597.add ((x5_1).toNat * 7)).block, (ad597.add ((x5_1).toNat * 7)).off + 5, none⟩ = some (.int .i64 ((rd_T89 l1 x5_1).f5)) ∧ w'.cell? ⟨(ad597.add ((x5_1).toNat * 7)).block, (ad597.add ((x5_1).toNat * 7)).off + 6, none⟩ = some (.slice A597_6 ((rd_T89 l1 x5_1).f6).length c597_6)) (ds := []) #[false, false, false, false, false, false, false, false, false, false] (by kernel_rfl) rfl rfl ⟨((HB.out.cell (World.block_lt_of_cell? w _ hw596_0)).trans hw596_0), ((HB.out.cell (World.block_lt_of_cell? w _ hw596_1)).trans hw596_1), ((HB.out.cell (World.block_lt_of_cell? w _ hw596_2)).trans hw596_2), ((HB.out.cell (World.block_lt_of_cell? w _ hw596_3)).trans hw596_3), ((HB.out.cell (World.block_lt_of_cell? w _ hw596_4)).trans hw596_4), ((HB.out.cell (World.block_lt_of_cell? w _ hw596_5)).trans hw596_5), ((HB.out.cell (World.block_lt_of_cell? w _ hw596_6)).trans hw596_6), ((HB.out.cell (World.block_lt_of_cell? w _ hw597_0)).trans hw597_0), ((HB.out.cell (World.block_lt_of_cell? w _ hw597_1)).trans hw597_1), ((HB.out.cell (World.block_lt_of_cell? w _ hw597_2)).trans hw597_2), ((HB.out.cell (World.block_lt_of_cell? w _ hw597_3)).trans hw597_3), ((HB.out.cell (World.block_lt_of_cell? w _ hw597_4)).trans hw597_4), ((HB.out.cell (World.block_lt_of_cell? w _ hw597_5)).trans hw597_5), ((HB.out.cell (World.block_lt_of_cell? w _ hw597_6)).trans hw597_6)⟩ (fun hHeld => ?_); refine with_tabW laws_eqItemS.tab6 laws_eqItemS.bits6 (fun HT_ HW_ => ?_)
        generalize wr.drew = w11 at HB HR596_3 HR596_6 HR597_3 HR597_6 hx596_0 hx596_1 hx596_2 hx596_3 hx596_4 hx596_5 hx596_6 hx597_0 hx597_1 hx597_2 hx597_3 hx597_4 hx597_5 hx597_6 hHeld ⊢
        refine pure_ (i := 0) (N := some 17) (v := ?_) (a' := ?_) #[true, false, false, false, false, false, false, false, false, false] rfl rfl (any_of HT_.out (by kernel_rfl)) (fun _ _ _ h => h) (Or.inl ⟨by rfl, ?_⟩) ?_ ?_
        rotate_left
        ·intro w'
         go_simp
         with_reducible rfl
        rotate_left
        ·simp only [Act.put, List.setIfInBounds_toArray, List.set_cons_zero, List.set_cons_succ, i64_w, i32_w]
         rfl
        refine pure_ (i := 1) (N := some 18) (v := ?_) (a' := ?_) #[true, true, false, false, false, false, false, false, false, false] rfl rfl (any_of HT_.out (by kernel_rfl)) (fun _ _ _ h => h) (Or.inl ⟨by rfl, ?_⟩) ?_ ?_
        rotate_left
        ·intro w'
         go_simp
         with_reducible rfl
        rotate_left
        ·simp only [Act.put, List.setIfInBounds_toArray, List.set_cons_zero, List.set_cons_succ, i64_w, i32_w]
         rfl
        refine pure_ (i := 2) (N := some 19) (v := ?_) (a' := ?_) #[true, true, true, false, false, false, false, false, false, false] rfl rfl (any_of HT_.out (by kernel_rfl)) (fun _ _ _ h => h) (Or.inl ⟨by rfl, ?_⟩) ?_ ?_
        rotate_left
        ·intro w'
         go_simp
         with_reducible rfl
        rotate_left
        ·simp only [Act.put, List.setIfInBounds_toArray, List.set_cons_zero, List.set_cons_succ, i64_w, i32_w]
         rfl
        refine pure_ (i := 4) (N := some 21) (v := ?_) (a' := ?_) #[true, true, true, false, true, false, false, false, false, false] rfl rfl (any_of HT_.out (by kernel_rfl)) (fun _ _ _ h => h) (Or.inl ⟨by rfl, ?_⟩) ?_ ?_
        rotate_left
        ·intro w'
         go_simp
         with_reducible rfl
        rotate_left
        ·simp only [Act.put, List.setIfInBounds_toArray, List.set_cons_zero, List.set_cons_succ, i64_w, i32_w]
         rfl
        refine pure_ (i := 5) (N := some 22) (v := ?_) (a' := ?_) #[true, true, true, false, true, true, false, false, false, false] rfl rfl (any_of HT_.out (by kernel_rfl)) (fun _ _ _ h => h) (Or.inl ⟨by rfl, ?_⟩) ?_ ?_
        rotate_left
        ·intro w'
         go_simp
         with_reducible rfl
        rotate_left
        ·simp only [Act.put, List.setIfInBounds_toArray, List.set_cons_zero, List.set_cons_succ, i64_w, i32_w]
         rfl
        refine pure_ (i := 6) (N := some 23) (v := ?_) (a' := ?_) #[true, true, true, false, true, true, true, false, false, false] rfl rfl (any_of HT_.out (by kernel_rfl)) (fun _ _ _ h => h) (Or.inl ⟨by rfl, ?_⟩) ?_ ?_
        rotate_left
        ·intro w'
         go_simp
         with_reducible rfl
        rotate_left
        ·simp only [Act.put, List.setIfInBounds_toArray, List.set_cons_zero, List.set_cons_succ, i64_w, i32_w]
         rfl
        refine take_ (i := 3) (N := some 20) (v := ?_) (a' := ?_) #[true, true, true, true, true, true, true, false, false, false] rfl rfl (take_ofW HT_.out HW_.out (by kernel_rfl)) (fun _ _ _ h => h) (Or.inl ⟨by rfl, ?_⟩) hHeld ?_ ?_
        rotate_left
        ·rintro w' ⟨s0, s1, s2, s3, s4, s5, s6, s7, s8, s9, s10, s11, s12, s13⟩
         go_simp
         with_reducible rfl
        rotate_left
        ·simp only [Act.put, List.setIfInBounds_toArray, List.set_cons_zero, List.set_cons_succ, i64_w, i32_w]
         rfl
        refine take_ (i := 7) (N := some 24) (v := ?_) (a' := ?_) #[true, true, true, true, true, true, true, true, false, false] rfl rfl (take_ofW HT_.out HW_.out (by kernel_rfl)) (fun _ _ _ h => h) (Or.inl ⟨by rfl, ?_⟩) hHeld ?_ ?_
        rotate_left
        ·rintro w' ⟨s0, s1, s2, s3, s4, s5, s6, s7, s8, s9, s10, s11, s12, s13⟩
         go_simp
         with_reducible rfl
        rotate_left
        ·simp only [Act.put, List.setIfInBounds_toArray, List.set_cons_zero, List.set_cons_succ, i64_w, i32_w]
         rfl
        refine one_ (i := 8) (N := some 25) #[true, true, true, true, true, true, true, true, true, false] rfl rfl (one_of HT_.out (by kernel_rfl)) (by decide) (fun K hK => ?_)
        refine goes_ Try.func83 (by kernel_rfl) rfl #[.agg #[.int .i64 ((rd_T89 l0 x5_1).f0), .int .i64 ((rd_T89 l0 x5_1).f1), .string ((rd_T89 l0 x5_1).f2), .slice A596_3 ((rd_T89 l0 x5_1).f3).length c596_3, .string ((rd_T89 l0 x5_1).f4), .int .i64 ((rd_T89 l0 x5_1).f5), .slice A596_6 ((rd_T89 l0 x5_1).f6).length c596_6], .agg #[.int .i64 ((rd_T89 l1 x5_1).f0), .int .i64 ((rd_T89 l1 x5_1).f1), .string ((rd_T89 l1 x5_1).f2), .slice A597_3 ((rd_T89 l1 x5_1).f3).length c597_3, .string ((rd_T89 l1 x5_1).f4), .int .i64 ((rd_T89 l1 x5_1).f5), .slice A597_6 ((rd_T89 l1 x5_1).f6).length c597_6]] (by rfl) rfl rfl (by (try simp only [List.map_toArray, List.map_cons, List.map_nil]); first | done | rfl | (simp only [List.length_drop, List.length_take]; rfl)) ?_
        with_reducible refine (laws_eqItem.calls k1 ((rd_T89 l0 x5_1).f0) ((rd_T89 l0 x5_1).f1) ((rd_T89 l0 x5_1).f2) _ _ ((rd_T89 l0 x5_1).f3) ((rd_T89 l0 x5_1).f4) ((rd_T89 l0 x5_1).f5) _ _ ((rd_T89 l0 x5_1).f6) ((rd_T89 l1 x5_1).f0) ((rd_T89 l1 x5_1).f1) ((rd_T89 l1 x5_1).f2) _ _ ((rd_T89 l1 x5_1).f3) ((rd_T89 l1 x5_1).f4) ((rd_T89 l1 x5_1).f5) _ _ ((rd_T89 l1 x5_1).f6) false _ ?side1 ?side2 ?side3 ?side4 ?side5 ?side6 ?side7 ?side8 A7.out).mono ?_
        (case side1 => repeat (first | exact (Kd.C_below HR596_3.out HB.out) | (with_reducible refine Kd.C_alloc ?_ _) | (with_reducible refine Kd.C_drewN ?_ _) | (with_reducible refine Kd.C_drew ?_)))
        (case side2 => exact HC596_3.out)
        (case side3 => repeat (first | exact (Kd.C_below HR596_6.out HB.out) | (with_reducible refine Kd.C_alloc ?_ _) | (with_reducible refine Kd.C_drewN ?_ _) | (with_reducible refine Kd.C_drew ?_)))
        (case side4 => exact HC596_6.out)
        (case side5 => repeat (first | exact (Kd.C_below HR597_3.out HB.out) | (with_reducible refine Kd.C_alloc ?_ _) | (with_reducible refine Kd.C_drewN ?_ _) | (with_reducible refine Kd.C_drew ?_)))
        (case side6 => exact HC597_3.out)
        (case side7 => repeat (first | exact (Kd.C_below HR597_6.out HB.out) | (with_reducible refine Kd.C_alloc ?_ _) | (with_reducible refine Kd.C_drewN ?_ _) | (with_reducible refine Kd.C_drew ?_)))
        (case side8 => exact HC597_6.out)
        rintro e w12 ⟨rfl, hb⟩
        refine ⟨_, rfl, ?_⟩
        have n0_ := Aside0.mk (below_step (by repeat (first | (with_reducible first | exact HB.out | apply below_alloc | apply pw_below_drewN | apply below_drew1) | exact HB.out)) hb)
        clear HB
        have HB := n0_
        clear n0_
        (try clear hb)
        (try clear hb2)
        (try clear hk)
        (try clear hi)
        refine hK.out _ _ ⟨((HB.out.cell (World.block_lt_of_cell? w _ hw596_0)).trans hw596_0), ((HB.out.cell (World.block_lt_of_cell? w _ hw596_1)).trans hw596_1), ((HB.out.cell (World.block_lt_of_cell? w _ hw596_2)).trans hw596_2), ((HB.out.cell (World.block_lt_of_cell? w _ hw596_3)).trans hw596_3), ((HB.out.cell (World.block_lt_of_cell? w _ hw596_4)).trans hw596_4), ((HB.out.cell (World.block_lt_of_cell? w _ hw596_5)).trans hw596_5), ((HB.out.cell (World.block_lt_of_cell? w _ hw596_6)).trans hw596_6), ((HB.out.cell (World.block_lt_of_cell? w _ hw597_0)).trans hw597_0), ((HB.out.cell (World.block_lt_of_cell? w _ hw597_1)).trans hw597_1), ((HB.out.cell (World.block_lt_of_cell? w _ hw597_2)).trans hw597_2), ((HB.out.cell (World.block_lt_of_cell? w _ hw597_3)).trans hw597_3), ((HB.out.cell (World.block_lt_of_cell? w _ hw597_4)).trans hw597_4), ((HB.out.cell (World.block_lt_of_cell? w _ hw597_5)).trans hw597_5), ((HB.out.cell (World.block_lt_of_cell? w _ hw597_6)).trans hw597_6)⟩ (fun hHeld => ?_)
        clear hK K
        refine norm_ (a' := ?_) ?_ ?_
        rotate_left
        ·show Act.put _ (some 25) _ = _
         simp only [Act.put, List.setIfInBounds_toArray, List.set_cons_zero, List.set_cons_succ, i64_w, i32_w]
         rfl
        refine pure_ (i := 9) (N := some 26) (v := ?_) (a' := ?_) #[true, true, true, true, true, true, true, true, true, true] rfl rfl (any_of HT_.out (by kernel_rfl)) (fun _ _ _ h => h) (Or.inl ⟨by rfl, ?_⟩) ?_ ?_
        rotate_left
        ·intro w'
         go_simp
         with_reducible rfl
        rotate_left
        ·simp only [Act.put, List.setIfInBounds_toArray, List.set_cons_zero, List.set_cons_succ, i64_w, i32_w]
         rfl
        refine done_ (done_of HT_.out (by kernel_rfl)) ?_
        try go_wp2
        go_ret
        exact ⟨by first | rfl | (simp [errW_none, errW_some] <;> rfl) | (simp [*, errW_none, errW_some] <;> rfl), by repeat (first | (with_reducible first | exact HB.out | apply below_alloc | apply pw_below_drewN | apply below_drew1) | exact HB.out)⟩
      ·rw [if_neg c6] at H
       exact absurd H (by simp)
     ·rw [if_neg c5] at H
      exact absurd H (by simp)
    ·rw [if_neg c4] at H
     have c4b0 : decide (x5_1 < (l0.length : Int)) = false := decide_eq_false c4
     clear c4
     obtain rfl := Option.some.inj H
     go_wp2
     go_ret
     exact ⟨by first | rfl | (simp [errW_none, errW_some] <;> rfl) | (simp [*, errW_none, errW_some] <;> rfl), by repeat (first | (with_reducible first | exact HB.out | apply below_alloc | apply pw_below_drewN | apply below_drew1) | exact HB.out)⟩
 ·rw [if_neg c3] at H
  have c3b0 : ((l0.length : Int) == (l1.length : Int)) = false := beq_eq_false_iff_ne.mpr c3
  have c3b1 : ((l0.length : Int) != (l1.length : Int)) = true := bne_iff_ne.mpr c3
  have c3b2 : (l0.length == l1.length) = false := by first | simpa using c3 | (simp at c3 ⊢; omega)
  obtain rfl := Option.some.inj H
  go_enter Try.func28, Try.ntmps28
  go_wp2
  go_ret
  exact ⟨by first | rfl | (simp [errW_none, errW_some] <;> rfl) | (simp [*, errW_none, errW_some] <;> rfl), by repeat (first | (with_reducible first | exact HB.out | apply below_alloc | apply pw_below_drewN | apply below_drew1) | exact HB.out)⟩
end Go.Proofs.Ytlocaaebgghkbaa.A
namespace Go.Proofs.Ytlocaaebgghkbaa.A
open Go.RowKit Go.Proofs.YtlocaaebgghkbaaW.PrintWords Go.Proofs.YtlocaaebgghkbaaW.PrintLast Go.Proofs.YtlocaaebgghkbaaW.PrintMore
attribute [local go_sem] max2_int min2_int max_two min_two max_three min_three max_four min_four   -- for this text's walks alone
set_option linter.unusedVariables false
set_option linter.unusedSimpArgs false
mutual
def spec_l6Order.l0 : Nat → List (S89) → Int → List Int → Int → Option (List Int)
 | 0, _, _, _, _ => none
 | k + 1, x0, x1, x2, x7 => if 0 ≤ x1 then (if x1 < (x0.length : Int) then (if x7 < (((rd_T89 x0 x1).f6).length : Int) then (if 0 ≤ x7 then ((spec_l6Order.f k x0 (rd ((rd_T89 x0 x1).f6) x7) x2).bind fun t430 => (spec_l6Order.l0 k x0 x1 t430 (wrap64 (x7 + 1)))) else (none)) else (some x2)) else (none)) else (none)
def spec_l6Order.f : Nat → List (S89) → Int → List Int → Option (List Int)
 | 0, _, _, _ => none
 | k + 1, l0, a1, l2 => if (l2.length : Int) ≥ (l0.length : Int) then (some l2) else (if l2.length < 17592186044416 then (spec_l6Order.l0 k l0 a1 (l2 ++ [a1]) 0) else (none))
end
theorem spec_l6Order.mono_l : ∀ k, (∀ y0 y1 y2, LeO (spec_l6Order.f k y0 y1 y2) (spec_l6Order.f (k + 1) y0 y1 y2)) ∧ (∀ y0 y1 y2 y3, LeO (spec_l6Order.l0 k y0 y1 y2 y3) (spec_l6Order.l0 (k + 1) y0 y1 y2 y3))
 | 0 => ⟨fun _ _ _ r h => by simp [spec_l6Order.f] at h, fun _ _ _ _ r h => by simp [spec_l6Order.l0] at h⟩
 | k + 1 => by
  obtain ⟨ih0, ih1⟩ := spec_l6Order.mono_l k
  refine ⟨?_, ?_⟩
  ·intro y0 y1 y2
   unfold spec_l6Order.f
   repeat' first
   | (with_reducible exact ih0 _ _ _)
   | (with_reducible exact ih1 _ _ _ _)
   | (with_reducible exact LeO.refl _)
   | (with_reducible exact LeO.none _)
   | (with_reducible refine LeO.ite ?_ ?_)
   | (with_reducible refine LeO.bind ?_ (fun _ => ?_))
   | exact ih0 _ _ _
   | exact ih1 _ _ _ _
   | exact LeO.none _
   | refine LeO.ite ?_ ?_
   | refine LeO.bind ?_ (fun _ => ?_)
  ·intro y0 y1 y2 y3
   unfold spec_l6Order.l0
   repeat' first
   | (with_reducible exact ih0 _ _ _)
   | (with_reducible exact ih1 _ _ _ _)
   | (with_reducible exact LeO.refl _)
   | (with_reducible exact LeO.none _)
   | (with_reducible refine LeO.ite ?_ ?_)
   | (with_reducible refine LeO.bind ?_ (fun _ => ?_))
   | exact ih0 _ _ _
   | exact ih1 _ _ _ _
   | exact LeO.none _
   | refine LeO.ite ?_ ?_
   | refine LeO.bind ?_ (fun _ => ?_)
theorem spec_l6Order.mono : ∀ a0 a1 a2 k, LeO (spec_l6Order.f k a0 a1 a2) (spec_l6Order.f (k + 1) a0 a1 a2) := by
 intro a0 a1 a2 k
 obtain ⟨ih0, ih1⟩ := spec_l6Order.mono_l k
 exact ih0 a0 a1 a2
set_option maxHeartbeats 8000000 in
set_option maxRecDepth 100000 in
theorem spec_l6Order.calls (k : Nat) : ∀ (A0 : Option Addr) (c0 : Nat) (l0 : List (S89)) (a1 : Int) (P2_ : Nat → Prop) (u9000_ : Value) (l2 : List Int) (r : List Int) (w0 w : World) (hB : Below w0.heap.size w0 w) (hr0 : ∀ W_, Kept w W_ (fun k_ => P2_ k_) → Kd.C k89 W_ A0 l0.length l0) (hc0 : l0.length ≤ c0) (ho2 : Kd.R (Kd.int .i64) 3 w w0.heap.size P2_ u9000_ l2) (h : spec_l6Order.f k l0 a1 l2 = some r),
  Calls Try.prog 107 #[.slice A0 l0.length c0, .int .i64 a1, u9000_] w fun e w' => ∃ v0_ : Value, e = .returned (v0_) ∧ Kd.R (Kd.int .i64) 3 w' w0.heap.size (fun k_ => (P2_ k_ ∨ w.heap.size ≤ k_)) v0_ r ∧ Below w0.heap.size w0 w' ∧ Kept w w' (fun k_ => P2_ k_) := by
 induction k using Nat.strongRecOn with
 | _ k ih =>
 intro A0 c0 l0 a1 P2_ u9000_ l2 r w0 w hB hr0 hc0 ho2 h
 cases k with
 | zero => exact absurd h (by simp [spec_l6Order.f])
 | succ k =>
 simp only [spec_l6Order.f] at h
 have HR0 := Aside0.mk hr0
 have HC0 := Aside0.mk hc0
 clear hr0 hc0
 have HO2 := Aside0.mk (show Kd.R (Kd.int .i64) 3 w w0.heap.size (fun k_ => (P2_ k_ ∨ w.heap.size ≤ k_)) u9000_ l2 from Kd.R_mono ho2 (fun k_ hk => (.inl hk)))
 have HK := Aside0.mk (Kept.refl w (fun k_ => P2_ k_))
 have HW0 := Aside0.mk hB.size
 have HB := Aside0.mk hB
 clear hB
 have H : (if (l2.length : Int) ≥ (l0.length : Int) then (some l2) else (if l2.length < 17592186044416 then (spec_l6Order.l0 k l0 a1 (l2 ++ [a1]) 0) else (none))) = some r := h
 clear h
 by_cases c4 : (l2.length : Int) ≥ (l0.length : Int)
 ·rw [if_pos c4] at H
  have c4b0 : decide ((l0.length : Int) ≤ (l2.length : Int)) = true := decide_eq_true c4
  have c4b1 : decide (l0.length ≤ l2.length) = true := decide_eq_true (Int.ofNat_le.mp c4)
  clear c4
  obtain rfl := Option.some.inj H
  obtain ⟨Ao5, co5, eo5⟩ := Kd.R_slice HO2.out
  subst eo5
  go_enter Try.func107, Try.ntmps107
  go_wp2
  go_ret
  exact ⟨_, by first | rfl | (simp [errW_none, errW_some] <;> rfl) | (simp [*, errW_none, errW_some] <;> rfl), by (with_reducible repeat (first | apply Kd.R_alloc | apply Kd.R_drewN | apply Kd.R_drew)); exact HO2.out, by repeat (first | (with_reducible first | exact HB.out | apply below_alloc | apply pw_below_drewN | apply below_drew1) | exact HB.out), by repeat (first | (with_reducible first | exact HK.out | apply Kept.alloc | apply Kept.drewN | apply Kept.drew) | exact HK.out)⟩
 ·rw [if_neg c4] at H
  have c4b0 : decide ((l0.length : Int) ≤ (l2.length : Int)) = false := decide_eq_false c4
  have c4b1 : decide (l0.length ≤ l2.length) = false := decide_eq_false (fun h => c4 (Int.ofNat_le.mpr h))
  clear c4
  by_cases c6 : l2.length < 17592186044416
  ·rw [if_pos c6] at H
   have LMc6 := Aside0.mk c6
   clear c6
   obtain ⟨y424, hy424⟩ : ∃ y_ : List Int, y_ = (l2 ++ [a1]) := ⟨_, rfl⟩
   replace H : (spec_l6Order.l0 k l0 a1 y424 0) = some r := by first | (rw [hy424]; with_reducible exact H) | (have H2_ := (Option.bind_some _ _).symm.trans H; rw [hy424]; with_reducible exact H2_) | (have H2_ := (Option.bind_some _ _).symm.trans H; with_reducible exact H2_) | with_reducible exact H | (rw [hy424]; exact H) | exact H
   have Ny424 := Aside0.mk hy424
   clear hy424
   have H' := Aside0.mk H
   clear H
   obtain ⟨Ao7, co7, eo7⟩ := Kd.R_slice HO2.out
   subst eo7
   go_enter Try.func107, Try.ntmps107
   go_wp2_with (first | ((with_reducible refine gate_builtin (b := .append) (xs := #[.tmp 14, .tmp 16]) rfl ?_); at_builtin; refine Kd.R_append (Kd.int .i64) (w0 := w0) w0.heap.size rfl (.tmp 14) (.tmp 16) 84 3 (.int .i64 0) 8 rfl Try.underlying84 info3 rfl (by decide) (by omega) (.slice Ao7 l2.length co7) l2 a1 [.int .i64 a1] (fun k_ => (P2_ k_ ∨ w.heap.size ≤ k_)) (fun _ => False) rfl rfl ?aP (fun _ hk => hk.elim) ?aF ?aO ?aB ?aS ?aL ?_; (case aP => exact rfl); (case aB => exact (by repeat (first | (with_reducible first | exact HB.out | apply below_alloc | apply pw_below_drewN | apply below_drew1) | exact HB.out))); (case aF => exact (fun k_ hk => (.inr (Nat.le_trans (by first | exact HK.out.1 | exact (show Kept w _ (fun k_ => P2_ k_) from by repeat (first | (with_reducible first | exact HK.out | apply Kept.alloc | apply Kept.drewN | apply Kept.drew) | exact HK.out)).1) hk)))); (case aO => exact (by (with_reducible repeat (first | apply Kd.R_alloc | apply Kd.R_drewN | apply Kd.R_drew)); exact HO2.out)); (case aS => exact (below_size (by repeat (first | (with_reducible first | exact HB.out | apply below_alloc | apply pw_below_drewN | apply below_drew1) | exact HB.out)))); (case aL => have := LMc6.out; omega); intro v425 w8 ho hb hg hat; rw [← Ny424.out] at ho; have n0_ := Aside0.mk (hb); have n1_ := Aside0.mk (Kept.of_grown (S := (fun k_ => P2_ k_)) hg (by repeat (first | (with_reducible first | exact HK.out | apply Kept.alloc | apply Kept.drewN | apply Kept.drew) | exact HK.out)) (fun k_ e_ => (HO2.out.1 k_ e_))); have n2_ := Aside0.mk (ho); clear HB; clear HK; clear HO2; have HB := n0_; have HK := n1_; have HO426 := n2_; clear n0_ n1_ n2_; clear ho hb hg hat))
   go_loopg [2, 7] k (fun kq v2 v7 w' => ∃ (x2_1 : List Int) (x7_1 : Int), v7 = .int .i64 x7_1 ∧ Aside0 (spec_l6Order.l0 kq l0 a1 x2_1 x7_1 = some r) ∧ Aside0 (kq ≤ k) ∧ Aside0 (Kd.R (Kd.int .i64) 3 w' w0.heap.size (fun k_ => (P2_ k_ ∨ w.heap.size ≤ k_)) v2 x2_1) ∧ Aside0 (Kept w w' (fun k_ => P2_ k_)) ∧ Aside0 (Below w0.heap.size w0 w'))
   case atStart => exact ⟨(y424), (0), (by first | rfl | (simp; done) | (simp [*]; done)), H', ⟨Nat.le_refl _⟩, ⟨by (with_reducible repeat (first | apply Kd.R_alloc | apply Kd.R_drewN | apply Kd.R_drew)); exact HO426.out⟩, ⟨by repeat (first | (with_reducible first | exact HK.out | apply Kept.alloc | apply Kept.drewN | apply Kept.drew) | exact HK.out)⟩, ⟨by repeat (first | (with_reducible first | exact HB.out | apply below_alloc | apply pw_below_drewN | apply below_drew1) | exact HB.out)⟩⟩
   case round =>
    clear H'
    try clear c1
    try clear p2
    try clear c4
    try clear c4b0
    try clear c4b1
    try clear c6
    obtain ⟨x2_1, x7_1, rfl, HA, HK1, HO_2, HK, HB⟩ := hrel
    cases gk with
    | zero => exact absurd HA.out (by simp [spec_l6Order.l0])
    | succ k1 =>
     have H := HA.out
     clear HA
     simp only [spec_l6Order.l0] at H
     by_cases c9 : 0 ≤ a1
     ·rw [if_pos c9] at H
      have c9b0 : decide (0 ≤ a1) = true := decide_eq_true c9
      clear c9
      by_cases c10 : a1 < (l0.length : Int)
      ·rw [if_pos c10] at H
       have c10b0 : decide (a1 < (l0.length : Int)) = true := decide_eq_true c10
       clear c10
       by_cases c11 : x7_1 < (((rd_T89 l0 a1).f6).length : Int)
       ·rw [if_pos c11] at H
        have c11b0 : decide (x7_1 < (((rd_T89 l0 a1).f6).length : Int)) = true := decide_eq_true c11
        clear c11
        by_cases c12 : 0 ≤ x7_1
        ·rw [if_pos c12] at H
         have c12b0 : decide (0 ≤ x7_1) = true := decide_eq_true c12
         clear c12
         replace H := Option.bind_eq_some_iff.mp H
         obtain ⟨t430, A130, H⟩ := H
         replace H : (spec_l6Order.l0 k1 l0 a1 t430 (wrap64 (x7_1 + 1))) = some r := H
         have A13 := Aside0.mk A130
         clear A130
         have H' := Aside0.mk H
         clear H
         have p427 : 0 ≤ (a1 : Int) := of_decide_eq_true (by first | (with_reducible assumption) | assumption)
         have q427 : a1 < (l0.length : Int) := of_decide_eq_true (by first | (with_reducible assumption) | assumption)
         obtain ⟨ad427, A427_3, c427_3, A427_6, c427_6, e427, hx427_0, hx427_1, hx427_2, hx427_3, hx427_4, hx427_5, hx427_6, hl427_3, hi427_3, hl427_6, hi427_6⟩ := at_T89 (Kd.C_kept_now HR0.out HK.out) a1 p427 q427
         cases e427
         have HR427_3 := Aside0.mk hi427_3
         have HC427_3 := Aside0.mk hl427_3
         clear hi427_3 hl427_3
         have HR427_6 := Aside0.mk hi427_6
         have HC427_6 := Aside0.mk hl427_6
         clear hi427_6 hl427_6
         replace p427 := eq_true p427
         replace q427 := eq_true q427
         have p428 : 0 ≤ (a1 : Int) := of_decide_eq_true (by first | (with_reducible assumption) | assumption)
         have q428 : a1 < (l0.length : Int) := of_decide_eq_true (by first | (with_reducible assumption) | assumption)
         obtain ⟨ad428, A428_3, c428_3, A428_6, c428_6, e428, hx428_0, hx428_1, hx428_2, hx428_3, hx428_4, hx428_5, hx428_6, hl428_3, hi428_3, hl428_6, hi428_6⟩ := at_T89 (Kd.C_kept_now HR0.out HK.out) a1 p428 q428
         obtain rfl : ad427 = ad428 := (by injection e428)
         have HR428_3 := Aside0.mk hi428_3
         have HC428_3 := Aside0.mk hl428_3
         clear hi428_3 hl428_3
         have HR428_6 := Aside0.mk hi428_6
         have HC428_6 := Aside0.mk hl428_6
         clear hi428_6 hl428_6
         replace p428 := eq_true p428
         replace q428 := eq_true q428
         have ea_ := Option.some.inj (hx427_3.symm.trans hx428_3)
         injection ea_ with ea_ en_ ec_
         subst ea_
         subst ec_
         clear en_
         have ea_ := Option.some.inj (hx427_6.symm.trans hx428_6)
         injection ea_ with ea_ en_ ec_
         subst ea_
         subst ec_
         clear en_
         have p429 : 0 ≤ (x7_1 : Int) := of_decide_eq_true (by first | (with_reducible assumption) | assumption)
         have q429 : x7_1 < (((rd_T89 l0 a1).f6).length : Int) := of_decide_eq_true (by first | (with_reducible assumption) | assumption)
         obtain ⟨ad429, e429, hx429_0⟩ := Kd.at_int (by repeat (first | (with_reducible exact HR428_6.out) | (with_reducible refine Kd.C_alloc ?_ _) | (with_reducible refine Kd.C_drewN ?_ _) | (with_reducible refine Kd.C_drew ?_) | exact HR428_6.out)) x7_1 p429 q429
         cases e429
         replace p429 := eq_true p429
         replace q429 := eq_true q429
         obtain ⟨Ao14, co14, eo14⟩ := Kd.R_slice HO_2.out
         subst eo14
         go_wp2_with (first | ((with_reducible refine gate_callee (f := 107) rfl ?_); refine goesL_ (some 38) rfl rfl Try.func107 (by kernel_rfl) rfl #[.slice (some ad427) l0.length c0, .int .i64 (rd ((rd_T89 l0 a1).f6) x7_1), .slice Ao14 x2_1.length co14] rfl (by (try simp only [List.map_toArray, List.map_cons, List.map_nil]); first | done | rfl | (simp only [List.length_drop, List.length_take]; rfl)) ?_; (with_reducible refine (ih k1 (by have := HK1.out; omega) _ _ l0 (rd ((rd_T89 l0 a1).f6) x7_1) (fun k_ => some k_ = (.slice Ao14 x2_1.length co14 : Value).ownBlock) (.slice Ao14 x2_1.length co14) x2_1 t430 w0 _ ?side1 ?side2 ?side3 ?side4 A13.out).mono ?_); (case side1 => repeat (first | (with_reducible first | exact HB.out | apply below_alloc | apply pw_below_drewN | apply below_drew1) | exact HB.out)); (case side2 => exact Kd.C_kept_call HR0.out (by repeat (first | (with_reducible first | exact HK.out | apply Kept.alloc | apply Kept.drewN | apply Kept.drew) | exact HK.out)) (fun k_ hs_ => (fun e_ => (HO_2.out.1 k_ e_.symm)) hs_)); (case side3 => exact HC0.out); (case side4 => exact Kd.R_tight rfl HO_2.out); rintro e w15 ⟨v431, rfl, ho0, hb, hkp⟩; refine ⟨_, rfl, ?_⟩; have n0_ := Aside0.mk (Kd.R_mono (ok' := fun k_ => (P2_ k_ ∨ w.heap.size ≤ k_)) ho0 (fun k_ hk_ => Or.elim hk_ (fun hs_ => (HO_2.out.1 k_ (hs_).symm)) (fun hn_ => (.inr (Nat.le_trans (by first | exact HK.out.1 | exact (show Kept w _ (fun k_ => P2_ k_) from by repeat (first | (with_reducible first | exact HK.out | apply Kept.alloc | apply Kept.drewN | apply Kept.drew) | exact HK.out)).1) hn_))))); have n1_ := Aside0.mk (Kept.then_ (S := (fun k_ => P2_ k_)) (by repeat (first | (with_reducible first | exact HK.out | apply Kept.alloc | apply Kept.drewN | apply Kept.drew) | exact HK.out)) hkp (fun k_ hs_ => (fun e_ => (HO_2.out.1 k_ e_.symm)) hs_)); have n2_ := Aside0.mk (hb); clear HK; clear HB; clear HO_2; have HO432 := n0_; have HK := n1_; have HB := n2_; clear n0_ n1_ n2_; (try clear hb); (try clear hkp); (try clear ho0)))
         go_roundg k1
         case measure => have := HK1.out; omega
         case rel => exact ⟨(t430), (wrap64 (x7_1 + 1)), (by first | rfl | (simp; done) | (simp [*]; done)), H', ⟨by have := HK1.out; omega⟩, ⟨by (with_reducible repeat (first | apply Kd.R_alloc | apply Kd.R_drewN | apply Kd.R_drew)); exact HO432.out⟩, ⟨by repeat (first | (with_reducible first | exact HK.out | apply Kept.alloc | apply Kept.drewN | apply Kept.drew) | exact HK.out)⟩, ⟨by repeat (first | (with_reducible first | exact HB.out | apply below_alloc | apply pw_below_drewN | apply below_drew1) | exact HB.out)⟩⟩
        ·rw [if_neg c12] at H
         exact absurd H (by simp)
       ·rw [if_neg c11] at H
        have c11b0 : decide (x7_1 < (((rd_T89 l0 a1).f6).length : Int)) = false := decide_eq_false c11
        clear c11
        obtain rfl := Option.some.inj H
        have p427 : 0 ≤ (a1 : Int) := of_decide_eq_true (by first | (with_reducible assumption) | assumption)
        have q427 : a1 < (l0.length : Int) := of_decide_eq_true (by first | (with_reducible assumption) | assumption)
        obtain ⟨ad427, A427_3, c427_3, A427_6, c427_6, e427, hx427_0, hx427_1, hx427_2, hx427_3, hx427_4, hx427_5, hx427_6, hl427_3, hi427_3, hl427_6, hi427_6⟩ := at_T89 (Kd.C_kept_now HR0.out HK.out) a1 p427 q427
        cases e427
        have HR427_3 := Aside0.mk hi427_3
        have HC427_3 := Aside0.mk hl427_3
        clear hi427_3 hl427_3
        have HR427_6 := Aside0.mk hi427_6
        have HC427_6 := Aside0.mk hl427_6
        clear hi427_6 hl427_6
        replace p427 := eq_true p427
        replace q427 := eq_true q427
        go_wp2
        go_ret
        exact ⟨_, by first | rfl | (simp [errW_none, errW_some] <;> rfl) | (simp [*, errW_none, errW_some] <;> rfl), by (with_reducible repeat (first | apply Kd.R_alloc | apply Kd.R_drewN | apply Kd.R_drew)); exact HO_2.out, by repeat (first | (with_reducible first | exact HB.out | apply below_alloc | apply pw_below_drewN | apply below_drew1) | exact HB.out), by repeat (first | (with_reducible first | exact HK.out | apply Kept.alloc | apply Kept.drewN | apply Kept.drew) | exact HK.out)⟩
      ·rw [if_neg c10] at H
       exact absurd H (by simp)
     ·rw [if_neg c9] at H
      exact absurd H (by simp)
  ·rw [if_neg c6] at H
   exact absurd H (by simp)
end Go.Proofs.Ytlocaaebgghkbaa.A
namespace Go.Proofs.Ytlocaaebgghkbaa.A
open Go.RowKit Go.Proofs.YtlocaaebgghkbaaW.PrintWords Go.Proofs.YtlocaaebgghkbaaW.PrintLast Go.Proofs.YtlocaaebgghkbaaW.PrintMore
attribute [local go_sem] max2_int min2_int max_two min_two max_three min_three max_four min_four   -- for this text's walks alone
set_option linter.unusedVariables false
set_option linter.unusedSimpArgs false
def spec_l1In.f (a0 : Int) (a1 : Int) (a2 : Int) : Option (Bool) := if a0 ≥ a1 then (some (decide (a0 ≤ a2))) else (some false)
set_option maxHeartbeats 8000000 in
set_option maxRecDepth 100000 in
theorem spec_l1In.calls (a0 : Int) (a1 : Int) (a2 : Int) (r : Bool) (w : World) (h : spec_l1In.f a0 a1 a2 = some r) :
  Calls Try.prog 146 #[.int .i64 a0, .int .i64 a1, .int .i64 a2] w fun e w' => e = .returned (.bool r) ∧ Drawn0 w w' := by
 have H : (if a0 ≥ a1 then (some (decide (a0 ≤ a2))) else (some false)) = some r := h
 clear h
 by_cases c4 : a0 ≥ a1
 ·rw [if_pos c4] at H
  have c4b0 : decide (a1 ≤ a0) = true := decide_eq_true c4
  clear c4
  obtain rfl := Option.some.inj H
  go_enter Try.func146, Try.ntmps146
  go_wp2
  go_ret
  exact ⟨by first | rfl | (simp; done) | (simp [*]; done), by repeat (first | exact Drawn0.refl _ | apply Drawn0.step)⟩
 ·rw [if_neg c4] at H
  have c4b0 : decide (a1 ≤ a0) = false := decide_eq_false c4
  clear c4
  obtain rfl := Option.some.inj H
  go_enter Try.func146, Try.ntmps146
  go_wp2
  go_ret
  exact ⟨by first | rfl | (simp; done) | (simp [*]; done), by repeat (first | exact Drawn0.refl _ | apply Drawn0.step)⟩
end Go.Proofs.Ytlocaaebgghkbaa.A
namespace Go.Proofs.Ytlocaaebgghkbaa.A
open Go.RowKit Go.Proofs.YtlocaaebgghkbaaW.PrintWords Go.Proofs.YtlocaaebgghkbaaW.PrintLast Go.Proofs.YtlocaaebgghkbaaW.PrintMore
attribute [local go_sem] max2_int min2_int max_two min_two max_three min_three max_four min_four   -- for this text's walks alone
set_option linter.unusedVariables false
set_option linter.unusedSimpArgs false
def spec_l4Has.l0 : Nat → List (S53) → ByteArray → Int → Option (Bool)
 | 0, _, _, _ => none
 | k + 1, x0, x1, x5 => if x5 < (x0.length : Int) then (if 0 ≤ x5 then (if ((rd_T53 x0 x5).f0).toList = x1.toList then (some true) else (spec_l4Has.l0 k x0 x1 (wrap64 (x5 + 1)))) else (none)) else (some false)
def spec_l4Has.f (k : Nat) (l0 : List (S53)) (a1 : ByteArray) : Option (Bool) := spec_l4Has.l0 k l0 a1 0
theorem spec_l4Has.mono_l : ∀ k, (∀ y0 y1 y2, LeO (spec_l4Has.l0 k y0 y1 y2) (spec_l4Has.l0 (k + 1) y0 y1 y2))
 | 0 => fun _ _ _ r h => by simp [spec_l4Has.l0] at h
 | k + 1 => by
  have ih0 := spec_l4Has.mono_l k
  ·intro y0 y1 y2
   unfold spec_l4Has.l0
   repeat' first
   | (with_reducible exact ih0 _ _ _)
   | (with_reducible exact LeO.refl _)
   | (with_reducible exact LeO.none _)
   | (with_reducible refine LeO.ite ?_ ?_)
   | (with_reducible refine LeO.bind ?_ (fun _ => ?_))
   | exact ih0 _ _ _
   | exact LeO.none _
   | refine LeO.ite ?_ ?_
   | refine LeO.bind ?_ (fun _ => ?_)
theorem spec_l4Has.mono : ∀ a0 a1 k, LeO (spec_l4Has.f k a0 a1) (spec_l4Has.f (k + 1) a0 a1) := by
 intro a0 a1 k
 have ih0 := spec_l4Has.mono_l k
 unfold spec_l4Has.f
 repeat' first
   | (with_reducible exact ih0 _ _ _)
   | (with_reducible exact LeO.refl _)
   | (with_reducible exact LeO.none _)
   | (with_reducible refine LeO.ite ?_ ?_)
   | (with_reducible refine LeO.bind ?_ (fun _ => ?_))
   | exact ih0 _ _ _
   | exact LeO.none _
   | refine LeO.ite ?_ ?_
   | refine LeO.bind ?_ (fun _ => ?_)
set_option maxHeartbeats 8000000 in
set_option maxRecDepth 100000 in
theorem spec_l4Has.calls (k : Nat) (A0 : Option Addr) (c0 : Nat) (l0 : List (S53)) (a1 : ByteArray) (r : Bool) (w : World) (hr0 : Kd.C k53 w A0 l0.length l0) (hc0 : l0.length ≤ c0) (h : spec_l4Has.f k l0 a1 = some r) :
  Calls Try.prog 64 #[.slice A0 l0.length c0, .string a1] w fun e w' => e = .returned (.bool r) ∧ Drawn0 w w' := by
 have HR0 := Aside0.mk hr0
 have HC0 := Aside0.mk hc0
 clear hr0 hc0
 have H : (spec_l4Has.l0 k l0 a1 0) = some r := h
 clear h
 have H' := Aside0.mk H
 clear H
 go_enter Try.func64, Try.ntmps64
 go_wp2
 go_loopg [5] k (fun kq v5 w' => ∃ (x5_1 : Int), v5 = .int .i64 x5_1 ∧ Aside0 (spec_l4Has.l0 kq l0 a1 x5_1 = some r) ∧ Aside0 (kq ≤ k) ∧ Drawn0 w w')
 case atStart => exact ⟨(0), (by first | rfl | (simp; done) | (simp [*]; done)), H', ⟨Nat.le_refl _⟩, by repeat (first | exact Drawn0.refl _ | apply Drawn0.step)⟩
 case round =>
  clear H'
  try clear p2
  obtain ⟨x5_1, rfl, HA, HK1, ⟨m1, rfl⟩⟩ := hrel
  cases gk with
  | zero => exact absurd HA.out (by simp [spec_l4Has.l0])
  | succ k1 =>
   have H := HA.out
   clear HA
   simp only [spec_l4Has.l0] at H
   by_cases c3 : x5_1 < (l0.length : Int)
   ·rw [if_pos c3] at H
    have c3b0 : decide (x5_1 < (l0.length : Int)) = true := decide_eq_true c3
    clear c3
    by_cases c4 : 0 ≤ x5_1
    ·rw [if_pos c4] at H
     have c4b0 : decide (0 ≤ x5_1) = true := decide_eq_true c4
     clear c4
     by_cases c5 : ((rd_T53 l0 x5_1).f0).toList = a1.toList
     ·rw [if_pos c5] at H
      have c5b0 : (((rd_T53 l0 x5_1).f0).toList == a1.toList) = true := beq_iff_eq.mpr c5
      have c5b1 : (((rd_T53 l0 x5_1).f0).toList != a1.toList) = false := bne_eq_false_iff_eq.mpr c5
      clear c5
      obtain rfl := Option.some.inj H
      have p322 : 0 ≤ (x5_1 : Int) := of_decide_eq_true (by first | (with_reducible assumption) | assumption)
      have q322 : x5_1 < (l0.length : Int) := of_decide_eq_true (by first | (with_reducible assumption) | assumption)
      obtain ⟨ad322, e322, hx322_0, hx322_1⟩ := at_T53 HR0.out x5_1 p322 q322
      cases e322
      replace p322 := eq_true p322
      replace q322 := eq_true q322
      go_wp2
      go_ret
      exact ⟨by first | rfl | (simp; done) | (simp [*]; done), by repeat (first | exact Drawn0.refl _ | apply Drawn0.step)⟩
     ·rw [if_neg c5] at H
      have c5b0 : (((rd_T53 l0 x5_1).f0).toList == a1.toList) = false := beq_eq_false_iff_ne.mpr c5
      have c5b1 : (((rd_T53 l0 x5_1).f0).toList != a1.toList) = true := bne_iff_ne.mpr c5
      have H' := Aside0.mk H
      clear H
      have p322 : 0 ≤ (x5_1 : Int) := of_decide_eq_true (by first | (with_reducible assumption) | assumption)
      have q322 : x5_1 < (l0.length : Int) := of_decide_eq_true (by first | (with_reducible assumption) | assumption)
      obtain ⟨ad322, e322, hx322_0, hx322_1⟩ := at_T53 HR0.out x5_1 p322 q322
      cases e322
      replace p322 := eq_true p322
      replace q322 := eq_true q322
      go_wp2
      go_roundg k1
      case measure => have := HK1.out; omega
      case rel => exact ⟨(wrap64 (x5_1 + 1)), (by first | rfl | (simp; done) | (simp [*]; done)), H', ⟨by have := HK1.out; omega⟩, by repeat (first | exact Drawn0.refl _ | apply Drawn0.step)⟩
    ·rw [if_neg c4] at H
     exact absurd H (by simp)
   ·rw [if_neg c3] at H
    have c3b0 : decide (x5_1 < (l0.length : Int)) = false := decide_eq_false c3
    clear c3
    obtain rfl := Option.some.inj H
    go_wp2
    go_ret
    exact ⟨by first | rfl | (simp; done) | (simp [*]; done), by repeat (first | exact Drawn0.refl _ | apply Drawn0.step)⟩
end Go.Proofs.Ytlocaaebgghkbaa.A
namespace Go.Proofs.Ytlocaaebgghkbaa.A
open Go.RowKit Go.Proofs.YtlocaaebgghkbaaW.PrintWords Go.Proofs.YtlocaaebgghkbaaW.PrintLast Go.Proofs.YtlocaaebgghkbaaW.PrintMore
attribute [local go_sem] max2_int min2_int max_two min_two max_three min_three max_four min_four   -- for this text's walks alone
set_option linter.unusedVariables false
set_option linter.unusedSimpArgs false
mutual
def spec_l6Plain.j0 : Nat → Bool → Bool → Int → Int → ByteArray → List (S53) → ByteArray → Int → List Int → Option (Bool)
 | 0, _, _, _, _, _, _, _, _, _ => none
 | k + 1, x3, x44, x434000, x434001, x434002, x434003, x434004, x434005, x434006 => if x44 = true then (some false) else (spec_l6Plain.l0 k x3 0 x434000 x434001 x434002 x434003 x434004 x434005 x434006)
def spec_l6Plain.l0 : Nat → Bool → Int → Int → Int → ByteArray → List (S53) → ByteArray → Int → List Int → Option (Bool)
 | 0, _, _, _, _, _, _, _, _, _ => none
 | k + 1, x3, x4, x434000, x434001, x434002, x434003, x434004, x434005, x434006 => if x4 < (x434003.length : Int) then (if 0 ≤ x4 then (if x4 ≤ (x434003.length : Int) then ((spec_l4Has.f k (x434003.take (x4 : Int).toNat) ((rd_T53 x434003 x4).f0)).bind fun t440 => (if t440 = true then (some false) else (spec_l6Plain.l0 k x3 (wrap64 (x4 + 1)) x434000 x434001 x434002 x434003 x434004 x434005 x434006))) else (none)) else (none)) else (if x434000 = 1 then (some (x434004.toList == ([] : List UInt8))) else (if x434000 = 3 then (some ((x434006.length : Int) == 0)) else (if x434000 = 4 then (some ((x434006.length : Int) == 0)) else (if x434000 = 5 then (some ((x434006.length : Int) == 0)) else (some x3)))))
end
def spec_l6Plain.f (k : Nat) (a0_0 : Int) (a0_1 : Int) (a0_2 : ByteArray) (l0_3 : List (S53)) (a0_4 : ByteArray) (a0_5 : Int) (l0_6 : List Int) : Option (Bool) := if a0_0 = 2 then (if a0_2.toList = ([] : List UInt8) then (spec_l6Plain.j0 k (a0_0 == 2) true a0_0 a0_1 a0_2 l0_3 a0_4 a0_5 l0_6) else (if a0_4.toList = ([] : List UInt8) then ((spec_l1In.f a0_1 0 2).bind fun t434 => (spec_l6Plain.j0 k (a0_0 == 2) (!t434) a0_0 a0_1 a0_2 l0_3 a0_4 a0_5 l0_6)) else (spec_l6Plain.j0 k (a0_0 == 2) true a0_0 a0_1 a0_2 l0_3 a0_4 a0_5 l0_6))) else (if a0_2.toList = ([] : List UInt8) then (if (l0_3.length : Int) > 0 then (spec_l6Plain.j0 k (a0_0 == 2) true a0_0 a0_1 a0_2 l0_3 a0_4 a0_5 l0_6) else (if a0_1 = 0 then (spec_l6Plain.j0 k (a0_0 == 2) false a0_0 a0_1 a0_2 l0_3 a0_4 a0_5 l0_6) else (spec_l6Plain.j0 k (a0_0 == 2) true a0_0 a0_1 a0_2 l0_3 a0_4 a0_5 l0_6))) else (spec_l6Plain.j0 k (a0_0 == 2) true a0_0 a0_1 a0_2 l0_3 a0_4 a0_5 l0_6))
theorem spec_l6Plain.mono_l : ∀ k, (∀ y0 y1 y2 y3 y4 y5 y6 y7 y8, LeO (spec_l6Plain.j0 k y0 y1 y2 y3 y4 y5 y6 y7 y8) (spec_l6Plain.j0 (k + 1) y0 y1 y2 y3 y4 y5 y6 y7 y8)) ∧ (∀ y0 y1 y2 y3 y4 y5 y6 y7 y8, LeO (spec_l6Plain.l0 k y0 y1 y2 y3 y4 y5 y6 y7 y8) (spec_l6Plain.l0 (k + 1) y0 y1 y2 y3 y4 y5 y6 y7 y8))
 | 0 => ⟨fun _ _ _ _ _ _ _ _ _ r h => by simp [spec_l6Plain.j0] at h, fun _ _ _ _ _ _ _ _ _ r h => by simp [spec_l6Plain.l0] at h⟩
 | k + 1 => by
  obtain ⟨ih0, ih1⟩ := spec_l6Plain.mono_l k
  refine ⟨?_, ?_⟩
  ·intro y0 y1 y2 y3 y4 y5 y6 y7 y8
   unfold spec_l6Plain.j0
   repeat' first
   | (with_reducible exact ih0 _ _ _ _ _ _ _ _ _)
   | (with_reducible exact ih1 _ _ _ _ _ _ _ _ _)
   | (with_reducible exact spec_l4Has.mono _ _ _)
   | (with_reducible exact LeO.refl _)
   | (with_reducible exact LeO.none _)
   | (with_reducible refine LeO.ite ?_ ?_)
   | (with_reducible refine LeO.bind ?_ (fun _ => ?_))
   | exact ih0 _ _ _ _ _ _ _ _ _
   | exact ih1 _ _ _ _ _ _ _ _ _
   | exact spec_l4Has.mono _ _ _
   | exact LeO.none _
   | refine LeO.ite ?_ ?_
   | refine LeO.bind ?_ (fun _ => ?_)
  ·intro y0 y1 y2 y3 y4 y5 y6 y7 y8
   unfold spec_l6Plain.l0
   repeat' first
   | (with_reducible exact ih0 _ _ _ _ _ _ _ _ _)
   | (with_reducible exact ih1 _ _ _ _ _ _ _ _ _)
   | (with_reducible exact spec_l4Has.mono _ _ _)
   | (with_reducible exact LeO.refl _)
   | (with_reducible exact LeO.none _)
   | (with_reducible refine LeO.ite ?_ ?_)
   | (with_reducible refine LeO.bind ?_ (fun _ => ?_))
   | exact ih0 _ _ _ _ _ _ _ _ _
   | exact ih1 _ _ _ _ _ _ _ _ _
   | exact spec_l4Has.mono _ _ _
   | exact LeO.none _
   | refine LeO.ite ?_ ?_
   | refine LeO.bind ?_ (fun _ => ?_)
theorem spec_l6Plain.mono : ∀ a0 a1 a2 a3 a4 a5 a6 k, LeO (spec_l6Plain.f k a0 a1 a2 a3 a4 a5 a6) (spec_l6Plain.f (k + 1) a0 a1 a2 a3 a4 a5 a6) := by
 intro a0 a1 a2 a3 a4 a5 a6 k
 obtain ⟨ih0, ih1⟩ := spec_l6Plain.mono_l k
 unfold spec_l6Plain.f
 repeat' first
   | (with_reducible exact ih0 _ _ _ _ _ _ _ _ _)
   | (with_reducible exact ih1 _ _ _ _ _ _ _ _ _)
   | (with_reducible exact spec_l4Has.mono _ _ _)
   | (with_reducible exact LeO.refl _)
   | (with_reducible exact LeO.none _)
   | (with_reducible refine LeO.ite ?_ ?_)
   | (with_reducible refine LeO.bind ?_ (fun _ => ?_))
   | exact ih0 _ _ _ _ _ _ _ _ _
   | exact ih1 _ _ _ _ _ _ _ _ _
   | exact spec_l4Has.mono _ _ _
   | exact LeO.none _
   | refine LeO.ite ?_ ?_
   | refine LeO.bind ?_ (fun _ => ?_)
set_option maxHeartbeats 8000000 in
set_option maxRecDepth 100000 in
theorem spec_l6Plain.calls (k : Nat) (a0_0 : Int) (a0_1 : Int) (a0_2 : ByteArray) (A0_3 : Option Addr) (c0_3 : Nat) (l0_3 : List (S53)) (a0_4 : ByteArray) (a0_5 : Int) (A0_6 : Option Addr) (c0_6 : Nat) (l0_6 : List Int) (r : Bool) (w : World) (hr0_3 : Kd.C k53 w A0_3 l0_3.length l0_3) (hc0_3 : l0_3.length ≤ c0_3) (hr0_6 : Kd.C (Kd.int .i64) w A0_6 l0_6.length l0_6) (hc0_6 : l0_6.length ≤ c0_6) (h : spec_l6Plain.f k a0_0 a0_1 a0_2 l0_3 a0_4 a0_5 l0_6 = some r) :
  Calls Try.prog 147 #[.agg #[.int .i64 a0_0, .int .i64 a0_1, .string a0_2, .slice A0_3 l0_3.length c0_3, .string a0_4, .int .i64 a0_5, .slice A0_6 l0_6.length c0_6]] w fun e w' => e = .returned (.bool r) ∧ Below w.heap.size w w' := by
 have hu89 := Try.underlying89
 have HR0_3 := Aside0.mk hr0_3
 have HC0_3 := Aside0.mk hc0_3
 clear hr0_3 hc0_3
 have HR0_6 := Aside0.mk hr0_6
 have HC0_6 := Aside0.mk hc0_6
 clear hr0_6 hc0_6
 have HB := Aside0.mk (Below.refl w.heap.size w)
 have H : (if a0_0 = 2 then (if a0_2.toList = ([] : List UInt8) then (spec_l6Plain.j0 k (a0_0 == 2) true a0_0 a0_1 a0_2 l0_3 a0_4 a0_5 l0_6) else (if a0_4.toList = ([] : List UInt8) then ((spec_l1In.f a0_1 0 2).bind fun t434 => (spec_l6Plain.j0 k (a0_0 == 2) (!t434) a0_0 a0_1 a0_2 l0_3 a0_4 a0_5 l0_6)) else (spec_l6Plain.j0 k (a0_0 == 2) true a0_0 a0_1 a0_2 l0_3 a0_4 a0_5 l0_6))) else (if a0_2.toList = ([] : List UInt8) then (if (l0_3.length : Int) > 0 then (spec_l6Plain.j0 k (a0_0 == 2) true a0_0 a0_1 a0_2 l0_3 a0_4 a0_5 l0_6) else (if a0_1 = 0 then (spec_l6Plain.j0 k (a0_0 == 2) false a0_0 a0_1 a0_2 l0_3 a0_4 a0_5 l0_6) else (spec_l6Plain.j0 k (a0_0 == 2) true a0_0 a0_1 a0_2 l0_3 a0_4 a0_5 l0_6))) else (spec_l6Plain.j0 k (a0_0 == 2) true a0_0 a0_1 a0_2 l0_3 a0_4 a0_5 l0_6))) = some r := h
 clear h
 have HC2 := Aside0.mk H
 clear H
 go_enter Try.func147, Try.ntmps147
 go_upto_region 2 with (first | ((with_reducible refine gate_dst (N := 1) rfl ?_); (try (refine gate_guard (by rfl) ?_; dsimp only)); refine box_event ?hg (N := 1) ?hd (cs := #[.int .i64 a0_0, .int .i64 a0_1, .string a0_2, .slice A0_3 l0_3.length c0_3, .string a0_4, .int .i64 a0_5, .slice A0_6 l0_6.length c0_6]) (t := 89) ?hr ?_; (case hd => rfl); (case hg => rfl); (case hr => first | (go_simp; done) | (go_simp; rfl)); intro gb433 hg w3 hbox hb; have n0_ := Aside0.mk (below_step (by repeat (first | (with_reducible first | exact HB.out | apply below_alloc | apply pw_below_drewN | apply below_drew1) | exact HB.out)) hb); have n1_ := Aside0.mk (hbox); have n2_ := Aside0.mk ((by rw [hg]; exact (below_size (by repeat (first | (with_reducible first | exact HB.out | apply below_alloc | apply pw_below_drewN | apply below_drew1) | exact HB.out))) : w.heap.size ≤ gb433)); have n3_ := Aside0.mk ((by rw [hg]; exact (below_size (by repeat (first | (with_reducible first | exact HB.out | apply below_alloc | apply pw_below_drewN | apply below_drew1) | exact HB.out))) : w.heap.size ≤ gb433)); clear HB; have HB := n0_; have BK433 := n1_; have GW433 := n2_; have GE433 := n3_; clear n0_ n1_ n2_ n3_; clear hb hbox hg; have hcz4_0 : w3.cell? ⟨gb433, 0, none⟩ = some (.int .i64 a0_0) := (blk_cell BK433.out 0).trans rfl; have hcz4_1 : w3.cell? ⟨gb433, 1, none⟩ = some (.int .i64 a0_1) := (blk_cell BK433.out 1).trans rfl; have hcz4_2 : w3.cell? ⟨gb433, 2, none⟩ = some (.string a0_2) := (blk_cell BK433.out 2).trans rfl; have hcz4_3 : w3.cell? ⟨gb433, 3, none⟩ = some (.slice A0_3 l0_3.length c0_3) := (blk_cell BK433.out 3).trans rfl; have hcz4_4 : w3.cell? ⟨gb433, 4, none⟩ = some (.string a0_4) := (blk_cell BK433.out 4).trans rfl; have hcz4_5 : w3.cell? ⟨gb433, 5, none⟩ = some (.int .i64 a0_5) := (blk_cell BK433.out 5).trans rfl; have hcz4_6 : w3.cell? ⟨gb433, 6, none⟩ = some (.slice A0_6 l0_6.length c0_6) := (blk_cell BK433.out 6).trans rfl; have hfz4_0 := blk_frozen BK433.out 0; have hfz4_1 := blk_frozen BK433.out 1; have hfz4_2 := blk_frozen BK433.out 2; have hfz4_3 := blk_frozen BK433.out 3; have hfz4_4 := blk_frozen BK433.out 4; have hfz4_5 := blk_frozen BK433.out 5; have hfz4_6 := blk_frozen BK433.out 6))
 repeat (go_quiet (first | ((with_reducible refine gate_dst (N := 1) rfl ?_); (try (refine gate_guard (by rfl) ?_; dsimp only)); refine box_event ?hg (N := 1) ?hd (cs := #[.int .i64 a0_0, .int .i64 a0_1, .string a0_2, .slice A0_3 l0_3.length c0_3, .string a0_4, .int .i64 a0_5, .slice A0_6 l0_6.length c0_6]) (t := 89) ?hr ?_; (case hd => rfl); (case hg => rfl); (case hr => first | (go_simp; done) | (go_simp; rfl)); intro gb433 hg w3 hbox hb; have n0_ := Aside0.mk (below_step (by repeat (first | (with_reducible first | exact HB.out | apply below_alloc | apply pw_below_drewN | apply below_drew1) | exact HB.out)) hb); have n1_ := Aside0.mk (hbox); have n2_ := Aside0.mk ((by rw [hg]; exact (below_size (by repeat (first | (with_reducible first | exact HB.out | apply below_alloc | apply pw_below_drewN | apply below_drew1) | exact HB.out))) : w.heap.size ≤ gb433)); have n3_ := Aside0.mk ((by rw [hg]; exact (below_size (by repeat (first | (with_reducible first | exact HB.out | apply below_alloc | apply pw_below_drewN | apply below_drew1) | exact HB.out))) : w.heap.size ≤ gb433)); clear HB; have HB := n0_; have BK433 := n1_; have GW433 := n2_; have GE433 := n3_; clear n0_ n1_ n2_ n3_; clear hb hbox hg; have hcz4_0 : w3.cell? ⟨gb433, 0, none⟩ = some (.int .i64 a0_0) := (blk_cell BK433.out 0).trans rfl; have hcz4_1 : w3.cell? ⟨gb433, 1, none⟩ = some (.int .i64 a0_1) := (blk_cell BK433.out 1).trans rfl; have hcz4_2 : w3.cell? ⟨gb433, 2, none⟩ = some (.string a0_2) := (blk_cell BK433.out 2).trans rfl; have hcz4_3 : w3.cell? ⟨gb433, 3, none⟩ = some (.slice A0_3 l0_3.length c0_3) := (blk_cell BK433.out 3).trans rfl; have hcz4_4 : w3.cell? ⟨gb433, 4, none⟩ = some (.string a0_4) := (blk_cell BK433.out 4).trans rfl; have hcz4_5 : w3.cell? ⟨gb433, 5, none⟩ = some (.int .i64 a0_5) := (blk_cell BK433.out 5).trans rfl; have hcz4_6 : w3.cell? ⟨gb433, 6, none⟩ = some (.slice A0_6 l0_6.length c0_6) := (blk_cell BK433.out 6).trans rfl; have hfz4_0 := blk_frozen BK433.out 0; have hfz4_1 := blk_frozen BK433.out 1; have hfz4_2 := blk_frozen BK433.out 2; have hfz4_3 := blk_frozen BK433.out 3; have hfz4_4 := blk_frozen BK433.out 4; have hfz4_5 := blk_frozen BK433.out 5; have hfz4_6 := blk_frozen BK433.out 6)); go_upto_region 2 with (first | ((with_reducible refine gate_dst (N := 1) rfl ?_); (try (refine gate_guard (by rfl) ?_; dsimp only)); refine box_event ?hg (N := 1) ?hd (cs := #[.int .i64 a0_0, .int .i64 a0_1, .string a0_2, .slice A0_3 l0_3.length c0_3, .string a0_4, .int .i64 a0_5, .slice A0_6 l0_6.length c0_6]) (t := 89) ?hr ?_; (case hd => rfl); (case hg => rfl); (case hr => first | (go_simp; done) | (go_simp; rfl)); intro gb433 hg w3 hbox hb; have n0_ := Aside0.mk (below_step (by repeat (first | (with_reducible first | exact HB.out | apply below_alloc | apply pw_below_drewN | apply below_drew1) | exact HB.out)) hb); have n1_ := Aside0.mk (hbox); have n2_ := Aside0.mk ((by rw [hg]; exact (below_size (by repeat (first | (with_reducible first | exact HB.out | apply below_alloc | apply pw_below_drewN | apply below_drew1) | exact HB.out))) : w.heap.size ≤ gb433)); have n3_ := Aside0.mk ((by rw [hg]; exact (below_size (by repeat (first | (with_reducible first | exact HB.out | apply below_alloc | apply pw_below_drewN | apply below_drew1) | exact HB.out))) : w.heap.size ≤ gb433)); clear HB; have HB := n0_; have BK433 := n1_; have GW433 := n2_; have GE433 := n3_; clear n0_ n1_ n2_ n3_; clear hb hbox hg; have hcz4_0 : w3.cell? ⟨gb433, 0, none⟩ = some (.int .i64 a0_0) := (blk_cell BK433.out 0).trans rfl; have hcz4_1 : w3.cell? ⟨gb433, 1, none⟩ = some (.int .i64 a0_1) := (blk_cell BK433.out 1).trans rfl; have hcz4_2 : w3.cell? ⟨gb433, 2, none⟩ = some (.string a0_2) := (blk_cell BK433.out 2).trans rfl; have hcz4_3 : w3.cell? ⟨gb433, 3, none⟩ = some (.slice A0_3 l0_3.length c0_3) := (blk_cell BK433.out 3).trans rfl; have hcz4_4 : w3.cell? ⟨gb433, 4, none⟩ = some (.string a0_4) := (blk_cell BK433.out 4).trans rfl; have hcz4_5 : w3.cell? ⟨gb433, 5, none⟩ = some (.int .i64 a0_5) := (blk_cell BK433.out 5).trans rfl; have hcz4_6 : w3.cell? ⟨gb433, 6, none⟩ = some (.slice A0_6 l0_6.length c0_6) := (blk_cell BK433.out 6).trans rfl; have hfz4_0 := blk_frozen BK433.out 0; have hfz4_1 := blk_frozen BK433.out 1; have hfz4_2 := blk_frozen BK433.out 2; have hfz4_3 := blk_frozen BK433.out 3; have hfz4_4 := blk_frozen BK433.out 4; have hfz4_5 := blk_frozen BK433.out 5; have hfz4_6 := blk_frozen BK433.out 6)))
 (try simp only [Act.put, List.setIfInBounds_toArray, List.set_cons_zero, List.set_cons_succ])
 go_cut [3, 44] (fun v3 v44 wc => ∃ (kq : Nat) (x44_1 : Bool), v3 = .bool (a0_0 == 2) ∧ v44 = .bool x44_1 ∧ Aside0 (spec_l6Plain.j0 kq (a0_0 == 2) x44_1 a0_0 a0_1 a0_2 l0_3 a0_4 a0_5 l0_6 = some r) ∧ Aside0 (kq ≤ k) ∧ Aside0 (wc.heap[gb433]? = some (.cells #[.int .i64 a0_0, .int .i64 a0_1, .string a0_2, (.slice A0_3 l0_3.length c0_3), .string a0_4, .int .i64 a0_5, (.slice A0_6 l0_6.length c0_6)] 89 (0, 0))) ∧ Aside0 (Below w.heap.size w wc))
 case first =>
  have H := HC2.out
  clear HC2
  by_cases c5 : a0_0 = 2
  ·rw [if_pos c5] at H
   have c5b0 : (a0_0 == 2) = true := beq_iff_eq.mpr c5
   have c5b1 : (a0_0 != 2) = false := bne_eq_false_iff_eq.mpr c5
   clear c5
   (first | rw [c5b0] | (simp only [i64_w, i32_w]; rw [c5b0]) | skip)
   by_cases c6 : a0_2.toList = ([] : List UInt8)
   ·rw [if_pos c6] at H
    have c6b0 : (a0_2.toList == ([] : List UInt8)) = true := beq_iff_eq.mpr c6
    have c6b1 : (a0_2.toList != ([] : List UInt8)) = false := bne_eq_false_iff_eq.mpr c6
    clear c6
    have H' := Aside0.mk H
    clear H
    have hcz7_0 : w3.cell? ⟨gb433, 0, none⟩ = some (.int .i64 a0_0) := (blk_cell BK433.out 0).trans rfl
    have hcz7_1 : w3.cell? ⟨gb433, 1, none⟩ = some (.int .i64 a0_1) := (blk_cell BK433.out 1).trans rfl
    have hcz7_2 : w3.cell? ⟨gb433, 2, none⟩ = some (.string a0_2) := (blk_cell BK433.out 2).trans rfl
    have hcz7_3 : w3.cell? ⟨gb433, 3, none⟩ = some (.slice A0_3 l0_3.length c0_3) := (blk_cell BK433.out 3).trans rfl
    have hcz7_4 : w3.cell? ⟨gb433, 4, none⟩ = some (.string a0_4) := (blk_cell BK433.out 4).trans rfl
    have hcz7_5 : w3.cell? ⟨gb433, 5, none⟩ = some (.int .i64 a0_5) := (blk_cell BK433.out 5).trans rfl
    have hcz7_6 : w3.cell? ⟨gb433, 6, none⟩ = some (.slice A0_6 l0_6.length c0_6) := (blk_cell BK433.out 6).trans rfl
    have hfz7_0 := blk_frozen BK433.out 0
    have hfz7_1 := blk_frozen BK433.out 1
    have hfz7_2 := blk_frozen BK433.out 2
    have hfz7_3 := blk_frozen BK433.out 3
    have hfz7_4 := blk_frozen BK433.out 4
    have hfz7_5 := blk_frozen BK433.out 5
    have hfz7_6 := blk_frozen BK433.out 6
    go_wp2
    repeat (go_quiet (fail); try go_wp2)
    go_meet
    case rel => exact ⟨_, (true), (by first | rfl | (simp [*]; done)), (by first | rfl | (simp; done) | (simp [*]; done)), H', ⟨by first | omega | exact Nat.le_refl _⟩, ⟨by (with_reducible repeat (first | refine blk_drewN ?_ _ | refine blk_drew ?_ | refine blk_alloc ?_ _)); exact BK433.out⟩, ⟨by repeat (first | (with_reducible first | exact HB.out | apply below_alloc | apply pw_below_drewN | apply below_drew1 | refine below_set ?_ GE433.out) | exact HB.out)⟩⟩
   ·rw [if_neg c6] at H
    have c6b0 : (a0_2.toList == ([] : List UInt8)) = false := beq_eq_false_iff_ne.mpr c6
    have c6b1 : (a0_2.toList != ([] : List UInt8)) = true := bne_iff_ne.mpr c6
    by_cases c8 : a0_4.toList = ([] : List UInt8)
    ·rw [if_pos c8] at H
     have c8b0 : (a0_4.toList == ([] : List UInt8)) = true := beq_iff_eq.mpr c8
     have c8b1 : (a0_4.toList != ([] : List UInt8)) = false := bne_eq_false_iff_eq.mpr c8
     clear c8
     replace H := Option.bind_eq_some_iff.mp H
     obtain ⟨t434, A90, H⟩ := H
     replace H : (spec_l6Plain.j0 k (a0_0 == 2) (!t434) a0_0 a0_1 a0_2 l0_3 a0_4 a0_5 l0_6) = some r := H
     have A9 := Aside0.mk A90
     clear A90
     have H' := Aside0.mk H
     clear H
     have hcz10_0 : w3.cell? ⟨gb433, 0, none⟩ = some (.int .i64 a0_0) := (blk_cell BK433.out 0).trans rfl
     have hcz10_1 : w3.cell? ⟨gb433, 1, none⟩ = some (.int .i64 a0_1) := (blk_cell BK433.out 1).trans rfl
     have hcz10_2 : w3.cell? ⟨gb433, 2, none⟩ = some (.string a0_2) := (blk_cell BK433.out 2).trans rfl
     have hcz10_3 : w3.cell? ⟨gb433, 3, none⟩ = some (.slice A0_3 l0_3.length c0_3) := (blk_cell BK433.out 3).trans rfl
     have hcz10_4 : w3.cell? ⟨gb433, 4, none⟩ = some (.string a0_4) := (blk_cell BK433.out 4).trans rfl
     have hcz10_5 : w3.cell? ⟨gb433, 5, none⟩ = some (.int .i64 a0_5) := (blk_cell BK433.out 5).trans rfl
     have hcz10_6 : w3.cell? ⟨gb433, 6, none⟩ = some (.slice A0_6 l0_6.length c0_6) := (blk_cell BK433.out 6).trans rfl
     have hfz10_0 := blk_frozen BK433.out 0
     have hfz10_1 := blk_frozen BK433.out 1
     have hfz10_2 := blk_frozen BK433.out 2
     have hfz10_3 := blk_frozen BK433.out 3
     have hfz10_4 := blk_frozen BK433.out 4
     have hfz10_5 := blk_frozen BK433.out 5
     have hfz10_6 := blk_frozen BK433.out 6
     go_wp2_with (first | (go_at_call 146; (with_reducible refine (spec_l1In.calls a0_1 0 2 t434 _ A9.out).mono ?_); rintro e w' ⟨rfl, ⟨nd, rfl⟩⟩; (try first | exact ⟨rfl, _, World.drewN_drewN _ _ _⟩ | exact ⟨rfl, _, Eq.trans (World.drewN_drewN _ _ _) (congrArg (World.drewN _) (Nat.add_assoc _ _ _))⟩)))
     repeat (go_quiet (first | (go_at_call 146; (with_reducible refine (spec_l1In.calls a0_1 0 2 t434 _ A9.out).mono ?_); rintro e w' ⟨rfl, ⟨nd, rfl⟩⟩; (try first | exact ⟨rfl, _, World.drewN_drewN _ _ _⟩ | exact ⟨rfl, _, Eq.trans (World.drewN_drewN _ _ _) (congrArg (World.drewN _) (Nat.add_assoc _ _ _))⟩))); try go_wp2_with (first | (go_at_call 146; (with_reducible refine (spec_l1In.calls a0_1 0 2 t434 _ A9.out).mono ?_); rintro e w' ⟨rfl, ⟨nd, rfl⟩⟩; (try first | exact ⟨rfl, _, World.drewN_drewN _ _ _⟩ | exact ⟨rfl, _, Eq.trans (World.drewN_drewN _ _ _) (congrArg (World.drewN _) (Nat.add_assoc _ _ _))⟩))))
     go_meet
     case rel => exact ⟨_, (!t434), (by first | rfl | (simp [*]; done)), (by first | rfl | (simp; done) | (simp [*]; done)), H', ⟨by first | omega | exact Nat.le_refl _⟩, ⟨by (with_reducible repeat (first | refine blk_drewN ?_ _ | refine blk_drew ?_ | refine blk_alloc ?_ _)); exact BK433.out⟩, ⟨by repeat (first | (with_reducible first | exact HB.out | apply below_alloc | apply pw_below_drewN | apply below_drew1 | refine below_set ?_ GE433.out) | exact HB.out)⟩⟩
    ·rw [if_neg c8] at H
     have c8b0 : (a0_4.toList == ([] : List UInt8)) = false := beq_eq_false_iff_ne.mpr c8
     have c8b1 : (a0_4.toList != ([] : List UInt8)) = true := bne_iff_ne.mpr c8
     have H' := Aside0.mk H
     clear H
     have hcz11_0 : w3.cell? ⟨gb433, 0, none⟩ = some (.int .i64 a0_0) := (blk_cell BK433.out 0).trans rfl
     have hcz11_1 : w3.cell? ⟨gb433, 1, none⟩ = some (.int .i64 a0_1) := (blk_cell BK433.out 1).trans rfl
     have hcz11_2 : w3.cell? ⟨gb433, 2, none⟩ = some (.string a0_2) := (blk_cell BK433.out 2).trans rfl
     have hcz11_3 : w3.cell? ⟨gb433, 3, none⟩ = some (.slice A0_3 l0_3.length c0_3) := (blk_cell BK433.out 3).trans rfl
     have hcz11_4 : w3.cell? ⟨gb433, 4, none⟩ = some (.string a0_4) := (blk_cell BK433.out 4).trans rfl
     have hcz11_5 : w3.cell? ⟨gb433, 5, none⟩ = some (.int .i64 a0_5) := (blk_cell BK433.out 5).trans rfl
     have hcz11_6 : w3.cell? ⟨gb433, 6, none⟩ = some (.slice A0_6 l0_6.length c0_6) := (blk_cell BK433.out 6).trans rfl
     have hfz11_0 := blk_frozen BK433.out 0
     have hfz11_1 := blk_frozen BK433.out 1
     have hfz11_2 := blk_frozen BK433.out 2
     have hfz11_3 := blk_frozen BK433.out 3
     have hfz11_4 := blk_frozen BK433.out 4
     have hfz11_5 := blk_frozen BK433.out 5
     have hfz11_6 := blk_frozen BK433.out 6
     go_wp2
     repeat (go_quiet (fail); try go_wp2)
     go_meet
     case rel => exact ⟨_, (true), (by first | rfl | (simp [*]; done)), (by first | rfl | (simp; done) | (simp [*]; done)), H', ⟨by first | omega | exact Nat.le_refl _⟩, ⟨by (with_reducible repeat (first | refine blk_drewN ?_ _ | refine blk_drew ?_ | refine blk_alloc ?_ _)); exact BK433.out⟩, ⟨by repeat (first | (with_reducible first | exact HB.out | apply below_alloc | apply pw_below_drewN | apply below_drew1 | refine below_set ?_ GE433.out) | exact HB.out)⟩⟩
  ·rw [if_neg c5] at H
   have c5b0 : (a0_0 == 2) = false := beq_eq_false_iff_ne.mpr c5
   have c5b1 : (a0_0 != 2) = true := bne_iff_ne.mpr c5
   (first | rw [c5b0] | (simp only [i64_w, i32_w]; rw [c5b0]) | skip)
   by_cases c12 : a0_2.toList = ([] : List UInt8)
   ·rw [if_pos c12] at H
    have c12b0 : (a0_2.toList == ([] : List UInt8)) = true := beq_iff_eq.mpr c12
    have c12b1 : (a0_2.toList != ([] : List UInt8)) = false := bne_eq_false_iff_eq.mpr c12
    clear c12
    by_cases c13 : (l0_3.length : Int) > 0
    ·rw [if_pos c13] at H
     have c13b0 : decide (0 < (l0_3.length : Int)) = true := decide_eq_true c13
     have c13b1 : decide (0 < l0_3.length) = true := decide_eq_true (by omega)
     clear c13
     have H' := Aside0.mk H
     clear H
     have hcz14_0 : w3.cell? ⟨gb433, 0, none⟩ = some (.int .i64 a0_0) := (blk_cell BK433.out 0).trans rfl
     have hcz14_1 : w3.cell? ⟨gb433, 1, none⟩ = some (.int .i64 a0_1) := (blk_cell BK433.out 1).trans rfl
     have hcz14_2 : w3.cell? ⟨gb433, 2, none⟩ = some (.string a0_2) := (blk_cell BK433.out 2).trans rfl
     have hcz14_3 : w3.cell? ⟨gb433, 3, none⟩ = some (.slice A0_3 l0_3.length c0_3) := (blk_cell BK433.out 3).trans rfl
     have hcz14_4 : w3.cell? ⟨gb433, 4, none⟩ = some (.string a0_4) := (blk_cell BK433.out 4).trans rfl
     have hcz14_5 : w3.cell? ⟨gb433, 5, none⟩ = some (.int .i64 a0_5) := (blk_cell BK433.out 5).trans rfl
     have hcz14_6 : w3.cell? ⟨gb433, 6, none⟩ = some (.slice A0_6 l0_6.length c0_6) := (blk_cell BK433.out 6).trans rfl
     have hfz14_0 := blk_frozen BK433.out 0
     have hfz14_1 := blk_frozen BK433.out 1
     have hfz14_2 := blk_frozen BK433.out 2
     have hfz14_3 := blk_frozen BK433.out 3
     have hfz14_4 := blk_frozen BK433.out 4
     have hfz14_5 := blk_frozen BK433.out 5
     have hfz14_6 := blk_frozen BK433.out 6
     go_wp2
     repeat (go_quiet (fail); try go_wp2)
     go_meet
     case rel => exact ⟨_, (true), (by first | rfl | (simp [*]; done)), (by first | rfl | (simp; done) | (simp [*]; done)), H', ⟨by first | omega | exact Nat.le_refl _⟩, ⟨by (with_reducible repeat (first | refine blk_drewN ?_ _ | refine blk_drew ?_ | refine blk_alloc ?_ _)); exact BK433.out⟩, ⟨by repeat (first | (with_reducible first | exact HB.out | apply below_alloc | apply pw_below_drewN | apply below_drew1 | refine below_set ?_ GE433.out) | exact HB.out)⟩⟩
    ·rw [if_neg c13] at H
     have c13b0 : decide (0 < (l0_3.length : Int)) = false := decide_eq_false c13
     have c13b1 : decide (0 < l0_3.length) = false := decide_eq_false (by omega)
     clear c13
     by_cases c15 : a0_1 = 0
     ·rw [if_pos c15] at H
      have c15b0 : (a0_1 == 0) = true := beq_iff_eq.mpr c15
      have c15b1 : (a0_1 != 0) = false := bne_eq_false_iff_eq.mpr c15
      clear c15
      have H' := Aside0.mk H
      clear H
      have hcz16_0 : w3.cell? ⟨gb433, 0, none⟩ = some (.int .i64 a0_0) := (blk_cell BK433.out 0).trans rfl
      have hcz16_1 : w3.cell? ⟨gb433, 1, none⟩ = some (.int .i64 a0_1) := (blk_cell BK433.out 1).trans rfl
      have hcz16_2 : w3.cell? ⟨gb433, 2, none⟩ = some (.string a0_2) := (blk_cell BK433.out 2).trans rfl
      have hcz16_3 : w3.cell? ⟨gb433, 3, none⟩ = some (.slice A0_3 l0_3.length c0_3) := (blk_cell BK433.out 3).trans rfl
      have hcz16_4 : w3.cell? ⟨gb433, 4, none⟩ = some (.string a0_4) := (blk_cell BK433.out 4).trans rfl
      have hcz16_5 : w3.cell? ⟨gb433, 5, none⟩ = some (.int .i64 a0_5) := (blk_cell BK433.out 5).trans rfl
      have hcz16_6 : w3.cell? ⟨gb433, 6, none⟩ = some (.slice A0_6 l0_6.length c0_6) := (blk_cell BK433.out 6).trans rfl
      have hfz16_0 := blk_frozen BK433.out 0
      have hfz16_1 := blk_frozen BK433.out 1
      have hfz16_2 := blk_frozen BK433.out 2
      have hfz16_3 := blk_frozen BK433.out 3
      have hfz16_4 := blk_frozen BK433.out 4
      have hfz16_5 := blk_frozen BK433.out 5
      have hfz16_6 := blk_frozen BK433.out 6
      go_wp2
      repeat (go_quiet (fail); try go_wp2)
      go_meet
      case rel => exact ⟨_, (false), (by first | rfl | (simp [*]; done)), (by first | rfl | (simp; done) | (simp [*]; done)), H', ⟨by first | omega | exact Nat.le_refl _⟩, ⟨by (with_reducible repeat (first | refine blk_drewN ?_ _ | refine blk_drew ?_ | refine blk_alloc ?_ _)); exact BK433.out⟩, ⟨by repeat (first | (with_reducible first | exact HB.out | apply below_alloc | apply pw_below_drewN | apply below_drew1 | refine below_set ?_ GE433.out) | exact HB.out)⟩⟩
     ·rw [if_neg c15] at H
      have c15b0 : (a0_1 == 0) = false := beq_eq_false_iff_ne.mpr c15
      have c15b1 : (a0_1 != 0) = true := bne_iff_ne.mpr c15
      have H' := Aside0.mk H
      clear H
      have hcz17_0 : w3.cell? ⟨gb433, 0, none⟩ = some (.int .i64 a0_0) := (blk_cell BK433.out 0).trans rfl
      have hcz17_1 : w3.cell? ⟨gb433, 1, none⟩ = some (.int .i64 a0_1) := (blk_cell BK433.out 1).trans rfl
      have hcz17_2 : w3.cell? ⟨gb433, 2, none⟩ = some (.string a0_2) := (blk_cell BK433.out 2).trans rfl
      have hcz17_3 : w3.cell? ⟨gb433, 3, none⟩ = some (.slice A0_3 l0_3.length c0_3) := (blk_cell BK433.out 3).trans rfl
      have hcz17_4 : w3.cell? ⟨gb433, 4, none⟩ = some (.string a0_4) := (blk_cell BK433.out 4).trans rfl
      have hcz17_5 : w3.cell? ⟨gb433, 5, none⟩ = some (.int .i64 a0_5) := (blk_cell BK433.out 5).trans rfl
      have hcz17_6 : w3.cell? ⟨gb433, 6, none⟩ = some (.slice A0_6 l0_6.length c0_6) := (blk_cell BK433.out 6).trans rfl
      have hfz17_0 := blk_frozen BK433.out 0
      have hfz17_1 := blk_frozen BK433.out 1
      have hfz17_2 := blk_frozen BK433.out 2
      have hfz17_3 := blk_frozen BK433.out 3
      have hfz17_4 := blk_frozen BK433.out 4
      have hfz17_5 := blk_frozen BK433.out 5
      have hfz17_6 := blk_frozen BK433.out 6
      go_wp2
      repeat (go_quiet (fail); try go_wp2)
      go_meet
      case rel => exact ⟨_, (true), (by first | rfl | (simp [*]; done)), (by first | rfl | (simp; done) | (simp [*]; done)), H', ⟨by first | omega | exact Nat.le_refl _⟩, ⟨by (with_reducible repeat (first | refine blk_drewN ?_ _ | refine blk_drew ?_ | refine blk_alloc ?_ _)); exact BK433.out⟩, ⟨by repeat (first | (with_reducible first | exact HB.out | apply below_alloc | apply pw_below_drewN | apply below_drew1 | refine below_set ?_ GE433.out) | exact HB.out)⟩⟩
   ·rw [if_neg c12] at H
    have c12b0 : (a0_2.toList == ([] : List UInt8)) = false := beq_eq_false_iff_ne.mpr c12
    have c12b1 : (a0_2.toList != ([] : List UInt8)) = true := bne_iff_ne.mpr c12
    have H' := Aside0.mk H
    clear H
    have hcz18_0 : w3.cell? ⟨gb433, 0, none⟩ = some (.int .i64 a0_0) := (blk_cell BK433.out 0).trans rfl
    have hcz18_1 : w3.cell? ⟨gb433, 1, none⟩ = some (.int .i64 a0_1) := (blk_cell BK433.out 1).trans rfl
    have hcz18_2 : w3.cell? ⟨gb433, 2, none⟩ = some (.string a0_2) := (blk_cell BK433.out 2).trans rfl
    have hcz18_3 : w3.cell? ⟨gb433, 3, none⟩ = some (.slice A0_3 l0_3.length c0_3) := (blk_cell BK433.out 3).trans rfl
    have hcz18_4 : w3.cell? ⟨gb433, 4, none⟩ = some (.string a0_4) := (blk_cell BK433.out 4).trans rfl
    have hcz18_5 : w3.cell? ⟨gb433, 5, none⟩ = some (.int .i64 a0_5) := (blk_cell BK433.out 5).trans rfl
    have hcz18_6 : w3.cell? ⟨gb433, 6, none⟩ = some (.slice A0_6 l0_6.length c0_6) := (blk_cell BK433.out 6).trans rfl
    have hfz18_0 := blk_frozen BK433.out 0
    have hfz18_1 := blk_frozen BK433.out 1
    have hfz18_2 := blk_frozen BK433.out 2
    have hfz18_3 := blk_frozen BK433.out 3
    have hfz18_4 := blk_frozen BK433.out 4
    have hfz18_5 := blk_frozen BK433.out 5
    have hfz18_6 := blk_frozen BK433.out 6
    go_wp2
    repeat (go_quiet (fail); try go_wp2)
    go_meet
    case rel => exact ⟨_, (true), (by first | rfl | (simp [*]; done)), (by first | rfl | (simp; done) | (simp [*]; done)), H', ⟨by first | omega | exact Nat.le_refl _⟩, ⟨by (with_reducible repeat (first | refine blk_drewN ?_ _ | refine blk_drew ?_ | refine blk_alloc ?_ _)); exact BK433.out⟩, ⟨by repeat (first | (with_reducible first | exact HB.out | apply below_alloc | apply pw_below_drewN | apply below_drew1 | refine below_set ?_ GE433.out) | exact HB.out)⟩⟩
 case rest =>
  clear HC2
  try clear c1
  try clear p2
  try clear c5
  try clear c5b0
  try clear c5b1
  try clear c6
  try clear c6b0
  try clear c6b1
  try clear c8
  try clear c8b0
  try clear c8b1
  try clear c12
  try clear c12b0
  try clear c12b1
  try clear c13
  try clear c13b0
  try clear c13b1
  try clear c14
  try clear c15
  try clear c15b0
  try clear c15b1
  try clear hcz10_0
  try clear hcz10_1
  try clear hcz10_2
  try clear hcz10_3
  try clear hcz10_4
  try clear hcz10_5
  try clear hcz10_6
  try clear hcz11_0
  try clear hcz11_1
  try clear hcz11_2
  try clear hcz11_3
  try clear hcz11_4
  try clear hcz11_5
  try clear hcz11_6
  try clear hcz14_0
  try clear hcz14_1
  try clear hcz14_2
  try clear hcz14_3
  try clear hcz14_4
  try clear hcz14_5
  try clear hcz14_6
  try clear hcz16_0
  try clear hcz16_1
  try clear hcz16_2
  try clear hcz16_3
  try clear hcz16_4
  try clear hcz16_5
  try clear hcz16_6
  try clear hcz17_0
  try clear hcz17_1
  try clear hcz17_2
  try clear hcz17_3
  try clear hcz17_4
  try clear hcz17_5
  try clear hcz17_6
  try clear hcz18_0
  try clear hcz18_1
  try clear hcz18_2
  try clear hcz18_3
  try clear hcz18_4
  try clear hcz18_5
  try clear hcz18_6
  try clear hcz4_0
  try clear hcz4_1
  try clear hcz4_2
  try clear hcz4_3
  try clear hcz4_4
  try clear hcz4_5
  try clear hcz4_6
  try clear hcz7_0
  try clear hcz7_1
  try clear hcz7_2
  try clear hcz7_3
  try clear hcz7_4
  try clear hcz7_5
  try clear hcz7_6
  try clear hfz10_0
  try clear hfz10_1
  try clear hfz10_2
  try clear hfz10_3
  try clear hfz10_4
  try clear hfz10_5
  try clear hfz10_6
  try clear hfz11_0
  try clear hfz11_1
  try clear hfz11_2
  try clear hfz11_3
  try clear hfz11_4
  try clear hfz11_5
  try clear hfz11_6
  try clear hfz14_0
  try clear hfz14_1
  try clear hfz14_2
  try clear hfz14_3
  try clear hfz14_4
  try clear hfz14_5
  try clear hfz14_6
  try clear hfz16_0
  try clear hfz16_1
  try clear hfz16_2
  try clear hfz16_3
  try clear hfz16_4
  try clear hfz16_5
  try clear hfz16_6
  try clear hfz17_0
  try clear hfz17_1
  try clear hfz17_2
  try clear hfz17_3
  try clear hfz17_4
  try clear hfz17_5
  try clear hfz17_6
  try clear hfz18_0
  try clear hfz18_1
  try clear hfz18_2
  try clear hfz18_3
  try clear hfz18_4
  try clear hfz18_5
  try clear hfz18_6
  try clear hfz4_0
  try clear hfz4_1
  try clear hfz4_2
  try clear hfz4_3
  try clear hfz4_4
  try clear hfz4_5
  try clear hfz4_6
  try clear hfz7_0
  try clear hfz7_1
  try clear hfz7_2
  try clear hfz7_3
  try clear hfz7_4
  try clear hfz7_5
  try clear hfz7_6
  obtain ⟨kq, x44_1, rfl, rfl, HA, HJ1, BK433, HB⟩ := hcut
  cases kq with
  | zero => exact absurd HA.out (by simp [spec_l6Plain.j0])
  | succ kj1 =>
   have H := HA.out
   clear HA
   simp only [spec_l6Plain.j0] at H
   by_cases c19 : x44_1 = true
   ·subst c19
    have H1 : (some false) = some r := by rw [if_pos rfl] at H; exact H
    clear H
    have H := H1
    clear H1
    obtain rfl := Option.some.inj H
    go_wp2
    repeat (go_quiet (fail); try go_wp2)
    go_ret
    exact ⟨by first | rfl | (simp [errW_none, errW_some] <;> rfl) | (simp [*, errW_none, errW_some] <;> rfl), by repeat (first | (with_reducible first | exact HB.out | apply below_alloc | apply pw_below_drewN | apply below_drew1 | refine below_set ?_ GE433.out) | exact HB.out)⟩
   ·replace c19 := Bool.eq_false_iff.mpr c19
    subst c19
    have H1 : (spec_l6Plain.l0 kj1 (a0_0 == 2) 0 a0_0 a0_1 a0_2 l0_3 a0_4 a0_5 l0_6) = some r := by rw [if_neg (show ¬ (false = true) by decide)] at H; exact H
    clear H
    have H := H1
    clear H1
    have H' := Aside0.mk H
    clear H
    go_wp2
    repeat (go_quiet (fail); try go_wp2)
    go_loopg [4] kj1 (fun kq v4 w' => ∃ (x4_2 : Int), v4 = .int .i64 x4_2 ∧ Aside0 (spec_l6Plain.l0 kq (a0_0 == 2) x4_2 a0_0 a0_1 a0_2 l0_3 a0_4 a0_5 l0_6 = some r) ∧ Aside0 (kq ≤ kj1) ∧ Aside0 (w'.heap[gb433]? = some (.cells #[.int .i64 a0_0, .int .i64 a0_1, .string a0_2, (.slice A0_3 l0_3.length c0_3), .string a0_4, .int .i64 a0_5, (.slice A0_6 l0_6.length c0_6)] 89 (0, 0))) ∧ Aside0 (Below w.heap.size w w'))
    case atStart => exact ⟨(0), (by first | rfl | (simp; done) | (simp [*]; done)), H', ⟨Nat.le_refl _⟩, ⟨by (with_reducible repeat (first | refine blk_drewN ?_ _ | refine blk_drew ?_ | refine blk_alloc ?_ _)); exact BK433.out⟩, ⟨by repeat (first | (with_reducible first | exact HB.out | apply below_alloc | apply pw_below_drewN | apply below_drew1 | refine below_set ?_ GE433.out) | exact HB.out)⟩⟩
    case round =>
     clear H'
     try clear c1
     try clear p2
     try clear c5
     try clear c5b0
     try clear c5b1
     try clear c6
     try clear c6b0
     try clear c6b1
     try clear c8
     try clear c8b0
     try clear c8b1
     try clear c12
     try clear c12b0
     try clear c12b1
     try clear c13
     try clear c13b0
     try clear c13b1
     try clear c14
     try clear c15
     try clear c15b0
     try clear c15b1
     try clear c19
     try clear hcz10_0
     try clear hcz10_1
     try clear hcz10_2
     try clear hcz10_3
     try clear hcz10_4
     try clear hcz10_5
     try clear hcz10_6
     try clear hcz11_0
     try clear hcz11_1
     try clear hcz11_2
     try clear hcz11_3
     try clear hcz11_4
     try clear hcz11_5
     try clear hcz11_6
     try clear hcz14_0
     try clear hcz14_1
     try clear hcz14_2
     try clear hcz14_3
     try clear hcz14_4
     try clear hcz14_5
     try clear hcz14_6
     try clear hcz16_0
     try clear hcz16_1
     try clear hcz16_2
     try clear hcz16_3
     try clear hcz16_4
     try clear hcz16_5
     try clear hcz16_6
     try clear hcz17_0
     try clear hcz17_1
     try clear hcz17_2
     try clear hcz17_3
     try clear hcz17_4
     try clear hcz17_5
     try clear hcz17_6
     try clear hcz18_0
     try clear hcz18_1
     try clear hcz18_2
     try clear hcz18_3
     try clear hcz18_4
     try clear hcz18_5
     try clear hcz18_6
     try clear hcz4_0
     try clear hcz4_1
     try clear hcz4_2
     try clear hcz4_3
     try clear hcz4_4
     try clear hcz4_5
     try clear hcz4_6
     try clear hcz7_0
     try clear hcz7_1
     try clear hcz7_2
     try clear hcz7_3
     try clear hcz7_4
     try clear hcz7_5
     try clear hcz7_6
     try clear hfz10_0
     try clear hfz10_1
     try clear hfz10_2
     try clear hfz10_3
     try clear hfz10_4
     try clear hfz10_5
     try clear hfz10_6
     try clear hfz11_0
     try clear hfz11_1
     try clear hfz11_2
     try clear hfz11_3
     try clear hfz11_4
     try clear hfz11_5
     try clear hfz11_6
     try clear hfz14_0
     try clear hfz14_1
     try clear hfz14_2
     try clear hfz14_3
     try clear hfz14_4
     try clear hfz14_5
     try clear hfz14_6
     try clear hfz16_0
     try clear hfz16_1
     try clear hfz16_2
     try clear hfz16_3
     try clear hfz16_4
     try clear hfz16_5
     try clear hfz16_6
     try clear hfz17_0
     try clear hfz17_1
     try clear hfz17_2
     try clear hfz17_3
     try clear hfz17_4
     try clear hfz17_5
     try clear hfz17_6
     try clear hfz18_0
     try clear hfz18_1
     try clear hfz18_2
     try clear hfz18_3
     try clear hfz18_4
     try clear hfz18_5
     try clear hfz18_6
     try clear hfz4_0
     try clear hfz4_1
     try clear hfz4_2
     try clear hfz4_3
     try clear hfz4_4
     try clear hfz4_5
     try clear hfz4_6
     try clear hfz7_0
     try clear hfz7_1
     try clear hfz7_2
     try clear hfz7_3
     try clear hfz7_4
     try clear hfz7_5
     try clear hfz7_6
     try clear p2
     obtain ⟨x4_2, rfl, HA, HK2, BK433, HB⟩ := hrel
     cases gk with
     | zero => exact absurd HA.out (by simp [spec_l6Plain.l0])
     | succ k2 =>
      have H := HA.out
      clear HA
      simp only [spec_l6Plain.l0] at H
      by_cases c20 : x4_2 < (l0_3.length : Int)
      ·rw [if_pos c20] at H
       have c20b0 : decide (x4_2 < (l0_3.length : Int)) = true := decide_eq_true c20
       clear c20
       by_cases c21 : 0 ≤ x4_2
       ·rw [if_pos c21] at H
        have c21b0 := eq_true c21
        have c21b1 : decide (0 ≤ x4_2) = true := decide_eq_true c21
        clear c21
        by_cases c22 : x4_2 ≤ (l0_3.length : Int)
        ·rw [if_pos c22] at H
         have c22b0 := eq_true c22
         have c22b1 : decide (x4_2 ≤ (l0_3.length : Int)) = true := decide_eq_true c22
         clear c22
         obtain ⟨y435, hy435⟩ : ∃ y_ : List (S53), y_ = (l0_3.take (x4_2 : Int).toNat) := ⟨_, rfl⟩
         replace H : ((spec_l4Has.f k2 y435 ((rd_T53 l0_3 x4_2).f0)).bind fun t440 => (if t440 = true then (some false) else (spec_l6Plain.l0 k2 (a0_0 == 2) (wrap64 (x4_2 + 1)) a0_0 a0_1 a0_2 l0_3 a0_4 a0_5 l0_6))) = some r := by first | (rw [hy435]; with_reducible exact H) | (have H2_ := (Option.bind_some _ _).symm.trans H; rw [hy435]; with_reducible exact H2_) | (have H2_ := (Option.bind_some _ _).symm.trans H; with_reducible exact H2_) | with_reducible exact H | (rw [hy435]; exact H) | exact H
         have Ny435 := Aside0.mk hy435
         clear hy435
         replace H := Option.bind_eq_some_iff.mp H
         obtain ⟨t440, A230, H⟩ := H
         replace H : (if t440 = true then (some false) else (spec_l6Plain.l0 k2 (a0_0 == 2) (wrap64 (x4_2 + 1)) a0_0 a0_1 a0_2 l0_3 a0_4 a0_5 l0_6)) = some r := H
         have A23 := Aside0.mk A230
         clear A230
         by_cases c24 : t440 = true
         ·subst c24
          have H1 : (some false) = some r := by rw [if_pos rfl] at H; exact H
          clear H
          have H := H1
          clear H1
          obtain rfl := Option.some.inj H
          have hcz25_0 : wr.cell? ⟨gb433, 0, none⟩ = some (.int .i64 a0_0) := (blk_cell BK433.out 0).trans rfl
          have hcz25_1 : wr.cell? ⟨gb433, 1, none⟩ = some (.int .i64 a0_1) := (blk_cell BK433.out 1).trans rfl
          have hcz25_2 : wr.cell? ⟨gb433, 2, none⟩ = some (.string a0_2) := (blk_cell BK433.out 2).trans rfl
          have hcz25_3 : wr.cell? ⟨gb433, 3, none⟩ = some (.slice A0_3 l0_3.length c0_3) := (blk_cell BK433.out 3).trans rfl
          have hcz25_4 : wr.cell? ⟨gb433, 4, none⟩ = some (.string a0_4) := (blk_cell BK433.out 4).trans rfl
          have hcz25_5 : wr.cell? ⟨gb433, 5, none⟩ = some (.int .i64 a0_5) := (blk_cell BK433.out 5).trans rfl
          have hcz25_6 : wr.cell? ⟨gb433, 6, none⟩ = some (.slice A0_6 l0_6.length c0_6) := (blk_cell BK433.out 6).trans rfl
          have hfz25_0 := blk_frozen BK433.out 0
          have hfz25_1 := blk_frozen BK433.out 1
          have hfz25_2 := blk_frozen BK433.out 2
          have hfz25_3 := blk_frozen BK433.out 3
          have hfz25_4 := blk_frozen BK433.out 4
          have hfz25_5 := blk_frozen BK433.out 5
          have hfz25_6 := blk_frozen BK433.out 6
          have q26 : (x4_2 : Int) ≤ ((l0_3.length : Int) : Int) := of_decide_eq_true (by first | (with_reducible assumption) | assumption)
          obtain ⟨i026, hi026, _, hsz26, _⟩ := info_parts info53
          have hroom26 : l0_3.length ≤ c0_3 := HC0_3.out
          have hC26 : Kd.C k53 _ A0_3 l0_3.length l0_3 := HR0_3.out
          have hcut26 := cut_to (P := Try.prog) 31 53 .i64 Try.underlying31 hi026 A0_3 l0_3.length c0_3 x4_2 (of_decide_eq_true (by first | (with_reducible assumption) | assumption)) q26 hroom26
          have hr26 := Kd.C_take (m := (x4_2 : Int).toNat) hC26 (by omega)
          have hy26 : y435.length = (x4_2 : Int).toNat := (by rw [Ny435.out, List.length_take]; omega)
          rw [← Ny435.out] at hr26
          rw [← hy26] at hcut26
          have HR438 := Aside0.mk hr26
          have HC438 := Aside0.mk (show y435.length ≤ c0_3 from by omega)
          clear hr26 hC26 hroom26 hi026 hsz26
          have KY26 := Aside0.mk hy26
          clear hy26
          replace q26 := eq_true q26
          have p439 : 0 ≤ (x4_2 : Int) := of_decide_eq_true (by first | (with_reducible assumption) | assumption)
          have q439 : x4_2 < (l0_3.length : Int) := of_decide_eq_true (by first | (with_reducible assumption) | assumption)
          obtain ⟨ad439, e439, hx439_0, hx439_1⟩ := at_T53 HR0_3.out x4_2 p439 q439
          cases e439
          replace hx439_0 := (HB.out.cell (World.block_lt_of_cell? w _ hx439_0)).trans hx439_0
          replace hx439_1 := (HB.out.cell (World.block_lt_of_cell? w _ hx439_1)).trans hx439_1
          replace p439 := eq_true p439
          replace q439 := eq_true q439
          go_wp2_with (first | (go_at_call 64; (with_reducible refine (spec_l4Has.calls k2 _ _ y435 ((rd_T53 l0_3 x4_2).f0) true _ ?side1 ?side2 A23.out).mono ?_); (case side1 => repeat (first | exact (Kd.C_below HR438.out HB.out) | (with_reducible refine Kd.C_alloc ?_ _) | (with_reducible refine Kd.C_drewN ?_ _) | (with_reducible refine Kd.C_drew ?_))); (case side2 => exact HC438.out); rintro e w' ⟨rfl, ⟨nd, rfl⟩⟩; (try first | exact ⟨rfl, _, World.drewN_drewN _ _ _⟩ | exact ⟨rfl, _, Eq.trans (World.drewN_drewN _ _ _) (congrArg (World.drewN _) (Nat.add_assoc _ _ _))⟩)))
          repeat (go_quiet (first | (go_at_call 64; (with_reducible refine (spec_l4Has.calls k2 _ _ y435 ((rd_T53 l0_3 x4_2).f0) true _ ?side1 ?side2 A23.out).mono ?_); (case side1 => repeat (first | exact (Kd.C_below HR438.out HB.out) | (with_reducible refine Kd.C_alloc ?_ _) | (with_reducible refine Kd.C_drewN ?_ _) | (with_reducible refine Kd.C_drew ?_))); (case side2 => exact HC438.out); rintro e w' ⟨rfl, ⟨nd, rfl⟩⟩; (try first | exact ⟨rfl, _, World.drewN_drewN _ _ _⟩ | exact ⟨rfl, _, Eq.trans (World.drewN_drewN _ _ _) (congrArg (World.drewN _) (Nat.add_assoc _ _ _))⟩))); try go_wp2_with (first | (go_at_call 64; (with_reducible refine (spec_l4Has.calls k2 _ _ y435 ((rd_T53 l0_3 x4_2).f0) true _ ?side1 ?side2 A23.out).mono ?_); (case side1 => repeat (first | exact (Kd.C_below HR438.out HB.out) | (with_reducible refine Kd.C_alloc ?_ _) | (with_reducible refine Kd.C_drewN ?_ _) | (with_reducible refine Kd.C_drew ?_))); (case side2 => exact HC438.out); rintro e w' ⟨rfl, ⟨nd, rfl⟩⟩; (try first | exact ⟨rfl, _, World.drewN_drewN _ _ _⟩ | exact ⟨rfl, _, Eq.trans (World.drewN_drewN _ _ _) (congrArg (World.drewN _) (Nat.add_assoc _ _ _))⟩))))
          go_ret
          exact ⟨by first | rfl | (simp [errW_none, errW_some] <;> rfl) | (simp [*, errW_none, errW_some] <;> rfl), by repeat (first | (with_reducible first | exact HB.out | apply below_alloc | apply pw_below_drewN | apply below_drew1 | refine below_set ?_ GE433.out) | exact HB.out)⟩
         ·replace c24 := Bool.eq_false_iff.mpr c24
          subst c24
          have H1 : (spec_l6Plain.l0 k2 (a0_0 == 2) (wrap64 (x4_2 + 1)) a0_0 a0_1 a0_2 l0_3 a0_4 a0_5 l0_6) = some r := by rw [if_neg (show ¬ (false = true) by decide)] at H; exact H
          clear H
          have H := H1
          clear H1
          have H' := Aside0.mk H
          clear H
          have hcz27_0 : wr.cell? ⟨gb433, 0, none⟩ = some (.int .i64 a0_0) := (blk_cell BK433.out 0).trans rfl
          have hcz27_1 : wr.cell? ⟨gb433, 1, none⟩ = some (.int .i64 a0_1) := (blk_cell BK433.out 1).trans rfl
          have hcz27_2 : wr.cell? ⟨gb433, 2, none⟩ = some (.string a0_2) := (blk_cell BK433.out 2).trans rfl
          have hcz27_3 : wr.cell? ⟨gb433, 3, none⟩ = some (.slice A0_3 l0_3.length c0_3) := (blk_cell BK433.out 3).trans rfl
          have hcz27_4 : wr.cell? ⟨gb433, 4, none⟩ = some (.string a0_4) := (blk_cell BK433.out 4).trans rfl
          have hcz27_5 : wr.cell? ⟨gb433, 5, none⟩ = some (.int .i64 a0_5) := (blk_cell BK433.out 5).trans rfl
          have hcz27_6 : wr.cell? ⟨gb433, 6, none⟩ = some (.slice A0_6 l0_6.length c0_6) := (blk_cell BK433.out 6).trans rfl
          have hfz27_0 := blk_frozen BK433.out 0
          have hfz27_1 := blk_frozen BK433.out 1
          have hfz27_2 := blk_frozen BK433.out 2
          have hfz27_3 := blk_frozen BK433.out 3
          have hfz27_4 := blk_frozen BK433.out 4
          have hfz27_5 := blk_frozen BK433.out 5
          have hfz27_6 := blk_frozen BK433.out 6
          have q28 : (x4_2 : Int) ≤ ((l0_3.length : Int) : Int) := of_decide_eq_true (by first | (with_reducible assumption) | assumption)
          obtain ⟨i028, hi028, _, hsz28, _⟩ := info_parts info53
          have hroom28 : l0_3.length ≤ c0_3 := HC0_3.out
          have hC28 : Kd.C k53 _ A0_3 l0_3.length l0_3 := HR0_3.out
          have hcut28 := cut_to (P := Try.prog) 31 53 .i64 Try.underlying31 hi028 A0_3 l0_3.length c0_3 x4_2 (of_decide_eq_true (by first | (with_reducible assumption) | assumption)) q28 hroom28
          have hr28 := Kd.C_take (m := (x4_2 : Int).toNat) hC28 (by omega)
          have hy28 : y435.length = (x4_2 : Int).toNat := (by rw [Ny435.out, List.length_take]; omega)
          rw [← Ny435.out] at hr28
          rw [← hy28] at hcut28
          have HR438 := Aside0.mk hr28
          have HC438 := Aside0.mk (show y435.length ≤ c0_3 from by omega)
          clear hr28 hC28 hroom28 hi028 hsz28
          have KY28 := Aside0.mk hy28
          clear hy28
          replace q28 := eq_true q28
          have p439 : 0 ≤ (x4_2 : Int) := of_decide_eq_true (by first | (with_reducible assumption) | assumption)
          have q439 : x4_2 < (l0_3.length : Int) := of_decide_eq_true (by first | (with_reducible assumption) | assumption)
          obtain ⟨ad439, e439, hx439_0, hx439_1⟩ := at_T53 HR0_3.out x4_2 p439 q439
          cases e439
          replace hx439_0 := (HB.out.cell (World.block_lt_of_cell? w _ hx439_0)).trans hx439_0
          replace hx439_1 := (HB.out.cell (World.block_lt_of_cell? w _ hx439_1)).trans hx439_1
          replace p439 := eq_true p439
          replace q439 := eq_true q439
          go_wp2_with (first | (go_at_call 64; (with_reducible refine (spec_l4Has.calls k2 _ _ y435 ((rd_T53 l0_3 x4_2).f0) false _ ?side1 ?side2 A23.out).mono ?_); (case side1 => repeat (first | exact (Kd.C_below HR438.out HB.out) | (with_reducible refine Kd.C_alloc ?_ _) | (with_reducible refine Kd.C_drewN ?_ _) | (with_reducible refine Kd.C_drew ?_))); (case side2 => exact HC438.out); rintro e w' ⟨rfl, ⟨nd, rfl⟩⟩; (try first | exact ⟨rfl, _, World.drewN_drewN _ _ _⟩ | exact ⟨rfl, _, Eq.trans (World.drewN_drewN _ _ _) (congrArg (World.drewN _) (Nat.add_assoc _ _ _))⟩)))
          repeat (go_quiet (first | (go_at_call 64; (with_reducible refine (spec_l4Has.calls k2 _ _ y435 ((rd_T53 l0_3 x4_2).f0) false _ ?side1 ?side2 A23.out).mono ?_); (case side1 => repeat (first | exact (Kd.C_below HR438.out HB.out) | (with_reducible refine Kd.C_alloc ?_ _) | (with_reducible refine Kd.C_drewN ?_ _) | (with_reducible refine Kd.C_drew ?_))); (case side2 => exact HC438.out); rintro e w' ⟨rfl, ⟨nd, rfl⟩⟩; (try first | exact ⟨rfl, _, World.drewN_drewN _ _ _⟩ | exact ⟨rfl, _, Eq.trans (World.drewN_drewN _ _ _) (congrArg (World.drewN _) (Nat.add_assoc _ _ _))⟩))); try go_wp2_with (first | (go_at_call 64; (with_reducible refine (spec_l4Has.calls k2 _ _ y435 ((rd_T53 l0_3 x4_2).f0) false _ ?side1 ?side2 A23.out).mono ?_); (case side1 => repeat (first | exact (Kd.C_below HR438.out HB.out) | (with_reducible refine Kd.C_alloc ?_ _) | (with_reducible refine Kd.C_drewN ?_ _) | (with_reducible refine Kd.C_drew ?_))); (case side2 => exact HC438.out); rintro e w' ⟨rfl, ⟨nd, rfl⟩⟩; (try first | exact ⟨rfl, _, World.drewN_drewN _ _ _⟩ | exact ⟨rfl, _, Eq.trans (World.drewN_drewN _ _ _) (congrArg (World.drewN _) (Nat.add_assoc _ _ _))⟩))))
          go_roundg k2
          case measure => have := HJ1.out; have := HK2.out; omega
          case rel => exact ⟨(wrap64 (x4_2 + 1)), (by first | rfl | (simp; done) | (simp [*]; done)), H', ⟨by have := HJ1.out; have := HK2.out; omega⟩, ⟨by (with_reducible repeat (first | refine blk_drewN ?_ _ | refine blk_drew ?_ | refine blk_alloc ?_ _)); exact BK433.out⟩, ⟨by repeat (first | (with_reducible first | exact HB.out | apply below_alloc | apply pw_below_drewN | apply below_drew1 | refine below_set ?_ GE433.out) | exact HB.out)⟩⟩
        ·rw [if_neg c22] at H
         exact absurd H (by simp)
       ·rw [if_neg c21] at H
        exact absurd H (by simp)
      ·rw [if_neg c20] at H
       have c20b0 : decide (x4_2 < (l0_3.length : Int)) = false := decide_eq_false c20
       clear c20
       by_cases c29 : a0_0 = 1
       ·rw [if_pos c29] at H
        have c29b0 : (a0_0 == 1) = true := beq_iff_eq.mpr c29
        have c29b1 : (a0_0 != 1) = false := bne_eq_false_iff_eq.mpr c29
        clear c29
        obtain rfl := Option.some.inj H
        have hcz30_0 : wr.cell? ⟨gb433, 0, none⟩ = some (.int .i64 a0_0) := (blk_cell BK433.out 0).trans rfl
        have hcz30_1 : wr.cell? ⟨gb433, 1, none⟩ = some (.int .i64 a0_1) := (blk_cell BK433.out 1).trans rfl
        have hcz30_2 : wr.cell? ⟨gb433, 2, none⟩ = some (.string a0_2) := (blk_cell BK433.out 2).trans rfl
        have hcz30_3 : wr.cell? ⟨gb433, 3, none⟩ = some (.slice A0_3 l0_3.length c0_3) := (blk_cell BK433.out 3).trans rfl
        have hcz30_4 : wr.cell? ⟨gb433, 4, none⟩ = some (.string a0_4) := (blk_cell BK433.out 4).trans rfl
        have hcz30_5 : wr.cell? ⟨gb433, 5, none⟩ = some (.int .i64 a0_5) := (blk_cell BK433.out 5).trans rfl
        have hcz30_6 : wr.cell? ⟨gb433, 6, none⟩ = some (.slice A0_6 l0_6.length c0_6) := (blk_cell BK433.out 6).trans rfl
        have hfz30_0 := blk_frozen BK433.out 0
        have hfz30_1 := blk_frozen BK433.out 1
        have hfz30_2 := blk_frozen BK433.out 2
        have hfz30_3 := blk_frozen BK433.out 3
        have hfz30_4 := blk_frozen BK433.out 4
        have hfz30_5 := blk_frozen BK433.out 5
        have hfz30_6 := blk_frozen BK433.out 6
        go_wp2
        repeat (go_quiet (fail); try go_wp2)
        go_ret
        exact ⟨by first | rfl | (simp [errW_none, errW_some] <;> rfl) | (simp [*, errW_none, errW_some] <;> rfl), by repeat (first | (with_reducible first | exact HB.out | apply below_alloc | apply pw_below_drewN | apply below_drew1 | refine below_set ?_ GE433.out) | exact HB.out)⟩
       ·rw [if_neg c29] at H
        have c29b0 : (a0_0 == 1) = false := beq_eq_false_iff_ne.mpr c29
        have c29b1 : (a0_0 != 1) = true := bne_iff_ne.mpr c29
        by_cases c31 : a0_0 = 3
        ·rw [if_pos c31] at H
         have c31b0 : (a0_0 == 3) = true := beq_iff_eq.mpr c31
         have c31b1 : (a0_0 != 3) = false := bne_eq_false_iff_eq.mpr c31
         clear c31
         obtain rfl := Option.some.inj H
         have hcz32_0 : wr.cell? ⟨gb433, 0, none⟩ = some (.int .i64 a0_0) := (blk_cell BK433.out 0).trans rfl
         have hcz32_1 : wr.cell? ⟨gb433, 1, none⟩ = some (.int .i64 a0_1) := (blk_cell BK433.out 1).trans rfl
         have hcz32_2 : wr.cell? ⟨gb433, 2, none⟩ = some (.string a0_2) := (blk_cell BK433.out 2).trans rfl
         have hcz32_3 : wr.cell? ⟨gb433, 3, none⟩ = some (.slice A0_3 l0_3.length c0_3) := (blk_cell BK433.out 3).trans rfl
         have hcz32_4 : wr.cell? ⟨gb433, 4, none⟩ = some (.string a0_4) := (blk_cell BK433.out 4).trans rfl
         have hcz32_5 : wr.cell? ⟨gb433, 5, none⟩ = some (.int .i64 a0_5) := (blk_cell BK433.out 5).trans rfl
         have hcz32_6 : wr.cell? ⟨gb433, 6, none⟩ = some (.slice A0_6 l0_6.length c0_6) := (blk_cell BK433.out 6).trans rfl
         have hfz32_0 := blk_frozen BK433.out 0
         have hfz32_1 := blk_frozen BK433.out 1
         have hfz32_2 := blk_frozen BK433.out 2
         have hfz32_3 := blk_frozen BK433.out 3
         have hfz32_4 := blk_frozen BK433.out 4
         have hfz32_5 := blk_frozen BK433.out 5
         have hfz32_6 := blk_frozen BK433.out 6
         go_wp2
         repeat (go_quiet (fail); try go_wp2)
         go_ret
         exact ⟨by first | rfl | (simp [errW_none, errW_some] <;> rfl) | (simp [*, errW_none, errW_some] <;> rfl), by repeat (first | (with_reducible first | exact HB.out | apply below_alloc | apply pw_below_drewN | apply below_drew1 | refine below_set ?_ GE433.out) | exact HB.out)⟩
        ·rw [if_neg c31] at H
         have c31b0 : (a0_0 == 3) = false := beq_eq_false_iff_ne.mpr c31
         have c31b1 : (a0_0 != 3) = true := bne_iff_ne.mpr c31
         by_cases c33 : a0_0 = 4
         ·rw [if_pos c33] at H
          have c33b0 : (a0_0 == 4) = true := beq_iff_eq.mpr c33
          have c33b1 : (a0_0 != 4) = false := bne_eq_false_iff_eq.mpr c33
          clear c33
          obtain rfl := Option.some.inj H
          have hcz34_0 : wr.cell? ⟨gb433, 0, none⟩ = some (.int .i64 a0_0) := (blk_cell BK433.out 0).trans rfl
          have hcz34_1 : wr.cell? ⟨gb433, 1, none⟩ = some (.int .i64 a0_1) := (blk_cell BK433.out 1).trans rfl
          have hcz34_2 : wr.cell? ⟨gb433, 2, none⟩ = some (.string a0_2) := (blk_cell BK433.out 2).trans rfl
          have hcz34_3 : wr.cell? ⟨gb433, 3, none⟩ = some (.slice A0_3 l0_3.length c0_3) := (blk_cell BK433.out 3).trans rfl
          have hcz34_4 : wr.cell? ⟨gb433, 4, none⟩ = some (.string a0_4) := (blk_cell BK433.out 4).trans rfl
          have hcz34_5 : wr.cell? ⟨gb433, 5, none⟩ = some (.int .i64 a0_5) := (blk_cell BK433.out 5).trans rfl
          have hcz34_6 : wr.cell? ⟨gb433, 6, none⟩ = some (.slice A0_6 l0_6.length c0_6) := (blk_cell BK433.out 6).trans rfl
          have hfz34_0 := blk_frozen BK433.out 0
          have hfz34_1 := blk_frozen BK433.out 1
          have hfz34_2 := blk_frozen BK433.out 2
          have hfz34_3 := blk_frozen BK433.out 3
          have hfz34_4 := blk_frozen BK433.out 4
          have hfz34_5 := blk_frozen BK433.out 5
          have hfz34_6 := blk_frozen BK433.out 6
          go_wp2
          repeat (go_quiet (fail); try go_wp2)
          go_ret
          exact ⟨by first | rfl | (simp [errW_none, errW_some] <;> rfl) | (simp [*, errW_none, errW_some] <;> rfl), by repeat (first | (with_reducible first | exact HB.out | apply below_alloc | apply pw_below_drewN | apply below_drew1 | refine below_set ?_ GE433.out) | exact HB.out)⟩
         ·rw [if_neg c33] at H
          have c33b0 : (a0_0 == 4) = false := beq_eq_false_iff_ne.mpr c33
          have c33b1 : (a0_0 != 4) = true := bne_iff_ne.mpr c33
          by_cases c35 : a0_0 = 5
          ·rw [if_pos c35] at H
           have c35b0 : (a0_0 == 5) = true := beq_iff_eq.mpr c35
           have c35b1 : (a0_0 != 5) = false := bne_eq_false_iff_eq.mpr c35
           clear c35
           obtain rfl := Option.some.inj H
           have hcz36_0 : wr.cell? ⟨gb433, 0, none⟩ = some (.int .i64 a0_0) := (blk_cell BK433.out 0).trans rfl
           have hcz36_1 : wr.cell? ⟨gb433, 1, none⟩ = some (.int .i64 a0_1) := (blk_cell BK433.out 1).trans rfl
           have hcz36_2 : wr.cell? ⟨gb433, 2, none⟩ = some (.string a0_2) := (blk_cell BK433.out 2).trans rfl
           have hcz36_3 : wr.cell? ⟨gb433, 3, none⟩ = some (.slice A0_3 l0_3.length c0_3) := (blk_cell BK433.out 3).trans rfl
           have hcz36_4 : wr.cell? ⟨gb433, 4, none⟩ = some (.string a0_4) := (blk_cell BK433.out 4).trans rfl
           have hcz36_5 : wr.cell? ⟨gb433, 5, none⟩ = some (.int .i64 a0_5) := (blk_cell BK433.out 5).trans rfl
           have hcz36_6 : wr.cell? ⟨gb433, 6, none⟩ = some (.slice A0_6 l0_6.length c0_6) := (blk_cell BK433.out 6).trans rfl
           have hfz36_0 := blk_frozen BK433.out 0
           have hfz36_1 := blk_frozen BK433.out 1
           have hfz36_2 := blk_frozen BK433.out 2
           have hfz36_3 := blk_frozen BK433.out 3
           have hfz36_4 := blk_frozen BK433.out 4
           have hfz36_5 := blk_frozen BK433.out 5
           have hfz36_6 := blk_frozen BK433.out 6
           go_wp2
           repeat (go_quiet (fail); try go_wp2)
           go_ret
           exact ⟨by first | rfl | (simp [errW_none, errW_some] <;> rfl) | (simp [*, errW_none, errW_some] <;> rfl), by repeat (first | (with_reducible first | exact HB.out | apply below_alloc | apply pw_below_drewN | apply below_drew1 | refine below_set ?_ GE433.out) | exact HB.out)⟩
          ·rw [if_neg c35] at H
           have c35b0 : (a0_0 == 5) = false := beq_eq_false_iff_ne.mpr c35
           have c35b1 : (a0_0 != 5) = true := bne_iff_ne.mpr c35
           obtain rfl := Option.some.inj H
           have hcz37_0 : wr.cell? ⟨gb433, 0, none⟩ = some (.int .i64 a0_0) := (blk_cell BK433.out 0).trans rfl
           have hcz37_1 : wr.cell? ⟨gb433, 1, none⟩ = some (.int .i64 a0_1) := (blk_cell BK433.out 1).trans rfl
           have hcz37_2 : wr.cell? ⟨gb433, 2, none⟩ = some (.string a0_2) := (blk_cell BK433.out 2).trans rfl
           have hcz37_3 : wr.cell? ⟨gb433, 3, none⟩ = some (.slice A0_3 l0_3.length c0_3) := (blk_cell BK433.out 3).trans rfl
           have hcz37_4 : wr.cell? ⟨gb433, 4, none⟩ = some (.string a0_4) := (blk_cell BK433.out 4).trans rfl
           have hcz37_5 : wr.cell? ⟨gb433, 5, none⟩ = some (.int .i64 a0_5) := (blk_cell BK433.out 5).trans rfl
           have hcz37_6 : wr.cell? ⟨gb433, 6, none⟩ = some (.slice A0_6 l0_6.length c0_6) := (blk_cell BK433.out 6).trans rfl
           have hfz37_0 := blk_frozen BK433.out 0
           have hfz37_1 := blk_frozen BK433.out 1
           have hfz37_2 := blk_frozen BK433.out 2
           have hfz37_3 := blk_frozen BK433.out 3
           have hfz37_4 := blk_frozen BK433.out 4
           have hfz37_5 := blk_frozen BK433.out 5
           have hfz37_6 := blk_frozen BK433.out 6
           go_wp2
           repeat (go_quiet (fail); try go_wp2)
           go_ret
           exact ⟨by first | rfl | (simp [errW_none, errW_some] <;> rfl) | (simp [*, errW_none, errW_some] <;> rfl), by repeat (first | (with_reducible first | exact HB.out | apply below_alloc | apply pw_below_drewN | apply below_drew1 | refine below_set ?_ GE433.out) | exact HB.out)⟩
end Go.Proofs.Ytlocaaebgghkbaa.A
namespace Go.Proofs.Ytlocaaebgghkbaa.A
open Go.RowKit Go.Proofs.YtlocaaebgghkbaaW.PrintWords Go.Proofs.YtlocaaebgghkbaaW.PrintLast Go.Proofs.YtlocaaebgghkbaaW.PrintMore
attribute [local go_sem] max2_int min2_int max_two min_two max_three min_three max_four min_four   -- for this text's walks alone
set_option linter.unusedVariables false
set_option linter.unusedSimpArgs false
def spec_l1Bit.f (a0 : Bool) : Option (Int) := if a0 = true then (some 1) else (some 0)
set_option maxHeartbeats 8000000 in
set_option maxRecDepth 100000 in
theorem spec_l1Bit.calls (a0 : Bool) (r : Int) (w : World) (h : spec_l1Bit.f a0 = some r) :
  Calls Try.prog 175 #[.bool a0] w fun e w' => e = .returned (.int .i64 r) ∧ Drawn0 w w' := by
 have H : (if a0 = true then (some 1) else (some 0)) = some r := h
 clear h
 by_cases c2 : a0 = true
 ·subst c2
  have H1 : (some 1) = some r := by rw [if_pos rfl] at H; exact H
  clear H
  have H := H1
  clear H1
  obtain rfl := Option.some.inj H
  go_enter Try.func175, Try.ntmps175
  go_wp2
  go_ret
  exact ⟨by first | rfl | (simp; done) | (simp [*]; done), by repeat (first | exact Drawn0.refl _ | apply Drawn0.step)⟩
 ·replace c2 := Bool.eq_false_iff.mpr c2
  subst c2
  have H1 : (some 0) = some r := by rw [if_neg (show ¬ (false = true) by decide)] at H; exact H
  clear H
  have H := H1
  clear H1
  obtain rfl := Option.some.inj H
  go_enter Try.func175, Try.ntmps175
  go_wp2
  go_ret
  exact ⟨by first | rfl | (simp; done) | (simp [*]; done), by repeat (first | exact Drawn0.refl _ | apply Drawn0.step)⟩
end Go.Proofs.Ytlocaaebgghkbaa.A
namespace Go.Proofs.Ytlocaaebgghkbaa.A
open Go.RowKit Go.Proofs.YtlocaaebgghkbaaW.PrintWords Go.Proofs.YtlocaaebgghkbaaW.PrintLast Go.Proofs.YtlocaaebgghkbaaW.PrintMore
attribute [local go_sem] max2_int min2_int max_two min_two max_three min_three max_four min_four   -- for this text's walks alone
set_option linter.unusedVariables false
set_option linter.unusedSimpArgs false
def spec_l6Count.l0 : Nat → List Int → Int → Int → Int → Option (Int)
 | 0, _, _, _, _ => none
 | k + 1, x0, x1, x5, x6 => if x6 < (x0.length : Int) then (if 0 ≤ x6 then ((spec_l1Bit.f ((rd x0 x6) == x1)).bind fun t442 => (spec_l6Count.l0 k x0 x1 (wrap64 (x5 + t442)) (wrap64 (x6 + 1)))) else (none)) else (some x5)
def spec_l6Count.f (k : Nat) (l0 : List Int) (a1 : Int) : Option (Int) := spec_l6Count.l0 k l0 a1 0 0
theorem spec_l6Count.mono_l : ∀ k, (∀ y0 y1 y2 y3, LeO (spec_l6Count.l0 k y0 y1 y2 y3) (spec_l6Count.l0 (k + 1) y0 y1 y2 y3))
 | 0 => fun _ _ _ _ r h => by simp [spec_l6Count.l0] at h
 | k + 1 => by
  have ih0 := spec_l6Count.mono_l k
  ·intro y0 y1 y2 y3
   unfold spec_l6Count.l0
   repeat' first
   | (with_reducible exact ih0 _ _ _ _)
   | (with_reducible exact LeO.refl _)
   | (with_reducible exact LeO.none _)
   | (with_reducible refine LeO.ite ?_ ?_)
   | (with_reducible refine LeO.bind ?_ (fun _ => ?_))
   | exact ih0 _ _ _ _
   | exact LeO.none _
   | refine LeO.ite ?_ ?_
   | refine LeO.bind ?_ (fun _ => ?_)
theorem spec_l6Count.mono : ∀ a0 a1 k, LeO (spec_l6Count.f k a0 a1) (spec_l6Count.f (k + 1) a0 a1) := by
 intro a0 a1 k
 have ih0 := spec_l6Count.mono_l k
 unfold spec_l6Count.f
 repeat' first
   | (with_reducible exact ih0 _ _ _ _)
   | (with_reducible exact LeO.refl _)
   | (with_reducible exact LeO.none _)
   | (with_reducible refine LeO.ite ?_ ?_)
   | (with_reducible refine LeO.bind ?_ (fun _ => ?_))
   | exact ih0 _ _ _ _
   | exact LeO.none _
   | refine LeO.ite ?_ ?_
   | refine LeO.bind ?_ (fun _ => ?_)
set_option maxHeartbeats 8000000 in
set_option maxRecDepth 100000 in
theorem spec_l6Count.calls (k : Nat) (A0 : Option Addr) (c0 : Nat) (l0 : List Int) (a1 : Int) (r : Int) (w : World) (hr0 : Kd.C (Kd.int .i64) w A0 l0.length l0) (hc0 : l0.length ≤ c0) (h : spec_l6Count.f k l0 a1 = some r) :
  Calls Try.prog 168 #[.slice A0 l0.length c0, .int .i64 a1] w fun e w' => e = .returned (.int .i64 r) ∧ Drawn0 w w' := by
 have HR0 := Aside0.mk hr0
 have HC0 := Aside0.mk hc0
 clear hr0 hc0
 have H : (spec_l6Count.l0 k l0 a1 0 0) = some r := h
 clear h
 have H' := Aside0.mk H
 clear H
 go_enter Try.func168, Try.ntmps168
 go_wp2
 go_loopg [5, 6] k (fun kq v5 v6 w' => ∃ (x5_1 : Int) (x6_1 : Int), v5 = .int .i64 x5_1 ∧ v6 = .int .i64 x6_1 ∧ Aside0 (spec_l6Count.l0 kq l0 a1 x5_1 x6_1 = some r) ∧ Aside0 (kq ≤ k) ∧ Drawn0 w w')
 case atStart => exact ⟨(0), (0), (by first | rfl | (simp; done) | (simp [*]; done)), (by first | rfl | (simp; done) | (simp [*]; done)), H', ⟨Nat.le_refl _⟩, by repeat (first | exact Drawn0.refl _ | apply Drawn0.step)⟩
 case round =>
  clear H'
  try clear c1
  try clear p2
  obtain ⟨x5_1, x6_1, rfl, rfl, HA, HK1, ⟨m1, rfl⟩⟩ := hrel
  cases gk with
  | zero => exact absurd HA.out (by simp [spec_l6Count.l0])
  | succ k1 =>
   have H := HA.out
   clear HA
   simp only [spec_l6Count.l0] at H
   by_cases c3 : x6_1 < (l0.length : Int)
   ·rw [if_pos c3] at H
    have c3b0 : decide (x6_1 < (l0.length : Int)) = true := decide_eq_true c3
    clear c3
    by_cases c4 : 0 ≤ x6_1
    ·rw [if_pos c4] at H
     have c4b0 : decide (0 ≤ x6_1) = true := decide_eq_true c4
     clear c4
     replace H := Option.bind_eq_some_iff.mp H
     obtain ⟨t442, A50, H⟩ := H
     replace H : (spec_l6Count.l0 k1 l0 a1 (wrap64 (x5_1 + t442)) (wrap64 (x6_1 + 1))) = some r := H
     have A5 := Aside0.mk A50
     clear A50
     have H' := Aside0.mk H
     clear H
     have p441 : 0 ≤ (x6_1 : Int) := of_decide_eq_true (by first | (with_reducible assumption) | assumption)
     have q441 : x6_1 < (l0.length : Int) := of_decide_eq_true (by first | (with_reducible assumption) | assumption)
     obtain ⟨ad441, e441, hx441_0⟩ := Kd.at_int HR0.out x6_1 p441 q441
     cases e441
     replace p441 := eq_true p441
     replace q441 := eq_true q441
     go_wp2_with (first | ((with_reducible refine gate_callee (f := 175) rfl ?_); refine goesL_ (some 20) rfl rfl Try.func175 (by kernel_rfl) rfl #[.bool ((rd l0 x6_1) == a1)] rfl (by (try simp only [List.map_toArray, List.map_cons, List.map_nil]); first | done | rfl | (simp only [List.length_drop, List.length_take]; rfl)) ?_; (with_reducible refine (spec_l1Bit.calls ((rd l0 x6_1) == a1) t442 _ A5.out).mono ?_); rintro e w' ⟨rfl, ⟨nd, rfl⟩⟩; refine ⟨_, rfl, ?_⟩))
     go_roundg k1
     case measure => have := HK1.out; omega
     case rel => exact ⟨(wrap64 (x5_1 + t442)), (wrap64 (x6_1 + 1)), (by first | rfl | (simp; done) | (simp [*]; done)), (by first | rfl | (simp; done) | (simp [*]; done)), H', ⟨by have := HK1.out; omega⟩, by repeat (first | exact Drawn0.refl _ | apply Drawn0.step)⟩
    ·rw [if_neg c4] at H
     exact absurd H (by simp)
   ·rw [if_neg c3] at H
    have c3b0 : decide (x6_1 < (l0.length : Int)) = false := decide_eq_false c3
    clear c3
    obtain rfl := Option.some.inj H
    go_wp2
    go_ret
    exact ⟨by first | rfl | (simp; done) | (simp [*]; done), by repeat (first | exact Drawn0.refl _ | apply Drawn0.step)⟩
end Go.Proofs.Ytlocaaebgghkbaa.A
