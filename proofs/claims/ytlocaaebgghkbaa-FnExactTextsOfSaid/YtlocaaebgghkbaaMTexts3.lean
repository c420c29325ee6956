-- joined by wip/tools/shake.py
import Derived.Test.YtlocaaebgghkbaaMTexts0
import Derived.Test.YtlocaaebgghkbaaMTexts2
namespace Go.Proofs.Ytlocaaebgghkbaa.A
open Go.RowKit Go.Proofs.YtlocaaebgghkbaaW.PrintWords Go.Proofs.YtlocaaebgghkbaaW.PrintLast Go.Proofs.YtlocaaebgghkbaaW.PrintMore
attribute [local go_sem] max2_int min2_int max_two min_two max_three min_three max_four min_four   -- for this text's walks alone
set_option linter.unusedVariables false
set_option linter.unusedSimpArgs false
def spec_TextsOf.l0 : Nat → List (S89) → ByteArray → List Int → Int → Option (ByteArray)
 | 0, _, _, _, _ => none
 | k + 1, x0, x3, x4, x5 => if x5 < (x4.length : Int) then (if 0 ≤ x5 then (if 0 ≤ (rd x4 x5) then (if (rd x4 x5) < (x0.length : Int) then (if ((rd_T89 x0 (rd x4 x5)).f0) = 3 then (if ((rd_T89 x0 (rd x4 x5)).f5) > 0 then ((spec_TextOf.f k ((rd_T89 x0 (rd x4 x5)).f4)).bind fun t643 => (if x3.size + t643.size ≤ 9223372036854775807 then (spec_TextsOf.l0 k x0 (x3 ++ t643) x4 (wrap64 (x5 + 1))) else (none))) else (spec_TextsOf.l0 k x0 x3 x4 (wrap64 (x5 + 1)))) else (spec_TextsOf.l0 k x0 x3 x4 (wrap64 (x5 + 1)))) else (none)) else (none)) else (none)) else (some x3)
def spec_TextsOf.f (k : Nat) (l0 : List (S89)) : Option (ByteArray) := (spec_Order.f k l0).bind fun t637 => (spec_TextsOf.l0 k l0 (⟨#[]⟩ : ByteArray) t637 0)
theorem spec_TextsOf.mono_l : ∀ k, (∀ y0 y1 y2 y3, LeO (spec_TextsOf.l0 k y0 y1 y2 y3) (spec_TextsOf.l0 (k + 1) y0 y1 y2 y3))
 | 0 => fun _ _ _ _ r h => by simp [spec_TextsOf.l0] at h
 | k + 1 => by
  have ih0 := spec_TextsOf.mono_l k
  ·intro y0 y1 y2 y3
   unfold spec_TextsOf.l0
   repeat' first
   | (with_reducible exact ih0 _ _ _ _)
   | (with_reducible exact spec_Order.mono _ _)
   | (with_reducible exact spec_TextOf.mono _ _)
   | (with_reducible exact LeO.refl _)
   | (with_reducible exact LeO.none _)
   | (with_reducible refine LeO.ite ?_ ?_)
   | (with_reducible refine LeO.bind ?_ (fun _ => ?_))
   | exact ih0 _ _ _ _
   | exact spec_Order.mono _ _
   | exact spec_TextOf.mono _ _
   | exact LeO.none _
   | refine LeO.ite ?_ ?_
   | refine LeO.bind ?_ (fun _ => ?_)
theorem spec_TextsOf.mono : ∀ a0 k, LeO (spec_TextsOf.f k a0) (spec_TextsOf.f (k + 1) a0) := by
 intro a0 k
 have ih0 := spec_TextsOf.mono_l k
 unfold spec_TextsOf.f
 repeat' first
   | (with_reducible exact ih0 _ _ _ _)
   | (with_reducible exact spec_Order.mono _ _)
   | (with_reducible exact spec_TextOf.mono _ _)
   | (with_reducible exact LeO.refl _)
   | (with_reducible exact LeO.none _)
   | (with_reducible refine LeO.ite ?_ ?_)
   | (with_reducible refine LeO.bind ?_ (fun _ => ?_))
   | exact ih0 _ _ _ _
   | exact spec_Order.mono _ _
   | exact spec_TextOf.mono _ _
   | exact LeO.none _
   | refine LeO.ite ?_ ?_
   | refine LeO.bind ?_ (fun _ => ?_)
set_option maxHeartbeats 8000000 in
set_option maxRecDepth 100000 in
theorem spec_TextsOf.calls (k : Nat) (A0 : Option Addr) (c0 : Nat) (l0 : List (S89)) (r : ByteArray) (w : World) (hr0 : Kd.C k89 w A0 l0.length l0) (hc0 : l0.length ≤ c0) (h : spec_TextsOf.f k l0 = some r) :
  Calls Try.prog 29 #[.slice A0 l0.length c0] w fun e w' => e = .returned (.string r) ∧ Below w.heap.size w w' := by
 have hu89 := Try.underlying89
 have HR0 := Aside0.mk hr0
 have HC0 := Aside0.mk hc0
 clear hr0 hc0
 have HB := Aside0.mk (Below.refl w.heap.size w)
 have H : ((spec_Order.f k l0).bind fun t637 => (spec_TextsOf.l0 k l0 (⟨#[]⟩ : ByteArray) t637 0)) = some r := h
 clear h
 replace H := Option.bind_eq_some_iff.mp H
 obtain ⟨t637, A20, H⟩ := H
 replace H : (spec_TextsOf.l0 k l0 (⟨#[]⟩ : ByteArray) t637 0) = some r := H
 have A2 := Aside0.mk A20
 clear A20
 have H' := Aside0.mk H
 clear H
 go_enter Try.func29, Try.ntmps29
 go_wp2_with (first | ((with_reducible refine gate_callee (f := 71) rfl ?_); refine goesL_ (some 8) rfl rfl Try.func71 (by kernel_rfl) rfl #[.slice A0 l0.length c0] rfl (by (try simp only [List.map_toArray, List.map_cons, List.map_nil]); first | done | rfl | (simp only [List.length_drop, List.length_take]; rfl)) ?_; (with_reducible refine (spec_Order.calls k _ _ l0 t637 _ ?side1 ?side2 A2.out).mono ?_); (case side1 => repeat (first | exact HR0.out | (with_reducible refine Kd.C_alloc ?_ _) | (with_reducible refine Kd.C_drewN ?_ _) | (with_reducible refine Kd.C_drew ?_))); (case side2 => exact HC0.out); rintro e w3 ⟨v638, rfl, ho0, hb⟩; refine ⟨_, rfl, ?_⟩; have n0_ := Aside0.mk (Kd.R_lower ho0 (below_size (by repeat (first | (with_reducible first | exact HB.out | apply below_alloc | apply pw_below_drewN | apply below_drew1) | exact HB.out)))); have n1_ := Aside0.mk (below_step (by repeat (first | (with_reducible first | exact HB.out | apply below_alloc | apply pw_below_drewN | apply below_drew1) | exact HB.out)) hb); clear HB; have HO639 := n0_; have HB := n1_; clear n0_ n1_; (try clear hb); (try clear hb2); (try clear hk); (try clear hi); (try clear ho0)))
 go_loopg [3, 5] k (fun kq v3 v5 w' => ∃ (x3_1 : ByteArray) (x5_1 : Int), v3 = .string x3_1 ∧ v5 = .int .i64 x5_1 ∧ Aside0 (spec_TextsOf.l0 kq l0 x3_1 t637 x5_1 = some r) ∧ Aside0 (kq ≤ k) ∧ Aside0 (Kd.R (Kd.int .i64) 3 w' w.heap.size (fun _ => True) v638 t637) ∧ Aside0 (Below w.heap.size w w'))
 case atStart => exact ⟨((⟨#[]⟩ : ByteArray)), (0), (by first | rfl | (simp; done) | (simp [*]; done)), (by first | rfl | (simp; done) | (simp [*]; done)), H', ⟨Nat.le_refl _⟩, ⟨by (with_reducible repeat (first | apply Kd.R_alloc | apply Kd.R_drewN | apply Kd.R_drew)); exact HO639.out⟩, ⟨by repeat (first | (with_reducible first | exact HB.out | apply below_alloc | apply pw_below_drewN | apply below_drew1) | exact HB.out)⟩⟩
 case round =>
  clear H'
  try clear c2
  try clear p2
  obtain ⟨x3_1, x5_1, rfl, rfl, HA, HK1, HO_4, HB⟩ := hrel
  cases gk with
  | zero => exact absurd HA.out (by simp [spec_TextsOf.l0])
  | succ k1 =>
   have H := HA.out
   clear HA
   simp only [spec_TextsOf.l0] at H
   by_cases c4 : x5_1 < (t637.length : Int)
   ·rw [if_pos c4] at H
    have c4b0 : decide (x5_1 < (t637.length : Int)) = true := decide_eq_true c4
    clear c4
    by_cases c5 : 0 ≤ x5_1
    ·rw [if_pos c5] at H
     have c5b0 : decide (0 ≤ x5_1) = true := decide_eq_true c5
     clear c5
     by_cases c6 : 0 ≤ (rd t637 x5_1)
     ·rw [if_pos c6] at H
      have c6b0 : decide (0 ≤ (rd t637 x5_1)) = true := decide_eq_true c6
      clear c6
      by_cases c7 : (rd t637 x5_1) < (l0.length : Int)
      ·rw [if_pos c7] at H
       have c7b0 : decide ((rd t637 x5_1) < (l0.length : Int)) = true := decide_eq_true c7
       clear c7
       by_cases c8 : ((rd_T89 l0 (rd t637 x5_1)).f0) = 3
       ·rw [if_pos c8] at H
        have c8b0 : (((rd_T89 l0 (rd t637 x5_1)).f0) == 3) = true := beq_iff_eq.mpr c8
        have c8b1 : (((rd_T89 l0 (rd t637 x5_1)).f0) != 3) = false := bne_eq_false_iff_eq.mpr c8
        clear c8
        by_cases c9 : ((rd_T89 l0 (rd t637 x5_1)).f5) > 0
        ·rw [if_pos c9] at H
         have c9b0 : decide (0 < ((rd_T89 l0 (rd t637 x5_1)).f5)) = true := decide_eq_true c9
         clear c9
         replace H := Option.bind_eq_some_iff.mp H
         obtain ⟨t643, A100, H⟩ := H
         replace H : (if x3_1.size + t643.size ≤ 9223372036854775807 then (spec_TextsOf.l0 k1 l0 (x3_1 ++ t643) t637 (wrap64 (x5_1 + 1))) else (none)) = some r := H
         have A10 := Aside0.mk A100
         clear A100
         by_cases c11 : x3_1.size + t643.size ≤ 9223372036854775807
         ·rw [if_pos c11] at H
          have c11b0 := eq_true c11
          have c11b1 : decide (x3_1.size + t643.size ≤ 9223372036854775807) = true := decide_eq_true c11
          try have c11b2 : (9223372036854775807 < x3_1.size + t643.size) = False := eq_false (Nat.not_lt.2 c11)
          have H' := Aside0.mk H
          clear H
          obtain ⟨Ao12, co12, eo12⟩ := Kd.R_slice HO_4.out
          subst eo12
          have p640 : 0 ≤ (x5_1 : Int) := of_decide_eq_true (by first | (with_reducible assumption) | assumption)
          have q640 : x5_1 < (t637.length : Int) := of_decide_eq_true (by first | (with_reducible assumption) | assumption)
          obtain ⟨ad640, e640, hx640_0⟩ := Kd.at_int (Kd.R_reads' HO_4.out).2.2 x5_1 p640 q640
          cases e640
          replace p640 := eq_true p640
          replace q640 := eq_true q640
          have p641 : 0 ≤ ((rd t637 x5_1) : Int) := of_decide_eq_true (by first | (with_reducible assumption) | assumption)
          have q641 : (rd t637 x5_1) < (l0.length : Int) := of_decide_eq_true (by first | (with_reducible assumption) | assumption)
          obtain ⟨ad641, A641_3, c641_3, A641_6, c641_6, e641, hx641_0, hx641_1, hx641_2, hx641_3, hx641_4, hx641_5, hx641_6, hl641_3, hi641_3, hl641_6, hi641_6⟩ := at_T89 HR0.out (rd t637 x5_1) p641 q641
          cases e641
          replace hx641_0 := (HB.out.cell (World.block_lt_of_cell? w _ hx641_0)).trans hx641_0
          replace hx641_1 := (HB.out.cell (World.block_lt_of_cell? w _ hx641_1)).trans hx641_1
          replace hx641_2 := (HB.out.cell (World.block_lt_of_cell? w _ hx641_2)).trans hx641_2
          replace hx641_3 := (HB.out.cell (World.block_lt_of_cell? w _ hx641_3)).trans hx641_3
          replace hx641_4 := (HB.out.cell (World.block_lt_of_cell? w _ hx641_4)).trans hx641_4
          replace hx641_5 := (HB.out.cell (World.block_lt_of_cell? w _ hx641_5)).trans hx641_5
          replace hx641_6 := (HB.out.cell (World.block_lt_of_cell? w _ hx641_6)).trans hx641_6
          have HR641_3 := Aside0.mk hi641_3
          have HC641_3 := Aside0.mk hl641_3
          clear hi641_3 hl641_3
          have HR641_6 := Aside0.mk hi641_6
          have HC641_6 := Aside0.mk hl641_6
          clear hi641_6 hl641_6
          replace p641 := eq_true p641
          replace q641 := eq_true q641
          go_wp2_with (first | ((with_reducible refine gate_dst (N := 6) rfl ?_); refine box_event ?hg (N := 6) ?hd (cs := #[.int .i64 0, .int .i64 0, .string (⟨#[]⟩ : ByteArray), .slice none 0 0, .string (⟨#[]⟩ : ByteArray), .int .i64 0, .slice none 0 0]) (t := 89) ?hr ?_; (case hd => rfl); (case hg => rfl); (case hr => first | (go_simp; done) | (go_simp; rfl)); intro gb642 hg w13 hbox hb; have n0_ := Aside0.mk (Kd.R_below (by (with_reducible repeat (first | apply Kd.R_alloc | apply Kd.R_drewN | apply Kd.R_drew)); exact HO_4.out) hb); have n1_ := Aside0.mk (below_step (by repeat (first | (with_reducible first | exact HB.out | apply below_alloc | apply pw_below_drewN | apply below_drew1) | exact HB.out)) hb); have n2_ := Aside0.mk (hbox); have n3_ := Aside0.mk ((by rw [hg]; exact (below_size (by repeat (first | (with_reducible first | exact HB.out | apply below_alloc | apply pw_below_drewN | apply below_drew1) | exact HB.out))) : w.heap.size ≤ gb642)); have n4_ := Aside0.mk ((by rw [hg]; exact (below_size (by repeat (first | (with_reducible first | exact HB.out | apply below_alloc | apply pw_below_drewN | apply below_drew1) | exact HB.out))) : w.heap.size ≤ gb642)); clear HO_4; clear HB; have HO_4 := n0_; have HB := n1_; have BK642 := n2_; have GW642 := n3_; have GE642 := n4_; clear n0_ n1_ n2_ n3_ n4_; clear hb hbox hg; have hcz14_0 : w13.cell? ⟨gb642, 0, none⟩ = some (.int .i64 0) := (blk_cell BK642.out 0).trans rfl; have hcz14_1 : w13.cell? ⟨gb642, 1, none⟩ = some (.int .i64 0) := (blk_cell BK642.out 1).trans rfl; have hcz14_2 : w13.cell? ⟨gb642, 2, none⟩ = some (.string (⟨#[]⟩ : ByteArray)) := (blk_cell BK642.out 2).trans rfl; have hcz14_3 : w13.cell? ⟨gb642, 3, none⟩ = some (.slice none 0 0) := (blk_cell BK642.out 3).trans rfl; have hcz14_4 : w13.cell? ⟨gb642, 4, none⟩ = some (.string (⟨#[]⟩ : ByteArray)) := (blk_cell BK642.out 4).trans rfl; have hcz14_5 : w13.cell? ⟨gb642, 5, none⟩ = some (.int .i64 0) := (blk_cell BK642.out 5).trans rfl; have hcz14_6 : w13.cell? ⟨gb642, 6, none⟩ = some (.slice none 0 0) := (blk_cell BK642.out 6).trans rfl; have hfz14_0 := blk_frozen BK642.out 0; have hfz14_1 := blk_frozen BK642.out 1; have hfz14_2 := blk_frozen BK642.out 2; have hfz14_3 := blk_frozen BK642.out 3; have hfz14_4 := blk_frozen BK642.out 4; have hfz14_5 := blk_frozen BK642.out 5; have hfz14_6 := blk_frozen BK642.out 6) | ((with_reducible refine gate_callee (f := 84) rfl ?_); refine goesL_ (some 33) rfl rfl Try.func84 (by kernel_rfl) rfl #[.string ((rd_T89 l0 (rd t637 x5_1)).f4)] rfl (by (try simp only [List.map_toArray, List.map_cons, List.map_nil]); first | done | rfl | (simp only [List.length_drop, List.length_take]; rfl)) ?_; (with_reducible refine (spec_TextOf.calls k1 ((rd_T89 l0 (rd t637 x5_1)).f4) t643 _ A10.out).mono ?_); rintro e w15 ⟨rfl, hb⟩; refine ⟨_, rfl, ?_⟩; have n0_ := Aside0.mk (Kd.R_below (by (with_reducible repeat (first | apply Kd.R_alloc | apply Kd.R_drewN | apply Kd.R_drew)); exact (Kd.R_mono (Kd.R_far (p := ⟨gb642, 6, none⟩) (Kd.R_far (p := ⟨gb642, 5, none⟩) (Kd.R_far (p := ⟨gb642, 4, none⟩) (Kd.R_far (p := ⟨gb642, 3, none⟩) (Kd.R_far (p := ⟨gb642, 2, none⟩) (Kd.R_far (p := ⟨gb642, 1, none⟩) (Kd.R_far (p := ⟨gb642, 0, none⟩) (Kd.R_types HO_4.out BK642.out (by decide)) (fun _ hk => hk.2) (.int .i64 ((rd_T89 l0 (rd t637 x5_1)).f0))) (fun _ hk => hk.2) (.int .i64 ((rd_T89 l0 (rd t637 x5_1)).f1))) (fun _ hk => hk.2) (.string ((rd_T89 l0 (rd t637 x5_1)).f2))) (fun _ hk => hk.2) (.slice A641_3 ((rd_T89 l0 (rd t637 x5_1)).f3).length c641_3)) (fun _ hk => hk.2) (.string ((rd_T89 l0 (rd t637 x5_1)).f4))) (fun _ hk => hk.2) (.int .i64 ((rd_T89 l0 (rd t637 x5_1)).f5))) (fun _ hk => hk.2) (.slice A641_6 ((rd_T89 l0 (rd t637 x5_1)).f6).length c641_6)) (fun _ h_ => h_.1))) hb); have n1_ := Aside0.mk (blk_below (g := gb642) (o := .cells #[.int .i64 ((rd_T89 l0 (rd t637 x5_1)).f0), .int .i64 ((rd_T89 l0 (rd t637 x5_1)).f1), .string ((rd_T89 l0 (rd t637 x5_1)).f2), .slice A641_3 ((rd_T89 l0 (rd t637 x5_1)).f3).length c641_3, .string ((rd_T89 l0 (rd t637 x5_1)).f4), .int .i64 ((rd_T89 l0 (rd t637 x5_1)).f5), .slice A641_6 ((rd_T89 l0 (rd t637 x5_1)).f6).length c641_6] 89 (0, 0)) (by (with_reducible repeat (first | refine blk_drewN ?_ _ | refine blk_drew ?_ | refine blk_alloc ?_ _)); refine blk_put (cs := #[.int .i64 ((rd_T89 l0 (rd t637 x5_1)).f0), .int .i64 ((rd_T89 l0 (rd t637 x5_1)).f1), .string ((rd_T89 l0 (rd t637 x5_1)).f2), .slice A641_3 ((rd_T89 l0 (rd t637 x5_1)).f3).length c641_3, .string ((rd_T89 l0 (rd t637 x5_1)).f4), .int .i64 ((rd_T89 l0 (rd t637 x5_1)).f5), .slice none 0 0]) ?_ 6 _ rfl; (with_reducible repeat (first | refine blk_drewN ?_ _ | refine blk_drew ?_ | refine blk_alloc ?_ _)); refine blk_put (cs := #[.int .i64 ((rd_T89 l0 (rd t637 x5_1)).f0), .int .i64 ((rd_T89 l0 (rd t637 x5_1)).f1), .string ((rd_T89 l0 (rd t637 x5_1)).f2), .slice A641_3 ((rd_T89 l0 (rd t637 x5_1)).f3).length c641_3, .string ((rd_T89 l0 (rd t637 x5_1)).f4), .int .i64 0, .slice none 0 0]) ?_ 5 _ rfl; (with_reducible repeat (first | refine blk_drewN ?_ _ | refine blk_drew ?_ | refine blk_alloc ?_ _)); refine blk_put (cs := #[.int .i64 ((rd_T89 l0 (rd t637 x5_1)).f0), .int .i64 ((rd_T89 l0 (rd t637 x5_1)).f1), .string ((rd_T89 l0 (rd t637 x5_1)).f2), .slice A641_3 ((rd_T89 l0 (rd t637 x5_1)).f3).length c641_3, .string (⟨#[]⟩ : ByteArray), .int .i64 0, .slice none 0 0]) ?_ 4 _ rfl; (with_reducible repeat (first | refine blk_drewN ?_ _ | refine blk_drew ?_ | refine blk_alloc ?_ _)); refine blk_put (cs := #[.int .i64 ((rd_T89 l0 (rd t637 x5_1)).f0), .int .i64 ((rd_T89 l0 (rd t637 x5_1)).f1), .string ((rd_T89 l0 (rd t637 x5_1)).f2), .slice none 0 0, .string (⟨#[]⟩ : ByteArray), .int .i64 0, .slice none 0 0]) ?_ 3 _ rfl; (with_reducible repeat (first | refine blk_drewN ?_ _ | refine blk_drew ?_ | refine blk_alloc ?_ _)); refine blk_put (cs := #[.int .i64 ((rd_T89 l0 (rd t637 x5_1)).f0), .int .i64 ((rd_T89 l0 (rd t637 x5_1)).f1), .string (⟨#[]⟩ : ByteArray), .slice none 0 0, .string (⟨#[]⟩ : ByteArray), .int .i64 0, .slice none 0 0]) ?_ 2 _ rfl; (with_reducible repeat (first | refine blk_drewN ?_ _ | refine blk_drew ?_ | refine blk_alloc ?_ _)); refine blk_put (cs := #[.int .i64 ((rd_T89 l0 (rd t637 x5_1)).f0), .int .i64 0, .string (⟨#[]⟩ : ByteArray), .slice none 0 0, .string (⟨#[]⟩ : ByteArray), .int .i64 0, .slice none 0 0]) ?_ 1 _ rfl; (with_reducible repeat (first | refine blk_drewN ?_ _ | refine blk_drew ?_ | refine blk_alloc ?_ _)); refine blk_put (cs := #[.int .i64 0, .int .i64 0, .string (⟨#[]⟩ : ByteArray), .slice none 0 0, .string (⟨#[]⟩ : ByteArray), .int .i64 0, .slice none 0 0]) ?_ 0 _ rfl; (with_reducible repeat (first | refine blk_drewN ?_ _ | refine blk_drew ?_ | refine blk_alloc ?_ _)); exact BK642.out) hb); have n2_ := Aside0.mk (below_step (by repeat (first | (with_reducible first | exact HB.out | apply below_alloc | apply pw_below_drewN | apply below_drew1 | refine below_set ?_ GE642.out) | exact HB.out)) hb); clear HO_4; clear BK642; clear HB; have HO_4 := n0_; have BK642 := n1_; have HB := n2_; clear n0_ n1_ n2_; (try clear hb); (try clear hb2); (try clear hk); (try clear hi)))
          go_roundg k1
          case measure => have := HK1.out; omega
          case rel => exact ⟨(x3_1 ++ t643), (wrap64 (x5_1 + 1)), (by first | rfl | (simp; done) | (simp [*]; done)), (by first | rfl | (simp; done) | (simp [*]; done)), H', ⟨by have := HK1.out; omega⟩, ⟨by (with_reducible repeat (first | apply Kd.R_alloc | apply Kd.R_drewN | apply Kd.R_drew)); exact HO_4.out⟩, ⟨by repeat (first | (with_reducible first | exact HB.out | apply below_alloc | apply pw_below_drewN | apply below_drew1 | refine below_set ?_ GE642.out) | exact HB.out)⟩⟩
         ·rw [if_neg c11] at H
          exact absurd H (by simp)
        ·rw [if_neg c9] at H
         have c9b0 : decide (0 < ((rd_T89 l0 (rd t637 x5_1)).f5)) = false := decide_eq_false c9
         clear c9
         have H' := Aside0.mk H
         clear H
         obtain ⟨Ao16, co16, eo16⟩ := Kd.R_slice HO_4.out
         subst eo16
         have p640 : 0 ≤ (x5_1 : Int) := of_decide_eq_true (by first | (with_reducible assumption) | assumption)
         have q640 : x5_1 < (t637.length : Int) := of_decide_eq_true (by first | (with_reducible assumption) | assumption)
         obtain ⟨ad640, e640, hx640_0⟩ := Kd.at_int (Kd.R_reads' HO_4.out).2.2 x5_1 p640 q640
         cases e640
         replace p640 := eq_true p640
         replace q640 := eq_true q640
         have p641 : 0 ≤ ((rd t637 x5_1) : Int) := of_decide_eq_true (by first | (with_reducible assumption) | assumption)
         have q641 : (rd t637 x5_1) < (l0.length : Int) := of_decide_eq_true (by first | (with_reducible assumption) | assumption)
         obtain ⟨ad641, A641_3, c641_3, A641_6, c641_6, e641, hx641_0, hx641_1, hx641_2, hx641_3, hx641_4, hx641_5, hx641_6, hl641_3, hi641_3, hl641_6, hi641_6⟩ := at_T89 HR0.out (rd t637 x5_1) p641 q641
         cases e641
         replace hx641_0 := (HB.out.cell (World.block_lt_of_cell? w _ hx641_0)).trans hx641_0
         replace hx641_1 := (HB.out.cell (World.block_lt_of_cell? w _ hx641_1)).trans hx641_1
         replace hx641_2 := (HB.out.cell (World.block_lt_of_cell? w _ hx641_2)).trans hx641_2
         replace hx641_3 := (HB.out.cell (World.block_lt_of_cell? w _ hx641_3)).trans hx641_3
         replace hx641_4 := (HB.out.cell (World.block_lt_of_cell? w _ hx641_4)).trans hx641_4
         replace hx641_5 := (HB.out.cell (World.block_lt_of_cell? w _ hx641_5)).trans hx641_5
         replace hx641_6 := (HB.out.cell (World.block_lt_of_cell? w _ hx641_6)).trans hx641_6
         have HR641_3 := Aside0.mk hi641_3
         have HC641_3 := Aside0.mk hl641_3
         clear hi641_3 hl641_3
         have HR641_6 := Aside0.mk hi641_6
         have HC641_6 := Aside0.mk hl641_6
         clear hi641_6 hl641_6
         replace p641 := eq_true p641
         replace q641 := eq_true q641
         go_wp2_with (first | ((with_reducible refine gate_dst (N := 6) rfl ?_); refine box_event ?hg (N := 6) ?hd (cs := #[.int .i64 0, .int .i64 0, .string (⟨#[]⟩ : ByteArray), .slice none 0 0, .string (⟨#[]⟩ : ByteArray), .int .i64 0, .slice none 0 0]) (t := 89) ?hr ?_; (case hd => rfl); (case hg => rfl); (case hr => first | (go_simp; done) | (go_simp; rfl)); intro gb642 hg w17 hbox hb; have n0_ := Aside0.mk (Kd.R_below (by (with_reducible repeat (first | apply Kd.R_alloc | apply Kd.R_drewN | apply Kd.R_drew)); exact HO_4.out) hb); have n1_ := Aside0.mk (below_step (by repeat (first | (with_reducible first | exact HB.out | apply below_alloc | apply pw_below_drewN | apply below_drew1) | exact HB.out)) hb); have n2_ := Aside0.mk (hbox); have n3_ := Aside0.mk ((by rw [hg]; exact (below_size (by repeat (first | (with_reducible first | exact HB.out | apply below_alloc | apply pw_below_drewN | apply below_drew1) | exact HB.out))) : w.heap.size ≤ gb642)); have n4_ := Aside0.mk ((by rw [hg]; exact (below_size (by repeat (first | (with_reducible first | exact HB.out | apply below_alloc | apply pw_below_drewN | apply below_drew1) | exact HB.out))) : w.heap.size ≤ gb642)); clear HO_4; clear HB; have HO_4 := n0_; have HB := n1_; have BK642 := n2_; have GW642 := n3_; have GE642 := n4_; clear n0_ n1_ n2_ n3_ n4_; clear hb hbox hg; have hcz18_0 : w17.cell? ⟨gb642, 0, none⟩ = some (.int .i64 0) := (blk_cell BK642.out 0).trans rfl; have hcz18_1 : w17.cell? ⟨gb642, 1, none⟩ = some (.int .i64 0) := (blk_cell BK642.out 1).trans rfl; have hcz18_2 : w17.cell? ⟨gb642, 2, none⟩ = some (.string (⟨#[]⟩ : ByteArray)) := (blk_cell BK642.out 2).trans rfl; have hcz18_3 : w17.cell? ⟨gb642, 3, none⟩ = some (.slice none 0 0) := (blk_cell BK642.out 3).trans rfl; have hcz18_4 : w17.cell? ⟨gb642, 4, none⟩ = some (.string (⟨#[]⟩ : ByteArray)) := (blk_cell BK642.out 4).trans rfl; have hcz18_5 : w17.cell? ⟨gb642, 5, none⟩ = some (.int .i64 0) := (blk_cell BK642.out 5).trans rfl; have hcz18_6 : w17.cell? ⟨gb642, 6, none⟩ = some (.slice none 0 0) := (blk_cell BK642.out 6).trans rfl; have hfz18_0 := blk_frozen BK642.out 0; have hfz18_1 := blk_frozen BK642.out 1; have hfz18_2 := blk_frozen BK642.out 2; have hfz18_3 := blk_frozen BK642.out 3; have hfz18_4 := blk_frozen BK642.out 4; have hfz18_5 := blk_frozen BK642.out 5; have hfz18_6 := blk_frozen BK642.out 6))
         go_roundg k1
         case measure => have := HK1.out; omega
         case rel => exact ⟨(x3_1), (wrap64 (x5_1 + 1)), (by first | rfl | (simp; done) | (simp [*]; done)), (by first | rfl | (simp; done) | (simp [*]; done)), H', ⟨by have := HK1.out; omega⟩, ⟨by (with_reducible repeat (first | apply Kd.R_alloc | apply Kd.R_drewN | apply Kd.R_drew)); exact Kd.R_mono (Kd.R_far (p := ⟨gb642, 6, none⟩) (Kd.R_far (p := ⟨gb642, 5, none⟩) (Kd.R_far (p := ⟨gb642, 4, none⟩) (Kd.R_far (p := ⟨gb642, 3, none⟩) (Kd.R_far (p := ⟨gb642, 2, none⟩) (Kd.R_far (p := ⟨gb642, 1, none⟩) (Kd.R_far (p := ⟨gb642, 0, none⟩) (Kd.R_types HO_4.out BK642.out (by decide)) (fun _ hk => hk.2) (.int .i64 ((rd_T89 l0 (rd t637 x5_1)).f0))) (fun _ hk => hk.2) (.int .i64 ((rd_T89 l0 (rd t637 x5_1)).f1))) (fun _ hk => hk.2) (.string ((rd_T89 l0 (rd t637 x5_1)).f2))) (fun _ hk => hk.2) (.slice A641_3 ((rd_T89 l0 (rd t637 x5_1)).f3).length c641_3)) (fun _ hk => hk.2) (.string ((rd_T89 l0 (rd t637 x5_1)).f4))) (fun _ hk => hk.2) (.int .i64 ((rd_T89 l0 (rd t637 x5_1)).f5))) (fun _ hk => hk.2) (.slice A641_6 ((rd_T89 l0 (rd t637 x5_1)).f6).length c641_6)) (fun _ hk => trivial)⟩, ⟨by repeat (first | (with_reducible first | exact HB.out | apply below_alloc | apply pw_below_drewN | apply below_drew1 | refine below_set ?_ GE642.out) | exact HB.out)⟩⟩
       ·rw [if_neg c8] at H
        have c8b0 : (((rd_T89 l0 (rd t637 x5_1)).f0) == 3) = false := beq_eq_false_iff_ne.mpr c8
        have c8b1 : (((rd_T89 l0 (rd t637 x5_1)).f0) != 3) = true := bne_iff_ne.mpr c8
        have H' := Aside0.mk H
        clear H
        obtain ⟨Ao19, co19, eo19⟩ := Kd.R_slice HO_4.out
        subst eo19
        have p640 : 0 ≤ (x5_1 : Int) := of_decide_eq_true (by first | (with_reducible assumption) | assumption)
        have q640 : x5_1 < (t637.length : Int) := of_decide_eq_true (by first | (with_reducible assumption) | assumption)
        obtain ⟨ad640, e640, hx640_0⟩ := Kd.at_int (Kd.R_reads' HO_4.out).2.2 x5_1 p640 q640
        cases e640
        replace p640 := eq_true p640
        replace q640 := eq_true q640
        have p641 : 0 ≤ ((rd t637 x5_1) : Int) := of_decide_eq_true (by first | (with_reducible assumption) | assumption)
        have q641 : (rd t637 x5_1) < (l0.length : Int) := of_decide_eq_true (by first | (with_reducible assumption) | assumption)
        obtain ⟨ad641, A641_3, c641_3, A641_6, c641_6, e641, hx641_0, hx641_1, hx641_2, hx641_3, hx641_4, hx641_5, hx641_6, hl641_3, hi641_3, hl641_6, hi641_6⟩ := at_T89 HR0.out (rd t637 x5_1) p641 q641
        cases e641
        replace hx641_0 := (HB.out.cell (World.block_lt_of_cell? w _ hx641_0)).trans hx641_0
        replace hx641_1 := (HB.out.cell (World.block_lt_of_cell? w _ hx641_1)).trans hx641_1
        replace hx641_2 := (HB.out.cell (World.block_lt_of_cell? w _ hx641_2)).trans hx641_2
        replace hx641_3 := (HB.out.cell (World.block_lt_of_cell? w _ hx641_3)).trans hx641_3
        replace hx641_4 := (HB.out.cell (World.block_lt_of_cell? w _ hx641_4)).trans hx641_4
        replace hx641_5 := (HB.out.cell (World.block_lt_of_cell? w _ hx641_5)).trans hx641_5
        replace hx641_6 := (HB.out.cell (World.block_lt_of_cell? w _ hx641_6)).trans hx641_6
        have HR641_3 := Aside0.mk hi641_3
        have HC641_3 := Aside0.mk hl641_3
        clear hi641_3 hl641_3
        have HR641_6 := Aside0.mk hi641_6
        have HC641_6 := Aside0.mk hl641_6
        clear hi641_6 hl641_6
        replace p641 := eq_true p641
        replace q641 := eq_true q641
        go_wp2_with (first | ((with_reducible refine gate_dst (N := 6) rfl ?_); refine box_event ?hg (N := 6) ?hd (cs := #[.int .i64 0, .int .i64 0, .string (⟨#[]⟩ : ByteArray), .slice none 0 0, .string (⟨#[]⟩ : ByteArray), .int .i64 0, .slice none 0 0]) (t := 89) ?hr ?_; (case hd => rfl); (case hg => rfl); (case hr => first | (go_simp; done) | (go_simp; rfl)); intro gb642 hg w20 hbox hb; have n0_ := Aside0.mk (Kd.R_below (by (with_reducible repeat (first | apply Kd.R_alloc | apply Kd.R_drewN | apply Kd.R_drew)); exact HO_4.out) hb); have n1_ := Aside0.mk (below_step (by repeat (first | (with_reducible first | exact HB.out | apply below_alloc | apply pw_below_drewN | apply below_drew1) | exact HB.out)) hb); have n2_ := Aside0.mk (hbox); have n3_ := Aside0.mk ((by rw [hg]; exact (below_size (by repeat (first | (with_reducible first | exact HB.out | apply below_alloc | apply pw_below_drewN | apply below_drew1) | exact HB.out))) : w.heap.size ≤ gb642)); have n4_ := Aside0.mk ((by rw [hg]; exact (below_size (by repeat (first | (with_reducible first | exact HB.out | apply below_alloc | apply pw_below_drewN | apply below_drew1) | exact HB.out))) : w.heap.size ≤ gb642)); clear HO_4; clear HB; have HO_4 := n0_; have HB := n1_; have BK642 := n2_; have GW642 := n3_; have GE642 := n4_; clear n0_ n1_ n2_ n3_ n4_; clear hb hbox hg; have hcz21_0 : w20.cell? ⟨gb642, 0, none⟩ = some (.int .i64 0) := (blk_cell BK642.out 0).trans rfl; have hcz21_1 : w20.cell? ⟨gb642, 1, none⟩ = some (.int .i64 0) := (blk_cell BK642.out 1).trans rfl; have hcz21_2 : w20.cell? ⟨gb642, 2, none⟩ = some (.string (⟨#[]⟩ : ByteArray)) := (blk_cell BK642.out 2).trans rfl; have hcz21_3 : w20.cell? ⟨gb642, 3, none⟩ = some (.slice none 0 0) := (blk_cell BK642.out 3).trans rfl; have hcz21_4 : w20.cell? ⟨gb642, 4, none⟩ = some (.string (⟨#[]⟩ : ByteArray)) := (blk_cell BK642.out 4).trans rfl; have hcz21_5 : w20.cell? ⟨gb642, 5, none⟩ = some (.int .i64 0) := (blk_cell BK642.out 5).trans rfl; have hcz21_6 : w20.cell? ⟨gb642, 6, none⟩ = some (.slice none 0 0) := (blk_cell BK642.out 6).trans rfl; have hfz21_0 := blk_frozen BK642.out 0; have hfz21_1 := blk_frozen BK642.out 1; have hfz21_2 := blk_frozen BK642.out 2; have hfz21_3 := blk_frozen BK642.out 3; have hfz21_4 := blk_frozen BK642.out 4; have hfz21_5 := blk_frozen BK642.out 5; have hfz21_6 := blk_frozen BK642.out 6))
        go_roundg k1
        case measure => have := HK1.out; omega
        case rel => exact ⟨(x3_1), (wrap64 (x5_1 + 1)), (by first | rfl | (simp; done) | (simp [*]; done)), (by first | rfl | (simp; done) | (simp [*]; done)), H', ⟨by have := HK1.out; omega⟩, ⟨by (with_reducible repeat (first | apply Kd.R_alloc | apply Kd.R_drewN | apply Kd.R_drew)); exact Kd.R_mono (Kd.R_far (p := ⟨gb642, 6, none⟩) (Kd.R_far (p := ⟨gb642, 5, none⟩) (Kd.R_far (p := ⟨gb642, 4, none⟩) (Kd.R_far (p := ⟨gb642, 3, none⟩) (Kd.R_far (p := ⟨gb642, 2, none⟩) (Kd.R_far (p := ⟨gb642, 1, none⟩) (Kd.R_far (p := ⟨gb642, 0, none⟩) (Kd.R_types HO_4.out BK642.out (by decide)) (fun _ hk => hk.2) (.int .i64 ((rd_T89 l0 (rd t637 x5_1)).f0))) (fun _ hk => hk.2) (.int .i64 ((rd_T89 l0 (rd t637 x5_1)).f1))) (fun _ hk => hk.2) (.string ((rd_T89 l0 (rd t637 x5_1)).f2))) (fun _ hk => hk.2) (.slice A641_3 ((rd_T89 l0 (rd t637 x5_1)).f3).length c641_3)) (fun _ hk => hk.2) (.string ((rd_T89 l0 (rd t637 x5_1)).f4))) (fun _ hk => hk.2) (.int .i64 ((rd_T89 l0 (rd t637 x5_1)).f5))) (fun _ hk => hk.2) (.slice A641_6 ((rd_T89 l0 (rd t637 x5_1)).f6).length c641_6)) (fun _ hk => trivial)⟩, ⟨by repeat (first | (with_reducible first | exact HB.out | apply below_alloc | apply pw_below_drewN | apply below_drew1 | refine below_set ?_ GE642.out) | exact HB.out)⟩⟩
      ·rw [if_neg c7] at H
       exact absurd H (by simp)
     ·rw [if_neg c6] at H
      exact absurd H (by simp)
    ·rw [if_neg c5] at H
     exact absurd H (by simp)
   ·rw [if_neg c4] at H
    have c4b0 : decide (x5_1 < (t637.length : Int)) = false := decide_eq_false c4
    clear c4
    obtain rfl := Option.some.inj H
    obtain ⟨Ao22, co22, eo22⟩ := Kd.R_slice HO_4.out
    subst eo22
    go_wp2
    go_ret
    exact ⟨by first | rfl | (simp [errW_none, errW_some] <;> rfl) | (simp [*, errW_none, errW_some] <;> rfl), by repeat (first | (with_reducible first | exact HB.out | apply below_alloc | apply pw_below_drewN | apply below_drew1) | exact HB.out)⟩
end Go.Proofs.Ytlocaaebgghkbaa.A
namespace Go.Proofs.Ytlocaaebgghkbaa.A
open Go.RowKit Go.Proofs.YtlocaaebgghkbaaW.PrintWords Go.Proofs.YtlocaaebgghkbaaW.PrintLast Go.Proofs.YtlocaaebgghkbaaW.PrintMore
attribute [local go_sem] max2_int min2_int max_two min_two max_three min_three max_four min_four   -- for this text's walks alone
set_option linter.unusedVariables false
set_option linter.unusedSimpArgs false
mutual
def impl_order.l0 : Nat → List (S89) → List Int → List Int → Option (List Int)
 | 0, _, _, _ => none
 | k + 1, x0, x3, x4 => if (x4.length : Int) > 0 then (if 0 ≤ (wrap64 ((x4.length : Int) - 1)) then (if (wrap64 ((x4.length : Int) - 1)) < (x4.length : Int) then (if (wrap64 ((x4.length : Int) - 1)) ≤ (x4.length : Int) then (if x3.length < 17592186044416 then (if 0 ≤ (rd x4 (wrap64 ((x4.length : Int) - 1))) then (if (rd x4 (wrap64 ((x4.length : Int) - 1))) < (x0.length : Int) then (impl_order.l1 k x0 (x3 ++ [rd x4 (wrap64 ((x4.length : Int) - 1))]) (x4.take ((wrap64 ((x4.length : Int) - 1)) : Int).toNat) (rd x4 (wrap64 ((x4.length : Int) - 1))) (wrap64 ((((rd_T89 x0 (rd x4 (wrap64 ((x4.length : Int) - 1)))).f6).length : Int) - 1))) else (none)) else (none)) else (none)) else (none)) else (none)) else (none)) else (some x3)
def impl_order.l1 : Nat → List (S89) → List Int → List Int → Int → Int → Option (List Int)
 | 0, _, _, _, _, _ => none
 | k + 1, x0, x3, x4, x6, x7 => if x7 ≥ 0 then (if 0 ≤ x6 then (if x6 < (x0.length : Int) then (if 0 ≤ x7 then (if x7 < (((rd_T89 x0 x6).f6).length : Int) then (if x4.length < 17592186044416 then (impl_order.l1 k x0 x3 (x4 ++ [rd ((rd_T89 x0 x6).f6) x7]) x6 (wrap64 (x7 - 1))) else (none)) else (none)) else (none)) else (none)) else (none)) else (impl_order.l0 k x0 x3 x4)
end
def impl_order.f (k : Nat) (l0 : List (S89)) : Option (List Int) := impl_order.l0 k l0 ([] : List Int) (([0] : List Int))
theorem impl_order.mono_l : ∀ k, (∀ y0 y1 y2, LeO (impl_order.l0 k y0 y1 y2) (impl_order.l0 (k + 1) y0 y1 y2)) ∧ (∀ y0 y1 y2 y3 y4, LeO (impl_order.l1 k y0 y1 y2 y3 y4) (impl_order.l1 (k + 1) y0 y1 y2 y3 y4))
 | 0 => ⟨fun _ _ _ r h => by simp [impl_order.l0] at h, fun _ _ _ _ _ r h => by simp [impl_order.l1] at h⟩
 | k + 1 => by
  obtain ⟨ih0, ih1⟩ := impl_order.mono_l k
  refine ⟨?_, ?_⟩
  ·intro y0 y1 y2
   unfold impl_order.l0
   repeat' first
   | (with_reducible exact ih0 _ _ _)
   | (with_reducible exact ih1 _ _ _ _ _)
   | (with_reducible exact LeO.refl _)
   | (with_reducible exact LeO.none _)
   | (with_reducible refine LeO.ite ?_ ?_)
   | (with_reducible refine LeO.bind ?_ (fun _ => ?_))
   | exact ih0 _ _ _
   | exact ih1 _ _ _ _ _
   | exact LeO.none _
   | refine LeO.ite ?_ ?_
   | refine LeO.bind ?_ (fun _ => ?_)
  ·intro y0 y1 y2 y3 y4
   unfold impl_order.l1
   repeat' first
   | (with_reducible exact ih0 _ _ _)
   | (with_reducible exact ih1 _ _ _ _ _)
   | (with_reducible exact LeO.refl _)
   | (with_reducible exact LeO.none _)
   | (with_reducible refine LeO.ite ?_ ?_)
   | (with_reducible refine LeO.bind ?_ (fun _ => ?_))
   | exact ih0 _ _ _
   | exact ih1 _ _ _ _ _
   | exact LeO.none _
   | refine LeO.ite ?_ ?_
   | refine LeO.bind ?_ (fun _ => ?_)
theorem impl_order.mono : ∀ a0 k, LeO (impl_order.f k a0) (impl_order.f (k + 1) a0) := by
 intro a0 k
 obtain ⟨ih0, ih1⟩ := impl_order.mono_l k
 unfold impl_order.f
 repeat' first
   | (with_reducible exact ih0 _ _ _)
   | (with_reducible exact ih1 _ _ _ _ _)
   | (with_reducible exact LeO.refl _)
   | (with_reducible exact LeO.none _)
   | (with_reducible refine LeO.ite ?_ ?_)
   | (with_reducible refine LeO.bind ?_ (fun _ => ?_))
   | exact ih0 _ _ _
   | exact ih1 _ _ _ _ _
   | exact LeO.none _
   | refine LeO.ite ?_ ?_
   | refine LeO.bind ?_ (fun _ => ?_)
set_option maxHeartbeats 8000000 in
set_option maxRecDepth 100000 in
theorem impl_order.calls (k : Nat) (A0 : Option Addr) (c0 : Nat) (l0 : List (S89)) (r : List Int) (w : World) (hr0 : Kd.C k89 w A0 l0.length l0) (hc0 : l0.length ≤ c0) (h : impl_order.f k l0 = some r) :
  Calls Try.prog 78 #[.slice A0 l0.length c0] w fun e w' => ∃ v0_ : Value, e = .returned (v0_) ∧ Kd.R (Kd.int .i64) 3 w' w.heap.size (fun _ => True) v0_ r ∧ Below w.heap.size w w' := by
 have HR0 := Aside0.mk hr0
 have HC0 := Aside0.mk hc0
 clear hr0 hc0
 have HB := Aside0.mk (Below.refl w.heap.size w)
 have H : (impl_order.l0 k l0 ([] : List Int) (([0] : List Int))) = some r := h
 clear h
 obtain ⟨y520, hy520⟩ : ∃ y_ : List Int, y_ = (([0] : List Int)) := ⟨_, rfl⟩
 replace H : (impl_order.l0 k l0 ([] : List Int) y520) = some r := by first | (rw [hy520]; with_reducible exact H) | (have H2_ := (Option.bind_some _ _).symm.trans H; rw [hy520]; with_reducible exact H2_) | (have H2_ := (Option.bind_some _ _).symm.trans H; with_reducible exact H2_) | with_reducible exact H | (rw [hy520]; exact H) | exact H
 have Ny520 := Aside0.mk hy520
 clear hy520
 have H' := Aside0.mk H
 clear H
 go_enter Try.func78, Try.ntmps78
 go_wp2_with (first | ((with_reducible refine gate_dst (N := 8) rfl ?_); refine Kd.R_lit (Kd.int .i64) _ 3 ?hg (N := 8) ?hd (xs := ([0] : List Int)) (inner := [.int .i64 0]) (ok := fun _ => True) (okp := fun _ => True) ?hr ?hp (fun _ hk => hk) trivial (Below.refl _ _) (Nat.le_refl _) (by simp) ?_; (case hd => rfl); (case hg => rfl); (case hr => first | (go_simp; done) | (go_simp; rfl)); (case hp => exact (Reps.one (show Kd.M (Kd.int .i64) _ _ _ 0 [.int .i64 0] from rfl) (Reps.none _ _))); intro v521 w2 ho3 hb hg_ hnew_; clear hg_ hnew_; (first | rw [← Ny520.out] at ho3 | (simp only [Int.reduceToNat] at ho3; rw [← Ny520.out] at ho3)); have n0_ := Aside0.mk (Kd.R_lower ho3 (below_size (by repeat (first | (with_reducible first | exact HB.out | apply below_alloc | apply pw_below_drewN | apply below_drew1) | exact HB.out)))); have n1_ := Aside0.mk (below_step (by repeat (first | (with_reducible first | exact HB.out | apply below_alloc | apply pw_below_drewN | apply below_drew1) | exact HB.out)) hb); clear HB; have HO522 := n0_; have HB := n1_; clear n0_ n1_; clear hb ho3))
 go_loopg [3, 4] k (fun kq v3 v4 w' => ∃ (x3_1 : List Int) (x4_1 : List Int), Aside0 (impl_order.l0 kq l0 x3_1 x4_1 = some r) ∧ Aside0 (kq ≤ k) ∧ Aside0 (Kd.R (Kd.int .i64) 3 w' w.heap.size (fun k_ => some k_ ≠ (v4 : Value).ownBlock) v3 x3_1) ∧ Aside0 (Kd.R (Kd.int .i64) 3 w' w.heap.size (fun k_ => some k_ ≠ (v3 : Value).ownBlock) v4 x4_1) ∧ Aside0 (Below w.heap.size w w'))
 case atStart => exact ⟨(([] : List Int)), (y520), H', ⟨Nat.le_refl _⟩, ⟨by first | exact Kd.R_nil _ _ _ _ _ | exact Kd.N_nil _ _ _ _ _ | exact Kd.V_nil _ _ _ _ _ | exact Kd.Q_nil _ _ _ _ _ | exact Kd.S_nil _ _ _ _ _⟩, ⟨by (with_reducible repeat (first | apply Kd.R_alloc | apply Kd.R_drewN | apply Kd.R_drew)); exact Kd.R_mono HO522.out (fun _ hk => (by simp [Value.ownBlock]))⟩, ⟨by repeat (first | (with_reducible first | exact HB.out | apply below_alloc | apply pw_below_drewN | apply below_drew1) | exact HB.out)⟩⟩
 case round =>
  clear H'
  try clear p2
  obtain ⟨x3_1, x4_1, HA, HK1, HO_3, HO_4, HB⟩ := hrel
  cases gk with
  | zero => exact absurd HA.out (by simp [impl_order.l0])
  | succ k1 =>
   have H := HA.out
   clear HA
   simp only [impl_order.l0] at H
   by_cases c4 : (x4_1.length : Int) > 0
   ·rw [if_pos c4] at H
    have c4b0 : decide (0 < (x4_1.length : Int)) = true := decide_eq_true c4
    have c4b1 : decide (0 < x4_1.length) = true := decide_eq_true (by omega)
    clear c4
    obtain ⟨ji5, hji5⟩ : ∃ j_ : Int, (wrap64 ((x4_1.length : Int) - 1)) = j_ := ⟨_, rfl⟩
    replace H : (if 0 ≤ (ji5) then (if (ji5) < (x4_1.length : Int) then (if (ji5) ≤ (x4_1.length : Int) then (if x3_1.length < 17592186044416 then (if 0 ≤ (rd x4_1 (ji5)) then (if (rd x4_1 (ji5)) < (l0.length : Int) then (impl_order.l1 k1 l0 (x3_1 ++ [rd x4_1 (ji5)]) (x4_1.take ((ji5) : Int).toNat) (rd x4_1 (ji5)) (wrap64 ((((rd_T89 l0 (rd x4_1 (ji5))).f6).length : Int) - 1))) else (none)) else (none)) else (none)) else (none)) else (none)) else (none)) = some r := by first | (rw [hji5] at H; exact H) | (simp only [hji5] at H ⊢; exact H)
    have hji5w : (IntKind.i64.wrap ((x4_1.length : Int) - 1)) = ji5 := (i64_w _).trans hji5
    by_cases c6 : 0 ≤ (ji5)
    ·rw [if_pos c6] at H
     have c6b0 : decide (0 ≤ (ji5)) = true := decide_eq_true c6
     clear c6
     by_cases c7 : (ji5) < (x4_1.length : Int)
     ·rw [if_pos c7] at H
      have c7b0 : decide ((ji5) < (x4_1.length : Int)) = true := decide_eq_true c7
      clear c7
      by_cases c8 : (ji5) ≤ (x4_1.length : Int)
      ·rw [if_pos c8] at H
       have c8b0 := eq_true c8
       have c8b1 : decide ((ji5) ≤ (x4_1.length : Int)) = true := decide_eq_true c8
       clear c8
       obtain ⟨y524, hy524⟩ : ∃ y_ : List Int, y_ = (x4_1.take ((ji5) : Int).toNat) := ⟨_, rfl⟩
       replace H : (if x3_1.length < 17592186044416 then (if 0 ≤ (rd x4_1 (ji5)) then (if (rd x4_1 (ji5)) < (l0.length : Int) then (impl_order.l1 k1 l0 (x3_1 ++ [rd x4_1 (ji5)]) y524 (rd x4_1 (ji5)) (wrap64 ((((rd_T89 l0 (rd x4_1 (ji5))).f6).length : Int) - 1))) else (none)) else (none)) else (none)) = some r := by first | (rw [hy524]; with_reducible exact H) | (have H2_ := (Option.bind_some _ _).symm.trans H; rw [hy524]; with_reducible exact H2_) | (have H2_ := (Option.bind_some _ _).symm.trans H; with_reducible exact H2_) | with_reducible exact H | (rw [hy524]; exact H) | exact H
       have Ny524 := Aside0.mk hy524
       clear hy524
       by_cases c9 : x3_1.length < 17592186044416
       ·rw [if_pos c9] at H
        have LMc9 := Aside0.mk c9
        clear c9
        obtain ⟨y527, hy527⟩ : ∃ y_ : List Int, y_ = (x3_1 ++ [rd x4_1 (ji5)]) := ⟨_, rfl⟩
        replace H : (if 0 ≤ (rd x4_1 (ji5)) then (if (rd x4_1 (ji5)) < (l0.length : Int) then (impl_order.l1 k1 l0 y527 y524 (rd x4_1 (ji5)) (wrap64 ((((rd_T89 l0 (rd x4_1 (ji5))).f6).length : Int) - 1))) else (none)) else (none)) = some r := by first | (rw [hy527]; with_reducible exact H) | (have H2_ := (Option.bind_some _ _).symm.trans H; rw [hy527]; with_reducible exact H2_) | (have H2_ := (Option.bind_some _ _).symm.trans H; with_reducible exact H2_) | with_reducible exact H | (rw [hy527]; exact H) | exact H
        have Ny527 := Aside0.mk hy527
        clear hy527
        by_cases c10 : 0 ≤ (rd x4_1 (ji5))
        ·rw [if_pos c10] at H
         have c10b0 : decide (0 ≤ (rd x4_1 (ji5))) = true := decide_eq_true c10
         clear c10
         by_cases c11 : (rd x4_1 (ji5)) < (l0.length : Int)
         ·rw [if_pos c11] at H
          have c11b0 : decide ((rd x4_1 (ji5)) < (l0.length : Int)) = true := decide_eq_true c11
          clear c11
          have H' := Aside0.mk H
          clear H
          obtain ⟨Ao12, co12, eo12⟩ := Kd.R_slice HO_4.out
          subst eo12
          have p523 : 0 ≤ ((ji5) : Int) := of_decide_eq_true (by first | (with_reducible assumption) | assumption)
          have q523 : (ji5) < (x4_1.length : Int) := of_decide_eq_true (by first | (with_reducible assumption) | assumption)
          obtain ⟨ad523, e523, hx523_0⟩ := Kd.at_int (Kd.R_reads' HO_4.out).2.2 (ji5) p523 q523
          cases e523
          replace p523 := eq_true p523
          replace q523 := eq_true q523
          have q13 : ((ji5) : Int) ≤ ((x4_1.length : Int) : Int) := of_decide_eq_true (by first | (with_reducible assumption) | assumption)
          obtain ⟨i013, hi013, _, hsz13, _⟩ := info_parts info3
          have hcut13 := cut_to (P := Try.prog) 84 3 .i64 Try.underlying84 hi013 (some ad523) x4_1.length co12 (ji5) (of_decide_eq_true (by first | (with_reducible assumption) | assumption)) q13 (Kd.R_reads' HO_4.out).2.1
          have hr13 := Kd.R_take (m := ((ji5) : Int).toNat) HO_4.out (by omega)
          have hy13 : y524.length = ((ji5) : Int).toNat := (by rw [Ny524.out, List.length_take]; omega)
          rw [← Ny524.out] at hr13
          rw [← hy13] at hr13 hcut13
          clear hy13 hi013 hsz13 HO_4
          have HO526 := Aside0.mk hr13
          clear hr13
          replace q13 := eq_true q13
          go_wp2_with (first | ((with_reducible refine gate_builtin (b := .append) (xs := #[.tmp 22, .tmp 24]) rfl ?_); at_builtin; refine Kd.R_append (Kd.int .i64) (w0 := w) w.heap.size rfl (.tmp 22) (.tmp 24) 84 3 (.int .i64 0) 8 rfl Try.underlying84 info3 rfl (by decide) (by omega) u3 x3_1 (rd x4_1 (ji5)) [.int .i64 (rd x4_1 (ji5))] (fun k_ => some k_ ≠ (.slice (some ad523) y524.length co12 : Value).ownBlock) (fun _ => False) rfl rfl ?aP (fun _ hk => hk.elim) ?aF ?aO ?aB ?aS ?aL ?_; (case aP => exact rfl); (case aB => exact (by repeat (first | (with_reducible first | exact HB.out | apply below_alloc | apply pw_below_drewN | apply below_drew1) | exact HB.out))); (case aF => exact (fun k_ hk => Kd.fresh' (Kd.R_lt (by (with_reducible repeat (first | apply Kd.R_alloc | apply Kd.R_drewN | apply Kd.R_drew)); exact HO526.out)) k_ hk)); (case aO => exact (by (with_reducible repeat (first | apply Kd.R_alloc | apply Kd.R_drewN | apply Kd.R_drew)); exact HO_3.out)); (case aS => exact (below_size (by repeat (first | (with_reducible first | exact HB.out | apply below_alloc | apply pw_below_drewN | apply below_drew1) | exact HB.out)))); (case aL => have := LMc9.out; omega); intro v528 w14 ho hb hg hat; rw [← Ny527.out] at ho; have n0_ := Aside0.mk (Kd.R_after (ok := (fun _ => True)) (by (with_reducible repeat (first | apply Kd.R_alloc | apply Kd.R_drewN | apply Kd.R_drew)); exact Kd.R_mono HO526.out (fun _ hk => ⟨trivial, hk⟩)) hg hat); have n1_ := Aside0.mk (hb); have n2_ := Aside0.mk (ho); clear HO526; clear HB; clear HO_3; have HO526 := n0_; have HB := n1_; have HO529 := n2_; clear n0_ n1_ n2_; clear ho hb hg hat; have p530 : 0 ≤ ((rd x4_1 (ji5)) : Int) := of_decide_eq_true (by first | (with_reducible assumption) | assumption); have q530 : (rd x4_1 (ji5)) < (l0.length : Int) := of_decide_eq_true (by first | (with_reducible assumption) | assumption); obtain ⟨ad530, A530_3, c530_3, A530_6, c530_6, e530, hx530_0, hx530_1, hx530_2, hx530_3, hx530_4, hx530_5, hx530_6, hl530_3, hi530_3, hl530_6, hi530_6⟩ := at_T89 HR0.out (rd x4_1 (ji5)) p530 q530; cases e530; replace hx530_0 := (HB.out.cell (World.block_lt_of_cell? w _ hx530_0)).trans hx530_0; replace hx530_1 := (HB.out.cell (World.block_lt_of_cell? w _ hx530_1)).trans hx530_1; replace hx530_2 := (HB.out.cell (World.block_lt_of_cell? w _ hx530_2)).trans hx530_2; replace hx530_3 := (HB.out.cell (World.block_lt_of_cell? w _ hx530_3)).trans hx530_3; replace hx530_4 := (HB.out.cell (World.block_lt_of_cell? w _ hx530_4)).trans hx530_4; replace hx530_5 := (HB.out.cell (World.block_lt_of_cell? w _ hx530_5)).trans hx530_5; replace hx530_6 := (HB.out.cell (World.block_lt_of_cell? w _ hx530_6)).trans hx530_6; have HR530_3 := Aside0.mk hi530_3; have HC530_3 := Aside0.mk hl530_3; clear hi530_3 hl530_3; have HR530_6 := Aside0.mk hi530_6; have HC530_6 := Aside0.mk hl530_6; clear hi530_6 hl530_6; replace p530 := eq_true p530; replace q530 := eq_true q530))
          go_loopg [4, 7] k1 (fun kq v4 v7 w' => ∃ (x4_2 : List Int) (x7_2 : Int), v7 = .int .i64 x7_2 ∧ Aside0 (impl_order.l1 kq l0 y527 x4_2 (rd x4_1 (ji5)) x7_2 = some r) ∧ Aside0 (kq ≤ k1) ∧ Aside0 (Kd.R (Kd.int .i64) 3 w' w.heap.size (fun k_ => some k_ ≠ (v4 : Value).ownBlock) v528 y527) ∧ Aside0 (Kd.R (Kd.int .i64) 3 w' w.heap.size (fun k_ => some k_ ≠ (v528 : Value).ownBlock) v4 x4_2) ∧ Aside0 (Below w.heap.size w w'))
          case atStart => exact ⟨(y524), (wrap64 ((((rd_T89 l0 (rd x4_1 (ji5))).f6).length : Int) - 1)), (by first | rfl | (simp; done) | (simp only [← hji5] <;> (first | rfl | simp)) | (simp [*]; done)), H', ⟨Nat.le_refl _⟩, ⟨by (with_reducible repeat (first | apply Kd.R_alloc | apply Kd.R_drewN | apply Kd.R_drew)); exact HO529.out⟩, ⟨by (with_reducible repeat (first | apply Kd.R_alloc | apply Kd.R_drewN | apply Kd.R_drew)); exact Kd.R_mono HO526.out (fun _ hk => hk.2)⟩, ⟨by repeat (first | (with_reducible first | exact HB.out | apply below_alloc | apply pw_below_drewN | apply below_drew1) | exact HB.out)⟩⟩
          case round =>
           clear H'
           try clear c1
           try clear q1
           try clear p2
           try clear c4
           try clear c4b0
           try clear c4b1
           try clear c5
           try clear p5
           try clear q5
           try clear hx5
           try clear c6
           try clear c6b0
           try clear p6
           try clear c7
           try clear c7b0
           try clear c8
           try clear c8b0
           try clear c8b1
           try clear c9
           try clear c10
           try clear c10b0
           try clear c11
           try clear c11b0
           try clear q13
           try clear hx523_0
           try clear hx530_0
           try clear hx530_1
           try clear hx530_2
           try clear hx530_3
           try clear hx530_4
           try clear hx530_5
           try clear hx530_6
           try clear p2
           try clear p523
           try clear p530
           try clear q13
           try clear q523
           try clear q530
           obtain ⟨x4_2, x7_2, rfl, HA, HK2, HO_3, HO_4, HB⟩ := hrel
           cases gk with
           | zero => exact absurd HA.out (by simp [impl_order.l1])
           | succ k2 =>
            have H := HA.out
            clear HA
            simp only [impl_order.l1] at H
            by_cases c15 : x7_2 ≥ 0
            ·rw [if_pos c15] at H
             have c15b0 : decide (0 ≤ x7_2) = true := decide_eq_true c15
             clear c15
             by_cases c16 : 0 ≤ (rd x4_1 (ji5))
             ·rw [if_pos c16] at H
              have c16b0 : decide (0 ≤ (rd x4_1 (ji5))) = true := decide_eq_true c16
              clear c16
              by_cases c17 : (rd x4_1 (ji5)) < (l0.length : Int)
              ·rw [if_pos c17] at H
               have c17b0 : decide ((rd x4_1 (ji5)) < (l0.length : Int)) = true := decide_eq_true c17
               clear c17
               by_cases c18 : 0 ≤ x7_2
               ·rw [if_pos c18] at H
                have c18b0 : decide (0 ≤ x7_2) = true := decide_eq_true c18
                clear c18
                by_cases c19 : x7_2 < (((rd_T89 l0 (rd x4_1 (ji5))).f6).length : Int)
                ·rw [if_pos c19] at H
                 have c19b0 : decide (x7_2 < (((rd_T89 l0 (rd x4_1 (ji5))).f6).length : Int)) = true := decide_eq_true c19
                 clear c19
                 by_cases c20 : x4_2.length < 17592186044416
                 ·rw [if_pos c20] at H
                  have LMc20 := Aside0.mk c20
                  clear c20
                  obtain ⟨y533, hy533⟩ : ∃ y_ : List Int, y_ = (x4_2 ++ [rd ((rd_T89 l0 (rd x4_1 (ji5))).f6) x7_2]) := ⟨_, rfl⟩
                  replace H : (impl_order.l1 k2 l0 y527 y533 (rd x4_1 (ji5)) (wrap64 (x7_2 - 1))) = some r := by first | (rw [hy533]; with_reducible exact H) | (have H2_ := (Option.bind_some _ _).symm.trans H; rw [hy533]; with_reducible exact H2_) | (have H2_ := (Option.bind_some _ _).symm.trans H; with_reducible exact H2_) | with_reducible exact H | (rw [hy533]; exact H) | exact H
                  have Ny533 := Aside0.mk hy533
                  clear hy533
                  have H' := Aside0.mk H
                  clear H
                  have p531 : 0 ≤ ((rd x4_1 (ji5)) : Int) := of_decide_eq_true (by first | (with_reducible assumption) | assumption)
                  have q531 : (rd x4_1 (ji5)) < (l0.length : Int) := of_decide_eq_true (by first | (with_reducible assumption) | assumption)
                  obtain ⟨ad531, A531_3, c531_3, A531_6, c531_6, e531, hx531_0, hx531_1, hx531_2, hx531_3, hx531_4, hx531_5, hx531_6, hl531_3, hi531_3, hl531_6, hi531_6⟩ := at_T89 HR0.out (rd x4_1 (ji5)) p531 q531
                  obtain rfl : ad530 = ad531 := (by injection e531)
                  replace hx531_0 := (HB.out.cell (World.block_lt_of_cell? w _ hx531_0)).trans hx531_0
                  replace hx531_1 := (HB.out.cell (World.block_lt_of_cell? w _ hx531_1)).trans hx531_1
                  replace hx531_2 := (HB.out.cell (World.block_lt_of_cell? w _ hx531_2)).trans hx531_2
                  replace hx531_3 := (HB.out.cell (World.block_lt_of_cell? w _ hx531_3)).trans hx531_3
                  replace hx531_4 := (HB.out.cell (World.block_lt_of_cell? w _ hx531_4)).trans hx531_4
                  replace hx531_5 := (HB.out.cell (World.block_lt_of_cell? w _ hx531_5)).trans hx531_5
                  replace hx531_6 := (HB.out.cell (World.block_lt_of_cell? w _ hx531_6)).trans hx531_6
                  have HR531_3 := Aside0.mk hi531_3
                  have HC531_3 := Aside0.mk hl531_3
                  clear hi531_3 hl531_3
                  have HR531_6 := Aside0.mk hi531_6
                  have HC531_6 := Aside0.mk hl531_6
                  clear hi531_6 hl531_6
                  replace p531 := eq_true p531
                  replace q531 := eq_true q531
                  have p532 : 0 ≤ (x7_2 : Int) := of_decide_eq_true (by first | (with_reducible assumption) | assumption)
                  have q532 : x7_2 < (((rd_T89 l0 (rd x4_1 (ji5))).f6).length : Int) := of_decide_eq_true (by first | (with_reducible assumption) | assumption)
                  obtain ⟨ad532, e532, hx532_0⟩ := Kd.at_int HR531_6.out x7_2 p532 q532
                  cases e532
                  replace hx532_0 := (HB.out.cell (World.block_lt_of_cell? w _ hx532_0)).trans hx532_0
                  replace p532 := eq_true p532
                  replace q532 := eq_true q532
                  go_wp2_with (first | ((with_reducible refine gate_builtin (b := .append) (xs := #[.tmp 37, .tmp 46]) rfl ?_); at_builtin; refine Kd.R_append (Kd.int .i64) (w0 := w) w.heap.size rfl (.tmp 37) (.tmp 46) 84 3 (.int .i64 0) 8 rfl Try.underlying84 info3 rfl (by decide) (by omega) u4 x4_2 (rd ((rd_T89 l0 (rd x4_1 (ji5))).f6) x7_2) [.int .i64 (rd ((rd_T89 l0 (rd x4_1 (ji5))).f6) x7_2)] (fun k_ => some k_ ≠ (v528 : Value).ownBlock) (fun _ => False) rfl rfl ?aP (fun _ hk => hk.elim) ?aF ?aO ?aB ?aS ?aL ?_; (case aP => exact rfl); (case aB => exact (by repeat (first | (with_reducible first | exact HB.out | apply below_alloc | apply pw_below_drewN | apply below_drew1) | exact HB.out))); (case aF => exact (fun k_ hk => Kd.fresh' (Kd.R_lt (by (with_reducible repeat (first | apply Kd.R_alloc | apply Kd.R_drewN | apply Kd.R_drew)); exact HO_3.out)) k_ hk)); (case aO => exact (by (with_reducible repeat (first | apply Kd.R_alloc | apply Kd.R_drewN | apply Kd.R_drew)); exact HO_4.out)); (case aS => exact (below_size (by repeat (first | (with_reducible first | exact HB.out | apply below_alloc | apply pw_below_drewN | apply below_drew1) | exact HB.out)))); (case aL => have := LMc20.out; omega); intro v534 w21 ho hb hg hat; rw [← Ny533.out] at ho; have n0_ := Aside0.mk (Kd.R_after (ok := (fun _ => True)) (by (with_reducible repeat (first | apply Kd.R_alloc | apply Kd.R_drewN | apply Kd.R_drew)); exact Kd.R_mono HO_3.out (fun _ hk => ⟨trivial, hk⟩)) hg hat); have n1_ := Aside0.mk (hb); have n2_ := Aside0.mk (ho); clear HO_3; clear HB; clear HO_4; have HO_3 := n0_; have HB := n1_; have HO535 := n2_; clear n0_ n1_ n2_; clear ho hb hg hat))
                  go_roundg k2
                  case measure => have := HK1.out; have := HK2.out; omega
                  case rel => exact ⟨(y533), (wrap64 (x7_2 - 1)), (by first | rfl | (simp; done) | (simp [*]; done)), H', ⟨by have := HK1.out; have := HK2.out; omega⟩, ⟨by (with_reducible repeat (first | apply Kd.R_alloc | apply Kd.R_drewN | apply Kd.R_drew)); exact Kd.R_mono HO_3.out (fun _ hk => hk.2)⟩, ⟨by (with_reducible repeat (first | apply Kd.R_alloc | apply Kd.R_drewN | apply Kd.R_drew)); exact HO535.out⟩, ⟨by repeat (first | (with_reducible first | exact HB.out | apply below_alloc | apply pw_below_drewN | apply below_drew1) | exact HB.out)⟩⟩
                 ·rw [if_neg c20] at H
                  exact absurd H (by simp)
                ·rw [if_neg c19] at H
                 exact absurd H (by simp)
               ·rw [if_neg c18] at H
                exact absurd H (by simp)
              ·rw [if_neg c17] at H
               exact absurd H (by simp)
             ·rw [if_neg c16] at H
              exact absurd H (by simp)
            ·rw [if_neg c15] at H
             have c15b0 : decide (0 ≤ x7_2) = false := decide_eq_false c15
             clear c15
             have H' := Aside0.mk H
             clear H
             go_wp2
             go_roundg k2
             case measure => have := HK1.out; have := HK2.out; omega
             case rel => exact ⟨(y527), (x4_2), H', ⟨by have := HK1.out; have := HK2.out; omega⟩, ⟨by (with_reducible repeat (first | apply Kd.R_alloc | apply Kd.R_drewN | apply Kd.R_drew)); exact HO_3.out⟩, ⟨by (with_reducible repeat (first | apply Kd.R_alloc | apply Kd.R_drewN | apply Kd.R_drew)); exact HO_4.out⟩, ⟨by repeat (first | (with_reducible first | exact HB.out | apply below_alloc | apply pw_below_drewN | apply below_drew1) | exact HB.out)⟩⟩
         ·rw [if_neg c11] at H
          exact absurd H (by simp)
        ·rw [if_neg c10] at H
         exact absurd H (by simp)
       ·rw [if_neg c9] at H
        exact absurd H (by simp)
      ·rw [if_neg c8] at H
       exact absurd H (by simp)
     ·rw [if_neg c7] at H
      exact absurd H (by simp)
    ·rw [if_neg c6] at H
     exact absurd H (by simp)
   ·rw [if_neg c4] at H
    have c4b0 : decide (0 < (x4_1.length : Int)) = false := decide_eq_false c4
    have c4b1 : decide (0 < x4_1.length) = false := decide_eq_false (by omega)
    clear c4
    obtain rfl := Option.some.inj H
    obtain ⟨Ao22, co22, eo22⟩ := Kd.R_slice HO_4.out
    subst eo22
    go_wp2
    go_ret
    exact ⟨_, by first | rfl | (simp [errW_none, errW_some] <;> rfl) | (simp [*, errW_none, errW_some] <;> rfl), by (with_reducible repeat (first | apply Kd.R_alloc | apply Kd.R_drewN | apply Kd.R_drew)); exact Kd.R_mono HO_3.out (fun _ hk => trivial), by repeat (first | (with_reducible first | exact HB.out | apply below_alloc | apply pw_below_drewN | apply below_drew1) | exact HB.out)⟩
end Go.Proofs.Ytlocaaebgghkbaa.A
namespace Go.Proofs.Ytlocaaebgghkbaa.A
open Go.RowKit Go.Proofs.YtlocaaebgghkbaaW.PrintWords Go.Proofs.YtlocaaebgghkbaaW.PrintLast Go.Proofs.YtlocaaebgghkbaaW.PrintMore
attribute [local go_sem] max2_int min2_int max_two min_two max_three min_three max_four min_four   -- for this text's walks alone
set_option linter.unusedVariables false
set_option linter.unusedSimpArgs false
def impl_pageOk.f (a0_0 : Int) (a0_1 : Int) (a0_2 : ByteArray) (l0_3 : List (S53)) (a0_4 : ByteArray) (a0_5 : Int) (l0_6 : List Int) : Option (Bool) := if a0_0 = 1 then (if a0_5 = (-1) then (if a0_2.toList = ([] : List UInt8) then (if (l0_3.length : Int) = 0 then (if a0_1 = 0 then (some (a0_4.toList == ([] : List UInt8))) else (some false)) else (some false)) else (some false)) else (some false)) else (some false)
set_option maxHeartbeats 8000000 in
set_option maxRecDepth 100000 in
theorem impl_pageOk.calls (a0_0 : Int) (a0_1 : Int) (a0_2 : ByteArray) (A0_3 : Option Addr) (c0_3 : Nat) (l0_3 : List (S53)) (a0_4 : ByteArray) (a0_5 : Int) (A0_6 : Option Addr) (c0_6 : Nat) (l0_6 : List Int) (r : Bool) (w : World) (hr0_3 : Kd.C k53 w A0_3 l0_3.length l0_3) (hc0_3 : l0_3.length ≤ c0_3) (hr0_6 : Kd.C (Kd.int .i64) w A0_6 l0_6.length l0_6) (hc0_6 : l0_6.length ≤ c0_6) (h : impl_pageOk.f a0_0 a0_1 a0_2 l0_3 a0_4 a0_5 l0_6 = some r) :
  Calls Try.prog 109 #[.agg #[.int .i64 a0_0, .int .i64 a0_1, .string a0_2, .slice A0_3 l0_3.length c0_3, .string a0_4, .int .i64 a0_5, .slice A0_6 l0_6.length c0_6]] w fun e w' => e = .returned (.bool r) ∧ Below w.heap.size w w' := by
 have hu89 := Try.underlying89
 have HR0_3 := Aside0.mk hr0_3
 have HC0_3 := Aside0.mk hc0_3
 clear hr0_3 hc0_3
 have HR0_6 := Aside0.mk hr0_6
 have HC0_6 := Aside0.mk hc0_6
 clear hr0_6 hc0_6
 have HB := Aside0.mk (Below.refl w.heap.size w)
 have H : (if a0_0 = 1 then (if a0_5 = (-1) then (if a0_2.toList = ([] : List UInt8) then (if (l0_3.length : Int) = 0 then (if a0_1 = 0 then (some (a0_4.toList == ([] : List UInt8))) else (some false)) else (some false)) else (some false)) else (some false)) else (some false)) = some r := h
 clear h
 by_cases c2 : a0_0 = 1
 ·rw [if_pos c2] at H
  have c2b0 : (a0_0 == 1) = true := beq_iff_eq.mpr c2
  have c2b1 : (a0_0 != 1) = false := bne_eq_false_iff_eq.mpr c2
  clear c2
  by_cases c3 : a0_5 = (-1)
  ·rw [if_pos c3] at H
   have c3b0 : (a0_5 == (-1)) = true := beq_iff_eq.mpr c3
   have c3b1 : (a0_5 != (-1)) = false := bne_eq_false_iff_eq.mpr c3
   clear c3
   by_cases c4 : a0_2.toList = ([] : List UInt8)
   ·rw [if_pos c4] at H
    have c4b0 : (a0_2.toList == ([] : List UInt8)) = true := beq_iff_eq.mpr c4
    have c4b1 : (a0_2.toList != ([] : List UInt8)) = false := bne_eq_false_iff_eq.mpr c4
    clear c4
    by_cases c5 : (l0_3.length : Int) = 0
    ·rw [if_pos c5] at H
     have c5b0 : ((l0_3.length : Int) == 0) = true := beq_iff_eq.mpr c5
     have c5b1 : ((l0_3.length : Int) != 0) = false := bne_eq_false_iff_eq.mpr c5
     clear c5
     by_cases c6 : a0_1 = 0
     ·rw [if_pos c6] at H
      have c6b0 : (a0_1 == 0) = true := beq_iff_eq.mpr c6
      have c6b1 : (a0_1 != 0) = false := bne_eq_false_iff_eq.mpr c6
      clear c6
      obtain rfl := Option.some.inj H
      go_enter Try.func109, Try.ntmps109
      go_wp2_with (first | ((with_reducible refine gate_dst (N := 1) rfl ?_); (try (refine gate_guard (by rfl) ?_; dsimp only)); refine box_event ?hg (N := 1) ?hd (cs := #[.int .i64 a0_0, .int .i64 a0_1, .string a0_2, .slice A0_3 l0_3.length c0_3, .string a0_4, .int .i64 a0_5, .slice A0_6 l0_6.length c0_6]) (t := 89) ?hr ?_; (case hd => rfl); (case hg => rfl); (case hr => first | (go_simp; done) | (go_simp; rfl)); intro gb536 hg w7 hbox hb; have n0_ := Aside0.mk (below_step (by repeat (first | (with_reducible first | exact HB.out | apply below_alloc | apply pw_below_drewN | apply below_drew1) | exact HB.out)) hb); have n1_ := Aside0.mk (hbox); have n2_ := Aside0.mk ((by rw [hg]; exact (below_size (by repeat (first | (with_reducible first | exact HB.out | apply below_alloc | apply pw_below_drewN | apply below_drew1) | exact HB.out))) : w.heap.size ≤ gb536)); have n3_ := Aside0.mk ((by rw [hg]; exact (below_size (by repeat (first | (with_reducible first | exact HB.out | apply below_alloc | apply pw_below_drewN | apply below_drew1) | exact HB.out))) : w.heap.size ≤ gb536)); clear HB; have HB := n0_; have BK536 := n1_; have GW536 := n2_; have GE536 := n3_; clear n0_ n1_ n2_ n3_; clear hb hbox hg; have hcz8_0 : w7.cell? ⟨gb536, 0, none⟩ = some (.int .i64 a0_0) := (blk_cell BK536.out 0).trans rfl; have hcz8_1 : w7.cell? ⟨gb536, 1, none⟩ = some (.int .i64 a0_1) := (blk_cell BK536.out 1).trans rfl; have hcz8_2 : w7.cell? ⟨gb536, 2, none⟩ = some (.string a0_2) := (blk_cell BK536.out 2).trans rfl; have hcz8_3 : w7.cell? ⟨gb536, 3, none⟩ = some (.slice A0_3 l0_3.length c0_3) := (blk_cell BK536.out 3).trans rfl; have hcz8_4 : w7.cell? ⟨gb536, 4, none⟩ = some (.string a0_4) := (blk_cell BK536.out 4).trans rfl; have hcz8_5 : w7.cell? ⟨gb536, 5, none⟩ = some (.int .i64 a0_5) := (blk_cell BK536.out 5).trans rfl; have hcz8_6 : w7.cell? ⟨gb536, 6, none⟩ = some (.slice A0_6 l0_6.length c0_6) := (blk_cell BK536.out 6).trans rfl; have hfz8_0 := blk_frozen BK536.out 0; have hfz8_1 := blk_frozen BK536.out 1; have hfz8_2 := blk_frozen BK536.out 2; have hfz8_3 := blk_frozen BK536.out 3; have hfz8_4 := blk_frozen BK536.out 4; have hfz8_5 := blk_frozen BK536.out 5; have hfz8_6 := blk_frozen BK536.out 6))
      go_ret
      exact ⟨by first | rfl | (simp [errW_none, errW_some] <;> rfl) | (simp [*, errW_none, errW_some] <;> rfl), by repeat (first | (with_reducible first | exact HB.out | apply below_alloc | apply pw_below_drewN | apply below_drew1 | refine below_set ?_ GE536.out) | exact HB.out)⟩
     ·rw [if_neg c6] at H
      have c6b0 : (a0_1 == 0) = false := beq_eq_false_iff_ne.mpr c6
      have c6b1 : (a0_1 != 0) = true := bne_iff_ne.mpr c6
      obtain rfl := Option.some.inj H
      go_enter Try.func109, Try.ntmps109
      go_wp2_with (first | ((with_reducible refine gate_dst (N := 1) rfl ?_); (try (refine gate_guard (by rfl) ?_; dsimp only)); refine box_event ?hg (N := 1) ?hd (cs := #[.int .i64 a0_0, .int .i64 a0_1, .string a0_2, .slice A0_3 l0_3.length c0_3, .string a0_4, .int .i64 a0_5, .slice A0_6 l0_6.length c0_6]) (t := 89) ?hr ?_; (case hd => rfl); (case hg => rfl); (case hr => first | (go_simp; done) | (go_simp; rfl)); intro gb536 hg w9 hbox hb; have n0_ := Aside0.mk (below_step (by repeat (first | (with_reducible first | exact HB.out | apply below_alloc | apply pw_below_drewN | apply below_drew1) | exact HB.out)) hb); have n1_ := Aside0.mk (hbox); have n2_ := Aside0.mk ((by rw [hg]; exact (below_size (by repeat (first | (with_reducible first | exact HB.out | apply below_alloc | apply pw_below_drewN | apply below_drew1) | exact HB.out))) : w.heap.size ≤ gb536)); have n3_ := Aside0.mk ((by rw [hg]; exact (below_size (by repeat (first | (with_reducible first | exact HB.out | apply below_alloc | apply pw_below_drewN | apply below_drew1) | exact HB.out))) : w.heap.size ≤ gb536)); clear HB; have HB := n0_; have BK536 := n1_; have GW536 := n2_; have GE536 := n3_; clear n0_ n1_ n2_ n3_; clear hb hbox hg; have hcz10_0 : w9.cell? ⟨gb536, 0, none⟩ = some (.int .i64 a0_0) := (blk_cell BK536.out 0).trans rfl; have hcz10_1 : w9.cell? ⟨gb536, 1, none⟩ = some (.int .i64 a0_1) := (blk_cell BK536.out 1).trans rfl; have hcz10_2 : w9.cell? ⟨gb536, 2, none⟩ = some (.string a0_2) := (blk_cell BK536.out 2).trans rfl; have hcz10_3 : w9.cell? ⟨gb536, 3, none⟩ = some (.slice A0_3 l0_3.length c0_3) := (blk_cell BK536.out 3).trans rfl; have hcz10_4 : w9.cell? ⟨gb536, 4, none⟩ = some (.string a0_4) := (blk_cell BK536.out 4).trans rfl; have hcz10_5 : w9.cell? ⟨gb536, 5, none⟩ = some (.int .i64 a0_5) := (blk_cell BK536.out 5).trans rfl; have hcz10_6 : w9.cell? ⟨gb536, 6, none⟩ = some (.slice A0_6 l0_6.length c0_6) := (blk_cell BK536.out 6).trans rfl; have hfz10_0 := blk_frozen BK536.out 0; have hfz10_1 := blk_frozen BK536.out 1; have hfz10_2 := blk_frozen BK536.out 2; have hfz10_3 := blk_frozen BK536.out 3; have hfz10_4 := blk_frozen BK536.out 4; have hfz10_5 := blk_frozen BK536.out 5; have hfz10_6 := blk_frozen BK536.out 6))
      go_ret
      exact ⟨by first | rfl | (simp [errW_none, errW_some] <;> rfl) | (simp [*, errW_none, errW_some] <;> rfl), by repeat (first | (with_reducible first | exact HB.out | apply below_alloc | apply pw_below_drewN | apply below_drew1 | refine below_set ?_ GE536.out) | exact HB.out)⟩
    ·rw [if_neg c5] at H
     have c5b0 : ((l0_3.length : Int) == 0) = false := beq_eq_false_iff_ne.mpr c5
     have c5b1 : ((l0_3.length : Int) != 0) = true := bne_iff_ne.mpr c5
     have c5b2 : ¬ (l0_3 = []) := fun h_ => c5 (by rw [h_]; rfl)
     obtain rfl := Option.some.inj H
     go_enter Try.func109, Try.ntmps109
     go_wp2_with (first | ((with_reducible refine gate_dst (N := 1) rfl ?_); (try (refine gate_guard (by rfl) ?_; dsimp only)); refine box_event ?hg (N := 1) ?hd (cs := #[.int .i64 a0_0, .int .i64 a0_1, .string a0_2, .slice A0_3 l0_3.length c0_3, .string a0_4, .int .i64 a0_5, .slice A0_6 l0_6.length c0_6]) (t := 89) ?hr ?_; (case hd => rfl); (case hg => rfl); (case hr => first | (go_simp; done) | (go_simp; rfl)); intro gb536 hg w11 hbox hb; have n0_ := Aside0.mk (below_step (by repeat (first | (with_reducible first | exact HB.out | apply below_alloc | apply pw_below_drewN | apply below_drew1) | exact HB.out)) hb); have n1_ := Aside0.mk (hbox); have n2_ := Aside0.mk ((by rw [hg]; exact (below_size (by repeat (first | (with_reducible first | exact HB.out | apply below_alloc | apply pw_below_drewN | apply below_drew1) | exact HB.out))) : w.heap.size ≤ gb536)); have n3_ := Aside0.mk ((by rw [hg]; exact (below_size (by repeat (first | (with_reducible first | exact HB.out | apply below_alloc | apply pw_below_drewN | apply below_drew1) | exact HB.out))) : w.heap.size ≤ gb536)); clear HB; have HB := n0_; have BK536 := n1_; have GW536 := n2_; have GE536 := n3_; clear n0_ n1_ n2_ n3_; clear hb hbox hg; have hcz12_0 : w11.cell? ⟨gb536, 0, none⟩ = some (.int .i64 a0_0) := (blk_cell BK536.out 0).trans rfl; have hcz12_1 : w11.cell? ⟨gb536, 1, none⟩ = some (.int .i64 a0_1) := (blk_cell BK536.out 1).trans rfl; have hcz12_2 : w11.cell? ⟨gb536, 2, none⟩ = some (.string a0_2) := (blk_cell BK536.out 2).trans rfl; have hcz12_3 : w11.cell? ⟨gb536, 3, none⟩ = some (.slice A0_3 l0_3.length c0_3) := (blk_cell BK536.out 3).trans rfl; have hcz12_4 : w11.cell? ⟨gb536, 4, none⟩ = some (.string a0_4) := (blk_cell BK536.out 4).trans rfl; have hcz12_5 : w11.cell? ⟨gb536, 5, none⟩ = some (.int .i64 a0_5) := (blk_cell BK536.out 5).trans rfl; have hcz12_6 : w11.cell? ⟨gb536, 6, none⟩ = some (.slice A0_6 l0_6.length c0_6) := (blk_cell BK536.out 6).trans rfl; have hfz12_0 := blk_frozen BK536.out 0; have hfz12_1 := blk_frozen BK536.out 1; have hfz12_2 := blk_frozen BK536.out 2; have hfz12_3 := blk_frozen BK536.out 3; have hfz12_4 := blk_frozen BK536.out 4; have hfz12_5 := blk_frozen BK536.out 5; have hfz12_6 := blk_frozen BK536.out 6))
     go_ret
     exact ⟨by first | rfl | (simp [errW_none, errW_some] <;> rfl) | (simp [*, errW_none, errW_some] <;> rfl), by repeat (first | (with_reducible first | exact HB.out | apply below_alloc | apply pw_below_drewN | apply below_drew1 | refine below_set ?_ GE536.out) | exact HB.out)⟩
   ·rw [if_neg c4] at H
    have c4b0 : (a0_2.toList == ([] : List UInt8)) = false := beq_eq_false_iff_ne.mpr c4
    have c4b1 : (a0_2.toList != ([] : List UInt8)) = true := bne_iff_ne.mpr c4
    obtain rfl := Option.some.inj H
    go_enter Try.func109, Try.ntmps109
    go_wp2_with (first | ((with_reducible refine gate_dst (N := 1) rfl ?_); (try (refine gate_guard (by rfl) ?_; dsimp only)); refine box_event ?hg (N := 1) ?hd (cs := #[.int .i64 a0_0, .int .i64 a0_1, .string a0_2, .slice A0_3 l0_3.length c0_3, .string a0_4, .int .i64 a0_5, .slice A0_6 l0_6.length c0_6]) (t := 89) ?hr ?_; (case hd => rfl); (case hg => rfl); (case hr => first | (go_simp; done) | (go_simp; rfl)); intro gb536 hg w13 hbox hb; have n0_ := Aside0.mk (below_step (by repeat (first | (with_reducible first | exact HB.out | apply below_alloc | apply pw_below_drewN | apply below_drew1) | exact HB.out)) hb); have n1_ := Aside0.mk (hbox); have n2_ := Aside0.mk ((by rw [hg]; exact (below_size (by repeat (first | (with_reducible first | exact HB.out | apply below_alloc | apply pw_below_drewN | apply below_drew1) | exact HB.out))) : w.heap.size ≤ gb536)); have n3_ := Aside0.mk ((by rw [hg]; exact (below_size (by repeat (first | (with_reducible first | exact HB.out | apply below_alloc | apply pw_below_drewN | apply below_drew1) | exact HB.out))) : w.heap.size ≤ gb536)); clear HB; have HB := n0_; have BK536 := n1_; have GW536 := n2_; have GE536 := n3_; clear n0_ n1_ n2_ n3_; clear hb hbox hg; have hcz14_0 : w13.cell? ⟨gb536, 0, none⟩ = some (.int .i64 a0_0) := (blk_cell BK536.out 0).trans rfl; have hcz14_1 : w13.cell? ⟨gb536, 1, none⟩ = some (.int .i64 a0_1) := (blk_cell BK536.out 1).trans rfl; have hcz14_2 : w13.cell? ⟨gb536, 2, none⟩ = some (.string a0_2) := (blk_cell BK536.out 2).trans rfl; have hcz14_3 : w13.cell? ⟨gb536, 3, none⟩ = some (.slice A0_3 l0_3.length c0_3) := (blk_cell BK536.out 3).trans rfl; have hcz14_4 : w13.cell? ⟨gb536, 4, none⟩ = some (.string a0_4) := (blk_cell BK536.out 4).trans rfl; have hcz14_5 : w13.cell? ⟨gb536, 5, none⟩ = some (.int .i64 a0_5) := (blk_cell BK536.out 5).trans rfl; have hcz14_6 : w13.cell? ⟨gb536, 6, none⟩ = some (.slice A0_6 l0_6.length c0_6) := (blk_cell BK536.out 6).trans rfl; have hfz14_0 := blk_frozen BK536.out 0; have hfz14_1 := blk_frozen BK536.out 1; have hfz14_2 := blk_frozen BK536.out 2; have hfz14_3 := blk_frozen BK536.out 3; have hfz14_4 := blk_frozen BK536.out 4; have hfz14_5 := blk_frozen BK536.out 5; have hfz14_6 := blk_frozen BK536.out 6))
    go_ret
    exact ⟨by first | rfl | (simp [errW_none, errW_some] <;> rfl) | (simp [*, errW_none, errW_some] <;> rfl), by repeat (first | (with_reducible first | exact HB.out | apply below_alloc | apply pw_below_drewN | apply below_drew1 | refine below_set ?_ GE536.out) | exact HB.out)⟩
  ·rw [if_neg c3] at H
   have c3b0 : (a0_5 == (-1)) = false := beq_eq_false_iff_ne.mpr c3
   have c3b1 : (a0_5 != (-1)) = true := bne_iff_ne.mpr c3
   obtain rfl := Option.some.inj H
   go_enter Try.func109, Try.ntmps109
   go_wp2_with (first | ((with_reducible refine gate_dst (N := 1) rfl ?_); (try (refine gate_guard (by rfl) ?_; dsimp only)); refine box_event ?hg (N := 1) ?hd (cs := #[.int .i64 a0_0, .int .i64 a0_1, .string a0_2, .slice A0_3 l0_3.length c0_3, .string a0_4, .int .i64 a0_5, .slice A0_6 l0_6.length c0_6]) (t := 89) ?hr ?_; (case hd => rfl); (case hg => rfl); (case hr => first | (go_simp; done) | (go_simp; rfl)); intro gb536 hg w15 hbox hb; have n0_ := Aside0.mk (below_step (by repeat (first | (with_reducible first | exact HB.out | apply below_alloc | apply pw_below_drewN | apply below_drew1) | exact HB.out)) hb); have n1_ := Aside0.mk (hbox); have n2_ := Aside0.mk ((by rw [hg]; exact (below_size (by repeat (first | (with_reducible first | exact HB.out | apply below_alloc | apply pw_below_drewN | apply below_drew1) | exact HB.out))) : w.heap.size ≤ gb536)); have n3_ := Aside0.mk ((by rw [hg]; exact (below_size (by repeat (first | (with_reducible first | exact HB.out | apply below_alloc | apply pw_below_drewN | apply below_drew1) | exact HB.out))) : w.heap.size ≤ gb536)); clear HB; have HB := n0_; have BK536 := n1_; have GW536 := n2_; have GE536 := n3_; clear n0_ n1_ n2_ n3_; clear hb hbox hg; have hcz16_0 : w15.cell? ⟨gb536, 0, none⟩ = some (.int .i64 a0_0) := (blk_cell BK536.out 0).trans rfl; have hcz16_1 : w15.cell? ⟨gb536, 1, none⟩ = some (.int .i64 a0_1) := (blk_cell BK536.out 1).trans rfl; have hcz16_2 : w15.cell? ⟨gb536, 2, none⟩ = some (.string a0_2) := (blk_cell BK536.out 2).trans rfl; have hcz16_3 : w15.cell? ⟨gb536, 3, none⟩ = some (.slice A0_3 l0_3.length c0_3) := (blk_cell BK536.out 3).trans rfl; have hcz16_4 : w15.cell? ⟨gb536, 4, none⟩ = some (.string a0_4) := (blk_cell BK536.out 4).trans rfl; have hcz16_5 : w15.cell? ⟨gb536, 5, none⟩ = some (.int .i64 a0_5) := (blk_cell BK536.out 5).trans rfl; have hcz16_6 : w15.cell? ⟨gb536, 6, none⟩ = some (.slice A0_6 l0_6.length c0_6) := (blk_cell BK536.out 6).trans rfl; have hfz16_0 := blk_frozen BK536.out 0; have hfz16_1 := blk_frozen BK536.out 1; have hfz16_2 := blk_frozen BK536.out 2; have hfz16_3 := blk_frozen BK536.out 3; have hfz16_4 := blk_frozen BK536.out 4; have hfz16_5 := blk_frozen BK536.out 5; have hfz16_6 := blk_frozen BK536.out 6))
   go_ret
   exact ⟨by first | rfl | (simp [errW_none, errW_some] <;> rfl) | (simp [*, errW_none, errW_some] <;> rfl), by repeat (first | (with_reducible first | exact HB.out | apply below_alloc | apply pw_below_drewN | apply below_drew1 | refine below_set ?_ GE536.out) | exact HB.out)⟩
 ·rw [if_neg c2] at H
  have c2b0 : (a0_0 == 1) = false := beq_eq_false_iff_ne.mpr c2
  have c2b1 : (a0_0 != 1) = true := bne_iff_ne.mpr c2
  obtain rfl := Option.some.inj H
  go_enter Try.func109, Try.ntmps109
  go_wp2_with (first | ((with_reducible refine gate_dst (N := 1) rfl ?_); (try (refine gate_guard (by rfl) ?_; dsimp only)); refine box_event ?hg (N := 1) ?hd (cs := #[.int .i64 a0_0, .int .i64 a0_1, .string a0_2, .slice A0_3 l0_3.length c0_3, .string a0_4, .int .i64 a0_5, .slice A0_6 l0_6.length c0_6]) (t := 89) ?hr ?_; (case hd => rfl); (case hg => rfl); (case hr => first | (go_simp; done) | (go_simp; rfl)); intro gb536 hg w17 hbox hb; have n0_ := Aside0.mk (below_step (by repeat (first | (with_reducible first | exact HB.out | apply below_alloc | apply pw_below_drewN | apply below_drew1) | exact HB.out)) hb); have n1_ := Aside0.mk (hbox); have n2_ := Aside0.mk ((by rw [hg]; exact (below_size (by repeat (first | (with_reducible first | exact HB.out | apply below_alloc | apply pw_below_drewN | apply below_drew1) | exact HB.out))) : w.heap.size ≤ gb536)); have n3_ := Aside0.mk ((by rw [hg]; exact (below_size (by repeat (first | (with_reducible first | exact HB.out | apply below_alloc | apply pw_below_drewN | apply below_drew1) | exact HB.out))) : w.heap.size ≤ gb536)); clear HB; have HB := n0_; have BK536 := n1_; have GW536 := n2_; have GE536 := n3_; clear n0_ n1_ n2_ n3_; clear hb hbox hg; have hcz18_0 : w17.cell? ⟨gb536, 0, none⟩ = some (.int .i64 a0_0) := (blk_cell BK536.out 0).trans rfl; have hcz18_1 : w17.cell? ⟨gb536, 1, none⟩ = some (.int .i64 a0_1) := (blk_cell BK536.out 1).trans rfl; have hcz18_2 : w17.cell? ⟨gb536, 2, none⟩ = some (.string a0_2) := (blk_cell BK536.out 2).trans rfl; have hcz18_3 : w17.cell? ⟨gb536, 3, none⟩ = some (.slice A0_3 l0_3.length c0_3) := (blk_cell BK536.out 3).trans rfl; have hcz18_4 : w17.cell? ⟨gb536, 4, none⟩ = some (.string a0_4) := (blk_cell BK536.out 4).trans rfl; have hcz18_5 : w17.cell? ⟨gb536, 5, none⟩ = some (.int .i64 a0_5) := (blk_cell BK536.out 5).trans rfl; have hcz18_6 : w17.cell? ⟨gb536, 6, none⟩ = some (.slice A0_6 l0_6.length c0_6) := (blk_cell BK536.out 6).trans rfl; have hfz18_0 := blk_frozen BK536.out 0; have hfz18_1 := blk_frozen BK536.out 1; have hfz18_2 := blk_frozen BK536.out 2; have hfz18_3 := blk_frozen BK536.out 3; have hfz18_4 := blk_frozen BK536.out 4; have hfz18_5 := blk_frozen BK536.out 5; have hfz18_6 := blk_frozen BK536.out 6))
  go_ret
  exact ⟨by first | rfl | (simp [errW_none, errW_some] <;> rfl) | (simp [*, errW_none, errW_some] <;> rfl), by repeat (first | (with_reducible first | exact HB.out | apply below_alloc | apply pw_below_drewN | apply below_drew1 | refine below_set ?_ GE536.out) | exact HB.out)⟩
end Go.Proofs.Ytlocaaebgghkbaa.A
namespace Go.Proofs.Ytlocaaebgghkbaa.A
open Go.RowKit Go.Proofs.YtlocaaebgghkbaaW.PrintWords Go.Proofs.YtlocaaebgghkbaaW.PrintLast Go.Proofs.YtlocaaebgghkbaaW.PrintMore
attribute [local go_sem] max2_int min2_int max_two min_two max_three min_three max_four min_four   -- for this text's walks alone
set_option linter.unusedVariables false
set_option linter.unusedSimpArgs false
theorem hasAttr_1 (a b n : ByteArray) (h : Nat) (w : World) (hc : w.cell? ⟨h, 0, none⟩ = some (.string n)) :
  Calls Try.prog 102 #[.agg #[.string a, .string b], .pointer (some ⟨h, 0, none⟩)] w fun e w' => e = .returned (.bool (a.toList == n.toList)) ∧ Below w.heap.size w w' := by
 have hl := World.block_lt_of_cell? w _ hc
 go_enter Try.func102, Try.ntmps102
 go_wp2
 go_ret
 exact ⟨rfl, below_alloc (Below.refl _ _) _⟩
def hasP (n : ByteArray) (x : S53) : Bool := x.f0.toList == n.toList
def IxPost (b : Bool) (w : World) (e : Ending) (w' : World) : Prop := ∃ r : Int, e = .returned (.int .i64 r) ∧ decide (0 ≤ r) = b ∧ Below w.heap.size w w'
theorem take_any {α : Type} (l : List α) (p : α → Bool) (j : Nat) (h : j < l.length) (h0 : (l.take j).any p = false) (h1 : p (l[j]'h) = false) : (l.take (j + 1)).any p = false := by
 rw [List.take_succ_eq_append_getElem h, List.any_append, h0]; simp [h1]
set_option maxHeartbeats 1000000 in
theorem indexFunc_any (A0 : Option Addr) (c0 : Nat) (l0 : List (S53)) (n : ByteArray) (h : Nat) (w : World) (hr0 : Kd.C k53 w A0 l0.length l0) (hc0 : l0.length ≤ c0) (hl : l0.length ≤ 140737488355328) (hc : w.cell? ⟨h, 0, none⟩ = some (.string n)) :
  Calls Try.prog 139 #[.slice A0 l0.length c0, .func (Fn.func 102) #[] #[.pointer (some ⟨h, 0, none⟩)]] w (IxPost (l0.any (hasP n)) w) := by
 have HR := Aside0.mk hr0
 have HC := Aside0.mk hc
 clear hr0 hc
 go_enter Try.func139, Try.ntmps139
 go_wp2
 go_loopg [8] l0.length (fun kq v wr => ∃ j : Int, v = .int .i64 j ∧ 0 ≤ j ∧ j ≤ l0.length ∧ Aside0 (kq = l0.length - j.toNat) ∧ Aside0 ((l0.take j.toNat).any (hasP n) = false) ∧ Aside0 (Below w.heap.size w wr))
 case atStart => exact ⟨0, rfl, Int.le_refl _, by omega, ⟨rfl⟩, ⟨by simp⟩, ⟨Below.refl _ _⟩⟩
 case round =>
  obtain ⟨j, rfl, j0, hj, HM, HE, HB⟩ := hrel
  have hlm : (l0.length : Int) ≤ 140737488355328 := by omega
  by_cases hlt : j < l0.length
  ·have hjn : j.toNat < l0.length := by omega
   have hel : rd_T53 l0 j = l0[j.toNat] := by
    unfold rd_T53; first | (rw [List.getD_eq_getElem?_getD, List.getElem?_eq_getElem hjn]; rfl) | (simp [rdOf, List.getD_eq_getElem?_getD, List.getElem?_eq_getElem hjn])
   have Hel := Aside0.mk hel
   clear hel
   obtain ⟨ad, ea, hx0, hx1⟩ := at_T53 (Kd.C_below HR.out HB.out) j j0 hlt
   cases ea
   have hcn := pw_cell_below HB.out HC.out
   have p7 := eq_true j0
   have q7 := eq_true hlt
   cases hp : hasP n (rd_T53 l0 j) with
   | true =>
    have HP := Aside0.mk hp
    clear hp
    go_wp2_with ((go_at_call 102; (with_reducible refine (hasAttr_1 _ _ n h _ hcn).mono ?_); rintro r w2 ⟨rfl, hb⟩; rw [show ((rd_T53 l0 j).f0.toList == n.toList) = true from HP.out]))
    go_ret
    exact ⟨j, rfl, by rw [decide_eq_true j0]; symm; rw [List.any_eq_true]; exact ⟨l0[j.toNat], List.getElem_mem _, by rw [← Hel.out]; exact HP.out⟩, below_step HB.out hb⟩
   | false =>
    have HP := Aside0.mk hp
    clear hp
    go_wp2_with ((go_at_call 102; (with_reducible refine (hasAttr_1 _ _ n h _ hcn).mono ?_); rintro r w2 ⟨rfl, hb⟩; rw [show ((rd_T53 l0 j).f0.toList == n.toList) = false from HP.out]))
    go_roundg (l0.length - (j + 1).toNat)
    case measure => have := HM.out; omega
    case rel => exact ⟨j + 1, rfl, by omega, by omega, ⟨rfl⟩, ⟨by rw [show (j + 1).toNat = j.toNat + 1 by omega]; exact take_any _ _ _ hjn HE.out (by rw [← Hel.out]; exact HP.out)⟩, ⟨below_step HB.out hb⟩⟩
  ·go_wp2
   go_ret
   have he := HE.out
   rw [List.take_of_length_le (by omega)] at he
   exact ⟨-1, rfl, by rw [he]; rfl, HB.out⟩
set_option maxHeartbeats 1000000 in
theorem containsFunc_any (A0 : Option Addr) (c0 : Nat) (l0 : List (S53)) (n : ByteArray) (h : Nat) (w : World) (hr0 : Kd.C k53 w A0 l0.length l0) (hc0 : l0.length ≤ c0) (hl : l0.length ≤ 140737488355328) (hc : w.cell? ⟨h, 0, none⟩ = some (.string n)) :
  Calls Try.prog 101 #[.slice A0 l0.length c0, .func (Fn.func 102) #[] #[.pointer (some ⟨h, 0, none⟩)]] w fun e w' => e = .returned (.bool (l0.any (hasP n))) ∧ Below w.heap.size w w' := by
 go_enter Try.func101, Try.ntmps101
 go_wp2_with ((go_at_call 139; (with_reducible refine (indexFunc_any A0 c0 l0 n h _ hr0 hc0 hl hc).mono ?_); rintro r w2 ⟨i, rfl, hi, hb⟩))
 go_ret
 exact ⟨by rw [← hi]; rfl, hb⟩
def impl_hasAttr.f (l0 : List (S53)) (a1 : ByteArray) : Option Bool :=
 if l0.length ≤ 140737488355328 then some (l0.any fun x => x.f0.toList == a1.toList) else none
theorem impl_hasAttr.calls (A0 : Option Addr) (c0 : Nat) (l0 : List (S53)) (a1 : ByteArray) (r : Bool) (w : World) (hr0 : Kd.C k53 w A0 l0.length l0) (hc0 : l0.length ≤ c0) (h : impl_hasAttr.f l0 a1 = some r) :
  Calls Try.prog 66 #[.slice A0 l0.length c0, .string a1] w fun e w' => e = .returned (.bool r) ∧ Below w.heap.size w w' := by
 unfold impl_hasAttr.f at h
 split at h
 case isFalse => cases h
 case isTrue hl =>
 obtain rfl := Option.some.inj h
 have hr1 := Aside0.mk (Kd.C_alloc hr0 (.cells #[.string a1] 9))
 have hc1 : Aside0 ((w.alloc (.cells #[.string a1] 9)).cell? ⟨w.heap.size, 0, none⟩ = some (.string a1)) := ⟨(blk_cell (heap_alloc_new w _) 0).trans rfl⟩
 clear hr0 h
 go_enter Try.func66, Try.ntmps66
 go_wp2_with ((go_at_call 101; (refine (containsFunc_any A0 c0 l0 a1 w.heap.size _ hr1.out hc0 hl hc1.out).mono ?_); rintro r w2 ⟨rfl, hb⟩))
 go_ret
 exact ⟨rfl, below_step (below_alloc (Below.refl _ _) _) hb⟩
end Go.Proofs.Ytlocaaebgghkbaa.A
namespace Go.Proofs.Ytlocaaebgghkbaa.A
open Go.RowKit Go.Proofs.YtlocaaebgghkbaaW.PrintWords Go.Proofs.YtlocaaebgghkbaaW.PrintLast Go.Proofs.YtlocaaebgghkbaaW.PrintMore
attribute [local go_sem] max2_int min2_int max_two min_two max_three min_three max_four min_four   -- for this text's walks alone
set_option linter.unusedVariables false
set_option linter.unusedSimpArgs false
def impl_namesOnce.l0 : Nat → List (S53) → List (S53) → Int → Int → Option (Bool)
 | 0, _, _, _, _ => none
 | k + 1, x0, x5, x6, x7 => if x7 < x6 then (if 0 ≤ x7 then (if x7 < (x5.length : Int) then (if x7 ≤ (x0.length : Int) then ((impl_hasAttr.f (x0.take (x7 : Int).toNat) ((rd_T53 x5 x7).f0)).bind fun t543 => (if t543 = true then (some false) else (impl_namesOnce.l0 k x0 x5 x6 (wrap64 (x7 + 1))))) else (none)) else (none)) else (none)) else (some true)
def impl_namesOnce.f (k : Nat) (l0 : List (S53)) : Option (Bool) := impl_namesOnce.l0 k l0 l0 (l0.length : Int) 0
theorem impl_namesOnce.mono_l : ∀ k, (∀ y0 y1 y2 y3, LeO (impl_namesOnce.l0 k y0 y1 y2 y3) (impl_namesOnce.l0 (k + 1) y0 y1 y2 y3))
 | 0 => fun _ _ _ _ r h => by simp [impl_namesOnce.l0] at h
 | k + 1 => by
  have ih0 := impl_namesOnce.mono_l k
  ·intro y0 y1 y2 y3
   unfold impl_namesOnce.l0
   repeat' first
   | (with_reducible exact ih0 _ _ _ _)
   | (with_reducible exact LeO.refl _)
   | (with_reducible exact LeO.none _)
   | (with_reducible refine LeO.ite ?_ ?_)
   | (with_reducible refine LeO.bind ?_ (fun _ => ?_))
   | exact ih0 _ _ _ _
   | exact LeO.none _
   | refine LeO.ite ?_ ?_
   | refine LeO.bind ?_ (fun _ => ?_)
theorem impl_namesOnce.mono : ∀ a0 k, LeO (impl_namesOnce.f k a0) (impl_namesOnce.f (k + 1) a0) := by
 intro a0 k
 have ih0 := impl_namesOnce.mono_l k
 unfold impl_namesOnce.f
 repeat' first
   | (with_reducible exact ih0 _ _ _ _)
   | (with_reducible exact LeO.refl _)
   | (with_reducible exact LeO.none _)
   | (with_reducible refine LeO.ite ?_ ?_)
   | (with_reducible refine LeO.bind ?_ (fun _ => ?_))
   | exact ih0 _ _ _ _
   | exact LeO.none _
   | refine LeO.ite ?_ ?_
   | refine LeO.bind ?_ (fun _ => ?_)
set_option maxHeartbeats 8000000 in
set_option maxRecDepth 100000 in
theorem impl_namesOnce.calls (k : Nat) (A0 : Option Addr) (c0 : Nat) (l0 : List (S53)) (r : Bool) (w : World) (hr0 : Kd.C k53 w A0 l0.length l0) (hc0 : l0.length ≤ c0) (h : impl_namesOnce.f k l0 = some r) :
  Calls Try.prog 149 #[.slice A0 l0.length c0] w fun e w' => e = .returned (.bool r) ∧ Below w.heap.size w w' := by
 have hu53 := Try.underlying53
 have HR0 := Aside0.mk hr0
 have HC0 := Aside0.mk hc0
 clear hr0 hc0
 have HB := Aside0.mk (Below.refl w.heap.size w)
 have H : (impl_namesOnce.l0 k l0 l0 (l0.length : Int) 0) = some r := h
 clear h
 have H' := Aside0.mk H
 clear H
 go_enter Try.func149, Try.ntmps149
 go_wp2
 go_loopg [7] k (fun kq v7 w' => ∃ (x7_1 : Int), v7 = .int .i64 x7_1 ∧ Aside0 (impl_namesOnce.l0 kq l0 l0 (l0.length : Int) x7_1 = some r) ∧ Aside0 (kq ≤ k) ∧ Aside0 (Below w.heap.size w w'))
 case atStart => exact ⟨(0), (by first | rfl | (simp; done) | (simp [*]; done)), H', ⟨Nat.le_refl _⟩, ⟨by repeat (first | (with_reducible first | exact HB.out | apply below_alloc | apply pw_below_drewN | apply below_drew1) | exact HB.out)⟩⟩
 case round =>
  clear H'
  try clear c1
  obtain ⟨x7_1, rfl, HA, HK1, HB⟩ := hrel
  cases gk with
  | zero => exact absurd HA.out (by simp [impl_namesOnce.l0])
  | succ k1 =>
   have H := HA.out
   clear HA
   simp only [impl_namesOnce.l0] at H
   by_cases c2 : x7_1 < (l0.length : Int)
   ·rw [if_pos c2] at H
    have c2b0 : decide (x7_1 < (l0.length : Int)) = true := decide_eq_true c2
    clear c2
    by_cases c3 : 0 ≤ x7_1
    ·rw [if_pos c3] at H
     have c3b0 : decide (0 ≤ x7_1) = true := decide_eq_true c3
     clear c3
     by_cases c4 : x7_1 < (l0.length : Int)
     ·rw [if_pos c4] at H
      have c4b0 : decide (x7_1 < (l0.length : Int)) = true := decide_eq_true c4
      clear c4
      have c5b0 := eq_true (of_decide_eq_true (by first | (with_reducible assumption) | assumption) : 0 ≤ x7_1)
      by_cases c6 : x7_1 ≤ (l0.length : Int)
      ·rw [if_pos c6] at H
       have c6b0 := eq_true c6
       have c6b1 : decide (x7_1 ≤ (l0.length : Int)) = true := decide_eq_true c6
       clear c6
       obtain ⟨y539, hy539⟩ : ∃ y_ : List (S53), y_ = (l0.take (x7_1 : Int).toNat) := ⟨_, rfl⟩
       replace H : ((impl_hasAttr.f y539 ((rd_T53 l0 x7_1).f0)).bind fun t543 => (if t543 = true then (some false) else (impl_namesOnce.l0 k1 l0 l0 (l0.length : Int) (wrap64 (x7_1 + 1))))) = some r := by first | (rw [hy539]; with_reducible exact H) | (have H2_ := (Option.bind_some _ _).symm.trans H; rw [hy539]; with_reducible exact H2_) | (have H2_ := (Option.bind_some _ _).symm.trans H; with_reducible exact H2_) | with_reducible exact H | (rw [hy539]; exact H) | exact H
       have Ny539 := Aside0.mk hy539
       clear hy539
       replace H := Option.bind_eq_some_iff.mp H
       obtain ⟨t543, A70, H⟩ := H
       replace H : (if t543 = true then (some false) else (impl_namesOnce.l0 k1 l0 l0 (l0.length : Int) (wrap64 (x7_1 + 1)))) = some r := H
       have A7 := Aside0.mk A70
       clear A70
       by_cases c8 : t543 = true
       ·subst c8
        have H1 : (some false) = some r := by rw [if_pos rfl] at H; exact H
        clear H
        have H := H1
        clear H1
        obtain rfl := Option.some.inj H
        have p537 : 0 ≤ (x7_1 : Int) := of_decide_eq_true (by first | (with_reducible assumption) | assumption)
        have q537 : x7_1 < (l0.length : Int) := of_decide_eq_true (by first | (with_reducible assumption) | assumption)
        obtain ⟨ad537, e537, hx537_0, hx537_1⟩ := at_T53 HR0.out x7_1 p537 q537
        cases e537
        replace hx537_0 := (HB.out.cell (World.block_lt_of_cell? w _ hx537_0)).trans hx537_0
        replace hx537_1 := (HB.out.cell (World.block_lt_of_cell? w _ hx537_1)).trans hx537_1
        replace p537 := eq_true p537
        replace q537 := eq_true q537
        try go_wp2_with (first | ((with_reducible refine gate_dst (N := 4) rfl ?_); refine box_event ?hg (N := 4) ?hd (cs := #[.string (⟨#[]⟩ : ByteArray), .string (⟨#[]⟩ : ByteArray)]) (t := 53) ?hr ?_; (case hd => rfl); (case hg => rfl); (case hr => first | (go_simp; done) | (go_simp; rfl)); intro gb538 hg w9 hbox hb; have n0_ := Aside0.mk (below_step (by repeat (first | (with_reducible first | exact HB.out | apply below_alloc | apply pw_below_drewN | apply below_drew1) | exact HB.out)) hb); have n1_ := Aside0.mk (hbox); have n2_ := Aside0.mk ((by rw [hg]; exact (below_size (by repeat (first | (with_reducible first | exact HB.out | apply below_alloc | apply pw_below_drewN | apply below_drew1) | exact HB.out))) : w.heap.size ≤ gb538)); have n3_ := Aside0.mk ((by rw [hg]; exact (below_size (by repeat (first | (with_reducible first | exact HB.out | apply below_alloc | apply pw_below_drewN | apply below_drew1) | exact HB.out))) : w.heap.size ≤ gb538)); clear HB; have HB := n0_; have BK538 := n1_; have GW538 := n2_; have GE538 := n3_; clear n0_ n1_ n2_ n3_; clear hb hbox hg; have hcz10_0 : w9.cell? ⟨gb538, 0, none⟩ = some (.string (⟨#[]⟩ : ByteArray)) := (blk_cell BK538.out 0).trans rfl; have hcz10_1 : w9.cell? ⟨gb538, 1, none⟩ = some (.string (⟨#[]⟩ : ByteArray)) := (blk_cell BK538.out 1).trans rfl; have hfz10_0 := blk_frozen BK538.out 0; have hfz10_1 := blk_frozen BK538.out 1))
        have n0_ : Aside0 (((w9.setCell ⟨gb538, 0, none⟩ (.string ((rd_T53 l0 x7_1).f0))).setCell ⟨gb538, 1, none⟩ (.string ((rd_T53 l0 x7_1).f1))).heap[gb538]? = some (.cells #[.string ((rd_T53 l0 x7_1).f0), .string ((rd_T53 l0 x7_1).f1)] 53 (0, 0))) := ⟨by (with_reducible repeat (first | refine blk_drewN ?_ _ | refine blk_drew ?_ | refine blk_alloc ?_ _)); refine blk_put (cs := #[.string ((rd_T53 l0 x7_1).f0), .string (⟨#[]⟩ : ByteArray)]) ?_ 1 _ rfl; (with_reducible repeat (first | refine blk_drewN ?_ _ | refine blk_drew ?_ | refine blk_alloc ?_ _)); refine blk_put (cs := #[.string (⟨#[]⟩ : ByteArray), .string (⟨#[]⟩ : ByteArray)]) ?_ 0 _ rfl; (with_reducible repeat (first | refine blk_drewN ?_ _ | refine blk_drew ?_ | refine blk_alloc ?_ _)); exact BK538.out⟩
        have n1_ : Aside0 (Below w.heap.size w ((w9.setCell ⟨gb538, 0, none⟩ (.string ((rd_T53 l0 x7_1).f0))).setCell ⟨gb538, 1, none⟩ (.string ((rd_T53 l0 x7_1).f1)))) := ⟨by repeat (first | (with_reducible first | exact HB.out | apply below_alloc | apply pw_below_drewN | apply below_drew1 | refine below_set ?_ GE538.out) | exact HB.out)⟩
        (try clear BK538)
        (try clear HB)
        generalize ((w9.setCell ⟨gb538, 0, none⟩ (.string ((rd_T53 l0 x7_1).f0))).setCell ⟨gb538, 1, none⟩ (.string ((rd_T53 l0 x7_1).f1))) = w11 at n0_ n1_ ⊢
        have BK538 := n0_
        have HB := n1_
        clear n0_ n1_
        have n0_ := Aside0.mk (blk_drew BK538.out)
        have n1_ := Aside0.mk (below_drew1 HB.out)
        clear BK538
        clear HB
        have BK538 := n0_
        have HB := n1_
        clear n0_ n1_
        have q13 : (x7_1 : Int) ≤ ((l0.length : Int) : Int) := of_decide_eq_true (by first | (with_reducible assumption) | assumption)
        obtain ⟨i013, hi013, _, hsz13, _⟩ := info_parts info53
        have hroom13 : l0.length ≤ c0 := HC0.out
        have hC13 : Kd.C k53 _ (some ad537) l0.length l0 := HR0.out
        have hcut13 := cut_to (P := Try.prog) 31 53 .i64 Try.underlying31 hi013 (some ad537) l0.length c0 x7_1 (of_decide_eq_true (by first | (with_reducible assumption) | assumption)) q13 hroom13
        have hr13 := Kd.C_take (m := (x7_1 : Int).toNat) hC13 (by omega)
        have hy13 : y539.length = (x7_1 : Int).toNat := (by rw [Ny539.out, List.length_take]; omega)
        rw [← Ny539.out] at hr13
        rw [← hy13] at hcut13
        have HR542 := Aside0.mk hr13
        have HC542 := Aside0.mk (show y539.length ≤ c0 from by omega)
        clear hr13 hC13 hroom13 hi013 hsz13
        have KY13 := Aside0.mk hy13
        clear hy13
        replace q13 := eq_true q13
        refine start_ (n := 6) (S := fun w' => w'.cell? ⟨gb538, 0, none⟩ = some (.string ((rd_T53 l0 x7_1).f0)) ∧ w'.cell? ⟨gb538, 1, none⟩ = some (.string ((rd_T53 l0 x7_1).f1))) (ds := []) #[false, false, false, false, false, false] (by kernel_rfl) rfl rfl ⟨(blk_cell BK538.out 0).trans rfl, (blk_cell BK538.out 1).trans rfl⟩ (fun hHeld => ?_)
        generalize w11.drew = w12 at BK538 HB HR542 hHeld ⊢
        refine pure_ (i := 0) (N := some 12) (v := ?_) (a' := ?_) #[true, false, false, false, false, false] rfl rfl (by kernel_rfl) (fun _ _ _ h => h) (Or.inl ⟨by rfl, ?_⟩) ?_ ?_
        rotate_left
        ·intro w'
         go_simp
         with_reducible rfl
        rotate_left
        ·simp only [Act.put, List.setIfInBounds_toArray, List.set_cons_zero, List.set_cons_succ, i64_w, i32_w]
         rfl
        refine pure_ (i := 1) (N := some 13) (v := ?_) (a' := ?_) #[true, true, false, false, false, false] rfl rfl (by kernel_rfl) (fun _ _ _ h => h) (Or.inl ⟨by rfl, ?_⟩) ?_ ?_
        rotate_left
        ·intro w'
         go_simp
         with_reducible rfl
        rotate_left
        ·simp only [Act.put, List.setIfInBounds_toArray, List.set_cons_zero, List.set_cons_succ, i64_w, i32_w]
         rfl
        refine pure_ (i := 2) (N := some 14) (v := ?_) (a' := ?_) #[true, true, true, false, false, false] rfl rfl (by kernel_rfl) (fun _ _ _ h => h) (Or.inl ⟨by rfl, ?_⟩) ?_ ?_
        rotate_left
        ·intro w'
         go_simp
         with_reducible rfl
        rotate_left
        ·simp only [Act.put, List.setIfInBounds_toArray, List.set_cons_zero, List.set_cons_succ, i64_w, i32_w]
         rfl
        refine pure_ (i := 3) (N := some 15) (v := ?_) (a' := ?_) #[true, true, true, true, false, false] rfl rfl (by kernel_rfl) (fun _ _ _ h => h) (Or.inl ⟨by rfl, ?_⟩) ?_ ?_
        rotate_left
        ·intro w'
         go_simp
         with_reducible rfl
        rotate_left
        ·simp only [Act.put, List.setIfInBounds_toArray, List.set_cons_zero, List.set_cons_succ, i64_w, i32_w]
         rfl
        refine take_ (i := 4) (N := some 16) (v := ?_) (a' := ?_) #[true, true, true, true, true, false] rfl rfl (by kernel_rfl) (fun _ _ _ h => h) (Or.inl ⟨by rfl, ?_⟩) hHeld ?_ ?_
        rotate_left
        ·rintro w' ⟨s0, s1⟩
         go_simp
         with_reducible rfl
        rotate_left
        ·simp only [Act.put, List.setIfInBounds_toArray, List.set_cons_zero, List.set_cons_succ, i64_w, i32_w]
         rfl
        refine one_ (i := 5) (N := some 17) #[true, true, true, true, true, true] rfl rfl (by kernel_rfl) (by decide) (fun K hK => ?_)
        refine goes_ Try.func66 (by kernel_rfl) rfl #[.slice (some ad537) y539.length c0, .string ((rd_T53 l0 x7_1).f0)] (by rfl) rfl rfl (by (try simp only [List.map_toArray, List.map_cons, List.map_nil]); first | done | rfl | (simp only [List.length_drop, List.length_take]; rfl)) ?_
        with_reducible refine (impl_hasAttr.calls _ _ y539 ((rd_T53 l0 x7_1).f0) true _ ?side1 ?side2 A7.out).mono ?_
        (case side1 => repeat (first | exact (Kd.C_below HR542.out HB.out) | (with_reducible refine Kd.C_alloc ?_ _) | (with_reducible refine Kd.C_drewN ?_ _) | (with_reducible refine Kd.C_drew ?_)))
        (case side2 => exact HC542.out)
        rintro e w14 ⟨rfl, hb⟩
        refine ⟨_, rfl, ?_⟩
        have n0_ := Aside0.mk (blk_below (g := gb538) (o := .cells #[.string ((rd_T53 l0 x7_1).f0), .string ((rd_T53 l0 x7_1).f1)] 53 (0, 0)) (by (with_reducible repeat (first | refine blk_drewN ?_ _ | refine blk_drew ?_ | refine blk_alloc ?_ _)); exact BK538.out) hb)
        have n1_ := Aside0.mk (below_step (by repeat (first | (with_reducible first | exact HB.out | apply below_alloc | apply pw_below_drewN | apply below_drew1 | refine below_set ?_ GE538.out) | exact HB.out)) hb)
        clear BK538
        clear HB
        have BK538 := n0_
        have HB := n1_
        clear n0_ n1_
        (try clear hb)
        (try clear hb2)
        (try clear hk)
        (try clear hi)
        refine hK.out _ _ ⟨(blk_cell BK538.out 0).trans rfl, (blk_cell BK538.out 1).trans rfl⟩ (fun hHeld => ?_)
        clear hK K
        refine norm_ (a' := ?_) ?_ ?_
        rotate_left
        ·show Act.put _ (some 17) _ = _
         simp only [Act.put, List.setIfInBounds_toArray, List.set_cons_zero, List.set_cons_succ, i64_w, i32_w]
         rfl
        refine done_ (by kernel_rfl) ?_
        try go_wp2
        go_ret
        exact ⟨by first | rfl | (simp [errW_none, errW_some] <;> rfl) | (simp [*, errW_none, errW_some] <;> rfl), by repeat (first | (with_reducible first | exact HB.out | apply below_alloc | apply pw_below_drewN | apply below_drew1 | refine below_set ?_ GE538.out) | exact HB.out)⟩
       ·replace c8 := Bool.eq_false_iff.mpr c8
        subst c8
        have H1 : (impl_namesOnce.l0 k1 l0 l0 (l0.length : Int) (wrap64 (x7_1 + 1))) = some r := by rw [if_neg (show ¬ (false = true) by decide)] at H; exact H
        clear H
        have H := H1
        clear H1
        have H' := Aside0.mk H
        clear H
        have p537 : 0 ≤ (x7_1 : Int) := of_decide_eq_true (by first | (with_reducible assumption) | assumption)
        have q537 : x7_1 < (l0.length : Int) := of_decide_eq_true (by first | (with_reducible assumption) | assumption)
        obtain ⟨ad537, e537, hx537_0, hx537_1⟩ := at_T53 HR0.out x7_1 p537 q537
        cases e537
        replace hx537_0 := (HB.out.cell (World.block_lt_of_cell? w _ hx537_0)).trans hx537_0
        replace hx537_1 := (HB.out.cell (World.block_lt_of_cell? w _ hx537_1)).trans hx537_1
        replace p537 := eq_true p537
        replace q537 := eq_true q537
        try go_wp2_with (first | ((with_reducible refine gate_dst (N := 4) rfl ?_); refine box_event ?hg (N := 4) ?hd (cs := #[.string (⟨#[]⟩ : ByteArray), .string (⟨#[]⟩ : ByteArray)]) (t := 53) ?hr ?_; (case hd => rfl); (case hg => rfl); (case hr => first | (go_simp; done) | (go_simp; rfl)); intro gb538 hg w15 hbox hb; have n0_ := Aside0.mk (below_step (by repeat (first | (with_reducible first | exact HB.out | apply below_alloc | apply pw_below_drewN | apply below_drew1) | exact HB.out)) hb); have n1_ := Aside0.mk (hbox); have n2_ := Aside0.mk ((by rw [hg]; exact (below_size (by repeat (first | (with_reducible first | exact HB.out | apply below_alloc | apply pw_below_drewN | apply below_drew1) | exact HB.out))) : w.heap.size ≤ gb538)); have n3_ := Aside0.mk ((by rw [hg]; exact (below_size (by repeat (first | (with_reducible first | exact HB.out | apply below_alloc | apply pw_below_drewN | apply below_drew1) | exact HB.out))) : w.heap.size ≤ gb538)); clear HB; have HB := n0_; have BK538 := n1_; have GW538 := n2_; have GE538 := n3_; clear n0_ n1_ n2_ n3_; clear hb hbox hg; have hcz16_0 : w15.cell? ⟨gb538, 0, none⟩ = some (.string (⟨#[]⟩ : ByteArray)) := (blk_cell BK538.out 0).trans rfl; have hcz16_1 : w15.cell? ⟨gb538, 1, none⟩ = some (.string (⟨#[]⟩ : ByteArray)) := (blk_cell BK538.out 1).trans rfl; have hfz16_0 := blk_frozen BK538.out 0; have hfz16_1 := blk_frozen BK538.out 1))
        have n0_ : Aside0 (((w15.setCell ⟨gb538, 0, none⟩ (.string ((rd_T53 l0 x7_1).f0))).setCell ⟨gb538, 1, none⟩ (.string ((rd_T53 l0 x7_1).f1))).heap[gb538]? = some (.cells #[.string ((rd_T53 l0 x7_1).f0), .string ((rd_T53 l0 x7_1).f1)] 53 (0, 0))) := ⟨by (with_reducible repeat (first | refine blk_drewN ?_ _ | refine blk_drew ?_ | refine blk_alloc ?_ _)); refine blk_put (cs := #[.string ((rd_T53 l0 x7_1).f0), .string (⟨#[]⟩ : ByteArray)]) ?_ 1 _ rfl; (with_reducible repeat (first | refine blk_drewN ?_ _ | refine blk_drew ?_ | refine blk_alloc ?_ _)); refine blk_put (cs := #[.string (⟨#[]⟩ : ByteArray), .string (⟨#[]⟩ : ByteArray)]) ?_ 0 _ rfl; (with_reducible repeat (first | refine blk_drewN ?_ _ | refine blk_drew ?_ | refine blk_alloc ?_ _)); exact BK538.out⟩
        have n1_ : Aside0 (Below w.heap.size w ((w15.setCell ⟨gb538, 0, none⟩ (.string ((rd_T53 l0 x7_1).f0))).setCell ⟨gb538, 1, none⟩ (.string ((rd_T53 l0 x7_1).f1)))) := ⟨by repeat (first | (with_reducible first | exact HB.out | apply below_alloc | apply pw_below_drewN | apply below_drew1 | refine below_set ?_ GE538.out) | exact HB.out)⟩
        (try clear BK538)
        (try clear HB)
        generalize ((w15.setCell ⟨gb538, 0, none⟩ (.string ((rd_T53 l0 x7_1).f0))).setCell ⟨gb538, 1, none⟩ (.string ((rd_T53 l0 x7_1).f1))) = w17 at n0_ n1_ ⊢
        have BK538 := n0_
        have HB := n1_
        clear n0_ n1_
        have n0_ := Aside0.mk (blk_drew BK538.out)
        have n1_ := Aside0.mk (below_drew1 HB.out)
        clear BK538
        clear HB
        have BK538 := n0_
        have HB := n1_
        clear n0_ n1_
        have q19 : (x7_1 : Int) ≤ ((l0.length : Int) : Int) := of_decide_eq_true (by first | (with_reducible assumption) | assumption)
        obtain ⟨i019, hi019, _, hsz19, _⟩ := info_parts info53
        have hroom19 : l0.length ≤ c0 := HC0.out
        have hC19 : Kd.C k53 _ (some ad537) l0.length l0 := HR0.out
        have hcut19 := cut_to (P := Try.prog) 31 53 .i64 Try.underlying31 hi019 (some ad537) l0.length c0 x7_1 (of_decide_eq_true (by first | (with_reducible assumption) | assumption)) q19 hroom19
        have hr19 := Kd.C_take (m := (x7_1 : Int).toNat) hC19 (by omega)
        have hy19 : y539.length = (x7_1 : Int).toNat := (by rw [Ny539.out, List.length_take]; omega)
        rw [← Ny539.out] at hr19
        rw [← hy19] at hcut19
        have HR542 := Aside0.mk hr19
        have HC542 := Aside0.mk (show y539.length ≤ c0 from by omega)
        clear hr19 hC19 hroom19 hi019 hsz19
        have KY19 := Aside0.mk hy19
        clear hy19
        replace q19 := eq_true q19
        refine start_ (n := 6) (S := fun w' => w'.cell? ⟨gb538, 0, none⟩ = some (.string ((rd_T53 l0 x7_1).f0)) ∧ w'.cell? ⟨gb538, 1, none⟩ = some (.string ((rd_T53 l0 x7_1).f1))) (ds := []) #[false, false, false, false, false, false] (by kernel_rfl) rfl rfl ⟨(blk_cell BK538.out 0).trans rfl, (blk_cell BK538.out 1).trans rfl⟩ (fun hHeld => ?_)
        generalize w17.drew = w18 at BK538 HB HR542 hHeld ⊢
        refine pure_ (i := 0) (N := some 12) (v := ?_) (a' := ?_) #[true, false, false, false, false, false] rfl rfl (by kernel_rfl) (fun _ _ _ h => h) (Or.inl ⟨by rfl, ?_⟩) ?_ ?_
        rotate_left
        ·intro w'
         go_simp
         with_reducible rfl
        rotate_left
        ·simp only [Act.put, List.setIfInBounds_toArray, List.set_cons_zero, List.set_cons_succ, i64_w, i32_w]
         rfl
        refine pure_ (i := 1) (N := some 13) (v := ?_) (a' := ?_) #[true, true, false, false, false, false] rfl rfl (by kernel_rfl) (fun _ _ _ h => h) (Or.inl ⟨by rfl, ?_⟩) ?_ ?_
        rotate_left
        ·intro w'
         go_simp
         with_reducible rfl
        rotate_left
        ·simp only [Act.put, List.setIfInBounds_toArray, List.set_cons_zero, List.set_cons_succ, i64_w, i32_w]
         rfl
        refine pure_ (i := 2) (N := some 14) (v := ?_) (a' := ?_) #[true, true, true, false, false, false] rfl rfl (by kernel_rfl) (fun _ _ _ h => h) (Or.inl ⟨by rfl, ?_⟩) ?_ ?_
        rotate_left
        ·intro w'
         go_simp
         with_reducible rfl
        rotate_left
        ·simp only [Act.put, List.setIfInBounds_toArray, List.set_cons_zero, List.set_cons_succ, i64_w, i32_w]
         rfl
        refine pure_ (i := 3) (N := some 15) (v := ?_) (a' := ?_) #[true, true, true, true, false, false] rfl rfl (by kernel_rfl) (fun _ _ _ h => h) (Or.inl ⟨by rfl, ?_⟩) ?_ ?_
        rotate_left
        ·intro w'
         go_simp
         with_reducible rfl
        rotate_left
        ·simp only [Act.put, List.setIfInBounds_toArray, List.set_cons_zero, List.set_cons_succ, i64_w, i32_w]
         rfl
        refine take_ (i := 4) (N := some 16) (v := ?_) (a' := ?_) #[true, true, true, true, true, false] rfl rfl (by kernel_rfl) (fun _ _ _ h => h) (Or.inl ⟨by rfl, ?_⟩) hHeld ?_ ?_
        rotate_left
        ·rintro w' ⟨s0, s1⟩
         go_simp
         with_reducible rfl
        rotate_left
        ·simp only [Act.put, List.setIfInBounds_toArray, List.set_cons_zero, List.set_cons_succ, i64_w, i32_w]
         rfl
        refine one_ (i := 5) (N := some 17) #[true, true, true, true, true, true] rfl rfl (by kernel_rfl) (by decide) (fun K hK => ?_)
        refine goes_ Try.func66 (by kernel_rfl) rfl #[.slice (some ad537) y539.length c0, .string ((rd_T53 l0 x7_1).f0)] (by rfl) rfl rfl (by (try simp only [List.map_toArray, List.map_cons, List.map_nil]); first | done | rfl | (simp only [List.length_drop, List.length_take]; rfl)) ?_
        with_reducible refine (impl_hasAttr.calls _ _ y539 ((rd_T53 l0 x7_1).f0) false _ ?side1 ?side2 A7.out).mono ?_
        (case side1 => repeat (first | exact (Kd.C_below HR542.out HB.out) | (with_reducible refine Kd.C_alloc ?_ _) | (with_reducible refine Kd.C_drewN ?_ _) | (with_reducible refine Kd.C_drew ?_)))
        (case side2 => exact HC542.out)
        rintro e w20 ⟨rfl, hb⟩
        refine ⟨_, rfl, ?_⟩
        have n0_ := Aside0.mk (blk_below (g := gb538) (o := .cells #[.string ((rd_T53 l0 x7_1).f0), .string ((rd_T53 l0 x7_1).f1)] 53 (0, 0)) (by (with_reducible repeat (first | refine blk_drewN ?_ _ | refine blk_drew ?_ | refine blk_alloc ?_ _)); exact BK538.out) hb)
        have n1_ := Aside0.mk (below_step (by repeat (first | (with_reducible first | exact HB.out | apply below_alloc | apply pw_below_drewN | apply below_drew1 | refine below_set ?_ GE538.out) | exact HB.out)) hb)
        clear BK538
        clear HB
        have BK538 := n0_
        have HB := n1_
        clear n0_ n1_
        (try clear hb)
        (try clear hb2)
        (try clear hk)
        (try clear hi)
        refine hK.out _ _ ⟨(blk_cell BK538.out 0).trans rfl, (blk_cell BK538.out 1).trans rfl⟩ (fun hHeld => ?_)
        clear hK K
        refine norm_ (a' := ?_) ?_ ?_
        rotate_left
        ·show Act.put _ (some 17) _ = _
         simp only [Act.put, List.setIfInBounds_toArray, List.set_cons_zero, List.set_cons_succ, i64_w, i32_w]
         rfl
        refine done_ (by kernel_rfl) ?_
        try go_wp2
        go_roundg k1
        case measure => have := HK1.out; omega
        case rel => exact ⟨(wrap64 (x7_1 + 1)), (by first | rfl | (simp; done) | (simp [*]; done)), H', ⟨by have := HK1.out; omega⟩, ⟨by repeat (first | (with_reducible first | exact HB.out | apply below_alloc | apply pw_below_drewN | apply below_drew1 | refine below_set ?_ GE538.out) | exact HB.out)⟩⟩
      ·rw [if_neg c6] at H
       exact absurd H (by simp)
     ·rw [if_neg c4] at H
      exact absurd H (by simp)
    ·rw [if_neg c3] at H
     exact absurd H (by simp)
   ·rw [if_neg c2] at H
    have c2b0 : decide (x7_1 < (l0.length : Int)) = false := decide_eq_false c2
    clear c2
    obtain rfl := Option.some.inj H
    go_wp2
    go_ret
    exact ⟨by first | rfl | (simp [errW_none, errW_some] <;> rfl) | (simp [*, errW_none, errW_some] <;> rfl), by repeat (first | (with_reducible first | exact HB.out | apply below_alloc | apply pw_below_drewN | apply below_drew1) | exact HB.out)⟩
end Go.Proofs.Ytlocaaebgghkbaa.A
namespace Go.Proofs.Ytlocaaebgghkbaa.A
open Go.RowKit Go.Proofs.YtlocaaebgghkbaaW.PrintWords Go.Proofs.YtlocaaebgghkbaaW.PrintLast Go.Proofs.YtlocaaebgghkbaaW.PrintMore
attribute [local go_sem] max2_int min2_int max_two min_two max_three min_three max_four min_four   -- for this text's walks alone
set_option linter.unusedVariables false
set_option linter.unusedSimpArgs false
def impl_itemOk.f (k : Nat) (a0_0 : Int) (a0_1 : Int) (a0_2 : ByteArray) (l0_3 : List (S53)) (a0_4 : ByteArray) (a0_5 : Int) (l0_6 : List Int) : Option (Bool) := if a0_0 = 2 then (if a0_4.toList = ([] : List UInt8) then (if a0_2.toList = ([] : List UInt8) then (some false) else ((impl_inRange.f a0_1 0 2).bind fun t545 => (if t545 = true then ((impl_namesOnce.f k l0_3).bind fun t546 => (some t546)) else (some false)))) else (some false)) else (if a0_0 = 3 then (if a0_2.toList = ([] : List UInt8) then (if a0_1 = 0 then (if (l0_3.length : Int) = 0 then (some ((l0_6.length : Int) == 0)) else (some false)) else (some false)) else (some false)) else (if a0_0 = 4 then (if a0_2.toList = ([] : List UInt8) then (if a0_1 = 0 then (if (l0_3.length : Int) = 0 then (some ((l0_6.length : Int) == 0)) else (some false)) else (some false)) else (some false)) else (if a0_0 = 5 then (if a0_2.toList = ([] : List UInt8) then (if a0_1 = 0 then (if (l0_3.length : Int) = 0 then (some ((l0_6.length : Int) == 0)) else (some false)) else (some false)) else (some false)) else (some false))))
theorem impl_itemOk.mono : ∀ a0 a1 a2 a3 a4 a5 a6 k, LeO (impl_itemOk.f k a0 a1 a2 a3 a4 a5 a6) (impl_itemOk.f (k + 1) a0 a1 a2 a3 a4 a5 a6) := by
 intro a0 a1 a2 a3 a4 a5 a6 k
 unfold impl_itemOk.f
 repeat' first
   | (with_reducible exact impl_namesOnce.mono _ _)
   | (with_reducible exact LeO.refl _)
   | (with_reducible exact LeO.none _)
   | (with_reducible refine LeO.ite ?_ ?_)
   | (with_reducible refine LeO.bind ?_ (fun _ => ?_))
   | exact impl_namesOnce.mono _ _
   | exact LeO.none _
   | refine LeO.ite ?_ ?_
   | refine LeO.bind ?_ (fun _ => ?_)
set_option maxHeartbeats 8000000 in
set_option maxRecDepth 100000 in
theorem impl_itemOk.calls (k : Nat) (a0_0 : Int) (a0_1 : Int) (a0_2 : ByteArray) (A0_3 : Option Addr) (c0_3 : Nat) (l0_3 : List (S53)) (a0_4 : ByteArray) (a0_5 : Int) (A0_6 : Option Addr) (c0_6 : Nat) (l0_6 : List Int) (r : Bool) (w : World) (hr0_3 : Kd.C k53 w A0_3 l0_3.length l0_3) (hc0_3 : l0_3.length ≤ c0_3) (hr0_6 : Kd.C (Kd.int .i64) w A0_6 l0_6.length l0_6) (hc0_6 : l0_6.length ≤ c0_6) (h : impl_itemOk.f k a0_0 a0_1 a0_2 l0_3 a0_4 a0_5 l0_6 = some r) :
  Calls Try.prog 110 #[.agg #[.int .i64 a0_0, .int .i64 a0_1, .string a0_2, .slice A0_3 l0_3.length c0_3, .string a0_4, .int .i64 a0_5, .slice A0_6 l0_6.length c0_6]] w fun e w' => e = .returned (.bool r) ∧ Below w.heap.size w w' := by
 have hu89 := Try.underlying89
 have HR0_3 := Aside0.mk hr0_3
 have HC0_3 := Aside0.mk hc0_3
 clear hr0_3 hc0_3
 have HR0_6 := Aside0.mk hr0_6
 have HC0_6 := Aside0.mk hc0_6
 clear hr0_6 hc0_6
 have HB := Aside0.mk (Below.refl w.heap.size w)
 have H : (if a0_0 = 2 then (if a0_4.toList = ([] : List UInt8) then (if a0_2.toList = ([] : List UInt8) then (some false) else ((impl_inRange.f a0_1 0 2).bind fun t545 => (if t545 = true then ((impl_namesOnce.f k l0_3).bind fun t546 => (some t546)) else (some false)))) else (some false)) else (if a0_0 = 3 then (if a0_2.toList = ([] : List UInt8) then (if a0_1 = 0 then (if (l0_3.length : Int) = 0 then (some ((l0_6.length : Int) == 0)) else (some false)) else (some false)) else (some false)) else (if a0_0 = 4 then (if a0_2.toList = ([] : List UInt8) then (if a0_1 = 0 then (if (l0_3.length : Int) = 0 then (some ((l0_6.length : Int) == 0)) else (some false)) else (some false)) else (some false)) else (if a0_0 = 5 then (if a0_2.toList = ([] : List UInt8) then (if a0_1 = 0 then (if (l0_3.length : Int) = 0 then (some ((l0_6.length : Int) == 0)) else (some false)) else (some false)) else (some false)) else (some false))))) = some r := h
 clear h
 by_cases c2 : a0_0 = 2
 ·rw [if_pos c2] at H
  have c2b0 : (a0_0 == 2) = true := beq_iff_eq.mpr c2
  have c2b1 : (a0_0 != 2) = false := bne_eq_false_iff_eq.mpr c2
  clear c2
  by_cases c3 : a0_4.toList = ([] : List UInt8)
  ·rw [if_pos c3] at H
   have c3b0 : (a0_4.toList == ([] : List UInt8)) = true := beq_iff_eq.mpr c3
   have c3b1 : (a0_4.toList != ([] : List UInt8)) = false := bne_eq_false_iff_eq.mpr c3
   clear c3
   by_cases c4 : a0_2.toList = ([] : List UInt8)
   ·rw [if_pos c4] at H
    have c4b0 : (a0_2.toList == ([] : List UInt8)) = true := beq_iff_eq.mpr c4
    have c4b1 : (a0_2.toList != ([] : List UInt8)) = false := bne_eq_false_iff_eq.mpr c4
    clear c4
    obtain rfl := Option.some.inj H
    go_enter Try.func110, Try.ntmps110
    go_wp2_with (first | ((with_reducible refine gate_dst (N := 1) rfl ?_); (try (refine gate_guard (by rfl) ?_; dsimp only)); refine box_event ?hg (N := 1) ?hd (cs := #[.int .i64 a0_0, .int .i64 a0_1, .string a0_2, .slice A0_3 l0_3.length c0_3, .string a0_4, .int .i64 a0_5, .slice A0_6 l0_6.length c0_6]) (t := 89) ?hr ?_; (case hd => rfl); (case hg => rfl); (case hr => first | (go_simp; done) | (go_simp; rfl)); intro gb544 hg w5 hbox hb; have n0_ := Aside0.mk (below_step (by repeat (first | (with_reducible first | exact HB.out | apply below_alloc | apply pw_below_drewN | apply below_drew1) | exact HB.out)) hb); have n1_ := Aside0.mk (hbox); have n2_ := Aside0.mk ((by rw [hg]; exact (below_size (by repeat (first | (with_reducible first | exact HB.out | apply below_alloc | apply pw_below_drewN | apply below_drew1) | exact HB.out))) : w.heap.size ≤ gb544)); have n3_ := Aside0.mk ((by rw [hg]; exact (below_size (by repeat (first | (with_reducible first | exact HB.out | apply below_alloc | apply pw_below_drewN | apply below_drew1) | exact HB.out))) : w.heap.size ≤ gb544)); clear HB; have HB := n0_; have BK544 := n1_; have GW544 := n2_; have GE544 := n3_; clear n0_ n1_ n2_ n3_; clear hb hbox hg; have hcz6_0 : w5.cell? ⟨gb544, 0, none⟩ = some (.int .i64 a0_0) := (blk_cell BK544.out 0).trans rfl; have hcz6_1 : w5.cell? ⟨gb544, 1, none⟩ = some (.int .i64 a0_1) := (blk_cell BK544.out 1).trans rfl; have hcz6_2 : w5.cell? ⟨gb544, 2, none⟩ = some (.string a0_2) := (blk_cell BK544.out 2).trans rfl; have hcz6_3 : w5.cell? ⟨gb544, 3, none⟩ = some (.slice A0_3 l0_3.length c0_3) := (blk_cell BK544.out 3).trans rfl; have hcz6_4 : w5.cell? ⟨gb544, 4, none⟩ = some (.string a0_4) := (blk_cell BK544.out 4).trans rfl; have hcz6_5 : w5.cell? ⟨gb544, 5, none⟩ = some (.int .i64 a0_5) := (blk_cell BK544.out 5).trans rfl; have hcz6_6 : w5.cell? ⟨gb544, 6, none⟩ = some (.slice A0_6 l0_6.length c0_6) := (blk_cell BK544.out 6).trans rfl; have hfz6_0 := blk_frozen BK544.out 0; have hfz6_1 := blk_frozen BK544.out 1; have hfz6_2 := blk_frozen BK544.out 2; have hfz6_3 := blk_frozen BK544.out 3; have hfz6_4 := blk_frozen BK544.out 4; have hfz6_5 := blk_frozen BK544.out 5; have hfz6_6 := blk_frozen BK544.out 6))
    go_ret
    exact ⟨by first | rfl | (simp [errW_none, errW_some] <;> rfl) | (simp [*, errW_none, errW_some] <;> rfl), by repeat (first | (with_reducible first | exact HB.out | apply below_alloc | apply pw_below_drewN | apply below_drew1 | refine below_set ?_ GE544.out) | exact HB.out)⟩
   ·rw [if_neg c4] at H
    have c4b0 : (a0_2.toList == ([] : List UInt8)) = false := beq_eq_false_iff_ne.mpr c4
    have c4b1 : (a0_2.toList != ([] : List UInt8)) = true := bne_iff_ne.mpr c4
    replace H := Option.bind_eq_some_iff.mp H
    obtain ⟨t545, A70, H⟩ := H
    replace H : (if t545 = true then ((impl_namesOnce.f k l0_3).bind fun t546 => (some t546)) else (some false)) = some r := H
    have A7 := Aside0.mk A70
    clear A70
    by_cases c8 : t545 = true
    ·subst c8
     have H1 : ((impl_namesOnce.f k l0_3).bind fun t546 => (some t546)) = some r := by rw [if_pos rfl] at H; exact H
     clear H
     have H := H1
     clear H1
     replace H := Option.bind_eq_some_iff.mp H
     obtain ⟨t546, A90, H⟩ := H
     replace H : (some t546) = some r := H
     have A9 := Aside0.mk A90
     clear A90
     obtain rfl := Option.some.inj H
     go_enter Try.func110, Try.ntmps110
     go_wp2_with (first | ((with_reducible refine gate_dst (N := 1) rfl ?_); (try (refine gate_guard (by rfl) ?_; dsimp only)); refine box_event ?hg (N := 1) ?hd (cs := #[.int .i64 a0_0, .int .i64 a0_1, .string a0_2, .slice A0_3 l0_3.length c0_3, .string a0_4, .int .i64 a0_5, .slice A0_6 l0_6.length c0_6]) (t := 89) ?hr ?_; (case hd => rfl); (case hg => rfl); (case hr => first | (go_simp; done) | (go_simp; rfl)); intro gb544 hg w10 hbox hb; have n0_ := Aside0.mk (below_step (by repeat (first | (with_reducible first | exact HB.out | apply below_alloc | apply pw_below_drewN | apply below_drew1) | exact HB.out)) hb); have n1_ := Aside0.mk (hbox); have n2_ := Aside0.mk ((by rw [hg]; exact (below_size (by repeat (first | (with_reducible first | exact HB.out | apply below_alloc | apply pw_below_drewN | apply below_drew1) | exact HB.out))) : w.heap.size ≤ gb544)); have n3_ := Aside0.mk ((by rw [hg]; exact (below_size (by repeat (first | (with_reducible first | exact HB.out | apply below_alloc | apply pw_below_drewN | apply below_drew1) | exact HB.out))) : w.heap.size ≤ gb544)); clear HB; have HB := n0_; have BK544 := n1_; have GW544 := n2_; have GE544 := n3_; clear n0_ n1_ n2_ n3_; clear hb hbox hg; have hcz11_0 : w10.cell? ⟨gb544, 0, none⟩ = some (.int .i64 a0_0) := (blk_cell BK544.out 0).trans rfl; have hcz11_1 : w10.cell? ⟨gb544, 1, none⟩ = some (.int .i64 a0_1) := (blk_cell BK544.out 1).trans rfl; have hcz11_2 : w10.cell? ⟨gb544, 2, none⟩ = some (.string a0_2) := (blk_cell BK544.out 2).trans rfl; have hcz11_3 : w10.cell? ⟨gb544, 3, none⟩ = some (.slice A0_3 l0_3.length c0_3) := (blk_cell BK544.out 3).trans rfl; have hcz11_4 : w10.cell? ⟨gb544, 4, none⟩ = some (.string a0_4) := (blk_cell BK544.out 4).trans rfl; have hcz11_5 : w10.cell? ⟨gb544, 5, none⟩ = some (.int .i64 a0_5) := (blk_cell BK544.out 5).trans rfl; have hcz11_6 : w10.cell? ⟨gb544, 6, none⟩ = some (.slice A0_6 l0_6.length c0_6) := (blk_cell BK544.out 6).trans rfl; have hfz11_0 := blk_frozen BK544.out 0; have hfz11_1 := blk_frozen BK544.out 1; have hfz11_2 := blk_frozen BK544.out 2; have hfz11_3 := blk_frozen BK544.out 3; have hfz11_4 := blk_frozen BK544.out 4; have hfz11_5 := blk_frozen BK544.out 5; have hfz11_6 := blk_frozen BK544.out 6) | (go_at_call 48; (with_reducible refine (impl_inRange.calls a0_1 0 2 true _ A7.out).mono ?_); rintro e w' ⟨rfl, ⟨nd, rfl⟩⟩) | (go_at_call 149; (with_reducible refine (impl_namesOnce.calls k _ _ l0_3 t546 _ ?side1 ?side2 A9.out).mono ?_); (case side1 => repeat (first | exact (Kd.C_below HR0_3.out (by repeat (first | (with_reducible first | exact HB.out | apply below_alloc | apply pw_below_drewN | apply below_drew1 | refine below_set ?_ GE544.out) | exact HB.out))) | (with_reducible refine Kd.C_alloc ?_ _) | (with_reducible refine Kd.C_drewN ?_ _) | (with_reducible refine Kd.C_drew ?_))); (case side2 => exact HC0_3.out); rintro e w12 ⟨rfl, hb⟩; have n0_ := Aside0.mk (blk_below (g := gb544) (o := .cells #[.int .i64 a0_0, .int .i64 a0_1, .string a0_2, .slice A0_3 l0_3.length c0_3, .string a0_4, .int .i64 a0_5, .slice A0_6 l0_6.length c0_6] 89 (0, 0)) (by (with_reducible repeat (first | refine blk_drewN ?_ _ | refine blk_drew ?_ | refine blk_alloc ?_ _)); exact BK544.out) hb); have n1_ := Aside0.mk (below_step (by repeat (first | (with_reducible first | exact HB.out | apply below_alloc | apply pw_below_drewN | apply below_drew1 | refine below_set ?_ GE544.out) | exact HB.out)) hb); clear BK544; clear HB; have BK544 := n0_; have HB := n1_; clear n0_ n1_; (try clear hb); (try clear hb2); (try clear hk); (try clear hi)))
     go_ret
     exact ⟨by first | rfl | (simp [errW_none, errW_some] <;> rfl) | (simp [*, errW_none, errW_some] <;> rfl), by repeat (first | (with_reducible first | exact HB.out | apply below_alloc | apply pw_below_drewN | apply below_drew1 | refine below_set ?_ GE544.out) | exact HB.out)⟩
    ·replace c8 := Bool.eq_false_iff.mpr c8
     subst c8
     have H1 : (some false) = some r := by rw [if_neg (show ¬ (false = true) by decide)] at H; exact H
     clear H
     have H := H1
     clear H1
     obtain rfl := Option.some.inj H
     go_enter Try.func110, Try.ntmps110
     go_wp2_with (first | ((with_reducible refine gate_dst (N := 1) rfl ?_); (try (refine gate_guard (by rfl) ?_; dsimp only)); refine box_event ?hg (N := 1) ?hd (cs := #[.int .i64 a0_0, .int .i64 a0_1, .string a0_2, .slice A0_3 l0_3.length c0_3, .string a0_4, .int .i64 a0_5, .slice A0_6 l0_6.length c0_6]) (t := 89) ?hr ?_; (case hd => rfl); (case hg => rfl); (case hr => first | (go_simp; done) | (go_simp; rfl)); intro gb544 hg w13 hbox hb; have n0_ := Aside0.mk (below_step (by repeat (first | (with_reducible first | exact HB.out | apply below_alloc | apply pw_below_drewN | apply below_drew1) | exact HB.out)) hb); have n1_ := Aside0.mk (hbox); have n2_ := Aside0.mk ((by rw [hg]; exact (below_size (by repeat (first | (with_reducible first | exact HB.out | apply below_alloc | apply pw_below_drewN | apply below_drew1) | exact HB.out))) : w.heap.size ≤ gb544)); have n3_ := Aside0.mk ((by rw [hg]; exact (below_size (by repeat (first | (with_reducible first | exact HB.out | apply below_alloc | apply pw_below_drewN | apply below_drew1) | exact HB.out))) : w.heap.size ≤ gb544)); clear HB; have HB := n0_; have BK544 := n1_; have GW544 := n2_; have GE544 := n3_; clear n0_ n1_ n2_ n3_; clear hb hbox hg; have hcz14_0 : w13.cell? ⟨gb544, 0, none⟩ = some (.int .i64 a0_0) := (blk_cell BK544.out 0).trans rfl; have hcz14_1 : w13.cell? ⟨gb544, 1, none⟩ = some (.int .i64 a0_1) := (blk_cell BK544.out 1).trans rfl; have hcz14_2 : w13.cell? ⟨gb544, 2, none⟩ = some (.string a0_2) := (blk_cell BK544.out 2).trans rfl; have hcz14_3 : w13.cell? ⟨gb544, 3, none⟩ = some (.slice A0_3 l0_3.length c0_3) := (blk_cell BK544.out 3).trans rfl; have hcz14_4 : w13.cell? ⟨gb544, 4, none⟩ = some (.string a0_4) := (blk_cell BK544.out 4).trans rfl; have hcz14_5 : w13.cell? ⟨gb544, 5, none⟩ = some (.int .i64 a0_5) := (blk_cell BK544.out 5).trans rfl; have hcz14_6 : w13.cell? ⟨gb544, 6, none⟩ = some (.slice A0_6 l0_6.length c0_6) := (blk_cell BK544.out 6).trans rfl; have hfz14_0 := blk_frozen BK544.out 0; have hfz14_1 := blk_frozen BK544.out 1; have hfz14_2 := blk_frozen BK544.out 2; have hfz14_3 := blk_frozen BK544.out 3; have hfz14_4 := blk_frozen BK544.out 4; have hfz14_5 := blk_frozen BK544.out 5; have hfz14_6 := blk_frozen BK544.out 6) | (go_at_call 48; (with_reducible refine (impl_inRange.calls a0_1 0 2 false _ A7.out).mono ?_); rintro e w' ⟨rfl, ⟨nd, rfl⟩⟩))
     go_ret
     exact ⟨by first | rfl | (simp [errW_none, errW_some] <;> rfl) | (simp [*, errW_none, errW_some] <;> rfl), by repeat (first | (with_reducible first | exact HB.out | apply below_alloc | apply pw_below_drewN | apply below_drew1 | refine below_set ?_ GE544.out) | exact HB.out)⟩
  ·rw [if_neg c3] at H
   have c3b0 : (a0_4.toList == ([] : List UInt8)) = false := beq_eq_false_iff_ne.mpr c3
   have c3b1 : (a0_4.toList != ([] : List UInt8)) = true := bne_iff_ne.mpr c3
   obtain rfl := Option.some.inj H
   go_enter Try.func110, Try.ntmps110
   go_wp2_with (first | ((with_reducible refine gate_dst (N := 1) rfl ?_); (try (refine gate_guard (by rfl) ?_; dsimp only)); refine box_event ?hg (N := 1) ?hd (cs := #[.int .i64 a0_0, .int .i64 a0_1, .string a0_2, .slice A0_3 l0_3.length c0_3, .string a0_4, .int .i64 a0_5, .slice A0_6 l0_6.length c0_6]) (t := 89) ?hr ?_; (case hd => rfl); (case hg => rfl); (case hr => first | (go_simp; done) | (go_simp; rfl)); intro gb544 hg w15 hbox hb; have n0_ := Aside0.mk (below_step (by repeat (first | (with_reducible first | exact HB.out | apply below_alloc | apply pw_below_drewN | apply below_drew1) | exact HB.out)) hb); have n1_ := Aside0.mk (hbox); have n2_ := Aside0.mk ((by rw [hg]; exact (below_size (by repeat (first | (with_reducible first | exact HB.out | apply below_alloc | apply pw_below_drewN | apply below_drew1) | exact HB.out))) : w.heap.size ≤ gb544)); have n3_ := Aside0.mk ((by rw [hg]; exact (below_size (by repeat (first | (with_reducible first | exact HB.out | apply below_alloc | apply pw_below_drewN | apply below_drew1) | exact HB.out))) : w.heap.size ≤ gb544)); clear HB; have HB := n0_; have BK544 := n1_; have GW544 := n2_; have GE544 := n3_; clear n0_ n1_ n2_ n3_; clear hb hbox hg; have hcz16_0 : w15.cell? ⟨gb544, 0, none⟩ = some (.int .i64 a0_0) := (blk_cell BK544.out 0).trans rfl; have hcz16_1 : w15.cell? ⟨gb544, 1, none⟩ = some (.int .i64 a0_1) := (blk_cell BK544.out 1).trans rfl; have hcz16_2 : w15.cell? ⟨gb544, 2, none⟩ = some (.string a0_2) := (blk_cell BK544.out 2).trans rfl; have hcz16_3 : w15.cell? ⟨gb544, 3, none⟩ = some (.slice A0_3 l0_3.length c0_3) := (blk_cell BK544.out 3).trans rfl; have hcz16_4 : w15.cell? ⟨gb544, 4, none⟩ = some (.string a0_4) := (blk_cell BK544.out 4).trans rfl; have hcz16_5 : w15.cell? ⟨gb544, 5, none⟩ = some (.int .i64 a0_5) := (blk_cell BK544.out 5).trans rfl; have hcz16_6 : w15.cell? ⟨gb544, 6, none⟩ = some (.slice A0_6 l0_6.length c0_6) := (blk_cell BK544.out 6).trans rfl; have hfz16_0 := blk_frozen BK544.out 0; have hfz16_1 := blk_frozen BK544.out 1; have hfz16_2 := blk_frozen BK544.out 2; have hfz16_3 := blk_frozen BK544.out 3; have hfz16_4 := blk_frozen BK544.out 4; have hfz16_5 := blk_frozen BK544.out 5; have hfz16_6 := blk_frozen BK544.out 6))
   go_ret
   exact ⟨by first | rfl | (simp [errW_none, errW_some] <;> rfl) | (simp [*, errW_none, errW_some] <;> rfl), by repeat (first | (with_reducible first | exact HB.out | apply below_alloc | apply pw_below_drewN | apply below_drew1 | refine below_set ?_ GE544.out) | exact HB.out)⟩
 ·rw [if_neg c2] at H
  have c2b0 : (a0_0 == 2) = false := beq_eq_false_iff_ne.mpr c2
  have c2b1 : (a0_0 != 2) = true := bne_iff_ne.mpr c2
  by_cases c17 : a0_0 = 3
  ·rw [if_pos c17] at H
   have c17b0 : (a0_0 == 3) = true := beq_iff_eq.mpr c17
   have c17b1 : (a0_0 != 3) = false := bne_eq_false_iff_eq.mpr c17
   clear c17
   by_cases c18 : a0_2.toList = ([] : List UInt8)
   ·rw [if_pos c18] at H
    have c18b0 : (a0_2.toList == ([] : List UInt8)) = true := beq_iff_eq.mpr c18
    have c18b1 : (a0_2.toList != ([] : List UInt8)) = false := bne_eq_false_iff_eq.mpr c18
    clear c18
    by_cases c19 : a0_1 = 0
    ·rw [if_pos c19] at H
     have c19b0 : (a0_1 == 0) = true := beq_iff_eq.mpr c19
     have c19b1 : (a0_1 != 0) = false := bne_eq_false_iff_eq.mpr c19
     clear c19
     by_cases c20 : (l0_3.length : Int) = 0
     ·rw [if_pos c20] at H
      have c20b0 : ((l0_3.length : Int) == 0) = true := beq_iff_eq.mpr c20
      have c20b1 : ((l0_3.length : Int) != 0) = false := bne_eq_false_iff_eq.mpr c20
      clear c20
      obtain rfl := Option.some.inj H
      go_enter Try.func110, Try.ntmps110
      go_wp2_with (first | ((with_reducible refine gate_dst (N := 1) rfl ?_); (try (refine gate_guard (by rfl) ?_; dsimp only)); refine box_event ?hg (N := 1) ?hd (cs := #[.int .i64 a0_0, .int .i64 a0_1, .string a0_2, .slice A0_3 l0_3.length c0_3, .string a0_4, .int .i64 a0_5, .slice A0_6 l0_6.length c0_6]) (t := 89) ?hr ?_; (case hd => rfl); (case hg => rfl); (case hr => first | (go_simp; done) | (go_simp; rfl)); intro gb544 hg w21 hbox hb; have n0_ := Aside0.mk (below_step (by repeat (first | (with_reducible first | exact HB.out | apply below_alloc | apply pw_below_drewN | apply below_drew1) | exact HB.out)) hb); have n1_ := Aside0.mk (hbox); have n2_ := Aside0.mk ((by rw [hg]; exact (below_size (by repeat (first | (with_reducible first | exact HB.out | apply below_alloc | apply pw_below_drewN | apply below_drew1) | exact HB.out))) : w.heap.size ≤ gb544)); have n3_ := Aside0.mk ((by rw [hg]; exact (below_size (by repeat (first | (with_reducible first | exact HB.out | apply below_alloc | apply pw_below_drewN | apply below_drew1) | exact HB.out))) : w.heap.size ≤ gb544)); clear HB; have HB := n0_; have BK544 := n1_; have GW544 := n2_; have GE544 := n3_; clear n0_ n1_ n2_ n3_; clear hb hbox hg; have hcz22_0 : w21.cell? ⟨gb544, 0, none⟩ = some (.int .i64 a0_0) := (blk_cell BK544.out 0).trans rfl; have hcz22_1 : w21.cell? ⟨gb544, 1, none⟩ = some (.int .i64 a0_1) := (blk_cell BK544.out 1).trans rfl; have hcz22_2 : w21.cell? ⟨gb544, 2, none⟩ = some (.string a0_2) := (blk_cell BK544.out 2).trans rfl; have hcz22_3 : w21.cell? ⟨gb544, 3, none⟩ = some (.slice A0_3 l0_3.length c0_3) := (blk_cell BK544.out 3).trans rfl; have hcz22_4 : w21.cell? ⟨gb544, 4, none⟩ = some (.string a0_4) := (blk_cell BK544.out 4).trans rfl; have hcz22_5 : w21.cell? ⟨gb544, 5, none⟩ = some (.int .i64 a0_5) := (blk_cell BK544.out 5).trans rfl; have hcz22_6 : w21.cell? ⟨gb544, 6, none⟩ = some (.slice A0_6 l0_6.length c0_6) := (blk_cell BK544.out 6).trans rfl; have hfz22_0 := blk_frozen BK544.out 0; have hfz22_1 := blk_frozen BK544.out 1; have hfz22_2 := blk_frozen BK544.out 2; have hfz22_3 := blk_frozen BK544.out 3; have hfz22_4 := blk_frozen BK544.out 4; have hfz22_5 := blk_frozen BK544.out 5; have hfz22_6 := blk_frozen BK544.out 6))
      go_ret
      exact ⟨by first | rfl | (simp [errW_none, errW_some] <;> rfl) | (simp [*, errW_none, errW_some] <;> rfl), by repeat (first | (with_reducible first | exact HB.out | apply below_alloc | apply pw_below_drewN | apply below_drew1 | refine below_set ?_ GE544.out) | exact HB.out)⟩
     ·rw [if_neg c20] at H
      have c20b0 : ((l0_3.length : Int) == 0) = false := beq_eq_false_iff_ne.mpr c20
      have c20b1 : ((l0_3.length : Int) != 0) = true := bne_iff_ne.mpr c20
      have c20b2 : ¬ (l0_3 = []) := fun h_ => c20 (by rw [h_]; rfl)
      obtain rfl := Option.some.inj H
      go_enter Try.func110, Try.ntmps110
      go_wp2_with (first | ((with_reducible refine gate_dst (N := 1) rfl ?_); (try (refine gate_guard (by rfl) ?_; dsimp only)); refine box_event ?hg (N := 1) ?hd (cs := #[.int .i64 a0_0, .int .i64 a0_1, .string a0_2, .slice A0_3 l0_3.length c0_3, .string a0_4, .int .i64 a0_5, .slice A0_6 l0_6.length c0_6]) (t := 89) ?hr ?_; (case hd => rfl); (case hg => rfl); (case hr => first | (go_simp; done) | (go_simp; rfl)); intro gb544 hg w23 hbox hb; have n0_ := Aside0.mk (below_step (by repeat (first | (with_reducible first | exact HB.out | apply below_alloc | apply pw_below_drewN | apply below_drew1) | exact HB.out)) hb); have n1_ := Aside0.mk (hbox); have n2_ := Aside0.mk ((by rw [hg]; exact (below_size (by repeat (first | (with_reducible first | exact HB.out | apply below_alloc | apply pw_below_drewN | apply below_drew1) | exact HB.out))) : w.heap.size ≤ gb544)); have n3_ := Aside0.mk ((by rw [hg]; exact (below_size (by repeat (first | (with_reducible first | exact HB.out | apply below_alloc | apply pw_below_drewN | apply below_drew1) | exact HB.out))) : w.heap.size ≤ gb544)); clear HB; have HB := n0_; have BK544 := n1_; have GW544 := n2_; have GE544 := n3_; clear n0_ n1_ n2_ n3_; clear hb hbox hg; have hcz24_0 : w23.cell? ⟨gb544, 0, none⟩ = some (.int .i64 a0_0) := (blk_cell BK544.out 0).trans rfl; have hcz24_1 : w23.cell? ⟨gb544, 1, none⟩ = some (.int .i64 a0_1) := (blk_cell BK544.out 1).trans rfl; have hcz24_2 : w23.cell? ⟨gb544, 2, none⟩ = some (.string a0_2) := (blk_cell BK544.out 2).trans rfl; have hcz24_3 : w23.cell? ⟨gb544, 3, none⟩ = some (.slice A0_3 l0_3.length c0_3) := (blk_cell BK544.out 3).trans rfl; have hcz24_4 : w23.cell? ⟨gb544, 4, none⟩ = some (.string a0_4) := (blk_cell BK544.out 4).trans rfl; have hcz24_5 : w23.cell? ⟨gb544, 5, none⟩ = some (.int .i64 a0_5) := (blk_cell BK544.out 5).trans rfl; have hcz24_6 : w23.cell? ⟨gb544, 6, none⟩ = some (.slice A0_6 l0_6.length c0_6) := (blk_cell BK544.out 6).trans rfl; have hfz24_0 := blk_frozen BK544.out 0; have hfz24_1 := blk_frozen BK544.out 1; have hfz24_2 := blk_frozen BK544.out 2; have hfz24_3 := blk_frozen BK544.out 3; have hfz24_4 := blk_frozen BK544.out 4; have hfz24_5 := blk_frozen BK544.out 5; have hfz24_6 := blk_frozen BK544.out 6))
      go_ret
      exact ⟨by first | rfl | (simp [errW_none, errW_some] <;> rfl) | (simp [*, errW_none, errW_some] <;> rfl), by repeat (first | (with_reducible first | exact HB.out | apply below_alloc | apply pw_below_drewN | apply below_drew1 | refine below_set ?_ GE544.out) | exact HB.out)⟩
    ·rw [if_neg c19] at H
     have c19b0 : (a0_1 == 0) = false := beq_eq_false_iff_ne.mpr c19
     have c19b1 : (a0_1 != 0) = true := bne_iff_ne.mpr c19
     obtain rfl := Option.some.inj H
     go_enter Try.func110, Try.ntmps110
     go_wp2_with (first | ((with_reducible refine gate_dst (N := 1) rfl ?_); (try (refine gate_guard (by rfl) ?_; dsimp only)); refine box_event ?hg (N := 1) ?hd (cs := #[.int .i64 a0_0, .int .i64 a0_1, .string a0_2, .slice A0_3 l0_3.length c0_3, .string a0_4, .int .i64 a0_5, .slice A0_6 l0_6.length c0_6]) (t := 89) ?hr ?_; (case hd => rfl); (case hg => rfl); (case hr => first | (go_simp; done) | (go_simp; rfl)); intro gb544 hg w25 hbox hb; have n0_ := Aside0.mk (below_step (by repeat (first | (with_reducible first | exact HB.out | apply below_alloc | apply pw_below_drewN | apply below_drew1) | exact HB.out)) hb); have n1_ := Aside0.mk (hbox); have n2_ := Aside0.mk ((by rw [hg]; exact (below_size (by repeat (first | (with_reducible first | exact HB.out | apply below_alloc | apply pw_below_drewN | apply below_drew1) | exact HB.out))) : w.heap.size ≤ gb544)); have n3_ := Aside0.mk ((by rw [hg]; exact (below_size (by repeat (first | (with_reducible first | exact HB.out | apply below_alloc | apply pw_below_drewN | apply below_drew1) | exact HB.out))) : w.heap.size ≤ gb544)); clear HB; have HB := n0_; have BK544 := n1_; have GW544 := n2_; have GE544 := n3_; clear n0_ n1_ n2_ n3_; clear hb hbox hg; have hcz26_0 : w25.cell? ⟨gb544, 0, none⟩ = some (.int .i64 a0_0) := (blk_cell BK544.out 0).trans rfl; have hcz26_1 : w25.cell? ⟨gb544, 1, none⟩ = some (.int .i64 a0_1) := (blk_cell BK544.out 1).trans rfl; have hcz26_2 : w25.cell? ⟨gb544, 2, none⟩ = some (.string a0_2) := (blk_cell BK544.out 2).trans rfl; have hcz26_3 : w25.cell? ⟨gb544, 3, none⟩ = some (.slice A0_3 l0_3.length c0_3) := (blk_cell BK544.out 3).trans rfl; have hcz26_4 : w25.cell? ⟨gb544, 4, none⟩ = some (.string a0_4) := (blk_cell BK544.out 4).trans rfl; have hcz26_5 : w25.cell? ⟨gb544, 5, none⟩ = some (.int .i64 a0_5) := (blk_cell BK544.out 5).trans rfl; have hcz26_6 : w25.cell? ⟨gb544, 6, none⟩ = some (.slice A0_6 l0_6.length c0_6) := (blk_cell BK544.out 6).trans rfl; have hfz26_0 := blk_frozen BK544.out 0; have hfz26_1 := blk_frozen BK544.out 1; have hfz26_2 := blk_frozen BK544.out 2; have hfz26_3 := blk_frozen BK544.out 3; have hfz26_4 := blk_frozen BK544.out 4; have hfz26_5 := blk_frozen BK544.out 5; have hfz26_6 := blk_frozen BK544.out 6))
     go_ret
     exact ⟨by first | rfl | (simp [errW_none, errW_some] <;> rfl) | (simp [*, errW_none, errW_some] <;> rfl), by repeat (first | (with_reducible first | exact HB.out | apply below_alloc | apply pw_below_drewN | apply below_drew1 | refine below_set ?_ GE544.out) | exact HB.out)⟩
   ·rw [if_neg c18] at H
    have c18b0 : (a0_2.toList == ([] : List UInt8)) = false := beq_eq_false_iff_ne.mpr c18
    have c18b1 : (a0_2.toList != ([] : List UInt8)) = true := bne_iff_ne.mpr c18
    obtain rfl := Option.some.inj H
    go_enter Try.func110, Try.ntmps110
    go_wp2_with (first | ((with_reducible refine gate_dst (N := 1) rfl ?_); (try (refine gate_guard (by rfl) ?_; dsimp only)); refine box_event ?hg (N := 1) ?hd (cs := #[.int .i64 a0_0, .int .i64 a0_1, .string a0_2, .slice A0_3 l0_3.length c0_3, .string a0_4, .int .i64 a0_5, .slice A0_6 l0_6.length c0_6]) (t := 89) ?hr ?_; (case hd => rfl); (case hg => rfl); (case hr => first | (go_simp; done) | (go_simp; rfl)); intro gb544 hg w27 hbox hb; have n0_ := Aside0.mk (below_step (by repeat (first | (with_reducible first | exact HB.out | apply below_alloc | apply pw_below_drewN | apply below_drew1) | exact HB.out)) hb); have n1_ := Aside0.mk (hbox); have n2_ := Aside0.mk ((by rw [hg]; exact (below_size (by repeat (first | (with_reducible first | exact HB.out | apply below_alloc | apply pw_below_drewN | apply below_drew1) | exact HB.out))) : w.heap.size ≤ gb544)); have n3_ := Aside0.mk ((by rw [hg]; exact (below_size (by repeat (first | (with_reducible first | exact HB.out | apply below_alloc | apply pw_below_drewN | apply below_drew1) | exact HB.out))) : w.heap.size ≤ gb544)); clear HB; have HB := n0_; have BK544 := n1_; have GW544 := n2_; have GE544 := n3_; clear n0_ n1_ n2_ n3_; clear hb hbox hg; have hcz28_0 : w27.cell? ⟨gb544, 0, none⟩ = some (.int .i64 a0_0) := (blk_cell BK544.out 0).trans rfl; have hcz28_1 : w27.cell? ⟨gb544, 1, none⟩ = some (.int .i64 a0_1) := (blk_cell BK544.out 1).trans rfl; have hcz28_2 : w27.cell? ⟨gb544, 2, none⟩ = some (.string a0_2) := (blk_cell BK544.out 2).trans rfl; have hcz28_3 : w27.cell? ⟨gb544, 3, none⟩ = some (.slice A0_3 l0_3.length c0_3) := (blk_cell BK544.out 3).trans rfl; have hcz28_4 : w27.cell? ⟨gb544, 4, none⟩ = some (.string a0_4) := (blk_cell BK544.out 4).trans rfl; have hcz28_5 : w27.cell? ⟨gb544, 5, none⟩ = some (.int .i64 a0_5) := (blk_cell BK544.out 5).trans rfl; have hcz28_6 : w27.cell? ⟨gb544, 6, none⟩ = some (.slice A0_6 l0_6.length c0_6) := (blk_cell BK544.out 6).trans rfl; have hfz28_0 := blk_frozen BK544.out 0; have hfz28_1 := blk_frozen BK544.out 1; have hfz28_2 := blk_frozen BK544.out 2; have hfz28_3 := blk_frozen BK544.out 3; have hfz28_4 := blk_frozen BK544.out 4; have hfz28_5 := blk_frozen BK544.out 5; have hfz28_6 := blk_frozen BK544.out 6))
    go_ret
    exact ⟨by first | rfl | (simp [errW_none, errW_some] <;> rfl) | (simp [*, errW_none, errW_some] <;> rfl), by repeat (first | (with_reducible first | exact HB.out | apply below_alloc | apply pw_below_drewN | apply below_drew1 | refine below_set ?_ GE544.out) | exact HB.out)⟩
  ·rw [if_neg c17] at H
   have c17b0 : (a0_0 == 3) = false := beq_eq_false_iff_ne.mpr c17
   have c17b1 : (a0_0 != 3) = true := bne_iff_ne.mpr c17
   by_cases c29 : a0_0 = 4
   ·rw [if_pos c29] at H
    have c29b0 : (a0_0 == 4) = true := beq_iff_eq.mpr c29
    have c29b1 : (a0_0 != 4) = false := bne_eq_false_iff_eq.mpr c29
    clear c29
    by_cases c30 : a0_2.toList = ([] : List UInt8)
    ·rw [if_pos c30] at H
     have c30b0 : (a0_2.toList == ([] : List UInt8)) = true := beq_iff_eq.mpr c30
     have c30b1 : (a0_2.toList != ([] : List UInt8)) = false := bne_eq_false_iff_eq.mpr c30
     clear c30
     by_cases c31 : a0_1 = 0
     ·rw [if_pos c31] at H
      have c31b0 : (a0_1 == 0) = true := beq_iff_eq.mpr c31
      have c31b1 : (a0_1 != 0) = false := bne_eq_false_iff_eq.mpr c31
      clear c31
      by_cases c32 : (l0_3.length : Int) = 0
      ·rw [if_pos c32] at H
       have c32b0 : ((l0_3.length : Int) == 0) = true := beq_iff_eq.mpr c32
       have c32b1 : ((l0_3.length : Int) != 0) = false := bne_eq_false_iff_eq.mpr c32
       clear c32
       obtain rfl := Option.some.inj H
       go_enter Try.func110, Try.ntmps110
       go_wp2_with (first | ((with_reducible refine gate_dst (N := 1) rfl ?_); (try (refine gate_guard (by rfl) ?_; dsimp only)); refine box_event ?hg (N := 1) ?hd (cs := #[.int .i64 a0_0, .int .i64 a0_1, .string a0_2, .slice A0_3 l0_3.length c0_3, .string a0_4, .int .i64 a0_5, .slice A0_6 l0_6.length c0_6]) (t := 89) ?hr ?_; (case hd => rfl); (case hg => rfl); (case hr => first | (go_simp; done) | (go_simp; rfl)); intro gb544 hg w33 hbox hb; have n0_ := Aside0.mk (below_step (by repeat (first | (with_reducible first | exact HB.out | apply below_alloc | apply pw_below_drewN | apply below_drew1) | exact HB.out)) hb); have n1_ := Aside0.mk (hbox); have n2_ := Aside0.mk ((by rw [hg]; exact (below_size (by repeat (first | (with_reducible first | exact HB.out | apply below_alloc | apply pw_below_drewN | apply below_drew1) | exact HB.out))) : w.heap.size ≤ gb544)); have n3_ := Aside0.mk ((by rw [hg]; exact (below_size (by repeat (first | (with_reducible first | exact HB.out | apply below_alloc | apply pw_below_drewN | apply below_drew1) | exact HB.out))) : w.heap.size ≤ gb544)); clear HB; have HB := n0_; have BK544 := n1_; have GW544 := n2_; have GE544 := n3_; clear n0_ n1_ n2_ n3_; clear hb hbox hg; have hcz34_0 : w33.cell? ⟨gb544, 0, none⟩ = some (.int .i64 a0_0) := (blk_cell BK544.out 0).trans rfl; have hcz34_1 : w33.cell? ⟨gb544, 1, none⟩ = some (.int .i64 a0_1) := (blk_cell BK544.out 1).trans rfl; have hcz34_2 : w33.cell? ⟨gb544, 2, none⟩ = some (.string a0_2) := (blk_cell BK544.out 2).trans rfl; have hcz34_3 : w33.cell? ⟨gb544, 3, none⟩ = some (.slice A0_3 l0_3.length c0_3) := (blk_cell BK544.out 3).trans rfl; have hcz34_4 : w33.cell? ⟨gb544, 4, none⟩ = some (.string a0_4) := (blk_cell BK544.out 4).trans rfl; have hcz34_5 : w33.cell? ⟨gb544, 5, none⟩ = some (.int .i64 a0_5) := (blk_cell BK544.out 5).trans rfl; have hcz34_6 : w33.cell? ⟨gb544, 6, none⟩ = some (.slice A0_6 l0_6.length c0_6) := (blk_cell BK544.out 6).trans rfl; have hfz34_0 := blk_frozen BK544.out 0; have hfz34_1 := blk_frozen BK544.out 1; have hfz34_2 := blk_frozen BK544.out 2; have hfz34_3 := blk_frozen BK544.out 3; have hfz34_4 := blk_frozen BK544.out 4; have hfz34_5 := blk_frozen BK544.out 5; have hfz34_6 := blk_frozen BK544.out 6))
       go_ret
       exact ⟨by first | rfl | (simp [errW_none, errW_some] <;> rfl) | (simp [*, errW_none, errW_some] <;> rfl), by repeat (first | (with_reducible first | exact HB.out | apply below_alloc | apply pw_below_drewN | apply below_drew1 | refine below_set ?_ GE544.out) | exact HB.out)⟩
      ·rw [if_neg c32] at H
       have c32b0 : ((l0_3.length : Int) == 0) = false := beq_eq_false_iff_ne.mpr c32
       have c32b1 : ((l0_3.length : Int) != 0) = true := bne_iff_ne.mpr c32
       have c32b2 : ¬ (l0_3 = []) := fun h_ => c32 (by rw [h_]; rfl)
       obtain rfl := Option.some.inj H
       go_enter Try.func110, Try.ntmps110
       go_wp2_with (first | ((with_reducible refine gate_dst (N := 1) rfl ?_); (try (refine gate_guard (by rfl) ?_; dsimp only)); refine box_event ?hg (N := 1) ?hd (cs := #[.int .i64 a0_0, .int .i64 a0_1, .string a0_2, .slice A0_3 l0_3.length c0_3, .string a0_4, .int .i64 a0_5, .slice A0_6 l0_6.length c0_6]) (t := 89) ?hr ?_; (case hd => rfl); (case hg => rfl); (case hr => first | (go_simp; done) | (go_simp; rfl)); intro gb544 hg w35 hbox hb; have n0_ := Aside0.mk (below_step (by repeat (first | (with_reducible first | exact HB.out | apply below_alloc | apply pw_below_drewN | apply below_drew1) | exact HB.out)) hb); have n1_ := Aside0.mk (hbox); have n2_ := Aside0.mk ((by rw [hg]; exact (below_size (by repeat (first | (with_reducible first | exact HB.out | apply below_alloc | apply pw_below_drewN | apply below_drew1) | exact HB.out))) : w.heap.size ≤ gb544)); have n3_ := Aside0.mk ((by rw [hg]; exact (below_size (by repeat (first | (with_reducible first | exact HB.out | apply below_alloc | apply pw_below_drewN | apply below_drew1) | exact HB.out))) : w.heap.size ≤ gb544)); clear HB; have HB := n0_; have BK544 := n1_; have GW544 := n2_; have GE544 := n3_; clear n0_ n1_ n2_ n3_; clear hb hbox hg; have hcz36_0 : w35.cell? ⟨gb544, 0, none⟩ = some (.int .i64 a0_0) := (blk_cell BK544.out 0).trans rfl; have hcz36_1 : w35.cell? ⟨gb544, 1, none⟩ = some (.int .i64 a0_1) := (blk_cell BK544.out 1).trans rfl; have hcz36_2 : w35.cell? ⟨gb544, 2, none⟩ = some (.string a0_2) := (blk_cell BK544.out 2).trans rfl; have hcz36_3 : w35.cell? ⟨gb544, 3, none⟩ = some (.slice A0_3 l0_3.length c0_3) := (blk_cell BK544.out 3).trans rfl; have hcz36_4 : w35.cell? ⟨gb544, 4, none⟩ = some (.string a0_4) := (blk_cell BK544.out 4).trans rfl; have hcz36_5 : w35.cell? ⟨gb544, 5, none⟩ = some (.int .i64 a0_5) := (blk_cell BK544.out 5).trans rfl; have hcz36_6 : w35.cell? ⟨gb544, 6, none⟩ = some (.slice A0_6 l0_6.length c0_6) := (blk_cell BK544.out 6).trans rfl; have hfz36_0 := blk_frozen BK544.out 0; have hfz36_1 := blk_frozen BK544.out 1; have hfz36_2 := blk_frozen BK544.out 2; have hfz36_3 := blk_frozen BK544.out 3; have hfz36_4 := blk_frozen BK544.out 4; have hfz36_5 := blk_frozen BK544.out 5; have hfz36_6 := blk_frozen BK544.out 6))
       go_ret
       exact ⟨by first | rfl | (simp [errW_none, errW_some] <;> rfl) | (simp [*, errW_none, errW_some] <;> rfl), by repeat (first | (with_reducible first | exact HB.out | apply below_alloc | apply pw_below_drewN | apply below_drew1 | refine below_set ?_ GE544.out) | exact HB.out)⟩
     ·rw [if_neg c31] at H
      have c31b0 : (a0_1 == 0) = false := beq_eq_false_iff_ne.mpr c31
      have c31b1 : (a0_1 != 0) = true := bne_iff_ne.mpr c31
      obtain rfl := Option.some.inj H
      go_enter Try.func110, Try.ntmps110
      go_wp2_with (first | ((with_reducible refine gate_dst (N := 1) rfl ?_); (try (refine gate_guard (by rfl) ?_; dsimp only)); refine box_event ?hg (N := 1) ?hd (cs := #[.int .i64 a0_0, .int .i64 a0_1, .string a0_2, .slice A0_3 l0_3.length c0_3, .string a0_4, .int .i64 a0_5, .slice A0_6 l0_6.length c0_6]) (t := 89) ?hr ?_; (case hd => rfl); (case hg => rfl); (case hr => first | (go_simp; done) | (go_simp; rfl)); intro gb544 hg w37 hbox hb; have n0_ := Aside0.mk (below_step (by repeat (first | (with_reducible first | exact HB.out | apply below_alloc | apply pw_below_drewN | apply below_drew1) | exact HB.out)) hb); have n1_ := Aside0.mk (hbox); have n2_ := Aside0.mk ((by rw [hg]; exact (below_size (by repeat (first | (with_reducible first | exact HB.out | apply below_alloc | apply pw_below_drewN | apply below_drew1) | exact HB.out))) : w.heap.size ≤ gb544)); have n3_ := Aside0.mk ((by rw [hg]; exact (below_size (by repeat (first | (with_reducible first | exact HB.out | apply below_alloc | apply pw_below_drewN | apply below_drew1) | exact HB.out))) : w.heap.size ≤ gb544)); clear HB; have HB := n0_; have BK544 := n1_; have GW544 := n2_; have GE544 := n3_; clear n0_ n1_ n2_ n3_; clear hb hbox hg; have hcz38_0 : w37.cell? ⟨gb544, 0, none⟩ = some (.int .i64 a0_0) := (blk_cell BK544.out 0).trans rfl; have hcz38_1 : w37.cell? ⟨gb544, 1, none⟩ = some (.int .i64 a0_1) := (blk_cell BK544.out 1).trans rfl; have hcz38_2 : w37.cell? ⟨gb544, 2, none⟩ = some (.string a0_2) := (blk_cell BK544.out 2).trans rfl; have hcz38_3 : w37.cell? ⟨gb544, 3, none⟩ = some (.slice A0_3 l0_3.length c0_3) := (blk_cell BK544.out 3).trans rfl; have hcz38_4 : w37.cell? ⟨gb544, 4, none⟩ = some (.string a0_4) := (blk_cell BK544.out 4).trans rfl; have hcz38_5 : w37.cell? ⟨gb544, 5, none⟩ = some (.int .i64 a0_5) := (blk_cell BK544.out 5).trans rfl; have hcz38_6 : w37.cell? ⟨gb544, 6, none⟩ = some (.slice A0_6 l0_6.length c0_6) := (blk_cell BK544.out 6).trans rfl; have hfz38_0 := blk_frozen BK544.out 0; have hfz38_1 := blk_frozen BK544.out 1; have hfz38_2 := blk_frozen BK544.out 2; have hfz38_3 := blk_frozen BK544.out 3; have hfz38_4 := blk_frozen BK544.out 4; have hfz38_5 := blk_frozen BK544.out 5; have hfz38_6 := blk_frozen BK544.out 6))
      go_ret
      exact ⟨by first | rfl | (simp [errW_none, errW_some] <;> rfl) | (simp [*, errW_none, errW_some] <;> rfl), by repeat (first | (with_reducible first | exact HB.out | apply below_alloc | apply pw_below_drewN | apply below_drew1 | refine below_set ?_ GE544.out) | exact HB.out)⟩
    ·rw [if_neg c30] at H
     have c30b0 : (a0_2.toList == ([] : List UInt8)) = false := beq_eq_false_iff_ne.mpr c30
     have c30b1 : (a0_2.toList != ([] : List UInt8)) = true := bne_iff_ne.mpr c30
     obtain rfl := Option.some.inj H
     go_enter Try.func110, Try.ntmps110
     go_wp2_with (first | ((with_reducible refine gate_dst (N := 1) rfl ?_); (try (refine gate_guard (by rfl) ?_; dsimp only)); refine box_event ?hg (N := 1) ?hd (cs := #[.int .i64 a0_0, .int .i64 a0_1, .string a0_2, .slice A0_3 l0_3.length c0_3, .string a0_4, .int .i64 a0_5, .slice A0_6 l0_6.length c0_6]) (t := 89) ?hr ?_; (case hd => rfl); (case hg => rfl); (case hr => first | (go_simp; done) | (go_simp; rfl)); intro gb544 hg w39 hbox hb; have n0_ := Aside0.mk (below_step (by repeat (first | (with_reducible first | exact HB.out | apply below_alloc | apply pw_below_drewN | apply below_drew1) | exact HB.out)) hb); have n1_ := Aside0.mk (hbox); have n2_ := Aside0.mk ((by rw [hg]; exact (below_size (by repeat (first | (with_reducible first | exact HB.out | apply below_alloc | apply pw_below_drewN | apply below_drew1) | exact HB.out))) : w.heap.size ≤ gb544)); have n3_ := Aside0.mk ((by rw [hg]; exact (below_size (by repeat (first | (with_reducible first | exact HB.out | apply below_alloc | apply pw_below_drewN | apply below_drew1) | exact HB.out))) : w.heap.size ≤ gb544)); clear HB; have HB := n0_; have BK544 := n1_; have GW544 := n2_; have GE544 := n3_; clear n0_ n1_ n2_ n3_; clear hb hbox hg; have hcz40_0 : w39.cell? ⟨gb544, 0, none⟩ = some (.int .i64 a0_0) := (blk_cell BK544.out 0).trans rfl; have hcz40_1 : w39.cell? ⟨gb544, 1, none⟩ = some (.int .i64 a0_1) := (blk_cell BK544.out 1).trans rfl; have hcz40_2 : w39.cell? ⟨gb544, 2, none⟩ = some (.string a0_2) := (blk_cell BK544.out 2).trans rfl; have hcz40_3 : w39.cell? ⟨gb544, 3, none⟩ = some (.slice A0_3 l0_3.length c0_3) := (blk_cell BK544.out 3).trans rfl; have hcz40_4 : w39.cell? ⟨gb544, 4, none⟩ = some (.string a0_4) := (blk_cell BK544.out 4).trans rfl; have hcz40_5 : w39.cell? ⟨gb544, 5, none⟩ = some (.int .i64 a0_5) := (blk_cell BK544.out 5).trans rfl; have hcz40_6 : w39.cell? ⟨gb544, 6, none⟩ = some (.slice A0_6 l0_6.length c0_6) := (blk_cell BK544.out 6).trans rfl; have hfz40_0 := blk_frozen BK544.out 0; have hfz40_1 := blk_frozen BK544.out 1; have hfz40_2 := blk_frozen BK544.out 2; have hfz40_3 := blk_frozen BK544.out 3; have hfz40_4 := blk_frozen BK544.out 4; have hfz40_5 := blk_frozen BK544.out 5; have hfz40_6 := blk_frozen BK544.out 6))
     go_ret
     exact ⟨by first | rfl | (simp [errW_none, errW_some] <;> rfl) | (simp [*, errW_none, errW_some] <;> rfl), by repeat (first | (with_reducible first | exact HB.out | apply below_alloc | apply pw_below_drewN | apply below_drew1 | refine below_set ?_ GE544.out) | exact HB.out)⟩
   ·rw [if_neg c29] at H
    have c29b0 : (a0_0 == 4) = false := beq_eq_false_iff_ne.mpr c29
    have c29b1 : (a0_0 != 4) = true := bne_iff_ne.mpr c29
    by_cases c41 : a0_0 = 5
    ·rw [if_pos c41] at H
     have c41b0 : (a0_0 == 5) = true := beq_iff_eq.mpr c41
     have c41b1 : (a0_0 != 5) = false := bne_eq_false_iff_eq.mpr c41
     clear c41
     by_cases c42 : a0_2.toList = ([] : List UInt8)
     ·rw [if_pos c42] at H
      have c42b0 : (a0_2.toList == ([] : List UInt8)) = true := beq_iff_eq.mpr c42
      have c42b1 : (a0_2.toList != ([] : List UInt8)) = false := bne_eq_false_iff_eq.mpr c42
      clear c42
      by_cases c43 : a0_1 = 0
      ·rw [if_pos c43] at H
       have c43b0 : (a0_1 == 0) = true := beq_iff_eq.mpr c43
       have c43b1 : (a0_1 != 0) = false := bne_eq_false_iff_eq.mpr c43
       clear c43
       by_cases c44 : (l0_3.length : Int) = 0
       ·rw [if_pos c44] at H
        have c44b0 : ((l0_3.length : Int) == 0) = true := beq_iff_eq.mpr c44
        have c44b1 : ((l0_3.length : Int) != 0) = false := bne_eq_false_iff_eq.mpr c44
        clear c44
        obtain rfl := Option.some.inj H
        go_enter Try.func110, Try.ntmps110
        go_wp2_with (first | ((with_reducible refine gate_dst (N := 1) rfl ?_); (try (refine gate_guard (by rfl) ?_; dsimp only)); refine box_event ?hg (N := 1) ?hd (cs := #[.int .i64 a0_0, .int .i64 a0_1, .string a0_2, .slice A0_3 l0_3.length c0_3, .string a0_4, .int .i64 a0_5, .slice A0_6 l0_6.length c0_6]) (t := 89) ?hr ?_; (case hd => rfl); (case hg => rfl); (case hr => first | (go_simp; done) | (go_simp; rfl)); intro gb544 hg w45 hbox hb; have n0_ := Aside0.mk (below_step (by repeat (first | (with_reducible first | exact HB.out | apply below_alloc | apply pw_below_drewN | apply below_drew1) | exact HB.out)) hb); have n1_ := Aside0.mk (hbox); have n2_ := Aside0.mk ((by rw [hg]; exact (below_size (by repeat (first | (with_reducible first | exact HB.out | apply below_alloc | apply pw_below_drewN | apply below_drew1) | exact HB.out))) : w.heap.size ≤ gb544)); have n3_ := Aside0.mk ((by rw [hg]; exact (below_size (by repeat (first | (with_reducible first | exact HB.out | apply below_alloc | apply pw_below_drewN | apply below_drew1) | exact HB.out))) : w.heap.size ≤ gb544)); clear HB; have HB := n0_; have BK544 := n1_; have GW544 := n2_; have GE544 := n3_; clear n0_ n1_ n2_ n3_; clear hb hbox hg; have hcz46_0 : w45.cell? ⟨gb544, 0, none⟩ = some (.int .i64 a0_0) := (blk_cell BK544.out 0).trans rfl; have hcz46_1 : w45.cell? ⟨gb544, 1, none⟩ = some (.int .i64 a0_1) := (blk_cell BK544.out 1).trans rfl; have hcz46_2 : w45.cell? ⟨gb544, 2, none⟩ = some (.string a0_2) := (blk_cell BK544.out 2).trans rfl; have hcz46_3 : w45.cell? ⟨gb544, 3, none⟩ = some (.slice A0_3 l0_3.length c0_3) := (blk_cell BK544.out 3).trans rfl; have hcz46_4 : w45.cell? ⟨gb544, 4, none⟩ = some (.string a0_4) := (blk_cell BK544.out 4).trans rfl; have hcz46_5 : w45.cell? ⟨gb544, 5, none⟩ = some (.int .i64 a0_5) := (blk_cell BK544.out 5).trans rfl; have hcz46_6 : w45.cell? ⟨gb544, 6, none⟩ = some (.slice A0_6 l0_6.length c0_6) := (blk_cell BK544.out 6).trans rfl; have hfz46_0 := blk_frozen BK544.out 0; have hfz46_1 := blk_frozen BK544.out 1; have hfz46_2 := blk_frozen BK544.out 2; have hfz46_3 := blk_frozen BK544.out 3; have hfz46_4 := blk_frozen BK544.out 4; have hfz46_5 := blk_frozen BK544.out 5; have hfz46_6 := blk_frozen BK544.out 6))
        go_ret
        exact ⟨by first | rfl | (simp [errW_none, errW_some] <;> rfl) | (simp [*, errW_none, errW_some] <;> rfl), by repeat (first | (with_reducible first | exact HB.out | apply below_alloc | apply pw_below_drewN | apply below_drew1 | refine below_set ?_ GE544.out) | exact HB.out)⟩
       ·rw [if_neg c44] at H
        have c44b0 : ((l0_3.length : Int) == 0) = false := beq_eq_false_iff_ne.mpr c44
        have c44b1 : ((l0_3.length : Int) != 0) = true := bne_iff_ne.mpr c44
        have c44b2 : ¬ (l0_3 = []) := fun h_ => c44 (by rw [h_]; rfl)
        obtain rfl := Option.some.inj H
        go_enter Try.func110, Try.ntmps110
        go_wp2_with (first | ((with_reducible refine gate_dst (N := 1) rfl ?_); (try (refine gate_guard (by rfl) ?_; dsimp only)); refine box_event ?hg (N := 1) ?hd (cs := #[.int .i64 a0_0, .int .i64 a0_1, .string a0_2, .slice A0_3 l0_3.length c0_3, .string a0_4, .int .i64 a0_5, .slice A0_6 l0_6.length c0_6]) (t := 89) ?hr ?_; (case hd => rfl); (case hg => rfl); (case hr => first | (go_simp; done) | (go_simp; rfl)); intro gb544 hg w47 hbox hb; have n0_ := Aside0.mk (below_step (by repeat (first | (with_reducible first | exact HB.out | apply below_alloc | apply pw_below_drewN | apply below_drew1) | exact HB.out)) hb); have n1_ := Aside0.mk (hbox); have n2_ := Aside0.mk ((by rw [hg]; exact (below_size (by repeat (first | (with_reducible first | exact HB.out | apply below_alloc | apply pw_below_drewN | apply below_drew1) | exact HB.out))) : w.heap.size ≤ gb544)); have n3_ := Aside0.mk ((by rw [hg]; exact (below_size (by repeat (first | (with_reducible first | exact HB.out | apply below_alloc | apply pw_below_drewN | apply below_drew1) | exact HB.out))) : w.heap.size ≤ gb544)); clear HB; have HB := n0_; have BK544 := n1_; have GW544 := n2_; have GE544 := n3_; clear n0_ n1_ n2_ n3_; clear hb hbox hg; have hcz48_0 : w47.cell? ⟨gb544, 0, none⟩ = some (.int .i64 a0_0) := (blk_cell BK544.out 0).trans rfl; have hcz48_1 : w47.cell? ⟨gb544, 1, none⟩ = some (.int .i64 a0_1) := (blk_cell BK544.out 1).trans rfl; have hcz48_2 : w47.cell? ⟨gb544, 2, none⟩ = some (.string a0_2) := (blk_cell BK544.out 2).trans rfl; have hcz48_3 : w47.cell? ⟨gb544, 3, none⟩ = some (.slice A0_3 l0_3.length c0_3) := (blk_cell BK544.out 3).trans rfl; have hcz48_4 : w47.cell? ⟨gb544, 4, none⟩ = some (.string a0_4) := (blk_cell BK544.out 4).trans rfl; have hcz48_5 : w47.cell? ⟨gb544, 5, none⟩ = some (.int .i64 a0_5) := (blk_cell BK544.out 5).trans rfl; have hcz48_6 : w47.cell? ⟨gb544, 6, none⟩ = some (.slice A0_6 l0_6.length c0_6) := (blk_cell BK544.out 6).trans rfl; have hfz48_0 := blk_frozen BK544.out 0; have hfz48_1 := blk_frozen BK544.out 1; have hfz48_2 := blk_frozen BK544.out 2; have hfz48_3 := blk_frozen BK544.out 3; have hfz48_4 := blk_frozen BK544.out 4; have hfz48_5 := blk_frozen BK544.out 5; have hfz48_6 := blk_frozen BK544.out 6))
        go_ret
        exact ⟨by first | rfl | (simp [errW_none, errW_some] <;> rfl) | (simp [*, errW_none, errW_some] <;> rfl), by repeat (first | (with_reducible first | exact HB.out | apply below_alloc | apply pw_below_drewN | apply below_drew1 | refine below_set ?_ GE544.out) | exact HB.out)⟩
      ·rw [if_neg c43] at H
       have c43b0 : (a0_1 == 0) = false := beq_eq_false_iff_ne.mpr c43
       have c43b1 : (a0_1 != 0) = true := bne_iff_ne.mpr c43
       obtain rfl := Option.some.inj H
       go_enter Try.func110, Try.ntmps110
       go_wp2_with (first | ((with_reducible refine gate_dst (N := 1) rfl ?_); (try (refine gate_guard (by rfl) ?_; dsimp only)); refine box_event ?hg (N := 1) ?hd (cs := #[.int .i64 a0_0, .int .i64 a0_1, .string a0_2, .slice A0_3 l0_3.length c0_3, .string a0_4, .int .i64 a0_5, .slice A0_6 l0_6.length c0_6]) (t := 89) ?hr ?_; (case hd => rfl); (case hg => rfl); (case hr => first | (go_simp; done) | (go_simp; rfl)); intro gb544 hg w49 hbox hb; have n0_ := Aside0.mk (below_step (by repeat (first | (with_reducible first | exact HB.out | apply below_alloc | apply pw_below_drewN | apply below_drew1) | exact HB.out)) hb); have n1_ := Aside0.mk (hbox); have n2_ := Aside0.mk ((by rw [hg]; exact (below_size (by repeat (first | (with_reducible first | exact HB.out | apply below_alloc | apply pw_below_drewN | apply below_drew1) | exact HB.out))) : w.heap.size ≤ gb544)); have n3_ := Aside0.mk ((by rw [hg]; exact (below_size (by repeat (first | (with_reducible first | exact HB.out | apply below_alloc | apply pw_below_drewN | apply below_drew1) | exact HB.out))) : w.heap.size ≤ gb544)); clear HB; have HB := n0_; have BK544 := n1_; have GW544 := n2_; have GE544 := n3_; clear n0_ n1_ n2_ n3_; clear hb hbox hg; have hcz50_0 : w49.cell? ⟨gb544, 0, none⟩ = some (.int .i64 a0_0) := (blk_cell BK544.out 0).trans rfl; have hcz50_1 : w49.cell? ⟨gb544, 1, none⟩ = some (.int .i64 a0_1) := (blk_cell BK544.out 1).trans rfl; have hcz50_2 : w49.cell? ⟨gb544, 2, none⟩ = some (.string a0_2) := (blk_cell BK544.out 2).trans rfl; have hcz50_3 : w49.cell? ⟨gb544, 3, none⟩ = some (.slice A0_3 l0_3.length c0_3) := (blk_cell BK544.out 3).trans rfl; have hcz50_4 : w49.cell? ⟨gb544, 4, none⟩ = some (.string a0_4) := (blk_cell BK544.out 4).trans rfl; have hcz50_5 : w49.cell? ⟨gb544, 5, none⟩ = some (.int .i64 a0_5) := (blk_cell BK544.out 5).trans rfl; have hcz50_6 : w49.cell? ⟨gb544, 6, none⟩ = some (.slice A0_6 l0_6.length c0_6) := (blk_cell BK544.out 6).trans rfl; have hfz50_0 := blk_frozen BK544.out 0; have hfz50_1 := blk_frozen BK544.out 1; have hfz50_2 := blk_frozen BK544.out 2; have hfz50_3 := blk_frozen BK544.out 3; have hfz50_4 := blk_frozen BK544.out 4; have hfz50_5 := blk_frozen BK544.out 5; have hfz50_6 := blk_frozen BK544.out 6))
       go_ret
       exact ⟨by first | rfl | (simp [errW_none, errW_some] <;> rfl) | (simp [*, errW_none, errW_some] <;> rfl), by repeat (first | (with_reducible first | exact HB.out | apply below_alloc | apply pw_below_drewN | apply below_drew1 | refine below_set ?_ GE544.out) | exact HB.out)⟩
     ·rw [if_neg c42] at H
      have c42b0 : (a0_2.toList == ([] : List UInt8)) = false := beq_eq_false_iff_ne.mpr c42
      have c42b1 : (a0_2.toList != ([] : List UInt8)) = true := bne_iff_ne.mpr c42
      obtain rfl := Option.some.inj H
      go_enter Try.func110, Try.ntmps110
      go_wp2_with (first | ((with_reducible refine gate_dst (N := 1) rfl ?_); (try (refine gate_guard (by rfl) ?_; dsimp only)); refine box_event ?hg (N := 1) ?hd (cs := #[.int .i64 a0_0, .int .i64 a0_1, .string a0_2, .slice A0_3 l0_3.length c0_3, .string a0_4, .int .i64 a0_5, .slice A0_6 l0_6.length c0_6]) (t := 89) ?hr ?_; (case hd => rfl); (case hg => rfl); (case hr => first | (go_simp; done) | (go_simp; rfl)); intro gb544 hg w51 hbox hb; have n0_ := Aside0.mk (below_step (by repeat (first | (with_reducible first | exact HB.out | apply below_alloc | apply pw_below_drewN | apply below_drew1) | exact HB.out)) hb); have n1_ := Aside0.mk (hbox); have n2_ := Aside0.mk ((by rw [hg]; exact (below_size (by repeat (first | (with_reducible first | exact HB.out | apply below_alloc | apply pw_below_drewN | apply below_drew1) | exact HB.out))) : w.heap.size ≤ gb544)); have n3_ := Aside0.mk ((by rw [hg]; exact (below_size (by repeat (first | (with_reducible first | exact HB.out | apply below_alloc | apply pw_below_drewN | apply below_drew1) | exact HB.out))) : w.heap.size ≤ gb544)); clear HB; have HB := n0_; have BK544 := n1_; have GW544 := n2_; have GE544 := n3_; clear n0_ n1_ n2_ n3_; clear hb hbox hg; have hcz52_0 : w51.cell? ⟨gb544, 0, none⟩ = some (.int .i64 a0_0) := (blk_cell BK544.out 0).trans rfl; have hcz52_1 : w51.cell? ⟨gb544, 1, none⟩ = some (.int .i64 a0_1) := (blk_cell BK544.out 1).trans rfl; have hcz52_2 : w51.cell? ⟨gb544, 2, none⟩ = some (.string a0_2) := (blk_cell BK544.out 2).trans rfl; have hcz52_3 : w51.cell? ⟨gb544, 3, none⟩ = some (.slice A0_3 l0_3.length c0_3) := (blk_cell BK544.out 3).trans rfl; have hcz52_4 : w51.cell? ⟨gb544, 4, none⟩ = some (.string a0_4) := (blk_cell BK544.out 4).trans rfl; have hcz52_5 : w51.cell? ⟨gb544, 5, none⟩ = some (.int .i64 a0_5) := (blk_cell BK544.out 5).trans rfl; have hcz52_6 : w51.cell? ⟨gb544, 6, none⟩ = some (.slice A0_6 l0_6.length c0_6) := (blk_cell BK544.out 6).trans rfl; have hfz52_0 := blk_frozen BK544.out 0; have hfz52_1 := blk_frozen BK544.out 1; have hfz52_2 := blk_frozen BK544.out 2; have hfz52_3 := blk_frozen BK544.out 3; have hfz52_4 := blk_frozen BK544.out 4; have hfz52_5 := blk_frozen BK544.out 5; have hfz52_6 := blk_frozen BK544.out 6))
      go_ret
      exact ⟨by first | rfl | (simp [errW_none, errW_some] <;> rfl) | (simp [*, errW_none, errW_some] <;> rfl), by repeat (first | (with_reducible first | exact HB.out | apply below_alloc | apply pw_below_drewN | apply below_drew1 | refine below_set ?_ GE544.out) | exact HB.out)⟩
    ·rw [if_neg c41] at H
     have c41b0 : (a0_0 == 5) = false := beq_eq_false_iff_ne.mpr c41
     have c41b1 : (a0_0 != 5) = true := bne_iff_ne.mpr c41
     obtain rfl := Option.some.inj H
     go_enter Try.func110, Try.ntmps110
     go_wp2_with (first | ((with_reducible refine gate_dst (N := 1) rfl ?_); (try (refine gate_guard (by rfl) ?_; dsimp only)); refine box_event ?hg (N := 1) ?hd (cs := #[.int .i64 a0_0, .int .i64 a0_1, .string a0_2, .slice A0_3 l0_3.length c0_3, .string a0_4, .int .i64 a0_5, .slice A0_6 l0_6.length c0_6]) (t := 89) ?hr ?_; (case hd => rfl); (case hg => rfl); (case hr => first | (go_simp; done) | (go_simp; rfl)); intro gb544 hg w53 hbox hb; have n0_ := Aside0.mk (below_step (by repeat (first | (with_reducible first | exact HB.out | apply below_alloc | apply pw_below_drewN | apply below_drew1) | exact HB.out)) hb); have n1_ := Aside0.mk (hbox); have n2_ := Aside0.mk ((by rw [hg]; exact (below_size (by repeat (first | (with_reducible first | exact HB.out | apply below_alloc | apply pw_below_drewN | apply below_drew1) | exact HB.out))) : w.heap.size ≤ gb544)); have n3_ := Aside0.mk ((by rw [hg]; exact (below_size (by repeat (first | (with_reducible first | exact HB.out | apply below_alloc | apply pw_below_drewN | apply below_drew1) | exact HB.out))) : w.heap.size ≤ gb544)); clear HB; have HB := n0_; have BK544 := n1_; have GW544 := n2_; have GE544 := n3_; clear n0_ n1_ n2_ n3_; clear hb hbox hg; have hcz54_0 : w53.cell? ⟨gb544, 0, none⟩ = some (.int .i64 a0_0) := (blk_cell BK544.out 0).trans rfl; have hcz54_1 : w53.cell? ⟨gb544, 1, none⟩ = some (.int .i64 a0_1) := (blk_cell BK544.out 1).trans rfl; have hcz54_2 : w53.cell? ⟨gb544, 2, none⟩ = some (.string a0_2) := (blk_cell BK544.out 2).trans rfl; have hcz54_3 : w53.cell? ⟨gb544, 3, none⟩ = some (.slice A0_3 l0_3.length c0_3) := (blk_cell BK544.out 3).trans rfl; have hcz54_4 : w53.cell? ⟨gb544, 4, none⟩ = some (.string a0_4) := (blk_cell BK544.out 4).trans rfl; have hcz54_5 : w53.cell? ⟨gb544, 5, none⟩ = some (.int .i64 a0_5) := (blk_cell BK544.out 5).trans rfl; have hcz54_6 : w53.cell? ⟨gb544, 6, none⟩ = some (.slice A0_6 l0_6.length c0_6) := (blk_cell BK544.out 6).trans rfl; have hfz54_0 := blk_frozen BK544.out 0; have hfz54_1 := blk_frozen BK544.out 1; have hfz54_2 := blk_frozen BK544.out 2; have hfz54_3 := blk_frozen BK544.out 3; have hfz54_4 := blk_frozen BK544.out 4; have hfz54_5 := blk_frozen BK544.out 5; have hfz54_6 := blk_frozen BK544.out 6))
     go_ret
     exact ⟨by first | rfl | (simp [errW_none, errW_some] <;> rfl) | (simp [*, errW_none, errW_some] <;> rfl), by repeat (first | (with_reducible first | exact HB.out | apply below_alloc | apply pw_below_drewN | apply below_drew1 | refine below_set ?_ GE544.out) | exact HB.out)⟩
end Go.Proofs.Ytlocaaebgghkbaa.A
namespace Go.Proofs.Ytlocaaebgghkbaa.A
open Go.RowKit Go.Proofs.YtlocaaebgghkbaaW.PrintWords Go.Proofs.YtlocaaebgghkbaaW.PrintLast Go.Proofs.YtlocaaebgghkbaaW.PrintMore
attribute [local go_sem] max2_int min2_int max_two min_two max_three min_three max_four min_four   -- for this text's walks alone
set_option linter.unusedVariables false
set_option linter.unusedSimpArgs false
def impl_hasKids.f (a0 : Int) : Option (Bool) := if a0 = 1 then (some true) else (some (a0 == 2))
set_option maxHeartbeats 8000000 in
set_option maxRecDepth 100000 in
theorem impl_hasKids.calls (a0 : Int) (r : Bool) (w : World) (h : impl_hasKids.f a0 = some r) :
  Calls Try.prog 111 #[.int .i64 a0] w fun e w' => e = .returned (.bool r) ∧ Drawn0 w w' := by
 have H : (if a0 = 1 then (some true) else (some (a0 == 2))) = some r := h
 clear h
 by_cases c2 : a0 = 1
 ·rw [if_pos c2] at H
  have c2b0 : (a0 == 1) = true := beq_iff_eq.mpr c2
  have c2b1 : (a0 != 1) = false := bne_eq_false_iff_eq.mpr c2
  clear c2
  obtain rfl := Option.some.inj H
  go_enter Try.func111, Try.ntmps111
  go_wp2
  go_ret
  exact ⟨by first | rfl | (simp; done) | (simp [*]; done), by repeat (first | exact Drawn0.refl _ | apply Drawn0.step)⟩
 ·rw [if_neg c2] at H
  have c2b0 : (a0 == 1) = false := beq_eq_false_iff_ne.mpr c2
  have c2b1 : (a0 != 1) = true := bne_iff_ne.mpr c2
  obtain rfl := Option.some.inj H
  go_enter Try.func111, Try.ntmps111
  go_wp2
  go_ret
  exact ⟨by first | rfl | (simp; done) | (simp [*]; done), by repeat (first | exact Drawn0.refl _ | apply Drawn0.step)⟩
end Go.Proofs.Ytlocaaebgghkbaa.A
namespace Go.Proofs.Ytlocaaebgghkbaa.A
open Go.RowKit Go.Proofs.YtlocaaebgghkbaaW.PrintWords Go.Proofs.YtlocaaebgghkbaaW.PrintLast Go.Proofs.YtlocaaebgghkbaaW.PrintMore
attribute [local go_sem] max2_int min2_int max_two min_two max_three min_three max_four min_four   -- for this text's walks alone
set_option linter.unusedVariables false
set_option linter.unusedSimpArgs false
mutual
def impl_kidsOk.l0 : Nat → List (S89) → List Int → List (S89) → Int → Int → Option (Bool)
 | 0, _, _, _, _, _ => none
 | k + 1, x0, x3, x12, x13, x14 => if x14 < x13 then (if 0 ≤ x14 then (if x14 < (x12.length : Int) then (impl_kidsOk.l1 k x0 x3 x14 x12 x13 x14 ((rd_T89 x12 x14).f6) (((rd_T89 x12 x14).f6).length : Int) 0) else (none)) else (none)) else (impl_kidsOk.l2 k x0 x3 1)
def impl_kidsOk.l1 : Nat → List (S89) → List Int → Int → List (S89) → Int → Int → List Int → Int → Int → Option (Bool)
 | 0, _, _, _, _, _, _, _, _, _ => none
 | k + 1, x0, x3, x4, x12, x13, x14, x20, x21, x22 => if x22 < x21 then (if 0 ≤ x22 then (if x22 < (x20.length : Int) then ((impl_inRange.f (rd x20 x22) 1 (wrap64 ((x0.length : Int) - 1))).bind fun t553 => (if t553 = true then (if 0 ≤ (rd x20 x22) then (if (rd x20 x22) < (x0.length : Int) then (if ((rd_T89 x0 (rd x20 x22)).f5) = x4 then (if (rd x20 x22) < (x3.length : Int) then (impl_kidsOk.l1 k x0 (x3.set ((rd x20 x22) : Int).toNat (wrap64 ((rd x3 (rd x20 x22)) + 1))) x4 x12 x13 x14 x20 x21 (wrap64 (x22 + 1))) else (none)) else (some false)) else (none)) else (none)) else (some false))) else (none)) else (none)) else (impl_kidsOk.l0 k x0 x3 x12 x13 (wrap64 (x14 + 1)))
def impl_kidsOk.l2 : Nat → List (S89) → List Int → Int → Option (Bool)
 | 0, _, _, _ => none
 | k + 1, x0, x3, x8 => if x8 < (x0.length : Int) then (if 0 ≤ x8 then (if x8 < (x3.length : Int) then (if (rd x3 x8) = 1 then (impl_kidsOk.l2 k x0 x3 (wrap64 (x8 + 1))) else (some false)) else (none)) else (none)) else (some true)
end
def impl_kidsOk.f (k : Nat) (l0 : List (S89)) : Option (Bool) := if 0 ≤ (l0.length : Int) then (if ((l0.length : Int) : Int).toNat ≤ 35184372088832 then (impl_kidsOk.l0 k l0 (List.replicate ((l0.length : Int) : Int).toNat 0) l0 (l0.length : Int) 0) else (none)) else (none)
theorem impl_kidsOk.mono_l : ∀ k, (∀ y0 y1 y2 y3 y4, LeO (impl_kidsOk.l0 k y0 y1 y2 y3 y4) (impl_kidsOk.l0 (k + 1) y0 y1 y2 y3 y4)) ∧ (∀ y0 y1 y2 y3 y4 y5 y6 y7 y8, LeO (impl_kidsOk.l1 k y0 y1 y2 y3 y4 y5 y6 y7 y8) (impl_kidsOk.l1 (k + 1) y0 y1 y2 y3 y4 y5 y6 y7 y8)) ∧ (∀ y0 y1 y2, LeO (impl_kidsOk.l2 k y0 y1 y2) (impl_kidsOk.l2 (k + 1) y0 y1 y2))
 | 0 => ⟨fun _ _ _ _ _ r h => by simp [impl_kidsOk.l0] at h, fun _ _ _ _ _ _ _ _ _ r h => by simp [impl_kidsOk.l1] at h, fun _ _ _ r h => by simp [impl_kidsOk.l2] at h⟩
 | k + 1 => by
  obtain ⟨ih0, ih1, ih2⟩ := impl_kidsOk.mono_l k
  refine ⟨?_, ?_, ?_⟩
  ·intro y0 y1 y2 y3 y4
   unfold impl_kidsOk.l0
   repeat' first
   | (with_reducible exact ih0 _ _ _ _ _)
   | (with_reducible exact ih1 _ _ _ _ _ _ _ _ _)
   | (with_reducible exact ih2 _ _ _)
   | (with_reducible exact LeO.refl _)
   | (with_reducible exact LeO.none _)
   | (with_reducible refine LeO.ite ?_ ?_)
   | (with_reducible refine LeO.bind ?_ (fun _ => ?_))
   | exact ih0 _ _ _ _ _
   | exact ih1 _ _ _ _ _ _ _ _ _
   | exact ih2 _ _ _
   | exact LeO.none _
   | refine LeO.ite ?_ ?_
   | refine LeO.bind ?_ (fun _ => ?_)
  ·intro y0 y1 y2 y3 y4 y5 y6 y7 y8
   unfold impl_kidsOk.l1
   repeat' first
   | (with_reducible exact ih0 _ _ _ _ _)
   | (with_reducible exact ih1 _ _ _ _ _ _ _ _ _)
   | (with_reducible exact ih2 _ _ _)
   | (with_reducible exact LeO.refl _)
   | (with_reducible exact LeO.none _)
   | (with_reducible refine LeO.ite ?_ ?_)
   | (with_reducible refine LeO.bind ?_ (fun _ => ?_))
   | exact ih0 _ _ _ _ _
   | exact ih1 _ _ _ _ _ _ _ _ _
   | exact ih2 _ _ _
   | exact LeO.none _
   | refine LeO.ite ?_ ?_
   | refine LeO.bind ?_ (fun _ => ?_)
  ·intro y0 y1 y2
   unfold impl_kidsOk.l2
   repeat' first
   | (with_reducible exact ih0 _ _ _ _ _)
   | (with_reducible exact ih1 _ _ _ _ _ _ _ _ _)
   | (with_reducible exact ih2 _ _ _)
   | (with_reducible exact LeO.refl _)
   | (with_reducible exact LeO.none _)
   | (with_reducible refine LeO.ite ?_ ?_)
   | (with_reducible refine LeO.bind ?_ (fun _ => ?_))
   | exact ih0 _ _ _ _ _
   | exact ih1 _ _ _ _ _ _ _ _ _
   | exact ih2 _ _ _
   | exact LeO.none _
   | refine LeO.ite ?_ ?_
   | refine LeO.bind ?_ (fun _ => ?_)
theorem impl_kidsOk.mono : ∀ a0 k, LeO (impl_kidsOk.f k a0) (impl_kidsOk.f (k + 1) a0) := by
 intro a0 k
 obtain ⟨ih0, ih1, ih2⟩ := impl_kidsOk.mono_l k
 unfold impl_kidsOk.f
 repeat' first
   | (with_reducible exact ih0 _ _ _ _ _)
   | (with_reducible exact ih1 _ _ _ _ _ _ _ _ _)
   | (with_reducible exact ih2 _ _ _)
   | (with_reducible exact LeO.refl _)
   | (with_reducible exact LeO.none _)
   | (with_reducible refine LeO.ite ?_ ?_)
   | (with_reducible refine LeO.bind ?_ (fun _ => ?_))
   | exact ih0 _ _ _ _ _
   | exact ih1 _ _ _ _ _ _ _ _ _
   | exact ih2 _ _ _
   | exact LeO.none _
   | refine LeO.ite ?_ ?_
   | refine LeO.bind ?_ (fun _ => ?_)
set_option maxHeartbeats 8000000 in
set_option maxRecDepth 100000 in
theorem impl_kidsOk.calls (k : Nat) (A0 : Option Addr) (c0 : Nat) (l0 : List (S89)) (r : Bool) (w : World) (hr0 : Kd.C k89 w A0 l0.length l0) (hc0 : l0.length ≤ c0) (h : impl_kidsOk.f k l0 = some r) :
  Calls Try.prog 112 #[.slice A0 l0.length c0] w fun e w' => e = .returned (.bool r) ∧ Below w.heap.size w w' := by
 have hu89 := Try.underlying89
 have HR0 := Aside0.mk hr0
 have HC0 := Aside0.mk hc0
 clear hr0 hc0
 have HB := Aside0.mk (Below.refl w.heap.size w)
 have H : (if 0 ≤ (l0.length : Int) then (if ((l0.length : Int) : Int).toNat ≤ 35184372088832 then (impl_kidsOk.l0 k l0 (List.replicate ((l0.length : Int) : Int).toNat 0) l0 (l0.length : Int) 0) else (none)) else (none)) = some r := h
 clear h
 by_cases c2 : 0 ≤ (l0.length : Int)
 ·rw [if_pos c2] at H
  have c2b0 := eq_true c2
  have c2b1 : decide (0 ≤ (l0.length : Int)) = true := decide_eq_true c2
  clear c2
  by_cases c3 : ((l0.length : Int) : Int).toNat ≤ 35184372088832
  ·rw [if_pos c3] at H
   have c3b0 := eq_true c3
   have c3b1 : decide (((l0.length : Int) : Int).toNat ≤ 35184372088832) = true := decide_eq_true c3
   clear c3
   obtain ⟨y547, hy547⟩ : ∃ y_ : List Int, y_ = (List.replicate ((l0.length : Int) : Int).toNat 0) := ⟨_, rfl⟩
   replace H : (impl_kidsOk.l0 k l0 y547 l0 (l0.length : Int) 0) = some r := by first | (rw [hy547]; with_reducible exact H) | (have H2_ := (Option.bind_some _ _).symm.trans H; rw [hy547]; with_reducible exact H2_) | (have H2_ := (Option.bind_some _ _).symm.trans H; with_reducible exact H2_) | with_reducible exact H | (rw [hy547]; exact H) | exact H
   have Ny547 := Aside0.mk hy547
   clear hy547
   have H' := Aside0.mk H
   clear H
   go_enter Try.func112, Try.ntmps112
   go_wp2_with (first | ((with_reducible refine gate_dst (N := 11) rfl ?_); refine Kd.R_make (Kd.int .i64) _ 3 rfl (N := 11) rfl 84 _ _ rfl (l0.length : Int) rfl rfl Try.underlying84 (.int .i64 0) 8 info3 rfl (by decide) (by omega) 0 (ok := fun _ => True) (okp := fun _ => True) rfl (fun _ hk => hk) trivial (of_decide_eq_true (by first | (with_reducible assumption) | assumption)) (Nat.le_trans (Nat.mul_le_mul_right _ (of_decide_eq_true (by first | (with_reducible assumption) | assumption) : (l0.length : Int).toNat ≤ 35184372088832)) (by omega)) (Below.refl _ _) (Nat.le_refl _) ?_; intro v548 w4 ho5 hb hg_ hnew_; clear hg_ hnew_; (first | rw [← Ny547.out] at ho5 | (simp only [Int.reduceToNat] at ho5; rw [← Ny547.out] at ho5)); have n0_ := Aside0.mk (Kd.R_lower ho5 (below_size (by repeat (first | (with_reducible first | exact HB.out | apply below_alloc | apply pw_below_drewN | apply below_drew1) | exact HB.out)))); have n1_ := Aside0.mk (below_step (by repeat (first | (with_reducible first | exact HB.out | apply below_alloc | apply pw_below_drewN | apply below_drew1) | exact HB.out)) hb); clear HB; have HO549 := n0_; have HB := n1_; clear n0_ n1_; clear hb ho5))
   go_loopg [14] k (fun kq v14 w' => ∃ (x3_1 : List Int) (x14_1 : Int), v14 = .int .i64 x14_1 ∧ Aside0 (impl_kidsOk.l0 kq l0 x3_1 l0 (l0.length : Int) x14_1 = some r) ∧ Aside0 (kq ≤ k) ∧ Aside0 (Kd.R (Kd.int .i64) 3 w' w.heap.size (fun _ => True) v548 x3_1) ∧ Aside0 (Below w.heap.size w w'))
   case atStart => exact ⟨(y547), (0), (by first | rfl | (simp; done) | (simp [*]; done)), H', ⟨Nat.le_refl _⟩, ⟨by (with_reducible repeat (first | apply Kd.R_alloc | apply Kd.R_drewN | apply Kd.R_drew)); exact HO549.out⟩, ⟨by repeat (first | (with_reducible first | exact HB.out | apply below_alloc | apply pw_below_drewN | apply below_drew1) | exact HB.out)⟩⟩
   case round =>
    clear H'
    try clear c1
    try clear c2
    try clear c2b0
    try clear c2b1
    try clear p2
    try clear c3
    try clear c3b0
    try clear c3b1
    obtain ⟨x3_1, x14_1, rfl, HA, HK1, HO_3, HB⟩ := hrel
    cases gk with
    | zero => exact absurd HA.out (by simp [impl_kidsOk.l0])
    | succ k1 =>
     have H := HA.out
     clear HA
     simp only [impl_kidsOk.l0] at H
     by_cases c6 : x14_1 < (l0.length : Int)
     ·rw [if_pos c6] at H
      have c6b0 : decide (x14_1 < (l0.length : Int)) = true := decide_eq_true c6
      clear c6
      by_cases c7 : 0 ≤ x14_1
      ·rw [if_pos c7] at H
       have c7b0 : decide (0 ≤ x14_1) = true := decide_eq_true c7
       clear c7
       by_cases c8 : x14_1 < (l0.length : Int)
       ·rw [if_pos c8] at H
        have c8b0 : decide (x14_1 < (l0.length : Int)) = true := decide_eq_true c8
        clear c8
        have H' := Aside0.mk H
        clear H
        have p550 : 0 ≤ (x14_1 : Int) := of_decide_eq_true (by first | (with_reducible assumption) | assumption)
        have q550 : x14_1 < (l0.length : Int) := of_decide_eq_true (by first | (with_reducible assumption) | assumption)
        obtain ⟨ad550, A550_3, c550_3, A550_6, c550_6, e550, hx550_0, hx550_1, hx550_2, hx550_3, hx550_4, hx550_5, hx550_6, hl550_3, hi550_3, hl550_6, hi550_6⟩ := at_T89 HR0.out x14_1 p550 q550
        cases e550
        replace hx550_0 := (HB.out.cell (World.block_lt_of_cell? w _ hx550_0)).trans hx550_0
        replace hx550_1 := (HB.out.cell (World.block_lt_of_cell? w _ hx550_1)).trans hx550_1
        replace hx550_2 := (HB.out.cell (World.block_lt_of_cell? w _ hx550_2)).trans hx550_2
        replace hx550_3 := (HB.out.cell (World.block_lt_of_cell? w _ hx550_3)).trans hx550_3
        replace hx550_4 := (HB.out.cell (World.block_lt_of_cell? w _ hx550_4)).trans hx550_4
        replace hx550_5 := (HB.out.cell (World.block_lt_of_cell? w _ hx550_5)).trans hx550_5
        replace hx550_6 := (HB.out.cell (World.block_lt_of_cell? w _ hx550_6)).trans hx550_6
        have HR550_3 := Aside0.mk hi550_3
        have HC550_3 := Aside0.mk hl550_3
        clear hi550_3 hl550_3
        have HR550_6 := Aside0.mk hi550_6
        have HC550_6 := Aside0.mk hl550_6
        clear hi550_6 hl550_6
        replace p550 := eq_true p550
        replace q550 := eq_true q550
        go_wp2_with (first | ((with_reducible refine gate_dst (N := 5) rfl ?_); refine box_event ?hg (N := 5) ?hd (cs := #[.int .i64 0, .int .i64 0, .string (⟨#[]⟩ : ByteArray), .slice none 0 0, .string (⟨#[]⟩ : ByteArray), .int .i64 0, .slice none 0 0]) (t := 89) ?hr ?_; (case hd => rfl); (case hg => rfl); (case hr => first | (go_simp; done) | (go_simp; rfl)); intro gb551 hg w9 hbox hb; have n0_ := Aside0.mk (Kd.R_below (by (with_reducible repeat (first | apply Kd.R_alloc | apply Kd.R_drewN | apply Kd.R_drew)); exact HO_3.out) hb); have n1_ := Aside0.mk (below_step (by repeat (first | (with_reducible first | exact HB.out | apply below_alloc | apply pw_below_drewN | apply below_drew1) | exact HB.out)) hb); have n2_ := Aside0.mk (hbox); have n3_ := Aside0.mk ((by rw [hg]; exact (below_size (by repeat (first | (with_reducible first | exact HB.out | apply below_alloc | apply pw_below_drewN | apply below_drew1) | exact HB.out))) : w.heap.size ≤ gb551)); have n4_ := Aside0.mk ((by rw [hg]; exact (below_size (by repeat (first | (with_reducible first | exact HB.out | apply below_alloc | apply pw_below_drewN | apply below_drew1) | exact HB.out))) : w.heap.size ≤ gb551)); clear HO_3; clear HB; have HO_3 := n0_; have HB := n1_; have BK551 := n2_; have GW551 := n3_; have GE551 := n4_; clear n0_ n1_ n2_ n3_ n4_; clear hb hbox hg; have hcz10_0 : w9.cell? ⟨gb551, 0, none⟩ = some (.int .i64 0) := (blk_cell BK551.out 0).trans rfl; have hcz10_1 : w9.cell? ⟨gb551, 1, none⟩ = some (.int .i64 0) := (blk_cell BK551.out 1).trans rfl; have hcz10_2 : w9.cell? ⟨gb551, 2, none⟩ = some (.string (⟨#[]⟩ : ByteArray)) := (blk_cell BK551.out 2).trans rfl; have hcz10_3 : w9.cell? ⟨gb551, 3, none⟩ = some (.slice none 0 0) := (blk_cell BK551.out 3).trans rfl; have hcz10_4 : w9.cell? ⟨gb551, 4, none⟩ = some (.string (⟨#[]⟩ : ByteArray)) := (blk_cell BK551.out 4).trans rfl; have hcz10_5 : w9.cell? ⟨gb551, 5, none⟩ = some (.int .i64 0) := (blk_cell BK551.out 5).trans rfl; have hcz10_6 : w9.cell? ⟨gb551, 6, none⟩ = some (.slice none 0 0) := (blk_cell BK551.out 6).trans rfl; have hfz10_0 := blk_frozen BK551.out 0; have hfz10_1 := blk_frozen BK551.out 1; have hfz10_2 := blk_frozen BK551.out 2; have hfz10_3 := blk_frozen BK551.out 3; have hfz10_4 := blk_frozen BK551.out 4; have hfz10_5 := blk_frozen BK551.out 5; have hfz10_6 := blk_frozen BK551.out 6))
        go_loopg [22] k1 (fun kq v22 w' => ∃ (x3_2 : List Int) (x22_2 : Int), v22 = .int .i64 x22_2 ∧ Aside0 (impl_kidsOk.l1 kq l0 x3_2 x14_1 l0 (l0.length : Int) x14_1 ((rd_T89 l0 x14_1).f6) (((rd_T89 l0 x14_1).f6).length : Int) x22_2 = some r) ∧ Aside0 (kq ≤ k1) ∧ Aside0 (Kd.R (Kd.int .i64) 3 w' w.heap.size (fun _ => True) v548 x3_2) ∧ Aside0 (w'.heap[gb551]? = some (.cells #[.int .i64 ((rd_T89 l0 x14_1).f0), .int .i64 ((rd_T89 l0 x14_1).f1), .string ((rd_T89 l0 x14_1).f2), (.slice A550_3 ((rd_T89 l0 x14_1).f3).length c550_3), .string ((rd_T89 l0 x14_1).f4), .int .i64 ((rd_T89 l0 x14_1).f5), (.slice A550_6 ((rd_T89 l0 x14_1).f6).length c550_6)] 89 (0, 0))) ∧ Aside0 (Below w.heap.size w w'))
        case atStart => exact ⟨(x3_1), (0), (by first | rfl | (simp; done) | (simp [*]; done)), H', ⟨Nat.le_refl _⟩, ⟨by (with_reducible repeat (first | apply Kd.R_alloc | apply Kd.R_drewN | apply Kd.R_drew)); exact Kd.R_mono (Kd.R_far (p := ⟨gb551, 6, none⟩) (Kd.R_far (p := ⟨gb551, 5, none⟩) (Kd.R_far (p := ⟨gb551, 4, none⟩) (Kd.R_far (p := ⟨gb551, 3, none⟩) (Kd.R_far (p := ⟨gb551, 2, none⟩) (Kd.R_far (p := ⟨gb551, 1, none⟩) (Kd.R_far (p := ⟨gb551, 0, none⟩) (Kd.R_types HO_3.out BK551.out (by decide)) (fun _ hk => hk.2) (.int .i64 ((rd_T89 l0 x14_1).f0))) (fun _ hk => hk.2) (.int .i64 ((rd_T89 l0 x14_1).f1))) (fun _ hk => hk.2) (.string ((rd_T89 l0 x14_1).f2))) (fun _ hk => hk.2) (.slice A550_3 ((rd_T89 l0 x14_1).f3).length c550_3)) (fun _ hk => hk.2) (.string ((rd_T89 l0 x14_1).f4))) (fun _ hk => hk.2) (.int .i64 ((rd_T89 l0 x14_1).f5))) (fun _ hk => hk.2) (.slice A550_6 ((rd_T89 l0 x14_1).f6).length c550_6)) (fun _ hk => trivial)⟩, ⟨by (with_reducible repeat (first | refine blk_drewN ?_ _ | refine blk_drew ?_ | refine blk_alloc ?_ _)); refine blk_put (cs := #[.int .i64 ((rd_T89 l0 x14_1).f0), .int .i64 ((rd_T89 l0 x14_1).f1), .string ((rd_T89 l0 x14_1).f2), .slice A550_3 ((rd_T89 l0 x14_1).f3).length c550_3, .string ((rd_T89 l0 x14_1).f4), .int .i64 ((rd_T89 l0 x14_1).f5), .slice none 0 0]) ?_ 6 _ rfl; (with_reducible repeat (first | refine blk_drewN ?_ _ | refine blk_drew ?_ | refine blk_alloc ?_ _)); refine blk_put (cs := #[.int .i64 ((rd_T89 l0 x14_1).f0), .int .i64 ((rd_T89 l0 x14_1).f1), .string ((rd_T89 l0 x14_1).f2), .slice A550_3 ((rd_T89 l0 x14_1).f3).length c550_3, .string ((rd_T89 l0 x14_1).f4), .int .i64 0, .slice none 0 0]) ?_ 5 _ rfl; (with_reducible repeat (first | refine blk_drewN ?_ _ | refine blk_drew ?_ | refine blk_alloc ?_ _)); refine blk_put (cs := #[.int .i64 ((rd_T89 l0 x14_1).f0), .int .i64 ((rd_T89 l0 x14_1).f1), .string ((rd_T89 l0 x14_1).f2), .slice A550_3 ((rd_T89 l0 x14_1).f3).length c550_3, .string (⟨#[]⟩ : ByteArray), .int .i64 0, .slice none 0 0]) ?_ 4 _ rfl; (with_reducible repeat (first | refine blk_drewN ?_ _ | refine blk_drew ?_ | refine blk_alloc ?_ _)); refine blk_put (cs := #[.int .i64 ((rd_T89 l0 x14_1).f0), .int .i64 ((rd_T89 l0 x14_1).f1), .string ((rd_T89 l0 x14_1).f2), .slice none 0 0, .string (⟨#[]⟩ : ByteArray), .int .i64 0, .slice none 0 0]) ?_ 3 _ rfl; (with_reducible repeat (first | refine blk_drewN ?_ _ | refine blk_drew ?_ | refine blk_alloc ?_ _)); refine blk_put (cs := #[.int .i64 ((rd_T89 l0 x14_1).f0), .int .i64 ((rd_T89 l0 x14_1).f1), .string (⟨#[]⟩ : ByteArray), .slice none 0 0, .string (⟨#[]⟩ : ByteArray), .int .i64 0, .slice none 0 0]) ?_ 2 _ rfl; (with_reducible repeat (first | refine blk_drewN ?_ _ | refine blk_drew ?_ | refine blk_alloc ?_ _)); refine blk_put (cs := #[.int .i64 ((rd_T89 l0 x14_1).f0), .int .i64 0, .string (⟨#[]⟩ : ByteArray), .slice none 0 0, .string (⟨#[]⟩ : ByteArray), .int .i64 0, .slice none 0 0]) ?_ 1 _ rfl; (with_reducible repeat (first | refine blk_drewN ?_ _ | refine blk_drew ?_ | refine blk_alloc ?_ _)); refine blk_put (cs := #[.int .i64 0, .int .i64 0, .string (⟨#[]⟩ : ByteArray), .slice none 0 0, .string (⟨#[]⟩ : ByteArray), .int .i64 0, .slice none 0 0]) ?_ 0 _ rfl; (with_reducible repeat (first | refine blk_drewN ?_ _ | refine blk_drew ?_ | refine blk_alloc ?_ _)); exact BK551.out⟩, ⟨by repeat (first | (with_reducible first | exact HB.out | apply below_alloc | apply pw_below_drewN | apply below_drew1 | refine below_set ?_ GE551.out) | exact HB.out)⟩⟩
        case round =>
         clear H'
         try clear c1
         try clear c2
         try clear c2b0
         try clear c2b1
         try clear p2
         try clear c3
         try clear c3b0
         try clear c3b1
         try clear c5
         try clear p5
         try clear q5
         try clear hx5
         try clear c6
         try clear c6b0
         try clear c7
         try clear c7b0
         try clear c8
         try clear c8b0
         try clear hcz10_0
         try clear hcz10_1
         try clear hcz10_2
         try clear hcz10_3
         try clear hcz10_4
         try clear hcz10_5
         try clear hcz10_6
         try clear hfz10_0
         try clear hfz10_1
         try clear hfz10_2
         try clear hfz10_3
         try clear hfz10_4
         try clear hfz10_5
         try clear hfz10_6
         try clear hx550_0
         try clear hx550_1
         try clear hx550_2
         try clear hx550_3
         try clear hx550_4
         try clear hx550_5
         try clear hx550_6
         try clear p2
         try clear p550
         try clear q550
         obtain ⟨x3_2, x22_2, rfl, HA, HK2, HO_3, BK551, HB⟩ := hrel
         cases gk with
         | zero => exact absurd HA.out (by simp [impl_kidsOk.l1])
         | succ k2 =>
          have H := HA.out
          clear HA
          simp only [impl_kidsOk.l1] at H
          by_cases c11 : x22_2 < (((rd_T89 l0 x14_1).f6).length : Int)
          ·rw [if_pos c11] at H
           have c11b0 : decide (x22_2 < (((rd_T89 l0 x14_1).f6).length : Int)) = true := decide_eq_true c11
           clear c11
           by_cases c12 : 0 ≤ x22_2
           ·rw [if_pos c12] at H
            have c12b0 : decide (0 ≤ x22_2) = true := decide_eq_true c12
            clear c12
            by_cases c13 : x22_2 < (((rd_T89 l0 x14_1).f6).length : Int)
            ·rw [if_pos c13] at H
             have c13b0 : decide (x22_2 < (((rd_T89 l0 x14_1).f6).length : Int)) = true := decide_eq_true c13
             clear c13
             replace H := Option.bind_eq_some_iff.mp H
             obtain ⟨t553, A140, H⟩ := H
             replace H : (if t553 = true then (if 0 ≤ (rd ((rd_T89 l0 x14_1).f6) x22_2) then (if (rd ((rd_T89 l0 x14_1).f6) x22_2) < (l0.length : Int) then (if ((rd_T89 l0 (rd ((rd_T89 l0 x14_1).f6) x22_2)).f5) = x14_1 then (if (rd ((rd_T89 l0 x14_1).f6) x22_2) < (x3_2.length : Int) then (impl_kidsOk.l1 k2 l0 (x3_2.set ((rd ((rd_T89 l0 x14_1).f6) x22_2) : Int).toNat (wrap64 ((rd x3_2 (rd ((rd_T89 l0 x14_1).f6) x22_2)) + 1))) x14_1 l0 (l0.length : Int) x14_1 ((rd_T89 l0 x14_1).f6) (((rd_T89 l0 x14_1).f6).length : Int) (wrap64 (x22_2 + 1))) else (none)) else (some false)) else (none)) else (none)) else (some false)) = some r := H
             have A14 := Aside0.mk A140
             clear A140
             by_cases c15 : t553 = true
             ·subst c15
              have H1 : (if 0 ≤ (rd ((rd_T89 l0 x14_1).f6) x22_2) then (if (rd ((rd_T89 l0 x14_1).f6) x22_2) < (l0.length : Int) then (if ((rd_T89 l0 (rd ((rd_T89 l0 x14_1).f6) x22_2)).f5) = x14_1 then (if (rd ((rd_T89 l0 x14_1).f6) x22_2) < (x3_2.length : Int) then (impl_kidsOk.l1 k2 l0 (x3_2.set ((rd ((rd_T89 l0 x14_1).f6) x22_2) : Int).toNat (wrap64 ((rd x3_2 (rd ((rd_T89 l0 x14_1).f6) x22_2)) + 1))) x14_1 l0 (l0.length : Int) x14_1 ((rd_T89 l0 x14_1).f6) (((rd_T89 l0 x14_1).f6).length : Int) (wrap64 (x22_2 + 1))) else (none)) else (some false)) else (none)) else (none)) = some r := by rw [if_pos rfl] at H; exact H
              clear H
              have H := H1
              clear H1
              by_cases c16 : 0 ≤ (rd ((rd_T89 l0 x14_1).f6) x22_2)
              ·rw [if_pos c16] at H
               have c16b0 : decide (0 ≤ (rd ((rd_T89 l0 x14_1).f6) x22_2)) = true := decide_eq_true c16
               clear c16
               by_cases c17 : (rd ((rd_T89 l0 x14_1).f6) x22_2) < (l0.length : Int)
               ·rw [if_pos c17] at H
                have c17b0 : decide ((rd ((rd_T89 l0 x14_1).f6) x22_2) < (l0.length : Int)) = true := decide_eq_true c17
                clear c17
                by_cases c18 : ((rd_T89 l0 (rd ((rd_T89 l0 x14_1).f6) x22_2)).f5) = x14_1
                ·rw [if_pos c18] at H
                 have c18b0 : (((rd_T89 l0 (rd ((rd_T89 l0 x14_1).f6) x22_2)).f5) == x14_1) = true := beq_iff_eq.mpr c18
                 have c18b1 : (((rd_T89 l0 (rd ((rd_T89 l0 x14_1).f6) x22_2)).f5) != x14_1) = false := bne_eq_false_iff_eq.mpr c18
                 clear c18
                 by_cases c19 : (rd ((rd_T89 l0 x14_1).f6) x22_2) < (x3_2.length : Int)
                 ·rw [if_pos c19] at H
                  have c19b0 : decide ((rd ((rd_T89 l0 x14_1).f6) x22_2) < (x3_2.length : Int)) = true := decide_eq_true c19
                  clear c19
                  obtain ⟨y556, hy556⟩ : ∃ y_ : List Int, y_ = (x3_2.set ((rd ((rd_T89 l0 x14_1).f6) x22_2) : Int).toNat (wrap64 ((rd x3_2 (rd ((rd_T89 l0 x14_1).f6) x22_2)) + 1))) := ⟨_, rfl⟩
                  replace H : (impl_kidsOk.l1 k2 l0 y556 x14_1 l0 (l0.length : Int) x14_1 ((rd_T89 l0 x14_1).f6) (((rd_T89 l0 x14_1).f6).length : Int) (wrap64 (x22_2 + 1))) = some r := by first | (rw [hy556]; with_reducible exact H) | (have H2_ := (Option.bind_some _ _).symm.trans H; rw [hy556]; with_reducible exact H2_) | (have H2_ := (Option.bind_some _ _).symm.trans H; with_reducible exact H2_) | with_reducible exact H | (rw [hy556]; exact H) | exact H
                  have Ny556 := Aside0.mk hy556
                  clear hy556
                  have H' := Aside0.mk H
                  clear H
                  have p552 : 0 ≤ (x22_2 : Int) := of_decide_eq_true (by first | (with_reducible assumption) | assumption)
                  have q552 : x22_2 < (((rd_T89 l0 x14_1).f6).length : Int) := of_decide_eq_true (by first | (with_reducible assumption) | assumption)
                  obtain ⟨ad552, e552, hx552_0⟩ := Kd.at_int HR550_6.out x22_2 p552 q552
                  cases e552
                  replace hx552_0 := (HB.out.cell (World.block_lt_of_cell? w _ hx552_0)).trans hx552_0
                  replace p552 := eq_true p552
                  replace q552 := eq_true q552
                  go_wp2_with (first | ((with_reducible refine gate_callee (f := 48) rfl ?_); refine goesL_ (some 30) rfl rfl Try.func48 (by kernel_rfl) rfl #[.int .i64 (rd ((rd_T89 l0 x14_1).f6) x22_2), .int .i64 1, .int .i64 (wrap64 ((l0.length : Int) - 1))] rfl (by (try simp only [List.map_toArray, List.map_cons, List.map_nil]); first | done | rfl | (simp only [List.length_drop, List.length_take]; rfl)) ?_; (with_reducible refine (impl_inRange.calls (rd ((rd_T89 l0 x14_1).f6) x22_2) 1 (wrap64 ((l0.length : Int) - 1)) true _ A14.out).mono ?_); rintro e w' ⟨rfl, ⟨nd, rfl⟩⟩; refine ⟨_, rfl, ?_⟩; (try (rw [drewN_self wr]; generalize hq_ : World.drewN wr _ = wr; have n0_ : Aside0 (Kd.R (Kd.int .i64) 3 wr w.heap.size (fun _ => True) v548 x3_2) := ⟨by rw [← hq_]; exact (by (with_reducible repeat (first | apply Kd.R_alloc | apply Kd.R_drewN | apply Kd.R_drew)); exact HO_3.out)⟩; have n1_ : Aside0 (wr.heap[gb551]? = some (.cells #[.int .i64 ((rd_T89 l0 x14_1).f0), .int .i64 ((rd_T89 l0 x14_1).f1), .string ((rd_T89 l0 x14_1).f2), .slice A550_3 ((rd_T89 l0 x14_1).f3).length c550_3, .string ((rd_T89 l0 x14_1).f4), .int .i64 ((rd_T89 l0 x14_1).f5), .slice (some ad552) ((rd_T89 l0 x14_1).f6).length c550_6] 89 (0, 0))) := ⟨by rw [← hq_]; exact (by (with_reducible repeat (first | refine blk_drewN ?_ _ | refine blk_drew ?_ | refine blk_alloc ?_ _)); exact BK551.out)⟩; have n2_ : Aside0 (Below w.heap.size w wr) := ⟨by rw [← hq_]; exact (by repeat (first | (with_reducible first | exact HB.out | apply below_alloc | apply pw_below_drewN | apply below_drew1 | refine below_set ?_ GE551.out) | exact HB.out))⟩; clear HO_3 BK551 HB hq_; have HO_3 := n0_; have BK551 := n1_; have HB := n2_; clear n0_ n1_ n2_)); have p554 : 0 ≤ ((rd ((rd_T89 l0 x14_1).f6) x22_2) : Int) := of_decide_eq_true (by first | (with_reducible assumption) | assumption); have q554 : (rd ((rd_T89 l0 x14_1).f6) x22_2) < (l0.length : Int) := of_decide_eq_true (by first | (with_reducible assumption) | assumption); obtain ⟨ad554, A554_3, c554_3, A554_6, c554_6, e554, hx554_0, hx554_1, hx554_2, hx554_3, hx554_4, hx554_5, hx554_6, hl554_3, hi554_3, hl554_6, hi554_6⟩ := at_T89 HR0.out (rd ((rd_T89 l0 x14_1).f6) x22_2) p554 q554; obtain rfl : ad550 = ad554 := (by injection e554); replace hx554_0 := (HB.out.cell (World.block_lt_of_cell? w _ hx554_0)).trans hx554_0; replace hx554_1 := (HB.out.cell (World.block_lt_of_cell? w _ hx554_1)).trans hx554_1; replace hx554_2 := (HB.out.cell (World.block_lt_of_cell? w _ hx554_2)).trans hx554_2; replace hx554_3 := (HB.out.cell (World.block_lt_of_cell? w _ hx554_3)).trans hx554_3; replace hx554_4 := (HB.out.cell (World.block_lt_of_cell? w _ hx554_4)).trans hx554_4; replace hx554_5 := (HB.out.cell (World.block_lt_of_cell? w _ hx554_5)).trans hx554_5; replace hx554_6 := (HB.out.cell (World.block_lt_of_cell? w _ hx554_6)).trans hx554_6; have HR554_3 := Aside0.mk hi554_3; have HC554_3 := Aside0.mk hl554_3; clear hi554_3 hl554_3; have HR554_6 := Aside0.mk hi554_6; have HC554_6 := Aside0.mk hl554_6; clear hi554_6 hl554_6; replace p554 := eq_true p554; replace q554 := eq_true q554; obtain ⟨Ao21, co21, eo21⟩ := Kd.R_slice HO_3.out; subst eo21; have p555 : 0 ≤ ((rd ((rd_T89 l0 x14_1).f6) x22_2) : Int) := of_decide_eq_true (by first | (with_reducible assumption) | assumption); have q555 : (rd ((rd_T89 l0 x14_1).f6) x22_2) < (x3_2.length : Int) := of_decide_eq_true (by first | (with_reducible assumption) | assumption); obtain ⟨ad555, e555, hx555_0⟩ := Kd.at_int (Kd.R_reads' HO_3.out).2.2 (rd ((rd_T89 l0 x14_1).f6) x22_2) p555 q555; cases e555; replace p555 := eq_true p555; replace q555 := eq_true q555; have p20 : 0 ≤ ((rd ((rd_T89 l0 x14_1).f6) x22_2) : Int) := of_decide_eq_true (by first | (with_reducible assumption) | assumption); have q20 : ((rd ((rd_T89 l0 x14_1).f6) x22_2) : Int) < ((x3_2.length : Int) : Int) := of_decide_eq_true (by first | (with_reducible assumption) | assumption); obtain ⟨go20, co20, eo20, gb20, gl20, cl20, HG20⟩ := Kd.R_form HO_3.out (by omega); (first | cases eo20 | (injection eo20 with ea_ en_ ec_; (first | subst ea_ | (injection ea_ with ea_; subst ea_)); subst ec_; clear en_)); have GB20 := Aside0.mk gb20; have GG20 := Aside0.mk HG20; clear gb20 gl20 HG20; (first | simp only [add_plain] at hx555_0 | skip); obtain ⟨hx20_0, hf20_0⟩ := Kd.R_celln 0 HO_3.out ((rd ((rd_T89 l0 x14_1).f6) x22_2) : Int) p20 q20; replace p20 := eq_true p20; replace q20 := eq_true q20; obtain ⟨hy22_, hz22_⟩ := Kd.R_celln 0 HO_3.out ((rd ((rd_T89 l0 x14_1).f6) x22_2) : Int) (of_decide_eq_true (by first | (with_reducible assumption) | assumption)) (of_decide_eq_true (by first | (with_reducible assumption) | assumption)); have HP22 := Kd.R_putg HO_3.out ((rd ((rd_T89 l0 x14_1).f6) x22_2) : Int) (wrap64 ((rd x3_2 (rd ((rd_T89 l0 x14_1).f6) x22_2)) + 1))) | ((with_reducible refine gate_store (t := 3) (p := 46) rfl ?_); refine store_event (t := 3) (p := 46) (v := ?vo_w23) (w1 := (wr.setCell ⟨go20, ((rd ((rd_T89 l0 x14_1).f6) x22_2) : Int).toNat, none⟩ (.int .i64 (wrap64 ((rd x3_2 (rd ((rd_T89 l0 x14_1).f6) x22_2)) + 1))))) ?hg ?ho ?hn ?hr ?_; (case ho => rfl); (case hg => rfl); (case hn => rfl); (case hr => first | (go_simp; done) | (go_simp; rfl)); intro w23 hw; have hg : wr.grownBy w23 (some go20) := (by rw [hw]; exact HP22.2); have hp_ : Kd.R (Kd.int .i64) 3 w23 w.heap.size (fun _ => True) (.slice (some ⟨go20, 0, none⟩) x3_2.length co21) y556 := (by rw [hw, Ny556.out]; exact HP22.1); clear HP22; have n0_ := Aside0.mk (hp_); have n1_ := Aside0.mk (blk_grown (g := gb551) (o := .cells #[.int .i64 ((rd_T89 l0 x14_1).f0), .int .i64 ((rd_T89 l0 x14_1).f1), .string ((rd_T89 l0 x14_1).f2), .slice A550_3 ((rd_T89 l0 x14_1).f3).length c550_3, .string ((rd_T89 l0 x14_1).f4), .int .i64 ((rd_T89 l0 x14_1).f5), .slice (some ad552) ((rd_T89 l0 x14_1).f6).length c550_6] 89 (0, 0)) (by (with_reducible repeat (first | refine blk_drewN ?_ _ | refine blk_drew ?_ | refine blk_alloc ?_ _)); exact BK551.out) hg (Kd.R_ne HO_3.out BK551.out (by decide))); have n2_ := Aside0.mk ((by rw [hw]; exact below_set (HB.out) GB20.out : Below w.heap.size w w23)); clear HO_3; clear BK551; clear HB; have HO_3 := n0_; have BK551 := n1_; have HB := n2_; clear n0_ n1_ n2_; clear hg hw hp_))
                  go_roundg k2
                  case measure => have := HK1.out; have := HK2.out; omega
                  case rel => exact ⟨(y556), (wrap64 (x22_2 + 1)), (by first | rfl | (simp; done) | (simp [*]; done)), H', ⟨by have := HK1.out; have := HK2.out; omega⟩, ⟨by (with_reducible repeat (first | apply Kd.R_alloc | apply Kd.R_drewN | apply Kd.R_drew)); exact HO_3.out⟩, ⟨by (with_reducible repeat (first | refine blk_drewN ?_ _ | refine blk_drew ?_ | refine blk_alloc ?_ _)); exact BK551.out⟩, ⟨by repeat (first | (with_reducible first | exact HB.out | apply below_alloc | apply pw_below_drewN | apply below_drew1 | refine below_set ?_ GE551.out) | exact HB.out)⟩⟩
                 ·rw [if_neg c19] at H
                  exact absurd H (by simp)
                ·rw [if_neg c18] at H
                 have c18b0 : (((rd_T89 l0 (rd ((rd_T89 l0 x14_1).f6) x22_2)).f5) == x14_1) = false := beq_eq_false_iff_ne.mpr c18
                 have c18b1 : (((rd_T89 l0 (rd ((rd_T89 l0 x14_1).f6) x22_2)).f5) != x14_1) = true := bne_iff_ne.mpr c18
                 obtain rfl := Option.some.inj H
                 have p552 : 0 ≤ (x22_2 : Int) := of_decide_eq_true (by first | (with_reducible assumption) | assumption)
                 have q552 : x22_2 < (((rd_T89 l0 x14_1).f6).length : Int) := of_decide_eq_true (by first | (with_reducible assumption) | assumption)
                 obtain ⟨ad552, e552, hx552_0⟩ := Kd.at_int HR550_6.out x22_2 p552 q552
                 cases e552
                 replace hx552_0 := (HB.out.cell (World.block_lt_of_cell? w _ hx552_0)).trans hx552_0
                 replace p552 := eq_true p552
                 replace q552 := eq_true q552
                 go_wp2_with (first | ((with_reducible refine gate_callee (f := 48) rfl ?_); refine goesL_ (some 30) rfl rfl Try.func48 (by kernel_rfl) rfl #[.int .i64 (rd ((rd_T89 l0 x14_1).f6) x22_2), .int .i64 1, .int .i64 (wrap64 ((l0.length : Int) - 1))] rfl (by (try simp only [List.map_toArray, List.map_cons, List.map_nil]); first | done | rfl | (simp only [List.length_drop, List.length_take]; rfl)) ?_; (with_reducible refine (impl_inRange.calls (rd ((rd_T89 l0 x14_1).f6) x22_2) 1 (wrap64 ((l0.length : Int) - 1)) true _ A14.out).mono ?_); rintro e w' ⟨rfl, ⟨nd, rfl⟩⟩; refine ⟨_, rfl, ?_⟩; have p554 : 0 ≤ ((rd ((rd_T89 l0 x14_1).f6) x22_2) : Int) := of_decide_eq_true (by first | (with_reducible assumption) | assumption); have q554 : (rd ((rd_T89 l0 x14_1).f6) x22_2) < (l0.length : Int) := of_decide_eq_true (by first | (with_reducible assumption) | assumption); obtain ⟨ad554, A554_3, c554_3, A554_6, c554_6, e554, hx554_0, hx554_1, hx554_2, hx554_3, hx554_4, hx554_5, hx554_6, hl554_3, hi554_3, hl554_6, hi554_6⟩ := at_T89 HR0.out (rd ((rd_T89 l0 x14_1).f6) x22_2) p554 q554; obtain rfl : ad550 = ad554 := (by injection e554); replace hx554_0 := (HB.out.cell (World.block_lt_of_cell? w _ hx554_0)).trans hx554_0; replace hx554_1 := (HB.out.cell (World.block_lt_of_cell? w _ hx554_1)).trans hx554_1; replace hx554_2 := (HB.out.cell (World.block_lt_of_cell? w _ hx554_2)).trans hx554_2; replace hx554_3 := (HB.out.cell (World.block_lt_of_cell? w _ hx554_3)).trans hx554_3; replace hx554_4 := (HB.out.cell (World.block_lt_of_cell? w _ hx554_4)).trans hx554_4; replace hx554_5 := (HB.out.cell (World.block_lt_of_cell? w _ hx554_5)).trans hx554_5; replace hx554_6 := (HB.out.cell (World.block_lt_of_cell? w _ hx554_6)).trans hx554_6; have HR554_3 := Aside0.mk hi554_3; have HC554_3 := Aside0.mk hl554_3; clear hi554_3 hl554_3; have HR554_6 := Aside0.mk hi554_6; have HC554_6 := Aside0.mk hl554_6; clear hi554_6 hl554_6; replace p554 := eq_true p554; replace q554 := eq_true q554))
                 go_ret
                 exact ⟨by first | rfl | (simp [errW_none, errW_some] <;> rfl) | (simp [*, errW_none, errW_some] <;> rfl), by repeat (first | (with_reducible first | exact HB.out | apply below_alloc | apply pw_below_drewN | apply below_drew1 | refine below_set ?_ GE551.out) | exact HB.out)⟩
               ·rw [if_neg c17] at H
                exact absurd H (by simp)
              ·rw [if_neg c16] at H
               exact absurd H (by simp)
             ·replace c15 := Bool.eq_false_iff.mpr c15
              subst c15
              have H1 : (some false) = some r := by rw [if_neg (show ¬ (false = true) by decide)] at H; exact H
              clear H
              have H := H1
              clear H1
              obtain rfl := Option.some.inj H
              have p552 : 0 ≤ (x22_2 : Int) := of_decide_eq_true (by first | (with_reducible assumption) | assumption)
              have q552 : x22_2 < (((rd_T89 l0 x14_1).f6).length : Int) := of_decide_eq_true (by first | (with_reducible assumption) | assumption)
              obtain ⟨ad552, e552, hx552_0⟩ := Kd.at_int HR550_6.out x22_2 p552 q552
              cases e552
              replace hx552_0 := (HB.out.cell (World.block_lt_of_cell? w _ hx552_0)).trans hx552_0
              replace p552 := eq_true p552
              replace q552 := eq_true q552
              go_wp2_with (first | ((with_reducible refine gate_callee (f := 48) rfl ?_); refine goesL_ (some 30) rfl rfl Try.func48 (by kernel_rfl) rfl #[.int .i64 (rd ((rd_T89 l0 x14_1).f6) x22_2), .int .i64 1, .int .i64 (wrap64 ((l0.length : Int) - 1))] rfl (by (try simp only [List.map_toArray, List.map_cons, List.map_nil]); first | done | rfl | (simp only [List.length_drop, List.length_take]; rfl)) ?_; (with_reducible refine (impl_inRange.calls (rd ((rd_T89 l0 x14_1).f6) x22_2) 1 (wrap64 ((l0.length : Int) - 1)) false _ A14.out).mono ?_); rintro e w' ⟨rfl, ⟨nd, rfl⟩⟩; refine ⟨_, rfl, ?_⟩))
              go_ret
              exact ⟨by first | rfl | (simp [errW_none, errW_some] <;> rfl) | (simp [*, errW_none, errW_some] <;> rfl), by repeat (first | (with_reducible first | exact HB.out | apply below_alloc | apply pw_below_drewN | apply below_drew1 | refine below_set ?_ GE551.out) | exact HB.out)⟩
            ·rw [if_neg c13] at H
             exact absurd H (by simp)
           ·rw [if_neg c12] at H
            exact absurd H (by simp)
          ·rw [if_neg c11] at H
           have c11b0 : decide (x22_2 < (((rd_T89 l0 x14_1).f6).length : Int)) = false := decide_eq_false c11
           clear c11
           have H' := Aside0.mk H
           clear H
           go_wp2
           go_roundg k2
           case measure => have := HK1.out; have := HK2.out; omega
           case rel => exact ⟨(x3_2), (wrap64 (x14_1 + 1)), (by first | rfl | (simp; done) | (simp [*]; done)), H', ⟨by have := HK1.out; have := HK2.out; omega⟩, ⟨by (with_reducible repeat (first | apply Kd.R_alloc | apply Kd.R_drewN | apply Kd.R_drew)); exact HO_3.out⟩, ⟨by repeat (first | (with_reducible first | exact HB.out | apply below_alloc | apply pw_below_drewN | apply below_drew1 | refine below_set ?_ GE551.out) | exact HB.out)⟩⟩
       ·rw [if_neg c8] at H
        exact absurd H (by simp)
      ·rw [if_neg c7] at H
       exact absurd H (by simp)
     ·rw [if_neg c6] at H
      have c6b0 : decide (x14_1 < (l0.length : Int)) = false := decide_eq_false c6
      clear c6
      have H' := Aside0.mk H
      clear H
      go_wp2
      go_loopg [8] k1 (fun kq v8 w' => ∃ (x8_2 : Int), v8 = .int .i64 x8_2 ∧ Aside0 (impl_kidsOk.l2 kq l0 x3_1 x8_2 = some r) ∧ Aside0 (kq ≤ k1) ∧ Aside0 (Kd.R (Kd.int .i64) 3 w' w.heap.size (fun _ => True) v548 x3_1) ∧ Aside0 (Below w.heap.size w w'))
      case atStart => exact ⟨(1), (by first | rfl | (simp; done) | (simp [*]; done)), H', ⟨Nat.le_refl _⟩, ⟨by (with_reducible repeat (first | apply Kd.R_alloc | apply Kd.R_drewN | apply Kd.R_drew)); exact HO_3.out⟩, ⟨by repeat (first | (with_reducible first | exact HB.out | apply below_alloc | apply pw_below_drewN | apply below_drew1) | exact HB.out)⟩⟩
      case round =>
       clear H'
       try clear c1
       try clear c2
       try clear c2b0
       try clear c2b1
       try clear p2
       try clear q2
       try clear hx2
       try clear hf2
       try clear c3
       try clear c3b0
       try clear c3b1
       try clear c4
       try clear c5
       try clear p5
       try clear q5
       try clear hx5
       try clear c6
       try clear c6b0
       try clear p6
       try clear c7
       try clear c7b0
       try clear c8
       try clear c8b0
       try clear c11
       try clear c11b0
       try clear c12
       try clear c12b0
       try clear c13
       try clear c13b0
       try clear c15
       try clear c16
       try clear c16b0
       try clear c17
       try clear c17b0
       try clear c18
       try clear c18b0
       try clear c18b1
       try clear c19
       try clear c19b0
       try clear p20
       try clear q20
       try clear hx20
       try clear hf20
       try clear hcz10_0
       try clear hcz10_1
       try clear hcz10_2
       try clear hcz10_3
       try clear hcz10_4
       try clear hcz10_5
       try clear hcz10_6
       try clear hfz10_0
       try clear hfz10_1
       try clear hfz10_2
       try clear hfz10_3
       try clear hfz10_4
       try clear hfz10_5
       try clear hfz10_6
       try clear hx20_0
       try clear hx550_0
       try clear hx550_1
       try clear hx550_2
       try clear hx550_3
       try clear hx550_4
       try clear hx550_5
       try clear hx550_6
       try clear hx552_0
       try clear hx554_0
       try clear hx554_1
       try clear hx554_2
       try clear hx554_3
       try clear hx554_4
       try clear hx554_5
       try clear hx554_6
       try clear hx555_0
       try clear p2
       try clear p20
       try clear p5
       try clear p550
       try clear p552
       try clear p554
       try clear p555
       try clear q20
       try clear q5
       try clear q550
       try clear q552
       try clear q554
       try clear q555
       obtain ⟨x8_2, rfl, HA, HK2, HO_3, HB⟩ := hrel
       cases gk with
       | zero => exact absurd HA.out (by simp [impl_kidsOk.l2])
       | succ k2 =>
        have H := HA.out
        clear HA
        simp only [impl_kidsOk.l2] at H
        by_cases c24 : x8_2 < (l0.length : Int)
        ·rw [if_pos c24] at H
         have c24b0 : decide (x8_2 < (l0.length : Int)) = true := decide_eq_true c24
         clear c24
         by_cases c25 : 0 ≤ x8_2
         ·rw [if_pos c25] at H
          have c25b0 : decide (0 ≤ x8_2) = true := decide_eq_true c25
          clear c25
          by_cases c26 : x8_2 < (x3_1.length : Int)
          ·rw [if_pos c26] at H
           have c26b0 : decide (x8_2 < (x3_1.length : Int)) = true := decide_eq_true c26
           clear c26
           by_cases c27 : (rd x3_1 x8_2) = 1
           ·rw [if_pos c27] at H
            have c27b0 : ((rd x3_1 x8_2) == 1) = true := beq_iff_eq.mpr c27
            have c27b1 : ((rd x3_1 x8_2) != 1) = false := bne_eq_false_iff_eq.mpr c27
            clear c27
            have H' := Aside0.mk H
            clear H
            obtain ⟨Ao28, co28, eo28⟩ := Kd.R_slice HO_3.out
            subst eo28
            have p557 : 0 ≤ (x8_2 : Int) := of_decide_eq_true (by first | (with_reducible assumption) | assumption)
            have q557 : x8_2 < (x3_1.length : Int) := of_decide_eq_true (by first | (with_reducible assumption) | assumption)
            obtain ⟨ad557, e557, hx557_0⟩ := Kd.at_int (Kd.R_reads' HO_3.out).2.2 x8_2 p557 q557
            cases e557
            replace p557 := eq_true p557
            replace q557 := eq_true q557
            go_wp2
            go_roundg k2
            case measure => have := HK1.out; have := HK2.out; omega
            case rel => exact ⟨(wrap64 (x8_2 + 1)), (by first | rfl | (simp; done) | (simp [*]; done)), H', ⟨by have := HK1.out; have := HK2.out; omega⟩, ⟨by (with_reducible repeat (first | apply Kd.R_alloc | apply Kd.R_drewN | apply Kd.R_drew)); exact HO_3.out⟩, ⟨by repeat (first | (with_reducible first | exact HB.out | apply below_alloc | apply pw_below_drewN | apply below_drew1) | exact HB.out)⟩⟩
           ·rw [if_neg c27] at H
            have c27b0 : ((rd x3_1 x8_2) == 1) = false := beq_eq_false_iff_ne.mpr c27
            have c27b1 : ((rd x3_1 x8_2) != 1) = true := bne_iff_ne.mpr c27
            obtain rfl := Option.some.inj H
            obtain ⟨Ao29, co29, eo29⟩ := Kd.R_slice HO_3.out
            subst eo29
            have p557 : 0 ≤ (x8_2 : Int) := of_decide_eq_true (by first | (with_reducible assumption) | assumption)
            have q557 : x8_2 < (x3_1.length : Int) := of_decide_eq_true (by first | (with_reducible assumption) | assumption)
            obtain ⟨ad557, e557, hx557_0⟩ := Kd.at_int (Kd.R_reads' HO_3.out).2.2 x8_2 p557 q557
            cases e557
            replace p557 := eq_true p557
            replace q557 := eq_true q557
            go_wp2
            go_ret
            exact ⟨by first | rfl | (simp [errW_none, errW_some] <;> rfl) | (simp [*, errW_none, errW_some] <;> rfl), by repeat (first | (with_reducible first | exact HB.out | apply below_alloc | apply pw_below_drewN | apply below_drew1) | exact HB.out)⟩
          ·rw [if_neg c26] at H
           exact absurd H (by simp)
         ·rw [if_neg c25] at H
          exact absurd H (by simp)
        ·rw [if_neg c24] at H
         have c24b0 : decide (x8_2 < (l0.length : Int)) = false := decide_eq_false c24
         clear c24
         obtain rfl := Option.some.inj H
         go_wp2
         go_ret
         exact ⟨by first | rfl | (simp [errW_none, errW_some] <;> rfl) | (simp [*, errW_none, errW_some] <;> rfl), by repeat (first | (with_reducible first | exact HB.out | apply below_alloc | apply pw_below_drewN | apply below_drew1) | exact HB.out)⟩
  ·rw [if_neg c3] at H
   exact absurd H (by simp)
 ·rw [if_neg c2] at H
  exact absurd H (by simp)
end Go.Proofs.Ytlocaaebgghkbaa.A
