-- joined by wip/tools/shake.py
import Derived.Test.YtlocaaebgghkbaaMTexts0
import Derived.Test.YtlocaaebgghkbaaMTexts2
import Derived.Test.YtlocaaebgghkbaaMTexts3
import Derived.Test.YtlocaaebgghkbaaMTexts1
namespace Go.Proofs.Ytlocaaebgghkbaa.A
open Go.RowKit Go.Proofs.YtlocaaebgghkbaaW.PrintWords Go.Proofs.YtlocaaebgghkbaaW.PrintLast Go.Proofs.YtlocaaebgghkbaaW.PrintMore
attribute [local go_sem] max2_int min2_int max_two min_two max_three min_three max_four min_four   -- for this text's walks alone
set_option linter.unusedVariables false
set_option linter.unusedSimpArgs false
mutual
def impl_TreeOk.j0 : Nat → List (S89) → Bool → Option (Bool)
 | 0, _, _ => none
 | k + 1, x0, x15 => if x15 = true then (some false) else (if 1 ≤ (x0.length : Int) then ((some (x0.drop 1 : List (S89))).bind fun y561 => (impl_TreeOk.l0 k x0 y561 (y561.length : Int) 0)) else (none))
def impl_TreeOk.l0 : Nat → List (S89) → List (S89) → Int → Int → Option (Bool)
 | 0, _, _, _, _ => none
 | k + 1, x0, x17, x18, x19 => if x19 < x18 then (if 0 ≤ x19 then (if x19 < (x17.length : Int) then ((impl_itemOk.f k ((rd_T89 x17 x19).f0) ((rd_T89 x17 x19).f1) ((rd_T89 x17 x19).f2) ((rd_T89 x17 x19).f3) ((rd_T89 x17 x19).f4) ((rd_T89 x17 x19).f5) ((rd_T89 x17 x19).f6)).bind fun t571 => (if t571 = true then ((impl_inRange.f ((rd_T89 x17 x19).f5) 0 (wrap64 ((x0.length : Int) - 1))).bind fun t572 => (if t572 = true then (if 0 ≤ ((rd_T89 x17 x19).f5) then (if ((rd_T89 x17 x19).f5) < (x0.length : Int) then ((impl_hasKids.f ((rd_T89 x0 ((rd_T89 x17 x19).f5)).f0)).bind fun t574 => (if t574 = true then (impl_TreeOk.l0 k x0 x17 x18 (wrap64 (x19 + 1))) else (some false))) else (none)) else (none)) else (some false))) else (some false))) else (none)) else (none)) else ((impl_kidsOk.f k x0).bind fun t565 => (if t565 = true then ((impl_order.f k x0).bind fun t566 => (some ((t566.length : Int) == (x0.length : Int)))) else (some false)))
end
def impl_TreeOk.f (k : Nat) (l0 : List (S89)) : Option (Bool) := (impl_inRange.f (l0.length : Int) 1 3000).bind fun t558 => (if t558 = true then (if 0 < (l0.length : Int) then ((impl_pageOk.f ((rd_T89 l0 0).f0) ((rd_T89 l0 0).f1) ((rd_T89 l0 0).f2) ((rd_T89 l0 0).f3) ((rd_T89 l0 0).f4) ((rd_T89 l0 0).f5) ((rd_T89 l0 0).f6)).bind fun t560 => (impl_TreeOk.j0 k l0 (!t560))) else (none)) else (impl_TreeOk.j0 k l0 true))
theorem impl_TreeOk.mono_l : ∀ k, (∀ y0 y1, LeO (impl_TreeOk.j0 k y0 y1) (impl_TreeOk.j0 (k + 1) y0 y1)) ∧ (∀ y0 y1 y2 y3, LeO (impl_TreeOk.l0 k y0 y1 y2 y3) (impl_TreeOk.l0 (k + 1) y0 y1 y2 y3))
 | 0 => ⟨fun _ _ r h => by simp [impl_TreeOk.j0] at h, fun _ _ _ _ r h => by simp [impl_TreeOk.l0] at h⟩
 | k + 1 => by
  obtain ⟨ih0, ih1⟩ := impl_TreeOk.mono_l k
  refine ⟨?_, ?_⟩
  ·intro y0 y1
   unfold impl_TreeOk.j0
   repeat' first
   | (with_reducible exact ih0 _ _)
   | (with_reducible exact ih1 _ _ _ _)
   | (with_reducible exact impl_itemOk.mono _ _ _ _ _ _ _ _)
   | (with_reducible exact impl_kidsOk.mono _ _)
   | (with_reducible exact impl_order.mono _ _)
   | (with_reducible exact LeO.refl _)
   | (with_reducible exact LeO.none _)
   | (with_reducible refine LeO.ite ?_ ?_)
   | (with_reducible refine LeO.bind ?_ (fun _ => ?_))
   | exact ih0 _ _
   | exact ih1 _ _ _ _
   | exact impl_itemOk.mono _ _ _ _ _ _ _ _
   | exact impl_kidsOk.mono _ _
   | exact impl_order.mono _ _
   | exact LeO.none _
   | refine LeO.ite ?_ ?_
   | refine LeO.bind ?_ (fun _ => ?_)
  ·intro y0 y1 y2 y3
   unfold impl_TreeOk.l0
   repeat' first
   | (with_reducible exact ih0 _ _)
   | (with_reducible exact ih1 _ _ _ _)
   | (with_reducible exact impl_itemOk.mono _ _ _ _ _ _ _ _)
   | (with_reducible exact impl_kidsOk.mono _ _)
   | (with_reducible exact impl_order.mono _ _)
   | (with_reducible exact LeO.refl _)
   | (with_reducible exact LeO.none _)
   | (with_reducible refine LeO.ite ?_ ?_)
   | (with_reducible refine LeO.bind ?_ (fun _ => ?_))
   | exact ih0 _ _
   | exact ih1 _ _ _ _
   | exact impl_itemOk.mono _ _ _ _ _ _ _ _
   | exact impl_kidsOk.mono _ _
   | exact impl_order.mono _ _
   | exact LeO.none _
   | refine LeO.ite ?_ ?_
   | refine LeO.bind ?_ (fun _ => ?_)
theorem impl_TreeOk.mono : ∀ a0 k, LeO (impl_TreeOk.f k a0) (impl_TreeOk.f (k + 1) a0) := by
 intro a0 k
 obtain ⟨ih0, ih1⟩ := impl_TreeOk.mono_l k
 unfold impl_TreeOk.f
 repeat' first
   | (with_reducible exact ih0 _ _)
   | (with_reducible exact ih1 _ _ _ _)
   | (with_reducible exact impl_itemOk.mono _ _ _ _ _ _ _ _)
   | (with_reducible exact impl_kidsOk.mono _ _)
   | (with_reducible exact impl_order.mono _ _)
   | (with_reducible exact LeO.refl _)
   | (with_reducible exact LeO.none _)
   | (with_reducible refine LeO.ite ?_ ?_)
   | (with_reducible refine LeO.bind ?_ (fun _ => ?_))
   | exact ih0 _ _
   | exact ih1 _ _ _ _
   | exact impl_itemOk.mono _ _ _ _ _ _ _ _
   | exact impl_kidsOk.mono _ _
   | exact impl_order.mono _ _
   | exact LeO.none _
   | refine LeO.ite ?_ ?_
   | refine LeO.bind ?_ (fun _ => ?_)
set_option maxHeartbeats 8000000 in
set_option maxRecDepth 100000 in
theorem impl_TreeOk.calls (k : Nat) (A0 : Option Addr) (c0 : Nat) (l0 : List (S89)) (r : Bool) (w : World) (hr0 : Kd.C k89 w A0 l0.length l0) (hc0 : l0.length ≤ c0) (h : impl_TreeOk.f k l0 = some r) :
  Calls Try.prog 76 #[.slice A0 l0.length c0] w fun e w' => e = .returned (.bool r) ∧ Below w.heap.size w w' := by
 have hu89 := Try.underlying89
 have HR0 := Aside0.mk hr0
 have HC0 := Aside0.mk hc0
 clear hr0 hc0
 have HB := Aside0.mk (Below.refl w.heap.size w)
 have H : ((impl_inRange.f (l0.length : Int) 1 3000).bind fun t558 => (if t558 = true then (if 0 < (l0.length : Int) then ((impl_pageOk.f ((rd_T89 l0 0).f0) ((rd_T89 l0 0).f1) ((rd_T89 l0 0).f2) ((rd_T89 l0 0).f3) ((rd_T89 l0 0).f4) ((rd_T89 l0 0).f5) ((rd_T89 l0 0).f6)).bind fun t560 => (impl_TreeOk.j0 k l0 (!t560))) else (none)) else (impl_TreeOk.j0 k l0 true))) = some r := h
 clear h
 have HC2 := Aside0.mk H
 clear H
 go_enter Try.func76, Try.ntmps76
 go_upto_region 1 with (fail)
 go_cut [15] (fun v15 wc => ∃ (kq : Nat) (x15_1 : Bool), v15 = .bool x15_1 ∧ Aside0 (impl_TreeOk.j0 kq l0 x15_1 = some r) ∧ Aside0 (kq ≤ k) ∧ Aside0 (Below w.heap.size w wc))
 case first =>
  have H := HC2.out
  clear HC2
  replace H := Option.bind_eq_some_iff.mp H
  obtain ⟨t558, A30, H⟩ := H
  replace H : (if t558 = true then (if 0 < (l0.length : Int) then ((impl_pageOk.f ((rd_T89 l0 0).f0) ((rd_T89 l0 0).f1) ((rd_T89 l0 0).f2) ((rd_T89 l0 0).f3) ((rd_T89 l0 0).f4) ((rd_T89 l0 0).f5) ((rd_T89 l0 0).f6)).bind fun t560 => (impl_TreeOk.j0 k l0 (!t560))) else (none)) else (impl_TreeOk.j0 k l0 true)) = some r := H
  have A3 := Aside0.mk A30
  clear A30
  by_cases c4 : t558 = true
  ·subst c4
   have H1 : (if 0 < (l0.length : Int) then ((impl_pageOk.f ((rd_T89 l0 0).f0) ((rd_T89 l0 0).f1) ((rd_T89 l0 0).f2) ((rd_T89 l0 0).f3) ((rd_T89 l0 0).f4) ((rd_T89 l0 0).f5) ((rd_T89 l0 0).f6)).bind fun t560 => (impl_TreeOk.j0 k l0 (!t560))) else (none)) = some r := by rw [if_pos rfl] at H; exact H
   clear H
   have H := H1
   clear H1
   by_cases c5 : 0 < (l0.length : Int)
   ·rw [if_pos c5] at H
    have c5b0 : decide (0 < (l0.length : Int)) = true := decide_eq_true c5
    have c5b1 : decide (0 < l0.length) = true := decide_eq_true (by omega)
    clear c5
    (first | rw [c5b0] | (simp only [i64_w, i32_w]; rw [c5b0]) | skip)
    replace H := Option.bind_eq_some_iff.mp H
    obtain ⟨t560, A60, H⟩ := H
    replace H : (impl_TreeOk.j0 k l0 (!t560)) = some r := H
    have A6 := Aside0.mk A60
    clear A60
    have H' := Aside0.mk H
    clear H
    go_wp2_with (first | ((with_reducible refine gate_callee (f := 48) rfl ?_); refine goesL_ (some 7) rfl rfl Try.func48 (by kernel_rfl) rfl #[.int .i64 (l0.length : Int), .int .i64 1, .int .i64 3000] rfl (by (try simp only [List.map_toArray, List.map_cons, List.map_nil]); first | done | rfl | (simp only [List.length_drop, List.length_take]; rfl)) ?_; (with_reducible refine (impl_inRange.calls (l0.length : Int) 1 3000 true _ A3.out).mono ?_); rintro e w' ⟨rfl, ⟨nd, rfl⟩⟩; refine ⟨_, rfl, ?_⟩; have p559 : 0 ≤ (0 : Int) := (by omega); have q559 : 0 < (l0.length : Int) := of_decide_eq_true (by first | (with_reducible assumption) | assumption); obtain ⟨ad559, A559_3, c559_3, A559_6, c559_6, e559, hx559_0, hx559_1, hx559_2, hx559_3, hx559_4, hx559_5, hx559_6, hl559_3, hi559_3, hl559_6, hi559_6⟩ := at_T89 HR0.out 0 p559 q559; cases e559; have qi559 : (0 < l0.length) = True := eq_true (by omega); (try rw [show ((0 : Int)).toNat = 0 from rfl] at hx559_0); (try rw [show 0 * 7 = 0 from rfl] at hx559_0); (try rw [Addr.add_zero'] at hx559_0); (try rw [show ((0 : Int)).toNat = 0 from rfl] at hx559_1); (try rw [show 0 * 7 = 0 from rfl] at hx559_1); (try rw [Addr.add_zero'] at hx559_1); (try rw [show ((0 : Int)).toNat = 0 from rfl] at hx559_2); (try rw [show 0 * 7 = 0 from rfl] at hx559_2); (try rw [Addr.add_zero'] at hx559_2); (try rw [show ((0 : Int)).toNat = 0 from rfl] at hx559_3); (try rw [show 0 * 7 = 0 from rfl] at hx559_3); (try rw [Addr.add_zero'] at hx559_3); (try rw [show ((0 : Int)).toNat = 0 from rfl] at hx559_4); (try rw [show 0 * 7 = 0 from rfl] at hx559_4); (try rw [Addr.add_zero'] at hx559_4); (try rw [show ((0 : Int)).toNat = 0 from rfl] at hx559_5); (try rw [show 0 * 7 = 0 from rfl] at hx559_5); (try rw [Addr.add_zero'] at hx559_5); (try rw [show ((0 : Int)).toNat = 0 from rfl] at hx559_6); (try rw [show 0 * 7 = 0 from rfl] at hx559_6); (try rw [Addr.add_zero'] at hx559_6); replace hx559_0 := (HB.out.cell (World.block_lt_of_cell? w _ hx559_0)).trans hx559_0; replace hx559_1 := (HB.out.cell (World.block_lt_of_cell? w _ hx559_1)).trans hx559_1; replace hx559_2 := (HB.out.cell (World.block_lt_of_cell? w _ hx559_2)).trans hx559_2; replace hx559_3 := (HB.out.cell (World.block_lt_of_cell? w _ hx559_3)).trans hx559_3; replace hx559_4 := (HB.out.cell (World.block_lt_of_cell? w _ hx559_4)).trans hx559_4; replace hx559_5 := (HB.out.cell (World.block_lt_of_cell? w _ hx559_5)).trans hx559_5; replace hx559_6 := (HB.out.cell (World.block_lt_of_cell? w _ hx559_6)).trans hx559_6; have HR559_3 := Aside0.mk hi559_3; have HC559_3 := Aside0.mk hl559_3; clear hi559_3 hl559_3; have HR559_6 := Aside0.mk hi559_6; have HC559_6 := Aside0.mk hl559_6; clear hi559_6 hl559_6; replace p559 := eq_true p559; replace q559 := eq_true q559) | (go_at_call 109; (with_reducible refine (impl_pageOk.calls ((rd_T89 l0 0).f0) ((rd_T89 l0 0).f1) ((rd_T89 l0 0).f2) _ _ ((rd_T89 l0 0).f3) ((rd_T89 l0 0).f4) ((rd_T89 l0 0).f5) _ _ ((rd_T89 l0 0).f6) t560 _ ?side1 ?side2 ?side3 ?side4 A6.out).mono ?_); (case side1 => repeat (first | exact (Kd.C_below HR559_3.out (by repeat (first | (with_reducible first | exact HB.out | apply below_alloc | apply pw_below_drewN | apply below_drew1) | exact HB.out))) | (with_reducible refine Kd.C_alloc ?_ _) | (with_reducible refine Kd.C_drewN ?_ _) | (with_reducible refine Kd.C_drew ?_))); (case side2 => exact HC559_3.out); (case side3 => repeat (first | exact (Kd.C_below HR559_6.out (by repeat (first | (with_reducible first | exact HB.out | apply below_alloc | apply pw_below_drewN | apply below_drew1) | exact HB.out))) | (with_reducible refine Kd.C_alloc ?_ _) | (with_reducible refine Kd.C_drewN ?_ _) | (with_reducible refine Kd.C_drew ?_))); (case side4 => exact HC559_6.out); rintro e w7 ⟨rfl, hb⟩; have n0_ := Aside0.mk (below_step (by repeat (first | (with_reducible first | exact HB.out | apply below_alloc | apply pw_below_drewN | apply below_drew1) | exact HB.out)) hb); clear HB; have HB := n0_; clear n0_; (try clear hb); (try clear hb2); (try clear hk); (try clear hi)))
    go_meet
    case rel => exact ⟨_, (!t560), (by first | rfl | (simp; done) | (simp [*]; done)), H', ⟨by first | omega | exact Nat.le_refl _⟩, ⟨by repeat (first | (with_reducible first | exact HB.out | apply below_alloc | apply pw_below_drewN | apply below_drew1) | exact HB.out)⟩⟩
   ·rw [if_neg c5] at H
    exact absurd H (by simp)
  ·replace c4 := Bool.eq_false_iff.mpr c4
   subst c4
   have H1 : (impl_TreeOk.j0 k l0 true) = some r := by rw [if_neg (show ¬ (false = true) by decide)] at H; exact H
   clear H
   have H := H1
   clear H1
   have H' := Aside0.mk H
   clear H
   go_wp2_with (first | ((with_reducible refine gate_callee (f := 48) rfl ?_); refine goesL_ (some 7) rfl rfl Try.func48 (by kernel_rfl) rfl #[.int .i64 (l0.length : Int), .int .i64 1, .int .i64 3000] rfl (by (try simp only [List.map_toArray, List.map_cons, List.map_nil]); first | done | rfl | (simp only [List.length_drop, List.length_take]; rfl)) ?_; (with_reducible refine (impl_inRange.calls (l0.length : Int) 1 3000 false _ A3.out).mono ?_); rintro e w' ⟨rfl, ⟨nd, rfl⟩⟩; refine ⟨_, rfl, ?_⟩))
   go_meet
   case rel => exact ⟨_, (true), (by first | rfl | (simp; done) | (simp [*]; done)), H', ⟨by first | omega | exact Nat.le_refl _⟩, ⟨by repeat (first | (with_reducible first | exact HB.out | apply below_alloc | apply pw_below_drewN | apply below_drew1) | exact HB.out)⟩⟩
 case rest =>
  clear HC2
  try clear p2
  try clear c4
  try clear c5
  try clear c5b0
  try clear c5b1
  try clear p5
  try clear q5
  try clear hx5
  try clear qi5
  try clear c7
  try clear hx559_0
  try clear hx559_1
  try clear hx559_2
  try clear hx559_3
  try clear hx559_4
  try clear hx559_5
  try clear hx559_6
  try clear p559
  try clear q559
  obtain ⟨kq, x15_1, rfl, HA, HJ1, HB⟩ := hcut
  cases kq with
  | zero => exact absurd HA.out (by simp [impl_TreeOk.j0])
  | succ kj1 =>
   have H := HA.out
   clear HA
   simp only [impl_TreeOk.j0] at H
   by_cases c8 : x15_1 = true
   ·subst c8
    have H1 : (some false) = some r := by rw [if_pos rfl] at H; exact H
    clear H
    have H := H1
    clear H1
    obtain rfl := Option.some.inj H
    go_wp2
    go_ret
    exact ⟨by first | rfl | (simp [errW_none, errW_some] <;> rfl) | (simp [*, errW_none, errW_some] <;> rfl), by repeat (first | (with_reducible first | exact HB.out | apply below_alloc | apply pw_below_drewN | apply below_drew1) | exact HB.out)⟩
   ·replace c8 := Bool.eq_false_iff.mpr c8
    subst c8
    have H1 : (if 1 ≤ (l0.length : Int) then ((some (l0.drop 1 : List (S89))).bind fun y561 => (impl_TreeOk.l0 kj1 l0 y561 (y561.length : Int) 0)) else (none)) = some r := by rw [if_neg (show ¬ (false = true) by decide)] at H; exact H
    clear H
    have H := H1
    clear H1
    by_cases c9 : 1 ≤ (l0.length : Int)
    ·rw [if_pos c9] at H
     have c9b0 := eq_true c9
     have c9b1 : decide (1 ≤ (l0.length : Int)) = true := decide_eq_true c9
     clear c9
     obtain ⟨y561, hy561⟩ : ∃ y_ : List (S89), y_ = (l0.drop 1) := ⟨_, rfl⟩
     replace H : (impl_TreeOk.l0 kj1 l0 y561 (y561.length : Int) 0) = some r := by first | (rw [hy561]; with_reducible exact H) | (have H2_ := (Option.bind_some _ _).symm.trans H; rw [hy561]; with_reducible exact H2_) | (have H2_ := (Option.bind_some _ _).symm.trans H; with_reducible exact H2_) | with_reducible exact H | (rw [hy561]; exact H) | exact H
     have Ny561 := Aside0.mk hy561
     clear hy561
     have H' := Aside0.mk H
     clear H
     have q10 : (1 : Int) ≤ ((l0.length : Int) : Int) := of_decide_eq_true (by first | (with_reducible assumption) | assumption)
     obtain ⟨i010, hi010, _, hsz10, _⟩ := info_parts info89
     have hroom10 : l0.length ≤ c0 := HC0.out
     have hC10 : Kd.C k89 _ A0 l0.length l0 := HR0.out
     have hcut10 := cut_from (P := Try.prog) 40 89 .i64 Try.underlying40 hi010 7 hsz10 A0 l0.length c0 1 (by omega) q10
     have hr10 := Kd.C_drop (m := (1 : Int).toNat) (c := c0) hC10 (by omega) hroom10
     obtain ⟨A10, hA10⟩ : ∃ A1, A1 = (if c0 = (1 : Int).toNat then A0 else (A0 : Option Addr).map (·.add ((1 : Int).toNat * 7))) := ⟨_, rfl⟩
     obtain ⟨c10, hc10⟩ : ∃ c1, c1 = c0 - (1 : Int).toNat := ⟨_, rfl⟩
     have hy10 : y561.length = l0.length - (1 : Int).toNat := (by rw [Ny561.out, List.length_drop] <;> omega)
     rw [show (l0).drop (1 : Int).toNat = y561 from Ny561.out.symm] at hr10
     replace hr10 : Kd.C k89 _ A10 y561.length y561 := (by rw [hA10]; exact hr10)
     rw [← hy10, ← hA10, ← hc10] at hcut10
     have HR564 := Aside0.mk hr10
     have HC564 := Aside0.mk (show y561.length ≤ c10 from by rw [hy10, hc10]; exact Nat.sub_le_sub_right hroom10 _)
     clear hr10 hC10 hroom10 hi010 hsz10 hc10
     have KY10 := Aside0.mk hy10
     have KA10 := Aside0.mk hA10
     clear hy10 hA10
     replace q10 := eq_true q10
     go_wp2
     go_loopg [19] kj1 (fun kq v19 w' => ∃ (x19_2 : Int), v19 = .int .i64 x19_2 ∧ Aside0 (impl_TreeOk.l0 kq l0 y561 (y561.length : Int) x19_2 = some r) ∧ Aside0 (kq ≤ kj1) ∧ Aside0 (Below w.heap.size w w'))
     case atStart => exact ⟨(0), (by first | rfl | (simp; done) | (simp [*]; done)), H', ⟨Nat.le_refl _⟩, ⟨by repeat (first | (with_reducible first | exact HB.out | apply below_alloc | apply pw_below_drewN | apply below_drew1) | exact HB.out)⟩⟩
     case round =>
      clear H'
      try clear c1
      try clear q1
      try clear p2
      try clear c4
      try clear c5
      try clear c5b0
      try clear c5b1
      try clear p5
      try clear q5
      try clear hx5
      try clear qi5
      try clear c7
      try clear c8
      try clear c9
      try clear c9b0
      try clear c9b1
      try clear c10
      try clear q10
      try clear hx559_0
      try clear hx559_1
      try clear hx559_2
      try clear hx559_3
      try clear hx559_4
      try clear hx559_5
      try clear hx559_6
      try clear p2
      try clear p5
      try clear p559
      try clear q10
      try clear q5
      try clear q559
      obtain ⟨x19_2, rfl, HA, HK2, HB⟩ := hrel
      cases gk with
      | zero => exact absurd HA.out (by simp [impl_TreeOk.l0])
      | succ k2 =>
       have H := HA.out
       clear HA
       simp only [impl_TreeOk.l0] at H
       by_cases c11 : x19_2 < (y561.length : Int)
       ·rw [if_pos c11] at H
        have c11b0 : decide (x19_2 < (y561.length : Int)) = true := decide_eq_true c11
        clear c11
        by_cases c12 : 0 ≤ x19_2
        ·rw [if_pos c12] at H
         have c12b0 : decide (0 ≤ x19_2) = true := decide_eq_true c12
         clear c12
         by_cases c13 : x19_2 < (y561.length : Int)
         ·rw [if_pos c13] at H
          have c13b0 : decide (x19_2 < (y561.length : Int)) = true := decide_eq_true c13
          clear c13
          replace H := Option.bind_eq_some_iff.mp H
          obtain ⟨t571, A140, H⟩ := H
          replace H : (if t571 = true then ((impl_inRange.f ((rd_T89 y561 x19_2).f5) 0 (wrap64 ((l0.length : Int) - 1))).bind fun t572 => (if t572 = true then (if 0 ≤ ((rd_T89 y561 x19_2).f5) then (if ((rd_T89 y561 x19_2).f5) < (l0.length : Int) then ((impl_hasKids.f ((rd_T89 l0 ((rd_T89 y561 x19_2).f5)).f0)).bind fun t574 => (if t574 = true then (impl_TreeOk.l0 k2 l0 y561 (y561.length : Int) (wrap64 (x19_2 + 1))) else (some false))) else (none)) else (none)) else (some false))) else (some false)) = some r := H
          have A14 := Aside0.mk A140
          clear A140
          by_cases c15 : t571 = true
          ·subst c15
           have H1 : ((impl_inRange.f ((rd_T89 y561 x19_2).f5) 0 (wrap64 ((l0.length : Int) - 1))).bind fun t572 => (if t572 = true then (if 0 ≤ ((rd_T89 y561 x19_2).f5) then (if ((rd_T89 y561 x19_2).f5) < (l0.length : Int) then ((impl_hasKids.f ((rd_T89 l0 ((rd_T89 y561 x19_2).f5)).f0)).bind fun t574 => (if t574 = true then (impl_TreeOk.l0 k2 l0 y561 (y561.length : Int) (wrap64 (x19_2 + 1))) else (some false))) else (none)) else (none)) else (some false))) = some r := by rw [if_pos rfl] at H; exact H
           clear H
           have H := H1
           clear H1
           replace H := Option.bind_eq_some_iff.mp H
           obtain ⟨t572, A160, H⟩ := H
           replace H : (if t572 = true then (if 0 ≤ ((rd_T89 y561 x19_2).f5) then (if ((rd_T89 y561 x19_2).f5) < (l0.length : Int) then ((impl_hasKids.f ((rd_T89 l0 ((rd_T89 y561 x19_2).f5)).f0)).bind fun t574 => (if t574 = true then (impl_TreeOk.l0 k2 l0 y561 (y561.length : Int) (wrap64 (x19_2 + 1))) else (some false))) else (none)) else (none)) else (some false)) = some r := H
           have A16 := Aside0.mk A160
           clear A160
           by_cases c17 : t572 = true
           ·subst c17
            have H1 : (if 0 ≤ ((rd_T89 y561 x19_2).f5) then (if ((rd_T89 y561 x19_2).f5) < (l0.length : Int) then ((impl_hasKids.f ((rd_T89 l0 ((rd_T89 y561 x19_2).f5)).f0)).bind fun t574 => (if t574 = true then (impl_TreeOk.l0 k2 l0 y561 (y561.length : Int) (wrap64 (x19_2 + 1))) else (some false))) else (none)) else (none)) = some r := by rw [if_pos rfl] at H; exact H
            clear H
            have H := H1
            clear H1
            by_cases c18 : 0 ≤ ((rd_T89 y561 x19_2).f5)
            ·rw [if_pos c18] at H
             have c18b0 : decide (0 ≤ ((rd_T89 y561 x19_2).f5)) = true := decide_eq_true c18
             clear c18
             by_cases c19 : ((rd_T89 y561 x19_2).f5) < (l0.length : Int)
             ·rw [if_pos c19] at H
              have c19b0 : decide (((rd_T89 y561 x19_2).f5) < (l0.length : Int)) = true := decide_eq_true c19
              clear c19
              replace H := Option.bind_eq_some_iff.mp H
              obtain ⟨t574, A200, H⟩ := H
              replace H : (if t574 = true then (impl_TreeOk.l0 k2 l0 y561 (y561.length : Int) (wrap64 (x19_2 + 1))) else (some false)) = some r := H
              have A20 := Aside0.mk A200
              clear A200
              by_cases c21 : t574 = true
              ·subst c21
               have H1 : (impl_TreeOk.l0 k2 l0 y561 (y561.length : Int) (wrap64 (x19_2 + 1))) = some r := by rw [if_pos rfl] at H; exact H
               clear H
               have H := H1
               clear H1
               have H' := Aside0.mk H
               clear H
               have p569 : 0 ≤ (x19_2 : Int) := of_decide_eq_true (by first | (with_reducible assumption) | assumption)
               have q569 : x19_2 < (y561.length : Int) := of_decide_eq_true (by first | (with_reducible assumption) | assumption)
               obtain ⟨ad569, A569_3, c569_3, A569_6, c569_6, e569, hx569_0, hx569_1, hx569_2, hx569_3, hx569_4, hx569_5, hx569_6, hl569_3, hi569_3, hl569_6, hi569_6⟩ := at_T89 HR564.out x19_2 p569 q569
               cases e569
               replace hx569_0 := (HB.out.cell (World.block_lt_of_cell? w _ hx569_0)).trans hx569_0
               replace hx569_1 := (HB.out.cell (World.block_lt_of_cell? w _ hx569_1)).trans hx569_1
               replace hx569_2 := (HB.out.cell (World.block_lt_of_cell? w _ hx569_2)).trans hx569_2
               replace hx569_3 := (HB.out.cell (World.block_lt_of_cell? w _ hx569_3)).trans hx569_3
               replace hx569_4 := (HB.out.cell (World.block_lt_of_cell? w _ hx569_4)).trans hx569_4
               replace hx569_5 := (HB.out.cell (World.block_lt_of_cell? w _ hx569_5)).trans hx569_5
               replace hx569_6 := (HB.out.cell (World.block_lt_of_cell? w _ hx569_6)).trans hx569_6
               have HR569_3 := Aside0.mk hi569_3
               have HC569_3 := Aside0.mk hl569_3
               clear hi569_3 hl569_3
               have HR569_6 := Aside0.mk hi569_6
               have HC569_6 := Aside0.mk hl569_6
               clear hi569_6 hl569_6
               replace p569 := eq_true p569
               replace q569 := eq_true q569
               go_wp2_with (first | ((with_reducible refine gate_dst (N := 4) rfl ?_); (try (refine gate_guard (by rfl) ?_; dsimp only)); refine box_event ?hg (N := 4) ?hd (cs := #[.int .i64 0, .int .i64 0, .string (⟨#[]⟩ : ByteArray), .slice none 0 0, .string (⟨#[]⟩ : ByteArray), .int .i64 0, .slice none 0 0]) (t := 89) ?hr ?_; (case hd => rfl); (case hg => rfl); (case hr => first | (go_simp; done) | (go_simp; rfl)); intro gb570 hg w22 hbox hb; have n0_ := Aside0.mk (below_step (by repeat (first | (with_reducible first | exact HB.out | apply below_alloc | apply pw_below_drewN | apply below_drew1) | exact HB.out)) hb); have n1_ := Aside0.mk (hbox); have n2_ := Aside0.mk ((by rw [hg]; exact (below_size (by repeat (first | (with_reducible first | exact HB.out | apply below_alloc | apply pw_below_drewN | apply below_drew1) | exact HB.out))) : w.heap.size ≤ gb570)); have n3_ := Aside0.mk ((by rw [hg]; exact (below_size (by repeat (first | (with_reducible first | exact HB.out | apply below_alloc | apply pw_below_drewN | apply below_drew1) | exact HB.out))) : w.heap.size ≤ gb570)); clear HB; have HB := n0_; have BK570 := n1_; have GW570 := n2_; have GE570 := n3_; clear n0_ n1_ n2_ n3_; clear hb hbox hg; have hcz23_0 : w22.cell? ⟨gb570, 0, none⟩ = some (.int .i64 0) := (blk_cell BK570.out 0).trans rfl; have hcz23_1 : w22.cell? ⟨gb570, 1, none⟩ = some (.int .i64 0) := (blk_cell BK570.out 1).trans rfl; have hcz23_2 : w22.cell? ⟨gb570, 2, none⟩ = some (.string (⟨#[]⟩ : ByteArray)) := (blk_cell BK570.out 2).trans rfl; have hcz23_3 : w22.cell? ⟨gb570, 3, none⟩ = some (.slice none 0 0) := (blk_cell BK570.out 3).trans rfl; have hcz23_4 : w22.cell? ⟨gb570, 4, none⟩ = some (.string (⟨#[]⟩ : ByteArray)) := (blk_cell BK570.out 4).trans rfl; have hcz23_5 : w22.cell? ⟨gb570, 5, none⟩ = some (.int .i64 0) := (blk_cell BK570.out 5).trans rfl; have hcz23_6 : w22.cell? ⟨gb570, 6, none⟩ = some (.slice none 0 0) := (blk_cell BK570.out 6).trans rfl; have hfz23_0 := blk_frozen BK570.out 0; have hfz23_1 := blk_frozen BK570.out 1; have hfz23_2 := blk_frozen BK570.out 2; have hfz23_3 := blk_frozen BK570.out 3; have hfz23_4 := blk_frozen BK570.out 4; have hfz23_5 := blk_frozen BK570.out 5; have hfz23_6 := blk_frozen BK570.out 6) | ((with_reducible refine gate_callee (f := 110) rfl ?_); refine goesL_ (some 24) rfl rfl Try.func110 (by kernel_rfl) rfl #[.agg #[.int .i64 ((rd_T89 y561 x19_2).f0), .int .i64 ((rd_T89 y561 x19_2).f1), .string ((rd_T89 y561 x19_2).f2), .slice A569_3 ((rd_T89 y561 x19_2).f3).length c569_3, .string ((rd_T89 y561 x19_2).f4), .int .i64 ((rd_T89 y561 x19_2).f5), .slice A569_6 ((rd_T89 y561 x19_2).f6).length c569_6]] rfl (by (try simp only [List.map_toArray, List.map_cons, List.map_nil]); first | done | rfl | (simp only [List.length_drop, List.length_take]; rfl)) ?_; (with_reducible refine (impl_itemOk.calls k2 ((rd_T89 y561 x19_2).f0) ((rd_T89 y561 x19_2).f1) ((rd_T89 y561 x19_2).f2) _ _ ((rd_T89 y561 x19_2).f3) ((rd_T89 y561 x19_2).f4) ((rd_T89 y561 x19_2).f5) _ _ ((rd_T89 y561 x19_2).f6) true _ ?side1 ?side2 ?side3 ?side4 A14.out).mono ?_); (case side1 => exact Kd.C_below HR569_3.out (by repeat (first | (with_reducible first | exact HB.out | apply below_alloc | apply pw_below_drewN | apply below_drew1 | refine below_set ?_ GE570.out) | exact HB.out))); (case side2 => exact HC569_3.out); (case side3 => exact Kd.C_below HR569_6.out (by repeat (first | (with_reducible first | exact HB.out | apply below_alloc | apply pw_below_drewN | apply below_drew1 | refine below_set ?_ GE570.out) | exact HB.out))); (case side4 => exact HC569_6.out); rintro e w24 ⟨rfl, hb⟩; refine ⟨_, rfl, ?_⟩; have n0_ := Aside0.mk (blk_below (g := gb570) (o := .cells #[.int .i64 ((rd_T89 y561 x19_2).f0), .int .i64 ((rd_T89 y561 x19_2).f1), .string ((rd_T89 y561 x19_2).f2), .slice A569_3 ((rd_T89 y561 x19_2).f3).length c569_3, .string ((rd_T89 y561 x19_2).f4), .int .i64 ((rd_T89 y561 x19_2).f5), .slice A569_6 ((rd_T89 y561 x19_2).f6).length c569_6] 89 (0, 0)) (by (with_reducible repeat (first | refine blk_drewN ?_ _ | refine blk_drew ?_ | refine blk_alloc ?_ _)); refine blk_put (cs := #[.int .i64 ((rd_T89 y561 x19_2).f0), .int .i64 ((rd_T89 y561 x19_2).f1), .string ((rd_T89 y561 x19_2).f2), .slice A569_3 ((rd_T89 y561 x19_2).f3).length c569_3, .string ((rd_T89 y561 x19_2).f4), .int .i64 ((rd_T89 y561 x19_2).f5), .slice none 0 0]) ?_ 6 _ rfl; (with_reducible repeat (first | refine blk_drewN ?_ _ | refine blk_drew ?_ | refine blk_alloc ?_ _)); refine blk_put (cs := #[.int .i64 ((rd_T89 y561 x19_2).f0), .int .i64 ((rd_T89 y561 x19_2).f1), .string ((rd_T89 y561 x19_2).f2), .slice A569_3 ((rd_T89 y561 x19_2).f3).length c569_3, .string ((rd_T89 y561 x19_2).f4), .int .i64 0, .slice none 0 0]) ?_ 5 _ rfl; (with_reducible repeat (first | refine blk_drewN ?_ _ | refine blk_drew ?_ | refine blk_alloc ?_ _)); refine blk_put (cs := #[.int .i64 ((rd_T89 y561 x19_2).f0), .int .i64 ((rd_T89 y561 x19_2).f1), .string ((rd_T89 y561 x19_2).f2), .slice A569_3 ((rd_T89 y561 x19_2).f3).length c569_3, .string (⟨#[]⟩ : ByteArray), .int .i64 0, .slice none 0 0]) ?_ 4 _ rfl; (with_reducible repeat (first | refine blk_drewN ?_ _ | refine blk_drew ?_ | refine blk_alloc ?_ _)); refine blk_put (cs := #[.int .i64 ((rd_T89 y561 x19_2).f0), .int .i64 ((rd_T89 y561 x19_2).f1), .string ((rd_T89 y561 x19_2).f2), .slice none 0 0, .string (⟨#[]⟩ : ByteArray), .int .i64 0, .slice none 0 0]) ?_ 3 _ rfl; (with_reducible repeat (first | refine blk_drewN ?_ _ | refine blk_drew ?_ | refine blk_alloc ?_ _)); refine blk_put (cs := #[.int .i64 ((rd_T89 y561 x19_2).f0), .int .i64 ((rd_T89 y561 x19_2).f1), .string (⟨#[]⟩ : ByteArray), .slice none 0 0, .string (⟨#[]⟩ : ByteArray), .int .i64 0, .slice none 0 0]) ?_ 2 _ rfl; (with_reducible repeat (first | refine blk_drewN ?_ _ | refine blk_drew ?_ | refine blk_alloc ?_ _)); refine blk_put (cs := #[.int .i64 ((rd_T89 y561 x19_2).f0), .int .i64 0, .string (⟨#[]⟩ : ByteArray), .slice none 0 0, .string (⟨#[]⟩ : ByteArray), .int .i64 0, .slice none 0 0]) ?_ 1 _ rfl; (with_reducible repeat (first | refine blk_drewN ?_ _ | refine blk_drew ?_ | refine blk_alloc ?_ _)); refine blk_put (cs := #[.int .i64 0, .int .i64 0, .string (⟨#[]⟩ : ByteArray), .slice none 0 0, .string (⟨#[]⟩ : ByteArray), .int .i64 0, .slice none 0 0]) ?_ 0 _ rfl; (with_reducible repeat (first | refine blk_drewN ?_ _ | refine blk_drew ?_ | refine blk_alloc ?_ _)); exact BK570.out) hb); have n1_ := Aside0.mk (below_step (by repeat (first | (with_reducible first | exact HB.out | apply below_alloc | apply pw_below_drewN | apply below_drew1 | refine below_set ?_ GE570.out) | exact HB.out)) hb); clear BK570; clear HB; have BK570 := n0_; have HB := n1_; clear n0_ n1_; (try clear hb); (try clear hb2); (try clear hk); (try clear hi); have hcz25_0 : w24.cell? ⟨gb570, 0, none⟩ = some (.int .i64 ((rd_T89 y561 x19_2).f0)) := (blk_cell BK570.out 0).trans rfl; have hcz25_1 : w24.cell? ⟨gb570, 1, none⟩ = some (.int .i64 ((rd_T89 y561 x19_2).f1)) := (blk_cell BK570.out 1).trans rfl; have hcz25_2 : w24.cell? ⟨gb570, 2, none⟩ = some (.string ((rd_T89 y561 x19_2).f2)) := (blk_cell BK570.out 2).trans rfl; have hcz25_3 : w24.cell? ⟨gb570, 3, none⟩ = some (.slice A569_3 ((rd_T89 y561 x19_2).f3).length c569_3) := (blk_cell BK570.out 3).trans rfl; have hcz25_4 : w24.cell? ⟨gb570, 4, none⟩ = some (.string ((rd_T89 y561 x19_2).f4)) := (blk_cell BK570.out 4).trans rfl; have hcz25_5 : w24.cell? ⟨gb570, 5, none⟩ = some (.int .i64 ((rd_T89 y561 x19_2).f5)) := (blk_cell BK570.out 5).trans rfl; have hcz25_6 : w24.cell? ⟨gb570, 6, none⟩ = some (.slice A569_6 ((rd_T89 y561 x19_2).f6).length c569_6) := (blk_cell BK570.out 6).trans rfl; have hfz25_0 := blk_frozen BK570.out 0; have hfz25_1 := blk_frozen BK570.out 1; have hfz25_2 := blk_frozen BK570.out 2; have hfz25_3 := blk_frozen BK570.out 3; have hfz25_4 := blk_frozen BK570.out 4; have hfz25_5 := blk_frozen BK570.out 5; have hfz25_6 := blk_frozen BK570.out 6) | (go_at_call 48; (with_reducible refine (impl_inRange.calls ((rd_T89 y561 x19_2).f5) 0 (wrap64 ((l0.length : Int) - 1)) true _ A16.out).mono ?_); rintro e w' ⟨rfl, ⟨nd, rfl⟩⟩; have p573 : 0 ≤ (((rd_T89 y561 x19_2).f5) : Int) := of_decide_eq_true (by first | (with_reducible assumption) | assumption); have q573 : ((rd_T89 y561 x19_2).f5) < (l0.length : Int) := of_decide_eq_true (by first | (with_reducible assumption) | assumption); obtain ⟨ad573, A573_3, c573_3, A573_6, c573_6, e573, hx573_0, hx573_1, hx573_2, hx573_3, hx573_4, hx573_5, hx573_6, hl573_3, hi573_3, hl573_6, hi573_6⟩ := at_T89 HR0.out ((rd_T89 y561 x19_2).f5) p573 q573; cases e573; replace hx573_0 := (HB.out.cell (World.block_lt_of_cell? w _ hx573_0)).trans hx573_0; replace hx573_1 := (HB.out.cell (World.block_lt_of_cell? w _ hx573_1)).trans hx573_1; replace hx573_2 := (HB.out.cell (World.block_lt_of_cell? w _ hx573_2)).trans hx573_2; replace hx573_3 := (HB.out.cell (World.block_lt_of_cell? w _ hx573_3)).trans hx573_3; replace hx573_4 := (HB.out.cell (World.block_lt_of_cell? w _ hx573_4)).trans hx573_4; replace hx573_5 := (HB.out.cell (World.block_lt_of_cell? w _ hx573_5)).trans hx573_5; replace hx573_6 := (HB.out.cell (World.block_lt_of_cell? w _ hx573_6)).trans hx573_6; have HR573_3 := Aside0.mk hi573_3; have HC573_3 := Aside0.mk hl573_3; clear hi573_3 hl573_3; have HR573_6 := Aside0.mk hi573_6; have HC573_6 := Aside0.mk hl573_6; clear hi573_6 hl573_6; replace p573 := eq_true p573; replace q573 := eq_true q573) | (go_at_call 111; (with_reducible refine (impl_hasKids.calls ((rd_T89 l0 ((rd_T89 y561 x19_2).f5)).f0) true _ A20.out).mono ?_); rintro e w' ⟨rfl, ⟨nd, rfl⟩⟩))
               go_roundg k2
               case measure => have := HJ1.out; have := HK2.out; omega
               case rel => exact ⟨(wrap64 (x19_2 + 1)), (by first | rfl | (simp; done) | (simp [*]; done)), H', ⟨by have := HJ1.out; have := HK2.out; omega⟩, ⟨by repeat (first | (with_reducible first | exact HB.out | apply below_alloc | apply pw_below_drewN | apply below_drew1 | refine below_set ?_ GE570.out) | exact HB.out)⟩⟩
              ·replace c21 := Bool.eq_false_iff.mpr c21
               subst c21
               have H1 : (some false) = some r := by rw [if_neg (show ¬ (false = true) by decide)] at H; exact H
               clear H
               have H := H1
               clear H1
               obtain rfl := Option.some.inj H
               have p569 : 0 ≤ (x19_2 : Int) := of_decide_eq_true (by first | (with_reducible assumption) | assumption)
               have q569 : x19_2 < (y561.length : Int) := of_decide_eq_true (by first | (with_reducible assumption) | assumption)
               obtain ⟨ad569, A569_3, c569_3, A569_6, c569_6, e569, hx569_0, hx569_1, hx569_2, hx569_3, hx569_4, hx569_5, hx569_6, hl569_3, hi569_3, hl569_6, hi569_6⟩ := at_T89 HR564.out x19_2 p569 q569
               cases e569
               replace hx569_0 := (HB.out.cell (World.block_lt_of_cell? w _ hx569_0)).trans hx569_0
               replace hx569_1 := (HB.out.cell (World.block_lt_of_cell? w _ hx569_1)).trans hx569_1
               replace hx569_2 := (HB.out.cell (World.block_lt_of_cell? w _ hx569_2)).trans hx569_2
               replace hx569_3 := (HB.out.cell (World.block_lt_of_cell? w _ hx569_3)).trans hx569_3
               replace hx569_4 := (HB.out.cell (World.block_lt_of_cell? w _ hx569_4)).trans hx569_4
               replace hx569_5 := (HB.out.cell (World.block_lt_of_cell? w _ hx569_5)).trans hx569_5
               replace hx569_6 := (HB.out.cell (World.block_lt_of_cell? w _ hx569_6)).trans hx569_6
               have HR569_3 := Aside0.mk hi569_3
               have HC569_3 := Aside0.mk hl569_3
               clear hi569_3 hl569_3
               have HR569_6 := Aside0.mk hi569_6
               have HC569_6 := Aside0.mk hl569_6
               clear hi569_6 hl569_6
               replace p569 := eq_true p569
               replace q569 := eq_true q569
               go_wp2_with (first | ((with_reducible refine gate_dst (N := 4) rfl ?_); (try (refine gate_guard (by rfl) ?_; dsimp only)); refine box_event ?hg (N := 4) ?hd (cs := #[.int .i64 0, .int .i64 0, .string (⟨#[]⟩ : ByteArray), .slice none 0 0, .string (⟨#[]⟩ : ByteArray), .int .i64 0, .slice none 0 0]) (t := 89) ?hr ?_; (case hd => rfl); (case hg => rfl); (case hr => first | (go_simp; done) | (go_simp; rfl)); intro gb570 hg w26 hbox hb; have n0_ := Aside0.mk (below_step (by repeat (first | (with_reducible first | exact HB.out | apply below_alloc | apply pw_below_drewN | apply below_drew1) | exact HB.out)) hb); have n1_ := Aside0.mk (hbox); have n2_ := Aside0.mk ((by rw [hg]; exact (below_size (by repeat (first | (with_reducible first | exact HB.out | apply below_alloc | apply pw_below_drewN | apply below_drew1) | exact HB.out))) : w.heap.size ≤ gb570)); have n3_ := Aside0.mk ((by rw [hg]; exact (below_size (by repeat (first | (with_reducible first | exact HB.out | apply below_alloc | apply pw_below_drewN | apply below_drew1) | exact HB.out))) : w.heap.size ≤ gb570)); clear HB; have HB := n0_; have BK570 := n1_; have GW570 := n2_; have GE570 := n3_; clear n0_ n1_ n2_ n3_; clear hb hbox hg; have hcz27_0 : w26.cell? ⟨gb570, 0, none⟩ = some (.int .i64 0) := (blk_cell BK570.out 0).trans rfl; have hcz27_1 : w26.cell? ⟨gb570, 1, none⟩ = some (.int .i64 0) := (blk_cell BK570.out 1).trans rfl; have hcz27_2 : w26.cell? ⟨gb570, 2, none⟩ = some (.string (⟨#[]⟩ : ByteArray)) := (blk_cell BK570.out 2).trans rfl; have hcz27_3 : w26.cell? ⟨gb570, 3, none⟩ = some (.slice none 0 0) := (blk_cell BK570.out 3).trans rfl; have hcz27_4 : w26.cell? ⟨gb570, 4, none⟩ = some (.string (⟨#[]⟩ : ByteArray)) := (blk_cell BK570.out 4).trans rfl; have hcz27_5 : w26.cell? ⟨gb570, 5, none⟩ = some (.int .i64 0) := (blk_cell BK570.out 5).trans rfl; have hcz27_6 : w26.cell? ⟨gb570, 6, none⟩ = some (.slice none 0 0) := (blk_cell BK570.out 6).trans rfl; have hfz27_0 := blk_frozen BK570.out 0; have hfz27_1 := blk_frozen BK570.out 1; have hfz27_2 := blk_frozen BK570.out 2; have hfz27_3 := blk_frozen BK570.out 3; have hfz27_4 := blk_frozen BK570.out 4; have hfz27_5 := blk_frozen BK570.out 5; have hfz27_6 := blk_frozen BK570.out 6) | ((with_reducible refine gate_callee (f := 110) rfl ?_); refine goesL_ (some 24) rfl rfl Try.func110 (by kernel_rfl) rfl #[.agg #[.int .i64 ((rd_T89 y561 x19_2).f0), .int .i64 ((rd_T89 y561 x19_2).f1), .string ((rd_T89 y561 x19_2).f2), .slice A569_3 ((rd_T89 y561 x19_2).f3).length c569_3, .string ((rd_T89 y561 x19_2).f4), .int .i64 ((rd_T89 y561 x19_2).f5), .slice A569_6 ((rd_T89 y561 x19_2).f6).length c569_6]] rfl (by (try simp only [List.map_toArray, List.map_cons, List.map_nil]); first | done | rfl | (simp only [List.length_drop, List.length_take]; rfl)) ?_; (with_reducible refine (impl_itemOk.calls k2 ((rd_T89 y561 x19_2).f0) ((rd_T89 y561 x19_2).f1) ((rd_T89 y561 x19_2).f2) _ _ ((rd_T89 y561 x19_2).f3) ((rd_T89 y561 x19_2).f4) ((rd_T89 y561 x19_2).f5) _ _ ((rd_T89 y561 x19_2).f6) true _ ?side1 ?side2 ?side3 ?side4 A14.out).mono ?_); (case side1 => exact Kd.C_below HR569_3.out (by repeat (first | (with_reducible first | exact HB.out | apply below_alloc | apply pw_below_drewN | apply below_drew1 | refine below_set ?_ GE570.out) | exact HB.out))); (case side2 => exact HC569_3.out); (case side3 => exact Kd.C_below HR569_6.out (by repeat (first | (with_reducible first | exact HB.out | apply below_alloc | apply pw_below_drewN | apply below_drew1 | refine below_set ?_ GE570.out) | exact HB.out))); (case side4 => exact HC569_6.out); rintro e w28 ⟨rfl, hb⟩; refine ⟨_, rfl, ?_⟩; have n0_ := Aside0.mk (blk_below (g := gb570) (o := .cells #[.int .i64 ((rd_T89 y561 x19_2).f0), .int .i64 ((rd_T89 y561 x19_2).f1), .string ((rd_T89 y561 x19_2).f2), .slice A569_3 ((rd_T89 y561 x19_2).f3).length c569_3, .string ((rd_T89 y561 x19_2).f4), .int .i64 ((rd_T89 y561 x19_2).f5), .slice A569_6 ((rd_T89 y561 x19_2).f6).length c569_6] 89 (0, 0)) (by (with_reducible repeat (first | refine blk_drewN ?_ _ | refine blk_drew ?_ | refine blk_alloc ?_ _)); refine blk_put (cs := #[.int .i64 ((rd_T89 y561 x19_2).f0), .int .i64 ((rd_T89 y561 x19_2).f1), .string ((rd_T89 y561 x19_2).f2), .slice A569_3 ((rd_T89 y561 x19_2).f3).length c569_3, .string ((rd_T89 y561 x19_2).f4), .int .i64 ((rd_T89 y561 x19_2).f5), .slice none 0 0]) ?_ 6 _ rfl; (with_reducible repeat (first | refine blk_drewN ?_ _ | refine blk_drew ?_ | refine blk_alloc ?_ _)); refine blk_put (cs := #[.int .i64 ((rd_T89 y561 x19_2).f0), .int .i64 ((rd_T89 y561 x19_2).f1), .string ((rd_T89 y561 x19_2).f2), .slice A569_3 ((rd_T89 y561 x19_2).f3).length c569_3, .string ((rd_T89 y561 x19_2).f4), .int .i64 0, .slice none 0 0]) ?_ 5 _ rfl; (with_reducible repeat (first | refine blk_drewN ?_ _ | refine blk_drew ?_ | refine blk_alloc ?_ _)); refine blk_put (cs := #[.int .i64 ((rd_T89 y561 x19_2).f0), .int .i64 ((rd_T89 y561 x19_2).f1), .string ((rd_T89 y561 x19_2).f2), .slice A569_3 ((rd_T89 y561 x19_2).f3).length c569_3, .string (⟨#[]⟩ : ByteArray), .int .i64 0, .slice none 0 0]) ?_ 4 _ rfl; (with_reducible repeat (first | refine blk_drewN ?_ _ | refine blk_drew ?_ | refine blk_alloc ?_ _)); refine blk_put (cs := #[.int .i64 ((rd_T89 y561 x19_2).f0), .int .i64 ((rd_T89 y561 x19_2).f1), .string ((rd_T89 y561 x19_2).f2), .slice none 0 0, .string (⟨#[]⟩ : ByteArray), .int .i64 0, .slice none 0 0]) ?_ 3 _ rfl; (with_reducible repeat (first | refine blk_drewN ?_ _ | refine blk_drew ?_ | refine blk_alloc ?_ _)); refine blk_put (cs := #[.int .i64 ((rd_T89 y561 x19_2).f0), .int .i64 ((rd_T89 y561 x19_2).f1), .string (⟨#[]⟩ : ByteArray), .slice none 0 0, .string (⟨#[]⟩ : ByteArray), .int .i64 0, .slice none 0 0]) ?_ 2 _ rfl; (with_reducible repeat (first | refine blk_drewN ?_ _ | refine blk_drew ?_ | refine blk_alloc ?_ _)); refine blk_put (cs := #[.int .i64 ((rd_T89 y561 x19_2).f0), .int .i64 0, .string (⟨#[]⟩ : ByteArray), .slice none 0 0, .string (⟨#[]⟩ : ByteArray), .int .i64 0, .slice none 0 0]) ?_ 1 _ rfl; (with_reducible repeat (first | refine blk_drewN ?_ _ | refine blk_drew ?_ | refine blk_alloc ?_ _)); refine blk_put (cs := #[.int .i64 0, .int .i64 0, .string (⟨#[]⟩ : ByteArray), .slice none 0 0, .string (⟨#[]⟩ : ByteArray), .int .i64 0, .slice none 0 0]) ?_ 0 _ rfl; (with_reducible repeat (first | refine blk_drewN ?_ _ | refine blk_drew ?_ | refine blk_alloc ?_ _)); exact BK570.out) hb); have n1_ := Aside0.mk (below_step (by repeat (first | (with_reducible first | exact HB.out | apply below_alloc | apply pw_below_drewN | apply below_drew1 | refine below_set ?_ GE570.out) | exact HB.out)) hb); clear BK570; clear HB; have BK570 := n0_; have HB := n1_; clear n0_ n1_; (try clear hb); (try clear hb2); (try clear hk); (try clear hi); have hcz29_0 : w28.cell? ⟨gb570, 0, none⟩ = some (.int .i64 ((rd_T89 y561 x19_2).f0)) := (blk_cell BK570.out 0).trans rfl; have hcz29_1 : w28.cell? ⟨gb570, 1, none⟩ = some (.int .i64 ((rd_T89 y561 x19_2).f1)) := (blk_cell BK570.out 1).trans rfl; have hcz29_2 : w28.cell? ⟨gb570, 2, none⟩ = some (.string ((rd_T89 y561 x19_2).f2)) := (blk_cell BK570.out 2).trans rfl; have hcz29_3 : w28.cell? ⟨gb570, 3, none⟩ = some (.slice A569_3 ((rd_T89 y561 x19_2).f3).length c569_3) := (blk_cell BK570.out 3).trans rfl; have hcz29_4 : w28.cell? ⟨gb570, 4, none⟩ = some (.string ((rd_T89 y561 x19_2).f4)) := (blk_cell BK570.out 4).trans rfl; have hcz29_5 : w28.cell? ⟨gb570, 5, none⟩ = some (.int .i64 ((rd_T89 y561 x19_2).f5)) := (blk_cell BK570.out 5).trans rfl; have hcz29_6 : w28.cell? ⟨gb570, 6, none⟩ = some (.slice A569_6 ((rd_T89 y561 x19_2).f6).length c569_6) := (blk_cell BK570.out 6).trans rfl; have hfz29_0 := blk_frozen BK570.out 0; have hfz29_1 := blk_frozen BK570.out 1; have hfz29_2 := blk_frozen BK570.out 2; have hfz29_3 := blk_frozen BK570.out 3; have hfz29_4 := blk_frozen BK570.out 4; have hfz29_5 := blk_frozen BK570.out 5; have hfz29_6 := blk_frozen BK570.out 6) | (go_at_call 48; (with_reducible refine (impl_inRange.calls ((rd_T89 y561 x19_2).f5) 0 (wrap64 ((l0.length : Int) - 1)) true _ A16.out).mono ?_); rintro e w' ⟨rfl, ⟨nd, rfl⟩⟩; have p573 : 0 ≤ (((rd_T89 y561 x19_2).f5) : Int) := of_decide_eq_true (by first | (with_reducible assumption) | assumption); have q573 : ((rd_T89 y561 x19_2).f5) < (l0.length : Int) := of_decide_eq_true (by first | (with_reducible assumption) | assumption); obtain ⟨ad573, A573_3, c573_3, A573_6, c573_6, e573, hx573_0, hx573_1, hx573_2, hx573_3, hx573_4, hx573_5, hx573_6, hl573_3, hi573_3, hl573_6, hi573_6⟩ := at_T89 HR0.out ((rd_T89 y561 x19_2).f5) p573 q573; cases e573; replace hx573_0 := (HB.out.cell (World.block_lt_of_cell? w _ hx573_0)).trans hx573_0; replace hx573_1 := (HB.out.cell (World.block_lt_of_cell? w _ hx573_1)).trans hx573_1; replace hx573_2 := (HB.out.cell (World.block_lt_of_cell? w _ hx573_2)).trans hx573_2; replace hx573_3 := (HB.out.cell (World.block_lt_of_cell? w _ hx573_3)).trans hx573_3; replace hx573_4 := (HB.out.cell (World.block_lt_of_cell? w _ hx573_4)).trans hx573_4; replace hx573_5 := (HB.out.cell (World.block_lt_of_cell? w _ hx573_5)).trans hx573_5; replace hx573_6 := (HB.out.cell (World.block_lt_of_cell? w _ hx573_6)).trans hx573_6; have HR573_3 := Aside0.mk hi573_3; have HC573_3 := Aside0.mk hl573_3; clear hi573_3 hl573_3; have HR573_6 := Aside0.mk hi573_6; have HC573_6 := Aside0.mk hl573_6; clear hi573_6 hl573_6; replace p573 := eq_true p573; replace q573 := eq_true q573) | (go_at_call 111; (with_reducible refine (impl_hasKids.calls ((rd_T89 l0 ((rd_T89 y561 x19_2).f5)).f0) false _ A20.out).mono ?_); rintro e w' ⟨rfl, ⟨nd, rfl⟩⟩))
               go_ret
               exact ⟨by first | rfl | (simp [errW_none, errW_some] <;> rfl) | (simp [*, errW_none, errW_some] <;> rfl), by repeat (first | (with_reducible first | exact HB.out | apply below_alloc | apply pw_below_drewN | apply below_drew1 | refine below_set ?_ GE570.out) | exact HB.out)⟩
             ·rw [if_neg c19] at H
              exact absurd H (by simp)
            ·rw [if_neg c18] at H
             exact absurd H (by simp)
           ·replace c17 := Bool.eq_false_iff.mpr c17
            subst c17
            have H1 : (some false) = some r := by rw [if_neg (show ¬ (false = true) by decide)] at H; exact H
            clear H
            have H := H1
            clear H1
            obtain rfl := Option.some.inj H
            have p569 : 0 ≤ (x19_2 : Int) := of_decide_eq_true (by first | (with_reducible assumption) | assumption)
            have q569 : x19_2 < (y561.length : Int) := of_decide_eq_true (by first | (with_reducible assumption) | assumption)
            obtain ⟨ad569, A569_3, c569_3, A569_6, c569_6, e569, hx569_0, hx569_1, hx569_2, hx569_3, hx569_4, hx569_5, hx569_6, hl569_3, hi569_3, hl569_6, hi569_6⟩ := at_T89 HR564.out x19_2 p569 q569
            cases e569
            replace hx569_0 := (HB.out.cell (World.block_lt_of_cell? w _ hx569_0)).trans hx569_0
            replace hx569_1 := (HB.out.cell (World.block_lt_of_cell? w _ hx569_1)).trans hx569_1
            replace hx569_2 := (HB.out.cell (World.block_lt_of_cell? w _ hx569_2)).trans hx569_2
            replace hx569_3 := (HB.out.cell (World.block_lt_of_cell? w _ hx569_3)).trans hx569_3
            replace hx569_4 := (HB.out.cell (World.block_lt_of_cell? w _ hx569_4)).trans hx569_4
            replace hx569_5 := (HB.out.cell (World.block_lt_of_cell? w _ hx569_5)).trans hx569_5
            replace hx569_6 := (HB.out.cell (World.block_lt_of_cell? w _ hx569_6)).trans hx569_6
            have HR569_3 := Aside0.mk hi569_3
            have HC569_3 := Aside0.mk hl569_3
            clear hi569_3 hl569_3
            have HR569_6 := Aside0.mk hi569_6
            have HC569_6 := Aside0.mk hl569_6
            clear hi569_6 hl569_6
            replace p569 := eq_true p569
            replace q569 := eq_true q569
            go_wp2_with (first | ((with_reducible refine gate_dst (N := 4) rfl ?_); (try (refine gate_guard (by rfl) ?_; dsimp only)); refine box_event ?hg (N := 4) ?hd (cs := #[.int .i64 0, .int .i64 0, .string (⟨#[]⟩ : ByteArray), .slice none 0 0, .string (⟨#[]⟩ : ByteArray), .int .i64 0, .slice none 0 0]) (t := 89) ?hr ?_; (case hd => rfl); (case hg => rfl); (case hr => first | (go_simp; done) | (go_simp; rfl)); intro gb570 hg w30 hbox hb; have n0_ := Aside0.mk (below_step (by repeat (first | (with_reducible first | exact HB.out | apply below_alloc | apply pw_below_drewN | apply below_drew1) | exact HB.out)) hb); have n1_ := Aside0.mk (hbox); have n2_ := Aside0.mk ((by rw [hg]; exact (below_size (by repeat (first | (with_reducible first | exact HB.out | apply below_alloc | apply pw_below_drewN | apply below_drew1) | exact HB.out))) : w.heap.size ≤ gb570)); have n3_ := Aside0.mk ((by rw [hg]; exact (below_size (by repeat (first | (with_reducible first | exact HB.out | apply below_alloc | apply pw_below_drewN | apply below_drew1) | exact HB.out))) : w.heap.size ≤ gb570)); clear HB; have HB := n0_; have BK570 := n1_; have GW570 := n2_; have GE570 := n3_; clear n0_ n1_ n2_ n3_; clear hb hbox hg; have hcz31_0 : w30.cell? ⟨gb570, 0, none⟩ = some (.int .i64 0) := (blk_cell BK570.out 0).trans rfl; have hcz31_1 : w30.cell? ⟨gb570, 1, none⟩ = some (.int .i64 0) := (blk_cell BK570.out 1).trans rfl; have hcz31_2 : w30.cell? ⟨gb570, 2, none⟩ = some (.string (⟨#[]⟩ : ByteArray)) := (blk_cell BK570.out 2).trans rfl; have hcz31_3 : w30.cell? ⟨gb570, 3, none⟩ = some (.slice none 0 0) := (blk_cell BK570.out 3).trans rfl; have hcz31_4 : w30.cell? ⟨gb570, 4, none⟩ = some (.string (⟨#[]⟩ : ByteArray)) := (blk_cell BK570.out 4).trans rfl; have hcz31_5 : w30.cell? ⟨gb570, 5, none⟩ = some (.int .i64 0) := (blk_cell BK570.out 5).trans rfl; have hcz31_6 : w30.cell? ⟨gb570, 6, none⟩ = some (.slice none 0 0) := (blk_cell BK570.out 6).trans rfl; have hfz31_0 := blk_frozen BK570.out 0; have hfz31_1 := blk_frozen BK570.out 1; have hfz31_2 := blk_frozen BK570.out 2; have hfz31_3 := blk_frozen BK570.out 3; have hfz31_4 := blk_frozen BK570.out 4; have hfz31_5 := blk_frozen BK570.out 5; have hfz31_6 := blk_frozen BK570.out 6) | ((with_reducible refine gate_callee (f := 110) rfl ?_); refine goesL_ (some 24) rfl rfl Try.func110 (by kernel_rfl) rfl #[.agg #[.int .i64 ((rd_T89 y561 x19_2).f0), .int .i64 ((rd_T89 y561 x19_2).f1), .string ((rd_T89 y561 x19_2).f2), .slice A569_3 ((rd_T89 y561 x19_2).f3).length c569_3, .string ((rd_T89 y561 x19_2).f4), .int .i64 ((rd_T89 y561 x19_2).f5), .slice A569_6 ((rd_T89 y561 x19_2).f6).length c569_6]] rfl (by (try simp only [List.map_toArray, List.map_cons, List.map_nil]); first | done | rfl | (simp only [List.length_drop, List.length_take]; rfl)) ?_; (with_reducible refine (impl_itemOk.calls k2 ((rd_T89 y561 x19_2).f0) ((rd_T89 y561 x19_2).f1) ((rd_T89 y561 x19_2).f2) _ _ ((rd_T89 y561 x19_2).f3) ((rd_T89 y561 x19_2).f4) ((rd_T89 y561 x19_2).f5) _ _ ((rd_T89 y561 x19_2).f6) true _ ?side1 ?side2 ?side3 ?side4 A14.out).mono ?_); (case side1 => exact Kd.C_below HR569_3.out (by repeat (first | (with_reducible first | exact HB.out | apply below_alloc | apply pw_below_drewN | apply below_drew1 | refine below_set ?_ GE570.out) | exact HB.out))); (case side2 => exact HC569_3.out); (case side3 => exact Kd.C_below HR569_6.out (by repeat (first | (with_reducible first | exact HB.out | apply below_alloc | apply pw_below_drewN | apply below_drew1 | refine below_set ?_ GE570.out) | exact HB.out))); (case side4 => exact HC569_6.out); rintro e w32 ⟨rfl, hb⟩; refine ⟨_, rfl, ?_⟩; have n0_ := Aside0.mk (blk_below (g := gb570) (o := .cells #[.int .i64 ((rd_T89 y561 x19_2).f0), .int .i64 ((rd_T89 y561 x19_2).f1), .string ((rd_T89 y561 x19_2).f2), .slice A569_3 ((rd_T89 y561 x19_2).f3).length c569_3, .string ((rd_T89 y561 x19_2).f4), .int .i64 ((rd_T89 y561 x19_2).f5), .slice A569_6 ((rd_T89 y561 x19_2).f6).length c569_6] 89 (0, 0)) (by (with_reducible repeat (first | refine blk_drewN ?_ _ | refine blk_drew ?_ | refine blk_alloc ?_ _)); refine blk_put (cs := #[.int .i64 ((rd_T89 y561 x19_2).f0), .int .i64 ((rd_T89 y561 x19_2).f1), .string ((rd_T89 y561 x19_2).f2), .slice A569_3 ((rd_T89 y561 x19_2).f3).length c569_3, .string ((rd_T89 y561 x19_2).f4), .int .i64 ((rd_T89 y561 x19_2).f5), .slice none 0 0]) ?_ 6 _ rfl; (with_reducible repeat (first | refine blk_drewN ?_ _ | refine blk_drew ?_ | refine blk_alloc ?_ _)); refine blk_put (cs := #[.int .i64 ((rd_T89 y561 x19_2).f0), .int .i64 ((rd_T89 y561 x19_2).f1), .string ((rd_T89 y561 x19_2).f2), .slice A569_3 ((rd_T89 y561 x19_2).f3).length c569_3, .string ((rd_T89 y561 x19_2).f4), .int .i64 0, .slice none 0 0]) ?_ 5 _ rfl; (with_reducible repeat (first | refine blk_drewN ?_ _ | refine blk_drew ?_ | refine blk_alloc ?_ _)); refine blk_put (cs := #[.int .i64 ((rd_T89 y561 x19_2).f0), .int .i64 ((rd_T89 y561 x19_2).f1), .string ((rd_T89 y561 x19_2).f2), .slice A569_3 ((rd_T89 y561 x19_2).f3).length c569_3, .string (⟨#[]⟩ : ByteArray), .int .i64 0, .slice none 0 0]) ?_ 4 _ rfl; (with_reducible repeat (first | refine blk_drewN ?_ _ | refine blk_drew ?_ | refine blk_alloc ?_ _)); refine blk_put (cs := #[.int .i64 ((rd_T89 y561 x19_2).f0), .int .i64 ((rd_T89 y561 x19_2).f1), .string ((rd_T89 y561 x19_2).f2), .slice none 0 0, .string (⟨#[]⟩ : ByteArray), .int .i64 0, .slice none 0 0]) ?_ 3 _ rfl; (with_reducible repeat (first | refine blk_drewN ?_ _ | refine blk_drew ?_ | refine blk_alloc ?_ _)); refine blk_put (cs := #[.int .i64 ((rd_T89 y561 x19_2).f0), .int .i64 ((rd_T89 y561 x19_2).f1), .string (⟨#[]⟩ : ByteArray), .slice none 0 0, .string (⟨#[]⟩ : ByteArray), .int .i64 0, .slice none 0 0]) ?_ 2 _ rfl; (with_reducible repeat (first | refine blk_drewN ?_ _ | refine blk_drew ?_ | refine blk_alloc ?_ _)); refine blk_put (cs := #[.int .i64 ((rd_T89 y561 x19_2).f0), .int .i64 0, .string (⟨#[]⟩ : ByteArray), .slice none 0 0, .string (⟨#[]⟩ : ByteArray), .int .i64 0, .slice none 0 0]) ?_ 1 _ rfl; (with_reducible repeat (first | refine blk_drewN ?_ _ | refine blk_drew ?_ | refine blk_alloc ?_ _)); refine blk_put (cs := #[.int .i64 0, .int .i64 0, .string (⟨#[]⟩ : ByteArray), .slice none 0 0, .string (⟨#[]⟩ : ByteArray), .int .i64 0, .slice none 0 0]) ?_ 0 _ rfl; (with_reducible repeat (first | refine blk_drewN ?_ _ | refine blk_drew ?_ | refine blk_alloc ?_ _)); exact BK570.out) hb); have n1_ := Aside0.mk (below_step (by repeat (first | (with_reducible first | exact HB.out | apply below_alloc | apply pw_below_drewN | apply below_drew1 | refine below_set ?_ GE570.out) | exact HB.out)) hb); clear BK570; clear HB; have BK570 := n0_; have HB := n1_; clear n0_ n1_; (try clear hb); (try clear hb2); (try clear hk); (try clear hi); have hcz33_0 : w32.cell? ⟨gb570, 0, none⟩ = some (.int .i64 ((rd_T89 y561 x19_2).f0)) := (blk_cell BK570.out 0).trans rfl; have hcz33_1 : w32.cell? ⟨gb570, 1, none⟩ = some (.int .i64 ((rd_T89 y561 x19_2).f1)) := (blk_cell BK570.out 1).trans rfl; have hcz33_2 : w32.cell? ⟨gb570, 2, none⟩ = some (.string ((rd_T89 y561 x19_2).f2)) := (blk_cell BK570.out 2).trans rfl; have hcz33_3 : w32.cell? ⟨gb570, 3, none⟩ = some (.slice A569_3 ((rd_T89 y561 x19_2).f3).length c569_3) := (blk_cell BK570.out 3).trans rfl; have hcz33_4 : w32.cell? ⟨gb570, 4, none⟩ = some (.string ((rd_T89 y561 x19_2).f4)) := (blk_cell BK570.out 4).trans rfl; have hcz33_5 : w32.cell? ⟨gb570, 5, none⟩ = some (.int .i64 ((rd_T89 y561 x19_2).f5)) := (blk_cell BK570.out 5).trans rfl; have hcz33_6 : w32.cell? ⟨gb570, 6, none⟩ = some (.slice A569_6 ((rd_T89 y561 x19_2).f6).length c569_6) := (blk_cell BK570.out 6).trans rfl; have hfz33_0 := blk_frozen BK570.out 0; have hfz33_1 := blk_frozen BK570.out 1; have hfz33_2 := blk_frozen BK570.out 2; have hfz33_3 := blk_frozen BK570.out 3; have hfz33_4 := blk_frozen BK570.out 4; have hfz33_5 := blk_frozen BK570.out 5; have hfz33_6 := blk_frozen BK570.out 6) | (go_at_call 48; (with_reducible refine (impl_inRange.calls ((rd_T89 y561 x19_2).f5) 0 (wrap64 ((l0.length : Int) - 1)) false _ A16.out).mono ?_); rintro e w' ⟨rfl, ⟨nd, rfl⟩⟩))
            go_ret
            exact ⟨by first | rfl | (simp [errW_none, errW_some] <;> rfl) | (simp [*, errW_none, errW_some] <;> rfl), by repeat (first | (with_reducible first | exact HB.out | apply below_alloc | apply pw_below_drewN | apply below_drew1 | refine below_set ?_ GE570.out) | exact HB.out)⟩
          ·replace c15 := Bool.eq_false_iff.mpr c15
           subst c15
           have H1 : (some false) = some r := by rw [if_neg (show ¬ (false = true) by decide)] at H; exact H
           clear H
           have H := H1
           clear H1
           obtain rfl := Option.some.inj H
           have p569 : 0 ≤ (x19_2 : Int) := of_decide_eq_true (by first | (with_reducible assumption) | assumption)
           have q569 : x19_2 < (y561.length : Int) := of_decide_eq_true (by first | (with_reducible assumption) | assumption)
           obtain ⟨ad569, A569_3, c569_3, A569_6, c569_6, e569, hx569_0, hx569_1, hx569_2, hx569_3, hx569_4, hx569_5, hx569_6, hl569_3, hi569_3, hl569_6, hi569_6⟩ := at_T89 HR564.out x19_2 p569 q569
           cases e569
           replace hx569_0 := (HB.out.cell (World.block_lt_of_cell? w _ hx569_0)).trans hx569_0
           replace hx569_1 := (HB.out.cell (World.block_lt_of_cell? w _ hx569_1)).trans hx569_1
           replace hx569_2 := (HB.out.cell (World.block_lt_of_cell? w _ hx569_2)).trans hx569_2
           replace hx569_3 := (HB.out.cell (World.block_lt_of_cell? w _ hx569_3)).trans hx569_3
           replace hx569_4 := (HB.out.cell (World.block_lt_of_cell? w _ hx569_4)).trans hx569_4
           replace hx569_5 := (HB.out.cell (World.block_lt_of_cell? w _ hx569_5)).trans hx569_5
           replace hx569_6 := (HB.out.cell (World.block_lt_of_cell? w _ hx569_6)).trans hx569_6
           have HR569_3 := Aside0.mk hi569_3
           have HC569_3 := Aside0.mk hl569_3
           clear hi569_3 hl569_3
           have HR569_6 := Aside0.mk hi569_6
           have HC569_6 := Aside0.mk hl569_6
           clear hi569_6 hl569_6
           replace p569 := eq_true p569
           replace q569 := eq_true q569
           go_wp2_with (first | ((with_reducible refine gate_dst (N := 4) rfl ?_); (try (refine gate_guard (by rfl) ?_; dsimp only)); refine box_event ?hg (N := 4) ?hd (cs := #[.int .i64 0, .int .i64 0, .string (⟨#[]⟩ : ByteArray), .slice none 0 0, .string (⟨#[]⟩ : ByteArray), .int .i64 0, .slice none 0 0]) (t := 89) ?hr ?_; (case hd => rfl); (case hg => rfl); (case hr => first | (go_simp; done) | (go_simp; rfl)); intro gb570 hg w34 hbox hb; have n0_ := Aside0.mk (below_step (by repeat (first | (with_reducible first | exact HB.out | apply below_alloc | apply pw_below_drewN | apply below_drew1) | exact HB.out)) hb); have n1_ := Aside0.mk (hbox); have n2_ := Aside0.mk ((by rw [hg]; exact (below_size (by repeat (first | (with_reducible first | exact HB.out | apply below_alloc | apply pw_below_drewN | apply below_drew1) | exact HB.out))) : w.heap.size ≤ gb570)); have n3_ := Aside0.mk ((by rw [hg]; exact (below_size (by repeat (first | (with_reducible first | exact HB.out | apply below_alloc | apply pw_below_drewN | apply below_drew1) | exact HB.out))) : w.heap.size ≤ gb570)); clear HB; have HB := n0_; have BK570 := n1_; have GW570 := n2_; have GE570 := n3_; clear n0_ n1_ n2_ n3_; clear hb hbox hg; have hcz35_0 : w34.cell? ⟨gb570, 0, none⟩ = some (.int .i64 0) := (blk_cell BK570.out 0).trans rfl; have hcz35_1 : w34.cell? ⟨gb570, 1, none⟩ = some (.int .i64 0) := (blk_cell BK570.out 1).trans rfl; have hcz35_2 : w34.cell? ⟨gb570, 2, none⟩ = some (.string (⟨#[]⟩ : ByteArray)) := (blk_cell BK570.out 2).trans rfl; have hcz35_3 : w34.cell? ⟨gb570, 3, none⟩ = some (.slice none 0 0) := (blk_cell BK570.out 3).trans rfl; have hcz35_4 : w34.cell? ⟨gb570, 4, none⟩ = some (.string (⟨#[]⟩ : ByteArray)) := (blk_cell BK570.out 4).trans rfl; have hcz35_5 : w34.cell? ⟨gb570, 5, none⟩ = some (.int .i64 0) := (blk_cell BK570.out 5).trans rfl; have hcz35_6 : w34.cell? ⟨gb570, 6, none⟩ = some (.slice none 0 0) := (blk_cell BK570.out 6).trans rfl; have hfz35_0 := blk_frozen BK570.out 0; have hfz35_1 := blk_frozen BK570.out 1; have hfz35_2 := blk_frozen BK570.out 2; have hfz35_3 := blk_frozen BK570.out 3; have hfz35_4 := blk_frozen BK570.out 4; have hfz35_5 := blk_frozen BK570.out 5; have hfz35_6 := blk_frozen BK570.out 6) | ((with_reducible refine gate_callee (f := 110) rfl ?_); refine goesL_ (some 24) rfl rfl Try.func110 (by kernel_rfl) rfl #[.agg #[.int .i64 ((rd_T89 y561 x19_2).f0), .int .i64 ((rd_T89 y561 x19_2).f1), .string ((rd_T89 y561 x19_2).f2), .slice A569_3 ((rd_T89 y561 x19_2).f3).length c569_3, .string ((rd_T89 y561 x19_2).f4), .int .i64 ((rd_T89 y561 x19_2).f5), .slice A569_6 ((rd_T89 y561 x19_2).f6).length c569_6]] rfl (by (try simp only [List.map_toArray, List.map_cons, List.map_nil]); first | done | rfl | (simp only [List.length_drop, List.length_take]; rfl)) ?_; (with_reducible refine (impl_itemOk.calls k2 ((rd_T89 y561 x19_2).f0) ((rd_T89 y561 x19_2).f1) ((rd_T89 y561 x19_2).f2) _ _ ((rd_T89 y561 x19_2).f3) ((rd_T89 y561 x19_2).f4) ((rd_T89 y561 x19_2).f5) _ _ ((rd_T89 y561 x19_2).f6) false _ ?side1 ?side2 ?side3 ?side4 A14.out).mono ?_); (case side1 => exact Kd.C_below HR569_3.out (by repeat (first | (with_reducible first | exact HB.out | apply below_alloc | apply pw_below_drewN | apply below_drew1 | refine below_set ?_ GE570.out) | exact HB.out))); (case side2 => exact HC569_3.out); (case side3 => exact Kd.C_below HR569_6.out (by repeat (first | (with_reducible first | exact HB.out | apply below_alloc | apply pw_below_drewN | apply below_drew1 | refine below_set ?_ GE570.out) | exact HB.out))); (case side4 => exact HC569_6.out); rintro e w36 ⟨rfl, hb⟩; refine ⟨_, rfl, ?_⟩; have n0_ := Aside0.mk (blk_below (g := gb570) (o := .cells #[.int .i64 ((rd_T89 y561 x19_2).f0), .int .i64 ((rd_T89 y561 x19_2).f1), .string ((rd_T89 y561 x19_2).f2), .slice A569_3 ((rd_T89 y561 x19_2).f3).length c569_3, .string ((rd_T89 y561 x19_2).f4), .int .i64 ((rd_T89 y561 x19_2).f5), .slice A569_6 ((rd_T89 y561 x19_2).f6).length c569_6] 89 (0, 0)) (by (with_reducible repeat (first | refine blk_drewN ?_ _ | refine blk_drew ?_ | refine blk_alloc ?_ _)); refine blk_put (cs := #[.int .i64 ((rd_T89 y561 x19_2).f0), .int .i64 ((rd_T89 y561 x19_2).f1), .string ((rd_T89 y561 x19_2).f2), .slice A569_3 ((rd_T89 y561 x19_2).f3).length c569_3, .string ((rd_T89 y561 x19_2).f4), .int .i64 ((rd_T89 y561 x19_2).f5), .slice none 0 0]) ?_ 6 _ rfl; (with_reducible repeat (first | refine blk_drewN ?_ _ | refine blk_drew ?_ | refine blk_alloc ?_ _)); refine blk_put (cs := #[.int .i64 ((rd_T89 y561 x19_2).f0), .int .i64 ((rd_T89 y561 x19_2).f1), .string ((rd_T89 y561 x19_2).f2), .slice A569_3 ((rd_T89 y561 x19_2).f3).length c569_3, .string ((rd_T89 y561 x19_2).f4), .int .i64 0, .slice none 0 0]) ?_ 5 _ rfl; (with_reducible repeat (first | refine blk_drewN ?_ _ | refine blk_drew ?_ | refine blk_alloc ?_ _)); refine blk_put (cs := #[.int .i64 ((rd_T89 y561 x19_2).f0), .int .i64 ((rd_T89 y561 x19_2).f1), .string ((rd_T89 y561 x19_2).f2), .slice A569_3 ((rd_T89 y561 x19_2).f3).length c569_3, .string (⟨#[]⟩ : ByteArray), .int .i64 0, .slice none 0 0]) ?_ 4 _ rfl; (with_reducible repeat (first | refine blk_drewN ?_ _ | refine blk_drew ?_ | refine blk_alloc ?_ _)); refine blk_put (cs := #[.int .i64 ((rd_T89 y561 x19_2).f0), .int .i64 ((rd_T89 y561 x19_2).f1), .string ((rd_T89 y561 x19_2).f2), .slice none 0 0, .string (⟨#[]⟩ : ByteArray), .int .i64 0, .slice none 0 0]) ?_ 3 _ rfl; (with_reducible repeat (first | refine blk_drewN ?_ _ | refine blk_drew ?_ | refine blk_alloc ?_ _)); refine blk_put (cs := #[.int .i64 ((rd_T89 y561 x19_2).f0), .int .i64 ((rd_T89 y561 x19_2).f1), .string (⟨#[]⟩ : ByteArray), .slice none 0 0, .string (⟨#[]⟩ : ByteArray), .int .i64 0, .slice none 0 0]) ?_ 2 _ rfl; (with_reducible repeat (first | refine blk_drewN ?_ _ | refine blk_drew ?_ | refine blk_alloc ?_ _)); refine blk_put (cs := #[.int .i64 ((rd_T89 y561 x19_2).f0), .int .i64 0, .string (⟨#[]⟩ : ByteArray), .slice none 0 0, .string (⟨#[]⟩ : ByteArray), .int .i64 0, .slice none 0 0]) ?_ 1 _ rfl; (with_reducible repeat (first | refine blk_drewN ?_ _ | refine blk_drew ?_ | refine blk_alloc ?_ _)); refine blk_put (cs := #[.int .i64 0, .int .i64 0, .string (⟨#[]⟩ : ByteArray), .slice none 0 0, .string (⟨#[]⟩ : ByteArray), .int .i64 0, .slice none 0 0]) ?_ 0 _ rfl; (with_reducible repeat (first | refine blk_drewN ?_ _ | refine blk_drew ?_ | refine blk_alloc ?_ _)); exact BK570.out) hb); have n1_ := Aside0.mk (below_step (by repeat (first | (with_reducible first | exact HB.out | apply below_alloc | apply pw_below_drewN | apply below_drew1 | refine below_set ?_ GE570.out) | exact HB.out)) hb); clear BK570; clear HB; have BK570 := n0_; have HB := n1_; clear n0_ n1_; (try clear hb); (try clear hb2); (try clear hk); (try clear hi)))
           go_ret
           exact ⟨by first | rfl | (simp [errW_none, errW_some] <;> rfl) | (simp [*, errW_none, errW_some] <;> rfl), by repeat (first | (with_reducible first | exact HB.out | apply below_alloc | apply pw_below_drewN | apply below_drew1 | refine below_set ?_ GE570.out) | exact HB.out)⟩
         ·rw [if_neg c13] at H
          exact absurd H (by simp)
        ·rw [if_neg c12] at H
         exact absurd H (by simp)
       ·rw [if_neg c11] at H
        have c11b0 : decide (x19_2 < (y561.length : Int)) = false := decide_eq_false c11
        clear c11
        replace H := Option.bind_eq_some_iff.mp H
        obtain ⟨t565, A370, H⟩ := H
        replace H : (if t565 = true then ((impl_order.f k2 l0).bind fun t566 => (some ((t566.length : Int) == (l0.length : Int)))) else (some false)) = some r := H
        have A37 := Aside0.mk A370
        clear A370
        by_cases c38 : t565 = true
        ·subst c38
         have H1 : ((impl_order.f k2 l0).bind fun t566 => (some ((t566.length : Int) == (l0.length : Int)))) = some r := by rw [if_pos rfl] at H; exact H
         clear H
         have H := H1
         clear H1
         replace H := Option.bind_eq_some_iff.mp H
         obtain ⟨t566, A390, H⟩ := H
         replace H : (some ((t566.length : Int) == (l0.length : Int))) = some r := H
         have A39 := Aside0.mk A390
         clear A390
         obtain rfl := Option.some.inj H
         go_wp2_with (first | ((with_reducible refine gate_callee (f := 112) rfl ?_); refine goesL_ (some 47) rfl rfl Try.func112 (by kernel_rfl) rfl #[.slice A0 l0.length c0] rfl (by (try simp only [List.map_toArray, List.map_cons, List.map_nil]); first | done | rfl | (simp only [List.length_drop, List.length_take]; rfl)) ?_; (with_reducible refine (impl_kidsOk.calls k2 _ _ l0 true _ ?side1 ?side2 A37.out).mono ?_); (case side1 => repeat (first | exact (Kd.C_below HR0.out HB.out) | (with_reducible refine Kd.C_alloc ?_ _) | (with_reducible refine Kd.C_drewN ?_ _) | (with_reducible refine Kd.C_drew ?_))); (case side2 => exact HC0.out); rintro e w40 ⟨rfl, hb⟩; refine ⟨_, rfl, ?_⟩; have n0_ := Aside0.mk (below_step (by repeat (first | (with_reducible first | exact HB.out | apply below_alloc | apply pw_below_drewN | apply below_drew1) | exact HB.out)) hb); clear HB; have HB := n0_; clear n0_; (try clear hb); (try clear hb2); (try clear hk); (try clear hi)) | (go_at_call 78; (with_reducible refine (impl_order.calls k2 _ _ l0 t566 _ ?side1 ?side2 A39.out).mono ?_); (case side1 => repeat (first | exact (Kd.C_below HR0.out HB.out) | (with_reducible refine Kd.C_alloc ?_ _) | (with_reducible refine Kd.C_drewN ?_ _) | (with_reducible refine Kd.C_drew ?_))); (case side2 => exact HC0.out); rintro e w41 ⟨v567, rfl, ho0, hb⟩; have n0_ := Aside0.mk (Kd.R_lower ho0 (below_size (by repeat (first | (with_reducible first | exact HB.out | apply below_alloc | apply pw_below_drewN | apply below_drew1) | exact HB.out)))); have n1_ := Aside0.mk (below_step (by repeat (first | (with_reducible first | exact HB.out | apply below_alloc | apply pw_below_drewN | apply below_drew1) | exact HB.out)) hb); clear HB; have HO568 := n0_; have HB := n1_; clear n0_ n1_; (try clear hb); (try clear hb2); (try clear hk); (try clear hi); (try clear ho0); obtain ⟨Ao42, co42, eo42⟩ := Kd.R_slice HO568.out; subst eo42))
         go_ret
         exact ⟨by first | rfl | (simp [errW_none, errW_some] <;> rfl) | (simp [*, errW_none, errW_some] <;> rfl), by repeat (first | (with_reducible first | exact HB.out | apply below_alloc | apply pw_below_drewN | apply below_drew1) | exact HB.out)⟩
        ·replace c38 := Bool.eq_false_iff.mpr c38
         subst c38
         have H1 : (some false) = some r := by rw [if_neg (show ¬ (false = true) by decide)] at H; exact H
         clear H
         have H := H1
         clear H1
         obtain rfl := Option.some.inj H
         go_wp2_with (first | ((with_reducible refine gate_callee (f := 112) rfl ?_); refine goesL_ (some 47) rfl rfl Try.func112 (by kernel_rfl) rfl #[.slice A0 l0.length c0] rfl (by (try simp only [List.map_toArray, List.map_cons, List.map_nil]); first | done | rfl | (simp only [List.length_drop, List.length_take]; rfl)) ?_; (with_reducible refine (impl_kidsOk.calls k2 _ _ l0 false _ ?side1 ?side2 A37.out).mono ?_); (case side1 => repeat (first | exact (Kd.C_below HR0.out HB.out) | (with_reducible refine Kd.C_alloc ?_ _) | (with_reducible refine Kd.C_drewN ?_ _) | (with_reducible refine Kd.C_drew ?_))); (case side2 => exact HC0.out); rintro e w43 ⟨rfl, hb⟩; refine ⟨_, rfl, ?_⟩; have n0_ := Aside0.mk (below_step (by repeat (first | (with_reducible first | exact HB.out | apply below_alloc | apply pw_below_drewN | apply below_drew1) | exact HB.out)) hb); clear HB; have HB := n0_; clear n0_; (try clear hb); (try clear hb2); (try clear hk); (try clear hi)))
         go_ret
         exact ⟨by first | rfl | (simp [errW_none, errW_some] <;> rfl) | (simp [*, errW_none, errW_some] <;> rfl), by repeat (first | (with_reducible first | exact HB.out | apply below_alloc | apply pw_below_drewN | apply below_drew1) | exact HB.out)⟩
    ·rw [if_neg c9] at H
     exact absurd H (by simp)
end Go.Proofs.Ytlocaaebgghkbaa.A
namespace Go.Proofs.Ytlocaaebgghkbaa.A
open Go.RowKit Go.Proofs.YtlocaaebgghkbaaW.PrintWords Go.Proofs.YtlocaaebgghkbaaW.PrintLast Go.Proofs.YtlocaaebgghkbaaW.PrintMore
attribute [local go_sem] max2_int min2_int max_two min_two max_three min_three max_four min_four   -- for this text's walks alone
set_option linter.unusedVariables false
set_option linter.unusedSimpArgs false
def impl_Order.f (k : Nat) (l0 : List (S89)) : Option (List Int) := (impl_TreeOk.f k l0).bind fun t644 => (if t644 = true then ((impl_order.f k l0).bind fun t645 => (some t645)) else (some ([] : List Int)))
theorem impl_Order.mono : ∀ a0 k, LeO (impl_Order.f k a0) (impl_Order.f (k + 1) a0) := by
 intro a0 k
 unfold impl_Order.f
 repeat' first
   | (with_reducible exact impl_TreeOk.mono _ _)
   | (with_reducible exact impl_order.mono _ _)
   | (with_reducible exact LeO.refl _)
   | (with_reducible exact LeO.none _)
   | (with_reducible refine LeO.ite ?_ ?_)
   | (with_reducible refine LeO.bind ?_ (fun _ => ?_))
   | exact impl_TreeOk.mono _ _
   | exact impl_order.mono _ _
   | exact LeO.none _
   | refine LeO.ite ?_ ?_
   | refine LeO.bind ?_ (fun _ => ?_)
set_option maxHeartbeats 8000000 in
set_option maxRecDepth 100000 in
theorem impl_Order.calls (k : Nat) (A0 : Option Addr) (c0 : Nat) (l0 : List (S89)) (r : List Int) (w : World) (hr0 : Kd.C k89 w A0 l0.length l0) (hc0 : l0.length ≤ c0) (h : impl_Order.f k l0 = some r) :
  Calls Try.prog 85 #[.slice A0 l0.length c0] w fun e w' => ∃ v0_ : Value, e = .returned (v0_) ∧ Kd.R (Kd.int .i64) 3 w' w.heap.size (fun _ => True) v0_ r ∧ Below w.heap.size w w' := by
 have HR0 := Aside0.mk hr0
 have HC0 := Aside0.mk hc0
 clear hr0 hc0
 have HB := Aside0.mk (Below.refl w.heap.size w)
 have H : ((impl_TreeOk.f k l0).bind fun t644 => (if t644 = true then ((impl_order.f k l0).bind fun t645 => (some t645)) else (some ([] : List Int)))) = some r := h
 clear h
 replace H := Option.bind_eq_some_iff.mp H
 obtain ⟨t644, A20, H⟩ := H
 replace H : (if t644 = true then ((impl_order.f k l0).bind fun t645 => (some t645)) else (some ([] : List Int))) = some r := H
 have A2 := Aside0.mk A20
 clear A20
 by_cases c3 : t644 = true
 ·subst c3
  have H1 : ((impl_order.f k l0).bind fun t645 => (some t645)) = some r := by rw [if_pos rfl] at H; exact H
  clear H
  have H := H1
  clear H1
  replace H := Option.bind_eq_some_iff.mp H
  obtain ⟨t645, A40, H⟩ := H
  replace H : (some t645) = some r := H
  have A4 := Aside0.mk A40
  clear A40
  obtain rfl := Option.some.inj H
  go_enter Try.func85, Try.ntmps85
  go_wp2_with (first | ((with_reducible refine gate_callee (f := 76) rfl ?_); refine goesL_ (some 4) rfl rfl Try.func76 (by kernel_rfl) rfl #[.slice A0 l0.length c0] rfl (by (try simp only [List.map_toArray, List.map_cons, List.map_nil]); first | done | rfl | (simp only [List.length_drop, List.length_take]; rfl)) ?_; (with_reducible refine (impl_TreeOk.calls k _ _ l0 true _ ?side1 ?side2 A2.out).mono ?_); (case side1 => repeat (first | exact HR0.out | (with_reducible refine Kd.C_alloc ?_ _) | (with_reducible refine Kd.C_drewN ?_ _) | (with_reducible refine Kd.C_drew ?_))); (case side2 => exact HC0.out); rintro e w5 ⟨rfl, hb⟩; refine ⟨_, rfl, ?_⟩; have n0_ := Aside0.mk (below_step (by repeat (first | (with_reducible first | exact HB.out | apply below_alloc | apply pw_below_drewN | apply below_drew1) | exact HB.out)) hb); clear HB; have HB := n0_; clear n0_; (try clear hb); (try clear hb2); (try clear hk); (try clear hi)) | ((with_reducible refine gate_callee (f := 78) rfl ?_); refine goesL_ (some 7) rfl rfl Try.func78 (by kernel_rfl) rfl #[.slice A0 l0.length c0] rfl (by (try simp only [List.map_toArray, List.map_cons, List.map_nil]); first | done | rfl | (simp only [List.length_drop, List.length_take]; rfl)) ?_; (with_reducible refine (impl_order.calls k _ _ l0 t645 _ ?side1 ?side2 A4.out).mono ?_); (case side1 => repeat (first | exact (Kd.C_below HR0.out HB.out) | (with_reducible refine Kd.C_alloc ?_ _) | (with_reducible refine Kd.C_drewN ?_ _) | (with_reducible refine Kd.C_drew ?_))); (case side2 => exact HC0.out); rintro e w6 ⟨v646, rfl, ho0, hb⟩; refine ⟨_, rfl, ?_⟩; have n0_ := Aside0.mk (Kd.R_lower ho0 (below_size (by repeat (first | (with_reducible first | exact HB.out | apply below_alloc | apply pw_below_drewN | apply below_drew1) | exact HB.out)))); have n1_ := Aside0.mk (below_step (by repeat (first | (with_reducible first | exact HB.out | apply below_alloc | apply pw_below_drewN | apply below_drew1) | exact HB.out)) hb); clear HB; have HO647 := n0_; have HB := n1_; clear n0_ n1_; (try clear hb); (try clear hb2); (try clear hk); (try clear hi); (try clear ho0)))
  go_ret
  exact ⟨_, by first | rfl | (simp [errW_none, errW_some] <;> rfl) | (simp [*, errW_none, errW_some] <;> rfl), by (with_reducible repeat (first | apply Kd.R_alloc | apply Kd.R_drewN | apply Kd.R_drew)); exact HO647.out, by repeat (first | (with_reducible first | exact HB.out | apply below_alloc | apply pw_below_drewN | apply below_drew1) | exact HB.out)⟩
 ·replace c3 := Bool.eq_false_iff.mpr c3
  subst c3
  have H1 : (some ([] : List Int)) = some r := by rw [if_neg (show ¬ (false = true) by decide)] at H; exact H
  clear H
  have H := H1
  clear H1
  obtain rfl := Option.some.inj H
  go_enter Try.func85, Try.ntmps85
  go_wp2_with (first | ((with_reducible refine gate_callee (f := 76) rfl ?_); refine goesL_ (some 4) rfl rfl Try.func76 (by kernel_rfl) rfl #[.slice A0 l0.length c0] rfl (by (try simp only [List.map_toArray, List.map_cons, List.map_nil]); first | done | rfl | (simp only [List.length_drop, List.length_take]; rfl)) ?_; (with_reducible refine (impl_TreeOk.calls k _ _ l0 false _ ?side1 ?side2 A2.out).mono ?_); (case side1 => repeat (first | exact HR0.out | (with_reducible refine Kd.C_alloc ?_ _) | (with_reducible refine Kd.C_drewN ?_ _) | (with_reducible refine Kd.C_drew ?_))); (case side2 => exact HC0.out); rintro e w7 ⟨rfl, hb⟩; refine ⟨_, rfl, ?_⟩; have n0_ := Aside0.mk (below_step (by repeat (first | (with_reducible first | exact HB.out | apply below_alloc | apply pw_below_drewN | apply below_drew1) | exact HB.out)) hb); clear HB; have HB := n0_; clear n0_; (try clear hb); (try clear hb2); (try clear hk); (try clear hi)))
  go_ret
  exact ⟨_, by first | rfl | (simp [errW_none, errW_some] <;> rfl) | (simp [*, errW_none, errW_some] <;> rfl), by first | exact Kd.R_nil _ _ _ _ _ | exact Kd.N_nil _ _ _ _ _ | exact Kd.V_nil _ _ _ _ _ | exact Kd.Q_nil _ _ _ _ _ | exact Kd.S_nil _ _ _ _ _, by repeat (first | (with_reducible first | exact HB.out | apply below_alloc | apply pw_below_drewN | apply below_drew1) | exact HB.out)⟩
end Go.Proofs.Ytlocaaebgghkbaa.A
namespace Go.Proofs.Ytlocaaebgghkbaa.A
open Go.RowKit Go.Proofs.YtlocaaebgghkbaaW.PrintWords Go.Proofs.YtlocaaebgghkbaaW.PrintLast Go.Proofs.YtlocaaebgghkbaaW.PrintMore
attribute [local go_sem] max2_int min2_int max_two min_two max_three min_three max_four min_four   -- for this text's walks alone
set_option linter.unusedVariables false
set_option linter.unusedSimpArgs false
def impl_beginning.j0 : Nat → Int → Bool → Option (Int × Int × Int × Int)
 | 0, _, _ => none
 | k + 1, x0, x11 => if x11 = true then (some ((-1), 0, 0, 0)) else (if x0 < 224 then (some (1, wrap64 (Go.bits .and .u8 x0 31), 128, 191)) else (if x0 = 224 then (some (2, 0, 160, 191)) else (if x0 = 237 then (some (2, 13, 128, 159)) else (if x0 < 240 then (some (2, wrap64 (Go.bits .and .u8 x0 15), 128, 191)) else (if x0 = 240 then (some (3, 0, 144, 191)) else (if x0 = 244 then (some (3, 4, 128, 143)) else (some (3, wrap64 (Go.bits .and .u8 x0 7), 128, 191))))))))
def impl_beginning.f (k : Nat) (a0 : Int) : Option (Int × Int × Int × Int) := if a0 < 128 then (some (0, wrap64 (a0), 0, 0)) else (if a0 < 194 then (impl_beginning.j0 k a0 true) else (impl_beginning.j0 k a0 (decide (a0 > 244))))
theorem impl_beginning.mono_l : ∀ k, (∀ y0 y1, LeO (impl_beginning.j0 k y0 y1) (impl_beginning.j0 (k + 1) y0 y1))
 | 0 => fun _ _ r h => by simp [impl_beginning.j0] at h
 | k + 1 => by
  have ih0 := impl_beginning.mono_l k
  ·intro y0 y1
   unfold impl_beginning.j0
   repeat' first
   | (with_reducible exact ih0 _ _)
   | (with_reducible exact LeO.refl _)
   | (with_reducible exact LeO.none _)
   | (with_reducible refine LeO.ite ?_ ?_)
   | (with_reducible refine LeO.bind ?_ (fun _ => ?_))
   | exact ih0 _ _
   | exact LeO.none _
   | refine LeO.ite ?_ ?_
   | refine LeO.bind ?_ (fun _ => ?_)
theorem impl_beginning.mono : ∀ a0 k, LeO (impl_beginning.f k a0) (impl_beginning.f (k + 1) a0) := by
 intro a0 k
 have ih0 := impl_beginning.mono_l k
 unfold impl_beginning.f
 repeat' first
   | (with_reducible exact ih0 _ _)
   | (with_reducible exact LeO.refl _)
   | (with_reducible exact LeO.none _)
   | (with_reducible refine LeO.ite ?_ ?_)
   | (with_reducible refine LeO.bind ?_ (fun _ => ?_))
   | exact ih0 _ _
   | exact LeO.none _
   | refine LeO.ite ?_ ?_
   | refine LeO.bind ?_ (fun _ => ?_)
set_option maxHeartbeats 8000000 in
set_option maxRecDepth 100000 in
theorem impl_beginning.calls (k : Nat) (a0 : Int) (r1 : Int) (r2 : Int) (r3 : Int) (r4 : Int) (w : World) (h : impl_beginning.f k a0 = some (r1, r2, r3, r4)) :
  Calls Try.prog 172 #[.int .u8 a0] w fun e w' => e = .returned (.tuple #[.int .i64 r1, .int .i64 r2, .int .u8 r3, .int .u8 r4]) ∧ Drawn0 w w' := by
 have H : (if a0 < 128 then (some (0, wrap64 (a0), 0, 0)) else (if a0 < 194 then (impl_beginning.j0 k a0 true) else (impl_beginning.j0 k a0 (decide (a0 > 244))))) = some (r1, r2, r3, r4) := h
 clear h
 by_cases c2 : a0 < 128
 ·rw [if_pos c2] at H
  have c2b0 : decide (a0 < 128) = true := decide_eq_true c2
  clear c2
  simp only [Option.some.injEq, Prod.mk.injEq] at H
  obtain ⟨rfl, rfl, rfl, rfl⟩ := H
  go_enter Try.func172, Try.ntmps172
  go_wp2
  refine bodyPost_ret (results_list (rs := [.tmp 2, .tmp 3, .tmp 4, .tmp 5]) rfl (by simp) (.tmp (.tmp (.tmp (.tmp .nil))))) rfl ?_
  exact ⟨by first | rfl | (simp; done) | (simp [*]; done), by repeat (first | exact Drawn0.refl _ | apply Drawn0.step)⟩
 ·rw [if_neg c2] at H
  have c2b0 : decide (a0 < 128) = false := decide_eq_false c2
  clear c2
  have HC3 := Aside0.mk H
  clear H
  go_enter Try.func172, Try.ntmps172
  go_upto_region 3 with (fail)
  go_cut [11] (fun v11 wc => ∃ (kq : Nat) (x11_2 : Bool), v11 = .bool x11_2 ∧ Aside0 (impl_beginning.j0 kq a0 x11_2 = some (r1, r2, r3, r4)) ∧ Aside0 (kq ≤ k) ∧ Drawn0 w wc)
  case first =>
   have H := HC3.out
   clear HC3
   by_cases c4 : a0 < 194
   ·rw [if_pos c4] at H
    have c4b0 : decide (a0 < 194) = true := decide_eq_true c4
    clear c4
    (first | rw [c4b0] | (simp only [i64_w, i32_w]; rw [c4b0]) | skip)
    have H' := Aside0.mk H
    clear H
    go_wp2
    go_meet
    case rel => exact ⟨_, (true), (by first | rfl | (simp; done) | (simp [*]; done)), H', ⟨by first | omega | exact Nat.le_refl _⟩, by repeat (first | exact Drawn0.refl _ | apply Drawn0.step)⟩
   ·rw [if_neg c4] at H
    have c4b0 : decide (a0 < 194) = false := decide_eq_false c4
    clear c4
    (first | rw [c4b0] | (simp only [i64_w, i32_w]; rw [c4b0]) | skip)
    have H' := Aside0.mk H
    clear H
    go_wp2
    go_meet
    case rel => exact ⟨_, (decide (a0 > 244)), (by first | rfl | (simp; done) | (simp [*]; done)), H', ⟨by first | omega | exact Nat.le_refl _⟩, by repeat (first | exact Drawn0.refl _ | apply Drawn0.step)⟩
  case rest =>
   clear HC3
   try clear c1
   try clear c2
   try clear c2b0
   try clear p2
   try clear c4
   try clear c4b0
   obtain ⟨kq, x11_2, rfl, HA, HJ2, ⟨mc2, rfl⟩⟩ := hcut
   cases kq with
   | zero => exact absurd HA.out (by simp [impl_beginning.j0])
   | succ kj2 =>
    have H := HA.out
    clear HA
    simp only [impl_beginning.j0] at H
    by_cases c5 : x11_2 = true
    ·subst c5
     have H1 : (some ((-1), 0, 0, 0)) = some (r1, r2, r3, r4) := by rw [if_pos rfl] at H; exact H
     clear H
     have H := H1
     clear H1
     simp only [Option.some.injEq, Prod.mk.injEq] at H
     obtain ⟨rfl, rfl, rfl, rfl⟩ := H
     go_wp2
     refine bodyPost_ret (results_list (rs := [.tmp 2, .tmp 3, .tmp 4, .tmp 5]) rfl (by simp) (.tmp (.tmp (.tmp (.tmp .nil))))) rfl ?_
     exact ⟨by first | rfl | (simp; done) | (simp [*]; done), by repeat (first | exact Drawn0.refl _ | apply Drawn0.step)⟩
    ·replace c5 := Bool.eq_false_iff.mpr c5
     subst c5
     have H1 : (if a0 < 224 then (some (1, wrap64 (Go.bits .and .u8 a0 31), 128, 191)) else (if a0 = 224 then (some (2, 0, 160, 191)) else (if a0 = 237 then (some (2, 13, 128, 159)) else (if a0 < 240 then (some (2, wrap64 (Go.bits .and .u8 a0 15), 128, 191)) else (if a0 = 240 then (some (3, 0, 144, 191)) else (if a0 = 244 then (some (3, 4, 128, 143)) else (some (3, wrap64 (Go.bits .and .u8 a0 7), 128, 191)))))))) = some (r1, r2, r3, r4) := by rw [if_neg (show ¬ (false = true) by decide)] at H; exact H
     clear H
     have H := H1
     clear H1
     by_cases c6 : a0 < 224
     ·rw [if_pos c6] at H
      have c6b0 : decide (a0 < 224) = true := decide_eq_true c6
      clear c6
      simp only [Option.some.injEq, Prod.mk.injEq] at H
      obtain ⟨rfl, rfl, rfl, rfl⟩ := H
      go_wp2
      refine bodyPost_ret (results_list (rs := [.tmp 2, .tmp 3, .tmp 4, .tmp 5]) rfl (by simp) (.tmp (.tmp (.tmp (.tmp .nil))))) rfl ?_
      exact ⟨by first | rfl | (simp; done) | (simp [*]; done), by repeat (first | exact Drawn0.refl _ | apply Drawn0.step)⟩
     ·rw [if_neg c6] at H
      have c6b0 : decide (a0 < 224) = false := decide_eq_false c6
      clear c6
      by_cases c7 : a0 = 224
      ·rw [if_pos c7] at H
       have c7b0 : (a0 == 224) = true := beq_iff_eq.mpr c7
       have c7b1 : (a0 != 224) = false := bne_eq_false_iff_eq.mpr c7
       clear c7
       simp only [Option.some.injEq, Prod.mk.injEq] at H
       obtain ⟨rfl, rfl, rfl, rfl⟩ := H
       go_wp2
       refine bodyPost_ret (results_list (rs := [.tmp 2, .tmp 3, .tmp 4, .tmp 5]) rfl (by simp) (.tmp (.tmp (.tmp (.tmp .nil))))) rfl ?_
       exact ⟨by first | rfl | (simp; done) | (simp [*]; done), by repeat (first | exact Drawn0.refl _ | apply Drawn0.step)⟩
      ·rw [if_neg c7] at H
       have c7b0 : (a0 == 224) = false := beq_eq_false_iff_ne.mpr c7
       have c7b1 : (a0 != 224) = true := bne_iff_ne.mpr c7
       by_cases c8 : a0 = 237
       ·rw [if_pos c8] at H
        have c8b0 : (a0 == 237) = true := beq_iff_eq.mpr c8
        have c8b1 : (a0 != 237) = false := bne_eq_false_iff_eq.mpr c8
        clear c8
        simp only [Option.some.injEq, Prod.mk.injEq] at H
        obtain ⟨rfl, rfl, rfl, rfl⟩ := H
        go_wp2
        refine bodyPost_ret (results_list (rs := [.tmp 2, .tmp 3, .tmp 4, .tmp 5]) rfl (by simp) (.tmp (.tmp (.tmp (.tmp .nil))))) rfl ?_
        exact ⟨by first | rfl | (simp; done) | (simp [*]; done), by repeat (first | exact Drawn0.refl _ | apply Drawn0.step)⟩
       ·rw [if_neg c8] at H
        have c8b0 : (a0 == 237) = false := beq_eq_false_iff_ne.mpr c8
        have c8b1 : (a0 != 237) = true := bne_iff_ne.mpr c8
        by_cases c9 : a0 < 240
        ·rw [if_pos c9] at H
         have c9b0 : decide (a0 < 240) = true := decide_eq_true c9
         clear c9
         simp only [Option.some.injEq, Prod.mk.injEq] at H
         obtain ⟨rfl, rfl, rfl, rfl⟩ := H
         go_wp2
         refine bodyPost_ret (results_list (rs := [.tmp 2, .tmp 3, .tmp 4, .tmp 5]) rfl (by simp) (.tmp (.tmp (.tmp (.tmp .nil))))) rfl ?_
         exact ⟨by first | rfl | (simp; done) | (simp [*]; done), by repeat (first | exact Drawn0.refl _ | apply Drawn0.step)⟩
        ·rw [if_neg c9] at H
         have c9b0 : decide (a0 < 240) = false := decide_eq_false c9
         clear c9
         by_cases c10 : a0 = 240
         ·rw [if_pos c10] at H
          have c10b0 : (a0 == 240) = true := beq_iff_eq.mpr c10
          have c10b1 : (a0 != 240) = false := bne_eq_false_iff_eq.mpr c10
          clear c10
          simp only [Option.some.injEq, Prod.mk.injEq] at H
          obtain ⟨rfl, rfl, rfl, rfl⟩ := H
          go_wp2
          refine bodyPost_ret (results_list (rs := [.tmp 2, .tmp 3, .tmp 4, .tmp 5]) rfl (by simp) (.tmp (.tmp (.tmp (.tmp .nil))))) rfl ?_
          exact ⟨by first | rfl | (simp; done) | (simp [*]; done), by repeat (first | exact Drawn0.refl _ | apply Drawn0.step)⟩
         ·rw [if_neg c10] at H
          have c10b0 : (a0 == 240) = false := beq_eq_false_iff_ne.mpr c10
          have c10b1 : (a0 != 240) = true := bne_iff_ne.mpr c10
          by_cases c11 : a0 = 244
          ·rw [if_pos c11] at H
           have c11b0 : (a0 == 244) = true := beq_iff_eq.mpr c11
           have c11b1 : (a0 != 244) = false := bne_eq_false_iff_eq.mpr c11
           clear c11
           simp only [Option.some.injEq, Prod.mk.injEq] at H
           obtain ⟨rfl, rfl, rfl, rfl⟩ := H
           go_wp2
           refine bodyPost_ret (results_list (rs := [.tmp 2, .tmp 3, .tmp 4, .tmp 5]) rfl (by simp) (.tmp (.tmp (.tmp (.tmp .nil))))) rfl ?_
           exact ⟨by first | rfl | (simp; done) | (simp [*]; done), by repeat (first | exact Drawn0.refl _ | apply Drawn0.step)⟩
          ·rw [if_neg c11] at H
           have c11b0 : (a0 == 244) = false := beq_eq_false_iff_ne.mpr c11
           have c11b1 : (a0 != 244) = true := bne_iff_ne.mpr c11
           simp only [Option.some.injEq, Prod.mk.injEq] at H
           obtain ⟨rfl, rfl, rfl, rfl⟩ := H
           go_wp2
           refine bodyPost_ret (results_list (rs := [.tmp 2, .tmp 3, .tmp 4, .tmp 5]) rfl (by simp) (.tmp (.tmp (.tmp (.tmp .nil))))) rfl ?_
           exact ⟨by first | rfl | (simp; done) | (simp [*]; done), by repeat (first | exact Drawn0.refl _ | apply Drawn0.step)⟩
end Go.Proofs.Ytlocaaebgghkbaa.A
namespace Go.Proofs.Ytlocaaebgghkbaa.A
open Go.RowKit Go.Proofs.YtlocaaebgghkbaaW.PrintWords Go.Proofs.YtlocaaebgghkbaaW.PrintLast Go.Proofs.YtlocaaebgghkbaaW.PrintMore
attribute [local go_sem] max2_int min2_int max_two min_two max_three min_three max_four min_four   -- for this text's walks alone
set_option linter.unusedVariables false
set_option linter.unusedSimpArgs false
def impl_getSign.l0 : Nat → ByteArray → Int → Int → Int → Int → Int → Int → Option (Int × Int)
 | 0, _, _, _, _, _, _, _ => none
 | k + 1, x0, x1, x6, x7, x8, x9, x10 => if x10 ≤ x6 then (if (wrap64 (x1 + x10)) ≥ (x0.size : Int) then (some (65533, x10)) else (if 0 ≤ (wrap64 (x1 + x10)) then (if (wrap64 (x1 + x10)) < (x0.size : Int) then (if (bt x0 (wrap64 (x1 + x10))) < x8 then (some (65533, x10)) else (if (bt x0 (wrap64 (x1 + x10))) > x9 then (some (65533, x10)) else (impl_getSign.l0 k x0 x1 x6 (Go.bits .or .i64 (wrap64 (x7 * 64)) (wrap64 (Go.bits .and .u8 (bt x0 (wrap64 (x1 + x10))) 63))) 128 191 (wrap64 (x10 + 1))))) else (none)) else (none))) else (some (x7, wrap64 (x6 + 1)))
def impl_getSign.f (k : Nat) (a0 : ByteArray) (a1 : Int) : Option (Int × Int) := if 0 ≤ a1 then (if a1 < (a0.size : Int) then ((impl_beginning.f k (bt a0 a1)).bind fun bt648 => (if bt648.1 < 0 then (some (65533, 1)) else (impl_getSign.l0 k a0 a1 bt648.1 bt648.2.1 bt648.2.2.1 bt648.2.2.2 1))) else (none)) else (none)
theorem impl_getSign.mono_l : ∀ k, (∀ y0 y1 y2 y3 y4 y5 y6, LeO (impl_getSign.l0 k y0 y1 y2 y3 y4 y5 y6) (impl_getSign.l0 (k + 1) y0 y1 y2 y3 y4 y5 y6))
 | 0 => fun _ _ _ _ _ _ _ r h => by simp [impl_getSign.l0] at h
 | k + 1 => by
  have ih0 := impl_getSign.mono_l k
  ·intro y0 y1 y2 y3 y4 y5 y6
   unfold impl_getSign.l0
   repeat' first
   | (with_reducible exact ih0 _ _ _ _ _ _ _)
   | (with_reducible exact impl_beginning.mono _ _)
   | (with_reducible exact LeO.refl _)
   | (with_reducible exact LeO.none _)
   | (with_reducible refine LeO.ite ?_ ?_)
   | (with_reducible refine LeO.bind ?_ (fun _ => ?_))
   | exact ih0 _ _ _ _ _ _ _
   | exact impl_beginning.mono _ _
   | exact LeO.none _
   | refine LeO.ite ?_ ?_
   | refine LeO.bind ?_ (fun _ => ?_)
theorem impl_getSign.mono : ∀ a0 a1 k, LeO (impl_getSign.f k a0 a1) (impl_getSign.f (k + 1) a0 a1) := by
 intro a0 a1 k
 have ih0 := impl_getSign.mono_l k
 unfold impl_getSign.f
 repeat' first
   | (with_reducible exact ih0 _ _ _ _ _ _ _)
   | (with_reducible exact impl_beginning.mono _ _)
   | (with_reducible exact LeO.refl _)
   | (with_reducible exact LeO.none _)
   | (with_reducible refine LeO.ite ?_ ?_)
   | (with_reducible refine LeO.bind ?_ (fun _ => ?_))
   | exact ih0 _ _ _ _ _ _ _
   | exact impl_beginning.mono _ _
   | exact LeO.none _
   | refine LeO.ite ?_ ?_
   | refine LeO.bind ?_ (fun _ => ?_)
set_option maxHeartbeats 8000000 in
set_option maxRecDepth 100000 in
theorem impl_getSign.calls (k : Nat) (a0 : ByteArray) (a1 : Int) (r1 : Int) (r2 : Int) (w : World) (h : impl_getSign.f k a0 a1 = some (r1, r2)) :
  Calls Try.prog 157 #[.string a0, .int .i64 a1] w fun e w' => e = .returned (.tuple #[.int .i64 r1, .int .i64 r2]) ∧ Drawn0 w w' := by
 have H : (if 0 ≤ a1 then (if a1 < (a0.size : Int) then ((impl_beginning.f k (bt a0 a1)).bind fun bt648 => (if bt648.1 < 0 then (some (65533, 1)) else (impl_getSign.l0 k a0 a1 bt648.1 bt648.2.1 bt648.2.2.1 bt648.2.2.2 1))) else (none)) else (none)) = some (r1, r2) := h
 clear h
 by_cases c3 : 0 ≤ a1
 ·rw [if_pos c3] at H
  have c3b0 : decide (0 ≤ a1) = true := decide_eq_true c3
  clear c3
  by_cases c4 : a1 < (a0.size : Int)
  ·rw [if_pos c4] at H
   have c4b0 : decide (a1 < (a0.size : Int)) = true := decide_eq_true c4
   clear c4
   replace H := Option.bind_eq_some_iff.mp H
   obtain ⟨⟨t648, t649, t650, t651⟩, A60, H⟩ := H
   replace H : (if t648 < 0 then (some (65533, 1)) else (impl_getSign.l0 k a0 a1 t648 t649 t650 t651 1)) = some (r1, r2) := H
   have A6 := Aside0.mk A60
   clear A60
   by_cases c7 : t648 < 0
   ·rw [if_pos c7] at H
    have c7b0 : decide (t648 < 0) = true := decide_eq_true c7
    clear c7
    simp only [Option.some.injEq, Prod.mk.injEq] at H
    obtain ⟨rfl, rfl⟩ := H
    have p5 : 0 ≤ (a1 : Int) := of_decide_eq_true (by first | (with_reducible assumption) | assumption)
    have q5 : a1 < (a0.size : Int) := of_decide_eq_true (by first | (with_reducible assumption) | assumption)
    have hx5 := bt_at a0 a1
    replace p5 := eq_true p5
    replace q5 := eq_true q5
    go_enter Try.func157, Try.ntmps157
    go_wp2_with (first | ((with_reducible refine gate_callee (f := 172) rfl ?_); refine goesL_ (some 15) rfl rfl Try.func172 (by kernel_rfl) rfl #[.int .u8 (bt a0 a1)] rfl (by (try simp only [List.map_toArray, List.map_cons, List.map_nil]); first | done | rfl | (simp only [List.length_drop, List.length_take]; rfl)) ?_; (with_reducible refine (impl_beginning.calls k (bt a0 a1) t648 t649 t650 t651 _ A6.out).mono ?_); rintro e w' ⟨rfl, ⟨nd, rfl⟩⟩; refine ⟨_, rfl, ?_⟩))
    go_ret2
    exact ⟨by first | rfl | (simp; done) | (simp [*]; done), by repeat (first | exact Drawn0.refl _ | apply Drawn0.step)⟩
   ·rw [if_neg c7] at H
    have c7b0 : decide (t648 < 0) = false := decide_eq_false c7
    clear c7
    have H' := Aside0.mk H
    clear H
    have p5 : 0 ≤ (a1 : Int) := of_decide_eq_true (by first | (with_reducible assumption) | assumption)
    have q5 : a1 < (a0.size : Int) := of_decide_eq_true (by first | (with_reducible assumption) | assumption)
    have hx5 := bt_at a0 a1
    replace p5 := eq_true p5
    replace q5 := eq_true q5
    go_enter Try.func157, Try.ntmps157
    go_wp2_with (first | ((with_reducible refine gate_callee (f := 172) rfl ?_); refine goesL_ (some 15) rfl rfl Try.func172 (by kernel_rfl) rfl #[.int .u8 (bt a0 a1)] rfl (by (try simp only [List.map_toArray, List.map_cons, List.map_nil]); first | done | rfl | (simp only [List.length_drop, List.length_take]; rfl)) ?_; (with_reducible refine (impl_beginning.calls k (bt a0 a1) t648 t649 t650 t651 _ A6.out).mono ?_); rintro e w' ⟨rfl, ⟨nd, rfl⟩⟩; refine ⟨_, rfl, ?_⟩))
    go_loopg [7, 8, 9, 10] k (fun kq v7 v8 v9 v10 w' => ∃ (x7_1 : Int) (x8_1 : Int) (x9_1 : Int) (x10_1 : Int), v7 = .int .i64 x7_1 ∧ v8 = .int .u8 x8_1 ∧ v9 = .int .u8 x9_1 ∧ v10 = .int .i64 x10_1 ∧ Aside0 (impl_getSign.l0 kq a0 a1 t648 x7_1 x8_1 x9_1 x10_1 = some (r1, r2)) ∧ Aside0 (kq ≤ k) ∧ Drawn0 w w')
    case atStart => exact ⟨(t649), (t650), (t651), (1), (by first | rfl | (simp; done) | (simp [*]; done)), (by first | rfl | (simp; done) | (simp [*]; done)), (by first | rfl | (simp; done) | (simp [*]; done)), (by first | rfl | (simp; done) | (simp [*]; done)), H', ⟨Nat.le_refl _⟩, by repeat (first | exact Drawn0.refl _ | apply Drawn0.step)⟩
    case round =>
     clear H'
     try clear c1
     try clear p2
     try clear c3
     try clear c3b0
     try clear c4
     try clear c4b0
     try clear p5
     try clear q5
     try clear hx5
     try clear c7
     try clear c7b0
     try clear p5
     try clear q5
     obtain ⟨x7_1, x8_1, x9_1, x10_1, rfl, rfl, rfl, rfl, HA, HK1, ⟨m1, rfl⟩⟩ := hrel
     cases gk with
     | zero => exact absurd HA.out (by simp [impl_getSign.l0])
     | succ k1 =>
      have H := HA.out
      clear HA
      simp only [impl_getSign.l0] at H
      by_cases c8 : x10_1 ≤ t648
      ·rw [if_pos c8] at H
       have c8b0 : decide (x10_1 ≤ t648) = true := decide_eq_true c8
       clear c8
       by_cases c9 : (wrap64 (a1 + x10_1)) ≥ (a0.size : Int)
       ·rw [if_pos c9] at H
        have c9b0 : decide ((a0.size : Int) ≤ (wrap64 (a1 + x10_1))) = true := decide_eq_true c9
        clear c9
        simp only [Option.some.injEq, Prod.mk.injEq] at H
        obtain ⟨rfl, rfl⟩ := H
        go_wp2
        go_ret2
        exact ⟨by first | rfl | (simp; done) | (simp [*]; done), by repeat (first | exact Drawn0.refl _ | apply Drawn0.step)⟩
       ·rw [if_neg c9] at H
        have c9b0 : decide ((a0.size : Int) ≤ (wrap64 (a1 + x10_1))) = false := decide_eq_false c9
        clear c9
        obtain ⟨ji10, hji10⟩ : ∃ j_ : Int, (wrap64 (a1 + x10_1)) = j_ := ⟨_, rfl⟩
        replace H : (if 0 ≤ (ji10) then (if (ji10) < (a0.size : Int) then (if (bt a0 (ji10)) < x8_1 then (some (65533, x10_1)) else (if (bt a0 (ji10)) > x9_1 then (some (65533, x10_1)) else (impl_getSign.l0 k1 a0 a1 t648 (Go.bits .or .i64 (wrap64 (x7_1 * 64)) (wrap64 (Go.bits .and .u8 (bt a0 (ji10)) 63))) 128 191 (wrap64 (x10_1 + 1))))) else (none)) else (none)) = some (r1, r2) := by first | (rw [hji10] at H; exact H) | (simp only [hji10] at H ⊢; exact H)
        (try rw [hji10] at c9b0)
        have hji10w : (IntKind.i64.wrap (a1 + x10_1)) = ji10 := (i64_w _).trans hji10
        by_cases c11 : 0 ≤ (ji10)
        ·rw [if_pos c11] at H
         have c11b0 : decide (0 ≤ (ji10)) = true := decide_eq_true c11
         clear c11
         by_cases c12 : (ji10) < (a0.size : Int)
         ·rw [if_pos c12] at H
          have c12b0 : decide ((ji10) < (a0.size : Int)) = true := decide_eq_true c12
          clear c12
          by_cases c14 : (bt a0 (ji10)) < x8_1
          ·rw [if_pos c14] at H
           have c14b0 : decide ((bt a0 (ji10)) < x8_1) = true := decide_eq_true c14
           clear c14
           simp only [Option.some.injEq, Prod.mk.injEq] at H
           obtain ⟨rfl, rfl⟩ := H
           have p13 : 0 ≤ ((ji10) : Int) := of_decide_eq_true (by first | (with_reducible assumption) | assumption)
           have q13 : (ji10) < (a0.size : Int) := of_decide_eq_true (by first | (with_reducible assumption) | assumption)
           have hx13 := bt_at a0 (ji10)
           replace p13 := eq_true p13
           replace q13 := eq_true q13
           go_wp2
           go_ret2
           exact ⟨by first | rfl | (simp; done) | (simp only [← hji10] <;> (first | rfl | simp)) | (simp [*]; done), by repeat (first | exact Drawn0.refl _ | apply Drawn0.step)⟩
          ·rw [if_neg c14] at H
           have c14b0 : decide ((bt a0 (ji10)) < x8_1) = false := decide_eq_false c14
           clear c14
           by_cases c16 : (bt a0 (ji10)) > x9_1
           ·rw [if_pos c16] at H
            have c16b0 : decide (x9_1 < (bt a0 (ji10))) = true := decide_eq_true c16
            clear c16
            simp only [Option.some.injEq, Prod.mk.injEq] at H
            obtain ⟨rfl, rfl⟩ := H
            have p13 : 0 ≤ ((ji10) : Int) := of_decide_eq_true (by first | (with_reducible assumption) | assumption)
            have q13 : (ji10) < (a0.size : Int) := of_decide_eq_true (by first | (with_reducible assumption) | assumption)
            have hx13 := bt_at a0 (ji10)
            replace p13 := eq_true p13
            replace q13 := eq_true q13
            have p15 : 0 ≤ ((ji10) : Int) := of_decide_eq_true (by first | (with_reducible assumption) | assumption)
            have q15 : (ji10) < (a0.size : Int) := of_decide_eq_true (by first | (with_reducible assumption) | assumption)
            have hx15 := bt_at a0 (ji10)
            replace p15 := eq_true p15
            replace q15 := eq_true q15
            go_wp2
            go_ret2
            exact ⟨by first | rfl | (simp; done) | (simp only [← hji10] <;> (first | rfl | simp)) | (simp [*]; done), by repeat (first | exact Drawn0.refl _ | apply Drawn0.step)⟩
           ·rw [if_neg c16] at H
            have c16b0 : decide (x9_1 < (bt a0 (ji10))) = false := decide_eq_false c16
            clear c16
            have H' := Aside0.mk H
            clear H
            have p13 : 0 ≤ ((ji10) : Int) := of_decide_eq_true (by first | (with_reducible assumption) | assumption)
            have q13 : (ji10) < (a0.size : Int) := of_decide_eq_true (by first | (with_reducible assumption) | assumption)
            have hx13 := bt_at a0 (ji10)
            replace p13 := eq_true p13
            replace q13 := eq_true q13
            have p15 : 0 ≤ ((ji10) : Int) := of_decide_eq_true (by first | (with_reducible assumption) | assumption)
            have q15 : (ji10) < (a0.size : Int) := of_decide_eq_true (by first | (with_reducible assumption) | assumption)
            have hx15 := bt_at a0 (ji10)
            replace p15 := eq_true p15
            replace q15 := eq_true q15
            have p17 : 0 ≤ ((ji10) : Int) := of_decide_eq_true (by first | (with_reducible assumption) | assumption)
            have q17 : (ji10) < (a0.size : Int) := of_decide_eq_true (by first | (with_reducible assumption) | assumption)
            have hx17 := bt_at a0 (ji10)
            replace p17 := eq_true p17
            replace q17 := eq_true q17
            go_wp2
            go_roundg k1
            case measure => have := HK1.out; omega
            case rel => exact ⟨(Go.bits .or .i64 (wrap64 (x7_1 * 64)) (wrap64 (Go.bits .and .u8 (bt a0 (ji10)) 63))), (128), (191), (wrap64 (x10_1 + 1)), (by first | rfl | (simp; done) | (simp only [← hji10] <;> (first | rfl | simp)) | (simp [*]; done)), (by first | rfl | (simp; done) | (simp [*]; done)), (by first | rfl | (simp; done) | (simp [*]; done)), (by first | rfl | (simp; done) | (simp [*]; done)), H', ⟨by have := HK1.out; omega⟩, by repeat (first | exact Drawn0.refl _ | apply Drawn0.step)⟩
         ·rw [if_neg c12] at H
          exact absurd H (by simp)
        ·rw [if_neg c11] at H
         exact absurd H (by simp)
      ·rw [if_neg c8] at H
       have c8b0 : decide (x10_1 ≤ t648) = false := decide_eq_false c8
       clear c8
       simp only [Option.some.injEq, Prod.mk.injEq] at H
       obtain ⟨rfl, rfl⟩ := H
       go_wp2
       go_ret2
       exact ⟨by first | rfl | (simp; done) | (simp [*]; done), by repeat (first | exact Drawn0.refl _ | apply Drawn0.step)⟩
  ·rw [if_neg c4] at H
   exact absurd H (by simp)
 ·rw [if_neg c3] at H
  exact absurd H (by simp)
end Go.Proofs.Ytlocaaebgghkbaa.A
namespace Go.Proofs.Ytlocaaebgghkbaa.A
open Go.RowKit Go.Proofs.YtlocaaebgghkbaaW.PrintWords Go.Proofs.YtlocaaebgghkbaaW.PrintLast Go.Proofs.YtlocaaebgghkbaaW.PrintMore
attribute [local go_sem] max2_int min2_int max_two min_two max_three min_three max_four min_four   -- for this text's walks alone
set_option linter.unusedVariables false
set_option linter.unusedSimpArgs false
def impl_Signs.l0 : Nat → ByteArray → List Int → Int → Option (List Int)
 | 0, _, _, _ => none
 | k + 1, x0, x3, x4 => if x4 < (x0.size : Int) then ((impl_getSign.f k x0 x4).bind fun bt652 => (if x3.length < 17592186044416 then (impl_Signs.l0 k x0 (x3 ++ [bt652.1]) (wrap64 (x4 + bt652.2))) else (none))) else (some x3)
def impl_Signs.f (k : Nat) (a0 : ByteArray) : Option (List Int) := impl_Signs.l0 k a0 ([] : List Int) 0
theorem impl_Signs.mono_l : ∀ k, (∀ y0 y1 y2, LeO (impl_Signs.l0 k y0 y1 y2) (impl_Signs.l0 (k + 1) y0 y1 y2))
 | 0 => fun _ _ _ r h => by simp [impl_Signs.l0] at h
 | k + 1 => by
  have ih0 := impl_Signs.mono_l k
  ·intro y0 y1 y2
   unfold impl_Signs.l0
   repeat' first
   | (with_reducible exact ih0 _ _ _)
   | (with_reducible exact impl_getSign.mono _ _ _)
   | (with_reducible exact LeO.refl _)
   | (with_reducible exact LeO.none _)
   | (with_reducible refine LeO.ite ?_ ?_)
   | (with_reducible refine LeO.bind ?_ (fun _ => ?_))
   | exact ih0 _ _ _
   | exact impl_getSign.mono _ _ _
   | exact LeO.none _
   | refine LeO.ite ?_ ?_
   | refine LeO.bind ?_ (fun _ => ?_)
theorem impl_Signs.mono : ∀ a0 k, LeO (impl_Signs.f k a0) (impl_Signs.f (k + 1) a0) := by
 intro a0 k
 have ih0 := impl_Signs.mono_l k
 unfold impl_Signs.f
 repeat' first
   | (with_reducible exact ih0 _ _ _)
   | (with_reducible exact impl_getSign.mono _ _ _)
   | (with_reducible exact LeO.refl _)
   | (with_reducible exact LeO.none _)
   | (with_reducible refine LeO.ite ?_ ?_)
   | (with_reducible refine LeO.bind ?_ (fun _ => ?_))
   | exact ih0 _ _ _
   | exact impl_getSign.mono _ _ _
   | exact LeO.none _
   | refine LeO.ite ?_ ?_
   | refine LeO.bind ?_ (fun _ => ?_)
set_option maxHeartbeats 8000000 in
set_option maxRecDepth 100000 in
theorem impl_Signs.calls (k : Nat) (a0 : ByteArray) (r : List Int) (w : World) (h : impl_Signs.f k a0 = some r) :
  Calls Try.prog 122 #[.string a0] w fun e w' => ∃ v0_ : Value, e = .returned (v0_) ∧ Kd.R (Kd.int .i64) 3 w' w.heap.size (fun _ => True) v0_ r ∧ Below w.heap.size w w' := by
 have HB := Aside0.mk (Below.refl w.heap.size w)
 have H : (impl_Signs.l0 k a0 ([] : List Int) 0) = some r := h
 clear h
 have H' := Aside0.mk H
 clear H
 go_enter Try.func122, Try.ntmps122
 go_wp2
 go_loopg [3, 4] k (fun kq v3 v4 w' => ∃ (x3_1 : List Int) (x4_1 : Int), v4 = .int .i64 x4_1 ∧ Aside0 (impl_Signs.l0 kq a0 x3_1 x4_1 = some r) ∧ Aside0 (kq ≤ k) ∧ Aside0 (Kd.R (Kd.int .i64) 3 w' w.heap.size (fun _ => True) v3 x3_1) ∧ Aside0 (Below w.heap.size w w'))
 case atStart => exact ⟨(([] : List Int)), (0), (by first | rfl | (simp; done) | (simp [*]; done)), H', ⟨Nat.le_refl _⟩, ⟨by first | exact Kd.R_nil _ _ _ _ _ | exact Kd.N_nil _ _ _ _ _ | exact Kd.V_nil _ _ _ _ _ | exact Kd.Q_nil _ _ _ _ _ | exact Kd.S_nil _ _ _ _ _⟩, ⟨by repeat (first | (with_reducible first | exact HB.out | apply below_alloc | apply pw_below_drewN | apply below_drew1) | exact HB.out)⟩⟩
 case round =>
  clear H'
  try clear c1
  obtain ⟨x3_1, x4_1, rfl, HA, HK1, HO_3, HB⟩ := hrel
  cases gk with
  | zero => exact absurd HA.out (by simp [impl_Signs.l0])
  | succ k1 =>
   have H := HA.out
   clear HA
   simp only [impl_Signs.l0] at H
   by_cases c2 : x4_1 < (a0.size : Int)
   ·rw [if_pos c2] at H
    have c2b0 : decide (x4_1 < (a0.size : Int)) = true := decide_eq_true c2
    clear c2
    replace H := Option.bind_eq_some_iff.mp H
    obtain ⟨⟨t652, t653⟩, A30, H⟩ := H
    replace H : (if x3_1.length < 17592186044416 then (impl_Signs.l0 k1 a0 (x3_1 ++ [t652]) (wrap64 (x4_1 + t653))) else (none)) = some r := H
    have A3 := Aside0.mk A30
    clear A30
    by_cases c4 : x3_1.length < 17592186044416
    ·rw [if_pos c4] at H
     have LMc4 := Aside0.mk c4
     clear c4
     obtain ⟨y654, hy654⟩ : ∃ y_ : List Int, y_ = (x3_1 ++ [t652]) := ⟨_, rfl⟩
     replace H : (impl_Signs.l0 k1 a0 y654 (wrap64 (x4_1 + t653))) = some r := by first | (rw [hy654]; with_reducible exact H) | (have H2_ := (Option.bind_some _ _).symm.trans H; rw [hy654]; with_reducible exact H2_) | (have H2_ := (Option.bind_some _ _).symm.trans H; with_reducible exact H2_) | with_reducible exact H | (rw [hy654]; exact H) | exact H
     have Ny654 := Aside0.mk hy654
     clear hy654
     have H' := Aside0.mk H
     clear H
     go_wp2_with (first | ((with_reducible refine gate_callee (f := 157) rfl ?_); refine goesL_ (some 14) rfl rfl Try.func157 (by kernel_rfl) rfl #[.string a0, .int .i64 x4_1] rfl (by (try simp only [List.map_toArray, List.map_cons, List.map_nil]); first | done | rfl | (simp only [List.length_drop, List.length_take]; rfl)) ?_; (with_reducible refine (impl_getSign.calls k1 a0 x4_1 t652 t653 _ A3.out).mono ?_); rintro e w' ⟨rfl, ⟨nd, rfl⟩⟩; refine ⟨_, rfl, ?_⟩) | ((with_reducible refine gate_builtin (b := .append) (xs := #[.tmp 17, .tmp 19]) rfl ?_); at_builtin; refine Kd.R_append (Kd.int .i64) (w0 := w) w.heap.size rfl (.tmp 17) (.tmp 19) 84 3 (.int .i64 0) 8 rfl Try.underlying84 info3 rfl (by decide) (by omega) u3 x3_1 t652 [.int .i64 t652] (fun _ => True) (fun _ => False) rfl rfl ?aP (fun _ hk => hk.elim) ?aF ?aO ?aB ?aS ?aL ?_; (case aP => exact rfl); (case aB => exact (by repeat (first | (with_reducible first | exact HB.out | apply below_alloc | apply pw_below_drewN | apply below_drew1) | exact HB.out))); (case aF => exact (fun _ _ => trivial)); (case aO => exact (by (with_reducible repeat (first | apply Kd.R_alloc | apply Kd.R_drewN | apply Kd.R_drew)); exact HO_3.out)); (case aS => exact (below_size (by repeat (first | (with_reducible first | exact HB.out | apply below_alloc | apply pw_below_drewN | apply below_drew1) | exact HB.out)))); (case aL => have := LMc4.out; omega); intro v655 w5 ho hb hg hat; rw [← Ny654.out] at ho; have n0_ := Aside0.mk (hb); have n1_ := Aside0.mk (ho); clear HB; clear HO_3; have HB := n0_; have HO656 := n1_; clear n0_ n1_; clear ho hb hg hat))
     go_roundg k1
     case measure => have := HK1.out; omega
     case rel => exact ⟨(y654), (wrap64 (x4_1 + t653)), (by first | rfl | (simp; done) | (simp [*]; done)), H', ⟨by have := HK1.out; omega⟩, ⟨by (with_reducible repeat (first | apply Kd.R_alloc | apply Kd.R_drewN | apply Kd.R_drew)); exact HO656.out⟩, ⟨by repeat (first | (with_reducible first | exact HB.out | apply below_alloc | apply pw_below_drewN | apply below_drew1) | exact HB.out)⟩⟩
    ·rw [if_neg c4] at H
     exact absurd H (by simp)
   ·rw [if_neg c2] at H
    have c2b0 : decide (x4_1 < (a0.size : Int)) = false := decide_eq_false c2
    clear c2
    obtain rfl := Option.some.inj H
    go_wp2
    go_ret
    exact ⟨_, by first | rfl | (simp [errW_none, errW_some] <;> rfl) | (simp [*, errW_none, errW_some] <;> rfl), by (with_reducible repeat (first | apply Kd.R_alloc | apply Kd.R_drewN | apply Kd.R_drew)); exact HO_3.out, by repeat (first | (with_reducible first | exact HB.out | apply below_alloc | apply pw_below_drewN | apply below_drew1) | exact HB.out)⟩
end Go.Proofs.Ytlocaaebgghkbaa.A
namespace Go.Proofs.Ytlocaaebgghkbaa.A
open Go.RowKit Go.Proofs.YtlocaaebgghkbaaW.PrintWords Go.Proofs.YtlocaaebgghkbaaW.PrintLast Go.Proofs.YtlocaaebgghkbaaW.PrintMore
attribute [local go_sem] max2_int min2_int max_two min_two max_three min_three max_four min_four   -- for this text's walks alone
set_option linter.unusedVariables false
set_option linter.unusedSimpArgs false
def impl_IsText.f (a0 : Int) : Option (Bool) := if a0 = 9 then (some true) else (if a0 = 10 then (some true) else (if a0 = 13 then (some true) else ((impl_SignOk.f a0).bind fun t657 => (if t657 = true then (if a0 ≥ 32 then (if a0 = 65534 then (some false) else (some (a0 != 65535))) else (some false)) else (some false)))))
set_option maxHeartbeats 8000000 in
set_option maxRecDepth 100000 in
theorem impl_IsText.calls (a0 : Int) (r : Bool) (w : World) (h : impl_IsText.f a0 = some r) :
  Calls Try.prog 123 #[.int .i64 a0] w fun e w' => e = .returned (.bool r) ∧ Drawn0 w w' := by
 have H : (if a0 = 9 then (some true) else (if a0 = 10 then (some true) else (if a0 = 13 then (some true) else ((impl_SignOk.f a0).bind fun t657 => (if t657 = true then (if a0 ≥ 32 then (if a0 = 65534 then (some false) else (some (a0 != 65535))) else (some false)) else (some false)))))) = some r := h
 clear h
 by_cases c2 : a0 = 9
 ·rw [if_pos c2] at H
  have c2b0 : (a0 == 9) = true := beq_iff_eq.mpr c2
  have c2b1 : (a0 != 9) = false := bne_eq_false_iff_eq.mpr c2
  clear c2
  obtain rfl := Option.some.inj H
  go_enter Try.func123, Try.ntmps123
  go_wp2
  go_ret
  exact ⟨by first | rfl | (simp; done) | (simp [*]; done), by repeat (first | exact Drawn0.refl _ | apply Drawn0.step)⟩
 ·rw [if_neg c2] at H
  have c2b0 : (a0 == 9) = false := beq_eq_false_iff_ne.mpr c2
  have c2b1 : (a0 != 9) = true := bne_iff_ne.mpr c2
  by_cases c3 : a0 = 10
  ·rw [if_pos c3] at H
   have c3b0 : (a0 == 10) = true := beq_iff_eq.mpr c3
   have c3b1 : (a0 != 10) = false := bne_eq_false_iff_eq.mpr c3
   clear c3
   obtain rfl := Option.some.inj H
   go_enter Try.func123, Try.ntmps123
   go_wp2
   go_ret
   exact ⟨by first | rfl | (simp; done) | (simp [*]; done), by repeat (first | exact Drawn0.refl _ | apply Drawn0.step)⟩
  ·rw [if_neg c3] at H
   have c3b0 : (a0 == 10) = false := beq_eq_false_iff_ne.mpr c3
   have c3b1 : (a0 != 10) = true := bne_iff_ne.mpr c3
   by_cases c4 : a0 = 13
   ·rw [if_pos c4] at H
    have c4b0 : (a0 == 13) = true := beq_iff_eq.mpr c4
    have c4b1 : (a0 != 13) = false := bne_eq_false_iff_eq.mpr c4
    clear c4
    obtain rfl := Option.some.inj H
    go_enter Try.func123, Try.ntmps123
    go_wp2
    go_ret
    exact ⟨by first | rfl | (simp; done) | (simp [*]; done), by repeat (first | exact Drawn0.refl _ | apply Drawn0.step)⟩
   ·rw [if_neg c4] at H
    have c4b0 : (a0 == 13) = false := beq_eq_false_iff_ne.mpr c4
    have c4b1 : (a0 != 13) = true := bne_iff_ne.mpr c4
    replace H := Option.bind_eq_some_iff.mp H
    obtain ⟨t657, A50, H⟩ := H
    replace H : (if t657 = true then (if a0 ≥ 32 then (if a0 = 65534 then (some false) else (some (a0 != 65535))) else (some false)) else (some false)) = some r := H
    have A5 := Aside0.mk A50
    clear A50
    by_cases c6 : t657 = true
    ·subst c6
     have H1 : (if a0 ≥ 32 then (if a0 = 65534 then (some false) else (some (a0 != 65535))) else (some false)) = some r := by rw [if_pos rfl] at H; exact H
     clear H
     have H := H1
     clear H1
     by_cases c7 : a0 ≥ 32
     ·rw [if_pos c7] at H
      have c7b0 : decide (32 ≤ a0) = true := decide_eq_true c7
      clear c7
      by_cases c8 : a0 = 65534
      ·rw [if_pos c8] at H
       have c8b0 : (a0 == 65534) = true := beq_iff_eq.mpr c8
       have c8b1 : (a0 != 65534) = false := bne_eq_false_iff_eq.mpr c8
       clear c8
       obtain rfl := Option.some.inj H
       go_enter Try.func123, Try.ntmps123
       go_wp2_with (first | ((with_reducible refine gate_callee (f := 158) rfl ?_); refine goesL_ (some 14) rfl rfl Try.func158 (by kernel_rfl) rfl #[.int .i64 a0] rfl (by (try simp only [List.map_toArray, List.map_cons, List.map_nil]); first | done | rfl | (simp only [List.length_drop, List.length_take]; rfl)) ?_; (with_reducible refine (impl_SignOk.calls a0 true _ A5.out).mono ?_); rintro e w' ⟨rfl, ⟨nd, rfl⟩⟩; refine ⟨_, rfl, ?_⟩))
       go_ret
       exact ⟨by first | rfl | (simp; done) | (simp [*]; done), by repeat (first | exact Drawn0.refl _ | apply Drawn0.step)⟩
      ·rw [if_neg c8] at H
       have c8b0 : (a0 == 65534) = false := beq_eq_false_iff_ne.mpr c8
       have c8b1 : (a0 != 65534) = true := bne_iff_ne.mpr c8
       obtain rfl := Option.some.inj H
       go_enter Try.func123, Try.ntmps123
       go_wp2_with (first | ((with_reducible refine gate_callee (f := 158) rfl ?_); refine goesL_ (some 14) rfl rfl Try.func158 (by kernel_rfl) rfl #[.int .i64 a0] rfl (by (try simp only [List.map_toArray, List.map_cons, List.map_nil]); first | done | rfl | (simp only [List.length_drop, List.length_take]; rfl)) ?_; (with_reducible refine (impl_SignOk.calls a0 true _ A5.out).mono ?_); rintro e w' ⟨rfl, ⟨nd, rfl⟩⟩; refine ⟨_, rfl, ?_⟩))
       go_ret
       exact ⟨by first | rfl | (simp; done) | (simp [*]; done), by repeat (first | exact Drawn0.refl _ | apply Drawn0.step)⟩
     ·rw [if_neg c7] at H
      have c7b0 : decide (32 ≤ a0) = false := decide_eq_false c7
      clear c7
      obtain rfl := Option.some.inj H
      go_enter Try.func123, Try.ntmps123
      go_wp2_with (first | ((with_reducible refine gate_callee (f := 158) rfl ?_); refine goesL_ (some 14) rfl rfl Try.func158 (by kernel_rfl) rfl #[.int .i64 a0] rfl (by (try simp only [List.map_toArray, List.map_cons, List.map_nil]); first | done | rfl | (simp only [List.length_drop, List.length_take]; rfl)) ?_; (with_reducible refine (impl_SignOk.calls a0 true _ A5.out).mono ?_); rintro e w' ⟨rfl, ⟨nd, rfl⟩⟩; refine ⟨_, rfl, ?_⟩))
      go_ret
      exact ⟨by first | rfl | (simp; done) | (simp [*]; done), by repeat (first | exact Drawn0.refl _ | apply Drawn0.step)⟩
    ·replace c6 := Bool.eq_false_iff.mpr c6
     subst c6
     have H1 : (some false) = some r := by rw [if_neg (show ¬ (false = true) by decide)] at H; exact H
     clear H
     have H := H1
     clear H1
     obtain rfl := Option.some.inj H
     go_enter Try.func123, Try.ntmps123
     go_wp2_with (first | ((with_reducible refine gate_callee (f := 158) rfl ?_); refine goesL_ (some 14) rfl rfl Try.func158 (by kernel_rfl) rfl #[.int .i64 a0] rfl (by (try simp only [List.map_toArray, List.map_cons, List.map_nil]); first | done | rfl | (simp only [List.length_drop, List.length_take]; rfl)) ?_; (with_reducible refine (impl_SignOk.calls a0 false _ A5.out).mono ?_); rintro e w' ⟨rfl, ⟨nd, rfl⟩⟩; refine ⟨_, rfl, ?_⟩))
     go_ret
     exact ⟨by first | rfl | (simp; done) | (simp [*]; done), by repeat (first | exact Drawn0.refl _ | apply Drawn0.step)⟩
end Go.Proofs.Ytlocaaebgghkbaa.A
namespace Go.Proofs.Ytlocaaebgghkbaa.A
open Go.RowKit Go.Proofs.YtlocaaebgghkbaaW.PrintWords Go.Proofs.YtlocaaebgghkbaaW.PrintLast Go.Proofs.YtlocaaebgghkbaaW.PrintMore
attribute [local go_sem] max2_int min2_int max_two min_two max_three min_three max_four min_four   -- for this text's walks alone
set_option linter.unusedVariables false
set_option linter.unusedSimpArgs false
def isT (n : Int) : Bool := (impl_IsText.f n).getD false
theorem inRange_ex (n a b : Int) : ∃ t, impl_inRange.f n a b = some t := by
 unfold impl_inRange.f
 split <;> exact ⟨_, rfl⟩
theorem signOk_ex (n : Int) : ∃ t, impl_SignOk.f n = some t := by
 obtain ⟨b1, h1⟩ := inRange_ex n 0 1114111
 obtain ⟨b2, h2⟩ := inRange_ex n 55296 57343
 unfold impl_SignOk.f
 rw [h1, Option.bind_some]
 split
 ·rw [h2]; exact ⟨_, rfl⟩
 ·exact ⟨_, rfl⟩
theorem isT_f (n : Int) : impl_IsText.f n = some (isT n) := by
 have : ∃ b, impl_IsText.f n = some b := by
  obtain ⟨b1, h1⟩ := signOk_ex n
  unfold impl_IsText.f
  rw [h1, Option.bind_some]
  repeat' split
  all_goals exact ⟨_, rfl⟩
 obtain ⟨b, hb⟩ := this
 unfold isT
 rw [hb]
 rfl
def fxN (n : Int) : Int := if n = 12 then 32 else if isT n = true then n else 65533
def curF (l : List Int) (j : Nat) : List Int := (l.take j).map fxN ++ l.drop j
theorem curF_len (l : List Int) (j : Nat) : (curF l j).length = l.length := by
 unfold curF
 rw [List.length_append, List.length_map, List.length_take, List.length_drop]
 omega
theorem curF_end (l : List Int) : curF l l.length = l.map fxN := by simp [curF]
theorem curF_rd (l : List Int) (j : Nat) (h : j < l.length) : rd (curF l j) j = rd l j := by
 unfold rd curF
 simp [List.getD_eq_getElem?_getD, List.getElem?_append, h, Nat.min_eq_left (Nat.le_of_lt h)]
theorem curF_set (l : List Int) (j : Nat) (h : j < l.length) : (curF l j).set j (fxN (rd l j)) = curF l (j + 1) := by
 unfold curF
 rw [List.drop_eq_getElem_cons h, List.take_succ_eq_append_getElem h, List.map_append, List.set_append_right _ _ (by simp [Nat.min_eq_left (Nat.le_of_lt h)])]
 have : rd l j = l[j] := by simp [rd, List.getD_eq_getElem?_getD, List.getElem?_eq_getElem h]
 have hz : j - ((l.take j).map fxN).length = 0 := by rw [List.length_map, List.length_take]; omega
 rw [this, hz, List.set_cons_zero, List.append_assoc]
 rfl
theorem curF_same (l : List Int) (j : Nat) (h : j < l.length) (he : fxN (rd l j) = rd l j) : curF l j = curF l (j + 1) := by
 have h1 : rd l j = l[j] := by simp [rd, List.getD_eq_getElem?_getD, List.getElem?_eq_getElem h]
 unfold curF
 rw [List.drop_eq_getElem_cons h, List.take_succ_eq_append_getElem h, List.map_append]
 rw [h1] at he
 simp [he]
def impl_TextOf.f (k : Nat) (a0 : ByteArray) : Option ByteArray := (impl_Signs.f k a0).bind fun l => impl_SignText.f k (l.map fxN)
theorem impl_TextOf.mono : ∀ a0 k, LeO (impl_TextOf.f k a0) (impl_TextOf.f (k + 1) a0) := fun a0 k => LeO.bind (impl_Signs.mono a0 k) (fun _ => impl_SignText.mono _ k)
set_option maxHeartbeats 2000000 in
set_option maxRecDepth 100000 in
theorem impl_TextOf.calls (k : Nat) (a0 : ByteArray) (r : ByteArray) (w : World) (h : impl_TextOf.f k a0 = some r) :
  Calls Try.prog 86 #[.string a0] w fun e w' => e = .returned (.string r) ∧ Below w.heap.size w w' := by
 unfold impl_TextOf.f at h
 obtain ⟨l, hS, hT⟩ := Option.bind_eq_some_iff.mp h
 have HS := Aside0.mk hS
 have HT := Aside0.mk hT
 clear h hS hT
 go_enter Try.func86, Try.ntmps86
 go_wp2_with (go_at_call 122; (with_reducible refine (impl_Signs.calls k a0 l _ HS.out).mono ?_); rintro e w2 ⟨v, rfl, ho, hb⟩; obtain ⟨Ao, co, rfl⟩ := Kd.R_slice ho; have HO := Aside0.mk ho; have HB := Aside0.mk hb; clear ho hb)
 have HKM := Aside0.mk (Kd.C_max (Kd.R_reads' HO.out).2.2)
 go_loopg [10] l.length (fun kq v10 wr => ∃ (j : Int), v10 = .int .i64 j ∧ 0 ≤ j ∧ j ≤ (l.length : Int) ∧ Aside0 (kq = l.length - j.toNat) ∧ Aside0 (Kd.R (Kd.int .i64) 3 wr w.heap.size (fun _ => True) (.slice Ao l.length co) (curF l j.toNat)) ∧ Aside0 (Below w.heap.size w wr))
 case atStart => exact ⟨0, rfl, Int.le_refl _, by omega, ⟨rfl⟩, HO, HB⟩
 case round =>
  clear HO HB
  obtain ⟨j, rfl, j0, hj, HE, HO, HB⟩ := hrel
  have hkm := HKM.out
  by_cases hlt : j < (l.length : Int)
  ·have hjn : j.toNat < l.length := by omega
   have HRD := Aside0.mk (curF_rd l j.toNat hjn)
   have HST := Aside0.mk (curF_set l j.toNat hjn)
   have HSM := Aside0.mk (curF_same l j.toNat hjn)
   have HCL := Aside0.mk (curF_len l j.toNat)
   rw [show ((j.toNat : Nat) : Int) = j by omega] at HRD HST HSM
   generalize hcur : curF l j.toNat = cur at HO HRD HST HSM HCL
   generalize hn : rd l j = n at HRD HST HSM
   have hwr : wrap64 (j + 1) = j + 1 := by unfold wrap64; omega
   have hlc := HCL.out
   rw [← hlc] at HO
   clear hcur hn hjn hkm
   have hlq : j < (cur.length : Int) := by omega
   have p7 := eq_true j0
   have q7 := eq_true hlt
   have q8 := eq_true hlq
   by_cases h12 : n = 12
   ·have h12b : (n == 12) = true := beq_iff_eq.mpr h12
    obtain ⟨ad, e632, hx632⟩ := Kd.at_int (Kd.R_reads' HO.out).2.2 j j0 (by rw [← HCL.out] at hlt; exact hlt)
    cases e632
    obtain ⟨go7, co7, eo7, gb7, gl7, cl7, HG7⟩ := Kd.R_form HO.out (by have := HCL.out; omega)
    (first | cases eo7 | (injection eo7 with ea_ en_ ec_; (first | subst ea_ | (injection ea_ with ea_; subst ea_)); subst ec_; clear en_))
    have GB7 := Aside0.mk gb7
    clear gb7 gl7 cl7 HG7
    (first | simp only [add_plain] at hx632 | skip)
    obtain ⟨hx7, hf7⟩ := Kd.R_celln 0 HO.out (j : Int) j0 (by have := HCL.out; omega)
    rw [HRD.out] at hx632
    have HP9 := Kd.R_putg HO.out (j : Int) 32
    go_wp2_with (first | ((with_reducible refine gate_store (t := 3) (p := 20) rfl ?_); refine store_event (t := 3) (p := 20) (v := ?vo20) (w1 := (wr.setCell ⟨go7, (j : Int).toNat, none⟩ (.int .i64 32))) ?hg ?ho ?hn ?hr ?_; (case ho => rfl); (case hg => rfl); (case hn => rfl); (case hr => first | (go_simp; done) | (go_simp; rfl)); intro w10 hw; have HO5 := Aside0.mk (show Kd.R (Kd.int .i64) 3 w10 w.heap.size (fun _ => True) (.slice (some ⟨go7, 0, none⟩) cur.length co) (cur.set j.toNat 32) from by rw [hw]; exact HP9.1); have HB5 := Aside0.mk ((by rw [hw]; exact below_set HB.out GB7.out : Below w.heap.size w w10)); clear HP9 hw))
    go_roundg (l.length - (j + 1).toNat)
    case measure => have := HE.out; omega
    case rel => exact ⟨j + 1, by rw [hwr], by omega, by omega, ⟨rfl⟩, ⟨by rw [show (j + 1).toNat = j.toNat + 1 by omega, ← HST.out, ← hlc]; simpa [fxN, h12] using HO5.out⟩, HB5⟩
   ·have h12b : (n == 12) = false := beq_eq_false_iff_ne.mpr h12
    by_cases ht : isT n = true
    ·have HIT : Aside0 (impl_IsText.f n = some true) := ⟨by rw [isT_f, ht]⟩
     have hfx : fxN n = n := by unfold fxN; rw [if_neg h12, if_pos ht]
     have HSE := Aside0.mk (HSM.out hfx)
     clear hfx
     obtain ⟨ad, e632, hx632⟩ := Kd.at_int (Kd.R_reads' HO.out).2.2 j j0 (by rw [← HCL.out] at hlt; exact hlt)
     cases e632
     obtain ⟨go7, co7, eo7, gb7, gl7, cl7, HG7⟩ := Kd.R_form HO.out (by have := HCL.out; omega)
     (first | cases eo7 | (injection eo7 with ea_ en_ ec_; (first | subst ea_ | (injection ea_ with ea_; subst ea_)); subst ec_; clear en_))
     have GB7 := Aside0.mk gb7
     clear gb7 gl7 cl7 HG7
     (first | simp only [add_plain] at hx632 | skip)
     obtain ⟨hx7, hf7⟩ := Kd.R_celln 0 HO.out (j : Int) j0 (by have := HCL.out; omega)
     rw [HRD.out] at hx632
     go_wp2_with (first | (go_at_call 123; (with_reducible refine (impl_IsText.calls n true _ HIT.out).mono ?_); rintro e w4 ⟨rfl, hd⟩; have HB5 := Aside0.mk (below_step HB.out hd.below); have HO5 := Aside0.mk (Kd.R_below HO.out hd.below); clear hd))
     go_roundg (l.length - (j + 1).toNat)
     case measure => have := HE.out; omega
     case rel => exact ⟨j + 1, by rw [hwr], by omega, by omega, ⟨rfl⟩, ⟨by rw [show (j + 1).toNat = j.toNat + 1 by omega, ← HSE.out, ← hlc]; exact HO5.out⟩, HB5⟩
    ·have htf : isT n = false := by simpa using ht
     have HIT : Aside0 (impl_IsText.f n = some false) := ⟨by rw [isT_f, htf]⟩
     have hfx : fxN n = 65533 := by unfold fxN; rw [if_neg h12, if_neg ht]
     rw [hfx] at HST
     clear hfx
     obtain ⟨ad, e632, hx632⟩ := Kd.at_int (Kd.R_reads' HO.out).2.2 j j0 (by rw [← HCL.out] at hlt; exact hlt)
     cases e632
     obtain ⟨go7, co7, eo7, gb7, gl7, cl7, HG7⟩ := Kd.R_form HO.out (by have := HCL.out; omega)
     (first | cases eo7 | (injection eo7 with ea_ en_ ec_; (first | subst ea_ | (injection ea_ with ea_; subst ea_)); subst ec_; clear en_))
     have GB7 := Aside0.mk gb7
     clear gb7 gl7 cl7 HG7
     (first | simp only [add_plain] at hx632 | skip)
     obtain ⟨hx7, hf7⟩ := Kd.R_celln 0 HO.out (j : Int) j0 (by have := HCL.out; omega)
     rw [HRD.out] at hx632
     clear hx7 hf7
     go_wp2_with (first | (go_at_call 123; ( (with_reducible refine (impl_IsText.calls n false _ HIT.out).mono ?_); rintro e w4 ⟨rfl, hd⟩; have HB4 := Aside0.mk (below_step HB.out hd.below); have HO4 := Aside0.mk (Kd.R_below HO.out hd.below); clear hd; obtain ⟨hx7, hf7⟩ := Kd.R_celln 0 HO4.out (j : Int) j0 (by have := HCL.out; omega); have HP9 := Kd.R_putg HO4.out (j : Int) 65533)) | ((with_reducible refine gate_store (t := 3) (p := 27) rfl ?_); refine store_event (t := 3) (p := 27) (v := ?vo27) (w1 := (w4.setCell ⟨go7, (j : Int).toNat, none⟩ (.int .i64 65533))) ?hg ?ho ?hn ?hr ?_; (case ho => rfl); (case hg => rfl); (case hn => rfl); (case hr => first | (go_simp; done) | (go_simp; rfl)); intro w10 hw; have HO5 := Aside0.mk (show Kd.R (Kd.int .i64) 3 w10 w.heap.size (fun _ => True) (.slice (some ⟨go7, 0, none⟩) cur.length co) (cur.set j.toNat 65533) from by rw [hw]; exact HP9.1); have HB5 := Aside0.mk ((by rw [hw]; exact below_set HB4.out GB7.out : Below w.heap.size w w10)); clear HP9 hw))
     go_roundg (l.length - (j + 1).toNat)
     case measure => have := HE.out; omega
     case rel => exact ⟨j + 1, by rw [hwr], by omega, by omega, ⟨rfl⟩, ⟨by rw [show (j + 1).toNat = j.toNat + 1 by omega, ← HST.out, ← hlc]; exact HO5.out⟩, HB5⟩
  ·have hje : j.toNat = l.length := by omega
   have HO2 := HO.out
   rw [hje, curF_end] at HO2
   obtain ⟨m, hm⟩ : ∃ m, m = l.map fxN := ⟨_, rfl⟩
   have hlm : l.length = m.length := by rw [hm, List.length_map]
   have HT2 := HT.out
   rw [← hm] at HT2 HO2
   rw [hlm] at HO2
   have HT3 := Aside0.mk HT2
   have HO3 := Aside0.mk (Kd.R_reads' HO2).2.2
   have HLE := Aside0.mk (Kd.R_reads' HO2).2.1
   clear HO2 hje HT2 HT hm HE
   rw [hlm]
   have hjm : ¬ (j < (m.length : Int)) := by omega
   clear hlt hj hlm hkm HKM HO HS
   go_wp2_with (first | (go_at_call 124; (with_reducible refine (impl_SignText.calls k _ _ m r _ HO3.out HLE.out HT3.out).mono ?_); rintro e w4 ⟨rfl, hb⟩; have HB5 := Aside0.mk (below_step HB.out hb); clear hb))
   go_ret
   exact ⟨rfl, HB5.out⟩
end Go.Proofs.Ytlocaaebgghkbaa.A
namespace Go.Proofs.Ytlocaaebgghkbaa.A
open Go.RowKit Go.Proofs.YtlocaaebgghkbaaW.PrintWords Go.Proofs.YtlocaaebgghkbaaW.PrintLast Go.Proofs.YtlocaaebgghkbaaW.PrintMore
attribute [local go_sem] max2_int min2_int max_two min_two max_three min_three max_four min_four   -- for this text's walks alone
set_option linter.unusedVariables false
set_option linter.unusedSimpArgs false
def txsF (ps : ByteArray → Option ByteArray) (l : List S89) : List Int → List UInt8 → Option ByteArray
 | [], o => some ⟨o.toArray⟩
 | i :: r, o => if 0 ≤ i ∧ i < (l.length : Int) then (if (rd_T89 l i).f0 = 3 ∧ (rd_T89 l i).f5 ≠ 0 then (ps (rd_T89 l i).f4).bind fun t => if o.length + t.size ≤ 140737488355327 then txsF ps l r (o ++ t.data.toList) else none else txsF ps l r o) else none
theorem txsF_mono {ps qs : ByteArray → Option ByteArray} (h : ∀ n, LeO (ps n) (qs n)) (l : List S89) : ∀ r o, LeO (txsF ps l r o) (txsF qs l r o)
 | [], o => LeO.refl _
 | i :: r, o => by
  rw [txsF, txsF]
  exact LeO.ite (LeO.ite (LeO.bind (h _) (fun t => LeO.ite (txsF_mono h l r _) (LeO.refl _))) (txsF_mono h l r _)) (LeO.refl _)
def impl_TextsOf.f (k : Nat) (l0 : List S89) : Option ByteArray := (impl_Order.f k l0).bind fun ord => txsF (impl_TextOf.f k) l0 ord []
theorem impl_TextsOf.mono : ∀ a0 k, LeO (impl_TextsOf.f k a0) (impl_TextsOf.f (k + 1) a0) := fun a0 k => LeO.bind (impl_Order.mono a0 k) (fun _ => txsF_mono (fun n => impl_TextOf.mono n k) a0 _ _)
theorem row_okp {w w' : World} {base B b : Nat} {bs : List Value} {v : Value} {xs : List Int} (h : Kd.R (Kd.int .i64) 3 w base (fun _ => True) v xs) (hb : Bld B b bs w) (hk : Okp b w w') : Kd.R (Kd.int .i64) 3 w' base (fun _ => True) v xs := by
 have hbk : ∃ p v, w.heap[b]? = some (.cells #[p, v] 72 (0, 0)) := by
  rcases hb with ⟨_, v, hc, _⟩ | ⟨_, v, hc, _⟩
  ·exact ⟨_, v, hc⟩
  ·exact ⟨_, v, hc⟩
 obtain ⟨p, v', hbk⟩ := hbk
 refine Kd.R_mono (Kd.R_move (Kd.R_bound h) (fun k hk' => ?_)) (fun _ _ => trivial)
 obtain ⟨_, _, _, q, hq, cells, hc⟩ := hk'
 have hq' : q = 3 := by simpa [Kd.int, Kd.scalar] using hq
 subst hq'
 rw [hc]
 refine hk k _ hc ?_ ?_
 ·intro e
  obtain rfl := Option.some.inj e
  rw [hc] at hbk
  injection hbk with e1
  injection e1 with _ e2
  exact absurd e2 (by decide)
 ·intro c fz e1
  injection e1 with _ e2
  exact absurd e2 (by decide)
set_option maxHeartbeats 4000000 in
set_option maxRecDepth 100000 in
theorem impl_TextsOf.calls (k : Nat) (A0 : Option Addr) (c0 : Nat) (l0 : List S89) (r : ByteArray) (w : World) (hr0 : Kd.C k89 w A0 l0.length l0) (hc0 : l0.length ≤ c0) (h : impl_TextsOf.f k l0 = some r) :
  Calls Try.prog 30 #[.slice A0 l0.length c0] w fun e w' => e = .returned (.string r) ∧ Below w.heap.size w w' := by
 unfold impl_TextsOf.f at h
 obtain ⟨ord, hO, h⟩ := Option.bind_eq_some_iff.mp h
 have HH : Aside0 (txsF (impl_TextOf.f k) l0 (ord.drop (0 : Int).toNat) [] = some r) := ⟨h⟩
 have HOR := Aside0.mk hO
 have HR := Aside0.mk hr0
 have HC := Aside0.mk hc0
 clear h hO hr0 hc0
 have hub := Try.underlying72
 have hu := Try.underlying89
 have HN := Aside0.mk (bld_new w)
 have HB := Aside0.mk (below_alloc (Below.refl _ _) (.cells #[.pointer none, .slice none 0 0] 72 (0, 0)) : Below w.heap.size w _)
 go_enter Try.func30, Try.ntmps30
 go_wp2_with (first | (go_at_call 85; (with_reducible refine (impl_Order.calls k _ _ l0 ord _ (Kd.C_below HR.out HB.out) HC.out HOR.out).mono ?_); rintro e w2 ⟨v, rfl, ho, hb⟩; obtain ⟨Ao, co, rfl⟩ := Kd.R_slice ho; have HO := Aside0.mk (Kd.R_lower ho (below_size HB.out)); have HB2 := Aside0.mk (below_step HB.out hb); have HN2 := Aside0.mk (bld_below HN.out hb); clear ho hb))
 have HKM := Aside0.mk (Kd.C_max (Kd.R_reads' HO.out).2.2)
 go_loopg [9] ord.length (fun kq v9 wr => ∃ (out : List UInt8) (j : Int), v9 = .int .i64 j ∧ 0 ≤ j ∧ j ≤ (ord.length : Int) ∧ Aside0 (kq = ord.length - j.toNat) ∧ Aside0 (txsF (impl_TextOf.f k) l0 (ord.drop j.toNat) out = some r) ∧ Aside0 (Kd.R (Kd.int .i64) 3 wr w.heap.size (fun _ => True) (.slice Ao ord.length co) ord) ∧ Aside0 (Bld w.heap.size w.heap.size (Lib.byteCells out) wr) ∧ Aside0 (Below w.heap.size w wr))
 case atStart => exact ⟨[], 0, rfl, Int.le_refl _, by omega, ⟨rfl⟩, HH, HO, HN2, HB2⟩
 case round =>
  clear HH HN HB HB2 HN2 HO
  obtain ⟨out, j, rfl, j0, hj, HE, HG, HO, HN, HB⟩ := hrel
  have hkm := HKM.out
  by_cases hlt : j < (ord.length : Int)
  ·obtain ⟨ao, eA, y0⟩ := Kd.at_int (Kd.R_reads' HO.out).2.2 j j0 hlt
   subst eA
   have h := HG.out
   rw [drop_rd ord j j0 hlt, txsF] at h
   generalize rd ord j = i at y0 h
   have hwr : wrap64 (j + 1) = j + 1 := by unfold wrap64; omega
   have p7 := eq_true j0
   have q7 := eq_true hlt
   by_cases hi : 0 ≤ i ∧ i < (l0.length : Int)
   ·rw [if_pos hi] at h
    obtain ⟨i0, i1⟩ := hi
    obtain ⟨ad, A3', c3', A6', c6', eA, x0, x1, x2, x3, x4, x5, x6, l3, g3, l6, g6⟩ := at_T89 HR.out i i0 i1
    subst eA
    replace x0 := (HB.out.cell (World.block_lt_of_cell? w _ x0)).trans x0
    replace x4 := (HB.out.cell (World.block_lt_of_cell? w _ x4)).trans x4
    replace x5 := (HB.out.cell (World.block_lt_of_cell? w _ x5)).trans x5
    clear x1 x2 x3 x6 l3 g3 l6 g6 hkm HG
    generalize rd_T89 l0 i = it at h x0 x4 x5
    have p8 := eq_true i0
    have q8 := eq_true i1
    by_cases h3 : it.f0 = 3
    ·have h3b : (it.f0 == 3) = true := beq_iff_eq.mpr h3
     by_cases h5 : it.f5 = 0
     ·rw [if_neg (fun hh => hh.2 h5)] at h
      have h5b : (it.f5 != 0) = false := bne_eq_false_iff_eq.mpr h5
      have HG2 := Aside0.mk h
      clear h
      go_wp2
      go_roundg (ord.length - (j + 1).toNat)
      case measure => have := HE.out; omega
      case rel => exact ⟨out, j + 1, by rw [hwr], by omega, by omega, ⟨rfl⟩, HG2, HO, HN, HB⟩
     ·rw [if_pos ⟨h3, h5⟩] at h
      have h5b : (it.f5 != 0) = true := bne_iff_ne.mpr h5
      obtain ⟨t, hP, h⟩ := Option.bind_eq_some_iff.mp h
      have hl : out.length + t.size ≤ 140737488355327 := by
       by_cases hl : out.length + t.size ≤ 140737488355327
       ·exact hl
       ·rw [if_neg hl] at h; cases h
      rw [if_pos hl] at h
      have HG2 := Aside0.mk h
      have HP := Aside0.mk hP
      have HL := Aside0.mk hl
      clear h hP hl
      go_wp2_with (first | (go_at_call 80; (with_reducible refine (bld_str w.heap.size w.heap.size (Lib.byteCells out) t _ HN4.out (by rw [byteCells_len]; have := HL.out; omega) HB4.out.size).mono ?_); rintro e w5 ⟨rfl, ho, hb, hk⟩; have HN5 := Aside0.mk ho; have HB5 := Aside0.mk (HB4.out.trans hb); have HO5 := Aside0.mk (row_okp HO4.out HN4.out hk); clear ho hb hk) | (go_at_call 86; (with_reducible refine (impl_TextOf.calls k it.f4 t _ HP.out).mono ?_); rintro e w4 ⟨rfl, hb⟩; have HB4 := Aside0.mk (below_step HB.out hb); have HN4 := Aside0.mk (bld_below HN.out hb); have HO4 := Aside0.mk (Kd.R_below HO.out hb); clear hb))
      go_roundg (ord.length - (j + 1).toNat)
      case measure => have := HE.out; omega
      case rel => exact ⟨_, j + 1, by rw [hwr], by omega, by omega, ⟨rfl⟩, HG2, HO5, ⟨by rw [byteCells_append, ← strCells_bytes]; exact HN5.out⟩, HB5⟩
    ·rw [if_neg (fun hh => h3 hh.1)] at h
     have h3b : (it.f0 == 3) = false := beq_eq_false_iff_ne.mpr h3
     have HG2 := Aside0.mk h
     clear h
     go_wp2
     go_roundg (ord.length - (j + 1).toNat)
     case measure => have := HE.out; omega
     case rel => exact ⟨out, j + 1, by rw [hwr], by omega, by omega, ⟨rfl⟩, HG2, HO, HN, HB⟩
   ·rw [if_neg hi] at h; cases h
  ·have h := HG.out
   rw [List.drop_eq_nil_of_le (by omega), txsF] at h
   obtain rfl := Option.some.inj h
   clear h HG
   go_wp2_with (first | (go_at_call 57; (with_reducible refine (bld_string w.heap.size w.heap.size out _ HN.out HB.out.size).mono ?_); rintro e w5 ⟨rfl, hb, hk⟩; have HB5 := Aside0.mk (HB.out.trans hb); clear hb hk))
   go_ret
   exact ⟨rfl, HB5.out⟩
end Go.Proofs.Ytlocaaebgghkbaa.A
namespace Go.Proofs.Ytlocaaebgghkbaa.A
open Go.RowKit Go.Proofs.YtlocaaebgghkbaaW.PrintWords Go.Proofs.YtlocaaebgghkbaaW.PrintLast Go.Proofs.YtlocaaebgghkbaaW.PrintMore
attribute [local go_sem] max2_int min2_int max_two min_two max_three min_three max_four min_four   -- for this text's walks alone
set_option linter.unusedVariables false
set_option linter.unusedSimpArgs false
def laws_FnExactTextsOf.f (k : Nat) (l0 : List (S86)) : Option (Bool) := (laws_szItemS.f k l0 1048576).bind fun t658 => (if t658 < 0 then (some true) else ((laws_toItemS.f k l0).bind fun t659 => ((spec_TextsOf.f k t659).bind fun t662 => ((laws_toItemS.f k l0).bind fun t663 => ((impl_TextsOf.f k t663).bind fun t666 => (if t666.toList = t662.toList then ((laws_toItemS.f k l0).bind fun t667 => ((laws_eqItemS.f k t663 t667).bind fun t670 => (if t670 = true then (some true) else (some false)))) else (some false)))))))
theorem laws_FnExactTextsOf.mono : ∀ a0 k, LeO (laws_FnExactTextsOf.f k a0) (laws_FnExactTextsOf.f (k + 1) a0) := by
 intro a0 k
 unfold laws_FnExactTextsOf.f
 repeat' first
   | (with_reducible exact impl_TextsOf.mono _ _)
   | (with_reducible exact laws_eqItemS.mono _ _ _)
   | (with_reducible exact laws_szItemS.mono _ _ _)
   | (with_reducible exact laws_toItemS.mono _ _)
   | (with_reducible exact spec_TextsOf.mono _ _)
   | (with_reducible exact LeO.refl _)
   | (with_reducible exact LeO.none _)
   | (with_reducible refine LeO.ite ?_ ?_)
   | (with_reducible refine LeO.bind ?_ (fun _ => ?_))
   | exact impl_TextsOf.mono _ _
   | exact laws_eqItemS.mono _ _ _
   | exact laws_szItemS.mono _ _ _
   | exact laws_toItemS.mono _ _
   | exact spec_TextsOf.mono _ _
   | exact LeO.none _
   | refine LeO.ite ?_ ?_
   | refine LeO.bind ?_ (fun _ => ?_)
set_option maxHeartbeats 8000000 in
set_option maxRecDepth 100000 in
theorem laws_FnExactTextsOf.calls (k : Nat) (A0 : Option Addr) (c0 : Nat) (l0 : List (S86)) (r : Bool) (w : World) (hr0 : Kd.C k86 w A0 l0.length l0) (hc0 : l0.length ≤ c0) (h : laws_FnExactTextsOf.f k l0 = some r) :
  Calls Try.prog 8 #[.slice A0 l0.length c0] w fun e w' => e = .returned (.bool r) ∧ Below w.heap.size w w' := by
 have HR0 := Aside0.mk hr0
 have HC0 := Aside0.mk hc0
 clear hr0 hc0
 have HB := Aside0.mk (Below.refl w.heap.size w)
 have H : ((laws_szItemS.f k l0 1048576).bind fun t658 => (if t658 < 0 then (some true) else ((laws_toItemS.f k l0).bind fun t659 => ((spec_TextsOf.f k t659).bind fun t662 => ((laws_toItemS.f k l0).bind fun t663 => ((impl_TextsOf.f k t663).bind fun t666 => (if t666.toList = t662.toList then ((laws_toItemS.f k l0).bind fun t667 => ((laws_eqItemS.f k t663 t667).bind fun t670 => (if t670 = true then (some true) else (some false)))) else (some false)))))))) = some r := h
 clear h
 replace H := Option.bind_eq_some_iff.mp H
 obtain ⟨t658, A20, H⟩ := H
 replace H : (if t658 < 0 then (some true) else ((laws_toItemS.f k l0).bind fun t659 => ((spec_TextsOf.f k t659).bind fun t662 => ((laws_toItemS.f k l0).bind fun t663 => ((impl_TextsOf.f k t663).bind fun t666 => (if t666.toList = t662.toList then ((laws_toItemS.f k l0).bind fun t667 => ((laws_eqItemS.f k t663 t667).bind fun t670 => (if t670 = true then (some true) else (some false)))) else (some false))))))) = some r := H
 have A2 := Aside0.mk A20
 clear A20
 by_cases c3 : t658 < 0
 ·rw [if_pos c3] at H
  have c3b0 : decide (t658 < 0) = true := decide_eq_true c3
  clear c3
  obtain rfl := Option.some.inj H
  go_enter Try.func8, Try.ntmps8
  go_wp2_with (first | ((with_reducible refine gate_callee (f := 24) rfl ?_); refine goesL_ (some 9) rfl rfl Try.func24 (by kernel_rfl) rfl #[.slice A0 l0.length c0, .int .i64 1048576] rfl (by (try simp only [List.map_toArray, List.map_cons, List.map_nil]); first | done | rfl | (simp only [List.length_drop, List.length_take]; rfl)) ?_; (with_reducible refine (laws_szItemS.calls k _ _ l0 1048576 t658 _ ?side1 ?side2 A2.out).mono ?_); (case side1 => repeat (first | exact HR0.out | (with_reducible refine Kd.C_alloc ?_ _) | (with_reducible refine Kd.C_drewN ?_ _) | (with_reducible refine Kd.C_drew ?_))); (case side2 => exact HC0.out); rintro e w4 ⟨rfl, hb⟩; refine ⟨_, rfl, ?_⟩; have n0_ := Aside0.mk (below_step (by repeat (first | (with_reducible first | exact HB.out | apply below_alloc | apply pw_below_drewN | apply below_drew1) | exact HB.out)) hb); clear HB; have HB := n0_; clear n0_; (try clear hb); (try clear hb2); (try clear hk); (try clear hi)))
  go_ret
  exact ⟨by first | rfl | (simp [errW_none, errW_some] <;> rfl) | (simp [*, errW_none, errW_some] <;> rfl), by repeat (first | (with_reducible first | exact HB.out | apply below_alloc | apply pw_below_drewN | apply below_drew1) | exact HB.out)⟩
 ·rw [if_neg c3] at H
  have c3b0 : decide (t658 < 0) = false := decide_eq_false c3
  clear c3
  replace H := Option.bind_eq_some_iff.mp H
  obtain ⟨t659, A50, H⟩ := H
  replace H : ((spec_TextsOf.f k t659).bind fun t662 => ((laws_toItemS.f k l0).bind fun t663 => ((impl_TextsOf.f k t663).bind fun t666 => (if t666.toList = t662.toList then ((laws_toItemS.f k l0).bind fun t667 => ((laws_eqItemS.f k t663 t667).bind fun t670 => (if t670 = true then (some true) else (some false)))) else (some false))))) = some r := H
  have A5 := Aside0.mk A50
  clear A50
  replace H := Option.bind_eq_some_iff.mp H
  obtain ⟨t662, A60, H⟩ := H
  replace H : ((laws_toItemS.f k l0).bind fun t663 => ((impl_TextsOf.f k t663).bind fun t666 => (if t666.toList = t662.toList then ((laws_toItemS.f k l0).bind fun t667 => ((laws_eqItemS.f k t663 t667).bind fun t670 => (if t670 = true then (some true) else (some false)))) else (some false)))) = some r := H
  have A6 := Aside0.mk A60
  clear A60
  replace H := Option.bind_eq_some_iff.mp H
  obtain ⟨t663, A70, H⟩ := H
  replace H : ((impl_TextsOf.f k t663).bind fun t666 => (if t666.toList = t662.toList then ((laws_toItemS.f k l0).bind fun t667 => ((laws_eqItemS.f k t663 t667).bind fun t670 => (if t670 = true then (some true) else (some false)))) else (some false))) = some r := H
  have A7 := Aside0.mk A70
  clear A70
  replace H := Option.bind_eq_some_iff.mp H
  obtain ⟨t666, A80, H⟩ := H
  replace H : (if t666.toList = t662.toList then ((laws_toItemS.f k l0).bind fun t667 => ((laws_eqItemS.f k t663 t667).bind fun t670 => (if t670 = true then (some true) else (some false)))) else (some false)) = some r := H
  have A8 := Aside0.mk A80
  clear A80
  by_cases c9 : t666.toList = t662.toList
  ·rw [if_pos c9] at H
   have c9b0 : (t666.toList == t662.toList) = true := beq_iff_eq.mpr c9
   have c9b1 : (t666.toList != t662.toList) = false := bne_eq_false_iff_eq.mpr c9
   clear c9
   replace H := Option.bind_eq_some_iff.mp H
   obtain ⟨t667, A100, H⟩ := H
   replace H : ((laws_eqItemS.f k t663 t667).bind fun t670 => (if t670 = true then (some true) else (some false))) = some r := H
   have A10 := Aside0.mk A100
   clear A100
   replace H := Option.bind_eq_some_iff.mp H
   obtain ⟨t670, A110, H⟩ := H
   replace H : (if t670 = true then (some true) else (some false)) = some r := H
   have A11 := Aside0.mk A110
   clear A110
   by_cases c12 : t670 = true
   ·subst c12
    have H1 : (some true) = some r := by rw [if_pos rfl] at H; exact H
    clear H
    have H := H1
    clear H1
    obtain rfl := Option.some.inj H
    go_enter Try.func8, Try.ntmps8
    go_wp2_with (first | ((with_reducible refine gate_callee (f := 24) rfl ?_); refine goesL_ (some 9) rfl rfl Try.func24 (by kernel_rfl) rfl #[.slice A0 l0.length c0, .int .i64 1048576] rfl (by (try simp only [List.map_toArray, List.map_cons, List.map_nil]); first | done | rfl | (simp only [List.length_drop, List.length_take]; rfl)) ?_; (with_reducible refine (laws_szItemS.calls k _ _ l0 1048576 t658 _ ?side1 ?side2 A2.out).mono ?_); (case side1 => repeat (first | exact HR0.out | (with_reducible refine Kd.C_alloc ?_ _) | (with_reducible refine Kd.C_drewN ?_ _) | (with_reducible refine Kd.C_drew ?_))); (case side2 => exact HC0.out); rintro e w13 ⟨rfl, hb⟩; refine ⟨_, rfl, ?_⟩; have n0_ := Aside0.mk (below_step (by repeat (first | (with_reducible first | exact HB.out | apply below_alloc | apply pw_below_drewN | apply below_drew1) | exact HB.out)) hb); clear HB; have HB := n0_; clear n0_; (try clear hb); (try clear hb2); (try clear hk); (try clear hi)) | ((with_reducible refine gate_callee (f := 26) rfl ?_); refine goesL_ (some 13) rfl rfl Try.func26 (by kernel_rfl) rfl #[.slice A0 l0.length c0] rfl (by (try simp only [List.map_toArray, List.map_cons, List.map_nil]); first | done | rfl | (simp only [List.length_drop, List.length_take]; rfl)) ?_; (with_reducible refine (laws_toItemS.calls k _ _ l0 t659 _ ?side1 ?side2 A5.out).mono ?_); (case side1 => repeat (first | exact (Kd.C_below HR0.out HB.out) | (with_reducible refine Kd.C_alloc ?_ _) | (with_reducible refine Kd.C_drewN ?_ _) | (with_reducible refine Kd.C_drew ?_))); (case side2 => exact HC0.out); rintro e w14 ⟨v660, rfl, ho0, hb⟩; refine ⟨_, rfl, ?_⟩; have n0_ := Aside0.mk (Kd.S_lower ho0 (below_size (by repeat (first | (with_reducible first | exact HB.out | apply below_alloc | apply pw_below_drewN | apply below_drew1) | exact HB.out)))); have n1_ := Aside0.mk (below_step (by repeat (first | (with_reducible first | exact HB.out | apply below_alloc | apply pw_below_drewN | apply below_drew1) | exact HB.out)) hb); clear HB; have HO661 := n0_; have HB := n1_; clear n0_ n1_; (try clear hb); (try clear hb2); (try clear hk); (try clear hi); (try clear ho0); obtain ⟨Ao15, co15, eo15⟩ := Kd.S_slice HO661.out; subst eo15) | ((with_reducible refine gate_callee (f := 29) rfl ?_); refine goesL_ (some 14) rfl rfl Try.func29 (by kernel_rfl) rfl #[.slice Ao15 t659.length co15] rfl (by (try simp only [List.map_toArray, List.map_cons, List.map_nil]); first | done | rfl | (simp only [List.length_drop, List.length_take]; rfl)) ?_; (with_reducible refine (spec_TextsOf.calls k _ _ t659 t662 _ ?side1 ?side2 A6.out).mono ?_); (case side1 => repeat (first | exact (Kd.S_reads' HO661.out).2.2 | (with_reducible refine Kd.C_alloc ?_ _) | (with_reducible refine Kd.C_drewN ?_ _) | (with_reducible refine Kd.C_drew ?_))); (case side2 => exact (Kd.S_reads' HO661.out).2.1); rintro e w16 ⟨rfl, hb⟩; refine ⟨_, rfl, ?_⟩; have n0_ := Aside0.mk (Kd.S_below (by (with_reducible repeat (first | apply Kd.S_alloc | apply Kd.S_drewN | apply Kd.S_drew)); exact HO661.out) hb); have n1_ := Aside0.mk (below_step (by repeat (first | (with_reducible first | exact HB.out | apply below_alloc | apply pw_below_drewN | apply below_drew1) | exact HB.out)) hb); clear HO661; clear HB; have HO661 := n0_; have HB := n1_; clear n0_ n1_; (try clear hb); (try clear hb2); (try clear hk); (try clear hi)) | ((with_reducible refine gate_callee (f := 26) rfl ?_); refine goesL_ (some 16) rfl rfl Try.func26 (by kernel_rfl) rfl #[.slice A0 l0.length c0] rfl (by (try simp only [List.map_toArray, List.map_cons, List.map_nil]); first | done | rfl | (simp only [List.length_drop, List.length_take]; rfl)) ?_; (with_reducible refine (laws_toItemS.calls k _ _ l0 t663 _ ?side1 ?side2 A7.out).mono ?_); (case side1 => repeat (first | exact (Kd.C_below HR0.out HB.out) | (with_reducible refine Kd.C_alloc ?_ _) | (with_reducible refine Kd.C_drewN ?_ _) | (with_reducible refine Kd.C_drew ?_))); (case side2 => exact HC0.out); rintro e w17 ⟨v664, rfl, ho0, hb⟩; refine ⟨_, rfl, ?_⟩; have n0_ := Aside0.mk (Kd.S_elder' (by (with_reducible repeat (first | apply Kd.S_alloc | apply Kd.S_drewN | apply Kd.S_drew)); exact HO661.out) (Kd.S_base ho0) hb); have n1_ := Aside0.mk (Kd.S_lower (Kd.S_new' ho0 (Kd.S_lt (by (with_reducible repeat (first | apply Kd.S_alloc | apply Kd.S_drewN | apply Kd.S_drew)); exact HO661.out))) (below_size (by repeat (first | (with_reducible first | exact HB.out | apply below_alloc | apply pw_below_drewN | apply below_drew1) | exact HB.out)))); have n2_ := Aside0.mk (below_step (by repeat (first | (with_reducible first | exact HB.out | apply below_alloc | apply pw_below_drewN | apply below_drew1) | exact HB.out)) hb); clear HO661; clear HB; have HO661 := n0_; have HO665 := n1_; have HB := n2_; clear n0_ n1_ n2_; (try clear hb); (try clear hb2); (try clear hk); (try clear hi); (try clear ho0); obtain ⟨Ao18, co18, eo18⟩ := Kd.S_slice HO665.out; subst eo18) | ((with_reducible refine gate_callee (f := 30) rfl ?_); refine goesL_ (some 18) rfl rfl Try.func30 (by kernel_rfl) rfl #[.slice Ao18 t663.length co18] rfl (by (try simp only [List.map_toArray, List.map_cons, List.map_nil]); first | done | rfl | (simp only [List.length_drop, List.length_take]; rfl)) ?_; (with_reducible refine (impl_TextsOf.calls k _ _ t663 t666 _ ?side1 ?side2 A8.out).mono ?_); (case side1 => repeat (first | exact (Kd.S_reads' HO665.out).2.2 | (with_reducible refine Kd.C_alloc ?_ _) | (with_reducible refine Kd.C_drewN ?_ _) | (with_reducible refine Kd.C_drew ?_))); (case side2 => exact (Kd.S_reads' HO665.out).2.1); rintro e w19 ⟨rfl, hb⟩; refine ⟨_, rfl, ?_⟩; have n0_ := Aside0.mk (Kd.S_below (by (with_reducible repeat (first | apply Kd.S_alloc | apply Kd.S_drewN | apply Kd.S_drew)); exact HO661.out) hb); have n1_ := Aside0.mk (Kd.S_below (by (with_reducible repeat (first | apply Kd.S_alloc | apply Kd.S_drewN | apply Kd.S_drew)); exact HO665.out) hb); have n2_ := Aside0.mk (below_step (by repeat (first | (with_reducible first | exact HB.out | apply below_alloc | apply pw_below_drewN | apply below_drew1) | exact HB.out)) hb); clear HO661; clear HO665; clear HB; have HO661 := n0_; have HO665 := n1_; have HB := n2_; clear n0_ n1_ n2_; (try clear hb); (try clear hb2); (try clear hk); (try clear hi)) | ((with_reducible refine gate_callee (f := 26) rfl ?_); refine goesL_ (some 24) rfl rfl Try.func26 (by kernel_rfl) rfl #[.slice A0 l0.length c0] rfl (by (try simp only [List.map_toArray, List.map_cons, List.map_nil]); first | done | rfl | (simp only [List.length_drop, List.length_take]; rfl)) ?_; (with_reducible refine (laws_toItemS.calls k _ _ l0 t667 _ ?side1 ?side2 A10.out).mono ?_); (case side1 => repeat (first | exact (Kd.C_below HR0.out HB.out) | (with_reducible refine Kd.C_alloc ?_ _) | (with_reducible refine Kd.C_drewN ?_ _) | (with_reducible refine Kd.C_drew ?_))); (case side2 => exact HC0.out); rintro e w20 ⟨v668, rfl, ho0, hb⟩; refine ⟨_, rfl, ?_⟩; have n0_ := Aside0.mk (Kd.S_elder' (by (with_reducible repeat (first | apply Kd.S_alloc | apply Kd.S_drewN | apply Kd.S_drew)); exact HO661.out) (Kd.S_base ho0) hb); have n1_ := Aside0.mk (Kd.S_elder' (by (with_reducible repeat (first | apply Kd.S_alloc | apply Kd.S_drewN | apply Kd.S_drew)); exact HO665.out) (Kd.S_base ho0) hb); have n2_ := Aside0.mk (Kd.S_lower (Kd.S_new' (Kd.S_new' ho0 (Kd.S_lt (by (with_reducible repeat (first | apply Kd.S_alloc | apply Kd.S_drewN | apply Kd.S_drew)); exact HO661.out))) (Kd.S_lt (by (with_reducible repeat (first | apply Kd.S_alloc | apply Kd.S_drewN | apply Kd.S_drew)); exact HO665.out))) (below_size (by repeat (first | (with_reducible first | exact HB.out | apply below_alloc | apply pw_below_drewN | apply below_drew1) | exact HB.out)))); have n3_ := Aside0.mk (below_step (by repeat (first | (with_reducible first | exact HB.out | apply below_alloc | apply pw_below_drewN | apply below_drew1) | exact HB.out)) hb); clear HO661; clear HO665; clear HB; have HO661 := n0_; have HO665 := n1_; have HO669 := n2_; have HB := n3_; clear n0_ n1_ n2_ n3_; (try clear hb); (try clear hb2); (try clear hk); (try clear hi); (try clear ho0); obtain ⟨Ao21, co21, eo21⟩ := Kd.S_slice HO669.out; subst eo21) | ((with_reducible refine gate_callee (f := 28) rfl ?_); refine goesL_ (some 25) rfl rfl Try.func28 (by kernel_rfl) rfl #[.slice Ao18 t663.length co18, .slice Ao21 t667.length co21] rfl (by (try simp only [List.map_toArray, List.map_cons, List.map_nil]); first | done | rfl | (simp only [List.length_drop, List.length_take]; rfl)) ?_; (with_reducible refine (laws_eqItemS.calls k _ _ t663 _ _ t667 true _ ?side1 ?side2 ?side3 ?side4 A11.out).mono ?_); (case side1 => repeat (first | exact (Kd.S_reads' HO665.out).2.2 | (with_reducible refine Kd.C_alloc ?_ _) | (with_reducible refine Kd.C_drewN ?_ _) | (with_reducible refine Kd.C_drew ?_))); (case side2 => exact (Kd.S_reads' HO665.out).2.1); (case side3 => repeat (first | exact (Kd.S_reads' HO669.out).2.2 | (with_reducible refine Kd.C_alloc ?_ _) | (with_reducible refine Kd.C_drewN ?_ _) | (with_reducible refine Kd.C_drew ?_))); (case side4 => exact (Kd.S_reads' HO669.out).2.1); rintro e w22 ⟨rfl, hb⟩; refine ⟨_, rfl, ?_⟩; have n0_ := Aside0.mk (Kd.S_below (by (with_reducible repeat (first | apply Kd.S_alloc | apply Kd.S_drewN | apply Kd.S_drew)); exact HO661.out) hb); have n1_ := Aside0.mk (Kd.S_below (by (with_reducible repeat (first | apply Kd.S_alloc | apply Kd.S_drewN | apply Kd.S_drew)); exact HO665.out) hb); have n2_ := Aside0.mk (Kd.S_below (by (with_reducible repeat (first | apply Kd.S_alloc | apply Kd.S_drewN | apply Kd.S_drew)); exact HO669.out) hb); have n3_ := Aside0.mk (below_step (by repeat (first | (with_reducible first | exact HB.out | apply below_alloc | apply pw_below_drewN | apply below_drew1) | exact HB.out)) hb); clear HO661; clear HO665; clear HO669; clear HB; have HO661 := n0_; have HO665 := n1_; have HO669 := n2_; have HB := n3_; clear n0_ n1_ n2_ n3_; (try clear hb); (try clear hb2); (try clear hk); (try clear hi)))
    go_ret
    exact ⟨by first | rfl | (simp [errW_none, errW_some] <;> rfl) | (simp [*, errW_none, errW_some] <;> rfl), by repeat (first | (with_reducible first | exact HB.out | apply below_alloc | apply pw_below_drewN | apply below_drew1) | exact HB.out)⟩
   ·replace c12 := Bool.eq_false_iff.mpr c12
    subst c12
    have H1 : (some false) = some r := by rw [if_neg (show ¬ (false = true) by decide)] at H; exact H
    clear H
    have H := H1
    clear H1
    obtain rfl := Option.some.inj H
    go_enter Try.func8, Try.ntmps8
    go_wp2_with (first | ((with_reducible refine gate_callee (f := 24) rfl ?_); refine goesL_ (some 9) rfl rfl Try.func24 (by kernel_rfl) rfl #[.slice A0 l0.length c0, .int .i64 1048576] rfl (by (try simp only [List.map_toArray, List.map_cons, List.map_nil]); first | done | rfl | (simp only [List.length_drop, List.length_take]; rfl)) ?_; (with_reducible refine (laws_szItemS.calls k _ _ l0 1048576 t658 _ ?side1 ?side2 A2.out).mono ?_); (case side1 => repeat (first | exact HR0.out | (with_reducible refine Kd.C_alloc ?_ _) | (with_reducible refine Kd.C_drewN ?_ _) | (with_reducible refine Kd.C_drew ?_))); (case side2 => exact HC0.out); rintro e w23 ⟨rfl, hb⟩; refine ⟨_, rfl, ?_⟩; have n0_ := Aside0.mk (below_step (by repeat (first | (with_reducible first | exact HB.out | apply below_alloc | apply pw_below_drewN | apply below_drew1) | exact HB.out)) hb); clear HB; have HB := n0_; clear n0_; (try clear hb); (try clear hb2); (try clear hk); (try clear hi)) | ((with_reducible refine gate_callee (f := 26) rfl ?_); refine goesL_ (some 13) rfl rfl Try.func26 (by kernel_rfl) rfl #[.slice A0 l0.length c0] rfl (by (try simp only [List.map_toArray, List.map_cons, List.map_nil]); first | done | rfl | (simp only [List.length_drop, List.length_take]; rfl)) ?_; (with_reducible refine (laws_toItemS.calls k _ _ l0 t659 _ ?side1 ?side2 A5.out).mono ?_); (case side1 => repeat (first | exact (Kd.C_below HR0.out HB.out) | (with_reducible refine Kd.C_alloc ?_ _) | (with_reducible refine Kd.C_drewN ?_ _) | (with_reducible refine Kd.C_drew ?_))); (case side2 => exact HC0.out); rintro e w24 ⟨v660, rfl, ho0, hb⟩; refine ⟨_, rfl, ?_⟩; have n0_ := Aside0.mk (Kd.S_lower ho0 (below_size (by repeat (first | (with_reducible first | exact HB.out | apply below_alloc | apply pw_below_drewN | apply below_drew1) | exact HB.out)))); have n1_ := Aside0.mk (below_step (by repeat (first | (with_reducible first | exact HB.out | apply below_alloc | apply pw_below_drewN | apply below_drew1) | exact HB.out)) hb); clear HB; have HO661 := n0_; have HB := n1_; clear n0_ n1_; (try clear hb); (try clear hb2); (try clear hk); (try clear hi); (try clear ho0); obtain ⟨Ao25, co25, eo25⟩ := Kd.S_slice HO661.out; subst eo25) | ((with_reducible refine gate_callee (f := 29) rfl ?_); refine goesL_ (some 14) rfl rfl Try.func29 (by kernel_rfl) rfl #[.slice Ao25 t659.length co25] rfl (by (try simp only [List.map_toArray, List.map_cons, List.map_nil]); first | done | rfl | (simp only [List.length_drop, List.length_take]; rfl)) ?_; (with_reducible refine (spec_TextsOf.calls k _ _ t659 t662 _ ?side1 ?side2 A6.out).mono ?_); (case side1 => repeat (first | exact (Kd.S_reads' HO661.out).2.2 | (with_reducible refine Kd.C_alloc ?_ _) | (with_reducible refine Kd.C_drewN ?_ _) | (with_reducible refine Kd.C_drew ?_))); (case side2 => exact (Kd.S_reads' HO661.out).2.1); rintro e w26 ⟨rfl, hb⟩; refine ⟨_, rfl, ?_⟩; have n0_ := Aside0.mk (Kd.S_below (by (with_reducible repeat (first | apply Kd.S_alloc | apply Kd.S_drewN | apply Kd.S_drew)); exact HO661.out) hb); have n1_ := Aside0.mk (below_step (by repeat (first | (with_reducible first | exact HB.out | apply below_alloc | apply pw_below_drewN | apply below_drew1) | exact HB.out)) hb); clear HO661; clear HB; have HO661 := n0_; have HB := n1_; clear n0_ n1_; (try clear hb); (try clear hb2); (try clear hk); (try clear hi)) | ((with_reducible refine gate_callee (f := 26) rfl ?_); refine goesL_ (some 16) rfl rfl Try.func26 (by kernel_rfl) rfl #[.slice A0 l0.length c0] rfl (by (try simp only [List.map_toArray, List.map_cons, List.map_nil]); first | done | rfl | (simp only [List.length_drop, List.length_take]; rfl)) ?_; (with_reducible refine (laws_toItemS.calls k _ _ l0 t663 _ ?side1 ?side2 A7.out).mono ?_); (case side1 => repeat (first | exact (Kd.C_below HR0.out HB.out) | (with_reducible refine Kd.C_alloc ?_ _) | (with_reducible refine Kd.C_drewN ?_ _) | (with_reducible refine Kd.C_drew ?_))); (case side2 => exact HC0.out); rintro e w27 ⟨v664, rfl, ho0, hb⟩; refine ⟨_, rfl, ?_⟩; have n0_ := Aside0.mk (Kd.S_elder' (by (with_reducible repeat (first | apply Kd.S_alloc | apply Kd.S_drewN | apply Kd.S_drew)); exact HO661.out) (Kd.S_base ho0) hb); have n1_ := Aside0.mk (Kd.S_lower (Kd.S_new' ho0 (Kd.S_lt (by (with_reducible repeat (first | apply Kd.S_alloc | apply Kd.S_drewN | apply Kd.S_drew)); exact HO661.out))) (below_size (by repeat (first | (with_reducible first | exact HB.out | apply below_alloc | apply pw_below_drewN | apply below_drew1) | exact HB.out)))); have n2_ := Aside0.mk (below_step (by repeat (first | (with_reducible first | exact HB.out | apply below_alloc | apply pw_below_drewN | apply below_drew1) | exact HB.out)) hb); clear HO661; clear HB; have HO661 := n0_; have HO665 := n1_; have HB := n2_; clear n0_ n1_ n2_; (try clear hb); (try clear hb2); (try clear hk); (try clear hi); (try clear ho0); obtain ⟨Ao28, co28, eo28⟩ := Kd.S_slice HO665.out; subst eo28) | ((with_reducible refine gate_callee (f := 30) rfl ?_); refine goesL_ (some 18) rfl rfl Try.func30 (by kernel_rfl) rfl #[.slice Ao28 t663.length co28] rfl (by (try simp only [List.map_toArray, List.map_cons, List.map_nil]); first | done | rfl | (simp only [List.length_drop, List.length_take]; rfl)) ?_; (with_reducible refine (impl_TextsOf.calls k _ _ t663 t666 _ ?side1 ?side2 A8.out).mono ?_); (case side1 => repeat (first | exact (Kd.S_reads' HO665.out).2.2 | (with_reducible refine Kd.C_alloc ?_ _) | (with_reducible refine Kd.C_drewN ?_ _) | (with_reducible refine Kd.C_drew ?_))); (case side2 => exact (Kd.S_reads' HO665.out).2.1); rintro e w29 ⟨rfl, hb⟩; refine ⟨_, rfl, ?_⟩; have n0_ := Aside0.mk (Kd.S_below (by (with_reducible repeat (first | apply Kd.S_alloc | apply Kd.S_drewN | apply Kd.S_drew)); exact HO661.out) hb); have n1_ := Aside0.mk (Kd.S_below (by (with_reducible repeat (first | apply Kd.S_alloc | apply Kd.S_drewN | apply Kd.S_drew)); exact HO665.out) hb); have n2_ := Aside0.mk (below_step (by repeat (first | (with_reducible first | exact HB.out | apply below_alloc | apply pw_below_drewN | apply below_drew1) | exact HB.out)) hb); clear HO661; clear HO665; clear HB; have HO661 := n0_; have HO665 := n1_; have HB := n2_; clear n0_ n1_ n2_; (try clear hb); (try clear hb2); (try clear hk); (try clear hi)) | ((with_reducible refine gate_callee (f := 26) rfl ?_); refine goesL_ (some 24) rfl rfl Try.func26 (by kernel_rfl) rfl #[.slice A0 l0.length c0] rfl (by (try simp only [List.map_toArray, List.map_cons, List.map_nil]); first | done | rfl | (simp only [List.length_drop, List.length_take]; rfl)) ?_; (with_reducible refine (laws_toItemS.calls k _ _ l0 t667 _ ?side1 ?side2 A10.out).mono ?_); (case side1 => repeat (first | exact (Kd.C_below HR0.out HB.out) | (with_reducible refine Kd.C_alloc ?_ _) | (with_reducible refine Kd.C_drewN ?_ _) | (with_reducible refine Kd.C_drew ?_))); (case side2 => exact HC0.out); rintro e w30 ⟨v668, rfl, ho0, hb⟩; refine ⟨_, rfl, ?_⟩; have n0_ := Aside0.mk (Kd.S_elder' (by (with_reducible repeat (first | apply Kd.S_alloc | apply Kd.S_drewN | apply Kd.S_drew)); exact HO661.out) (Kd.S_base ho0) hb); have n1_ := Aside0.mk (Kd.S_elder' (by (with_reducible repeat (first | apply Kd.S_alloc | apply Kd.S_drewN | apply Kd.S_drew)); exact HO665.out) (Kd.S_base ho0) hb); have n2_ := Aside0.mk (Kd.S_lower (Kd.S_new' (Kd.S_new' ho0 (Kd.S_lt (by (with_reducible repeat (first | apply Kd.S_alloc | apply Kd.S_drewN | apply Kd.S_drew)); exact HO661.out))) (Kd.S_lt (by (with_reducible repeat (first | apply Kd.S_alloc | apply Kd.S_drewN | apply Kd.S_drew)); exact HO665.out))) (below_size (by repeat (first | (with_reducible first | exact HB.out | apply below_alloc | apply pw_below_drewN | apply below_drew1) | exact HB.out)))); have n3_ := Aside0.mk (below_step (by repeat (first | (with_reducible first | exact HB.out | apply below_alloc | apply pw_below_drewN | apply below_drew1) | exact HB.out)) hb); clear HO661; clear HO665; clear HB; have HO661 := n0_; have HO665 := n1_; have HO669 := n2_; have HB := n3_; clear n0_ n1_ n2_ n3_; (try clear hb); (try clear hb2); (try clear hk); (try clear hi); (try clear ho0); obtain ⟨Ao31, co31, eo31⟩ := Kd.S_slice HO669.out; subst eo31) | ((with_reducible refine gate_callee (f := 28) rfl ?_); refine goesL_ (some 25) rfl rfl Try.func28 (by kernel_rfl) rfl #[.slice Ao28 t663.length co28, .slice Ao31 t667.length co31] rfl (by (try simp only [List.map_toArray, List.map_cons, List.map_nil]); first | done | rfl | (simp only [List.length_drop, List.length_take]; rfl)) ?_; (with_reducible refine (laws_eqItemS.calls k _ _ t663 _ _ t667 false _ ?side1 ?side2 ?side3 ?side4 A11.out).mono ?_); (case side1 => repeat (first | exact (Kd.S_reads' HO665.out).2.2 | (with_reducible refine Kd.C_alloc ?_ _) | (with_reducible refine Kd.C_drewN ?_ _) | (with_reducible refine Kd.C_drew ?_))); (case side2 => exact (Kd.S_reads' HO665.out).2.1); (case side3 => repeat (first | exact (Kd.S_reads' HO669.out).2.2 | (with_reducible refine Kd.C_alloc ?_ _) | (with_reducible refine Kd.C_drewN ?_ _) | (with_reducible refine Kd.C_drew ?_))); (case side4 => exact (Kd.S_reads' HO669.out).2.1); rintro e w32 ⟨rfl, hb⟩; refine ⟨_, rfl, ?_⟩; have n0_ := Aside0.mk (Kd.S_below (by (with_reducible repeat (first | apply Kd.S_alloc | apply Kd.S_drewN | apply Kd.S_drew)); exact HO661.out) hb); have n1_ := Aside0.mk (Kd.S_below (by (with_reducible repeat (first | apply Kd.S_alloc | apply Kd.S_drewN | apply Kd.S_drew)); exact HO665.out) hb); have n2_ := Aside0.mk (Kd.S_below (by (with_reducible repeat (first | apply Kd.S_alloc | apply Kd.S_drewN | apply Kd.S_drew)); exact HO669.out) hb); have n3_ := Aside0.mk (below_step (by repeat (first | (with_reducible first | exact HB.out | apply below_alloc | apply pw_below_drewN | apply below_drew1) | exact HB.out)) hb); clear HO661; clear HO665; clear HO669; clear HB; have HO661 := n0_; have HO665 := n1_; have HO669 := n2_; have HB := n3_; clear n0_ n1_ n2_ n3_; (try clear hb); (try clear hb2); (try clear hk); (try clear hi)))
    go_ret
    exact ⟨by first | rfl | (simp [errW_none, errW_some] <;> rfl) | (simp [*, errW_none, errW_some] <;> rfl), by repeat (first | (with_reducible first | exact HB.out | apply below_alloc | apply pw_below_drewN | apply below_drew1) | exact HB.out)⟩
  ·rw [if_neg c9] at H
   have c9b0 : (t666.toList == t662.toList) = false := beq_eq_false_iff_ne.mpr c9
   have c9b1 : (t666.toList != t662.toList) = true := bne_iff_ne.mpr c9
   obtain rfl := Option.some.inj H
   go_enter Try.func8, Try.ntmps8
   go_wp2_with (first | ((with_reducible refine gate_callee (f := 24) rfl ?_); refine goesL_ (some 9) rfl rfl Try.func24 (by kernel_rfl) rfl #[.slice A0 l0.length c0, .int .i64 1048576] rfl (by (try simp only [List.map_toArray, List.map_cons, List.map_nil]); first | done | rfl | (simp only [List.length_drop, List.length_take]; rfl)) ?_; (with_reducible refine (laws_szItemS.calls k _ _ l0 1048576 t658 _ ?side1 ?side2 A2.out).mono ?_); (case side1 => repeat (first | exact HR0.out | (with_reducible refine Kd.C_alloc ?_ _) | (with_reducible refine Kd.C_drewN ?_ _) | (with_reducible refine Kd.C_drew ?_))); (case side2 => exact HC0.out); rintro e w33 ⟨rfl, hb⟩; refine ⟨_, rfl, ?_⟩; have n0_ := Aside0.mk (below_step (by repeat (first | (with_reducible first | exact HB.out | apply below_alloc | apply pw_below_drewN | apply below_drew1) | exact HB.out)) hb); clear HB; have HB := n0_; clear n0_; (try clear hb); (try clear hb2); (try clear hk); (try clear hi)) | ((with_reducible refine gate_callee (f := 26) rfl ?_); refine goesL_ (some 13) rfl rfl Try.func26 (by kernel_rfl) rfl #[.slice A0 l0.length c0] rfl (by (try simp only [List.map_toArray, List.map_cons, List.map_nil]); first | done | rfl | (simp only [List.length_drop, List.length_take]; rfl)) ?_; (with_reducible refine (laws_toItemS.calls k _ _ l0 t659 _ ?side1 ?side2 A5.out).mono ?_); (case side1 => repeat (first | exact (Kd.C_below HR0.out HB.out) | (with_reducible refine Kd.C_alloc ?_ _) | (with_reducible refine Kd.C_drewN ?_ _) | (with_reducible refine Kd.C_drew ?_))); (case side2 => exact HC0.out); rintro e w34 ⟨v660, rfl, ho0, hb⟩; refine ⟨_, rfl, ?_⟩; have n0_ := Aside0.mk (Kd.S_lower ho0 (below_size (by repeat (first | (with_reducible first | exact HB.out | apply below_alloc | apply pw_below_drewN | apply below_drew1) | exact HB.out)))); have n1_ := Aside0.mk (below_step (by repeat (first | (with_reducible first | exact HB.out | apply below_alloc | apply pw_below_drewN | apply below_drew1) | exact HB.out)) hb); clear HB; have HO661 := n0_; have HB := n1_; clear n0_ n1_; (try clear hb); (try clear hb2); (try clear hk); (try clear hi); (try clear ho0); obtain ⟨Ao35, co35, eo35⟩ := Kd.S_slice HO661.out; subst eo35) | ((with_reducible refine gate_callee (f := 29) rfl ?_); refine goesL_ (some 14) rfl rfl Try.func29 (by kernel_rfl) rfl #[.slice Ao35 t659.length co35] rfl (by (try simp only [List.map_toArray, List.map_cons, List.map_nil]); first | done | rfl | (simp only [List.length_drop, List.length_take]; rfl)) ?_; (with_reducible refine (spec_TextsOf.calls k _ _ t659 t662 _ ?side1 ?side2 A6.out).mono ?_); (case side1 => repeat (first | exact (Kd.S_reads' HO661.out).2.2 | (with_reducible refine Kd.C_alloc ?_ _) | (with_reducible refine Kd.C_drewN ?_ _) | (with_reducible refine Kd.C_drew ?_))); (case side2 => exact (Kd.S_reads' HO661.out).2.1); rintro e w36 ⟨rfl, hb⟩; refine ⟨_, rfl, ?_⟩; have n0_ := Aside0.mk (Kd.S_below (by (with_reducible repeat (first | apply Kd.S_alloc | apply Kd.S_drewN | apply Kd.S_drew)); exact HO661.out) hb); have n1_ := Aside0.mk (below_step (by repeat (first | (with_reducible first | exact HB.out | apply below_alloc | apply pw_below_drewN | apply below_drew1) | exact HB.out)) hb); clear HO661; clear HB; have HO661 := n0_; have HB := n1_; clear n0_ n1_; (try clear hb); (try clear hb2); (try clear hk); (try clear hi)) | ((with_reducible refine gate_callee (f := 26) rfl ?_); refine goesL_ (some 16) rfl rfl Try.func26 (by kernel_rfl) rfl #[.slice A0 l0.length c0] rfl (by (try simp only [List.map_toArray, List.map_cons, List.map_nil]); first | done | rfl | (simp only [List.length_drop, List.length_take]; rfl)) ?_; (with_reducible refine (laws_toItemS.calls k _ _ l0 t663 _ ?side1 ?side2 A7.out).mono ?_); (case side1 => repeat (first | exact (Kd.C_below HR0.out HB.out) | (with_reducible refine Kd.C_alloc ?_ _) | (with_reducible refine Kd.C_drewN ?_ _) | (with_reducible refine Kd.C_drew ?_))); (case side2 => exact HC0.out); rintro e w37 ⟨v664, rfl, ho0, hb⟩; refine ⟨_, rfl, ?_⟩; have n0_ := Aside0.mk (Kd.S_elder' (by (with_reducible repeat (first | apply Kd.S_alloc | apply Kd.S_drewN | apply Kd.S_drew)); exact HO661.out) (Kd.S_base ho0) hb); have n1_ := Aside0.mk (Kd.S_lower (Kd.S_new' ho0 (Kd.S_lt (by (with_reducible repeat (first | apply Kd.S_alloc | apply Kd.S_drewN | apply Kd.S_drew)); exact HO661.out))) (below_size (by repeat (first | (with_reducible first | exact HB.out | apply below_alloc | apply pw_below_drewN | apply below_drew1) | exact HB.out)))); have n2_ := Aside0.mk (below_step (by repeat (first | (with_reducible first | exact HB.out | apply below_alloc | apply pw_below_drewN | apply below_drew1) | exact HB.out)) hb); clear HO661; clear HB; have HO661 := n0_; have HO665 := n1_; have HB := n2_; clear n0_ n1_ n2_; (try clear hb); (try clear hb2); (try clear hk); (try clear hi); (try clear ho0); obtain ⟨Ao38, co38, eo38⟩ := Kd.S_slice HO665.out; subst eo38) | ((with_reducible refine gate_callee (f := 30) rfl ?_); refine goesL_ (some 18) rfl rfl Try.func30 (by kernel_rfl) rfl #[.slice Ao38 t663.length co38] rfl (by (try simp only [List.map_toArray, List.map_cons, List.map_nil]); first | done | rfl | (simp only [List.length_drop, List.length_take]; rfl)) ?_; (with_reducible refine (impl_TextsOf.calls k _ _ t663 t666 _ ?side1 ?side2 A8.out).mono ?_); (case side1 => repeat (first | exact (Kd.S_reads' HO665.out).2.2 | (with_reducible refine Kd.C_alloc ?_ _) | (with_reducible refine Kd.C_drewN ?_ _) | (with_reducible refine Kd.C_drew ?_))); (case side2 => exact (Kd.S_reads' HO665.out).2.1); rintro e w39 ⟨rfl, hb⟩; refine ⟨_, rfl, ?_⟩; have n0_ := Aside0.mk (Kd.S_below (by (with_reducible repeat (first | apply Kd.S_alloc | apply Kd.S_drewN | apply Kd.S_drew)); exact HO661.out) hb); have n1_ := Aside0.mk (Kd.S_below (by (with_reducible repeat (first | apply Kd.S_alloc | apply Kd.S_drewN | apply Kd.S_drew)); exact HO665.out) hb); have n2_ := Aside0.mk (below_step (by repeat (first | (with_reducible first | exact HB.out | apply below_alloc | apply pw_below_drewN | apply below_drew1) | exact HB.out)) hb); clear HO661; clear HO665; clear HB; have HO661 := n0_; have HO665 := n1_; have HB := n2_; clear n0_ n1_ n2_; (try clear hb); (try clear hb2); (try clear hk); (try clear hi)))
   go_ret
   exact ⟨by first | rfl | (simp [errW_none, errW_some] <;> rfl) | (simp [*, errW_none, errW_some] <;> rfl), by repeat (first | (with_reducible first | exact HB.out | apply below_alloc | apply pw_below_drewN | apply below_drew1) | exact HB.out)⟩
end Go.Proofs.Ytlocaaebgghkbaa.A
