-- joined by wip/tools/shake.py
import Derived.Test.YtkmmoheeoblmnaaGreatDoorVAgTW9
import Derived.Test.YtkmmoheeoblmnaaGreatDoorMAgT0
import Derived.Test.YtkmmoheeoblmnaaGreatDoorMAgT4
import Derived.Test.YtkmmoheeoblmnaaGreatDoorMAgT1
import Derived.Test.YtkmmoheeoblmnaaGreatDoorMAgT2
import Derived.Test.YtkmmoheeoblmnaaGreatDoorMAgT3
set_option maxHeartbeats 16000000
set_option maxRecDepth 100000
namespace Go.Proofs.YtkmmoheeoblmnaaGreatDoor.A
open Go.RowKit Go.Proofs.YtkmmoheeoblmnaaGreatDoorW.PrintWords Go.Proofs.YtkmmoheeoblmnaaGreatDoorW.PrintLast Go.Proofs.YtkmmoheeoblmnaaGreatDoorW.PrintMore
attribute [local go_sem] max2_int min2_int max_two min_two max_three min_three max_four min_four
set_option linter.unusedVariables false
set_option linter.unusedSimpArgs false
mutual
def spec_l17Said.j0 : Nat → ByteArray → Int → Int → ByteArray → List (S36) → ByteArray → List (S43) → Option (ByteArray)
 | 0, _, _, _, _, _, _, _ => none
 | k + 1, x5, x708000, x708001, x708002, x708003, x708004, x708005 => spec_l17Said.l0 k x5 0 x708000 x708001 x708002 x708003 x708004 x708005
def spec_l17Said.l0 : Nat → ByteArray → Int → Int → Int → ByteArray → List (S36) → ByteArray → List (S43) → Option (ByteArray)
 | 0, _, _, _, _, _, _, _, _ => none
 | k + 1, x5, x6, x708000, x708001, x708002, x708003, x708004, x708005 => if x6 < (x708003.length : Int) then (if x5.size + 1 ≤ 9223372036854775807 then (if 0 ≤ x6 then (if (x5 ++ (⟨#[32]⟩ : BA)).size + ((rd_T36 x708003 x6).f0).size ≤ 9223372036854775807 then (if ((x5 ++ (⟨#[32]⟩ : BA)) ++ ((rd_T36 x708003 x6).f0)).size + 2 ≤ 9223372036854775807 then ((spec_Escape.f k ((rd_T36 x708003 x6).f1) true).bind fun t712 => (if (((x5 ++ (⟨#[32]⟩ : BA)) ++ ((rd_T36 x708003 x6).f0)) ++ (⟨#[61, 34]⟩ : BA)).size + t712.size ≤ 9223372036854775807 then (if ((((x5 ++ (⟨#[32]⟩ : BA)) ++ ((rd_T36 x708003 x6).f0)) ++ (⟨#[61, 34]⟩ : BA)) ++ t712).size + 1 ≤ 9223372036854775807 then (spec_l17Said.l0 k (((((x5 ++ (⟨#[32]⟩ : BA)) ++ ((rd_T36 x708003 x6).f0)) ++ (⟨#[61, 34]⟩ : BA)) ++ t712) ++ (⟨#[34]⟩ : BA)) (wrap64 (x6 + 1)) x708000 x708001 x708002 x708003 x708004 x708005) else (none)) else (none))) else (none)) else (none)) else (none)) else (none)) else (if (x708005.length : Int) = 0 then (if x5.size + 2 ≤ 9223372036854775807 then (some (x5 ++ (⟨#[47, 62]⟩ : BA))) else (none)) else (if x5.size + 1 ≤ 9223372036854775807 then (spec_l17Said.l1 k (x5 ++ (⟨#[62]⟩ : BA)) 0 x708000 x708001 x708002 x708003 x708004 x708005) else (none)))
def spec_l17Said.l1 : Nat → ByteArray → Int → Int → Int → ByteArray → List (S36) → ByteArray → List (S43) → Option (ByteArray)
 | 0, _, _, _, _, _, _, _, _ => none
 | k + 1, x5, x7, x708000, x708001, x708002, x708003, x708004, x708005 => if x7 < (x708005.length : Int) then (if 0 ≤ x7 then ((spec_l17Said.f k ((rd_T43 x708005 x7).f0) ((rd_T43 x708005 x7).f1) ((rd_T43 x708005 x7).f2) ((rd_T43 x708005 x7).f3) ((rd_T43 x708005 x7).f4) ((rd_T43 x708005 x7).f5) x708001).bind fun t714 => (if x5.size + t714.size ≤ 9223372036854775807 then (spec_l17Said.l1 k (x5 ++ t714) (wrap64 (x7 + 1)) x708000 x708001 x708002 x708003 x708004 x708005) else (none))) else (none)) else (if x5.size + 2 ≤ 9223372036854775807 then (if (x5 ++ (⟨#[60, 47]⟩ : BA)).size + x708002.size ≤ 9223372036854775807 then (if ((x5 ++ (⟨#[60, 47]⟩ : BA)) ++ x708002).size + 1 ≤ 9223372036854775807 then (some (((x5 ++ (⟨#[60, 47]⟩ : BA)) ++ x708002) ++ (⟨#[62]⟩ : BA))) else (none)) else (none)) else (none))
def spec_l17Said.f : Nat → Int → Int → ByteArray → List (S36) → ByteArray → List (S43) → Int → Option (ByteArray)
 | 0, _, _, _, _, _, _, _ => none
 | k + 1, a0_0, a0_1, a0_2, l0_3, a0_4, l0_5, a1 => if a0_0 = 2 then ((spec_Escape.f k a0_4 false).bind fun t708 => (some t708)) else (if a0_0 = 3 then (if 4 + a0_4.size ≤ 9223372036854775807 then (if ((⟨#[60, 33, 45, 45]⟩ : BA) ++ a0_4).size + 3 ≤ 9223372036854775807 then (some (((⟨#[60, 33, 45, 45]⟩ : BA) ++ a0_4) ++ (⟨#[45, 45, 62]⟩ : BA))) else (none)) else (none)) else (if 1 + a0_2.size ≤ 9223372036854775807 then (if a0_1 = a1 then (spec_l17Said.j0 k ((⟨#[60]⟩ : BA) ++ a0_2) a0_0 a0_1 a0_2 l0_3 a0_4 l0_5) else (if ((⟨#[60]⟩ : BA) ++ a0_2).size + 8 ≤ 9223372036854775807 then ((spec_SpaceName.f a0_1).bind fun t709 => (if (((⟨#[60]⟩ : BA) ++ a0_2) ++ (⟨#[32, 120, 109, 108, 110, 115, 61, 34]⟩ : BA)).size + t709.size ≤ 9223372036854775807 then (if ((((⟨#[60]⟩ : BA) ++ a0_2) ++ (⟨#[32, 120, 109, 108, 110, 115, 61, 34]⟩ : BA)) ++ t709).size + 1 ≤ 9223372036854775807 then (spec_l17Said.j0 k (((((⟨#[60]⟩ : BA) ++ a0_2) ++ (⟨#[32, 120, 109, 108, 110, 115, 61, 34]⟩ : BA)) ++ t709) ++ (⟨#[34]⟩ : BA)) a0_0 a0_1 a0_2 l0_3 a0_4 l0_5) else (none)) else (none))) else (none))) else (none)))
end
theorem spec_l17Said.mono_l : ∀ k, (∀ y0 y1 y2 y3 y4 y5 y6, LeO (spec_l17Said.f k y0 y1 y2 y3 y4 y5 y6) (spec_l17Said.f (k + 1) y0 y1 y2 y3 y4 y5 y6)) ∧ (∀ y0 y1 y2 y3 y4 y5 y6, LeO (spec_l17Said.j0 k y0 y1 y2 y3 y4 y5 y6) (spec_l17Said.j0 (k + 1) y0 y1 y2 y3 y4 y5 y6)) ∧ (∀ y0 y1 y2 y3 y4 y5 y6 y7, LeO (spec_l17Said.l0 k y0 y1 y2 y3 y4 y5 y6 y7) (spec_l17Said.l0 (k + 1) y0 y1 y2 y3 y4 y5 y6 y7)) ∧ (∀ y0 y1 y2 y3 y4 y5 y6 y7, LeO (spec_l17Said.l1 k y0 y1 y2 y3 y4 y5 y6 y7) (spec_l17Said.l1 (k + 1) y0 y1 y2 y3 y4 y5 y6 y7))
 | 0 => ⟨fun _ _ _ _ _ _ _ r h => by simp [spec_l17Said.f] at h, fun _ _ _ _ _ _ _ r h => by simp [spec_l17Said.j0] at h, fun _ _ _ _ _ _ _ _ r h => by simp [spec_l17Said.l0] at h, fun _ _ _ _ _ _ _ _ r h => by simp [spec_l17Said.l1] at h⟩
 | k + 1 => by
  obtain ⟨ih0, ih1, ih2, ih3⟩ := spec_l17Said.mono_l k;refine ⟨?_, ?_, ?_, ?_⟩
  ·intro y0 y1 y2 y3 y4 y5 y6;unfold spec_l17Said.f;with_reducible repeat' first | exact ih0 _ _ _ _ _ _ _ | exact ih1 _ _ _ _ _ _ _ | exact ih2 _ _ _ _ _ _ _ _ | exact ih3 _ _ _ _ _ _ _ _ | exact spec_Escape.mono _ _ _ | apply LeO.refl | apply LeO.none | apply LeO.ite | apply LeO.bind | intro
  ·intro y0 y1 y2 y3 y4 y5 y6;unfold spec_l17Said.j0;with_reducible repeat' first | exact ih0 _ _ _ _ _ _ _ | exact ih1 _ _ _ _ _ _ _ | exact ih2 _ _ _ _ _ _ _ _ | exact ih3 _ _ _ _ _ _ _ _ | exact spec_Escape.mono _ _ _ | apply LeO.refl | apply LeO.none | apply LeO.ite | apply LeO.bind | intro
  ·intro y0 y1 y2 y3 y4 y5 y6 y7;unfold spec_l17Said.l0;with_reducible repeat' first | exact ih0 _ _ _ _ _ _ _ | exact ih1 _ _ _ _ _ _ _ | exact ih2 _ _ _ _ _ _ _ _ | exact ih3 _ _ _ _ _ _ _ _ | exact spec_Escape.mono _ _ _ | apply LeO.refl | apply LeO.none | apply LeO.ite | apply LeO.bind | intro
  ·intro y0 y1 y2 y3 y4 y5 y6 y7;unfold spec_l17Said.l1;with_reducible repeat' first | exact ih0 _ _ _ _ _ _ _ | exact ih1 _ _ _ _ _ _ _ | exact ih2 _ _ _ _ _ _ _ _ | exact ih3 _ _ _ _ _ _ _ _ | exact spec_Escape.mono _ _ _ | apply LeO.refl | apply LeO.none | apply LeO.ite | apply LeO.bind | intro
theorem spec_l17Said.mono : ∀ a0 a1 a2 a3 a4 a5 a6 k, LeO (spec_l17Said.f k a0 a1 a2 a3 a4 a5 a6) (spec_l17Said.f (k + 1) a0 a1 a2 a3 a4 a5 a6) := by
 intro a0 a1 a2 a3 a4 a5 a6 k;obtain ⟨ih0, ih1, ih2, ih3⟩ := spec_l17Said.mono_l k;exact ih0 a0 a1 a2 a3 a4 a5 a6
def spec_l17Said.T12 : Bool × List (List Nat × List Nat) := (true, [([], []), ([0], [0]), ([], []), ([2], [2]), ([], []), ([3, 4], [3, 4]), ([5], [5]), ([6], [6]), ([1, 7], [1, 7]), ([8], [8]), ([], []), ([10], [10]), ([], []), ([11, 12], [11, 12]), ([13], [13]), ([14], [14]), ([15], [15]), ([9, 16], [9, 16]), ([17], [17]), ([18, 16, 0, 1, 2, 3, 4, 5, 6, 7, 8, 9, 10, 11, 12, 13, 14, 15, 16, 17, 18], [0, 18])])
def spec_l17Said.B12 : List Nat := [0, 1, 0, 4, 0, 28, 60, 124, 255, 511, 0, 1024, 0, 7168, 15360, 31744, 64512, 131071, 262143, 524287]
theorem spec_l17Said.tab12 : rtab .any (opsOf Tryz.f143 12) = spec_l17Said.T12 := by kernel_rfl
theorem spec_l17Said.bits12 : waitsOk spec_l17Said.T12.2 spec_l17Said.B12 = true := by kernel_rfl
def spec_l17Said.T19 : Bool × List (List Nat × List Nat) := (true, [([], []), ([], []), ([1], [1]), ([], []), ([2, 3], [2, 3]), ([4], [4]), ([], []), ([6], [6]), ([5, 7], [5, 7]), ([0, 8], [0, 8]), ([9, 8, 0, 1, 2, 3, 4, 5, 6, 7, 8, 9], [0, 9])])
def spec_l17Said.B19 : List Nat := [0, 0, 2, 0, 14, 30, 0, 64, 254, 511, 1023]
theorem spec_l17Said.tab19 : rtab .any (opsOf Tryz.f143 19) = spec_l17Said.T19 := by kernel_rfl
theorem spec_l17Said.bits19 : waitsOk spec_l17Said.T19.2 spec_l17Said.B19 = true := by kernel_rfl
theorem spec_l17Said.calls (k : Nat) : ∀ (a0_0 : Int) (a0_1 : Int) (a0_2 : BA) (A0_3 : Option Addr) (c0_3 : Nat) (l0_3 : List (S36)) (a0_4 : BA) (A0_5 : Option Addr) (c0_5 : Nat) (l0_5 : List (S43)) (a1 : Int) (r : BA) (w : World) (hr0_3 : Kd.C k36 w A0_3 l0_3.length l0_3) (hc0_3 : l0_3.length ≤ c0_3) (hr0_5 : Kd.C k43 w A0_5 l0_5.length l0_5) (hc0_5 : l0_5.length ≤ c0_5) (h : spec_l17Said.f k a0_0 a0_1 a0_2 l0_3 a0_4 l0_5 a1 = some r),
  Calls Tryz.prog 143 #[.agg #[.int .i64 a0_0, .int .i64 a0_1, .string a0_2, .slice A0_3 l0_3.length c0_3, .string a0_4, .slice A0_5 l0_5.length c0_5], .int .i64 a1] w fun e w' => e = .returned (.string r) ∧ Below w.heap.size w w' := by
 induction k using Nat.strongRecOn with
 | _ k ih =>
 intro a0_0 a0_1 a0_2 A0_3 c0_3 l0_3 a0_4 A0_5 c0_5 l0_5 a1 r w hr0_3 hc0_3 hr0_5 hc0_5 h;cases k with
 | zero => exact absurd h (by simp [spec_l17Said.f])
 | succ k =>
 simp only [spec_l17Said.f] at h;have hu43 := Tryz.underlying43;have HR0_3 := A_ hr0_3;have HC0_3 := A_ hc0_3;clear hr0_3 hc0_3;have HR0_5 := A_ hr0_5;have HC0_5 := A_ hc0_5;clear hr0_5 hc0_5;have HB := A_ (Below.refl w.heap.size w);have H : (if a0_0 = 2 then ((spec_Escape.f k a0_4 false).bind fun t708 => (some t708)) else (if a0_0 = 3 then (if 4 + a0_4.size ≤ 9223372036854775807 then (if ((⟨#[60, 33, 45, 45]⟩ : BA) ++ a0_4).size + 3 ≤ 9223372036854775807 then (some (((⟨#[60, 33, 45, 45]⟩ : BA) ++ a0_4) ++ (⟨#[45, 45, 62]⟩ : BA))) else (none)) else (none)) else (if 1 + a0_2.size ≤ 9223372036854775807 then (if a0_1 = a1 then (spec_l17Said.j0 k ((⟨#[60]⟩ : BA) ++ a0_2) a0_0 a0_1 a0_2 l0_3 a0_4 l0_5) else (if ((⟨#[60]⟩ : BA) ++ a0_2).size + 8 ≤ 9223372036854775807 then ((spec_SpaceName.f a0_1).bind fun t709 => (if (((⟨#[60]⟩ : BA) ++ a0_2) ++ (⟨#[32, 120, 109, 108, 110, 115, 61, 34]⟩ : BA)).size + t709.size ≤ 9223372036854775807 then (if ((((⟨#[60]⟩ : BA) ++ a0_2) ++ (⟨#[32, 120, 109, 108, 110, 115, 61, 34]⟩ : BA)) ++ t709).size + 1 ≤ 9223372036854775807 then (spec_l17Said.j0 k (((((⟨#[60]⟩ : BA) ++ a0_2) ++ (⟨#[32, 120, 109, 108, 110, 115, 61, 34]⟩ : BA)) ++ t709) ++ (⟨#[34]⟩ : BA)) a0_0 a0_1 a0_2 l0_3 a0_4 l0_5) else (none)) else (none))) else (none))) else (none)))) = some r := h;clear h;rcases ic_ H with ⟨c3, H⟩ | ⟨c3, H⟩
 ·obtain ⟨c3b0, c3b1⟩ := be_ c3;clear c3;obtain ⟨t708, A4, H⟩ := ob_ H;obtain rfl := sI_ H;go_enter Tryz.func143, Tryz.ntmps143
  go_wp2_with (first | (refine gate_dst (N := 2) rfl ?_; refine bE_ #[.int .i64 a0_0, .int .i64 a0_1, .string a0_2, .slice A0_3 l0_3.length c0_3, .string a0_4, .slice A0_5 l0_5.length c0_5] 43 ?_; intro gb707 hg w5 hbox hb; have BK707 := A_ (hbox); have GW707 := hs_ hg; have GE707 := hs_ hg; replace HB := bS_ hb; clear hb hbox hg; obtain ⟨hcz6_0, hcz6_1, hcz6_2, hcz6_3, hcz6_4, hcz6_5, hfz6_0, hfz6_1, hfz6_2, hfz6_3, hfz6_4, hfz6_5⟩ := bk6_ BK707.out) | (refine gL_ 14 Tryz.func12 #[.string a0_4, .bool false] ?_; (with_reducible refine (spec_Escape.calls k a0_4 false t708 _ A4.out).mono ?_); rintro e w7 ⟨rfl, hb⟩; refine ⟨_, rfl, ?_⟩; replace BK707 := A_ (blk_below (g := gb707) (o := .cells #[.int .i64 a0_0, .int .i64 a0_1, .string a0_2, .slice A0_3 l0_3.length c0_3, .string a0_4, .slice A0_5 l0_5.length c0_5] 43 (0, 0)) (blk_below BK707.out hR_) hb); replace HB := bS_ hb; clear hb))
  go_ret
  exact ⟨e1_, hB_⟩
 ·obtain ⟨c3b0, c3b1⟩ := bn_ c3;rcases ic_ H with ⟨c8, H⟩ | ⟨c8, H⟩
  ·obtain ⟨c8b0, c8b1⟩ := be_ c8;clear c8;obtain ⟨c9, H⟩ := ifn_ H;have c9b0 := eq_true c9;have c9b1 := dE_ c9;try have c9b2 : (9223372036854775807 < 4 + a0_4.size) = False := eq_false (Nat.not_lt.2 c9)
   obtain ⟨c10, H⟩ := ifn_ H;have c10b0 := eq_true c10;have c10b1 := dE_ c10;try have c10b2 : (9223372036854775807 < ((⟨#[60, 33, 45, 45]⟩ : BA) ++ a0_4).size + 3) = False := eq_false (Nat.not_lt.2 c10)
   (try (have c10b23 := c10b2; simp only [ByteArray.size_append, show (⟨#[60, 33, 45, 45]⟩ : BA).size = 4 from rfl] at c10b23))
   obtain rfl := sI_ H;go_enter Tryz.func143, Tryz.ntmps143
   go_wp2_with (first | (refine gate_dst (N := 2) rfl ?_; refine bE_ #[.int .i64 a0_0, .int .i64 a0_1, .string a0_2, .slice A0_3 l0_3.length c0_3, .string a0_4, .slice A0_5 l0_5.length c0_5] 43 ?_; intro gb707 hg w11 hbox hb; have BK707 := A_ (hbox); have GW707 := hs_ hg; have GE707 := hs_ hg; replace HB := bS_ hb; clear hb hbox hg; obtain ⟨hcz12_0, hcz12_1, hcz12_2, hcz12_3, hcz12_4, hcz12_5, hfz12_0, hfz12_1, hfz12_2, hfz12_3, hfz12_4, hfz12_5⟩ := bk6_ BK707.out))
   go_ret
   exact ⟨e1_, hB_⟩
  ·obtain ⟨c8b0, c8b1⟩ := bn_ c8;obtain ⟨c13, H⟩ := ifn_ H;have c13b0 := eq_true c13;have c13b1 := dE_ c13;try have c13b2 : (9223372036854775807 < 1 + a0_2.size) = False := eq_false (Nat.not_lt.2 c13)
   have HC14 := A_ H;clear H;go_enter Tryz.func143, Tryz.ntmps143
   go_upto_if 27 with (first | (refine gate_dst (N := 2) rfl ?_; refine bE_ #[.int .i64 a0_0, .int .i64 a0_1, .string a0_2, .slice A0_3 l0_3.length c0_3, .string a0_4, .slice A0_5 l0_5.length c0_5] 43 ?_; intro gb707 hg w15 hbox hb; have BK707 := A_ (hbox); have GW707 := hs_ hg; have GE707 := hs_ hg; replace HB := bS_ hb; clear hb hbox hg; obtain ⟨hcz16_0, hcz16_1, hcz16_2, hcz16_3, hcz16_4, hcz16_5, hfz16_0, hfz16_1, hfz16_2, hfz16_3, hfz16_4, hfz16_5⟩ := bk6_ BK707.out))
   (try simp only [Act.put, List.setIfInBounds_toArray, List.set_cons_zero, List.set_cons_succ])
   go_cut [5] (fun v5 wc => ∃ (kq : Nat) (x5_13 : BA), v5 = .string x5_13 ∧ As9 (spec_l17Said.j0 kq x5_13 a0_0 a0_1 a0_2 l0_3 a0_4 l0_5 = some r) ∧ As9 (kq ≤ k) ∧ As9 (wc.heap[gb707]? = some (.cells #[.int .i64 a0_0, .int .i64 a0_1, .string a0_2, (.slice A0_3 l0_3.length c0_3), .string a0_4, (.slice A0_5 l0_5.length c0_5)] 43 (0, 0))) ∧ As9 (Below w.heap.size w wc))
   case first =>
    have H := HC14.out;clear HC14;rcases ic_ H with ⟨c17, H⟩ | ⟨c17, H⟩
    ·obtain ⟨c17b0, c17b1⟩ := be_ c17;clear c17;(first | rw [c17b0] | (simp only [i64_w, i32_w]; rw [c17b0]) | skip)
     have H' := A_ H;clear H;go_wp2
     go_meet
     case rel => exact ⟨_, ((⟨#[60]⟩ : BA) ++ a0_2), e2_, H', ⟨by first | omega | exact Nat.le_refl _⟩, ⟨blk_below BK707.out hR_⟩, ⟨hB_⟩⟩
    ·obtain ⟨c17b0, c17b1⟩ := bn_ c17;(first | rw [c17b0] | (simp only [i64_w, i32_w]; rw [c17b0]) | skip)
     obtain ⟨c18, H⟩ := ifn_ H;have c18b0 := eq_true c18;have c18b1 := dE_ c18;try have c18b2 : (9223372036854775807 < ((⟨#[60]⟩ : BA) ++ a0_2).size + 8) = False := eq_false (Nat.not_lt.2 c18)
     (try (have c18b23 := c18b2; simp only [ByteArray.size_append, show (⟨#[60]⟩ : BA).size = 1 from rfl] at c18b23))
     obtain ⟨t709, A19, H⟩ := ob_ H;obtain ⟨c20, H⟩ := ifn_ H;have c20b0 := eq_true c20;have c20b1 := dE_ c20;try have c20b2 : (9223372036854775807 < (((⟨#[60]⟩ : BA) ++ a0_2) ++ (⟨#[32, 120, 109, 108, 110, 115, 61, 34]⟩ : BA)).size + t709.size) = False := eq_false (Nat.not_lt.2 c20)
     (try (have c20b23 := c20b2; simp only [ByteArray.size_append, show (⟨#[32, 120, 109, 108, 110, 115, 61, 34]⟩ : BA).size = 8 from rfl, show (⟨#[60]⟩ : BA).size = 1 from rfl] at c20b23))
     obtain ⟨c21, H⟩ := ifn_ H;have c21b0 := eq_true c21;have c21b1 := dE_ c21;try have c21b2 : (9223372036854775807 < ((((⟨#[60]⟩ : BA) ++ a0_2) ++ (⟨#[32, 120, 109, 108, 110, 115, 61, 34]⟩ : BA)) ++ t709).size + 1) = False := eq_false (Nat.not_lt.2 c21)
     (try (have c21b23 := c21b2; simp only [ByteArray.size_append, show (⟨#[32, 120, 109, 108, 110, 115, 61, 34]⟩ : BA).size = 8 from rfl, show (⟨#[60]⟩ : BA).size = 1 from rfl] at c21b23))
     have H' := A_ H;clear H;obtain ⟨hcz22_0, hcz22_1, hcz22_2, hcz22_3, hcz22_4, hcz22_5, hfz22_0, hfz22_1, hfz22_2, hfz22_3, hfz22_4, hfz22_5⟩ := bk6_ BK707.out;go_wp2_with (first | (refine gL_ 32 Tryz.func14 #[.int .i64 a0_1] ?_; refine dm_ (spec_SpaceName.calls a0_1 t709 _ A19.out) fun nd => ?_))
     go_meet
     case rel => exact ⟨_, (((((⟨#[60]⟩ : BA) ++ a0_2) ++ (⟨#[32, 120, 109, 108, 110, 115, 61, 34]⟩ : BA)) ++ t709) ++ (⟨#[34]⟩ : BA)), e2_, H', ⟨by first | omega | exact Nat.le_refl _⟩, ⟨blk_below BK707.out hR_⟩, ⟨hB_⟩⟩
   case rest =>
    clear HC14;try clear c1
    try clear c2
    try clear p2
    try clear c3
    try clear c3b0
    try clear c3b1
    try clear c8
    try clear c8b0
    try clear c8b1
    try clear c9
    try clear c9b0
    try clear c9b1
    try clear c9b2
    try clear c10
    try clear c10b0
    try clear c10b1
    try clear c10b2
    try clear c12
    try clear c13
    try clear c13b0
    try clear c13b1
    try clear c13b2
    try clear c14
    try clear c17
    try clear c17b0
    try clear c17b1
    try clear c18
    try clear c18b0
    try clear c18b1
    try clear c18b2
    try clear c20
    try clear c20b0
    try clear c20b1
    try clear c20b2
    try clear c21
    try clear c21b0
    try clear c21b1
    try clear c21b2
    try clear hcz12_0
    try clear hcz12_1
    try clear hcz12_2
    try clear hcz12_3
    try clear hcz12_4
    try clear hcz12_5
    try clear hcz16_0
    try clear hcz16_1
    try clear hcz16_2
    try clear hcz16_3
    try clear hcz16_4
    try clear hcz16_5
    try clear hcz22_0
    try clear hcz22_1
    try clear hcz22_2
    try clear hcz22_3
    try clear hcz22_4
    try clear hcz22_5
    try clear hcz6_0
    try clear hcz6_1
    try clear hcz6_2
    try clear hcz6_3
    try clear hcz6_4
    try clear hcz6_5
    try clear hfz12_0
    try clear hfz12_1
    try clear hfz12_2
    try clear hfz12_3
    try clear hfz12_4
    try clear hfz12_5
    try clear hfz16_0
    try clear hfz16_1
    try clear hfz16_2
    try clear hfz16_3
    try clear hfz16_4
    try clear hfz16_5
    try clear hfz22_0
    try clear hfz22_1
    try clear hfz22_2
    try clear hfz22_3
    try clear hfz22_4
    try clear hfz22_5
    try clear hfz6_0
    try clear hfz6_1
    try clear hfz6_2
    try clear hfz6_3
    try clear hfz6_4
    try clear hfz6_5
    obtain ⟨kq, x5_13, rfl, HA, HJ13, BK707, HB⟩ := hcut;cases kq with
    | zero => exact absurd HA.out (by simp [spec_l17Said.j0])
    | succ kj13 =>
     have H := HA.out;clear HA;simp only [spec_l17Said.j0] at H;have H' := A_ H;clear H;go_wp2
     go_loopg [5, 6] kj13 (fun kq v5 v6 w' => ∃ (x5_2 : BA) (x6_2 : Int), v5 = .string x5_2 ∧ v6 = .int .i64 x6_2 ∧ As9 (spec_l17Said.l0 kq x5_2 x6_2 a0_0 a0_1 a0_2 l0_3 a0_4 l0_5 = some r) ∧ As9 (kq ≤ kj13) ∧ As9 (w'.heap[gb707]? = some (.cells #[.int .i64 a0_0, .int .i64 a0_1, .string a0_2, (.slice A0_3 l0_3.length c0_3), .string a0_4, (.slice A0_5 l0_5.length c0_5)] 43 (0, 0))) ∧ As9 (Below w.heap.size w w'))
     case atStart => exact ⟨(x5_13), (0), e2_, e2_, H', ⟨Nat.le_refl _⟩, ⟨blk_below BK707.out hR_⟩, ⟨hB_⟩⟩
     case round =>
      clear H';try clear c1
      try clear c2
      try clear p2
      try clear c3
      try clear c3b0
      try clear c3b1
      try clear c8
      try clear c8b0
      try clear c8b1
      try clear c9
      try clear c9b0
      try clear c9b1
      try clear c9b2
      try clear c10
      try clear c10b0
      try clear c10b1
      try clear c10b2
      try clear c12
      try clear c13
      try clear c13b0
      try clear c13b1
      try clear c13b2
      try clear c14
      try clear c17
      try clear c17b0
      try clear c17b1
      try clear c18
      try clear c18b0
      try clear c18b1
      try clear c18b2
      try clear c20
      try clear c20b0
      try clear c20b1
      try clear c20b2
      try clear c21
      try clear c21b0
      try clear c21b1
      try clear c21b2
      try clear hcz12_0
      try clear hcz12_1
      try clear hcz12_2
      try clear hcz12_3
      try clear hcz12_4
      try clear hcz12_5
      try clear hcz16_0
      try clear hcz16_1
      try clear hcz16_2
      try clear hcz16_3
      try clear hcz16_4
      try clear hcz16_5
      try clear hcz22_0
      try clear hcz22_1
      try clear hcz22_2
      try clear hcz22_3
      try clear hcz22_4
      try clear hcz22_5
      try clear hcz6_0
      try clear hcz6_1
      try clear hcz6_2
      try clear hcz6_3
      try clear hcz6_4
      try clear hcz6_5
      try clear hfz12_0
      try clear hfz12_1
      try clear hfz12_2
      try clear hfz12_3
      try clear hfz12_4
      try clear hfz12_5
      try clear hfz16_0
      try clear hfz16_1
      try clear hfz16_2
      try clear hfz16_3
      try clear hfz16_4
      try clear hfz16_5
      try clear hfz22_0
      try clear hfz22_1
      try clear hfz22_2
      try clear hfz22_3
      try clear hfz22_4
      try clear hfz22_5
      try clear hfz6_0
      try clear hfz6_1
      try clear hfz6_2
      try clear hfz6_3
      try clear hfz6_4
      try clear hfz6_5
      try clear p2
      obtain ⟨x5_2, x6_2, rfl, rfl, HA, HK2, BK707, HB⟩ := hrel;cases gk with
      | zero => exact absurd HA.out (by simp [spec_l17Said.l0])
      | succ k2 =>
       have H := HA.out;clear HA;simp only [spec_l17Said.l0] at H;rcases ic_ H with ⟨c23, H⟩ | ⟨c23, H⟩
       ·have c23b0 := dE_ c23;clear c23;obtain ⟨c24, H⟩ := ifn_ H;have c24b0 := eq_true c24;have c24b1 := dE_ c24;try have c24b2 : (9223372036854775807 < x5_2.size + 1) = False := eq_false (Nat.not_lt.2 c24)
        obtain ⟨c25, H⟩ := ifn_ H;have c25b0 := dE_ c25;clear c25;obtain ⟨c26, H⟩ := ifn_ H;have c26b0 := eq_true c26;have c26b1 := dE_ c26;try have c26b2 : (9223372036854775807 < (x5_2 ++ (⟨#[32]⟩ : BA)).size + ((rd_T36 l0_3 x6_2).f0).size) = False := eq_false (Nat.not_lt.2 c26)
        (try (have c26b23 := c26b2; simp only [ByteArray.size_append, show (⟨#[32]⟩ : BA).size = 1 from rfl] at c26b23))
        obtain ⟨c27, H⟩ := ifn_ H;have c27b0 := eq_true c27;have c27b1 := dE_ c27;try have c27b2 : (9223372036854775807 < ((x5_2 ++ (⟨#[32]⟩ : BA)) ++ ((rd_T36 l0_3 x6_2).f0)).size + 2) = False := eq_false (Nat.not_lt.2 c27)
        (try (have c27b23 := c27b2; simp only [ByteArray.size_append, show (⟨#[32]⟩ : BA).size = 1 from rfl] at c27b23))
        obtain ⟨t712, A28, H⟩ := ob_ H;obtain ⟨c29, H⟩ := ifn_ H;have c29b0 := eq_true c29;have c29b1 := dE_ c29;try have c29b2 : (9223372036854775807 < (((x5_2 ++ (⟨#[32]⟩ : BA)) ++ ((rd_T36 l0_3 x6_2).f0)) ++ (⟨#[61, 34]⟩ : BA)).size + t712.size) = False := eq_false (Nat.not_lt.2 c29)
        (try (have c29b23 := c29b2; simp only [ByteArray.size_append, show (⟨#[32]⟩ : BA).size = 1 from rfl, show (⟨#[61, 34]⟩ : BA).size = 2 from rfl] at c29b23))
        obtain ⟨c30, H⟩ := ifn_ H;have c30b0 := eq_true c30;have c30b1 := dE_ c30;try have c30b2 : (9223372036854775807 < ((((x5_2 ++ (⟨#[32]⟩ : BA)) ++ ((rd_T36 l0_3 x6_2).f0)) ++ (⟨#[61, 34]⟩ : BA)) ++ t712).size + 1) = False := eq_false (Nat.not_lt.2 c30)
        (try (have c30b23 := c30b2; simp only [ByteArray.size_append, show (⟨#[32]⟩ : BA).size = 1 from rfl, show (⟨#[61, 34]⟩ : BA).size = 2 from rfl] at c30b23))
        have H' := A_ H;clear H;obtain ⟨hcz31_0, hcz31_1, hcz31_2, hcz31_3, hcz31_4, hcz31_5, hfz31_0, hfz31_1, hfz31_2, hfz31_3, hfz31_4, hfz31_5⟩ := bk6_ BK707.out;try go_wp2
        replace BK707 := A_ (blk_drew BK707.out);replace HB := A_ (bD9 HB.out);obtain ⟨p710, q710, ad710, e710, hw710_0, hw710_1, hx710_0, hx710_1⟩ := aW36_ HB.out HR0_3.out x6_2;cases e710;obtain ⟨p711, q711, ad711, e711, hw711_0, hw711_1, hx711_0, hx711_1⟩ := aW36_ HB.out HR0_3.out x6_2;obtain rfl : ad710 = ad711 := (by injection e711);refine start_ (n := 20) (S := fun w' => w'.cell? ⟨gb707, 0, none⟩ = some (.int .i64 a0_0) ∧ w'.cell? ⟨gb707, 1, none⟩ = some (.int .i64 a0_1) ∧ w'.cell? ⟨gb707, 2, none⟩ = some (.string a0_2) ∧ w'.cell? ⟨gb707, 3, none⟩ = some (.slice (some ad710) l0_3.length c0_3) ∧ w'.cell? ⟨gb707, 4, none⟩ = some (.string a0_4) ∧ w'.cell? ⟨gb707, 5, none⟩ = some (.slice A0_5 l0_5.length c0_5) ∧ w'.cell? (ad710.add ((x6_2).toNat * 2)) = some (.string ((rd_T36 l0_3 x6_2).f0)) ∧ w'.cell? ⟨(ad710.add ((x6_2).toNat * 2)).block, (ad710.add ((x6_2).toNat * 2)).off + 1, none⟩ = some (.string ((rd_T36 l0_3 x6_2).f1)) ∧ w'.cell? (ad710.add ((x6_2).toNat * 2)) = some (.string ((rd_T36 l0_3 x6_2).f0)) ∧ w'.cell? ⟨(ad710.add ((x6_2).toNat * 2)).block, (ad710.add ((x6_2).toNat * 2)).off + 1, none⟩ = some (.string ((rd_T36 l0_3 x6_2).f1))) (ds := []) (tS 20 0) (by kernel_rfl) rfl rfl ⟨(blk_cell BK707.out 0).trans rfl, (blk_cell BK707.out 1).trans rfl, (blk_cell BK707.out 2).trans rfl, (blk_cell BK707.out 3).trans rfl, (blk_cell BK707.out 4).trans rfl, (blk_cell BK707.out 5).trans rfl, (cB_ HB.out hw710_0), (cB_ HB.out hw710_1), (cB_ HB.out hw711_0), (cB_ HB.out hw711_1)⟩ (fun hHeld => ?_); refine with_tabW spec_l17Said.tab12 spec_l17Said.bits12 (fun HT_ HW_ => ?_);generalize wr.drew = w32 at BK707 HB hx710_0 hx710_1 hx711_0 hx711_1 hHeld ⊢;iterate 3 refine pqT_ ?_
        refine pgT_ 4 (tB 20 23) ?_;refine pgT_ 10 (tB 20 1047) ?_;refine pgT_ 12 (tB 20 5143) ?_;refine tgT_ 3 (tB 20 5151) rfl (by rintro w' ⟨s0, s1, s2, s3, s4, s5, s6, s7, s8, s9⟩; go_simp; with_reducible rfl) ?_;refine pgT_ 5 (tB 20 5183) ?_;refine pgT_ 6 (tB 20 5247) ?_;refine tgT_ 7 (tB 20 5375) rfl (by rintro w' ⟨s0, s1, s2, s3, s4, s5, s6, s7, s8, s9⟩; go_simp; with_reducible rfl) ?_;refine pgT_ 8 (tB 20 5631) ?_;refine pgT_ 9 (tB 20 6143) ?_;refine tgT_ 11 (tS 20 13) rfl (by rintro w' ⟨s0, s1, s2, s3, s4, s5, s6, s7, s8, s9⟩; go_simp; with_reducible rfl) ?_;refine pqT_ ?_;refine pqT_ ?_;refine tqT_ rfl (by rintro w' ⟨s0, s1, s2, s3, s4, s5, s6, s7, s8, s9⟩; go_simp; with_reducible rfl) ?_;refine n1T_ 16 (tS 20 17) rfl fun K hK => ?_
        refine gS_ Tryz.func12 #[.string ((rd_T36 l0_3 x6_2).f1), .bool true] ?_;with_reducible refine (spec_Escape.calls k2 ((rd_T36 l0_3 x6_2).f1) true t712 _ A28.out).mono ?_
        rintro e w33 ⟨rfl, hb⟩;refine ⟨_, rfl, ?_⟩;replace BK707 := A_ (blk_below (g := gb707) (o := .cells #[.int .i64 a0_0, .int .i64 a0_1, .string a0_2, .slice (some ad710) l0_3.length c0_3, .string a0_4, .slice A0_5 l0_5.length c0_5] 43 (0, 0)) (blk_below BK707.out hR_) hb);replace HB := bS_ hb;clear hb;refine hK.out _ _ ⟨(blk_cell BK707.out 0).trans rfl, (blk_cell BK707.out 1).trans rfl, (blk_cell BK707.out 2).trans rfl, (blk_cell BK707.out 3).trans rfl, (blk_cell BK707.out 4).trans rfl, (blk_cell BK707.out 5).trans rfl, (cB_ HB.out hw710_0), (cB_ HB.out hw710_1), (cB_ HB.out hw711_0), (cB_ HB.out hw711_1)⟩ (fun hHeld => ?_);clear hK K;refine nm_ ?_;iterate 3 refine pqT_ ?_
        refine done_ (done_of HT_.out (by kernel_rfl)) ?_;try go_wp2
        go_roundg k2
        case measure => have := HJ13.out; have := HK2.out; omega
        case rel => exact ⟨(((((x5_2 ++ (⟨#[32]⟩ : BA)) ++ ((rd_T36 l0_3 x6_2).f0)) ++ (⟨#[61, 34]⟩ : BA)) ++ t712) ++ (⟨#[34]⟩ : BA)), (wrap64 (x6_2 + 1)), e2_, e2_, H', ⟨by have := HJ13.out; have := HK2.out; omega⟩, ⟨blk_below BK707.out hR_⟩, ⟨hB_⟩⟩
       ·have c23b0 := dF_ c23;clear c23;rcases ic_ H with ⟨c34, H⟩ | ⟨c34, H⟩
        ·obtain ⟨c34b0, c34b1⟩ := be_ c34;clear c34;obtain ⟨c35, H⟩ := ifn_ H;have c35b0 := eq_true c35;have c35b1 := dE_ c35;try have c35b2 : (9223372036854775807 < x5_2.size + 2) = False := eq_false (Nat.not_lt.2 c35)
         obtain rfl := sI_ H;obtain ⟨hcz36_0, hcz36_1, hcz36_2, hcz36_3, hcz36_4, hcz36_5, hfz36_0, hfz36_1, hfz36_2, hfz36_3, hfz36_4, hfz36_5⟩ := bk6_ BK707.out;go_wp2
         go_ret
         exact ⟨e1_, hB_⟩
        ·obtain ⟨c34b0, c34b1⟩ := bn_ c34;have c34b2 : ¬ (l0_5 = []) := fun h_ => c34 (by rw [h_]; rfl)
         obtain ⟨c37, H⟩ := ifn_ H;have c37b0 := eq_true c37;have c37b1 := dE_ c37;try have c37b2 : (9223372036854775807 < x5_2.size + 1) = False := eq_false (Nat.not_lt.2 c37)
         have H' := A_ H;clear H;obtain ⟨hcz38_0, hcz38_1, hcz38_2, hcz38_3, hcz38_4, hcz38_5, hfz38_0, hfz38_1, hfz38_2, hfz38_3, hfz38_4, hfz38_5⟩ := bk6_ BK707.out;go_wp2
         go_loopg [5, 7] k2 (fun kq v5 v7 w' => ∃ (x5_3 : BA) (x7_3 : Int), v5 = .string x5_3 ∧ v7 = .int .i64 x7_3 ∧ As9 (spec_l17Said.l1 kq x5_3 x7_3 a0_0 a0_1 a0_2 l0_3 a0_4 l0_5 = some r) ∧ As9 (kq ≤ k2) ∧ As9 (w'.heap[gb707]? = some (.cells #[.int .i64 a0_0, .int .i64 a0_1, .string a0_2, (.slice A0_3 l0_3.length c0_3), .string a0_4, (.slice A0_5 l0_5.length c0_5)] 43 (0, 0))) ∧ As9 (Below w.heap.size w w'))
         case atStart => exact ⟨(x5_2 ++ (⟨#[62]⟩ : BA)), (0), e2_, e2_, H', ⟨Nat.le_refl _⟩, ⟨blk_below BK707.out hR_⟩, ⟨hB_⟩⟩
         case round =>
          clear H';try clear c1
          try clear c2
          try clear p2
          try clear c3
          try clear c3b0
          try clear c3b1
          try clear p6
          try clear p7
          try clear q7
          try clear hx7
          try clear c8
          try clear c8b0
          try clear c8b1
          try clear c9
          try clear c9b0
          try clear c9b1
          try clear c9b2
          try clear c10
          try clear c10b0
          try clear c10b1
          try clear c10b2
          try clear c12
          try clear c13
          try clear c13b0
          try clear c13b1
          try clear c13b2
          try clear c14
          try clear c17
          try clear c17b0
          try clear c17b1
          try clear c18
          try clear c18b0
          try clear c18b1
          try clear c18b2
          try clear c20
          try clear c20b0
          try clear c20b1
          try clear c20b2
          try clear c21
          try clear c21b0
          try clear c21b1
          try clear c21b2
          try clear c23
          try clear c23b0
          try clear c24
          try clear c24b0
          try clear c24b1
          try clear c24b2
          try clear c25
          try clear c25b0
          try clear c26
          try clear c26b0
          try clear c26b1
          try clear c26b2
          try clear c27
          try clear c27b0
          try clear c27b1
          try clear c27b2
          try clear c29
          try clear c29b0
          try clear c29b1
          try clear c29b2
          try clear c30
          try clear c30b0
          try clear c30b1
          try clear c30b2
          try clear c34
          try clear c34b0
          try clear c34b1
          try clear c34b2
          try clear c35
          try clear c35b0
          try clear c35b1
          try clear c35b2
          try clear c37
          try clear c37b0
          try clear c37b1
          try clear c37b2
          try clear hcz12_0
          try clear hcz12_1
          try clear hcz12_2
          try clear hcz12_3
          try clear hcz12_4
          try clear hcz12_5
          try clear hcz16_0
          try clear hcz16_1
          try clear hcz16_2
          try clear hcz16_3
          try clear hcz16_4
          try clear hcz16_5
          try clear hcz22_0
          try clear hcz22_1
          try clear hcz22_2
          try clear hcz22_3
          try clear hcz22_4
          try clear hcz22_5
          try clear hcz31_0
          try clear hcz31_1
          try clear hcz31_2
          try clear hcz31_3
          try clear hcz31_4
          try clear hcz31_5
          try clear hcz36_0
          try clear hcz36_1
          try clear hcz36_2
          try clear hcz36_3
          try clear hcz36_4
          try clear hcz36_5
          try clear hcz38_0
          try clear hcz38_1
          try clear hcz38_2
          try clear hcz38_3
          try clear hcz38_4
          try clear hcz38_5
          try clear hcz6_0
          try clear hcz6_1
          try clear hcz6_2
          try clear hcz6_3
          try clear hcz6_4
          try clear hcz6_5
          try clear hfz12_0
          try clear hfz12_1
          try clear hfz12_2
          try clear hfz12_3
          try clear hfz12_4
          try clear hfz12_5
          try clear hfz16_0
          try clear hfz16_1
          try clear hfz16_2
          try clear hfz16_3
          try clear hfz16_4
          try clear hfz16_5
          try clear hfz22_0
          try clear hfz22_1
          try clear hfz22_2
          try clear hfz22_3
          try clear hfz22_4
          try clear hfz22_5
          try clear hfz31_0
          try clear hfz31_1
          try clear hfz31_2
          try clear hfz31_3
          try clear hfz31_4
          try clear hfz31_5
          try clear hfz36_0
          try clear hfz36_1
          try clear hfz36_2
          try clear hfz36_3
          try clear hfz36_4
          try clear hfz36_5
          try clear hfz38_0
          try clear hfz38_1
          try clear hfz38_2
          try clear hfz38_3
          try clear hfz38_4
          try clear hfz38_5
          try clear hfz6_0
          try clear hfz6_1
          try clear hfz6_2
          try clear hfz6_3
          try clear hfz6_4
          try clear hfz6_5
          try clear hx710_0
          try clear hx710_1
          try clear hx711_0
          try clear hx711_1
          try clear p2
          try clear p710
          try clear p711
          try clear q710
          try clear q711
          obtain ⟨x5_3, x7_3, rfl, rfl, HA, HK3, BK707, HB⟩ := hrel;cases gk with
          | zero => exact absurd HA.out (by simp [spec_l17Said.l1])
          | succ k3 =>
           have H := HA.out;clear HA;simp only [spec_l17Said.l1] at H;rcases ic_ H with ⟨c39, H⟩ | ⟨c39, H⟩
           ·have c39b0 := dE_ c39;clear c39;obtain ⟨c40, H⟩ := ifn_ H;have c40b0 := dE_ c40;clear c40;obtain ⟨t714, A41, H⟩ := ob_ H;obtain ⟨c42, H⟩ := ifn_ H;have c42b0 := eq_true c42;have c42b1 := dE_ c42;try have c42b2 : (9223372036854775807 < x5_3.size + t714.size) = False := eq_false (Nat.not_lt.2 c42)
            have H' := A_ H;clear H;obtain ⟨hcz43_0, hcz43_1, hcz43_2, hcz43_3, hcz43_4, hcz43_5, hfz43_0, hfz43_1, hfz43_2, hfz43_3, hfz43_4, hfz43_5⟩ := bk6_ BK707.out;try go_wp2
            replace BK707 := A_ (blk_drew BK707.out);replace HB := A_ (bD9 HB.out);obtain ⟨p713, q713, ad713, A713_3, c713_3, A713_5, c713_5, e713, hw713_0, hw713_1, hw713_2, hw713_3, hw713_4, hw713_5, hx713_0, hx713_1, hx713_2, hx713_3, hx713_4, hx713_5, HC713_3, HR713_3, HC713_5, HR713_5⟩ := aW43_ HB.out HR0_5.out x7_3;cases e713;refine start_ (n := 11) (S := fun w' => w'.cell? ⟨gb707, 0, none⟩ = some (.int .i64 a0_0) ∧ w'.cell? ⟨gb707, 1, none⟩ = some (.int .i64 a0_1) ∧ w'.cell? ⟨gb707, 2, none⟩ = some (.string a0_2) ∧ w'.cell? ⟨gb707, 3, none⟩ = some (.slice A0_3 l0_3.length c0_3) ∧ w'.cell? ⟨gb707, 4, none⟩ = some (.string a0_4) ∧ w'.cell? ⟨gb707, 5, none⟩ = some (.slice (some ad713) l0_5.length c0_5) ∧ w'.cell? (ad713.add ((x7_3).toNat * 6)) = some (.int .i64 ((rd_T43 l0_5 x7_3).f0)) ∧ w'.cell? ⟨(ad713.add ((x7_3).toNat * 6)).block, (ad713.add ((x7_3).toNat * 6)).off + 1, none⟩ = some (.int .i64 ((rd_T43 l0_5 x7_3).f1)) ∧ w'.cell? ⟨(ad713.add ((x7_3).toNat * 6)).block, (ad713.add ((x7_3).toNat * 6)).off + 2, none⟩ = some (.string ((rd_T43 l0_5 x7_3).f2)) ∧ w'.cell? ⟨(ad713.add ((x7_3).toNat * 6)).block, (ad713.add ((x7_3).toNat * 6)).off + 3, none⟩ = some (.slice A713_3 ((rd_T43 l0_5 x7_3).f3).length c713_3) ∧ w'.cell? ⟨(ad713.add ((x7_3).toNat * 6)).block, (ad713.add ((x7_3).toNat * 6)).off + 4, none⟩ = some (.string ((rd_T43 l0_5 x7_3).f4)) ∧ w'.cell? ⟨(ad713.add ((x7_3).toNat * 6)).block, (ad713.add ((x7_3).toNat * 6)).off + 5, none⟩ = some (.slice A713_5 ((rd_T43 l0_5 x7_3).f5).length c713_5)) (ds := []) (tS 11 0) (by kernel_rfl) rfl rfl ⟨(blk_cell BK707.out 0).trans rfl, (blk_cell BK707.out 1).trans rfl, (blk_cell BK707.out 2).trans rfl, (blk_cell BK707.out 3).trans rfl, (blk_cell BK707.out 4).trans rfl, (blk_cell BK707.out 5).trans rfl, (cB_ HB.out hw713_0), (cB_ HB.out hw713_1), (cB_ HB.out hw713_2), (cB_ HB.out hw713_3), (cB_ HB.out hw713_4), (cB_ HB.out hw713_5)⟩ (fun hHeld => ?_); refine with_tabW spec_l17Said.tab19 spec_l17Said.bits19 (fun HT_ HW_ => ?_);generalize wr.drew = w44 at BK707 HB HR713_3 HR713_5 hx713_0 hx713_1 hx713_2 hx713_3 hx713_4 hx713_5 hHeld ⊢;refine pqT_ ?_;refine pqT_ ?_;refine pgT_ 3 (tB 11 11) ?_;refine pgT_ 6 (tB 11 75) ?_;refine tgT_ 2 (tB 11 79) rfl (by rintro w' ⟨s0, s1, s2, s3, s4, s5, s6, s7, s8, s9, s10, s11⟩; go_simp; with_reducible rfl) ?_;refine pgT_ 4 (tB 11 95) ?_;refine tgT_ 5 (tS 11 7) rfl (by rintro w' ⟨s0, s1, s2, s3, s4, s5, s6, s7, s8, s9, s10, s11⟩; go_simp; with_reducible rfl) ?_;refine tqT_ rfl (by rintro w' ⟨s0, s1, s2, s3, s4, s5, s6, s7, s8, s9, s10, s11⟩; go_simp; with_reducible rfl) ?_;refine n1T_ 8 (tS 11 9) rfl fun K hK => ?_
            refine gS_ Tryz.func143 #[.agg #[.int .i64 ((rd_T43 l0_5 x7_3).f0), .int .i64 ((rd_T43 l0_5 x7_3).f1), .string ((rd_T43 l0_5 x7_3).f2), .slice A713_3 ((rd_T43 l0_5 x7_3).f3).length c713_3, .string ((rd_T43 l0_5 x7_3).f4), .slice A713_5 ((rd_T43 l0_5 x7_3).f5).length c713_5], .int .i64 a0_1] ?_;with_reducible refine (ih k3 (by have := HJ13.out; have := HK2.out; have := HK3.out; omega) ((rd_T43 l0_5 x7_3).f0) ((rd_T43 l0_5 x7_3).f1) ((rd_T43 l0_5 x7_3).f2) _ _ ((rd_T43 l0_5 x7_3).f3) ((rd_T43 l0_5 x7_3).f4) _ _ ((rd_T43 l0_5 x7_3).f5) a0_1 t714 _ ?side1 ?side2 ?side3 ?side4 A41.out).mono ?_
            (case side1 => exact Kd.C_below HR713_3.out hB_)
            (case side2 => exact HC713_3.out)
            (case side3 => exact Kd.C_below HR713_5.out hB_)
            (case side4 => exact HC713_5.out)
            rintro e w45 ⟨rfl, hb⟩;refine ⟨_, rfl, ?_⟩;replace BK707 := A_ (blk_below (g := gb707) (o := .cells #[.int .i64 a0_0, .int .i64 a0_1, .string a0_2, .slice A0_3 l0_3.length c0_3, .string a0_4, .slice (some ad713) l0_5.length c0_5] 43 (0, 0)) (blk_below BK707.out hR_) hb);replace HB := bS_ hb;clear hb;refine hK.out _ _ ⟨(blk_cell BK707.out 0).trans rfl, (blk_cell BK707.out 1).trans rfl, (blk_cell BK707.out 2).trans rfl, (blk_cell BK707.out 3).trans rfl, (blk_cell BK707.out 4).trans rfl, (blk_cell BK707.out 5).trans rfl, (cB_ HB.out hw713_0), (cB_ HB.out hw713_1), (cB_ HB.out hw713_2), (cB_ HB.out hw713_3), (cB_ HB.out hw713_4), (cB_ HB.out hw713_5)⟩ (fun hHeld => ?_);clear hK K;refine nm_ ?_;refine pqT_ ?_;refine pqT_ ?_;refine done_ (done_of HT_.out (by kernel_rfl)) ?_;try go_wp2
            go_roundg k3
            case measure => have := HJ13.out; have := HK2.out; have := HK3.out; omega
            case rel => exact ⟨(x5_3 ++ t714), (wrap64 (x7_3 + 1)), e2_, e2_, H', ⟨by have := HJ13.out; have := HK2.out; have := HK3.out; omega⟩, ⟨blk_below BK707.out hR_⟩, ⟨hB_⟩⟩
           ·have c39b0 := dF_ c39;clear c39;obtain ⟨c46, H⟩ := ifn_ H;have c46b0 := eq_true c46;have c46b1 := dE_ c46;try have c46b2 : (9223372036854775807 < x5_3.size + 2) = False := eq_false (Nat.not_lt.2 c46)
            obtain ⟨c47, H⟩ := ifn_ H;have c47b0 := eq_true c47;have c47b1 := dE_ c47;try have c47b2 : (9223372036854775807 < (x5_3 ++ (⟨#[60, 47]⟩ : BA)).size + a0_2.size) = False := eq_false (Nat.not_lt.2 c47)
            (try (have c47b23 := c47b2; simp only [ByteArray.size_append, show (⟨#[60, 47]⟩ : BA).size = 2 from rfl] at c47b23))
            obtain ⟨c48, H⟩ := ifn_ H;have c48b0 := eq_true c48;have c48b1 := dE_ c48;try have c48b2 : (9223372036854775807 < ((x5_3 ++ (⟨#[60, 47]⟩ : BA)) ++ a0_2).size + 1) = False := eq_false (Nat.not_lt.2 c48)
            (try (have c48b23 := c48b2; simp only [ByteArray.size_append, show (⟨#[60, 47]⟩ : BA).size = 2 from rfl] at c48b23))
            obtain rfl := sI_ H;obtain ⟨hcz49_0, hcz49_1, hcz49_2, hcz49_3, hcz49_4, hcz49_5, hfz49_0, hfz49_1, hfz49_2, hfz49_3, hfz49_4, hfz49_5⟩ := bk6_ BK707.out;go_wp2
            go_ret
            exact ⟨e1_, hB_⟩
def spec_Write.l0 : Nat → List (S43) → ByteArray → Int → Option (ByteArray)
 | 0, _, _, _ => none
 | k + 1, x0, x3, x4 => if x4 < (x0.length : Int) then (if 0 ≤ x4 then ((spec_l17Said.f k ((rd_T43 x0 x4).f0) ((rd_T43 x0 x4).f1) ((rd_T43 x0 x4).f2) ((rd_T43 x0 x4).f3) ((rd_T43 x0 x4).f4) ((rd_T43 x0 x4).f5) (-1)).bind fun t717 => (if x3.size + t717.size ≤ 9223372036854775807 then (if (x3 ++ t717).size + 1 ≤ 9223372036854775807 then (spec_Write.l0 k x0 ((x3 ++ t717) ++ (⟨#[10]⟩ : BA)) (wrap64 (x4 + 1))) else (none)) else (none))) else (none)) else (some x3)
def spec_Write.f (k : Nat) (l0 : List (S43)) : Option (ByteArray) := (spec_DocOk.f k l0).bind fun t715 => (if t715 = true then (spec_Write.l0 k l0 (⟨#[60, 63, 120, 109, 108, 32, 118, 101, 114, 115, 105, 111, 110, 61, 34, 49, 46, 48, 34, 63, 62, 10]⟩ : BA) 0) else (some (⟨#[]⟩ : BA)))
theorem spec_Write.mono_l : ∀ k, (∀ y0 y1 y2, LeO (spec_Write.l0 k y0 y1 y2) (spec_Write.l0 (k + 1) y0 y1 y2))
 | 0 => fun _ _ _ r h => by simp [spec_Write.l0] at h
 | k + 1 => by
  have ih0 := spec_Write.mono_l k
  ·intro y0 y1 y2;unfold spec_Write.l0;with_reducible repeat' first | exact ih0 _ _ _ | exact spec_DocOk.mono _ _ | exact spec_l17Said.mono _ _ _ _ _ _ _ _ | apply LeO.refl | apply LeO.none | apply LeO.ite | apply LeO.bind | intro
theorem spec_Write.mono : ∀ a0 k, LeO (spec_Write.f k a0) (spec_Write.f (k + 1) a0) := by
 intro a0 k;have ih0 := spec_Write.mono_l k;unfold spec_Write.f;with_reducible repeat' first | exact ih0 _ _ _ | exact spec_DocOk.mono _ _ | exact spec_l17Said.mono _ _ _ _ _ _ _ _ | apply LeO.refl | apply LeO.none | apply LeO.ite | apply LeO.bind | intro
theorem spec_Write.calls (k : Nat) (A0 : Option Addr) (c0 : Nat) (l0 : List (S43)) (r : BA) (w : World) (hr0 : Kd.C k43 w A0 l0.length l0) (hc0 : l0.length ≤ c0) (h : spec_Write.f k l0 = some r) :
  Calls Tryz.prog 99 #[.slice A0 l0.length c0] w fun e w' => e = .returned (.string r) ∧ Below w.heap.size w w' := by
 have hu43 := Tryz.underlying43;have HR0 := A_ hr0;have HC0 := A_ hc0;clear hr0 hc0;have HB := A_ (Below.refl w.heap.size w);have H : ((spec_DocOk.f k l0).bind fun t715 => (if t715 = true then (spec_Write.l0 k l0 (⟨#[60, 63, 120, 109, 108, 32, 118, 101, 114, 115, 105, 111, 110, 61, 34, 49, 46, 48, 34, 63, 62, 10]⟩ : BA) 0) else (some (⟨#[]⟩ : BA)))) = some r := h;clear h;obtain ⟨t715, A2, H⟩ := ob_ H;(try dsimp only at H)
 by_cases c3 : t715 = true
 ·subst c3;rw [if_pos rfl] at H;have H' := A_ H;clear H;go_enter Tryz.func99, Tryz.ntmps99
  go_wp2_with (first | (refine gL_ 6 Tryz.func93 #[.slice A0 l0.length c0] ?_; (with_reducible refine (spec_DocOk.calls k _ _ l0 true _ ?side1 ?side2 A2.out).mono ?_); (case side1 => repeat (first | exact HR0.out | (with_reducible refine Kd.C_alloc ?_ _) | (with_reducible refine Kd.C_drewN ?_ _) | (with_reducible refine Kd.C_drew ?_))); (case side2 => exact HC0.out); rintro e w4 ⟨rfl, hb⟩; refine ⟨_, rfl, ?_⟩; replace HB := bS_ hb; clear hb))
  go_loopg [3, 4] k (fun kq v3 v4 w' => ∃ (x3_1 : BA) (x4_1 : Int), v3 = .string x3_1 ∧ v4 = .int .i64 x4_1 ∧ As9 (spec_Write.l0 kq l0 x3_1 x4_1 = some r) ∧ As9 (kq ≤ k) ∧ As9 (Below w.heap.size w w'))
  case atStart => exact ⟨((⟨#[60, 63, 120, 109, 108, 32, 118, 101, 114, 115, 105, 111, 110, 61, 34, 49, 46, 48, 34, 63, 62, 10]⟩ : BA)), (0), e2_, e2_, H', ⟨Nat.le_refl _⟩, ⟨hB_⟩⟩
  case round =>
   clear H';try clear p2
   try clear c3
   obtain ⟨x3_1, x4_1, rfl, rfl, HA, HK1, HB⟩ := hrel;cases gk with
   | zero => exact absurd HA.out (by simp [spec_Write.l0])
   | succ k1 =>
    have H := HA.out;clear HA;simp only [spec_Write.l0] at H;rcases ic_ H with ⟨c5, H⟩ | ⟨c5, H⟩
    ·have c5b0 := dE_ c5;clear c5;obtain ⟨c6, H⟩ := ifn_ H;have c6b0 := dE_ c6;clear c6;obtain ⟨t717, A7, H⟩ := ob_ H;obtain ⟨c8, H⟩ := ifn_ H;have c8b0 := eq_true c8;have c8b1 := dE_ c8;try have c8b2 : (9223372036854775807 < x3_1.size + t717.size) = False := eq_false (Nat.not_lt.2 c8)
     obtain ⟨c9, H⟩ := ifn_ H;have c9b0 := eq_true c9;have c9b1 := dE_ c9;try have c9b2 : (9223372036854775807 < (x3_1 ++ t717).size + 1) = False := eq_false (Nat.not_lt.2 c9)
     (try (have c9b23 := c9b2; simp only [ByteArray.size_append] at c9b23))
     have H' := A_ H;clear H;obtain ⟨p716, q716, ad716, A716_3, c716_3, A716_5, c716_5, e716, hx716_0, hx716_1, hx716_2, hx716_3, hx716_4, hx716_5, HC716_3, HR716_3, HC716_5, HR716_5⟩ := aB43_ HB.out HR0.out x4_1;cases e716;go_wp2_with (first | (refine gL_ 19 Tryz.func143 #[.agg #[.int .i64 ((rd_T43 l0 x4_1).f0), .int .i64 ((rd_T43 l0 x4_1).f1), .string ((rd_T43 l0 x4_1).f2), .slice A716_3 ((rd_T43 l0 x4_1).f3).length c716_3, .string ((rd_T43 l0 x4_1).f4), .slice A716_5 ((rd_T43 l0 x4_1).f5).length c716_5], .int .i64 (-1)] ?_; (with_reducible refine (spec_l17Said.calls k1 ((rd_T43 l0 x4_1).f0) ((rd_T43 l0 x4_1).f1) ((rd_T43 l0 x4_1).f2) _ _ ((rd_T43 l0 x4_1).f3) ((rd_T43 l0 x4_1).f4) _ _ ((rd_T43 l0 x4_1).f5) (-1) t717 _ ?side1 ?side2 ?side3 ?side4 A7.out).mono ?_); (case side1 => exact Kd.C_below HR716_3.out hB_); (case side2 => exact HC716_3.out); (case side3 => exact Kd.C_below HR716_5.out hB_); (case side4 => exact HC716_5.out); rintro e w10 ⟨rfl, hb⟩; refine ⟨_, rfl, ?_⟩; replace HB := bS_ hb; clear hb))
     go_roundg k1
     case measure => have := HK1.out; omega
     case rel => exact ⟨((x3_1 ++ t717) ++ (⟨#[10]⟩ : BA)), (wrap64 (x4_1 + 1)), e2_, e2_, H', ⟨by have := HK1.out; omega⟩, ⟨hB_⟩⟩
    ·have c5b0 := dF_ c5;clear c5;obtain rfl := sI_ H;go_wp2
     go_ret
     exact ⟨e1_, hB_⟩
 ·replace c3 := bF_ c3;subst c3;rw [if_neg nF_] at H;obtain rfl := sI_ H;go_enter Tryz.func99, Tryz.ntmps99
  go_wp2_with (first | (refine gL_ 6 Tryz.func93 #[.slice A0 l0.length c0] ?_; (with_reducible refine (spec_DocOk.calls k _ _ l0 false _ ?side1 ?side2 A2.out).mono ?_); (case side1 => repeat (first | exact HR0.out | (with_reducible refine Kd.C_alloc ?_ _) | (with_reducible refine Kd.C_drewN ?_ _) | (with_reducible refine Kd.C_drew ?_))); (case side2 => exact HC0.out); rintro e w11 ⟨rfl, hb⟩; refine ⟨_, rfl, ?_⟩; replace HB := bS_ hb; clear hb))
  go_ret
  exact ⟨e1_, hB_⟩
def spec_Again.f (k : Nat) (a0 : BA) : Option (ByteArray × Bool) := (spec_Read.f k a0).bind fun bt718 => (if bt718.2 = true then ((spec_Write.f k bt718.1).bind fun t722 => (some (t722, true))) else (some ((⟨#[]⟩ : BA), false)))
theorem spec_Again.mono : ∀ a0 k, LeO (spec_Again.f k a0) (spec_Again.f (k + 1) a0) := by
 intro a0 k;unfold spec_Again.f;with_reducible repeat' first | exact spec_Read.mono _ _ | exact spec_Write.mono _ _ | apply LeO.refl | apply LeO.none | apply LeO.ite | apply LeO.bind | intro
theorem spec_Again.calls (k : Nat) (a0 : BA) (r1 : BA) (r2 : Bool) (w : World) (h : spec_Again.f k a0 = some (r1, r2)) :
  Calls Tryz.prog 43 #[.string a0] w fun e w' => e = .returned (.tuple #[.string r1, .bool r2]) ∧ Below w.heap.size w w' := by
 have HB := A_ (Below.refl w.heap.size w);have H : ((spec_Read.f k a0).bind fun bt718 => (if bt718.2 = true then ((spec_Write.f k bt718.1).bind fun t722 => (some (t722, true))) else (some ((⟨#[]⟩ : BA), false)))) = some (r1, r2) := h;clear h;obtain ⟨⟨t718, t719⟩, A2, H⟩ := ob_ H;(try dsimp only at H)
 by_cases c3 : t719 = true
 ·subst c3;rw [if_pos rfl] at H;obtain ⟨t722, A4, H⟩ := ob_ H;(try dsimp only at H)
  obtain ⟨rfl, rfl⟩ := pi_ H;go_enter Tryz.func43, Tryz.ntmps43
  go_wp2_with (first | (refine gL_ 8 Tryz.func38 #[.string a0] ?_; (with_reducible refine (spec_Read.calls k a0 t718 true _ A2.out).mono ?_); rintro e w5 ⟨v720, rfl, ho0, hb⟩; refine ⟨_, rfl, ?_⟩; have HO721 := A_ (Kd.R_lower ho0 (below_size hB_)); replace HB := bS_ hb; clear hb; (try clear ho0); obtain ⟨Ao6, co6, eo6⟩ := Kd.R_slice HO721.out; subst eo6) | (refine gL_ 14 Tryz.func99 #[.slice Ao6 t718.length co6] ?_; (with_reducible refine (spec_Write.calls k _ _ t718 t722 _ ?side1 ?side2 A4.out).mono ?_); (case side1 => repeat (first | exact (Kd.R_reads' HO721.out).2.2 | (with_reducible refine Kd.C_alloc ?_ _) | (with_reducible refine Kd.C_drewN ?_ _) | (with_reducible refine Kd.C_drew ?_))); (case side2 => exact (Kd.R_reads' HO721.out).2.1); rintro e w7 ⟨rfl, hb⟩; refine ⟨_, rfl, ?_⟩; replace HO721 := A_ (Kd.R_below (kQ_ HO721.out) hb); replace HB := bS_ hb; clear hb))
  go_ret2
  exact ⟨e1_, hB_⟩
 ·replace c3 := bF_ c3;subst c3;rw [if_neg nF_] at H;obtain ⟨rfl, rfl⟩ := pi_ H;go_enter Tryz.func43, Tryz.ntmps43
  go_wp2_with (first | (refine gL_ 8 Tryz.func38 #[.string a0] ?_; (with_reducible refine (spec_Read.calls k a0 t718 false _ A2.out).mono ?_); rintro e w8 ⟨v720, rfl, ho0, hb⟩; refine ⟨_, rfl, ?_⟩; have HO721 := A_ (Kd.R_lower ho0 (below_size hB_)); replace HB := bS_ hb; clear hb; (try clear ho0)))
  go_ret2
  exact ⟨e1_, hB_⟩
def impl_reader_take.f (s0_0 : BA) (s0_1 : Int) (s0_2 : Bool) (a1 : BA) : Option (ByteArray × Int × Bool) := (impl_reader_is.f s0_0 s0_1 s0_2 a1).bind fun bt561 => (if bt561.1 = true then (some (bt561.2.1, wrap64 (bt561.2.2.1 + (a1.size : Int)), bt561.2.2.2)) else (some (bt561.2.1, bt561.2.2.1, true)))
theorem impl_reader_take.calls (g : Nat) (s0_0 : BA) (s0_1 : Int) (s0_2 : Bool) (a1 : BA) (r1 : BA) (r2 : Int) (r3 : Bool) (w0 w : World) (hI : IsS93 w0 w g s0_0 s0_1 s0_2) (hB : Below w0.heap.size w0 w) (h : impl_reader_take.f s0_0 s0_1 s0_2 a1 = some (r1, r2, r3)) :
  Calls Tryz.prog 94 #[.pointer (some ⟨g, 0, none⟩), .string a1] w fun e w' => e = .returned (.tuple #[]) ∧ IsS93 w0 w' g r1 r2 r3 ∧ Below w0.heap.size w0 w' ∧ KeepBut w w' g none := by
 have HI0 := A_ hI;have HK := A_ (KeepBut.refl w g none);have HL := A_ hB.size;clear hI;have HW0 := A_ hB.size;have HB := A_ hB;clear hB;have H : ((impl_reader_is.f s0_0 s0_1 s0_2 a1).bind fun bt561 => (if bt561.1 = true then (some (bt561.2.1, wrap64 (bt561.2.2.1 + (a1.size : Int)), bt561.2.2.2)) else (some (bt561.2.1, bt561.2.2.1, true)))) = some (r1, r2, r3) := h;clear h;obtain ⟨⟨t561, t562, t563, t564⟩, A3, H⟩ := ob_ H;(try dsimp only at H)
 by_cases c4 : t561 = true
 ·subst c4;rw [if_pos rfl] at H;obtain ⟨rfl, rfl, rfl⟩ := pj_ H;go_enter Tryz.func94, Tryz.ntmps94
  go_wp2_with (first | (refine gL_ 6 Tryz.func95 #[.pointer (some ⟨g, 0, none⟩), .string a1] ?_; (with_reducible refine (impl_reader_is.calls g s0_0 s0_1 s0_2 a1 true t562 t563 t564 w0 _ ?side1 ?side2 A3.out).mono ?_); (case side1 => repeat (first | (with_reducible first | exact HI0.out | apply IsS93.alloc | apply IsS93.drewN | apply IsS93.drew | apply IsS93.set_0 | apply IsS93.set_1 | apply IsS93.set_2) | exact HI0.out)); (case side2 => repeat (first | (with_reducible first | exact HB.out | apply bA9 | apply bN9 | apply bD9 | refine below_set ?_ (IsS93.ge HI0.out)) | exact HB.out)); rintro e w5 ⟨rfl, hi, hb, hk⟩; refine ⟨_, rfl, ?_⟩; replace HK := A_ (KeepBut.trans (by repeat (first | (with_reducible first | exact HK.out | apply KeepBut.set_ | apply keep_drewN | apply keep_drew | apply keep_alloc) | exact HK.out)) hk (.inl rfl)); replace HB := A_ (hb); replace HI0 := A_ (hi); clear hb hk hi; obtain ⟨HGz6, hgz6⟩ := HI0.out; have hcz6_0 := cellS93_0 HGz6; have hcz6_1 := cellS93_1 HGz6; have hcz6_2 := cellS93_2 HGz6; have hfz6_0 := blk_frozen HGz6 0; have hfz6_1 := blk_frozen HGz6 1; have hfz6_2 := blk_frozen HGz6 2; clear HGz6 hgz6))
  first | go_end0 | ((try simp only [Exit.inBlock, Exit.then]); refine bodyPost_ret (results_none rfl _ _ _) rfl ?_)
  exact ⟨e1_, by repeat (first | (with_reducible first | exact HI0.out | apply IsS93.alloc | apply IsS93.drewN | apply IsS93.drew | apply IsS93.set_0 | apply IsS93.set_1 | apply IsS93.set_2) | exact HI0.out), by repeat (first | (with_reducible first | exact HB.out | apply bA9 | apply bN9 | apply bD9 | refine below_set ?_ (IsS93.ge HI0.out)) | exact HB.out), by repeat (first | (with_reducible first | exact HK.out | apply KeepBut.set_ | apply keep_drewN | apply keep_drew | apply keep_alloc) | exact HK.out)⟩
 ·replace c4 := bF_ c4;subst c4;rw [if_neg nF_] at H;obtain ⟨rfl, rfl, rfl⟩ := pj_ H;go_enter Tryz.func94, Tryz.ntmps94
  go_wp2_with (first | (refine gL_ 6 Tryz.func95 #[.pointer (some ⟨g, 0, none⟩), .string a1] ?_; (with_reducible refine (impl_reader_is.calls g s0_0 s0_1 s0_2 a1 false t562 t563 t564 w0 _ ?side1 ?side2 A3.out).mono ?_); (case side1 => repeat (first | (with_reducible first | exact HI0.out | apply IsS93.alloc | apply IsS93.drewN | apply IsS93.drew | apply IsS93.set_0 | apply IsS93.set_1 | apply IsS93.set_2) | exact HI0.out)); (case side2 => repeat (first | (with_reducible first | exact HB.out | apply bA9 | apply bN9 | apply bD9 | refine below_set ?_ (IsS93.ge HI0.out)) | exact HB.out)); rintro e w7 ⟨rfl, hi, hb, hk⟩; refine ⟨_, rfl, ?_⟩; replace HK := A_ (KeepBut.trans (by repeat (first | (with_reducible first | exact HK.out | apply KeepBut.set_ | apply keep_drewN | apply keep_drew | apply keep_alloc) | exact HK.out)) hk (.inl rfl)); replace HB := A_ (hb); replace HI0 := A_ (hi); clear hb hk hi; obtain ⟨HGz8, hgz8⟩ := HI0.out; have hcz8_0 := cellS93_0 HGz8; have hcz8_1 := cellS93_1 HGz8; have hcz8_2 := cellS93_2 HGz8; have hfz8_0 := blk_frozen HGz8 0; have hfz8_1 := blk_frozen HGz8 1; have hfz8_2 := blk_frozen HGz8 2; clear HGz8 hgz8))
  first | go_end0 | ((try simp only [Exit.inBlock, Exit.then]); refine bodyPost_ret (results_none rfl _ _ _) rfl ?_)
  exact ⟨e1_, by repeat (first | (with_reducible first | exact HI0.out | apply IsS93.alloc | apply IsS93.drewN | apply IsS93.drew | apply IsS93.set_0 | apply IsS93.set_1 | apply IsS93.set_2) | exact HI0.out), by repeat (first | (with_reducible first | exact HB.out | apply bA9 | apply bN9 | apply bD9 | refine below_set ?_ (IsS93.ge HI0.out)) | exact HB.out), by repeat (first | (with_reducible first | exact HK.out | apply KeepBut.set_ | apply keep_drewN | apply keep_drew | apply keep_alloc) | exact HK.out)⟩
def impl_reader_name.f (k : Nat) (s : BA) (p : Int) (b : Bool) : Option (ByteArray × ByteArray × Int × Bool) :=
 if b = true then some (⟨#[]⟩, s, p, true) else (impl_XmlName.f k s p).bind fun q => some (q.1, s, q.2, q.1.toList.isEmpty)
theorem impl_reader_name.mono : ∀ s p b k, LeO (impl_reader_name.f k s p b) (impl_reader_name.f (k + 1) s p b) := fun s p b k => LeO.ite (LeO.refl _) (LeO.bind (impl_XmlName.mono _ _ _) (fun _ => LeO.refl _))
theorem impl_reader_name.calls (k : Nat) (g : Nat) (s : BA) (p : Int) (b : Bool) (r1 r2 : BA) (r3 : Int) (r4 : Bool) (w0 w : World) (hI : IsS93 w0 w g s p b) (hB : Below w0.heap.size w0 w) (h : impl_reader_name.f k s p b = some (r1, r2, r3, r4)) :
  Calls Tryz.prog 135 #[.pointer (some ⟨g, 0, none⟩)] w fun e w' => e = .returned (.string r1) ∧ IsS93 w0 w' g r2 r3 r4 ∧ Below w0.heap.size w0 w' ∧ KeepBut w w' g none := by
 unfold impl_reader_name.f at h;have HI := A_ hI;have HB := A_ hB;have HK := A_ (KeepBut.refl w g none);obtain ⟨HG, hge⟩ := hI;have hc0 := cellS93_0 HG;have hc1 := cellS93_1 HG;have hc2 := cellS93_2 HG;have hf1 := blk_frozen HG 1;have hf2 := blk_frozen HG 2;clear HG hge hB;cases b with
 | true =>
  rw [if_pos rfl] at h;simp only [Option.some.injEq, Prod.mk.injEq] at h;obtain ⟨rfl, rfl, rfl, rfl⟩ := h;go_enter Tryz.func135, Tryz.ntmps135
  go_wp2
  go_ret
  exact ⟨rfl, HI.out, HB.out, HK.out⟩
 | false =>
  rw [if_neg si_] at h;obtain ⟨q, hq, h⟩ := oB_ h;simp only [Option.some.injEq, Prod.mk.injEq] at h;obtain ⟨rfl, rfl, rfl, rfl⟩ := h;have HQ := A_ hq;clear hq;have HI1 : As9 (IsS93 w0 w.drew g s p false) := ⟨HI.out.drew⟩;have HB1 : As9 (Below w0.heap.size w0 w.drew) := ⟨below_drew HB.out⟩;have HK1 : As9 (KeepBut w w.drew g none) := ⟨keep_drew HK.out⟩;go_enter Tryz.func135, Tryz.ntmps135
  go_wp2
  clear HI HB HK hf1 hf2 hc2;refine start_ (n := 14) (S := fun w' => w'.cell? ⟨g, 0, none⟩ = some (.string s) ∧ w'.cell? ⟨g, 1, none⟩ = some (.int .i64 p)) (ds := [8]) (tS 14 0) (by kernel_rfl) rfl rfl ⟨hc0, hc1⟩ (fun hHeld => ?_);generalize World.drew _ = wr0 at HI1 HB1 HK1 hHeld ⊢;iterate 3 refine pq_ ?_
  refine pg_ 4 (tB 14 23) ?_;refine pg_ 5 (tB 14 55) ?_;refine pg_ 6 (tB 14 119) ?_;refine tg_ 3 (tS 14 7) rfl (by rintro w' ⟨s0, s1⟩; go_simp; with_reducible rfl) ?_;refine tq_ rfl (by rintro w' ⟨s0, s1⟩; go_simp; with_reducible rfl) ?_;refine last_ (i := 8) (N := some 18) (tS 14 9) rfl rfl (by kernel_rfl) de_ (fun K hK => ?_);refine gS_ Tryz.func16 #[.string s, .int .i64 p] ?_;with_reducible refine (impl_XmlName.calls k s p q.1 q.2 _ HQ.out).mono ?_
  rintro e wr8 ⟨rfl, hb⟩;refine ⟨_, rfl, ?_⟩;have HI2 := A_ (HI1.out.below hb);have HB2 := A_ (below_step HB1.out hb);have HK2 := A_ (HK1.out.trans (KeepBut.of_below hb g none) (.inl rfl));clear hb HI1 HB1 HK1;refine hK.out _ _ ?_;clear hK K;refine nm_ ?_;iterate 5 refine pq_ ?_
  refine done_ (by kernel_rfl) ?_;obtain ⟨HG, hge⟩ := HI2.out;have hc0' := cellS93_0 HG;have hc1' := cellS93_1 HG;have hc2' := cellS93_2 HG;have hf1 := blk_frozen HG 1;have hf2 := blk_frozen HG 2;clear HG hge;go_wp2
  go_ret
  exact ⟨rfl, (HI2.out.set_2 _).set_1 _, below_set (below_set HB2.out HI2.out.2) HI2.out.2, (HK2.out.set_ _ _).set_ _ _⟩
theorem hasAttr_1 (a b n : BA) (h : Nat) (w : World) (hc : w.cell? ⟨h, 0, none⟩ = some (.string n)) :
  Calls Tryz.prog 193 #[.agg #[.string a, .string b], .pointer (some ⟨h, 0, none⟩)] w fun e w' => e = .returned (.bool (a.toList == n.toList)) ∧ Below w.heap.size w w' := by
 have hl := World.block_lt_of_cell? w _ hc;go_enter Tryz.func193, Tryz.ntmps193
 go_wp2
 go_ret
 exact ⟨rfl, bA9 (Below.refl _ _) _⟩
def hasP (n : BA) (x : S36) : Bool := x.f0.toList == n.toList
def IxPost (b : Bool) (w : World) (e : Ending) (w' : World) : Prop := ∃ r : Int, e = .returned (.int .i64 r) ∧ decide (0 ≤ r) = b ∧ Below w.heap.size w w'
theorem take_any {α : Type} (l : List α) (p : α → Bool) (j : Nat) (h : j < l.length) (h0 : (l.take j).any p = false) (h1 : p (l[j]'h) = false) : (l.take (j + 1)).any p = false := by
 rw [List.take_succ_eq_append_getElem h, List.any_append, h0]; simp [h1]
theorem indexFunc_any (A0 : Option Addr) (c0 : Nat) (l0 : List (S36)) (n : BA) (h : Nat) (w : World) (hr0 : Kd.C k36 w A0 l0.length l0) (hc0 : l0.length ≤ c0) (hl : l0.length ≤ 140737488355328) (hc : w.cell? ⟨h, 0, none⟩ = some (.string n)) :
  Calls Tryz.prog 203 #[.slice A0 l0.length c0, .func (Fn.func 193) #[] #[.pointer (some ⟨h, 0, none⟩)]] w (IxPost (l0.any (hasP n)) w) := by
 have HR := A_ hr0;have HC := A_ hc;clear hr0 hc;go_enter Tryz.func203, Tryz.ntmps203
 go_wp2
 go_loopg [8] l0.length (fun kq v wr => ∃ j : Int, v = .int .i64 j ∧ 0 ≤ j ∧ j ≤ l0.length ∧ As9 (kq = l0.length - j.toNat) ∧ As9 ((l0.take j.toNat).any (hasP n) = false) ∧ As9 (Below w.heap.size w wr))
 case atStart => exact ⟨0, rfl, Int.le_refl _, om_, ⟨rfl⟩, ⟨by simp⟩, ⟨Below.refl _ _⟩⟩
 case round =>
  obtain ⟨j, rfl, j0, hj, HM, HE, HB⟩ := hrel;have hlm : (l0.length : Int) ≤ 140737488355328 := om_;by_cases hlt : j < l0.length
  ·have hjn : j.toNat < l0.length := om_;have hel : rd_T36 l0 j = l0[j.toNat] := by
    unfold rd_T36; first | (rw [List.getD_eq_getElem?_getD, List.getElem?_eq_getElem hjn]; rfl) | (simp [rdOf, List.getD_eq_getElem?_getD, List.getElem?_eq_getElem hjn])
   have Hel := A_ hel;clear hel;obtain ⟨ad, ea, hx0, hx1⟩ := at_T36 (Kd.C_below HR.out HB.out) j j0 hlt;cases ea;have hcn := pw_cell_below HB.out HC.out;have p7 := eq_true j0;have q7 := eq_true hlt;cases hp : hasP n (rd_T36 l0 j) with
   | true =>
    have HP := A_ hp;clear hp;go_wp2_with ((go_at_call 193; (with_reducible refine (hasAttr_1 _ _ n h _ hcn).mono ?_); rintro r w2 ⟨rfl, hb⟩; rw [show ((rd_T36 l0 j).f0.toList == n.toList) = true from HP.out]))
    go_ret
    exact ⟨j, rfl, by rw [dE_ j0]; symm; rw [List.any_eq_true]; exact ⟨l0[j.toNat], List.getElem_mem _, by rw [← Hel.out]; exact HP.out⟩, below_step HB.out hb⟩
   | false =>
    have HP := A_ hp;clear hp;go_wp2_with ((go_at_call 193; (with_reducible refine (hasAttr_1 _ _ n h _ hcn).mono ?_); rintro r w2 ⟨rfl, hb⟩; rw [show ((rd_T36 l0 j).f0.toList == n.toList) = false from HP.out]))
    go_roundg (l0.length - (j + 1).toNat)
    case measure => have := HM.out; omega
    case rel => exact ⟨j + 1, rfl, om_, om_, ⟨rfl⟩, ⟨by rw [show (j + 1).toNat = j.toNat + 1 by omega]; exact take_any _ _ _ hjn HE.out (by rw [← Hel.out]; exact HP.out)⟩, ⟨below_step HB.out hb⟩⟩
  ·go_wp2
   go_ret
   have he := HE.out;rw [List.take_of_length_le om_] at he;exact ⟨-1, rfl, by rw [he]; rfl, HB.out⟩
theorem containsFunc_any (A0 : Option Addr) (c0 : Nat) (l0 : List (S36)) (n : BA) (h : Nat) (w : World) (hr0 : Kd.C k36 w A0 l0.length l0) (hc0 : l0.length ≤ c0) (hl : l0.length ≤ 140737488355328) (hc : w.cell? ⟨h, 0, none⟩ = some (.string n)) :
  Calls Tryz.prog 192 #[.slice A0 l0.length c0, .func (Fn.func 193) #[] #[.pointer (some ⟨h, 0, none⟩)]] w fun e w' => e = .returned (.bool (l0.any (hasP n))) ∧ Below w.heap.size w w' := by
 go_enter Tryz.func192, Tryz.ntmps192
 go_wp2_with ((go_at_call 203; (with_reducible refine (indexFunc_any A0 c0 l0 n h _ hr0 hc0 hl hc).mono ?_); rintro r w2 ⟨i, rfl, hi, hb⟩))
 go_ret
 exact ⟨by rw [← hi]; rfl, hb⟩
def impl_hasAttr.f (l0 : List (S36)) (a1 : BA) : Option Bool :=
 if l0.length ≤ 140737488355328 then some (l0.any fun x => x.f0.toList == a1.toList) else none
theorem impl_hasAttr.calls (A0 : Option Addr) (c0 : Nat) (l0 : List (S36)) (a1 : BA) (r : Bool) (w : World) (hr0 : Kd.C k36 w A0 l0.length l0) (hc0 : l0.length ≤ c0) (h : impl_hasAttr.f l0 a1 = some r) :
  Calls Tryz.prog 173 #[.slice A0 l0.length c0, .string a1] w fun e w' => e = .returned (.bool r) ∧ Below w.heap.size w w' := by
 unfold impl_hasAttr.f at h;split at h
 case isFalse => cases h
 case isTrue hl =>
 obtain rfl := sI_ h;have hr1 := A_ (Kd.C_alloc hr0 (.cells #[.string a1] 9));have hc1 : As9 ((w.alloc (.cells #[.string a1] 9)).cell? ⟨w.heap.size, 0, none⟩ = some (.string a1)) := ⟨(blk_cell (heap_alloc_new w _) 0).trans rfl⟩;clear hr0 h;go_enter Tryz.func173, Tryz.ntmps173
 go_wp2_with ((go_at_call 192; (refine (containsFunc_any A0 c0 l0 a1 w.heap.size _ hr1.out hc0 hl hc1.out).mono ?_); rintro r w2 ⟨rfl, hb⟩))
 go_ret
 exact ⟨rfl, below_step (bA9 (Below.refl _ _) _) hb⟩
abbrev spN0 : ByteArray := ⟨#[104, 116, 116, 112, 58, 47, 47, 119, 119, 119, 46, 119, 51, 46, 111, 114, 103, 47, 49, 57, 57, 57, 47, 120, 104, 116, 109, 108]⟩
abbrev spN1 : ByteArray := ⟨#[104, 116, 116, 112, 58, 47, 47, 119, 119, 119, 46, 119, 51, 46, 111, 114, 103, 47, 50, 48, 48, 48, 47, 115, 118, 103]⟩
abbrev spN2 : ByteArray := ⟨#[104, 116, 116, 112, 58, 47, 47, 119, 119, 119, 46, 119, 51, 46, 111, 114, 103, 47, 49, 57, 57, 56, 47, 77, 97, 116, 104, 47, 77, 97, 116, 104, 77, 76]⟩
def spNF (a0 : Int) : ByteArray := if a0 = 0 then spN0 else if a0 = 1 then spN1 else if a0 = 2 then spN2 else ⟨#[]⟩
theorem sp_at (i : Int) (h0 : 0 ≤ i) (h1 : i ≤ 2) (w : World) : (Instr.index 65 (.agg #[.string spN0, .string spN1, .string spN2]) (.int .i64 i)).run Tryz.prog w = .ok (.string (spNF i)) w := by
 rcases (show i = 0 ∨ i = 1 ∨ i = 2 by omega) with rfl | rfl | rfl <;> (clear h0 h1; show _ = _; kernel_rfl)
def impl_SpaceName.f (a0 : Int) : Option ByteArray := some (spNF a0)
theorem impl_SpaceName.calls (a0 : Int) (r : BA) (w : World) (h : impl_SpaceName.f a0 = some r) :
  Calls Tryz.prog 13 #[.int .i64 a0] w fun e w' => e = .returned (.string r) ∧ Drawn0 w w' := by
 obtain rfl := sI_ h;clear h;have hu := Tryz.underlying65;by_cases hc : 0 ≤ a0 ∧ a0 ≤ 2
 ·have hin : impl_inRange.f a0 0 2 = some true := by unfold impl_inRange.f; rw [if_pos hc.1, dE_ hc.2]
  have Hin := A_ hin;clear hin;rcases (show a0 = 0 ∨ a0 = 1 ∨ a0 = 2 by omega) with rfl | rfl | rfl
  ·have hix := sp_at 0 om_ om_;clear hc;go_enter Tryz.func13, Tryz.ntmps13
   go_wp2_with ((go_at_call 53; (with_reducible refine (impl_inRange.calls 0 0 2 true _ Hin.out).mono ?_); rintro r w' ⟨rfl, ⟨nd, rfl⟩⟩))
   go_ret
   exact ⟨rfl, ⟨_, rfl⟩⟩
  ·have hix := sp_at 1 om_ om_;clear hc;go_enter Tryz.func13, Tryz.ntmps13
   go_wp2_with ((go_at_call 53; (with_reducible refine (impl_inRange.calls 1 0 2 true _ Hin.out).mono ?_); rintro r w' ⟨rfl, ⟨nd, rfl⟩⟩))
   go_ret
   exact ⟨rfl, ⟨_, rfl⟩⟩
  ·have hix := sp_at 2 om_ om_;clear hc;go_enter Tryz.func13, Tryz.ntmps13
   go_wp2_with ((go_at_call 53; (with_reducible refine (impl_inRange.calls 2 0 2 true _ Hin.out).mono ?_); rintro r w' ⟨rfl, ⟨nd, rfl⟩⟩))
   go_ret
   exact ⟨rfl, ⟨_, rfl⟩⟩
 ·have hin : impl_inRange.f a0 0 2 = some false := by
   unfold impl_inRange.f;by_cases h1 : a0 ≥ 0
   ·rw [if_pos h1, dF_ om_]
   ·rw [if_neg h1]
  have Hin := A_ hin;have hs : spNF a0 = ⟨#[]⟩ := by unfold spNF; rw [if_neg om_, if_neg om_, if_neg om_]
  have HS := A_ hs;clear hin hc hs;go_enter Tryz.func13, Tryz.ntmps13
  go_wp2_with ((go_at_call 53; (with_reducible refine (impl_inRange.calls a0 0 2 false _ Hin.out).mono ?_); rintro r w' ⟨rfl, ⟨nd, rfl⟩⟩))
  go_ret
  exact ⟨by rw [HS.out]; rfl, ⟨_, rfl⟩⟩
def impl_spaceOf.l0 : Nat → ByteArray → Int → Option (Int)
 | 0, _, _ => none
 | k + 1, x0, x4 => if x4 < 3 then ((impl_SpaceName.f x4).bind fun t565 => (if t565.toList = x0.toList then (some x4) else (impl_spaceOf.l0 k x0 (wrap64 (x4 + 1))))) else (some (-1))
def impl_spaceOf.f (k : Nat) (a0 : BA) : Option (Int) := impl_spaceOf.l0 k a0 0
theorem impl_spaceOf.mono_l : ∀ k, (∀ y0 y1, LeO (impl_spaceOf.l0 k y0 y1) (impl_spaceOf.l0 (k + 1) y0 y1))
 | 0 => fun _ _ r h => by simp [impl_spaceOf.l0] at h
 | k + 1 => by
  have ih0 := impl_spaceOf.mono_l k
  ·intro y0 y1;unfold impl_spaceOf.l0;with_reducible repeat' first | exact ih0 _ _ | apply LeO.refl | apply LeO.none | apply LeO.ite | apply LeO.bind | intro
theorem impl_spaceOf.mono : ∀ a0 k, LeO (impl_spaceOf.f k a0) (impl_spaceOf.f (k + 1) a0) := by
 intro a0 k;have ih0 := impl_spaceOf.mono_l k;unfold impl_spaceOf.f;with_reducible repeat' first | exact ih0 _ _ | apply LeO.refl | apply LeO.none | apply LeO.ite | apply LeO.bind | intro
theorem impl_spaceOf.calls (k : Nat) (a0 : BA) (r : Int) (w : World) (h : impl_spaceOf.f k a0 = some r) :
  Calls Tryz.prog 174 #[.string a0] w fun e w' => e = .returned (.int .i64 r) ∧ Drawn0 w w' := by
 have H : (impl_spaceOf.l0 k a0 0) = some r := h;clear h;have H' := A_ H;clear H;go_enter Tryz.func174, Tryz.ntmps174
 go_wp2
 go_loopg [4] k (fun kq v4 w' => ∃ (x4_1 : Int), v4 = .int .i64 x4_1 ∧ As9 (impl_spaceOf.l0 kq a0 x4_1 = some r) ∧ As9 (kq ≤ k) ∧ Drawn0 w w')
 case atStart => exact ⟨(0), e2_, H', ⟨Nat.le_refl _⟩, d0_⟩
 case round =>
  clear H';try clear c1
  obtain ⟨x4_1, rfl, HA, HK1, ⟨m1, rfl⟩⟩ := hrel;cases gk with
  | zero => exact absurd HA.out (by simp [impl_spaceOf.l0])
  | succ k1 =>
   have H := HA.out;clear HA;simp only [impl_spaceOf.l0] at H;rcases ic_ H with ⟨c2, H⟩ | ⟨c2, H⟩
   ·have c2b0 := dE_ c2;clear c2;obtain ⟨t565, A3, H⟩ := ob_ H;rcases ic_ H with ⟨c4, H⟩ | ⟨c4, H⟩
    ·obtain ⟨c4b0, c4b1⟩ := be_ c4;clear c4;obtain rfl := sI_ H;go_wp2_with (first | (refine gL_ 8 Tryz.func13 #[.int .i64 x4_1] ?_; refine dm_ (impl_SpaceName.calls x4_1 t565 _ A3.out) fun nd => ?_))
     go_ret
     exact ⟨e2_, d0_⟩
    ·obtain ⟨c4b0, c4b1⟩ := bn_ c4;have H' := A_ H;clear H;go_wp2_with (first | (refine gL_ 8 Tryz.func13 #[.int .i64 x4_1] ?_; refine dm_ (impl_SpaceName.calls x4_1 t565 _ A3.out) fun nd => ?_))
     go_roundg k1
     case measure => have := HK1.out; omega
     case rel => exact ⟨(wrap64 (x4_1 + 1)), e2_, H', ⟨by have := HK1.out; omega⟩, d0_⟩
   ·have c2b0 := dF_ c2;clear c2;obtain rfl := sI_ H;go_wp2
    go_ret
    exact ⟨e2_, d0_⟩
def Keep2 (w w' : World) (g ge : Nat) : Prop := w.heap.size ≤ w'.heap.size ∧ ∀ i, i < w.heap.size → i ≠ g → i ≠ ge → w'.heap[i]? = w.heap[i]?
theorem Keep2.refl (w : World) (g ge : Nat) : Keep2 w w g ge := ⟨Nat.le_refl _, fun _ _ _ _ => rfl⟩
theorem Keep2.keep {w W W' : World} {g ge : Nat} (h : Keep2 w W g ge) (hk : KeepBut W W' g none) : Keep2 w W' g ge :=
 ⟨Nat.le_trans h.1 hk.1, fun i hi hg he => (hk.2 i (Nat.lt_of_lt_of_le hi h.1) hg si_).trans (h.2 i hi hg he)⟩
theorem Keep2.keepE {w W W' : World} {g ge : Nat} (h : Keep2 w W g ge) (hk : KeepBut W W' ge none) : Keep2 w W' g ge :=
 ⟨Nat.le_trans h.1 hk.1, fun i hi hg he => (hk.2 i (Nat.lt_of_lt_of_le hi h.1) he si_).trans (h.2 i hi hg he)⟩
theorem Keep2.below {w W W' : World} {g ge : Nat} (h : Keep2 w W g ge) (hb : Below W.heap.size W W') : Keep2 w W' g ge := h.keep (KeepBut.of_below hb g none)
theorem Keep2.grown {w W W' : World} {g ge : Nat} {row : Option Nat} (h : Keep2 w W g ge) (hg : W.grownBy W' row) (hr : ∀ k, row = some k → w.heap.size ≤ k) : Keep2 w W' g ge :=
 ⟨Nat.le_trans h.1 hg.size, fun i hi h1 h2 => (hg.block i (Nat.lt_of_lt_of_le hi h.1) (fun e => by have := hr i e.symm; omega)).trans (h.2 i hi h1 h2)⟩
structure Att (w0 w W : World) (g ge : Nat) (kd : Int) (nm tx : BA) (vk : Value) (s : BA) (p : Int) (b : Bool) (sp : Int) (v6 v3 : Value) (names attrs : List S36) : Prop where
 st : IsS93 w0 W g s p b
 el : W.heap[ge]? = some (.cells #[.int .i64 kd, .int .i64 sp, .string nm, v3, .string tx, vk] 43 (0, 0))
 nr : k36.R 36 W w0.heap.size (fun k_ => w.heap.size ≤ k_ ∧ some k_ ≠ v3.ownBlock) v6 names
 ar : k36.R 36 W w0.heap.size (fun k_ => w.heap.size ≤ k_ ∧ some k_ ≠ v6.ownBlock) v3 attrs
 bl : Below w0.heap.size w0 W
 kp : Keep2 w W g ge
 gl : g < w.heap.size
 le : ge < w.heap.size
 ne : ge ≠ g
 g0 : w0.heap.size ≤ ge
theorem Att.state {w0 w W W' : World} {g ge : Nat} {kd : Int} {nm tx : BA} {vk : Value} {s s' : BA} {p p' : Int} {b b' : Bool} {sp : Int} {v6 v3 : Value} {names attrs : List S36} (h : Att w0 w W g ge kd nm tx vk s p b sp v6 v3 names attrs) (hi : IsS93 w0 W' g s' p' b') (hb : Below w0.heap.size w0 W') (hk : KeepBut W W' g none) : Att w0 w W' g ge kd nm tx vk s' p' b' sp v6 v3 names attrs :=
 ⟨hi, hk.blk h.el h.ne si_, Kd.R_keep h.nr hk (fun k hk => by have := h.gl; omega), Kd.R_keep h.ar hk (fun k hk => by have := h.gl; omega), hb, h.kp.keep hk, h.gl, h.le, h.ne, h.g0⟩
theorem Att.below {w0 w W W' : World} {g ge : Nat} {kd : Int} {nm tx : BA} {vk : Value} {s : BA} {p : Int} {b : Bool} {sp : Int} {v6 v3 : Value} {names attrs : List S36} (h : Att w0 w W g ge kd nm tx vk s p b sp v6 v3 names attrs) (hb : Below W.heap.size W W') : Att w0 w W' g ge kd nm tx vk s p b sp v6 v3 names attrs :=
 h.state (h.st.below hb) (below_step h.bl hb) (KeepBut.of_below hb g none)
theorem Att.drew {w0 w W : World} {g ge : Nat} {kd : Int} {nm tx : BA} {vk : Value} {s : BA} {p : Int} {b : Bool} {sp : Int} {v6 v3 : Value} {names attrs : List S36} (h : Att w0 w W g ge kd nm tx vk s p b sp v6 v3 names attrs) : Att w0 w W.drew g ge kd nm tx vk s p b sp v6 v3 names attrs := h.below (below_drew (Below.refl _ _))
theorem Att.bad {w0 w W : World} {g ge : Nat} {kd : Int} {nm tx : BA} {vk : Value} {s : BA} {p : Int} {b : Bool} {sp : Int} {v6 v3 : Value} {names attrs : List S36} (h : Att w0 w W g ge kd nm tx vk s p b sp v6 v3 names attrs) (x : Bool) : Att w0 w (W.setCell ⟨g, 2, none⟩ (.bool x)) g ge kd nm tx vk s p x sp v6 v3 names attrs :=
 h.state (h.st.set_2 x) (below_set h.bl h.st.2) ((KeepBut.refl W g none).set_ 2 _)
theorem Att.space {w0 w W : World} {g ge : Nat} {kd : Int} {nm tx : BA} {vk : Value} {s : BA} {p : Int} {b : Bool} {sp : Int} {v6 v3 : Value} {names attrs : List S36} (h : Att w0 w W g ge kd nm tx vk s p b sp v6 v3 names attrs) (x : Int) : Att w0 w (W.setCell ⟨ge, 1, none⟩ (.int .i64 x)) g ge kd nm tx vk s p b x v6 v3 names attrs :=
 ⟨h.st.far (p := ⟨ge, 1, none⟩) (Ne.symm h.ne) _, blk_put h.el 1 _ rfl, Kd.R_far (p := ⟨ge, 1, none⟩) h.nr (fun k hk => by have := h.le; show k ≠ ge; omega) _, Kd.R_far (p := ⟨ge, 1, none⟩) h.ar (fun k hk => by have := h.le; show k ≠ ge; omega) _, below_set h.bl h.g0, h.kp.keepE ((KeepBut.refl W ge none).set_ 1 _), h.gl, h.le, h.ne, h.g0⟩
theorem Att.names_ {w0 w W W' : World} {g ge : Nat} {kd : Int} {nm tx : BA} {vk : Value} {s : BA} {p : Int} {b : Bool} {sp : Int} {v6 v3 v' : Value} {names attrs : List S36} (h : Att w0 w W g ge kd nm tx vk s p b sp v6 v3 names attrs) {x : S36} (ho : k36.R 36 W' w0.heap.size (fun k_ => w.heap.size ≤ k_ ∧ some k_ ≠ v3.ownBlock) v' (names ++ [x])) (hb : Below w0.heap.size w0 W') (hg : W.grownBy W' v6.ownBlock) (hat : v'.ownBlock = v6.ownBlock ∨ ∃ b, v'.ownBlock = some b ∧ W.heap.size ≤ b) :
  Att w0 w W' g ge kd nm tx vk s p b sp v' v3 (names ++ [x]) attrs :=
 ⟨h.st.grown hg (h.st.own_ne h.nr de_), blk_grown h.el hg (Kd.R_ne h.nr h.el de_), ho, Kd.R_after h.ar hg hat, hb, h.kp.grown hg (fun k hk => (h.nr.1 k hk).1), h.gl, h.le, h.ne, h.g0⟩
theorem Att.attrs_ {w0 w W W' : World} {g ge : Nat} {kd : Int} {nm tx : BA} {vk : Value} {s : BA} {p : Int} {b : Bool} {sp : Int} {v6 v3 v' : Value} {names attrs : List S36} (h : Att w0 w W g ge kd nm tx vk s p b sp v6 v3 names attrs) {x : S36} (ho : k36.R 36 W' w0.heap.size (fun k_ => w.heap.size ≤ k_ ∧ some k_ ≠ v6.ownBlock) v' (attrs ++ [x])) (hb : Below w0.heap.size w0 W') (hg : W.grownBy W' v3.ownBlock) (hat : v'.ownBlock = v3.ownBlock ∨ ∃ b, v'.ownBlock = some b ∧ W.heap.size ≤ b) :
  Att w0 w (W'.setCell ⟨ge, 3, none⟩ v') g ge kd nm tx vk s p b sp v6 v' names (attrs ++ [x]) :=
 ⟨(h.st.grown hg (h.st.own_ne h.ar de_)).far (p := ⟨ge, 3, none⟩) (Ne.symm h.ne) _, blk_put (blk_grown h.el hg (Kd.R_ne h.ar h.el de_)) 3 _ rfl, Kd.R_far (p := ⟨ge, 3, none⟩) (Kd.R_after h.nr hg hat) (fun k hk => by have := h.le; show k ≠ ge; omega) _, Kd.R_far (p := ⟨ge, 3, none⟩) ho (fun k hk => by have := h.le; show k ≠ ge; omega) _, below_set hb h.g0, (h.kp.grown hg (fun k hk => (h.ar.1 k hk).1)).keepE ((KeepBut.refl W' ge none).set_ 3 _), h.gl, h.le, h.ne, h.g0⟩
theorem Att.freshN {w0 w W : World} {g ge : Nat} {kd : Int} {nm tx : BA} {vk : Value} {s : BA} {p : Int} {b : Bool} {sp : Int} {v6 v3 : Value} {names attrs : List S36} (h : Att w0 w W g ge kd nm tx vk s p b sp v6 v3 names attrs) : ∀ k, W.heap.size ≤ k → w.heap.size ≤ k ∧ some k ≠ v3.ownBlock :=
 fun k hk => ⟨Nat.le_trans h.kp.1 hk, fun e => by have := Kd.R_lt h.ar k e.symm; omega⟩
theorem Att.freshA {w0 w W : World} {g ge : Nat} {kd : Int} {nm tx : BA} {vk : Value} {s : BA} {p : Int} {b : Bool} {sp : Int} {v6 v3 : Value} {names attrs : List S36} (h : Att w0 w W g ge kd nm tx vk s p b sp v6 v3 names attrs) : ∀ k, W.heap.size ≤ k → w.heap.size ≤ k ∧ some k ≠ v6.ownBlock :=
 fun k hk => ⟨Nat.le_trans h.kp.1 hk, fun e => by have := Kd.R_lt h.nr k e.symm; omega⟩
section
variable {P : Program} {ops : Array Oper} {o : Oper} {a : Act} {Q : Exit → Act → World → Prop} {Kc : Act → World → Prop}
theorem lit_step {W w1' : World} {v : Value} (hw : Region.wanted o (yielded ops a.tmps) = true) (hrun : (execOp a.eval o).run P W = .ok (.value v) w1') (h : ∀ w1, w1 = w1' → Kc (a.put o.dst v) w1) : if Region.wanted o (yielded ops a.tmps) = true then Oper.wp P o a W Kc Q else Kc (a.put o.dst undef) W := event_step hw hrun (h _ rfl)
end
theorem set2 {w w9 : World} {g : Nat} (hb : Below w.heap.size w w9) (hg : w.heap.size ≤ g) (v0 v1 : Value) : Below w.heap.size w ((w9.setCell ⟨g, 0, none⟩ v0).setCell ⟨g, 1, none⟩ v1) := below_set (below_set hb hg) hg
def attrsL : Nat → Int → ByteArray → Int → Bool → List S36 → List S36 → Int → Option (List S36 × Int × ByteArray × Int × Bool)
 | 0, _, _, _, _, _, _, _ => none
 | n + 1, about, s, p, b, names, attrs, sp =>
  (impl_reader_is.f s p b ⟨#[32]⟩).bind fun t => if t.1 = true then
   (impl_reader_take.f t.2.1 t.2.2.1 t.2.2.2 ⟨#[32]⟩).bind fun t2 => (impl_reader_attr.f n t2.1 t2.2.1 t2.2.2).bind fun a =>
   (impl_hasAttr.f names a.1).bind fun hb => if hb = true then some (attrs, sp, a.2.2.1, a.2.2.2.1, true) else if a.2.2.2.2 = true then some (attrs, sp, a.2.2.1, a.2.2.2.1, true) else
   if names.length < 4398046511104 ∧ attrs.length < 4398046511104 then
    (if a.1.toList = [120, 109, 108, 110, 115] then (impl_spaceOf.f n a.2.1).bind fun x => attrsL n about a.2.2.1 a.2.2.2.1 (decide (x < 0) || decide (x = about)) (names ++ [⟨a.1, a.2.1⟩]) attrs x
    else attrsL n about a.2.2.1 a.2.2.2.1 false (names ++ [⟨a.1, a.2.1⟩]) (attrs ++ [⟨a.1, a.2.1⟩]) sp)
   else none
  else (impl_inRange.f sp 0 2).bind fun r => some (attrs, sp, t.2.1, t.2.2.1, if r = true then t.2.2.2 else true)
theorem attrsL_mono : ∀ k y0 y1 y2 y3 y4 y5 y6, LeO (attrsL k y0 y1 y2 y3 y4 y5 y6) (attrsL (k + 1) y0 y1 y2 y3 y4 y5 y6)
 | 0 => fun _ _ _ _ _ _ _ r h => by simp [attrsL] at h
 | k + 1 => by
  have ih := attrsL_mono k;intro y0 y1 y2 y3 y4 y5 y6;rw [attrsL, attrsL];exact LeO.bind (LeO.refl _) fun t => LeO.ite (LeO.bind (LeO.refl _) fun t2 => LeO.bind (impl_reader_attr.mono _ _ _ _) fun a => LeO.bind (LeO.refl _) fun hb => LeO.ite (LeO.refl _) (LeO.ite (LeO.refl _) (LeO.ite (LeO.ite (LeO.bind (impl_spaceOf.mono _ _) fun x => ih _ _ _ _ _ _ _) (ih _ _ _ _ _ _ _)) (LeO.refl _)))) (LeO.refl _)
def impl_reader_attrs.f (k : Nat) (about sp : Int) (s : BA) (p : Int) (b : Bool) : Option (List S36 × Int × ByteArray × Int × Bool) := attrsL k about s p b [] [] sp
theorem impl_reader_attrs.mono : ∀ about sp s p b k, LeO (impl_reader_attrs.f k about sp s p b) (impl_reader_attrs.f (k + 1) about sp s p b) := fun _ _ _ _ _ k => attrsL_mono k _ _ _ _ _ _ _
theorem impl_reader_attrs.calls (k : Nat) (g ge : Nat) (kd : Int) (nm tx : BA) (vk : Value) (about sp : Int) (s : BA) (p : Int) (b : Bool) (r0 : List S36) (r1 : Int) (r2 : BA) (r3 : Int) (r4 : Bool) (w0 w : World) (hI : IsS93 w0 w g s p b)
  (hG : w.heap[ge]? = some (.cells #[.int .i64 kd, .int .i64 sp, .string nm, .slice none 0 0, .string tx, vk] 43 (0, 0))) (hg0 : w0.heap.size ≤ ge) (hB : Below w0.heap.size w0 w) (hL : LibOk w0) (hE : LibErr w0) (h : impl_reader_attrs.f k about sp s p b = some (r0, r1, r2, r3, r4)) :
  Calls Tryz.prog 136 #[.pointer (some ⟨g, 0, none⟩), .pointer (some ⟨ge, 0, none⟩), .int .i64 about] w fun e w' => e = .returned (.tuple #[]) ∧ ∃ v6 v3 names, Att w0 w w' g ge kd nm tx vk r2 r3 r4 r1 v6 v3 names r0 := by
 have hu := Tryz.underlying36;have hu2 := Tryz.underlying43;have HF : As9 (attrsL k about s p b [] [] sp = some (r0, r1, r2, r3, r4)) := ⟨h⟩;have HT : As9 (Att w0 w w g ge kd nm tx vk s p b sp (.slice none 0 0) (.slice none 0 0) [] []) := ⟨⟨hI, hG, Kd.R_nil _ _ _ _ _, Kd.R_nil _ _ _ _ _, hB, Keep2.refl _ _ _, hI.lt, blk_lt hG, Ne.symm (hI.ne_blk hG de_), hg0⟩⟩;have HLL := A_ hL;have HEE := A_ hE;clear h hI hG hB hL hE;go_enter Tryz.func136, Tryz.ntmps136
 go_wp2
 go_loopg [6] k (fun kq v6 wr => ∃ (names attrs : List S36) (v3 : Value) (sp : Int) (s : BA) (p : Int) (b : Bool), As9 (attrsL kq about s p b names attrs sp = some (r0, r1, r2, r3, r4)) ∧ As9 (Att w0 w wr g ge kd nm tx vk s p b sp v6 v3 names attrs))
 case atStart => exact ⟨[], [], .slice none 0 0, sp, s, p, b, HF, HT⟩
 case round =>
  clear HF HT;obtain ⟨names, attrs, v3, sp, s, p, b, HA, HT⟩ := hrel;cases gk with
  | zero => exact absurd HA.out (by simp [attrsL])
  | succ n =>
  have H := HA.out;clear HA;simp only [attrsL] at H;obtain ⟨An, cn, rfl⟩ := Kd.R_slice HT.out.nr;obtain ⟨⟨t, s1, p1, b1⟩, ht, H⟩ := oB_ H;dsimp only at H;have Ht := A_ ht;clear ht;cases t with
  | false =>
   rw [if_neg si_] at H;obtain ⟨r, hr, H⟩ := oB_ H;have Hr := A_ hr;clear hr;cases r with
   | true =>
    rw [if_pos rfl] at H;simp only [Option.some.injEq, Prod.mk.injEq] at H;obtain ⟨rfl, rfl, rfl, rfl, rfl⟩ := H;go_wp2_with (first | (go_at_call 95; (with_reducible refine (impl_reader_is.calls g s p b ⟨#[32]⟩ false s1 p1 b1 w0 _ HT.out.st HT.out.bl Ht.out).mono ?_); rintro e w1 ⟨rfl, hi, hb, hk⟩; have HT1 := A_ (HT.out.state hi hb hk); clear hi hb hk HT; have hz1 := (blk_cell HT1.out.el 1).trans rfl) | (go_at_call 53; (with_reducible refine (impl_inRange.calls sp 0 2 true _ Hr.out).mono ?_); rintro e w2 ⟨rfl, hd⟩; have HT2 := A_ (HT1.out.below hd.below); clear hd HT1))
    go_end0
    exact ⟨rfl, _, _, _, HT2.out⟩
   | false =>
    rw [if_neg si_] at H;simp only [Option.some.injEq, Prod.mk.injEq] at H;obtain ⟨rfl, rfl, rfl, rfl, rfl⟩ := H;go_wp2_with (first | (go_at_call 95; (with_reducible refine (impl_reader_is.calls g s p b ⟨#[32]⟩ false s1 p1 b1 w0 _ HT.out.st HT.out.bl Ht.out).mono ?_); rintro e w1 ⟨rfl, hi, hb, hk⟩; have HT1 := A_ (HT.out.state hi hb hk); clear hi hb hk HT; have hz1 := (blk_cell HT1.out.el 1).trans rfl) | (go_at_call 53; (with_reducible refine (impl_inRange.calls sp 0 2 false _ Hr.out).mono ?_); rintro e w2 ⟨rfl, hd⟩; have HT2 := A_ (HT1.out.below hd.below); clear hd HT1; have hz2 := (blk_cell HT2.out.st.1 2).trans rfl; have hf2 := blk_frozen HT2.out.st.1 2))
    go_end0
    exact ⟨rfl, _, _, _, HT2.out.bad true⟩
  | true =>
   rw [if_pos rfl] at H;obtain ⟨⟨s2, p2, b2⟩, ht2, H⟩ := oB_ H;obtain ⟨⟨an, av, s3, p3, b3⟩, ha, H⟩ := oB_ H;obtain ⟨hv, hhv, H⟩ := oB_ H;dsimp only at H ht2 ha hhv;have Ht2 := A_ ht2;have Ha := A_ ha;have Hv := A_ hhv;clear ht2 ha hhv;cases hv with
   | true =>
    rw [if_pos rfl] at H;simp only [Option.some.injEq, Prod.mk.injEq] at H;obtain ⟨rfl, rfl, rfl, rfl, rfl⟩ := H;go_wp2_with (first | (go_at_call 95; (with_reducible refine (impl_reader_is.calls g s p b ⟨#[32]⟩ true s1 p1 b1 w0 _ HT.out.st HT.out.bl Ht.out).mono ?_); rintro e w1 ⟨rfl, hi, hb, hk⟩; have HT1 := A_ (HT.out.state hi hb hk); clear hi hb hk HT; have hz1 := (blk_cell HT1.out.el 1).trans rfl) | (go_at_call 94; (with_reducible refine (impl_reader_take.calls g s1 p1 b1 ⟨#[32]⟩ s2 p2 b2 w0 _ HT1.out.st HT1.out.bl Ht2.out).mono ?_); rintro e w2 ⟨rfl, hi, hb, hk⟩; have HT2 := A_ (HT1.out.state hi hb hk); clear hi hb hk HT1) | (go_at_call 172; (with_reducible refine (impl_reader_attr.calls n g s2 p2 b2 an av s3 p3 _ w0 _ HT2.out.st HT2.out.bl HLL.out HEE.out Ha.out).mono ?_); rintro e w3 ⟨rfl, hi, hb, hk⟩; have HT3 := A_ (HT2.out.state hi hb hk); clear hi hb hk HT2) | (refine gate_dst (N := 7) rfl ?_; refine bE_ #[.string ⟨#[]⟩, .string ⟨#[]⟩] 36 ?_; intro ga hga w4 hbox hb; have HGA := A_ hga; have HBX := A_ hb; have HX := A_ hbox; obtain ⟨hy0, hy1, hf0, hf1⟩ := bk2_ hbox; clear hga hb hbox) | (go_at_call 173; have HT5 := A_ (HT3.out.below (set2 HBX.out (Nat.le_of_eq HGA.out.symm) (.string an) (.string av))); have HX5 := A_ (blk_two HX.out (.string an) (.string av)); have HNA := A_ (show (∀ k, (Value.slice An names.length cn).ownBlock = some k → k < ga) ∧ ∀ k, v3.ownBlock = some k → k < ga from ⟨fun k hk => by have := Kd.R_lt HT3.out.nr k hk; rw [HGA.out]; exact this, fun k hk => by have := Kd.R_lt HT3.out.ar k hk; rw [HGA.out]; exact this⟩); clear HT3 HX HBX; (with_reducible refine (impl_hasAttr.calls An cn names an _ _ (Kd.R_reads' HT5.out.nr).2.2 (Kd.R_reads' HT5.out.nr).2.1 Hv.out).mono ?_); rintro e w6 ⟨rfl, hb⟩; have HT6 := A_ (HT5.out.below hb); have HX6 := A_ (blk_below HX5.out hb); clear hb HT5 HX5 hy0 hy1 hf0 hf1; obtain ⟨hx0, hx1⟩ := bc2_ HX6.out; have hz2 := (blk_cell HT6.out.st.1 2).trans rfl; have hf2 := blk_frozen HT6.out.st.1 2))
    refine bodyPost_ret (results_none rfl _ _ _) rfl ?_;exact ⟨rfl, _, _, _, HT6.out.bad true⟩
   | false =>
    rw [if_neg si_] at H;cases b3 with
    | true =>
     rw [if_pos rfl] at H;simp only [Option.some.injEq, Prod.mk.injEq] at H;obtain ⟨rfl, rfl, rfl, rfl, rfl⟩ := H;go_wp2_with (first | (go_at_call 95; (with_reducible refine (impl_reader_is.calls g s p b ⟨#[32]⟩ true s1 p1 b1 w0 _ HT.out.st HT.out.bl Ht.out).mono ?_); rintro e w1 ⟨rfl, hi, hb, hk⟩; have HT1 := A_ (HT.out.state hi hb hk); clear hi hb hk HT; have hz1 := (blk_cell HT1.out.el 1).trans rfl) | (go_at_call 94; (with_reducible refine (impl_reader_take.calls g s1 p1 b1 ⟨#[32]⟩ s2 p2 b2 w0 _ HT1.out.st HT1.out.bl Ht2.out).mono ?_); rintro e w2 ⟨rfl, hi, hb, hk⟩; have HT2 := A_ (HT1.out.state hi hb hk); clear hi hb hk HT1) | (go_at_call 172; (with_reducible refine (impl_reader_attr.calls n g s2 p2 b2 an av s3 p3 _ w0 _ HT2.out.st HT2.out.bl HLL.out HEE.out Ha.out).mono ?_); rintro e w3 ⟨rfl, hi, hb, hk⟩; have HT3 := A_ (HT2.out.state hi hb hk); clear hi hb hk HT2) | (refine gate_dst (N := 7) rfl ?_; refine bE_ #[.string ⟨#[]⟩, .string ⟨#[]⟩] 36 ?_; intro ga hga w4 hbox hb; have HGA := A_ hga; have HBX := A_ hb; have HX := A_ hbox; obtain ⟨hy0, hy1, hf0, hf1⟩ := bk2_ hbox; clear hga hb hbox) | (go_at_call 173; have HT5 := A_ (HT3.out.below (set2 HBX.out (Nat.le_of_eq HGA.out.symm) (.string an) (.string av))); have HX5 := A_ (blk_two HX.out (.string an) (.string av)); have HNA := A_ (show (∀ k, (Value.slice An names.length cn).ownBlock = some k → k < ga) ∧ ∀ k, v3.ownBlock = some k → k < ga from ⟨fun k hk => by have := Kd.R_lt HT3.out.nr k hk; rw [HGA.out]; exact this, fun k hk => by have := Kd.R_lt HT3.out.ar k hk; rw [HGA.out]; exact this⟩); clear HT3 HX HBX; (with_reducible refine (impl_hasAttr.calls An cn names an _ _ (Kd.R_reads' HT5.out.nr).2.2 (Kd.R_reads' HT5.out.nr).2.1 Hv.out).mono ?_); rintro e w6 ⟨rfl, hb⟩; have HT6 := A_ (HT5.out.below hb); have HX6 := A_ (blk_below HX5.out hb); clear hb HT5 HX5 hy0 hy1 hf0 hf1; obtain ⟨hx0, hx1⟩ := bc2_ HX6.out; have hz2 := (blk_cell HT6.out.st.1 2).trans rfl; have hf2 := blk_frozen HT6.out.st.1 2))
     refine bodyPost_ret (results_none rfl _ _ _) rfl ?_;exact ⟨rfl, _, _, _, HT6.out⟩
    | false =>
     rw [if_neg si_] at H;split at H
     case isFalse => cases H
     case isTrue hl =>
     have HL := A_ hl;clear hl;by_cases cx : an.toList = [120, 109, 108, 110, 115]
     case pos =>
      rw [if_pos cx] at H;obtain ⟨x, hx, H⟩ := oB_ H;have Hx := A_ hx;have HH := A_ H;clear hx H;have cxb : (!(an.toList == [120, 109, 108, 110, 115])) = false := by rw [cx]; rfl
      by_cases d1 : x < 0
      case pos =>
       have HM : As9 (attrsL n about s3 p3 true (names ++ [⟨an, av⟩]) attrs x = some (r0, r1, r2, r3, r4)) := ⟨by have h := HH.out; rw [dE_ d1, Bool.true_or] at h; exact h⟩;go_wp2_with (first | (go_at_call 95; (with_reducible refine (impl_reader_is.calls g s p b ⟨#[32]⟩ true s1 p1 b1 w0 _ HT.out.st HT.out.bl Ht.out).mono ?_); rintro e w1 ⟨rfl, hi, hb, hk⟩; have HT1 := A_ (HT.out.state hi hb hk); clear hi hb hk HT; have hz1 := (blk_cell HT1.out.el 1).trans rfl) | (go_at_call 94; (with_reducible refine (impl_reader_take.calls g s1 p1 b1 ⟨#[32]⟩ s2 p2 b2 w0 _ HT1.out.st HT1.out.bl Ht2.out).mono ?_); rintro e w2 ⟨rfl, hi, hb, hk⟩; have HT2 := A_ (HT1.out.state hi hb hk); clear hi hb hk HT1) | (go_at_call 172; (with_reducible refine (impl_reader_attr.calls n g s2 p2 b2 an av s3 p3 _ w0 _ HT2.out.st HT2.out.bl HLL.out HEE.out Ha.out).mono ?_); rintro e w3 ⟨rfl, hi, hb, hk⟩; have HT3 := A_ (HT2.out.state hi hb hk); clear hi hb hk HT2) | (refine gate_dst (N := 7) rfl ?_; refine bE_ #[.string ⟨#[]⟩, .string ⟨#[]⟩] 36 ?_; intro ga hga w4 hbox hb; have HGA := A_ hga; have HBX := A_ hb; have HX := A_ hbox; obtain ⟨hy0, hy1, hf0, hf1⟩ := bk2_ hbox; clear hga hb hbox) | (go_at_call 173; have HT5 := A_ (HT3.out.below (set2 HBX.out (Nat.le_of_eq HGA.out.symm) (.string an) (.string av))); have HX5 := A_ (blk_two HX.out (.string an) (.string av)); have HNA := A_ (show (∀ k, (Value.slice An names.length cn).ownBlock = some k → k < ga) ∧ ∀ k, v3.ownBlock = some k → k < ga from ⟨fun k hk => by have := Kd.R_lt HT3.out.nr k hk; rw [HGA.out]; exact this, fun k hk => by have := Kd.R_lt HT3.out.ar k hk; rw [HGA.out]; exact this⟩); clear HT3 HX HBX; (with_reducible refine (impl_hasAttr.calls An cn names an _ _ (Kd.R_reads' HT5.out.nr).2.2 (Kd.R_reads' HT5.out.nr).2.1 Hv.out).mono ?_); rintro e w6 ⟨rfl, hb⟩; have HT6 := A_ (HT5.out.below hb); have HX6 := A_ (blk_below HX5.out hb); clear hb HT5 HX5 hy0 hy1 hf0 hf1; obtain ⟨hx0, hx1⟩ := bc2_ HX6.out; have hz2 := (blk_cell HT6.out.st.1 2).trans rfl; have hf2 := blk_frozen HT6.out.st.1 2) | ((with_reducible refine gate_builtin (b := .append) (xs := #[.tmp 25, .tmp 27]) rfl ?_); at_builtin; go_loud (refine Kd.R_append k36 (w0 := w0) w0.heap.size rfl (.tmp 25) (.tmp 27) 40 36 (.agg #[(.string ⟨#[]⟩), (.string ⟨#[]⟩)]) 32 rfl Tryz.underlying40 info36 rfl de_ om_ (.slice An names.length cn) names (⟨an, av⟩ : S36) [.string an, .string av] (fun k_ => w.heap.size ≤ k_ ∧ some k_ ≠ v3.ownBlock) (fun _ => False) rfl rfl ?aP (fun _ hk => hk.elim) ?aF ?aO ?aB ?aS ?aL ?_); (case aP => exact k36_mkM _ _ _ (⟨an, av⟩ : S36)); (case aF => exact HT6.out.freshN); (case aO => exact HT6.out.nr); (case aB => exact HT6.out.bl); (case aS => exact HT6.out.bl.size); (case aL => have := HL.out.1; omega); intro v6 w7 ho hb hg hat; have HT7 := A_ (HT6.out.names_ ho hb hg hat); have HX7 := A_ (blk_grown HX6.out hg (fun e_ => by have := HNA.out.1 ga e_.symm; omega)); clear ho hb hg hat HT6 HX6 hx0 hx1 hz2 hf2; obtain ⟨hx0, hx1⟩ := bc2_ HX7.out) | (go_at_call 174; (with_reducible refine (impl_spaceOf.calls n av x _ Hx.out).mono ?_); rintro e w8 ⟨rfl, hd⟩; have HT8 := A_ (HT7.out.below hd.below); clear hd HT7 HX7 hx0 hx1; have hze := (blk_cell HT8.out.el 1).trans rfl; have hfe := blk_frozen HT8.out.el 1; have hz2 := (blk_cell HT8.out.st.1 2).trans rfl; have hf2 := blk_frozen HT8.out.st.1 2; have hn1 := eq_false HT8.out.ne; have hn2 := eq_false (Ne.symm HT8.out.ne)))
       go_roundg n
       case measure => omega
       case rel => exact ⟨_, _, _, _, _, _, _, HM, ⟨(HT8.out.space x).bad true⟩⟩
      case neg =>
      by_cases d2 : x = about
      case pos =>
       have d2b : (x == about) = true := bQ_ d2;have HM : As9 (attrsL n about s3 p3 true (names ++ [⟨an, av⟩]) attrs x = some (r0, r1, r2, r3, r4)) := ⟨by have h := HH.out; rw [dE_ d2, Bool.or_true] at h; exact h⟩;clear d2;go_wp2_with (first | (go_at_call 95; (with_reducible refine (impl_reader_is.calls g s p b ⟨#[32]⟩ true s1 p1 b1 w0 _ HT.out.st HT.out.bl Ht.out).mono ?_); rintro e w1 ⟨rfl, hi, hb, hk⟩; have HT1 := A_ (HT.out.state hi hb hk); clear hi hb hk HT; have hz1 := (blk_cell HT1.out.el 1).trans rfl) | (go_at_call 94; (with_reducible refine (impl_reader_take.calls g s1 p1 b1 ⟨#[32]⟩ s2 p2 b2 w0 _ HT1.out.st HT1.out.bl Ht2.out).mono ?_); rintro e w2 ⟨rfl, hi, hb, hk⟩; have HT2 := A_ (HT1.out.state hi hb hk); clear hi hb hk HT1) | (go_at_call 172; (with_reducible refine (impl_reader_attr.calls n g s2 p2 b2 an av s3 p3 _ w0 _ HT2.out.st HT2.out.bl HLL.out HEE.out Ha.out).mono ?_); rintro e w3 ⟨rfl, hi, hb, hk⟩; have HT3 := A_ (HT2.out.state hi hb hk); clear hi hb hk HT2) | (refine gate_dst (N := 7) rfl ?_; refine bE_ #[.string ⟨#[]⟩, .string ⟨#[]⟩] 36 ?_; intro ga hga w4 hbox hb; have HGA := A_ hga; have HBX := A_ hb; have HX := A_ hbox; obtain ⟨hy0, hy1, hf0, hf1⟩ := bk2_ hbox; clear hga hb hbox) | (go_at_call 173; have HT5 := A_ (HT3.out.below (set2 HBX.out (Nat.le_of_eq HGA.out.symm) (.string an) (.string av))); have HX5 := A_ (blk_two HX.out (.string an) (.string av)); have HNA := A_ (show (∀ k, (Value.slice An names.length cn).ownBlock = some k → k < ga) ∧ ∀ k, v3.ownBlock = some k → k < ga from ⟨fun k hk => by have := Kd.R_lt HT3.out.nr k hk; rw [HGA.out]; exact this, fun k hk => by have := Kd.R_lt HT3.out.ar k hk; rw [HGA.out]; exact this⟩); clear HT3 HX HBX; (with_reducible refine (impl_hasAttr.calls An cn names an _ _ (Kd.R_reads' HT5.out.nr).2.2 (Kd.R_reads' HT5.out.nr).2.1 Hv.out).mono ?_); rintro e w6 ⟨rfl, hb⟩; have HT6 := A_ (HT5.out.below hb); have HX6 := A_ (blk_below HX5.out hb); clear hb HT5 HX5 hy0 hy1 hf0 hf1; obtain ⟨hx0, hx1⟩ := bc2_ HX6.out; have hz2 := (blk_cell HT6.out.st.1 2).trans rfl; have hf2 := blk_frozen HT6.out.st.1 2) | ((with_reducible refine gate_builtin (b := .append) (xs := #[.tmp 25, .tmp 27]) rfl ?_); at_builtin; go_loud (refine Kd.R_append k36 (w0 := w0) w0.heap.size rfl (.tmp 25) (.tmp 27) 40 36 (.agg #[(.string ⟨#[]⟩), (.string ⟨#[]⟩)]) 32 rfl Tryz.underlying40 info36 rfl de_ om_ (.slice An names.length cn) names (⟨an, av⟩ : S36) [.string an, .string av] (fun k_ => w.heap.size ≤ k_ ∧ some k_ ≠ v3.ownBlock) (fun _ => False) rfl rfl ?aP (fun _ hk => hk.elim) ?aF ?aO ?aB ?aS ?aL ?_); (case aP => exact k36_mkM _ _ _ (⟨an, av⟩ : S36)); (case aF => exact HT6.out.freshN); (case aO => exact HT6.out.nr); (case aB => exact HT6.out.bl); (case aS => exact HT6.out.bl.size); (case aL => have := HL.out.1; omega); intro v6 w7 ho hb hg hat; have HT7 := A_ (HT6.out.names_ ho hb hg hat); have HX7 := A_ (blk_grown HX6.out hg (fun e_ => by have := HNA.out.1 ga e_.symm; omega)); clear ho hb hg hat HT6 HX6 hx0 hx1 hz2 hf2; obtain ⟨hx0, hx1⟩ := bc2_ HX7.out) | (go_at_call 174; (with_reducible refine (impl_spaceOf.calls n av x _ Hx.out).mono ?_); rintro e w8 ⟨rfl, hd⟩; have HT8 := A_ (HT7.out.below hd.below); clear hd HT7 HX7 hx0 hx1; have hze := (blk_cell HT8.out.el 1).trans rfl; have hfe := blk_frozen HT8.out.el 1; have hz2 := (blk_cell HT8.out.st.1 2).trans rfl; have hf2 := blk_frozen HT8.out.st.1 2; have hn1 := eq_false HT8.out.ne; have hn2 := eq_false (Ne.symm HT8.out.ne)))
       go_roundg n
       case measure => omega
       case rel => exact ⟨_, _, _, _, _, _, _, HM, ⟨(HT8.out.space x).bad true⟩⟩
      case neg =>
       have d2b : (x == about) = false := bN_ d2;have HM : As9 (attrsL n about s3 p3 false (names ++ [⟨an, av⟩]) attrs x = some (r0, r1, r2, r3, r4)) := ⟨by have h := HH.out; rw [dF_ d1, dF_ d2] at h; exact h⟩;clear d2;go_wp2_with (first | (go_at_call 95; (with_reducible refine (impl_reader_is.calls g s p b ⟨#[32]⟩ true s1 p1 b1 w0 _ HT.out.st HT.out.bl Ht.out).mono ?_); rintro e w1 ⟨rfl, hi, hb, hk⟩; have HT1 := A_ (HT.out.state hi hb hk); clear hi hb hk HT; have hz1 := (blk_cell HT1.out.el 1).trans rfl) | (go_at_call 94; (with_reducible refine (impl_reader_take.calls g s1 p1 b1 ⟨#[32]⟩ s2 p2 b2 w0 _ HT1.out.st HT1.out.bl Ht2.out).mono ?_); rintro e w2 ⟨rfl, hi, hb, hk⟩; have HT2 := A_ (HT1.out.state hi hb hk); clear hi hb hk HT1) | (go_at_call 172; (with_reducible refine (impl_reader_attr.calls n g s2 p2 b2 an av s3 p3 _ w0 _ HT2.out.st HT2.out.bl HLL.out HEE.out Ha.out).mono ?_); rintro e w3 ⟨rfl, hi, hb, hk⟩; have HT3 := A_ (HT2.out.state hi hb hk); clear hi hb hk HT2) | (refine gate_dst (N := 7) rfl ?_; refine bE_ #[.string ⟨#[]⟩, .string ⟨#[]⟩] 36 ?_; intro ga hga w4 hbox hb; have HGA := A_ hga; have HBX := A_ hb; have HX := A_ hbox; obtain ⟨hy0, hy1, hf0, hf1⟩ := bk2_ hbox; clear hga hb hbox) | (go_at_call 173; have HT5 := A_ (HT3.out.below (set2 HBX.out (Nat.le_of_eq HGA.out.symm) (.string an) (.string av))); have HX5 := A_ (blk_two HX.out (.string an) (.string av)); have HNA := A_ (show (∀ k, (Value.slice An names.length cn).ownBlock = some k → k < ga) ∧ ∀ k, v3.ownBlock = some k → k < ga from ⟨fun k hk => by have := Kd.R_lt HT3.out.nr k hk; rw [HGA.out]; exact this, fun k hk => by have := Kd.R_lt HT3.out.ar k hk; rw [HGA.out]; exact this⟩); clear HT3 HX HBX; (with_reducible refine (impl_hasAttr.calls An cn names an _ _ (Kd.R_reads' HT5.out.nr).2.2 (Kd.R_reads' HT5.out.nr).2.1 Hv.out).mono ?_); rintro e w6 ⟨rfl, hb⟩; have HT6 := A_ (HT5.out.below hb); have HX6 := A_ (blk_below HX5.out hb); clear hb HT5 HX5 hy0 hy1 hf0 hf1; obtain ⟨hx0, hx1⟩ := bc2_ HX6.out; have hz2 := (blk_cell HT6.out.st.1 2).trans rfl; have hf2 := blk_frozen HT6.out.st.1 2) | ((with_reducible refine gate_builtin (b := .append) (xs := #[.tmp 25, .tmp 27]) rfl ?_); at_builtin; go_loud (refine Kd.R_append k36 (w0 := w0) w0.heap.size rfl (.tmp 25) (.tmp 27) 40 36 (.agg #[(.string ⟨#[]⟩), (.string ⟨#[]⟩)]) 32 rfl Tryz.underlying40 info36 rfl de_ om_ (.slice An names.length cn) names (⟨an, av⟩ : S36) [.string an, .string av] (fun k_ => w.heap.size ≤ k_ ∧ some k_ ≠ v3.ownBlock) (fun _ => False) rfl rfl ?aP (fun _ hk => hk.elim) ?aF ?aO ?aB ?aS ?aL ?_); (case aP => exact k36_mkM _ _ _ (⟨an, av⟩ : S36)); (case aF => exact HT6.out.freshN); (case aO => exact HT6.out.nr); (case aB => exact HT6.out.bl); (case aS => exact HT6.out.bl.size); (case aL => have := HL.out.1; omega); intro v6 w7 ho hb hg hat; have HT7 := A_ (HT6.out.names_ ho hb hg hat); have HX7 := A_ (blk_grown HX6.out hg (fun e_ => by have := HNA.out.1 ga e_.symm; omega)); clear ho hb hg hat HT6 HX6 hx0 hx1 hz2 hf2; obtain ⟨hx0, hx1⟩ := bc2_ HX7.out) | (go_at_call 174; (with_reducible refine (impl_spaceOf.calls n av x _ Hx.out).mono ?_); rintro e w8 ⟨rfl, hd⟩; have HT8 := A_ (HT7.out.below hd.below); clear hd HT7 HX7 hx0 hx1; have hze := (blk_cell HT8.out.el 1).trans rfl; have hfe := blk_frozen HT8.out.el 1; have hz2 := (blk_cell HT8.out.st.1 2).trans rfl; have hf2 := blk_frozen HT8.out.st.1 2; have hn1 := eq_false HT8.out.ne; have hn2 := eq_false (Ne.symm HT8.out.ne)))
       go_roundg n
       case measure => omega
       case rel => exact ⟨_, _, _, _, _, _, _, HM, ⟨HT8.out.space x⟩⟩
     case neg =>
      rw [if_neg cx] at H;have HH := A_ H;clear H;have cxb : (!(an.toList == [120, 109, 108, 110, 115])) = true := by rw [bN_ cx]; rfl
      go_wp2_with (first | (go_at_call 95; (with_reducible refine (impl_reader_is.calls g s p b ⟨#[32]⟩ true s1 p1 b1 w0 _ HT.out.st HT.out.bl Ht.out).mono ?_); rintro e w1 ⟨rfl, hi, hb, hk⟩; have HT1 := A_ (HT.out.state hi hb hk); clear hi hb hk HT; have hz1 := (blk_cell HT1.out.el 1).trans rfl) | (go_at_call 94; (with_reducible refine (impl_reader_take.calls g s1 p1 b1 ⟨#[32]⟩ s2 p2 b2 w0 _ HT1.out.st HT1.out.bl Ht2.out).mono ?_); rintro e w2 ⟨rfl, hi, hb, hk⟩; have HT2 := A_ (HT1.out.state hi hb hk); clear hi hb hk HT1) | (go_at_call 172; (with_reducible refine (impl_reader_attr.calls n g s2 p2 b2 an av s3 p3 _ w0 _ HT2.out.st HT2.out.bl HLL.out HEE.out Ha.out).mono ?_); rintro e w3 ⟨rfl, hi, hb, hk⟩; have HT3 := A_ (HT2.out.state hi hb hk); clear hi hb hk HT2) | (refine gate_dst (N := 7) rfl ?_; refine bE_ #[.string ⟨#[]⟩, .string ⟨#[]⟩] 36 ?_; intro ga hga w4 hbox hb; have HGA := A_ hga; have HBX := A_ hb; have HX := A_ hbox; obtain ⟨hy0, hy1, hf0, hf1⟩ := bk2_ hbox; clear hga hb hbox) | (go_at_call 173; have HT5 := A_ (HT3.out.below (set2 HBX.out (Nat.le_of_eq HGA.out.symm) (.string an) (.string av))); have HX5 := A_ (blk_two HX.out (.string an) (.string av)); have HNA := A_ (show (∀ k, (Value.slice An names.length cn).ownBlock = some k → k < ga) ∧ ∀ k, v3.ownBlock = some k → k < ga from ⟨fun k hk => by have := Kd.R_lt HT3.out.nr k hk; rw [HGA.out]; exact this, fun k hk => by have := Kd.R_lt HT3.out.ar k hk; rw [HGA.out]; exact this⟩); clear HT3 HX HBX; (with_reducible refine (impl_hasAttr.calls An cn names an _ _ (Kd.R_reads' HT5.out.nr).2.2 (Kd.R_reads' HT5.out.nr).2.1 Hv.out).mono ?_); rintro e w6 ⟨rfl, hb⟩; have HT6 := A_ (HT5.out.below hb); have HX6 := A_ (blk_below HX5.out hb); clear hb HT5 HX5 hy0 hy1 hf0 hf1; obtain ⟨hx0, hx1⟩ := bc2_ HX6.out; have hz2 := (blk_cell HT6.out.st.1 2).trans rfl; have hf2 := blk_frozen HT6.out.st.1 2) | ((with_reducible refine gate_builtin (b := .append) (xs := #[.tmp 25, .tmp 27]) rfl ?_); at_builtin; go_loud (refine Kd.R_append k36 (w0 := w0) w0.heap.size rfl (.tmp 25) (.tmp 27) 40 36 (.agg #[(.string ⟨#[]⟩), (.string ⟨#[]⟩)]) 32 rfl Tryz.underlying40 info36 rfl de_ om_ (.slice An names.length cn) names (⟨an, av⟩ : S36) [.string an, .string av] (fun k_ => w.heap.size ≤ k_ ∧ some k_ ≠ v3.ownBlock) (fun _ => False) rfl rfl ?aP (fun _ hk => hk.elim) ?aF ?aO ?aB ?aS ?aL ?_); (case aP => exact k36_mkM _ _ _ (⟨an, av⟩ : S36)); (case aF => exact HT6.out.freshN); (case aO => exact HT6.out.nr); (case aB => exact HT6.out.bl); (case aS => exact HT6.out.bl.size); (case aL => have := HL.out.1; omega); intro v6 w7 ho hb hg hat; have HT7 := A_ (HT6.out.names_ ho hb hg hat); have HX7 := A_ (blk_grown HX6.out hg (fun e_ => by have := HNA.out.1 ga e_.symm; omega)); clear ho hb hg hat HT6 HX6 hx0 hx1 hz2 hf2; obtain ⟨hx0, hx1⟩ := bc2_ HX7.out))
      have HTd := A_ HT7.out.drew;have HXd := A_ (blk_drew HX7.out);clear HT7 HX7 hx0 hx1;refine start_ (n := 11) (S := fun w' => w'.cell? ⟨ge, 3, none⟩ = some v3 ∧ w'.cell? ⟨ga, 0, none⟩ = some (.string an) ∧ w'.cell? ⟨ga, 1, none⟩ = some (.string av)) (ds := [10]) (tS 11 0) (by kernel_rfl) rfl rfl ⟨(blk_cell HTd.out.el 3).trans rfl, (blk_cell HXd.out 0).trans rfl, (blk_cell HXd.out 1).trans rfl⟩ (fun hHeld => ?_);generalize World.drew _ = wr0 at HTd HXd hHeld ⊢;iterate 4 refine pq_ ?_
      refine tq_ rfl (by rintro w' ⟨s0, s1, s2⟩; go_simp; with_reducible rfl) ?_;refine tq_ rfl (by rintro w' ⟨s0, s1, s2⟩; go_simp; with_reducible rfl) ?_;refine n1_ 6 (tS 11 7) rfl fun K hK => ?_
      refine lit_step ?hw (v := .slice (some ⟨wr0.heap.size, 0, none⟩) 1 1) (w1' := wr0.alloc (.cells #[.string an, .string av] 36)) ?hr ?_; (case hw => rfl); (case hr => first | (go_simp; done) | (go_simp; rfl));intro wr6 hwr6;refine hK.out _ _ (by rw [hwr6]; exact ⟨(blk_cell (blk_alloc HTd.out.el _) 3).trans rfl, (blk_cell (blk_alloc HXd.out _) 0).trans rfl, (blk_cell (blk_alloc HXd.out _) 1).trans rfl⟩) (fun hHeld => ?_);clear hK K;refine nm_ ?_;refine n1_ 7 (tS 11 8) rfl fun K hK => ?_
      subst hwr6; refine Kd.R_append_step k36 (w0 := w0) w0.heap.size ?hw (.tmp 36) (.tmp 38) 40 36 (.agg #[(.string ⟨#[]⟩), (.string ⟨#[]⟩)]) 32 rfl Tryz.underlying40 info36 rfl de_ om_ v3 attrs (⟨an, av⟩ : S36) [.string an, .string av] (fun k_ => w.heap.size ≤ k_ ∧ some k_ ≠ v6.ownBlock) (fun _ => False) rfl rfl ?aP (fun _ hk => hk.elim) ?aF ?aO ?aB ?aS ?aL ?_; (case hw => rfl); (case aP => exact k36_mkM _ _ _ (⟨an, av⟩ : S36)); (case aF => exact HTd.out.freshA); (case aO => exact HTd.out.ar); (case aB => exact HTd.out.bl); (case aS => exact HTd.out.bl.size); (case aL => have := HL.out.2; omega);intro v3' wr7 ho hb hg hat;obtain ⟨A3, c3, rfl⟩ := Kd.R_slice ho;have HXe := A_ (blk_grown HTd.out.el hg (Kd.R_ne HTd.out.ar HTd.out.el de_));have HXb := A_ (blk_grown HXd.out hg (fun e_ => by have := HNA.out.2 ga e_.symm; omega));have HTe := A_ (HTd.out.attrs_ ho hb hg hat);clear ho hb hg hat;refine hK.out _ _ ⟨(blk_cell HXe.out 3).trans rfl, (blk_cell HXb.out 0).trans rfl, (blk_cell HXb.out 1).trans rfl⟩ (fun hHeld => ?_);clear hK K;refine nm_ ?_;refine pq_ ?_;refine pq_ ?_;refine last_ (i := 10) (N := none) (tS 11 11) rfl rfl (by kernel_rfl) de_ (fun K hK => ?_);refine put_step1 ?hw ?hN 40 (.tmp 41) (.tmp 39) ?ho (g := ge) (j := 3) (u := .slice A3 (attrs ++ [(⟨an, av⟩ : S36)]).length c3) ?ha ?hx rfl (by kernel_rfl) HXe.out si_ rfl ?_; (case hw => rfl); (case hN => rfl); (case ho => rfl); (case ha => rfl); (case hx => rfl);refine hK.out _ _ ?_;clear hK K;refine done_ (by kernel_rfl) ?_;go_wp2
      go_roundg n
      case measure => omega
      case rel => exact ⟨_, _, _, _, _, _, _, HH, HTe⟩
end Go.Proofs.YtkmmoheeoblmnaaGreatDoor.A
namespace Go.Proofs.YtkmmoheeoblmnaaGreatDoor.A
open Go.RowKit Go.Proofs.YtkmmoheeoblmnaaGreatDoorW.PrintWords Go.Proofs.YtkmmoheeoblmnaaGreatDoorW.PrintLast Go.Proofs.YtkmmoheeoblmnaaGreatDoorW.PrintMore
attribute [local go_sem] max2_int min2_int max_two min_two max_three min_three max_four min_four
set_option linter.unusedVariables false
set_option linter.unusedSimpArgs false
def impl_reader_text.f (k : Nat) (s : BA) (p : Int) (b : Bool) : Option (Int × ByteArray × ByteArray × Int × Bool) :=
 (impl_XmlText.f k s p ⟨#[60]⟩).bind fun q => if q.2 ≤ p then some (0, ⟨#[]⟩, s, p, true) else some (2, q.1, s, q.2, b)
theorem impl_reader_text.mono : ∀ s p b k, LeO (impl_reader_text.f k s p b) (impl_reader_text.f (k + 1) s p b) := fun s p b k => LeO.bind (impl_XmlText.mono _ _ _ _) (fun _ => LeO.refl _)
theorem impl_reader_text.calls (k : Nat) (g : Nat) (s : BA) (p : Int) (b : Bool) (r0 : Int) (r1 r2 : BA) (r3 : Int) (r4 : Bool) (w0 w : World) (hI : IsS93 w0 w g s p b) (hB : Below w0.heap.size w0 w) (hL : LibOk w0) (hE : LibErr w0) (h : impl_reader_text.f k s p b = some (r0, r1, r2, r3, r4)) :
  Calls Tryz.prog 175 #[.pointer (some ⟨g, 0, none⟩)] w fun e w' => e = .returned (.agg #[.int .i64 r0, .int .i64 0, .string ⟨#[]⟩, .slice none 0 0, .string r1, .slice none 0 0]) ∧ IsS93 w0 w' g r2 r3 r4 ∧ Below w0.heap.size w0 w' ∧ KeepBut w w' g none := by
 unfold impl_reader_text.f at h;have hu := Tryz.underlying43;obtain ⟨q, hq, h⟩ := oB_ h;have HQ := A_ hq;have HH := A_ h;have HLL := A_ hL;have HEE := A_ hE;clear hq h hL hE;have hz : (.cells #[.int .i64 0, .int .i64 0, .string ⟨#[]⟩, .slice none 0 0, .string ⟨#[]⟩, .slice none 0 0] 43 : Obj) = .cells #[.int .i64 0, .int .i64 0, .string ⟨#[]⟩, .slice none 0 0, .string ⟨#[]⟩, .slice none 0 0] 43 := rfl;clear hz;obtain ⟨W1, hW1⟩ : ∃ W1, W1 = w.alloc (.cells #[.int .i64 0, .int .i64 0, .string ⟨#[]⟩, .slice none 0 0, .string ⟨#[]⟩, .slice none 0 0] 43) := ⟨_, rfl⟩;have HI1 : As9 (IsS93 w0 W1.drew g s p b) := ⟨by rw [hW1]; exact (hI.alloc _).drew⟩;have HB1 : As9 (Below w0.heap.size w0 W1.drew) := ⟨by rw [hW1]; exact below_drew (bA9 hB _)⟩;have HK1 : As9 (KeepBut w W1.drew g none) := ⟨by rw [hW1]; exact keep_drew (keep_alloc (KeepBut.refl w g none) _)⟩;have HX1 : As9 (W1.drew.heap[w.heap.size]? = some (.cells #[.int .i64 0, .int .i64 0, .string ⟨#[]⟩, .slice none 0 0, .string ⟨#[]⟩, .slice none 0 0] 43 (0, 0))) := ⟨by rw [hW1]; exact heap_alloc_new w _⟩;obtain ⟨gx, hgx⟩ : ∃ gx, gx = w.heap.size := ⟨_, rfl⟩;rw [← hgx] at HX1;have HGX : As9 (gx = w.heap.size ∧ g < gx) := ⟨hgx, by rw [hgx]; exact hI.lt⟩;obtain ⟨HG, hge⟩ := HI1.out;have hc0 := cellS93_0 HG;have hc1 := cellS93_1 HG;clear HG hge hB hI;go_enter Tryz.func175, Tryz.ntmps175
 go_wp2
 rw [← hW1, ← hgx];clear hW1 hgx;refine start_ (n := 14) (S := fun w' => w'.cell? ⟨g, 0, none⟩ = some (.string s) ∧ w'.cell? ⟨g, 1, none⟩ = some (.int .i64 p)) (ds := [8]) (tS 14 0) (by kernel_rfl) rfl rfl ⟨hc0, hc1⟩ (fun hHeld => ?_);generalize World.drew _ = wr0 at HI1 HB1 HK1 HX1 hHeld ⊢;iterate 3 refine pq_ ?_
 refine pg_ 4 (tB 14 23) ?_;refine pg_ 5 (tB 14 55) ?_;refine pg_ 6 (tB 14 119) ?_;refine tg_ 3 (tS 14 7) rfl (by rintro w' ⟨s0, s1⟩; go_simp; with_reducible rfl) ?_;refine tq_ rfl (by rintro w' ⟨s0, s1⟩; go_simp; with_reducible rfl) ?_;refine last_ (i := 8) (N := some 14) (tS 14 9) rfl rfl (by kernel_rfl) de_ (fun K hK => ?_);refine gS_ Tryz.func22 #[.string s, .int .i64 p, .string ⟨#[60]⟩] ?_;with_reducible refine (impl_XmlText.calls k s p ⟨#[60]⟩ q.1 q.2 _ (HLL.out.below HB1.out) (HEE.out.below HB1.out) HQ.out).mono ?_
 rintro e wr8 ⟨rfl, hb⟩;refine ⟨_, rfl, ?_⟩;have HI2 := A_ (HI1.out.below hb);have HB2 := A_ (below_step HB1.out hb);have HK2 := A_ (HK1.out.trans (KeepBut.of_below hb g none) (.inl rfl));have HX2 := A_ (blk_below HX1.out hb);clear hb HI1 HB1 HK1 HX1;refine hK.out _ _ ?_;clear hK K;refine nm_ ?_;iterate 5 refine pq_ ?_
 refine done_ (by kernel_rfl) ?_;obtain ⟨HG, hge⟩ := HI2.out;have hc0' := cellS93_0 HG;have hc1' := cellS93_1 HG;have hc2' := cellS93_2 HG;have hf1 := blk_frozen HG 1;have hf2 := blk_frozen HG 2;clear HG hge;obtain ⟨hz0, hz1, hz2, hz3, hz4, hz5, hy0, hy1, hy2, hy3, hy4, hy5⟩ := bk6_ HX2.out;have hne1 : (g = gx) = False := eq_false (Nat.ne_of_lt HGX.out.2);have hne2 : (gx = g) = False := eq_false (Nat.ne_of_gt HGX.out.2);have H := HH.out;rcases ic_ H with ⟨c, H⟩ | ⟨c, H⟩
 ·simp only [Option.some.injEq, Prod.mk.injEq] at H;obtain ⟨rfl, rfl, rfl, rfl, rfl⟩ := H;go_wp2
  refine bodyPost_ret (results_single rfl (.cell gx 43 #[.int .i64 0, .int .i64 0, .string ⟨#[]⟩, .slice none 0 0, .string ⟨#[]⟩, .slice none 0 0] (0, 0) _ rfl (blk_six (blk_far HX2.out (p := ⟨g, 2, none⟩) (Nat.ne_of_gt HGX.out.2) _) _ _ _ _ _ _) hu rfl (by kernel_rfl) .nil)) rfl ?_;exact ⟨rfl, st_six (HI2.out.set_2 _) (Nat.ne_of_lt HGX.out.2) _ _ _ _ _ _, below_six (below_set HB2.out HI2.out.2) (Nat.le_trans (Nat.le_trans HI2.out.2 (Nat.le_of_lt HGX.out.2)) (Nat.le_refl _)) _ _ _ _ _ _, keep_six (HK2.out.set_ _ _) (Nat.le_of_eq HGX.out.1.symm) _ _ _ _ _ _⟩
 ·simp only [Option.some.injEq, Prod.mk.injEq] at H;obtain ⟨rfl, rfl, rfl, rfl, rfl⟩ := H;go_wp2
  refine bodyPost_ret (results_single rfl (.cell gx 43 #[.int .i64 2, .int .i64 0, .string ⟨#[]⟩, .slice none 0 0, .string q.1, .slice none 0 0] (0, 0) _ rfl (blk_six (blk_far HX2.out (p := ⟨g, 1, none⟩) (Nat.ne_of_gt HGX.out.2) _) _ _ _ _ _ _) hu rfl (by kernel_rfl) .nil)) rfl ?_;exact ⟨rfl, st_six (HI2.out.set_1 _) (Nat.ne_of_lt HGX.out.2) _ _ _ _ _ _, below_six (below_set HB2.out HI2.out.2) (Nat.le_trans (Nat.le_trans HI2.out.2 (Nat.le_of_lt HGX.out.2)) (Nat.le_refl _)) _ _ _ _ _ _, keep_six (HK2.out.set_ _ _) (Nat.le_of_eq HGX.out.1.symm) _ _ _ _ _ _⟩
end Go.Proofs.YtkmmoheeoblmnaaGreatDoor.A
