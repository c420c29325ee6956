-- joined by wip/tools/shake.py
import Derived.Test.YtkmmoheeoblmnaaGreatDoorVReTW9
import Derived.Test.YtkmmoheeoblmnaaGreatDoorMReT0
import Derived.Test.YtkmmoheeoblmnaaGreatDoorMReT3
import Derived.Test.YtkmmoheeoblmnaaGreatDoorMReT7
import Derived.Test.YtkmmoheeoblmnaaGreatDoorMReT2
set_option maxHeartbeats 16000000
set_option maxRecDepth 100000
namespace Go.Proofs.YtkmmoheeoblmnaaGreatDoor.A
open Go.RowKit Go.Proofs.YtkmmoheeoblmnaaGreatDoorW.PrintWords Go.Proofs.YtkmmoheeoblmnaaGreatDoorW.PrintLast Go.Proofs.YtkmmoheeoblmnaaGreatDoorW.PrintMore
attribute [local go_sem] max2_int min2_int max_two min_two max_three min_three max_four min_four
set_option linter.unusedVariables false
set_option linter.unusedSimpArgs false
mutual
def impl_elOk.f : Nat → Int → Int → ByteArray → List S36 → ByteArray → List S43 → Int → Option Bool
 | 0, _, _, _, _, _, _, _ => none
 | k + 1, f0, f1, f2, l3, f4, l5, deep => if deep < 1 then some false else
  if f0 = 1 then (impl_inRange.f f1 0 2).bind fun a => if a = true then (impl_NameOk.f k f2).bind fun b => if b = true then (impl_strictAttrs.f k l3).bind fun c => if c = true then (if f4.toList = [] then elOkL k deep l5 0 else some false) else some false else some false else some false
  else if f1 = 0 then (if f2.toList = [] then (if l3 = [] then (if l5 = [] then (if f0 = 2 then (if f4.toList = [] then some false else impl_TextOk.f k f4) else if f0 = 3 then impl_NoteOk.f k f4 else some false) else some false) else some false) else some false) else some false
def elOkL : Nat → Int → List S43 → Int → Option Bool
 | 0, _, _, _ => none
 | k + 1, deep, l, j => if j < (l.length : Int) then (if 0 ≤ j then (impl_elOk.f k (rd_T43 l j).f0 (rd_T43 l j).f1 (rd_T43 l j).f2 (rd_T43 l j).f3 (rd_T43 l j).f4 (rd_T43 l j).f5 (wrap64 (deep - 1))).bind fun t => if t = true then (if 0 < j ∧ (rd_T43 l j).f0 = 2 ∧ (rd_T43 l (j - 1)).f0 = 2 then some false else elOkL k deep l (j + 1)) else some false else none) else some true
end
theorem elOk_mono_all : ∀ k, (∀ y0 y1 y2 y3 y4 y5 y6, LeO (impl_elOk.f k y0 y1 y2 y3 y4 y5 y6) (impl_elOk.f (k + 1) y0 y1 y2 y3 y4 y5 y6)) ∧ (∀ y0 y1 y2, LeO (elOkL k y0 y1 y2) (elOkL (k + 1) y0 y1 y2))
 | 0 => ⟨fun _ _ _ _ _ _ _ r h => by simp [impl_elOk.f] at h, fun _ _ _ r h => by simp [elOkL] at h⟩
 | k + 1 => by
  obtain ⟨i1, i2⟩ := elOk_mono_all k;refine ⟨fun y0 y1 y2 y3 y4 y5 y6 => ?_, fun y0 y1 y2 => ?_⟩
  ·rw [impl_elOk.f, impl_elOk.f];exact LeO.ite (LeO.refl _) (LeO.ite (LeO.bind (LeO.refl _) fun a => LeO.ite (LeO.bind (impl_NameOk.mono _ _) fun b => LeO.ite (LeO.bind (impl_strictAttrs.mono _ _) fun c => LeO.ite (LeO.ite (i2 _ _ _) (LeO.refl _)) (LeO.refl _)) (LeO.refl _)) (LeO.refl _)) (LeO.ite (LeO.ite (LeO.ite (LeO.ite (LeO.ite (LeO.ite (LeO.refl _) (impl_TextOk.mono _ _)) (LeO.ite (impl_NoteOk.mono _ _) (LeO.refl _))) (LeO.refl _)) (LeO.refl _)) (LeO.refl _)) (LeO.refl _)))
  ·rw [elOkL, elOkL];exact LeO.ite (LeO.ite (LeO.bind (i1 _ _ _ _ _ _ _) fun t => LeO.ite (LeO.ite (LeO.refl _) (i2 _ _ _)) (LeO.refl _)) (LeO.refl _)) (LeO.refl _)
theorem impl_elOk.mono : ∀ y0 y1 y2 y3 y4 y5 y6 k, LeO (impl_elOk.f k y0 y1 y2 y3 y4 y5 y6) (impl_elOk.f (k + 1) y0 y1 y2 y3 y4 y5 y6) := fun _ _ _ _ _ _ _ k => (elOk_mono_all k).1 _ _ _ _ _ _ _
theorem impl_elOk.calls (k : Nat) : ∀ (a0_0 : Int) (a0_1 : Int) (a0_2 : BA) (A0_3 : Option Addr) (c0_3 : Nat) (l0_3 : List S36) (a0_4 : BA) (A0_5 : Option Addr) (c0_5 : Nat) (l0_5 : List S43) (a1 : Int) (r : Bool) (w : World) (hr0_3 : Kd.C k36 w A0_3 l0_3.length l0_3) (hc0_3 : l0_3.length ≤ c0_3) (hr0_5 : Kd.C k43 w A0_5 l0_5.length l0_5) (hc0_5 : l0_5.length ≤ c0_5) (hL : LibOk w) (h : impl_elOk.f k a0_0 a0_1 a0_2 l0_3 a0_4 l0_5 a1 = some r),
  Calls Tryz.prog 138 #[.agg #[.int .i64 a0_0, .int .i64 a0_1, .string a0_2, .slice A0_3 l0_3.length c0_3, .string a0_4, .slice A0_5 l0_5.length c0_5], .int .i64 a1] w fun e w' => e = .returned (.bool r) ∧ Below w.heap.size w w' := by
 induction k using Nat.strongRecOn with
 | _ k ih =>
 intro f0 f1 f2 A3 c3 l3 f4 A5 c5 l5 deep r w hr3 hc3 hr5 hc5 hL h;cases k with
 | zero => simp [impl_elOk.f] at h
 | succ n =>
 have hu := Tryz.underlying43;have HR3 := A_ hr3;have HR5 := A_ hr5;have HC3 := A_ hc3;have HC5 := A_ hc5;have HLL := A_ hL;have hm5 := Kd.C_max hr5;rw [impl_elOk.f] at h;clear hr3 hc3 hr5 hc5 hL;go_enter Tryz.func138, Tryz.ntmps138
 by_cases d1 : deep < 1
 ·rw [if_pos d1] at h;obtain rfl := sI_ h;go_wp2_with (((with_reducible refine gate_dst (N := 2) rfl ?_); refine bE_ #[.int .i64 f0, .int .i64 f1, .string f2, .slice A3 l3.length c3, .string f4, .slice A5 l5.length c5] 43 ?_; intro gb hg w2 hbox hb; have HXz := A_ hbox; have HBz := A_ hb; clear hg hbox hb; obtain ⟨hz0, hz1, hz2, hz3, hz4, hz5⟩ := bc6_ HXz.out))
  go_ret
  exact ⟨rfl, HBz.out⟩
 rw [if_neg d1] at h;by_cases k1 : f0 = 1
 case neg =>
  rw [if_neg k1] at h;have k1b : (f0 == 1) = false := bN_ k1;have k1d : (!(f0 == 1)) = true := by rw [k1b]; rfl
  by_cases e1 : f1 = 0
  case neg =>
   rw [if_neg e1] at h;have e1b : (f1 == 0) = false := bN_ e1;have e1d : (!(f1 == 0)) = true := by rw [e1b]; rfl
   obtain rfl := sI_ h;go_wp2_with (((with_reducible refine gate_dst (N := 2) rfl ?_); refine bE_ #[.int .i64 f0, .int .i64 f1, .string f2, .slice A3 l3.length c3, .string f4, .slice A5 l5.length c5] 43 ?_; intro gb hg w2 hbox hb; have HXz := A_ hbox; have HBz := A_ hb; clear hg hbox hb; obtain ⟨hz0, hz1, hz2, hz3, hz4, hz5⟩ := bc6_ HXz.out))
   go_ret
   exact ⟨rfl, HBz.out⟩
  rw [if_pos e1] at h;have e1b : (f1 == 0) = true := bQ_ e1;have e1d : (!(f1 == 0)) = false := by rw [e1b]; rfl
  by_cases e2 : f2.toList = []
  case neg =>
   rw [if_neg e2] at h;have e2b : (f2.toList == ([] : List UInt8)) = false := bN_ e2;have e2c : f2.toList.isEmpty = false := by cases h9 : f2.toList with | nil => exact absurd h9 e2 | cons _ _ => rfl
   have e2d : (!f2.toList.isEmpty) = true := by rw [e2c]; rfl
   obtain rfl := sI_ h;go_wp2_with (((with_reducible refine gate_dst (N := 2) rfl ?_); refine bE_ #[.int .i64 f0, .int .i64 f1, .string f2, .slice A3 l3.length c3, .string f4, .slice A5 l5.length c5] 43 ?_; intro gb hg w2 hbox hb; have HXz := A_ hbox; have HBz := A_ hb; clear hg hbox hb; obtain ⟨hz0, hz1, hz2, hz3, hz4, hz5⟩ := bc6_ HXz.out))
   go_ret
   exact ⟨rfl, HBz.out⟩
  rw [if_pos e2] at h;have e2b : (f2.toList == ([] : List UInt8)) = true := by rw [e2]; rfl
  have e2c : f2.toList.isEmpty = true := by rw [e2]; rfl
  have e2d : (!f2.toList.isEmpty) = false := by rw [e2c]; rfl
  by_cases e3 : l3 = []
  case neg =>
   rw [if_neg e3] at h;have e3b : decide ((l3.length : Int) > 0) = true := dE_ (by cases l3 with | nil => exact absurd rfl e3 | cons a b => simp);have e3c : (0 < (l3.length : Int)) = True := eq_true (of_decide_eq_true e3b);have e3n : (0 < l3.length) = True := eq_true (by have := of_decide_eq_true e3b; omega);obtain rfl := sI_ h;go_wp2_with (((with_reducible refine gate_dst (N := 2) rfl ?_); refine bE_ #[.int .i64 f0, .int .i64 f1, .string f2, .slice A3 l3.length c3, .string f4, .slice A5 l5.length c5] 43 ?_; intro gb hg w2 hbox hb; have HXz := A_ hbox; have HBz := A_ hb; clear hg hbox hb; obtain ⟨hz0, hz1, hz2, hz3, hz4, hz5⟩ := bc6_ HXz.out))
   go_ret
   exact ⟨rfl, HBz.out⟩
  rw [if_pos e3] at h;have e3b : decide ((l3.length : Int) > 0) = false := by rw [e3]; rfl
  have e3c : (0 < (l3.length : Int)) = False := eq_false (of_decide_eq_false e3b);have e3n : (0 < l3.length) = False := eq_false (by have := of_decide_eq_false e3b; omega);by_cases e5 : l5 = []
  case neg =>
   rw [if_neg e5] at h;have e5b : decide ((l5.length : Int) > 0) = true := dE_ (by cases l5 with | nil => exact absurd rfl e5 | cons a b => simp);have e5c : (0 < (l5.length : Int)) = True := eq_true (of_decide_eq_true e5b);have e5n : (0 < l5.length) = True := eq_true (by have := of_decide_eq_true e5b; omega);obtain rfl := sI_ h;go_wp2_with (((with_reducible refine gate_dst (N := 2) rfl ?_); refine bE_ #[.int .i64 f0, .int .i64 f1, .string f2, .slice A3 l3.length c3, .string f4, .slice A5 l5.length c5] 43 ?_; intro gb hg w2 hbox hb; have HXz := A_ hbox; have HBz := A_ hb; clear hg hbox hb; obtain ⟨hz0, hz1, hz2, hz3, hz4, hz5⟩ := bc6_ HXz.out))
   go_ret
   exact ⟨rfl, HBz.out⟩
  rw [if_pos e5] at h;have e5b : decide ((l5.length : Int) > 0) = false := by rw [e5]; rfl
  have e5c : (0 < (l5.length : Int)) = False := eq_false (of_decide_eq_false e5b);have e5n : (0 < l5.length) = False := eq_false (by have := of_decide_eq_false e5b; omega);by_cases k2 : f0 = 2
  case pos =>
   rw [if_pos k2] at h;have k2b : (f0 == 2) = true := bQ_ k2;have k2c : (f0 == 3) = false := by rw [k2]; rfl
   by_cases e4 : f4.toList = []
   case pos =>
    rw [if_pos e4] at h;have e4b : (f4.toList == ([] : List UInt8)) = true := by rw [e4]; rfl
    have e4c : f4.toList.isEmpty = true := by rw [e4]; rfl
    have e4d : (!f4.toList.isEmpty) = false := by rw [e4c]; rfl
    obtain rfl := sI_ h;go_wp2_with (((with_reducible refine gate_dst (N := 2) rfl ?_); refine bE_ #[.int .i64 f0, .int .i64 f1, .string f2, .slice A3 l3.length c3, .string f4, .slice A5 l5.length c5] 43 ?_; intro gb hg w2 hbox hb; have HXz := A_ hbox; have HBz := A_ hb; clear hg hbox hb; obtain ⟨hz0, hz1, hz2, hz3, hz4, hz5⟩ := bc6_ HXz.out))
    go_ret
    exact ⟨rfl, HBz.out⟩
   rw [if_neg e4] at h;have e4b : (f4.toList == ([] : List UInt8)) = false := bN_ e4;have e4c : f4.toList.isEmpty = false := by cases h9 : f4.toList with | nil => exact absurd h9 e4 | cons _ _ => rfl
   have e4d : (!f4.toList.isEmpty) = true := by rw [e4c]; rfl
   have HT := A_ h;clear h;cases r with
   | true =>
    go_wp2_with (first | ((with_reducible refine gate_dst (N := 2) rfl ?_); refine bE_ #[.int .i64 f0, .int .i64 f1, .string f2, .slice A3 l3.length c3, .string f4, .slice A5 l5.length c5] 43 ?_; intro gb hg w2 hbox hb; have HXz := A_ hbox; have HBz := A_ hb; clear hg hbox hb; obtain ⟨hz0, hz1, hz2, hz3, hz4, hz5⟩ := bc6_ HXz.out) | (go_at_call 30; (with_reducible refine (impl_TextOk.calls n f4 _ _ HT.out).mono ?_); rintro e w3 ⟨rfl, hb⟩; have n1_ := A_ (blk_below HXz.out hb); have n2_ := A_ (below_step HBz.out hb); clear hb HXz HBz hz0 hz1 hz2 hz3 hz4 hz5; have HXz := n1_; have HBz := n2_; clear n1_ n2_; obtain ⟨hz0, hz1, hz2, hz3, hz4, hz5⟩ := bc6_ HXz.out))
    go_ret
    exact ⟨rfl, HBz.out⟩
   | false =>
    go_wp2_with (first | ((with_reducible refine gate_dst (N := 2) rfl ?_); refine bE_ #[.int .i64 f0, .int .i64 f1, .string f2, .slice A3 l3.length c3, .string f4, .slice A5 l5.length c5] 43 ?_; intro gb hg w2 hbox hb; have HXz := A_ hbox; have HBz := A_ hb; clear hg hbox hb; obtain ⟨hz0, hz1, hz2, hz3, hz4, hz5⟩ := bc6_ HXz.out) | (go_at_call 30; (with_reducible refine (impl_TextOk.calls n f4 _ _ HT.out).mono ?_); rintro e w3 ⟨rfl, hb⟩; have n1_ := A_ (blk_below HXz.out hb); have n2_ := A_ (below_step HBz.out hb); clear hb HXz HBz hz0 hz1 hz2 hz3 hz4 hz5; have HXz := n1_; have HBz := n2_; clear n1_ n2_; obtain ⟨hz0, hz1, hz2, hz3, hz4, hz5⟩ := bc6_ HXz.out))
    go_ret
    exact ⟨rfl, HBz.out⟩
  rw [if_neg k2] at h;have k2b : (f0 == 2) = false := bN_ k2;by_cases k3 : f0 = 3
  case pos =>
   rw [if_pos k3] at h;have k3b : (f0 == 3) = true := bQ_ k3;have HT := A_ h;clear h;go_wp2_with (first | ((with_reducible refine gate_dst (N := 2) rfl ?_); refine bE_ #[.int .i64 f0, .int .i64 f1, .string f2, .slice A3 l3.length c3, .string f4, .slice A5 l5.length c5] 43 ?_; intro gb hg w2 hbox hb; have HXz := A_ hbox; have HBz := A_ hb; clear hg hbox hb; obtain ⟨hz0, hz1, hz2, hz3, hz4, hz5⟩ := bc6_ HXz.out) | (go_at_call 79; (with_reducible refine (impl_NoteOk.calls n f4 _ _ (HLL.out.below HBz.out) HT.out).mono ?_); rintro e w3 ⟨rfl, hb⟩; have n1_ := A_ (blk_below HXz.out hb); have n2_ := A_ (below_step HBz.out hb); clear hb HXz HBz hz0 hz1 hz2 hz3 hz4 hz5; have HXz := n1_; have HBz := n2_; clear n1_ n2_; obtain ⟨hz0, hz1, hz2, hz3, hz4, hz5⟩ := bc6_ HXz.out))
   go_ret
   exact ⟨rfl, HBz.out⟩
  rw [if_neg k3] at h;have k3b : (f0 == 3) = false := bN_ k3;obtain rfl := sI_ h;go_wp2_with (((with_reducible refine gate_dst (N := 2) rfl ?_); refine bE_ #[.int .i64 f0, .int .i64 f1, .string f2, .slice A3 l3.length c3, .string f4, .slice A5 l5.length c5] 43 ?_; intro gb hg w2 hbox hb; have HXz := A_ hbox; have HBz := A_ hb; clear hg hbox hb; obtain ⟨hz0, hz1, hz2, hz3, hz4, hz5⟩ := bc6_ HXz.out))
  go_ret
  exact ⟨rfl, HBz.out⟩
 rw [if_pos k1] at h;have k1b : (f0 == 1) = true := bQ_ k1;have k1d : (!(f0 == 1)) = false := by rw [k1b]; rfl
 obtain ⟨a, ha, h⟩ := oB_ h;have Ha := A_ ha;clear ha;cases a with
 | false =>
  rw [if_neg si_] at h;obtain rfl := sI_ h;go_wp2_with (first | ((with_reducible refine gate_dst (N := 2) rfl ?_); refine bE_ #[.int .i64 f0, .int .i64 f1, .string f2, .slice A3 l3.length c3, .string f4, .slice A5 l5.length c5] 43 ?_; intro gb hg w2 hbox hb; have HXz := A_ hbox; have HBz := A_ hb; clear hg hbox hb; obtain ⟨hz0, hz1, hz2, hz3, hz4, hz5⟩ := bc6_ HXz.out) | (go_at_call 53; (with_reducible refine (impl_inRange.calls f1 0 2 _ _ Ha.out).mono ?_); rintro e w3 ⟨rfl, hb⟩; have n1_ := A_ (blk_below HXz.out hb.below); have n2_ := A_ (below_step HBz.out hb.below); clear hb HXz HBz hz0 hz1 hz2 hz3 hz4 hz5; have HXz := n1_; have HBz := n2_; clear n1_ n2_; obtain ⟨hz0, hz1, hz2, hz3, hz4, hz5⟩ := bc6_ HXz.out))
  go_ret
  exact ⟨rfl, HBz.out⟩
 | true =>
 rw [if_pos rfl] at h;obtain ⟨b, hb, h⟩ := oB_ h;have Hb := A_ hb;clear hb;cases b with
 | false =>
  rw [if_neg si_] at h;obtain rfl := sI_ h;go_wp2_with (first | ((with_reducible refine gate_dst (N := 2) rfl ?_); refine bE_ #[.int .i64 f0, .int .i64 f1, .string f2, .slice A3 l3.length c3, .string f4, .slice A5 l5.length c5] 43 ?_; intro gb hg w2 hbox hb; have HXz := A_ hbox; have HBz := A_ hb; clear hg hbox hb; obtain ⟨hz0, hz1, hz2, hz3, hz4, hz5⟩ := bc6_ HXz.out) | (go_at_call 53; (with_reducible refine (impl_inRange.calls f1 0 2 _ _ Ha.out).mono ?_); rintro e w3 ⟨rfl, hb⟩; have n1_ := A_ (blk_below HXz.out hb.below); have n2_ := A_ (below_step HBz.out hb.below); clear hb HXz HBz hz0 hz1 hz2 hz3 hz4 hz5; have HXz := n1_; have HBz := n2_; clear n1_ n2_; obtain ⟨hz0, hz1, hz2, hz3, hz4, hz5⟩ := bc6_ HXz.out) | (go_at_call 176; (with_reducible refine (impl_NameOk.calls n f2 _ _ Hb.out).mono ?_); rintro e w3 ⟨rfl, hb⟩; have n1_ := A_ (blk_below HXz.out hb); have n2_ := A_ (below_step HBz.out hb); clear hb HXz HBz hz0 hz1 hz2 hz3 hz4 hz5; have HXz := n1_; have HBz := n2_; clear n1_ n2_; obtain ⟨hz0, hz1, hz2, hz3, hz4, hz5⟩ := bc6_ HXz.out))
  go_ret
  exact ⟨rfl, HBz.out⟩
 | true =>
 rw [if_pos rfl] at h;obtain ⟨c, hc, h⟩ := oB_ h;have Hc := A_ hc;clear hc;cases c with
 | false =>
  rw [if_neg si_] at h;obtain rfl := sI_ h;go_wp2_with (first | ((with_reducible refine gate_dst (N := 2) rfl ?_); refine bE_ #[.int .i64 f0, .int .i64 f1, .string f2, .slice A3 l3.length c3, .string f4, .slice A5 l5.length c5] 43 ?_; intro gb hg w2 hbox hb; have HXz := A_ hbox; have HBz := A_ hb; clear hg hbox hb; obtain ⟨hz0, hz1, hz2, hz3, hz4, hz5⟩ := bc6_ HXz.out) | (go_at_call 53; (with_reducible refine (impl_inRange.calls f1 0 2 _ _ Ha.out).mono ?_); rintro e w3 ⟨rfl, hb⟩; have n1_ := A_ (blk_below HXz.out hb.below); have n2_ := A_ (below_step HBz.out hb.below); clear hb HXz HBz hz0 hz1 hz2 hz3 hz4 hz5; have HXz := n1_; have HBz := n2_; clear n1_ n2_; obtain ⟨hz0, hz1, hz2, hz3, hz4, hz5⟩ := bc6_ HXz.out) | (go_at_call 176; (with_reducible refine (impl_NameOk.calls n f2 _ _ Hb.out).mono ?_); rintro e w3 ⟨rfl, hb⟩; have n1_ := A_ (blk_below HXz.out hb); have n2_ := A_ (below_step HBz.out hb); clear hb HXz HBz hz0 hz1 hz2 hz3 hz4 hz5; have HXz := n1_; have HBz := n2_; clear n1_ n2_; obtain ⟨hz0, hz1, hz2, hz3, hz4, hz5⟩ := bc6_ HXz.out) | (go_at_call 177; (with_reducible refine (impl_strictAttrs.calls n A3 c3 l3 _ _ (Kd.C_below HR3.out HBz.out) HC3.out Hc.out).mono ?_); rintro e w3 ⟨rfl, hb⟩; have n1_ := A_ (blk_below HXz.out hb); have n2_ := A_ (below_step HBz.out hb); clear hb HXz HBz hz0 hz1 hz2 hz3 hz4 hz5; have HXz := n1_; have HBz := n2_; clear n1_ n2_; obtain ⟨hz0, hz1, hz2, hz3, hz4, hz5⟩ := bc6_ HXz.out))
  go_ret
  exact ⟨rfl, HBz.out⟩
 | true =>
 rw [if_pos rfl] at h;by_cases e4 : f4.toList = []
 case neg =>
  rw [if_neg e4] at h;have e4b : (f4.toList == ([] : List UInt8)) = false := bN_ e4;have e4c : f4.toList.isEmpty = false := by cases h9 : f4.toList with | nil => exact absurd h9 e4 | cons _ _ => rfl
  have e4d : (!f4.toList.isEmpty) = true := by rw [e4c]; rfl
  obtain rfl := sI_ h;go_wp2_with (first | ((with_reducible refine gate_dst (N := 2) rfl ?_); refine bE_ #[.int .i64 f0, .int .i64 f1, .string f2, .slice A3 l3.length c3, .string f4, .slice A5 l5.length c5] 43 ?_; intro gb hg w2 hbox hb; have HXz := A_ hbox; have HBz := A_ hb; clear hg hbox hb; obtain ⟨hz0, hz1, hz2, hz3, hz4, hz5⟩ := bc6_ HXz.out) | (go_at_call 53; (with_reducible refine (impl_inRange.calls f1 0 2 _ _ Ha.out).mono ?_); rintro e w3 ⟨rfl, hb⟩; have n1_ := A_ (blk_below HXz.out hb.below); have n2_ := A_ (below_step HBz.out hb.below); clear hb HXz HBz hz0 hz1 hz2 hz3 hz4 hz5; have HXz := n1_; have HBz := n2_; clear n1_ n2_; obtain ⟨hz0, hz1, hz2, hz3, hz4, hz5⟩ := bc6_ HXz.out) | (go_at_call 176; (with_reducible refine (impl_NameOk.calls n f2 _ _ Hb.out).mono ?_); rintro e w3 ⟨rfl, hb⟩; have n1_ := A_ (blk_below HXz.out hb); have n2_ := A_ (below_step HBz.out hb); clear hb HXz HBz hz0 hz1 hz2 hz3 hz4 hz5; have HXz := n1_; have HBz := n2_; clear n1_ n2_; obtain ⟨hz0, hz1, hz2, hz3, hz4, hz5⟩ := bc6_ HXz.out) | (go_at_call 177; (with_reducible refine (impl_strictAttrs.calls n A3 c3 l3 _ _ (Kd.C_below HR3.out HBz.out) HC3.out Hc.out).mono ?_); rintro e w3 ⟨rfl, hb⟩; have n1_ := A_ (blk_below HXz.out hb); have n2_ := A_ (below_step HBz.out hb); clear hb HXz HBz hz0 hz1 hz2 hz3 hz4 hz5; have HXz := n1_; have HBz := n2_; clear n1_ n2_; obtain ⟨hz0, hz1, hz2, hz3, hz4, hz5⟩ := bc6_ HXz.out))
  go_ret
  exact ⟨rfl, HBz.out⟩
 rw [if_pos e4] at h;have e4b : (f4.toList == ([] : List UInt8)) = true := by rw [e4]; rfl
 have e4c : f4.toList.isEmpty = true := by rw [e4]; rfl
 have e4d : (!f4.toList.isEmpty) = false := by rw [e4c]; rfl
 have HF := A_ h;clear h;go_wp2_with (first | ((with_reducible refine gate_dst (N := 2) rfl ?_); refine bE_ #[.int .i64 f0, .int .i64 f1, .string f2, .slice A3 l3.length c3, .string f4, .slice A5 l5.length c5] 43 ?_; intro gb hg w2 hbox hb; have HXz := A_ hbox; have HBz := A_ hb; clear hg hbox hb; obtain ⟨hz0, hz1, hz2, hz3, hz4, hz5⟩ := bc6_ HXz.out) | (go_at_call 53; (with_reducible refine (impl_inRange.calls f1 0 2 _ _ Ha.out).mono ?_); rintro e w3 ⟨rfl, hb⟩; have n1_ := A_ (blk_below HXz.out hb.below); have n2_ := A_ (below_step HBz.out hb.below); clear hb HXz HBz hz0 hz1 hz2 hz3 hz4 hz5; have HXz := n1_; have HBz := n2_; clear n1_ n2_; obtain ⟨hz0, hz1, hz2, hz3, hz4, hz5⟩ := bc6_ HXz.out) | (go_at_call 176; (with_reducible refine (impl_NameOk.calls n f2 _ _ Hb.out).mono ?_); rintro e w3 ⟨rfl, hb⟩; have n1_ := A_ (blk_below HXz.out hb); have n2_ := A_ (below_step HBz.out hb); clear hb HXz HBz hz0 hz1 hz2 hz3 hz4 hz5; have HXz := n1_; have HBz := n2_; clear n1_ n2_; obtain ⟨hz0, hz1, hz2, hz3, hz4, hz5⟩ := bc6_ HXz.out) | (go_at_call 177; (with_reducible refine (impl_strictAttrs.calls n A3 c3 l3 _ _ (Kd.C_below HR3.out HBz.out) HC3.out Hc.out).mono ?_); rintro e w3 ⟨rfl, hb⟩; have n1_ := A_ (blk_below HXz.out hb); have n2_ := A_ (below_step HBz.out hb); clear hb HXz HBz hz0 hz1 hz2 hz3 hz4 hz5; have HXz := n1_; have HBz := n2_; clear n1_ n2_; obtain ⟨hz0, hz1, hz2, hz3, hz4, hz5⟩ := bc6_ HXz.out))
 clear e4 e4b e4c e4d d1;go_loopg [79] n (fun kq v79 wr => ∃ j : Int, v79 = .int .i64 j ∧ 0 ≤ j ∧ j ≤ (l5.length : Int) ∧ As9 (elOkL kq deep l5 j = some r) ∧ As9 (kq ≤ n) ∧ As9 (Below w.heap.size w wr) ∧ As9 (wr.heap[gb]? = some (.cells #[.int .i64 f0, .int .i64 f1, .string f2, .slice A3 l3.length c3, .string f4, .slice A5 l5.length c5] 43 (0, 0))))
 case atStart => exact ⟨0, rfl, Int.le_refl _, om_, HF, ⟨Nat.le_refl _⟩, HBz, HXz⟩
 case round =>
  clear HF HBz HXz hz0 hz1 hz2 hz3 hz4 hz5;obtain ⟨j, rfl, j0, jl, HA, HN, HB, HX⟩ := hrel;cases gk with
  | zero => exact absurd HA.out (by simp [elOkL])
  | succ m =>
  have H := HA.out;clear HA;rw [elOkL] at H;by_cases hlt : j < (l5.length : Int)
  case neg =>
   rw [if_neg hlt] at H;obtain rfl := sI_ H;go_wp2
   go_ret
   exact ⟨rfl, HB.out⟩
  rw [if_pos hlt, if_pos j0] at H;obtain ⟨t, ht, H⟩ := oB_ H;have Ht := A_ ht;clear ht;have hw5 := Kd.C_below HR5.out HB.out;obtain ⟨ad, A3', c3', A5', c5', eA, x0, x1, x2, x3, x4, x5, l3', g3, l5', g5⟩ := at_T43 hw5 j j0 hlt;subst eA;have HG3 := A_ g3;have HG5 := A_ g5;have HW5 := A_ hw5;have HL3 := A_ l3';have HL5 := A_ l5';have p7 := eq_true j0;have q7 := eq_true hlt;have hwj : wrap64 (j + 1) = j + 1 := by unfold wrap64; omega
  have hz5 := (blk_cell HX.out 5).trans rfl;clear g3 g5 hw5 l3' l5';have hjm : wrap64 (j - 1) = j - 1 := by unfold wrap64; omega
  cases t with
  | false =>
   rw [if_neg si_] at H;obtain rfl := sI_ H;go_wp2_with (first | ((with_reducible refine gate_dst (N := 6) rfl ?_); refine bZ_ 43 ?_; intro gk hg w6 hbox hb; have HGK := A_ hg; have HBX := A_ hb; have HXK := A_ hbox; obtain ⟨hk0, hk1, hk2, hk3, hk4, hk5, hj0, hj1, hj2, hj3, hj4, hj5⟩ := bk6_ hbox; clear hg hb hbox) | (go_at_call 138; have hb6 := A_ (set6 HBX.out (Nat.le_of_eq HGK.out.symm) (.int .i64 (rd_T43 l5 j).f0) (.int .i64 (rd_T43 l5 j).f1) (.string (rd_T43 l5 j).f2) (.slice A3' (rd_T43 l5 j).f3.length c3') (.string (rd_T43 l5 j).f4) (.slice A5' (rd_T43 l5 j).f5.length c5')); have hx6 := A_ (blk_six HXK.out (.int .i64 (rd_T43 l5 j).f0) (.int .i64 (rd_T43 l5 j).f1) (.string (rd_T43 l5 j).f2) (.slice A3' (rd_T43 l5 j).f3.length c3') (.string (rd_T43 l5 j).f4) (.slice A5' (rd_T43 l5 j).f5.length c5')); have HBe := A_ (below_step HB.out hb6.out); have HXe := A_ (blk_below HX.out hb6.out); clear HBX HXK hk0 hj0 hk1 hj1 hk2 hj2 hk3 hj3 hk4 hj4 hk5 hj5; (with_reducible refine (ih m (by have := HN.out; omega) (rd_T43 l5 j).f0 (rd_T43 l5 j).f1 (rd_T43 l5 j).f2 A3' c3' (rd_T43 l5 j).f3 (rd_T43 l5 j).f4 A5' c5' (rd_T43 l5 j).f5 (wrap64 (deep - 1)) _ _ (Kd.C_below HG3.out hb6.out) HL3.out (Kd.C_below HG5.out hb6.out) HL5.out (HLL.out.below HBe.out) Ht.out).mono ?_); rintro e w7 ⟨rfl, hb⟩; have HBf := A_ (below_step HBe.out hb); have HXf := A_ (blk_below HXe.out hb); have hxf := A_ (blk_below hx6.out hb); clear hb hb6 hx6 HBe HXe hz5 x0 x1 x2 x3 x4 x5; have hz5 := (blk_cell HXf.out 5).trans rfl; have hk0 := (blk_cell hxf.out 0).trans rfl))
   go_ret
   exact ⟨rfl, HBf.out⟩
  | true =>
  rw [if_pos rfl] at H;by_cases j1 : 0 < j
  case neg =>
   rw [if_neg (fun hh => j1 hh.1)] at H;have j1b : decide (j > 0) = false := dF_ j1;have j1c : (0 < j) = False := eq_false j1;have HH := A_ H;clear H;go_wp2_with (first | ((with_reducible refine gate_dst (N := 6) rfl ?_); refine bZ_ 43 ?_; intro gk hg w6 hbox hb; have HGK := A_ hg; have HBX := A_ hb; have HXK := A_ hbox; obtain ⟨hk0, hk1, hk2, hk3, hk4, hk5, hj0, hj1, hj2, hj3, hj4, hj5⟩ := bk6_ hbox; clear hg hb hbox) | (go_at_call 138; have hb6 := A_ (set6 HBX.out (Nat.le_of_eq HGK.out.symm) (.int .i64 (rd_T43 l5 j).f0) (.int .i64 (rd_T43 l5 j).f1) (.string (rd_T43 l5 j).f2) (.slice A3' (rd_T43 l5 j).f3.length c3') (.string (rd_T43 l5 j).f4) (.slice A5' (rd_T43 l5 j).f5.length c5')); have hx6 := A_ (blk_six HXK.out (.int .i64 (rd_T43 l5 j).f0) (.int .i64 (rd_T43 l5 j).f1) (.string (rd_T43 l5 j).f2) (.slice A3' (rd_T43 l5 j).f3.length c3') (.string (rd_T43 l5 j).f4) (.slice A5' (rd_T43 l5 j).f5.length c5')); have HBe := A_ (below_step HB.out hb6.out); have HXe := A_ (blk_below HX.out hb6.out); clear HBX HXK hk0 hj0 hk1 hj1 hk2 hj2 hk3 hj3 hk4 hj4 hk5 hj5; (with_reducible refine (ih m (by have := HN.out; omega) (rd_T43 l5 j).f0 (rd_T43 l5 j).f1 (rd_T43 l5 j).f2 A3' c3' (rd_T43 l5 j).f3 (rd_T43 l5 j).f4 A5' c5' (rd_T43 l5 j).f5 (wrap64 (deep - 1)) _ _ (Kd.C_below HG3.out hb6.out) HL3.out (Kd.C_below HG5.out hb6.out) HL5.out (HLL.out.below HBe.out) Ht.out).mono ?_); rintro e w7 ⟨rfl, hb⟩; have HBf := A_ (below_step HBe.out hb); have HXf := A_ (blk_below HXe.out hb); have hxf := A_ (blk_below hx6.out hb); clear hb hb6 hx6 HBe HXe hz5 x0 x1 x2 x3 x4 x5; have hz5 := (blk_cell HXf.out 5).trans rfl; have hk0 := (blk_cell hxf.out 0).trans rfl))
   go_roundg m
   case measure => omega
   case rel => exact ⟨j + 1, (by first | rfl | rw [hwj]), om_, om_, HH, ⟨by have := HN.out; omega⟩, HBf, HXf⟩
  have j1b : decide (j > 0) = true := dE_ j1;have j1c : (0 < j) = True := eq_true j1;by_cases m1 : (rd_T43 l5 j).f0 = 2
  case neg =>
   rw [if_neg (fun hh => m1 hh.2.1)] at H;have m1b : ((rd_T43 l5 j).f0 == 2) = false := bN_ m1;have HH := A_ H;clear H m1;go_wp2_with (first | ((with_reducible refine gate_dst (N := 6) rfl ?_); refine bZ_ 43 ?_; intro gk hg w6 hbox hb; have HGK := A_ hg; have HBX := A_ hb; have HXK := A_ hbox; obtain ⟨hk0, hk1, hk2, hk3, hk4, hk5, hj0, hj1, hj2, hj3, hj4, hj5⟩ := bk6_ hbox; clear hg hb hbox) | (go_at_call 138; have hb6 := A_ (set6 HBX.out (Nat.le_of_eq HGK.out.symm) (.int .i64 (rd_T43 l5 j).f0) (.int .i64 (rd_T43 l5 j).f1) (.string (rd_T43 l5 j).f2) (.slice A3' (rd_T43 l5 j).f3.length c3') (.string (rd_T43 l5 j).f4) (.slice A5' (rd_T43 l5 j).f5.length c5')); have hx6 := A_ (blk_six HXK.out (.int .i64 (rd_T43 l5 j).f0) (.int .i64 (rd_T43 l5 j).f1) (.string (rd_T43 l5 j).f2) (.slice A3' (rd_T43 l5 j).f3.length c3') (.string (rd_T43 l5 j).f4) (.slice A5' (rd_T43 l5 j).f5.length c5')); have HBe := A_ (below_step HB.out hb6.out); have HXe := A_ (blk_below HX.out hb6.out); clear HBX HXK hk0 hj0 hk1 hj1 hk2 hj2 hk3 hj3 hk4 hj4 hk5 hj5; (with_reducible refine (ih m (by have := HN.out; omega) (rd_T43 l5 j).f0 (rd_T43 l5 j).f1 (rd_T43 l5 j).f2 A3' c3' (rd_T43 l5 j).f3 (rd_T43 l5 j).f4 A5' c5' (rd_T43 l5 j).f5 (wrap64 (deep - 1)) _ _ (Kd.C_below HG3.out hb6.out) HL3.out (Kd.C_below HG5.out hb6.out) HL5.out (HLL.out.below HBe.out) Ht.out).mono ?_); rintro e w7 ⟨rfl, hb⟩; have HBf := A_ (below_step HBe.out hb); have HXf := A_ (blk_below HXe.out hb); have hxf := A_ (blk_below hx6.out hb); clear hb hb6 hx6 HBe HXe hz5 x0 x1 x2 x3 x4 x5; have hz5 := (blk_cell HXf.out 5).trans rfl; have hk0 := (blk_cell hxf.out 0).trans rfl))
   go_roundg m
   case measure => omega
   case rel => exact ⟨j + 1, (by first | rfl | rw [hwj]), om_, om_, HH, ⟨by have := HN.out; omega⟩, HBf, HXf⟩
  have m1b : ((rd_T43 l5 j).f0 == 2) = true := bQ_ m1;obtain ⟨ad2, _, _, _, _, eA2, y0, _, _, _, _, _, _, _, _, _⟩ := at_T43 HW5.out (j - 1) om_ om_;obtain rfl := sI_ eA2;rw [show (j - 1).toNat = j.toNat - 1 by omega] at y0;have p8 := eq_true (show 0 ≤ j - 1 by omega);have q8 := eq_true (show j - 1 < (l5.length : Int) by omega);by_cases m2 : (rd_T43 l5 (j - 1)).f0 = 2
  case neg =>
   rw [if_neg (fun hh => m2 hh.2.2)] at H;have m2b : ((rd_T43 l5 (j - 1)).f0 == 2) = false := bN_ m2;have HH := A_ H;clear H m1 m2;go_wp2_with (first | ((with_reducible refine gate_dst (N := 6) rfl ?_); refine bZ_ 43 ?_; intro gk hg w6 hbox hb; have HGK := A_ hg; have HBX := A_ hb; have HXK := A_ hbox; obtain ⟨hk0, hk1, hk2, hk3, hk4, hk5, hj0, hj1, hj2, hj3, hj4, hj5⟩ := bk6_ hbox; clear hg hb hbox) | (go_at_call 138; have hb6 := A_ (set6 HBX.out (Nat.le_of_eq HGK.out.symm) (.int .i64 (rd_T43 l5 j).f0) (.int .i64 (rd_T43 l5 j).f1) (.string (rd_T43 l5 j).f2) (.slice A3' (rd_T43 l5 j).f3.length c3') (.string (rd_T43 l5 j).f4) (.slice A5' (rd_T43 l5 j).f5.length c5')); have hx6 := A_ (blk_six HXK.out (.int .i64 (rd_T43 l5 j).f0) (.int .i64 (rd_T43 l5 j).f1) (.string (rd_T43 l5 j).f2) (.slice A3' (rd_T43 l5 j).f3.length c3') (.string (rd_T43 l5 j).f4) (.slice A5' (rd_T43 l5 j).f5.length c5')); have HBe := A_ (below_step HB.out hb6.out); have HXe := A_ (blk_below HX.out hb6.out); clear HBX HXK hk0 hj0 hk1 hj1 hk2 hj2 hk3 hj3 hk4 hj4 hk5 hj5; (with_reducible refine (ih m (by have := HN.out; omega) (rd_T43 l5 j).f0 (rd_T43 l5 j).f1 (rd_T43 l5 j).f2 A3' c3' (rd_T43 l5 j).f3 (rd_T43 l5 j).f4 A5' c5' (rd_T43 l5 j).f5 (wrap64 (deep - 1)) _ _ (Kd.C_below HG3.out hb6.out) HL3.out (Kd.C_below HG5.out hb6.out) HL5.out (HLL.out.below HBe.out) Ht.out).mono ?_); rintro e w7 ⟨rfl, hb⟩; have HBf := A_ (below_step HBe.out hb); have HXf := A_ (blk_below HXe.out hb); have hxf := A_ (blk_below hx6.out hb); have y0' := ((below_step hb6.out hb).cell (World.block_lt_of_cell? _ _ y0)).trans y0; clear hb hb6 hx6 HBe HXe hz5 x0 x1 x2 x3 x4 x5; have hz5 := (blk_cell HXf.out 5).trans rfl; have hk0 := (blk_cell hxf.out 0).trans rfl))
   go_roundg m
   case measure => omega
   case rel => exact ⟨j + 1, (by first | rfl | rw [hwj]), om_, om_, HH, ⟨by have := HN.out; omega⟩, HBf, HXf⟩
  rw [if_pos ⟨j1, m1, m2⟩] at H;obtain rfl := sI_ H;have m2b : ((rd_T43 l5 (j - 1)).f0 == 2) = true := bQ_ m2;clear m1 m2;go_wp2_with (first | ((with_reducible refine gate_dst (N := 6) rfl ?_); refine bZ_ 43 ?_; intro gk hg w6 hbox hb; have HGK := A_ hg; have HBX := A_ hb; have HXK := A_ hbox; obtain ⟨hk0, hk1, hk2, hk3, hk4, hk5, hj0, hj1, hj2, hj3, hj4, hj5⟩ := bk6_ hbox; clear hg hb hbox) | (go_at_call 138; have hb6 := A_ (set6 HBX.out (Nat.le_of_eq HGK.out.symm) (.int .i64 (rd_T43 l5 j).f0) (.int .i64 (rd_T43 l5 j).f1) (.string (rd_T43 l5 j).f2) (.slice A3' (rd_T43 l5 j).f3.length c3') (.string (rd_T43 l5 j).f4) (.slice A5' (rd_T43 l5 j).f5.length c5')); have hx6 := A_ (blk_six HXK.out (.int .i64 (rd_T43 l5 j).f0) (.int .i64 (rd_T43 l5 j).f1) (.string (rd_T43 l5 j).f2) (.slice A3' (rd_T43 l5 j).f3.length c3') (.string (rd_T43 l5 j).f4) (.slice A5' (rd_T43 l5 j).f5.length c5')); have HBe := A_ (below_step HB.out hb6.out); have HXe := A_ (blk_below HX.out hb6.out); clear HBX HXK hk0 hj0 hk1 hj1 hk2 hj2 hk3 hj3 hk4 hj4 hk5 hj5; (with_reducible refine (ih m (by have := HN.out; omega) (rd_T43 l5 j).f0 (rd_T43 l5 j).f1 (rd_T43 l5 j).f2 A3' c3' (rd_T43 l5 j).f3 (rd_T43 l5 j).f4 A5' c5' (rd_T43 l5 j).f5 (wrap64 (deep - 1)) _ _ (Kd.C_below HG3.out hb6.out) HL3.out (Kd.C_below HG5.out hb6.out) HL5.out (HLL.out.below HBe.out) Ht.out).mono ?_); rintro e w7 ⟨rfl, hb⟩; have HBf := A_ (below_step HBe.out hb); have HXf := A_ (blk_below HXe.out hb); have hxf := A_ (blk_below hx6.out hb); have y0' := ((below_step hb6.out hb).cell (World.block_lt_of_cell? _ _ y0)).trans y0; clear hb hb6 hx6 HBe HXe hz5 x0 x1 x2 x3 x4 x5; have hz5 := (blk_cell HXf.out 5).trans rfl; have hk0 := (blk_cell hxf.out 0).trans rfl))
  go_ret
  exact ⟨rfl, HBf.out⟩
def impl_ElOk.f (k : Nat) (a0_0 : Int) (a0_1 : Int) (a0_2 : BA) (l0_3 : List (S36)) (a0_4 : BA) (l0_5 : List (S43)) : Option (Bool) := (impl_elOk.f k a0_0 a0_1 a0_2 l0_3 a0_4 l0_5 60).bind fun t606 => (some t606)
theorem impl_ElOk.mono : ∀ a0 a1 a2 a3 a4 a5 k, LeO (impl_ElOk.f k a0 a1 a2 a3 a4 a5) (impl_ElOk.f (k + 1) a0 a1 a2 a3 a4 a5) := by
 intro a0 a1 a2 a3 a4 a5 k;unfold impl_ElOk.f;with_reducible repeat' first | exact impl_elOk.mono _ _ _ _ _ _ _ _ | apply LeO.refl | apply LeO.none | apply LeO.ite | apply LeO.bind | intro
theorem impl_ElOk.calls (k : Nat) (a0_0 : Int) (a0_1 : Int) (a0_2 : BA) (A0_3 : Option Addr) (c0_3 : Nat) (l0_3 : List (S36)) (a0_4 : BA) (A0_5 : Option Addr) (c0_5 : Nat) (l0_5 : List (S43)) (r : Bool) (w : World) (hr0_3 : Kd.C k36 w A0_3 l0_3.length l0_3) (hc0_3 : l0_3.length ≤ c0_3) (hr0_5 : Kd.C k43 w A0_5 l0_5.length l0_5) (hc0_5 : l0_5.length ≤ c0_5) (hL : LibOk w) (h : impl_ElOk.f k a0_0 a0_1 a0_2 l0_3 a0_4 l0_5 = some r) :
  Calls Tryz.prog 87 #[.agg #[.int .i64 a0_0, .int .i64 a0_1, .string a0_2, .slice A0_3 l0_3.length c0_3, .string a0_4, .slice A0_5 l0_5.length c0_5]] w fun e w' => e = .returned (.bool r) ∧ Below w.heap.size w w' := by
 have hu43 := Tryz.underlying43;have HR0_3 := A_ hr0_3;have HC0_3 := A_ hc0_3;clear hr0_3 hc0_3;have HR0_5 := A_ hr0_5;have HC0_5 := A_ hc0_5;clear hr0_5 hc0_5;have HB := A_ (Below.refl w.heap.size w);have H : ((impl_elOk.f k a0_0 a0_1 a0_2 l0_3 a0_4 l0_5 60).bind fun t606 => (some t606)) = some r := h;clear h;obtain ⟨t606, A2, H⟩ := ob_ H;obtain rfl := sI_ H;go_enter Tryz.func87, Tryz.ntmps87
 go_wp2_with (first | ((with_reducible refine gate_dst (N := 1) rfl ?_); refine bE_ #[.int .i64 a0_0, .int .i64 a0_1, .string a0_2, .slice A0_3 l0_3.length c0_3, .string a0_4, .slice A0_5 l0_5.length c0_5] 43 ?_; intro gb605 hg w3 hbox hb; have BK605 := A_ (hbox); have GW605 := hs_ hg; have GE605 := hs_ hg; replace HB := bS_ hb; clear hb hbox hg; obtain ⟨hcz4_0, hcz4_1, hcz4_2, hcz4_3, hcz4_4, hcz4_5, hfz4_0, hfz4_1, hfz4_2, hfz4_3, hfz4_4, hfz4_5⟩ := bk6_ BK605.out) | ((with_reducible refine gC_ 138 ?_); refine gL_ 4 Tryz.func138 #[.agg #[.int .i64 a0_0, .int .i64 a0_1, .string a0_2, .slice A0_3 l0_3.length c0_3, .string a0_4, .slice A0_5 l0_5.length c0_5], .int .i64 60] ?_; (with_reducible refine (impl_elOk.calls k a0_0 a0_1 a0_2 _ _ l0_3 a0_4 _ _ l0_5 60 t606 _ ?side1 ?side2 ?side3 ?side4 ?side5 A2.out).mono ?_); (case side1 => exact Kd.C_below HR0_3.out hB_); (case side2 => exact HC0_3.out); (case side3 => exact Kd.C_below HR0_5.out hB_); (case side4 => exact HC0_5.out); (case side5 => first | exact hL | exact LibOk.below hL hB_); rintro e w5 ⟨rfl, hb⟩; refine ⟨_, rfl, ?_⟩; replace BK605 := A_ (blk_below (g := gb605) (o := .cells #[.int .i64 a0_0, .int .i64 a0_1, .string a0_2, .slice A0_3 l0_3.length c0_3, .string a0_4, .slice A0_5 l0_5.length c0_5] 43 (0, 0)) (blk_below BK605.out hR_) hb); replace HB := bS_ hb; clear hb))
 go_ret
 exact ⟨e1_, hB_⟩
def impl_ReadEl.f (k : Nat) (a0 : BA) (a1 a2 : Int) : Option (S43 × Int) := (impl_inRange.f a1 0 (wrap64 ((a0.size : Int) - 1))).bind fun t => (if t = true then (impl_reader_element.f k a0 a1 false a2 60).bind fun q => (if q.2.2.2 = true then some (z43, -1) else (impl_ElOk.f k q.1.f0 q.1.f1 q.1.f2 q.1.f3 q.1.f4 q.1.f5).bind fun o => (if o = true then some (q.1, q.2.2.1) else some (z43, -1))) else some (z43, -1))
theorem impl_ReadEl.mono : ∀ a0 a1 a2 k, LeO (impl_ReadEl.f k a0 a1 a2) (impl_ReadEl.f (k + 1) a0 a1 a2) := fun a0 a1 a2 k => LeO.bind (LeO.refl _) fun t => LeO.ite (LeO.bind (impl_reader_element.mono _ _ _ _ _ _) fun q => LeO.ite (LeO.refl _) (LeO.bind (impl_ElOk.mono _ _ _ _ _ _ _) fun o => LeO.refl _)) (LeO.refl _)
theorem impl_ReadEl.calls (k : Nat) (a0 : BA) (a1 a2 : Int) (r0 : S43) (r1 : Int) (w : World) (hL : LibOk w) (hE : LibErr w) (h : impl_ReadEl.f k a0 a1 a2 = some (r0, r1)) :
  Calls Tryz.prog 34 #[.string a0, .int .i64 a1, .int .i64 a2] w fun e w' => ∃ (cs : Array Value) (x : G43), e = .returned (.tuple #[.agg cs, .int .i64 r1]) ∧ er x = r0 ∧ (tb x).Nodup ∧ kG.M w' w.heap.size (fun _ => True) x cs.toList ∧ Below w.heap.size w w' := by
 have hu := Tryz.underlying43;have hu2 := Tryz.underlying93;have HLL := A_ hL;have HEE := A_ hE;clear hL hE;unfold impl_ReadEl.f at h;obtain ⟨t, ht, h⟩ := oB_ h;have HI := A_ ht;clear ht;cases t with
 | false =>
  rw [if_neg si_] at h;obtain ⟨rfl, rfl⟩ := Prod.mk.inj (sI_ h);clear h;go_enter Tryz.func34, Tryz.ntmps34
  go_wp2_with (first | ((with_reducible refine gate_dst (N := 6) rfl ?_); refine bZ_ 43 ?_; intro gr hg w1 hbox hb; have HGR := A_ hg; have HB1 := A_ hb; have HX1 := A_ hbox; clear hg hbox hb) | (go_at_call 53; (with_reducible refine (impl_inRange.calls a1 0 (wrap64 ((a0.size : Int) - 1)) false _ HI.out).mono ?_); rintro e w2 ⟨rfl, hd⟩; have HB2 := A_ (below_step HB1.out hd.below); have HX2 := A_ (blk_below HX1.out hd.below); have HGS := A_ (show gr < w2.heap.size from blk_lt HX2.out); clear hd HB1 HX1; obtain ⟨hz0, hz1, hz2, hz3, hz4, hz5, hy0, hy1, hy2, hy3, hy4, hy5⟩ := bk6_ HX2.out))
  refine bodyPost_ret (results_ct rfl _ _ gr 43 #[.int .i64 0, .int .i64 0, .string ⟨#[]⟩, .slice none 0 0, .string ⟨#[]⟩, .slice none 0 0] (0, 0) _ rfl (blk_six HX2.out _ _ _ _ _ _) hu rfl (by kernel_rfl)) rfl ?_;exact ⟨_, zG, rfl, by rw [zG, er, erL]; rfl, by rw [zG, tb, tbL]; exact List.nodup_nil, kG_mkM _ _ _ zG (Kd.R_nil _ _ _ _ _) (Kd.R_nil _ _ _ _ _) rfl rfl, below_six HB2.out (Nat.le_of_eq HGR.out.symm) _ _ _ _ _ _⟩
 | true =>
  rw [if_pos rfl] at h;obtain ⟨⟨q0, s5, p5, b5⟩, hq, h⟩ := oB_ h;dsimp only at h;have HQ := A_ hq;have HH := A_ h;clear hq h;go_enter Tryz.func34, Tryz.ntmps34
  go_upto_region 5 with (first | ((with_reducible refine gate_dst (N := 6) rfl ?_); refine bZ_ 43 ?_; intro gr hg w1 hbox hb; have HGR := A_ hg; have HB1 := A_ hb; have HX1 := A_ hbox; clear hg hbox hb) | (go_at_call 53; (with_reducible refine (impl_inRange.calls a1 0 (wrap64 ((a0.size : Int) - 1)) true _ HI.out).mono ?_); rintro e w2 ⟨rfl, hd⟩; have HB2 := A_ (below_step HB1.out hd.below); have HX2 := A_ (blk_below HX1.out hd.below); have HGS := A_ (show gr < w2.heap.size from blk_lt HX2.out); clear hd HB1 HX1) | ((with_reducible refine gate_dst (N := 8) rfl ?_); refine bE_ #[.string ⟨#[]⟩, .int .i64 0, .bool false] 93 ?_; intro g hg w3 hbox hb; have HNG := A_ (show gr ≠ g from by have := HGS.out; omega); have HGG := A_ (show w.heap.size ≤ g by rw [hg]; exact HB2.out.size); have HB3 := A_ (below_step HB2.out hb); have HX3 := A_ (blk_below HX2.out hb); have HXX := A_ hbox; have he0 := (blk_cell hbox 0).trans rfl; have he1 := (blk_cell hbox 1).trans rfl; have he2 := (blk_cell hbox 2).trans rfl; have hf0 := blk_frozen hbox 0; have hf1 := blk_frozen hbox 1; have hf2 := blk_frozen hbox 2; clear hg hbox hb HB2 HX2) | (go_at_call 86; (have HS4 : As9 (IsS93 w (((w3.setCell ⟨g, 0, none⟩ (.string a0)).setCell ⟨g, 1, none⟩ (.int .i64 a1)).setCell ⟨g, 2, none⟩ (.bool false)) g a0 a1 false) := ⟨⟨blk_put (blk_put (blk_put HXX.out 0 _ rfl) 1 _ rfl) 2 _ rfl, HGG.out⟩⟩); (have HB4 : As9 (Below w.heap.size w (((w3.setCell ⟨g, 0, none⟩ (.string a0)).setCell ⟨g, 1, none⟩ (.int .i64 a1)).setCell ⟨g, 2, none⟩ (.bool false))) := ⟨below_set (below_set (below_set HB3.out HGG.out) HGG.out) HGG.out⟩); have HX4 := A_ (blk_far (blk_far (blk_far HX3.out (p := ⟨g, 0, none⟩) HNG.out (.string a0)) (p := ⟨g, 1, none⟩) HNG.out (.int .i64 a1)) (p := ⟨g, 2, none⟩) HNG.out (.bool false)); (with_reducible refine (impl_reader_element.calls k g a2 60 a0 a1 false q0 s5 p5 b5 w _ HS4.out HB4.out HLL.out HEE.out HQ.out).mono ?_); rintro e w5 ⟨cs, x, rfl, hx, hap, hm, hi, hb, hk⟩; obtain ⟨v3, v5, hcs, g3, g5, -, -⟩ := kG_openM hm; obtain rfl : cs = #[.int .i64 x.f0, .int .i64 x.f1, .string x.f2, v3, .string x.f4, v5] := Array.ext' hcs; obtain ⟨A3, c3, rfl⟩ := Kd.R_slice g3; obtain ⟨A5, c5, rfl⟩ := Kd.R_slice (kG_erR g5); have HER := A_ hx; have HAP := A_ hap; have HM5 := A_ (kG.M_mono (ok' := fun k_ => k_ ≠ gr) (fun k_ hk_ => by have := blk_lt HX4.out; omega) hm); have HS5 := A_ hi; have HB5 := A_ hb; have HX5 := A_ (hk.blk HX4.out HNG.out si_); clear hm hcs g3 g5 hi hb hk hx hap HXX HS4 HB4 HX4 HB3 HX3 he0 he1 he2 hf0 hf1 hf2) | ((with_reducible refine gate_dst (N := 9) rfl ?_); refine bZ_ 43 ?_; intro ge hg w6 hbox hb; have HNE := A_ (show gr ≠ ge ∧ g ≠ ge from by have h1_ := blk_lt HX5.out; have h2_ := HS5.out.lt; omega); have HGE := A_ (show w.heap.size ≤ ge by rw [hg]; exact HB5.out.size); have HM6 := A_ (kG.M_mono (ok' := fun k_ => k_ ≠ ge ∧ k_ ≠ gr) (fun k_ hk_ => ⟨by have := hk_.2.2.1; omega, hk_.1⟩) (Kd.M_below (kG.M_bound HM5.out) hb)); have HS6 := A_ (HS5.out.below hb); have HB6 := A_ (below_step HB5.out hb); have HX6 := A_ (blk_below HX5.out hb); have HXE := A_ hbox; obtain ⟨he0, he1, he2, he3, he4, he5, hf0, hf1, hf2, hf3, hf4, hf5⟩ := bk6_ hbox; clear hg hbox hb HM5 HS5 HB5 HX5))
  have hk6 : KeepBut w6 _ ge none := ((((((KeepBut.refl w6 ge none).set_ 0 (.int .i64 x.f0)).set_ 1 (.int .i64 x.f1)).set_ 2 (.string x.f2)).set_ 3 (.slice A3 x.f3.length c3)).set_ 4 (.string x.f4)).set_ 5 (.slice A5 (erL x.f5).length c5);have HS7 := A_ (show IsS93 w _ g s5 p5 b5 from ⟨hk6.blk HS6.out.1 HNE.out.2 si_, HS6.out.2⟩);have HX7 := A_ (hk6.blk HX6.out HNE.out.1 si_);have HE7 := A_ (blk_six HXE.out (.int .i64 x.f0) (.int .i64 x.f1) (.string x.f2) (.slice A3 x.f3.length c3) (.string x.f4) (.slice A5 (erL x.f5).length c5));have HM7 := A_ (Kd.M_keep HM6.out hk6 (fun k_ hk_ => hk_.1));have HB7 := A_ (below_six HB6.out HGE.out (.int .i64 x.f0) (.int .i64 x.f1) (.string x.f2) (.slice A3 x.f3.length c3) (.string x.f4) (.slice A5 (erL x.f5).length c5));clear hk6 HS6 HX6 HXE HM6 HB6 he0 he1 he2 he3 he4 he5 hf0 hf1 hf2 hf3 hf4 hf5;generalize World.setCell _ _ _ = w7 at HS7 HX7 HE7 HM7 HB7 ⊢;have hc2 := (blk_cell HS7.out.1 2).trans rfl;obtain ⟨hz0, hz1, hz2, hz3, hz4, hz5, hy0, hy1, hy2, hy3, hy4, hy5⟩ := bk6_ HX7.out; obtain ⟨he0, he1, he2, he3, he4, he5⟩ := bc6_ HE7.out;cases b5 with
  | true =>
   have h := HH.out;rw [if_pos rfl] at h;obtain ⟨rfl, rfl⟩ := Prod.mk.inj (sI_ h);clear h HH;go_wp2
   refine bodyPost_ret (results_ct rfl _ _ gr 43 #[.int .i64 0, .int .i64 0, .string ⟨#[]⟩, .slice none 0 0, .string ⟨#[]⟩, .slice none 0 0] (0, 0) _ rfl (blk_six HX7.out _ _ _ _ _ _) hu rfl (by kernel_rfl)) rfl ?_;exact ⟨_, zG, rfl, by rw [zG, er, erL]; rfl, by rw [zG, tb, tbL]; exact List.nodup_nil, kG_mkM _ _ _ zG (Kd.R_nil _ _ _ _ _) (Kd.R_nil _ _ _ _ _) rfl rfl, below_six HB7.out (Nat.le_of_eq HGR.out.symm) _ _ _ _ _ _⟩
  | false =>
   have h := HH.out;rw [if_neg si_] at h;obtain ⟨ok, hk, h⟩ := oB_ h;obtain ⟨v3, v5, hcs, g3, g5, hl3, hl5⟩ := kG_openM HM7.out;obtain ⟨rfl, rfl⟩ : .slice A3 x.f3.length c3 = v3 ∧ .slice A5 (erL x.f5).length c5 = v5 := by simpa using hcs
   have HR3 := A_ (Kd.R_reads' g3);have HR5 := A_ (Kd.R_reads' (kG_erR g5));have hq : q0 = ⟨x.f0, x.f1, x.f2, x.f3, x.f4, erL x.f5⟩ := by rw [← HER.out]; obtain ⟨_, _, _, _, _, _, _, _⟩ := x; rw [er]
   rw [hq] at hk h;dsimp only at hk h;have HK := A_ hk;clear hk hcs g3 g5 hl3 hl5 hq;cases ok with
   | false =>
    rw [if_neg si_] at h;obtain ⟨rfl, rfl⟩ := Prod.mk.inj (sI_ h);clear h HH;go_wp2_with (first | (go_at_call 87; (with_reducible refine (impl_ElOk.calls k x.f0 x.f1 x.f2 A3 c3 x.f3 x.f4 A5 c5 (erL x.f5) false _ HR3.out.2.2 HR3.out.2.1 HR5.out.2.2 HR5.out.2.1 (HLL.out.below HB7.out) HK.out).mono ?_); rintro e w8 ⟨rfl, hb⟩; have HB8 := A_ (below_step HB7.out hb); have HX8 := A_ (blk_below HX7.out hb); have HE8 := A_ (blk_below HE7.out hb); have HS8 := A_ (HS7.out.below hb); have HM8 := A_ (Kd.M_below HM7.out hb); clear hb HB7 HX7 HE7 HS7 HM7 hc2 hz0 hz1 hz2 hz3 hz4 hz5 hy0 hy1 hy2 hy3 hy4 hy5 he0 he1 he2 he3 he4 he5; obtain ⟨hz0, hz1, hz2, hz3, hz4, hz5, hy0, hy1, hy2, hy3, hy4, hy5⟩ := bk6_ HX8.out))
    refine bodyPost_ret (results_ct rfl _ _ gr 43 #[.int .i64 0, .int .i64 0, .string ⟨#[]⟩, .slice none 0 0, .string ⟨#[]⟩, .slice none 0 0] (0, 0) _ rfl (blk_six HX8.out _ _ _ _ _ _) hu rfl (by kernel_rfl)) rfl ?_;exact ⟨_, zG, rfl, by rw [zG, er, erL]; rfl, by rw [zG, tb, tbL]; exact List.nodup_nil, kG_mkM _ _ _ zG (Kd.R_nil _ _ _ _ _) (Kd.R_nil _ _ _ _ _) rfl rfl, below_six HB8.out (Nat.le_of_eq HGR.out.symm) _ _ _ _ _ _⟩
   | true =>
    rw [if_pos rfl] at h;obtain ⟨er0_, rfl⟩ := Prod.mk.inj (sI_ h);have er0 : er x = r0 := by rw [← er0_]; obtain ⟨_, _, _, _, _, _, _, _⟩ := x; rw [er]
    clear h HH er0_;go_upto_region 7 with (first | (go_at_call 87; (with_reducible refine (impl_ElOk.calls k x.f0 x.f1 x.f2 A3 c3 x.f3 x.f4 A5 c5 (erL x.f5) true _ HR3.out.2.2 HR3.out.2.1 HR5.out.2.2 HR5.out.2.1 (HLL.out.below HB7.out) HK.out).mono ?_); rintro e w8 ⟨rfl, hb⟩; have HB8 := A_ (below_step HB7.out hb); have HX8 := A_ (blk_below HX7.out hb); have HE8 := A_ (blk_below HE7.out hb); have HS8 := A_ (HS7.out.below hb); have HM8 := A_ (Kd.M_below HM7.out hb); clear hb HB7 HX7 HE7 HS7 HM7 hc2 hz0 hz1 hz2 hz3 hz4 hz5 hy0 hy1 hy2 hy3 hy4 hy5 he0 he1 he2 he3 he4 he5))
    have HB9 := A_ (bD9 HB8.out);have HX9 := A_ (blk_drew HX8.out);have HE9 := A_ (blk_drew HE8.out);have HS9 := A_ (blk_drew HS8.out.1);have HM9 := A_ (Kd.M_below HM8.out (below_drew (Below.refl _ _)));clear HB8 HX8 HE8 HS8 HM8;refine start_ (n := 5) (S := fun w' => w'.heap[ge]? = some (.cells #[.int .i64 x.f0, .int .i64 x.f1, .string x.f2, .slice A3 x.f3.length c3, .string x.f4, .slice A5 (erL x.f5).length c5] 43 (0, 0)) ∧ w'.heap[g]? = some (.cells #[.string s5, .int .i64 p5, .bool false] 93 (0, 0))) (ds := []) (tS 5 0) (by kernel_rfl) rfl rfl ⟨HE9.out, HS9.out⟩ (fun hHeld => ?_);generalize World.drew _ = wq0 at HB9 HX9 HE9 HS9 HM9 hHeld ⊢;refine tq_ rfl (by rintro w' ⟨s0, s1⟩; obtain ⟨z0, z1, z2, z3, z4, z5⟩ := bc6_ s0; go_simp; with_reducible rfl) ?_;refine pq_ ?_;refine tq_ rfl (by rintro w' ⟨s0, s1⟩; have z1 := (blk_cell s1 1).trans rfl; go_simp; with_reducible rfl) ?_;refine one_ (i := 3) (N := none) (tS 5 4) rfl rfl (by kernel_rfl) de_ (fun K hK => ?_);refine put_step6 ?hw ?hN 43 (.tmp 6) (.tmp 30) ?ho (g := gr) (u0 := .int .i64 x.f0) (u1 := .int .i64 x.f1) (u2 := .string x.f2) (u3 := .slice A3 x.f3.length c3) (u4 := .string x.f4) (u5 := .slice A5 (erL x.f5).length c5) ?ha ?hx (by kernel_rfl) HX9.out (by intro q_ hq_; simp at hq_; rcases hq_ with rfl | rfl | rfl | rfl | rfl | rfl <;> rfl) ?_; (case hw => rfl); (case hN => rfl); (case ho => rfl); (case ha => rfl); (case hx => rfl);refine hK.out _ _ ⟨(((((((KeepBut.refl _ gr none).set_ 0 (.int .i64 x.f0)).set_ 1 (.int .i64 x.f1)).set_ 2 (.string x.f2)).set_ 3 (.slice A3 x.f3.length c3)).set_ 4 (.string x.f4)).set_ 5 (.slice A5 (erL x.f5).length c5)).blk HE9.out (Ne.symm HNE.out.1) si_, (((((((KeepBut.refl _ gr none).set_ 0 (.int .i64 x.f0)).set_ 1 (.int .i64 x.f1)).set_ 2 (.string x.f2)).set_ 3 (.slice A3 x.f3.length c3)).set_ 4 (.string x.f4)).set_ 5 (.slice A5 (erL x.f5).length c5)).blk HS9.out (Ne.symm HNG.out) si_⟩ (fun hHeld => ?_);clear hK K;refine pq_ ?_;refine done_ (by kernel_rfl) ?_;go_wp2
    refine bodyPost_ret (results_ct rfl _ _ gr 43 #[.int .i64 x.f0, .int .i64 x.f1, .string x.f2, .slice A3 x.f3.length c3, .string x.f4, .slice A5 (erL x.f5).length c5] (0, 0) _ rfl (blk_six HX9.out _ _ _ _ _ _) hu rfl (by kernel_rfl)) rfl ?_;exact ⟨_, x, rfl, er0, HAP.out, kG.M_mono (fun _ _ => trivial) (Kd.M_keep HM9.out (((((((KeepBut.refl _ gr none).set_ 0 (.int .i64 x.f0)).set_ 1 (.int .i64 x.f1)).set_ 2 (.string x.f2)).set_ 3 (.slice A3 x.f3.length c3)).set_ 4 (.string x.f4)).set_ 5 (.slice A5 (erL x.f5).length c5)) (fun k_ hk_ => hk_.2)), below_six HB9.out (Nat.le_of_eq HGR.out.symm) _ _ _ _ _ _⟩
def laws_eqAttr.f (a0_0 : BA) (a0_1 : BA) (a1_0 : BA) (a1_1 : BA) : Option (Bool) := if a0_0.toList = a1_0.toList then (if a0_1.toList = a1_1.toList then (some true) else (some false)) else (some false)
theorem laws_eqAttr.calls (a0_0 : BA) (a0_1 : BA) (a1_0 : BA) (a1_1 : BA) (r : Bool) (w : World) (h : laws_eqAttr.f a0_0 a0_1 a1_0 a1_1 = some r) :
  Calls Tryz.prog 139 #[.agg #[.string a0_0, .string a0_1], .agg #[.string a1_0, .string a1_1]] w fun e w' => e = .returned (.bool r) ∧ Below w.heap.size w w' := by
 have hu36 := Tryz.underlying36;have HB := A_ (Below.refl w.heap.size w);have H : (if a0_0.toList = a1_0.toList then (if a0_1.toList = a1_1.toList then (some true) else (some false)) else (some false)) = some r := h;clear h;rcases ic_ H with ⟨c3, H⟩ | ⟨c3, H⟩
 ·obtain ⟨c3b0, c3b1⟩ := be_ c3;clear c3;rcases ic_ H with ⟨c4, H⟩ | ⟨c4, H⟩
  ·obtain ⟨c4b0, c4b1⟩ := be_ c4;clear c4;obtain rfl := sI_ H;go_enter Tryz.func139, Tryz.ntmps139
   go_wp2_with (first | ((with_reducible refine gate_dst (N := 2) rfl ?_); refine bE_ #[.string a0_0, .string a0_1] 36 ?_; intro gb622 hg w5 hbox hb; have BK622 := A_ (hbox); have GW622 := hs_ hg; have GE622 := hs_ hg; replace HB := bS_ hb; clear hb hbox hg) | ((with_reducible refine gate_dst (N := 3) rfl ?_); refine bE_ #[.string a1_0, .string a1_1] 36 ?_; intro gb623 hg w6 hbox hb; have BK623 := A_ (hbox); have GW623 := hs_ hg; have GE623 := hs_ hg; replace HB := bS_ hb; have NB622_623 := A_ ((by rw [hg]; exact Nat.ne_of_lt (blk_lt (g := gb622) (o := .cells #[.string a0_0, .string a0_1] 36 (0, 0)) (blk_below BK622.out hR_)) : gb622 ≠ gb623)); have NB623_622 := A_ ((by rw [hg]; exact Nat.ne_of_gt (blk_lt (g := gb622) (o := .cells #[.string a0_0, .string a0_1] 36 (0, 0)) (blk_below BK622.out hR_)) : gb623 ≠ gb622)); replace BK622 := A_ (blk_below (g := gb622) (o := .cells #[.string a0_0, .string a0_1] 36 (0, 0)) (blk_below BK622.out hR_) hb); clear hb hbox hg; have hnb7 := NB622_623.out; have hnc7 := NB623_622.out; obtain ⟨hcz8_0, hcz8_1, hfz8_0, hfz8_1⟩ := bk2_ BK622.out; obtain ⟨hcz9_0, hcz9_1, hfz9_0, hfz9_1⟩ := bk2_ BK623.out))
   go_ret
   exact ⟨e1_, hB_⟩
  ·obtain ⟨c4b0, c4b1⟩ := bn_ c4;obtain rfl := sI_ H;go_enter Tryz.func139, Tryz.ntmps139
   go_wp2_with (first | ((with_reducible refine gate_dst (N := 2) rfl ?_); refine bE_ #[.string a0_0, .string a0_1] 36 ?_; intro gb622 hg w10 hbox hb; have BK622 := A_ (hbox); have GW622 := hs_ hg; have GE622 := hs_ hg; replace HB := bS_ hb; clear hb hbox hg) | ((with_reducible refine gate_dst (N := 3) rfl ?_); refine bE_ #[.string a1_0, .string a1_1] 36 ?_; intro gb623 hg w11 hbox hb; have BK623 := A_ (hbox); have GW623 := hs_ hg; have GE623 := hs_ hg; replace HB := bS_ hb; have NB622_623 := A_ ((by rw [hg]; exact Nat.ne_of_lt (blk_lt (g := gb622) (o := .cells #[.string a0_0, .string a0_1] 36 (0, 0)) (blk_below BK622.out hR_)) : gb622 ≠ gb623)); have NB623_622 := A_ ((by rw [hg]; exact Nat.ne_of_gt (blk_lt (g := gb622) (o := .cells #[.string a0_0, .string a0_1] 36 (0, 0)) (blk_below BK622.out hR_)) : gb623 ≠ gb622)); replace BK622 := A_ (blk_below (g := gb622) (o := .cells #[.string a0_0, .string a0_1] 36 (0, 0)) (blk_below BK622.out hR_) hb); clear hb hbox hg; have hnb12 := NB622_623.out; have hnc12 := NB623_622.out; obtain ⟨hcz13_0, hcz13_1, hfz13_0, hfz13_1⟩ := bk2_ BK622.out; obtain ⟨hcz14_0, hcz14_1, hfz14_0, hfz14_1⟩ := bk2_ BK623.out))
   go_ret
   exact ⟨e1_, hB_⟩
 ·obtain ⟨c3b0, c3b1⟩ := bn_ c3;obtain rfl := sI_ H;go_enter Tryz.func139, Tryz.ntmps139
  go_wp2_with (first | ((with_reducible refine gate_dst (N := 2) rfl ?_); refine bE_ #[.string a0_0, .string a0_1] 36 ?_; intro gb622 hg w15 hbox hb; have BK622 := A_ (hbox); have GW622 := hs_ hg; have GE622 := hs_ hg; replace HB := bS_ hb; clear hb hbox hg) | ((with_reducible refine gate_dst (N := 3) rfl ?_); refine bE_ #[.string a1_0, .string a1_1] 36 ?_; intro gb623 hg w16 hbox hb; have BK623 := A_ (hbox); have GW623 := hs_ hg; have GE623 := hs_ hg; replace HB := bS_ hb; have NB622_623 := A_ ((by rw [hg]; exact Nat.ne_of_lt (blk_lt (g := gb622) (o := .cells #[.string a0_0, .string a0_1] 36 (0, 0)) (blk_below BK622.out hR_)) : gb622 ≠ gb623)); have NB623_622 := A_ ((by rw [hg]; exact Nat.ne_of_gt (blk_lt (g := gb622) (o := .cells #[.string a0_0, .string a0_1] 36 (0, 0)) (blk_below BK622.out hR_)) : gb623 ≠ gb622)); replace BK622 := A_ (blk_below (g := gb622) (o := .cells #[.string a0_0, .string a0_1] 36 (0, 0)) (blk_below BK622.out hR_) hb); clear hb hbox hg; have hnb17 := NB622_623.out; have hnc17 := NB623_622.out; obtain ⟨hcz18_0, hcz18_1, hfz18_0, hfz18_1⟩ := bk2_ BK622.out; obtain ⟨hcz19_0, hcz19_1, hfz19_0, hfz19_1⟩ := bk2_ BK623.out))
  go_ret
  exact ⟨e1_, hB_⟩
def laws_eqAttrS.l0 : Nat → List (S36) → List (S36) → Int → Option (Bool)
 | 0, _, _, _ => none
 | k + 1, x0, x1, x5 => if x5 < (x0.length : Int) then (if 0 ≤ x5 then (if x5 < (x1.length : Int) then ((laws_eqAttr.f ((rd_T36 x0 x5).f0) ((rd_T36 x0 x5).f1) ((rd_T36 x1 x5).f0) ((rd_T36 x1 x5).f1)).bind fun t626 => (if t626 = true then (laws_eqAttrS.l0 k x0 x1 (wrap64 (x5 + 1))) else (some false))) else (none)) else (none)) else (some true)
def laws_eqAttrS.f (k : Nat) (l0 : List (S36)) (l1 : List (S36)) : Option (Bool) := if (l0.length : Int) = (l1.length : Int) then (laws_eqAttrS.l0 k l0 l1 0) else (some false)
theorem laws_eqAttrS.mono_l : ∀ k, (∀ y0 y1 y2, LeO (laws_eqAttrS.l0 k y0 y1 y2) (laws_eqAttrS.l0 (k + 1) y0 y1 y2))
 | 0 => fun _ _ _ r h => by simp [laws_eqAttrS.l0] at h
 | k + 1 => by
  have ih0 := laws_eqAttrS.mono_l k
  ·intro y0 y1 y2;unfold laws_eqAttrS.l0;with_reducible repeat' first | exact ih0 _ _ _ | apply LeO.refl | apply LeO.none | apply LeO.ite | apply LeO.bind | intro
theorem laws_eqAttrS.mono : ∀ a0 a1 k, LeO (laws_eqAttrS.f k a0 a1) (laws_eqAttrS.f (k + 1) a0 a1) := by
 intro a0 a1 k;have ih0 := laws_eqAttrS.mono_l k;unfold laws_eqAttrS.f;with_reducible repeat' first | exact ih0 _ _ _ | apply LeO.refl | apply LeO.none | apply LeO.ite | apply LeO.bind | intro
def laws_eqAttrS.T6 : Bool × List (List Nat × List Nat) := (true, [([], []), ([], []), ([0, 1], [0, 1]), ([2], [2]), ([], []), ([], []), ([4, 5], [4, 5]), ([6], [6]), ([3, 7], [3, 7]), ([8], [8])])
def laws_eqAttrS.B6 : List Nat := [0, 0, 3, 7, 0, 0, 48, 112, 255, 511]
theorem laws_eqAttrS.tab6 : rtab .any (opsOf Tryz.f88 6) = laws_eqAttrS.T6 := by kernel_rfl
theorem laws_eqAttrS.bits6 : waitsOk laws_eqAttrS.T6.2 laws_eqAttrS.B6 = true := by kernel_rfl
theorem laws_eqAttrS.calls (k : Nat) (A0 : Option Addr) (c0 : Nat) (l0 : List (S36)) (A1 : Option Addr) (c1 : Nat) (l1 : List (S36)) (r : Bool) (w : World) (hr0 : Kd.C k36 w A0 l0.length l0) (hc0 : l0.length ≤ c0) (hr1 : Kd.C k36 w A1 l1.length l1) (hc1 : l1.length ≤ c1) (h : laws_eqAttrS.f k l0 l1 = some r) :
  Calls Tryz.prog 88 #[.slice A0 l0.length c0, .slice A1 l1.length c1] w fun e w' => e = .returned (.bool r) ∧ Below w.heap.size w w' := by
 have hu36 := Tryz.underlying36;have HR0 := A_ hr0;have HC0 := A_ hc0;clear hr0 hc0;have HR1 := A_ hr1;have HC1 := A_ hc1;clear hr1 hc1;have HB := A_ (Below.refl w.heap.size w);have H : (if (l0.length : Int) = (l1.length : Int) then (laws_eqAttrS.l0 k l0 l1 0) else (some false)) = some r := h;clear h;rcases ic_ H with ⟨c3, H⟩ | ⟨c3, H⟩
 ·obtain ⟨c3b0, c3b1⟩ := be_ c3;have c3b2 : (l0.length == l1.length) = true := by first | simpa using c3 | (simp at c3 ⊢; omega)
  clear c3;have H' := A_ H;clear H;go_enter Tryz.func88, Tryz.ntmps88
  go_wp2
  go_loopg [5] k (fun kq v5 w' => ∃ (x5_1 : Int), v5 = .int .i64 x5_1 ∧ As9 (laws_eqAttrS.l0 kq l0 l1 x5_1 = some r) ∧ As9 (kq ≤ k) ∧ As9 (Below w.heap.size w w'))
  case atStart => exact ⟨(0), e2_, H', ⟨Nat.le_refl _⟩, ⟨hB_⟩⟩
  case round =>
   clear H';try clear c1
   try clear p2
   try clear c3
   try clear c3b0
   try clear c3b1
   try clear c3b2
   obtain ⟨x5_1, rfl, HA, HK1, HB⟩ := hrel;cases gk with
   | zero => exact absurd HA.out (by simp [laws_eqAttrS.l0])
   | succ k1 =>
    have H := HA.out;clear HA;simp only [laws_eqAttrS.l0] at H;rcases ic_ H with ⟨c4, H⟩ | ⟨c4, H⟩
    ·have c4b0 := dE_ c4;clear c4;obtain ⟨c5, H⟩ := ifn_ H;have c5b0 := dE_ c5;clear c5;obtain ⟨c6, H⟩ := ifn_ H;have c6b0 := dE_ c6;clear c6;obtain ⟨t626, A7, H⟩ := ob_ H;(try dsimp only at H)
     by_cases c8 : t626 = true
     ·subst c8;rw [if_pos rfl] at H;have H' := A_ H;clear H;try go_wp2
      replace HB := A_ (bD9 HB.out);obtain ⟨p624, q624, ad624, e624, hw624_0, hw624_1, hx624_0, hx624_1⟩ := aW36_ HB.out HR0.out x5_1;cases e624;obtain ⟨p625, q625, ad625, e625, hw625_0, hw625_1, hx625_0, hx625_1⟩ := aW36_ HB.out HR1.out x5_1;cases e625;refine start_ (n := 10) (S := fun w' => w'.cell? (ad624.add ((x5_1).toNat * 2)) = some (.string ((rd_T36 l0 x5_1).f0)) ∧ w'.cell? ⟨(ad624.add ((x5_1).toNat * 2)).block, (ad624.add ((x5_1).toNat * 2)).off + 1, none⟩ = some (.string ((rd_T36 l0 x5_1).f1)) ∧ w'.cell? (ad625.add ((x5_1).toNat * 2)) = some (.string ((rd_T36 l1 x5_1).f0)) ∧ w'.cell? ⟨(ad625.add ((x5_1).toNat * 2)).block, (ad625.add ((x5_1).toNat * 2)).off + 1, none⟩ = some (.string ((rd_T36 l1 x5_1).f1))) (ds := []) (tS 10 0) (by kernel_rfl) rfl rfl ⟨(cB_ HB.out hw624_0), (cB_ HB.out hw624_1), (cB_ HB.out hw625_0), (cB_ HB.out hw625_1)⟩ (fun hHeld => ?_); refine with_tabW laws_eqAttrS.tab6 laws_eqAttrS.bits6 (fun HT_ HW_ => ?_);generalize wr.drew = w9 at HB hx624_0 hx624_1 hx625_0 hx625_1 hHeld ⊢;iterate 3 refine pqT_ ?_
      refine pgT_ 4 (tB 10 23) ?_;refine pgT_ 5 (tB 10 55) ?_;refine pgT_ 6 (tB 10 119) ?_;refine tgT_ 3 (tS 10 7) rfl (by rintro w' ⟨s0, s1, s2, s3⟩; go_simp; with_reducible rfl) ?_;refine tqT_ rfl (by rintro w' ⟨s0, s1, s2, s3⟩; go_simp; with_reducible rfl) ?_;refine n1T_ 8 (tS 10 9) rfl fun K hK => ?_
      refine gS_ Tryz.func139 #[.agg #[.string ((rd_T36 l0 x5_1).f0), .string ((rd_T36 l0 x5_1).f1)], .agg #[.string ((rd_T36 l1 x5_1).f0), .string ((rd_T36 l1 x5_1).f1)]] ?_;with_reducible refine (laws_eqAttr.calls ((rd_T36 l0 x5_1).f0) ((rd_T36 l0 x5_1).f1) ((rd_T36 l1 x5_1).f0) ((rd_T36 l1 x5_1).f1) true _ A7.out).mono ?_
      rintro e w10 ⟨rfl, hb⟩;refine ⟨_, rfl, ?_⟩;replace HB := bS_ hb;clear hb;refine hK.out _ _ ⟨(cB_ HB.out hw624_0), (cB_ HB.out hw624_1), (cB_ HB.out hw625_0), (cB_ HB.out hw625_1)⟩ (fun hHeld => ?_);clear hK K;refine nm_ ?_;refine pqT_ ?_;refine done_ (done_of HT_.out (by kernel_rfl)) ?_;try go_wp2
      go_roundg k1
      case measure => have := HK1.out; omega
      case rel => exact ⟨(wrap64 (x5_1 + 1)), e2_, H', ⟨by have := HK1.out; omega⟩, ⟨hB_⟩⟩
     ·replace c8 := bF_ c8;subst c8;rw [if_neg nF_] at H;obtain rfl := sI_ H;try go_wp2
      replace HB := A_ (bD9 HB.out);obtain ⟨p624, q624, ad624, e624, hw624_0, hw624_1, hx624_0, hx624_1⟩ := aW36_ HB.out HR0.out x5_1;cases e624;obtain ⟨p625, q625, ad625, e625, hw625_0, hw625_1, hx625_0, hx625_1⟩ := aW36_ HB.out HR1.out x5_1;cases e625;refine start_ (n := 10) (S := fun w' => w'.cell? (ad624.add ((x5_1).toNat * 2)) = some (.string ((rd_T36 l0 x5_1).f0)) ∧ w'.cell? ⟨(ad624.add ((x5_1).toNat * 2)).block, (ad624.add ((x5_1).toNat * 2)).off + 1, none⟩ = some (.string ((rd_T36 l0 x5_1).f1)) ∧ w'.cell? (ad625.add ((x5_1).toNat * 2)) = some (.string ((rd_T36 l1 x5_1).f0)) ∧ w'.cell? ⟨(ad625.add ((x5_1).toNat * 2)).block, (ad625.add ((x5_1).toNat * 2)).off + 1, none⟩ = some (.string ((rd_T36 l1 x5_1).f1))) (ds := []) (tS 10 0) (by kernel_rfl) rfl rfl ⟨(cB_ HB.out hw624_0), (cB_ HB.out hw624_1), (cB_ HB.out hw625_0), (cB_ HB.out hw625_1)⟩ (fun hHeld => ?_); refine with_tabW laws_eqAttrS.tab6 laws_eqAttrS.bits6 (fun HT_ HW_ => ?_);generalize wr.drew = w11 at HB hx624_0 hx624_1 hx625_0 hx625_1 hHeld ⊢;iterate 3 refine pqT_ ?_
      refine pgT_ 4 (tB 10 23) ?_;refine pgT_ 5 (tB 10 55) ?_;refine pgT_ 6 (tB 10 119) ?_;refine tgT_ 3 (tS 10 7) rfl (by rintro w' ⟨s0, s1, s2, s3⟩; go_simp; with_reducible rfl) ?_;refine tqT_ rfl (by rintro w' ⟨s0, s1, s2, s3⟩; go_simp; with_reducible rfl) ?_;refine n1T_ 8 (tS 10 9) rfl fun K hK => ?_
      refine gS_ Tryz.func139 #[.agg #[.string ((rd_T36 l0 x5_1).f0), .string ((rd_T36 l0 x5_1).f1)], .agg #[.string ((rd_T36 l1 x5_1).f0), .string ((rd_T36 l1 x5_1).f1)]] ?_;with_reducible refine (laws_eqAttr.calls ((rd_T36 l0 x5_1).f0) ((rd_T36 l0 x5_1).f1) ((rd_T36 l1 x5_1).f0) ((rd_T36 l1 x5_1).f1) false _ A7.out).mono ?_
      rintro e w12 ⟨rfl, hb⟩;refine ⟨_, rfl, ?_⟩;replace HB := bS_ hb;clear hb;refine hK.out _ _ ⟨(cB_ HB.out hw624_0), (cB_ HB.out hw624_1), (cB_ HB.out hw625_0), (cB_ HB.out hw625_1)⟩ (fun hHeld => ?_);clear hK K;refine nm_ ?_;refine pqT_ ?_;refine done_ (done_of HT_.out (by kernel_rfl)) ?_;try go_wp2
      go_ret
      exact ⟨e1_, hB_⟩
    ·have c4b0 := dF_ c4;clear c4;obtain rfl := sI_ H;go_wp2
     go_ret
     exact ⟨e1_, hB_⟩
 ·obtain ⟨c3b0, c3b1⟩ := bn_ c3;have c3b2 : (l0.length == l1.length) = false := by first | simpa using c3 | (simp at c3 ⊢; omega)
  obtain rfl := sI_ H;go_enter Tryz.func88, Tryz.ntmps88
  go_wp2
  go_ret
  exact ⟨e1_, hB_⟩
mutual
def eqE (k : Nat) : S43 → Prop
 | ⟨_, _, _, at_, _, ks⟩ => laws_eqAttrS.f k at_ at_ = some true ∧ eqL k ks
def eqL (k : Nat) : List S43 → Prop
 | [] => True
 | x :: xs => eqE k x ∧ eqL k xs
end
theorem eqL_mem (k : Nat) : ∀ (xs : List S43), eqL k xs → ∀ x ∈ xs, eqE k x
 | [], _, x, hx => by cases hx
 | y :: ys, h, x, hx => by
  rw [eqL] at h;rcases List.mem_cons.1 hx with e | hx
  ·rw [e]; exact h.1
  ·exact eqL_mem k ys h.2 x hx
theorem rd_mE (l : List S43) (j : Int) (h0 : 0 ≤ j) (h1 : j < (l.length : Int)) : rd_T43 l j ∈ l ∧ SizeOf.sizeOf (rd_T43 l j) < SizeOf.sizeOf l := by
 have hlt : j.toNat < l.length := om_;have : rd_T43 l j = l[j.toNat] := by unfold rd_T43; rw [List.getD_eq_getElem?_getD, List.getElem?_eq_getElem hlt, Option.getD_some]
 rw [this];exact ⟨List.getElem_mem hlt, List.sizeOf_lt_of_mem (List.getElem_mem hlt)⟩
def EqS (k m : Nat) : Prop := ∀ (xs : List S43) (A B : Option Addr) (c d : Nat) (w0 w : World), SizeOf.sizeOf xs < m → eqL k xs → Kd.C k43 w0 A xs.length xs → Kd.C k43 w0 B xs.length xs → Below w0.heap.size w0 w →
  Calls Tryz.prog 40 #[.slice A xs.length c, .slice B xs.length d] w fun e w' => e = .returned (.bool true) ∧ Below w0.heap.size w0 w'
def EqO (k m : Nat) : Prop := ∀ (x : S43) (A3 A5 B3 B5 : Option Addr) (c3 c5 d3 d5 : Nat) (w0 w : World), SizeOf.sizeOf x < m → eqE k x → Kd.C k36 w0 A3 x.f3.length x.f3 → x.f3.length ≤ c3 → Kd.C k43 w0 A5 x.f5.length x.f5 → Kd.C k36 w0 B3 x.f3.length x.f3 → x.f3.length ≤ d3 → Kd.C k43 w0 B5 x.f5.length x.f5 → Below w0.heap.size w0 w →
  Calls Tryz.prog 35 #[.agg #[.int .i64 x.f0, .int .i64 x.f1, .string x.f2, .slice A3 x.f3.length c3, .string x.f4, .slice A5 x.f5.length c5], .agg #[.int .i64 x.f0, .int .i64 x.f1, .string x.f2, .slice B3 x.f3.length d3, .string x.f4, .slice B5 x.f5.length d5]] w fun e w' => e = .returned (.bool true) ∧ Below w0.heap.size w0 w'
theorem eqO_step (k m : Nat) (ih : EqS k m) : EqO k (m + 1) := by
 unfold EqS at ih;intro x A3 A5 B3 B5 c3 c5 d3 d5 w0 w hm he h3 l3 h5 g3 m3 g5 hB;obtain ⟨kd, sp, nm, at_, tx, ks⟩ := x;rw [eqE] at he;dsimp only at h3 l3 h5 g3 m3 g5 ⊢;have HE := A_ he.1;have HEK := A_ he.2;have HS := A_ (show SizeOf.sizeOf ks < m by simp at hm; omega);have H3 := A_ h3;have L3 := A_ l3;have H5 := A_ h5;have G3 := A_ g3;have M3 := A_ m3;have G5 := A_ g5;have HB := A_ hB;have hu := Tryz.underlying43;clear hm he h3 l3 h5 g3 m3 g5 hB;go_enter Tryz.func35, Tryz.ntmps35
 go_wp2_with (first | ((with_reducible refine gate_dst (N := 2) rfl ?_); refine bE_ #[.int .i64 kd, .int .i64 sp, .string nm, .slice A3 at_.length c3, .string tx, .slice A5 ks.length c5] 43 ?_; intro ga hg w2 hbox hb; have HBX := A_ (below_step HB.out hb); have HX1 := A_ hbox; clear hg hbox hb HB) | ((with_reducible refine gate_dst (N := 3) rfl ?_); refine bE_ #[.int .i64 kd, .int .i64 sp, .string nm, .slice B3 at_.length d3, .string tx, .slice B5 ks.length d5] 43 ?_; intro gb hg w3 hbox hb; have HBY := A_ (below_step HBX.out hb); have HX2 := A_ (blk_below HX1.out hb); have HY2 := A_ hbox; clear hg hbox hb HBX HX1; obtain ⟨hx0, hx1, hx2, hx3, hx4, hx5⟩ := bc6_ HX2.out; obtain ⟨hy0, hy1, hy2, hy3, hy4, hy5⟩ := bc6_ HY2.out) | (go_at_call 88; (with_reducible refine (laws_eqAttrS.calls k A3 c3 at_ B3 d3 at_ true _ (Kd.C_below H3.out HBY.out) L3.out (Kd.C_below G3.out HBY.out) M3.out HE.out).mono ?_); rintro e w5 ⟨rfl, hb⟩; have HB5 := A_ (below_step HBY.out hb); have HX5 := A_ (blk_below HX2.out hb); have HY5 := A_ (blk_below HY2.out hb); clear hb HBY HX2 HY2 hx0 hx1 hx2 hx3 hx4 hx5 hy0 hy1 hy2 hy3 hy4 hy5; obtain ⟨hx0, hx1, hx2, hx3, hx4, hx5⟩ := bc6_ HX5.out; obtain ⟨hy0, hy1, hy2, hy3, hy4, hy5⟩ := bc6_ HY5.out) | (go_at_call 40; (with_reducible refine (ih ks A5 B5 c5 d5 w0 _ HS.out HEK.out H5.out G5.out HB5.out).mono ?_); rintro e w6 ⟨rfl, hb⟩; have HB6 := A_ hb; clear hb))
 go_ret
 exact ⟨rfl, HB6.out⟩
theorem eqS_step (k m : Nat) (ih : EqO k m) : EqS k (m + 1) := by
 unfold EqO at ih;intro xs A B c d w0 w hm he hA hC hB;have HSZ := A_ hm;have HE := A_ (eqL_mem k xs he);have HA := A_ hA;have HC := A_ hC;have HML := A_ (Kd.C_max hA);have HB := A_ hB;have hu := Tryz.underlying43;clear hm he hA hC hB;go_enter Tryz.func40, Tryz.ntmps40
 go_wp2
 go_loopg [5] xs.length (fun kq v5 wr => ∃ (j : Int), v5 = .int .i64 j ∧ 0 ≤ j ∧ j ≤ (xs.length : Int) ∧ As9 (kq = xs.length - j.toNat) ∧ As9 (Below w0.heap.size w0 wr))
 case atStart => exact ⟨0, rfl, Int.le_refl _, om_, ⟨rfl⟩, HB⟩
 case round =>
  clear HB;obtain ⟨j, rfl, j0, hj, HEQ, HB⟩ := hrel;by_cases hlt : j < (xs.length : Int)
  ·obtain ⟨hmem, hsz⟩ := rd_mE xs j j0 hlt;have HEX := A_ (HE.out _ hmem);have HS := A_ (show SizeOf.sizeOf (rd_T43 xs j) < m by have := HSZ.out; omega);obtain ⟨ad, A3, c3, A5, c5, eA, x0, x1, x2, x3, x4, x5, l3, g3, l5, g5⟩ := at_T43 HA.out j j0 hlt;subst eA;obtain ⟨bd, B3, d3, B5, d5, eB, y0, y1, y2, y3, y4, y5, m3, h3, m5, h5⟩ := at_T43 HC.out j j0 hlt;subst eB;have L3 := A_ l3;have G3 := A_ g3;have G5 := A_ g5;have M3 := A_ m3;have H3 := A_ h3;have H5 := A_ h5;have p7 := eq_true j0;have q7 := eq_true hlt;have hwr : wrap64 (j + 1) = j + 1 := by have := HML.out; unfold wrap64; omega
   clear hmem hsz l3 g3 l5 g5 m3 h3 m5 h5;go_upto_region 6 with fail
   have HB1 := A_ (bD9 HB.out);have HX := A_ (show _ ∧ _ ∧ _ ∧ _ ∧ _ ∧ _ ∧ _ ∧ _ ∧ _ ∧ _ ∧ _ ∧ _ from ⟨(HB1.out.cell (World.block_lt_of_cell? w0 _ x0)).trans x0, (HB1.out.cell (World.block_lt_of_cell? w0 _ x1)).trans x1, (HB1.out.cell (World.block_lt_of_cell? w0 _ x2)).trans x2, (HB1.out.cell (World.block_lt_of_cell? w0 _ x3)).trans x3, (HB1.out.cell (World.block_lt_of_cell? w0 _ x4)).trans x4, (HB1.out.cell (World.block_lt_of_cell? w0 _ x5)).trans x5,
    (HB1.out.cell (World.block_lt_of_cell? w0 _ y0)).trans y0, (HB1.out.cell (World.block_lt_of_cell? w0 _ y1)).trans y1, (HB1.out.cell (World.block_lt_of_cell? w0 _ y2)).trans y2, (HB1.out.cell (World.block_lt_of_cell? w0 _ y3)).trans y3, (HB1.out.cell (World.block_lt_of_cell? w0 _ y4)).trans y4, (HB1.out.cell (World.block_lt_of_cell? w0 _ y5)).trans y5⟩)
   refine start_ (n := 10) (S := fun w' => w'.cell? (ad.add (j.toNat * 6)) = some (.int .i64 (rd_T43 xs j).f0) ∧ w'.cell? ⟨(ad.add (j.toNat * 6)).block, (ad.add (j.toNat * 6)).off + 1, none⟩ = some (.int .i64 (rd_T43 xs j).f1) ∧ w'.cell? ⟨(ad.add (j.toNat * 6)).block, (ad.add (j.toNat * 6)).off + 2, none⟩ = some (.string (rd_T43 xs j).f2) ∧ w'.cell? ⟨(ad.add (j.toNat * 6)).block, (ad.add (j.toNat * 6)).off + 3, none⟩ = some (.slice A3 (rd_T43 xs j).f3.length c3) ∧ w'.cell? ⟨(ad.add (j.toNat * 6)).block, (ad.add (j.toNat * 6)).off + 4, none⟩ = some (.string (rd_T43 xs j).f4) ∧ w'.cell? ⟨(ad.add (j.toNat * 6)).block, (ad.add (j.toNat * 6)).off + 5, none⟩ = some (.slice A5 (rd_T43 xs j).f5.length c5) ∧ w'.cell? (bd.add (j.toNat * 6)) = some (.int .i64 (rd_T43 xs j).f0) ∧ w'.cell? ⟨(bd.add (j.toNat * 6)).block, (bd.add (j.toNat * 6)).off + 1, none⟩ = some (.int .i64 (rd_T43 xs j).f1) ∧ w'.cell? ⟨(bd.add (j.toNat * 6)).block, (bd.add (j.toNat * 6)).off + 2, none⟩ = some (.string (rd_T43 xs j).f2) ∧ w'.cell? ⟨(bd.add (j.toNat * 6)).block, (bd.add (j.toNat * 6)).off + 3, none⟩ = some (.slice B3 (rd_T43 xs j).f3.length d3) ∧ w'.cell? ⟨(bd.add (j.toNat * 6)).block, (bd.add (j.toNat * 6)).off + 4, none⟩ = some (.string (rd_T43 xs j).f4) ∧ w'.cell? ⟨(bd.add (j.toNat * 6)).block, (bd.add (j.toNat * 6)).off + 5, none⟩ = some (.slice B5 (rd_T43 xs j).f5.length d5)) (ds := [8]) (tS 10 0) (by kernel_rfl) rfl rfl HX.out (fun hHeld => ?_);generalize World.drew _ = wq0 at HB1 HX hHeld ⊢;iterate 3 refine pq_ ?_
   refine tq_ rfl (by rintro w' ⟨s0, s1, s2, s3, s4, s5, t0, t1, t2, t3, t4, t5⟩; go_simp; with_reducible rfl) ?_;iterate 3 refine pq_ ?_
   refine tq_ rfl (by rintro w' ⟨s0, s1, s2, s3, s4, s5, t0, t1, t2, t3, t4, t5⟩; go_simp; with_reducible rfl) ?_;refine last_ (i := 8) (N := some 25) (tS 10 9) rfl rfl (by kernel_rfl) de_ (fun K hK => ?_);refine gS_ Tryz.func35 #[.agg #[.int .i64 (rd_T43 xs j).f0, .int .i64 (rd_T43 xs j).f1, .string (rd_T43 xs j).f2, .slice A3 (rd_T43 xs j).f3.length c3, .string (rd_T43 xs j).f4, .slice A5 (rd_T43 xs j).f5.length c5], .agg #[.int .i64 (rd_T43 xs j).f0, .int .i64 (rd_T43 xs j).f1, .string (rd_T43 xs j).f2, .slice B3 (rd_T43 xs j).f3.length d3, .string (rd_T43 xs j).f4, .slice B5 (rd_T43 xs j).f5.length d5]] ?_;with_reducible refine (ih (rd_T43 xs j) A3 A5 B3 B5 c3 c5 d3 d5 w0 _ HS.out HEX.out G3.out L3.out G5.out H3.out M3.out H5.out HB1.out).mono ?_
   rintro e wq8 ⟨rfl, hb⟩;refine ⟨_, rfl, ?_⟩;have HB2 := A_ hb;clear hb HB1 HX;refine hK.out _ _ ?_;clear hK K;refine nm_ ?_;refine pq_ ?_;refine done_ (by kernel_rfl) ?_;go_wp2
   go_roundg (xs.length - (j + 1).toNat)
   case measure => have := HEQ.out; omega
   case rel => exact ⟨j + 1, by rw [hwr], om_, om_, ⟨rfl⟩, HB2⟩
  ·have q7 := eq_false hlt;go_wp2
   go_ret
   exact ⟨rfl, HB.out⟩
theorem eqs_all (k : Nat) : ∀ m, EqS k m ∧ EqO k m := by
 intro m;induction m with
 | zero => exact ⟨fun xs A B c d w0 w hm => by omega, fun x A3 A5 B3 B5 c3 c5 d3 d5 w0 w hm => by omega⟩
 | succ m ih => exact ⟨eqS_step k m ih.2, eqO_step k m ih.1⟩
def laws_markText.l0 : Nat → Int → ByteArray → Option (ByteArray)
 | 0, _, _ => none
 | k + 1, x0, x3 => if x0 > 0 then ((some (([(wrap64 (48 + (Int.tmod x0 10))) % 256] : List Int) : List Int)).bind fun y627 => (if (strOfNums y627).size + x3.size ≤ 9223372036854775807 then (laws_markText.l0 k (wrap64 (Int.tdiv x0 10)) ((strOfNums y627) ++ x3)) else (none))) else (if 1 + x3.size ≤ 9223372036854775807 then (some ((⟨#[109]⟩ : BA) ++ x3)) else (none))
def laws_markText.f (k : Nat) (a0 : Int) : Option (ByteArray) := if a0 ≤ 0 then (some (⟨#[109, 48]⟩ : BA)) else (laws_markText.l0 k a0 (⟨#[]⟩ : BA))
theorem laws_markText.mono_l : ∀ k, (∀ y0 y1, LeO (laws_markText.l0 k y0 y1) (laws_markText.l0 (k + 1) y0 y1))
 | 0 => fun _ _ r h => by simp [laws_markText.l0] at h
 | k + 1 => by
  have ih0 := laws_markText.mono_l k
  ·intro y0 y1;unfold laws_markText.l0;with_reducible repeat' first | exact ih0 _ _ | apply LeO.refl | apply LeO.none | apply LeO.ite | apply LeO.bind | intro
theorem laws_markText.mono : ∀ a0 k, LeO (laws_markText.f k a0) (laws_markText.f (k + 1) a0) := by
 intro a0 k;have ih0 := laws_markText.mono_l k;unfold laws_markText.f;with_reducible repeat' first | exact ih0 _ _ | apply LeO.refl | apply LeO.none | apply LeO.ite | apply LeO.bind | intro
theorem laws_markText.calls (k : Nat) (a0 : Int) (r : BA) (w : World) (h : laws_markText.f k a0 = some r) :
  Calls Tryz.prog 98 #[.int .i64 a0] w fun e w' => e = .returned (.string r) ∧ Below w.heap.size w w' := by
 have HB := A_ (Below.refl w.heap.size w);have H : (if a0 ≤ 0 then (some (⟨#[109, 48]⟩ : BA)) else (laws_markText.l0 k a0 (⟨#[]⟩ : BA))) = some r := h;clear h;rcases ic_ H with ⟨c2, H⟩ | ⟨c2, H⟩
 ·have c2b0 := dE_ c2;clear c2;obtain rfl := sI_ H;go_enter Tryz.func98, Tryz.ntmps98
  go_wp2
  go_ret
  exact ⟨e1_, hB_⟩
 ·have c2b0 := dF_ c2;clear c2;have H' := A_ H;clear H;go_enter Tryz.func98, Tryz.ntmps98
  go_wp2
  go_loopg [0, 3] k (fun kq v0 v3 w' => ∃ (x0_1 : Int) (x3_1 : BA), v0 = .int .i64 x0_1 ∧ v3 = .string x3_1 ∧ As9 (laws_markText.l0 kq x0_1 x3_1 = some r) ∧ As9 (kq ≤ k) ∧ As9 (Below w.heap.size w w'))
  case atStart => exact ⟨(a0), ((⟨#[]⟩ : BA)), e2_, e2_, H', ⟨Nat.le_refl _⟩, ⟨hB_⟩⟩
  case round =>
   clear H';try clear c2
   try clear c2b0
   try clear p2
   obtain ⟨x0_1, x3_1, rfl, rfl, HA, HK1, HB⟩ := hrel;cases gk with
   | zero => exact absurd HA.out (by simp [laws_markText.l0])
   | succ k1 =>
    have H := HA.out;clear HA;simp only [laws_markText.l0] at H;rcases ic_ H with ⟨c3, H⟩ | ⟨c3, H⟩
    ·have c3b0 : decide (0 < x0_1) = true := dE_ c3;clear c3;obtain ⟨y627, hy627⟩ : ∃ y_ : List Int, y_ = (([(wrap64 (48 + (Int.tmod x0_1 10))) % 256] : List Int)) := ⟨_, rfl⟩;replace H : (if (strOfNums y627).size + x3_1.size ≤ 9223372036854775807 then (laws_markText.l0 k1 (wrap64 (Int.tdiv x0_1 10)) ((strOfNums y627) ++ x3_1)) else (none)) = some r := by first | (rw [hy627]; with_reducible exact H) | (have H2_ := (Option.bind_some _ _).symm.trans H; rw [hy627]; with_reducible exact H2_) | (have H2_ := (Option.bind_some _ _).symm.trans H; with_reducible exact H2_) | with_reducible exact H | (rw [hy627]; exact H) | exact H
     have Ny627 := A_ hy627;clear hy627;obtain ⟨c4, H⟩ := ifn_ H;have c4b0 := eq_true c4;have c4b1 := dE_ c4;try have c4b2 : (9223372036854775807 < (strOfNums y627).size + x3_1.size) = False := eq_false (Nat.not_lt.2 c4)
     have H' := A_ H;clear H;go_wp2_with (first | ((with_reducible refine gate_dst (N := 12) rfl ?_); refine rl_ (Kd.int .u8) 5 12 [(wrap64 (48 + (Int.tmod x0_1 10))) % 256] [.int .u8 ((wrap64 (48 + (Int.tmod x0_1 10))) % 256)] ?_; intro v628 w5 ho6 hb hg_ hnew_; clear hg_ hnew_; (first | rw [← Ny627.out] at ho6 | (simp only [Int.reduceToNat] at ho6; rw [← Ny627.out] at ho6)); have HO629 := A_ (Kd.R_lower ho6 (below_size hB_)); replace HB := bS_ hb; clear hb ho6; have hcv7 := own_string (P := Tryz.prog) Tryz.underlying22 Tryz.underlying5 Tryz.underlying9 (Kd.own_of_R HO629.out)))
     go_roundg k1
     case measure => have := HK1.out; omega
     case rel => exact ⟨(wrap64 (Int.tdiv x0_1 10)), ((strOfNums y627) ++ x3_1), e2_, e2_, H', ⟨by have := HK1.out; omega⟩, ⟨hB_⟩⟩
    ·have c3b0 : decide (0 < x0_1) = false := dF_ c3;clear c3;obtain ⟨c8, H⟩ := ifn_ H;have c8b0 := eq_true c8;have c8b1 := dE_ c8;try have c8b2 : (9223372036854775807 < 1 + x3_1.size) = False := eq_false (Nat.not_lt.2 c8)
     obtain rfl := sI_ H;go_wp2
     go_ret
     exact ⟨e1_, hB_⟩
def laws_markAttrS.l0 : Nat → List (S36) → Int → Int → Option (Int × (List (S36)))
 | 0, _, _, _ => none
 | k + 1, x0, x1, x5 => if x5 < (x0.length : Int) then ((laws_markText.f k x1).bind fun t630 => (if 0 ≤ x5 then ((some (x0.set (x5 : Int).toNat (⟨t630, (rd_T36 x0 x5).f1⟩ : S36) : List (S36))).bind fun y631 => ((laws_markText.f k (wrap64 (x1 + 1))).bind fun t632 => (laws_markAttrS.l0 k (y631.set (x5 : Int).toNat (⟨(rd_T36 y631 x5).f0, t632⟩ : S36)) (wrap64 ((wrap64 (x1 + 1)) + 1)) (wrap64 (x5 + 1))))) else (none))) else (some (x1, x0))
def laws_markAttrS.f (k : Nat) (l0 : List (S36)) (a1 : Int) : Option (Int × (List (S36))) := laws_markAttrS.l0 k l0 a1 0
theorem laws_markAttrS.mono_l : ∀ k, (∀ y0 y1 y2, LeO (laws_markAttrS.l0 k y0 y1 y2) (laws_markAttrS.l0 (k + 1) y0 y1 y2))
 | 0 => fun _ _ _ r h => by simp [laws_markAttrS.l0] at h
 | k + 1 => by
  have ih0 := laws_markAttrS.mono_l k
  ·intro y0 y1 y2;unfold laws_markAttrS.l0;with_reducible repeat' first | exact ih0 _ _ _ | exact laws_markText.mono _ _ | apply LeO.refl | apply LeO.none | apply LeO.ite | apply LeO.bind | intro
theorem laws_markAttrS.mono : ∀ a0 a1 k, LeO (laws_markAttrS.f k a0 a1) (laws_markAttrS.f (k + 1) a0 a1) := by
 intro a0 a1 k;have ih0 := laws_markAttrS.mono_l k;unfold laws_markAttrS.f;with_reducible repeat' first | exact ih0 _ _ _ | exact laws_markText.mono _ _ | apply LeO.refl | apply LeO.none | apply LeO.ite | apply LeO.bind | intro
theorem laws_markAttrS.calls (k : Nat) (P0_ : Nat → Prop) (u9000_ : Value) (l0 : List (S36)) (a1 : Int) (r1 : Int) (r2 : List (S36)) (w0 w : World) (hB : Below w0.heap.size w0 w) (ho0 : Kd.R k36 36 w w0.heap.size P0_ u9000_ l0) (h : laws_markAttrS.f k l0 a1 = some (r1, r2)) :
  Calls Tryz.prog 89 #[u9000_, .int .i64 a1] w fun e w' => e = .returned (.int .i64 r1) ∧ Kd.R k36 36 w' w0.heap.size (fun k_ => (P0_ k_ ∨ w.heap.size ≤ k_)) u9000_ r2 ∧ Below w0.heap.size w0 w' ∧ Kept w w' (fun k_ => P0_ k_) := by
 have HO0 := A_ (show Kd.R k36 36 w w0.heap.size (fun k_ => (P0_ k_ ∨ w.heap.size ≤ k_)) u9000_ l0 from Kd.R_mono ho0 (fun k_ hk => (.inl hk)));have HK := A_ (Kept.refl w (fun k_ => P0_ k_));have HW0 := A_ hB.size;have HB := A_ hB;clear hB;have H : (laws_markAttrS.l0 k l0 a1 0) = some (r1, r2) := h;clear h;have H' := A_ H;clear H;go_enter Tryz.func89, Tryz.ntmps89
 go_wp2
 go_loopg [1, 5] k (fun kq v1 v5 w' => ∃ (x0_1 : List (S36)) (x1_1 : Int) (x5_1 : Int), v1 = .int .i64 x1_1 ∧ v5 = .int .i64 x5_1 ∧ As9 (laws_markAttrS.l0 kq x0_1 x1_1 x5_1 = some (r1, r2)) ∧ As9 (kq ≤ k) ∧ As9 (Kd.R k36 36 w' w0.heap.size (fun k_ => (P0_ k_ ∨ w.heap.size ≤ k_)) u9000_ x0_1) ∧ As9 (Kept w w' (fun k_ => P0_ k_)) ∧ As9 (Below w0.heap.size w0 w'))
 case atStart => exact ⟨(l0), (a1), (0), e2_, e2_, H', ⟨Nat.le_refl _⟩, ⟨kQ_ HO0.out⟩, ⟨by repeat (first | (with_reducible first | exact HK.out | apply Kept.alloc | apply Kept.drewN | apply Kept.drew) | exact HK.out)⟩, ⟨hB_⟩⟩
 case round =>
  clear H';try clear p2
  obtain ⟨x0_1, x1_1, x5_1, rfl, rfl, HA, HK1, HO_0, HK, HB⟩ := hrel;cases gk with
  | zero => exact absurd HA.out (by simp [laws_markAttrS.l0])
  | succ k1 =>
   have H := HA.out;clear HA;simp only [laws_markAttrS.l0] at H;rcases ic_ H with ⟨c3, H⟩ | ⟨c3, H⟩
   ·have c3b0 := dE_ c3;clear c3;obtain ⟨t630, A4, H⟩ := ob_ H;obtain ⟨c5, H⟩ := ifn_ H;have c5b0 := dE_ c5;clear c5;obtain ⟨y631, hy631⟩ : ∃ y_ : List (S36), y_ = (x0_1.set (x5_1 : Int).toNat (⟨t630, (rd_T36 x0_1 x5_1).f1⟩ : S36)) := ⟨_, rfl⟩;replace H : ((laws_markText.f k1 (wrap64 (x1_1 + 1))).bind fun t632 => (laws_markAttrS.l0 k1 (y631.set (x5_1 : Int).toNat (⟨(rd_T36 y631 x5_1).f0, t632⟩ : S36)) (wrap64 ((wrap64 (x1_1 + 1)) + 1)) (wrap64 (x5_1 + 1)))) = some (r1, r2) := by first | (rw [hy631]; with_reducible exact H) | (have H2_ := (Option.bind_some _ _).symm.trans H; rw [hy631]; with_reducible exact H2_) | (have H2_ := (Option.bind_some _ _).symm.trans H; with_reducible exact H2_) | with_reducible exact H | (rw [hy631]; exact H) | exact H
    have Ny631 := A_ hy631;clear hy631;obtain ⟨t632, A7, H⟩ := ob_ H;(try dsimp only at H)
    obtain ⟨y633, hy633⟩ : ∃ y_ : List (S36), y_ = (y631.set (x5_1 : Int).toNat (⟨(rd_T36 y631 x5_1).f0, t632⟩ : S36)) := ⟨_, rfl⟩;replace H : (laws_markAttrS.l0 k1 y633 (wrap64 ((wrap64 (x1_1 + 1)) + 1)) (wrap64 (x5_1 + 1))) = some (r1, r2) := by first | (rw [hy633]; with_reducible exact H) | (have H2_ := (Option.bind_some _ _).symm.trans H; rw [hy633]; with_reducible exact H2_) | (have H2_ := (Option.bind_some _ _).symm.trans H; with_reducible exact H2_) | with_reducible exact H | (rw [hy633]; exact H) | exact H
    have Ny633 := A_ hy633;clear hy633;have H' := A_ H;clear H;obtain ⟨Ao9, co9, eo9⟩ := Kd.R_slice HO_0.out;subst eo9;go_wp2_with (first | ((with_reducible refine gC_ 98 ?_); refine gL_ 15 Tryz.func98 #[.int .i64 x1_1] ?_; (with_reducible refine (laws_markText.calls k1 x1_1 t630 _ A4.out).mono ?_); rintro e w10 ⟨rfl, hb⟩; refine ⟨_, rfl, ?_⟩; replace HO_0 := A_ (Kd.R_below (kQ_ HO_0.out) hb); replace HK := A_ (Kept.below (S := (fun k_ => P0_ k_)) (by repeat (first | (with_reducible first | exact HK.out | apply Kept.alloc | apply Kept.drewN | apply Kept.drew) | exact HK.out)) hb); replace HB := bS_ hb; clear hb; have p6 : 0 ≤ (x5_1 : Int) := dT_; have q6 : (x5_1 : Int) < ((x0_1.length : Int) : Int) := dT_; obtain ⟨go6, co6, eo6, gb6, gl6, cl6, HG6⟩ := Kd.R_form HO_0.out om_; (first | cases eo6 | (injection eo6 with ea_ en_ ec_; (first | subst ea_ | (injection ea_ with ea_; subst ea_)); subst ec_; clear en_)); have GB6 := A_ gb6; have GG6 := A_ HG6; clear gb6 gl6 HG6; have HMgo6 := A_ (show (P0_ go6 ∨ w.heap.size ≤ go6) from (HO_0.out.1 _ rfl)); obtain ⟨ce6, hcl6, hM6, hcc6, hfr6⟩ := Kd.R_elem HO_0.out z36 (x5_1 : Int) p6 q6; obtain rfl := k36_openM hM6; have hx6_0 : w10.cell? ⟨go6, (x5_1 : Int).toNat * 2, none⟩ = some (.string ((rd_T36 x0_1 x5_1).f0)) := hcc6 0 _ rfl; have hx6_1 : w10.cell? ⟨go6, (x5_1 : Int).toNat * 2 + 1, none⟩ = some (.string ((rd_T36 x0_1 x5_1).f1)) := hcc6 1 _ rfl; have hf6_0 : w10.frozen? ⟨go6, (x5_1 : Int).toNat * 2, none⟩ = false := hfr6 0; have hf6_1 : w10.frozen? ⟨go6, (x5_1 : Int).toNat * 2 + 1, none⟩ = false := hfr6 1; clear hcl6 hcc6 hfr6 hM6; replace p6 := eq_true p6; replace q6 := eq_true q6; have HX11 := A_ (show Kd.R k36 36 w10 w0.heap.size (fun k_ => (P0_ k_ ∨ w.heap.size ≤ k_)) (.slice (some ⟨go6, 0, none⟩) x0_1.length co9) x0_1 from (kQ_ HO_0.out)); obtain ⟨ce11, hcl11, hM11, hcc11, hfr11⟩ := Kd.R_elem HX11.out z36 (x5_1 : Int) (dT_) (by have h_ : (x5_1 : Int) < ((x0_1.length : Int) : Int) := dT_; first | exact h_ | (have e_ := (Kd.R_reads' HO_0.out).1; omega) | simpa using h_); obtain rfl := k36_openM hM11; have HP11 := Kd.R_seg HX11.out (x5_1 : Int) (dT_) (by have h_ : (x5_1 : Int) < ((x0_1.length : Int) : Int) := dT_; first | exact h_ | (have e_ := (Kd.R_reads' HO_0.out).1; omega) | simpa using h_) (seg := [.string t630]) (j := 0) hcl11 hcc11 (show 1 ≤ 2 from by decide) (x' := (⟨t630, (rd_T36 x0_1 x5_1).f1⟩ : S36)) (k36_mkM _ _ _ (⟨t630, (rd_T36 x0_1 x5_1).f1⟩ : S36) ) (fun _ hk => hk); have hx11_0 := hcc11 0 _ rfl; (try simp only [show (k36).sz = 2 from rfl, Nat.mul_one, Nat.add_zero] at hx11_0); have hf11_0 := hfr11 0; (try simp only [show (k36).sz = 2 from rfl, Nat.mul_one, Nat.add_zero] at hf11_0); clear hcl11 hcc11 hfr11 hM11) | ((with_reducible refine gate_store (t := 9) (p := 17) rfl ?_); refine store_event (t := 9) (p := 17) (v := ?vo_w12) (w1 := (w10.setCell ⟨go6, (x5_1 : Int).toNat * 2, none⟩ (.string t630))) ?hg ?ho ?hn ?hr ?_; (case ho => rfl); (case hg => rfl); (case hn => rfl); (case hr => first | (go_simp; done) | (go_simp; rfl)); intro w12 hw; have hg : w10.grownBy w12 (some go6) := (by rw [hw]; exact HP11.2); have hp_ : Kd.R k36 36 w12 w0.heap.size (fun k_ => (P0_ k_ ∨ w.heap.size ≤ k_)) (.slice (some ⟨go6, 0, none⟩) x0_1.length co9) y631 := (by rw [hw, Ny631.out]; exact HP11.1); clear HP11; replace HB := A_ ((by rw [hw]; exact below_set (HB.out) GB6.out : Below w0.heap.size w0 w12)); replace HK := A_ (Kept.of_grown (S := (fun k_ => P0_ k_)) hg (by repeat (first | (with_reducible first | exact HK.out | apply Kept.alloc | apply Kept.drewN | apply Kept.drew) | exact HK.out)) (fun k_ e_ => (HO_0.out.1 k_ e_))); replace HO_0 := A_ (hp_); clear hg hw hp_) | ((with_reducible refine gC_ 98 ?_); refine gL_ 23 Tryz.func98 #[.int .i64 (wrap64 (x1_1 + 1))] ?_; (with_reducible refine (laws_markText.calls k1 (wrap64 (x1_1 + 1)) t632 _ A7.out).mono ?_); rintro e w13 ⟨rfl, hb⟩; refine ⟨_, rfl, ?_⟩; replace HO_0 := A_ (Kd.R_below (kQ_ HO_0.out) hb); replace HK := A_ (Kept.below (S := (fun k_ => P0_ k_)) (by repeat (first | (with_reducible first | exact HK.out | apply Kept.alloc | apply Kept.drewN | apply Kept.drew) | exact HK.out)) hb); replace HB := bS_ hb; clear hb; have p8 : 0 ≤ (x5_1 : Int) := dT_; have q8 : (x5_1 : Int) < ((x0_1.length : Int) : Int) := dT_; obtain ⟨ce8, hcl8, hM8, hcc8, hfr8⟩ := Kd.R_elem HO_0.out z36 (x5_1 : Int) p8 q8; obtain rfl := k36_openM hM8; have hx8_0 : w13.cell? ⟨go6, (x5_1 : Int).toNat * 2, none⟩ = some (.string ((rd_T36 y631 x5_1).f0)) := hcc8 0 _ rfl; have hx8_1 : w13.cell? ⟨go6, (x5_1 : Int).toNat * 2 + 1, none⟩ = some (.string ((rd_T36 y631 x5_1).f1)) := hcc8 1 _ rfl; have hf8_0 : w13.frozen? ⟨go6, (x5_1 : Int).toNat * 2, none⟩ = false := hfr8 0; have hf8_1 : w13.frozen? ⟨go6, (x5_1 : Int).toNat * 2 + 1, none⟩ = false := hfr8 1; clear hcl8 hcc8 hfr8 hM8; replace p8 := eq_true p8; replace q8 := eq_true q8; have HX14 := A_ (show Kd.R k36 36 w13 w0.heap.size (fun k_ => (P0_ k_ ∨ w.heap.size ≤ k_)) (.slice (some ⟨go6, 0, none⟩) x0_1.length co9) y631 from (kQ_ HO_0.out)); obtain ⟨ce14, hcl14, hM14, hcc14, hfr14⟩ := Kd.R_elem HX14.out z36 (x5_1 : Int) (dT_) (by have h_ : (x5_1 : Int) < ((x0_1.length : Int) : Int) := dT_; first | exact h_ | (have e_ := (Kd.R_reads' HO_0.out).1; omega) | simpa using h_); obtain rfl := k36_openM hM14; have HP14 := Kd.R_seg HX14.out (x5_1 : Int) (dT_) (by have h_ : (x5_1 : Int) < ((x0_1.length : Int) : Int) := dT_; first | exact h_ | (have e_ := (Kd.R_reads' HO_0.out).1; omega) | simpa using h_) (seg := [.string t632]) (j := 1) hcl14 hcc14 (show 2 ≤ 2 from by decide) (x' := (⟨(rd_T36 y631 x5_1).f0, t632⟩ : S36)) (k36_mkM _ _ _ (⟨(rd_T36 y631 x5_1).f0, t632⟩ : S36) ) (fun _ hk => hk); have hx14_1 := hcc14 1 _ rfl; (try simp only [show (k36).sz = 2 from rfl, Nat.mul_one, Nat.add_zero] at hx14_1); have hf14_1 := hfr14 1; (try simp only [show (k36).sz = 2 from rfl, Nat.mul_one, Nat.add_zero] at hf14_1); clear hcl14 hcc14 hfr14 hM14) | ((with_reducible refine gate_store (t := 9) (p := 25) rfl ?_); refine store_event (t := 9) (p := 25) (v := ?vo_w15) (w1 := (w13.setCell ⟨go6, (x5_1 : Int).toNat * 2 + 1, none⟩ (.string t632))) ?hg ?ho ?hn ?hr ?_; (case ho => rfl); (case hg => rfl); (case hn => rfl); (case hr => first | (go_simp; done) | (go_simp; rfl)); intro w15 hw; have hg : w13.grownBy w15 (some go6) := (by rw [hw]; exact HP14.2); have hp_ : Kd.R k36 36 w15 w0.heap.size (fun k_ => (P0_ k_ ∨ w.heap.size ≤ k_)) (.slice (some ⟨go6, 0, none⟩) x0_1.length co9) y633 := (by rw [hw, Ny633.out]; exact HP14.1); clear HP14; replace HB := A_ ((by rw [hw]; exact below_set (HB.out) GB6.out : Below w0.heap.size w0 w15)); replace HK := A_ (Kept.of_grown (S := (fun k_ => P0_ k_)) hg (by repeat (first | (with_reducible first | exact HK.out | apply Kept.alloc | apply Kept.drewN | apply Kept.drew) | exact HK.out)) (fun k_ e_ => (HO_0.out.1 k_ e_))); replace HO_0 := A_ (hp_); clear hg hw hp_))
    go_roundg k1
    case measure => have := HK1.out; omega
    case rel => exact ⟨(y633), (wrap64 ((wrap64 (x1_1 + 1)) + 1)), (wrap64 (x5_1 + 1)), e2_, e2_, H', ⟨by have := HK1.out; omega⟩, ⟨kQ_ HO_0.out⟩, ⟨by repeat (first | (with_reducible first | exact HK.out | apply Kept.alloc | apply Kept.drewN | apply Kept.drew) | exact HK.out)⟩, ⟨hB_⟩⟩
   ·have c3b0 := dF_ c3;clear c3;obtain ⟨rfl, rfl⟩ := pi_ H;obtain ⟨Ao16, co16, eo16⟩ := Kd.R_slice HO_0.out;subst eo16;go_wp2
    go_ret
    exact ⟨e1_, kQ_ HO_0.out, hB_, by repeat (first | (with_reducible first | exact HK.out | apply Kept.alloc | apply Kept.drewN | apply Kept.drew) | exact HK.out)⟩
theorem R36_ok {w : World} {base : Nat} {ok ok' : Nat → Prop} {v : Value} {xs : List S36} (h : k36.R 36 w base ok v xs) (hok : ∀ k, v.ownBlock = some k → ok' k) : k36.R 36 w base ok' v xs := by
 obtain ⟨h0, inner, ho, h1, h2⟩ := h;refine ⟨hok, inner, ho, h1, fun j p hp => ?_⟩;have := h2 j p hp;obtain e := k36_openM this;rw [e];exact k36_mkM _ _ _ p
theorem R_each2 {w : World} {base : Nat} {ok ok' : Nat → Prop} {v : Value} {xs : List G43} (h : kG.R 43 w base ok v xs) (h0 : ∀ k, v.ownBlock = some k → ok' k) (hm : ∀ x ∈ xs, ∀ cs, kG.M w base (fun k => ok k ∧ some k ≠ v.ownBlock) x cs → kG.M w base (fun k => ok' k ∧ some k ≠ v.ownBlock) x cs) : kG.R 43 w base ok' v xs := by
 obtain ⟨g0, inner, ho, h1, h2⟩ := h;exact ⟨h0, inner, ho, h1, fun j p hp => hm p (List.mem_of_getElem? hp) _ (h2 j p hp)⟩
mutual
/-- an element's rows are those that its ghost tells -/
theorem M_tb : ∀ (x : G43) {w : World} {base : Nat} {ok ok' : Nat → Prop} {cs : List Value}, kG.M w base ok x cs → (∀ b ∈ tb x, ok b → ok' b) → kG.M w base ok' x cs
 | ⟨a, b, c, d, f, ks, b3, b5⟩, w, base, ok, ok', cs, h, hok => by
  obtain ⟨v3, v5, rfl, g3, g5, h3, h5⟩ := kG_openM h;rw [tb] at hok;refine kG_mkM w base ok' ⟨a, b, c, d, f, ks, b3, b5⟩ (R36_ok g3 (fun k hk => hok k (List.mem_append_left _ (Option.mem_toList.2 ((show v3 = b3 from h3) ▸ hk))) (g3.1 k hk))) (R_each2 g5 (fun k hk => hok k (List.mem_append_right _ (List.mem_append_left _ (Option.mem_toList.2 ((show v5 = b5 from h5) ▸ hk)))) (g5.1 k hk)) (Rp_tb ks (fun k hk hk2 => ⟨hok k (List.mem_append_right _ (List.mem_append_right _ hk)) hk2.1, hk2.2⟩))) h3 h5
theorem Rp_tb : ∀ (xs : List G43) {w : World} {base : Nat} {ok ok' : Nat → Prop}, (∀ b ∈ tbL xs, ok b → ok' b) → ∀ x ∈ xs, ∀ cs, kG.M w base ok x cs → kG.M w base ok' x cs
 | [], _, _, _, _, _, x, hx, _, _ => by cases hx
 | y :: ys, w, base, ok, ok', hok, x, hx, cs, h => by
  rw [tbL] at hok;rcases List.mem_cons.1 hx with e | hx
  ·rw [e] at h ⊢;exact M_tb y h (fun b hb => hok b (List.mem_append_left _ hb))
  ·exact Rp_tb ys (fun b hb => hok b (List.mem_append_right _ hb)) x hx cs h
end
theorem R_tb (xs : List G43) {w : World} {base : Nat} {ok ok' : Nat → Prop} {v : Value} (h : kG.R 43 w base ok v xs) (h0 : ∀ k, v.ownBlock = some k → ok' k) (hok : ∀ b ∈ tbL xs, ok b → ok' b) : kG.R 43 w base ok' v xs :=
 R_each2 h h0 (Rp_tb xs (fun b hb hk => ⟨hok b hb hk.1, hk.2⟩))
theorem tb_mem : ∀ (xs : List G43) (x : G43), x ∈ xs → ∀ b ∈ tb x, b ∈ tbL xs
 | [], x, hx, b, hb => by cases hx
 | y :: ys, x, hx, b, hb => by
  rw [tbL];rcases List.mem_cons.1 hx with e | hx
  ·rw [e] at hb; exact List.mem_append_left _ hb
  ·exact List.mem_append_right _ (tb_mem ys x hx b hb)
theorem tb_apart : ∀ (xs : List G43), (tbL xs).Nodup → ∀ (i j : Nat) (x y : G43), xs[i]? = some x → xs[j]? = some y → i ≠ j → ∀ b ∈ tb x, b ∉ tb y
 | [], _, i, j, x, y, hx, _, _ => by simp at hx
 | z :: zs, h, i, j, x, y, hx, hy, hij => by
  rw [tbL] at h;obtain ⟨h1, h2, h3⟩ := List.nodup_append.1 h;intro b hb hb2;cases i with
  | zero =>
   cases j with
   | zero => exact hij rfl
   | succ j =>
    rw [List.getElem?_cons_zero] at hx;rw [List.getElem?_cons_succ] at hy;obtain rfl := sI_ hx;exact h3 b hb b (tb_mem zs y (List.mem_of_getElem? hy) b hb2) rfl
  | succ i =>
   rw [List.getElem?_cons_succ] at hx;cases j with
   | zero =>
    rw [List.getElem?_cons_zero] at hy;obtain rfl := sI_ hy;exact h3 b hb2 b (tb_mem zs x (List.mem_of_getElem? hx) b hb) rfl
   | succ j =>
    rw [List.getElem?_cons_succ] at hy;exact tb_apart zs h2 i j x y hx hy (fun e => hij (by rw [e])) b hb hb2
theorem row_sub {w w' : World} {base : Nat} {ok : Nat → Prop} {v : Value} {xs : List G43} (h : kG.R 43 w base ok v xs) (hn : (tbL xs).Nodup) {j : Nat} {x x' : G43} (hx : xs[j]? = some x) (hv : ∀ k, v.ownBlock = some k → w'.heap[k]? = w.heap[k]?)
  (hk : ∀ k, k ∉ tb x → k ∈ tbL xs → w'.heap[k]? = w.heap[k]?) (hm : ∀ cs, kG.M w base (fun k => ok k ∧ some k ≠ v.ownBlock) x cs → kG.M w' base (fun k => ok k ∧ some k ≠ v.ownBlock) x' cs) : kG.R 43 w' base ok v (xs.set j x') := by
 obtain ⟨h0, inner, ho, h1, h2⟩ := h;refine ⟨h0, inner, ?_, ?_, ?_⟩
 ·rw [List.length_set]; exact own_move ho hv
 ·rw [List.length_set]; exact h1
 ·intro i p hp;rw [List.getElem?_set] at hp;by_cases hij : j = i
  ·rw [if_pos hij] at hp;split at hp
   ·obtain rfl := sI_ hp;rw [← hij];exact hm _ (h2 j x hx)
   ·cases hp
  ·rw [if_neg hij] at hp;have h3 := M_tb p (h2 i p hp) (ok' := fun k => (ok k ∧ some k ≠ v.ownBlock) ∧ k ∈ tb p) (fun b hb hk => ⟨hk, hb⟩);refine kG.M_mono (fun k hk => hk.1) (kG.M_move (fun k hk2 => hk k (fun hb => tb_apart xs hn j i x p hx hp hij k hb hk2.2) (tb_mem xs p (List.mem_of_getElem? hp) k hk2.2)) h3)
mutual
def mkE (k : Nat) : G43 → Int → Option (Int × G43)
 | ⟨_, _, _, at_, _, ks, b3, b5⟩, n => (laws_markText.f k (wrap64 (wrap64 (n + 1) + 1))).bind fun t2 => (laws_markAttrS.f k at_ (wrap64 (wrap64 (wrap64 (n + 1) + 1) + 1))).bind fun q => (laws_markText.f k q.1).bind fun t4 => (mkL k ks (wrap64 (q.1 + 1))).bind fun r => some (r.1, ⟨n, wrap64 (n + 1), t2, q.2, t4, r.2, b3, b5⟩)
def mkL (k : Nat) : List G43 → Int → Option (Int × List G43)
 | [], n => some (n, [])
 | x :: xs, n => (mkE k x n).bind fun p => (mkL k xs p.1).bind fun q => some (q.1, p.2 :: q.2)
end
mutual
theorem mkE_tb (k : Nat) : ∀ (x : G43) (n : Int) (r : Int × G43), mkE k x n = some r → tb r.2 = tb x
 | ⟨a, b, c, d, f, ks, b3, b5⟩, n, r, h => by
  rw [mkE] at h;obtain ⟨t2, _, h⟩ := oB_ h;obtain ⟨q, _, h⟩ := oB_ h;obtain ⟨t4, _, h⟩ := oB_ h;obtain ⟨s, hs, h⟩ := oB_ h;obtain rfl := sI_ h;rw [tb, tb, (mkL_tb k ks _ s hs).1]
theorem mkL_tb (k : Nat) : ∀ (xs : List G43) (n : Int) (r : Int × List G43), mkL k xs n = some r → tbL r.2 = tbL xs ∧ r.2.length = xs.length
 | [], n, r, h => by
  rw [mkL] at h;obtain rfl := sI_ h;exact ⟨rfl, rfl⟩
 | x :: xs, n, r, h => by
  rw [mkL] at h;obtain ⟨p, hp, h⟩ := oB_ h;obtain ⟨q, hq, h⟩ := oB_ h;obtain rfl := sI_ h;obtain ⟨h1, h2⟩ := mkL_tb k xs _ q hq;rw [tbL, tbL, mkE_tb k x n p hp, h1, List.length_cons, List.length_cons, h2];exact ⟨rfl, rfl⟩
end
structure Mk (w0 w W : World) (g n c : Nat) (P S : Nat → Prop) (ys : List G43) : Prop where
 rr : kG.R 43 W w0.heap.size P (.slice (some ⟨g, 0, none⟩) n c) ys
 kp : Kept w W S
 bl : Below w0.heap.size w0 W
 gs : S g
 g0 : w0.heap.size ≤ g
theorem Mk.below {w0 w W W' : World} {g n c : Nat} {P S : Nat → Prop} {ys : List G43} (h : Mk w0 w W g n c P S ys) (hb : Below W.heap.size W W') : Mk w0 w W' g n c P S ys :=
 ⟨Kd.R_below h.rr hb, h.kp.below hb, below_step h.bl hb, h.gs, h.g0⟩
theorem set_mid {α : Type} (a : List α) (x y : α) (b : List α) : (a ++ x :: b).set a.length y = a ++ y :: b := by simp [List.set_append]
theorem getD_mid {α : Type} (a : List α) (x z : α) (b : List α) : (a ++ x :: b).getD a.length z = x := by simp [List.getD_eq_getElem?_getD]
theorem Mk.lt {w0 w W : World} {g n c : Nat} {P S : Nat → Prop} {a b : List G43} {x : G43} (h : Mk w0 w W g n c P S (a ++ x :: b)) : a.length < n := by
 have := (Kd.R_reads' h.rr).1;rw [List.length_append, List.length_cons] at this;omega
theorem Mk.cells {w0 w W : World} {g n c : Nat} {P S : Nat → Prop} {a b : List G43} {x : G43} (h : Mk w0 w W g n c P S (a ++ x :: b)) {j : Int} (hj : j = (a.length : Int)) :
  k36.R 36 W w0.heap.size (fun k => P k ∧ k ≠ g) x.b3 x.f3 ∧ kG.R 43 W w0.heap.size (fun k => P k ∧ k ≠ g) x.b5 x.f5 ∧
  W.cell? ⟨g, j.toNat * 6, none⟩ = some (.int .i64 x.f0) ∧ W.cell? ⟨g, j.toNat * 6 + 1, none⟩ = some (.int .i64 x.f1) ∧ W.cell? ⟨g, j.toNat * 6 + 2, none⟩ = some (.string x.f2) ∧ W.cell? ⟨g, j.toNat * 6 + 3, none⟩ = some x.b3 ∧ W.cell? ⟨g, j.toNat * 6 + 4, none⟩ = some (.string x.f4) ∧ W.cell? ⟨g, j.toNat * 6 + 5, none⟩ = some x.b5 ∧
  W.frozen? ⟨g, j.toNat * 6, none⟩ = false ∧ W.frozen? ⟨g, j.toNat * 6 + 1, none⟩ = false ∧ W.frozen? ⟨g, j.toNat * 6 + 2, none⟩ = false ∧ W.frozen? ⟨g, j.toNat * 6 + 4, none⟩ = false := by
 have hlt := h.lt;obtain ⟨cs, _, hM, hcc, hfr⟩ := Kd.R_elem h.rr zG j om_ om_;have hjn : j.toNat = a.length := om_;rw [hjn, getD_mid] at hM;obtain ⟨v3, v5, rfl, g3, g5, rfl, rfl⟩ := kG_openM hM;exact ⟨g3, g5, hcc 0 _ rfl, hcc 1 _ rfl, hcc 2 _ rfl, hcc 3 _ rfl, hcc 4 _ rfl, hcc 5 _ rfl, hfr 0, hfr 1, hfr 2, hfr 4⟩
theorem Mk.seg {w0 w W : World} {g n c : Nat} {P S : Nat → Prop} {a b : List G43} {x x' : G43} (h : Mk w0 w W g n c P S (a ++ x :: b)) {j : Int} (hj : j = (a.length : Int)) (i : Nat) (hi : i < 6) (u : Value) (h3 : x'.b3 = x.b3) (h5 : x'.b5 = x.b5) (f3 : x'.f3 = x.f3) (f5 : x'.f5 = x.f5)
  (hc : [.int .i64 x'.f0, .int .i64 x'.f1, .string x'.f2, x.b3, .string x'.f4, x.b5] = ([.int .i64 x.f0, .int .i64 x.f1, .string x.f2, x.b3, .string x.f4, x.b5] : List Value).take i ++ [u] ++ ([.int .i64 x.f0, .int .i64 x.f1, .string x.f2, x.b3, .string x.f4, x.b5] : List Value).drop (i + 1)) : Mk w0 w (W.setCell ⟨g, j.toNat * 6 + i, none⟩ u) g n c P S (a ++ x' :: b) := by
 have hlt := h.lt;obtain ⟨cs, hcl, hM, hcc, hfr⟩ := Kd.R_elem h.rr zG j om_ om_;have hjn : j.toNat = a.length := om_;rw [hjn, getD_mid] at hM;obtain ⟨v3, v5, rfl, g3, g5, rfl, rfl⟩ := kG_openM hM;have hM' := kG_mkM W w0.heap.size (fun k => P k ∧ k ≠ g) x' (f3.symm ▸ g3) (f5.symm ▸ g5) h3.symm h5.symm;rw [hc] at hM';obtain ⟨hR, hg⟩ := Kd.R_seg h.rr j om_ om_ hcl hcc (j := i) (seg := [u]) (by show i + 1 ≤ 6; omega) (x' := x') hM' (fun k hk => hk);rw [hjn, set_mid] at hR;rw [← hjn] at hR;exact ⟨hR, h.kp.setCell (p := ⟨g, j.toNat * 6 + i, none⟩) (.inl h.gs) u, below_set h.bl h.g0, h.gs, h.g0⟩
theorem Mk.st0 {w0 w W : World} {g n c : Nat} {P S : Nat → Prop} {a b : List G43} {x : G43} (h : Mk w0 w W g n c P S (a ++ x :: b)) {j : Int} (hj : j = (a.length : Int)) (u : Int) : Mk w0 w (W.setCell ⟨g, j.toNat * 6, none⟩ (.int .i64 u)) g n c P S (a ++ ⟨u, x.f1, x.f2, x.f3, x.f4, x.f5, x.b3, x.b5⟩ :: b) := h.seg hj 0 de_ (.int .i64 u) rfl rfl rfl rfl rfl
theorem Mk.st1 {w0 w W : World} {g n c : Nat} {P S : Nat → Prop} {a b : List G43} {x : G43} (h : Mk w0 w W g n c P S (a ++ x :: b)) {j : Int} (hj : j = (a.length : Int)) (u : Int) : Mk w0 w (W.setCell ⟨g, j.toNat * 6 + 1, none⟩ (.int .i64 u)) g n c P S (a ++ ⟨x.f0, u, x.f2, x.f3, x.f4, x.f5, x.b3, x.b5⟩ :: b) := h.seg hj 1 de_ (.int .i64 u) rfl rfl rfl rfl rfl
theorem Mk.st2 {w0 w W : World} {g n c : Nat} {P S : Nat → Prop} {a b : List G43} {x : G43} (h : Mk w0 w W g n c P S (a ++ x :: b)) {j : Int} (hj : j = (a.length : Int)) (u : BA) : Mk w0 w (W.setCell ⟨g, j.toNat * 6 + 2, none⟩ (.string u)) g n c P S (a ++ ⟨x.f0, x.f1, u, x.f3, x.f4, x.f5, x.b3, x.b5⟩ :: b) := h.seg hj 2 de_ (.string u) rfl rfl rfl rfl rfl
theorem Mk.st4 {w0 w W : World} {g n c : Nat} {P S : Nat → Prop} {a b : List G43} {x : G43} (h : Mk w0 w W g n c P S (a ++ x :: b)) {j : Int} (hj : j = (a.length : Int)) (u : BA) : Mk w0 w (W.setCell ⟨g, j.toNat * 6 + 4, none⟩ (.string u)) g n c P S (a ++ ⟨x.f0, x.f1, x.f2, x.f3, u, x.f5, x.b3, x.b5⟩ :: b) := h.seg hj 4 de_ (.string u) rfl rfl rfl rfl rfl
theorem Mk.sub {w0 w W W' : World} {g n c : Nat} {P S D : Nat → Prop} {a b : List G43} {x x' : G43} (h : Mk w0 w W g n c P S (a ++ x :: b)) (hn : (tbL (a ++ x :: b)).Nodup) (hb : Below w0.heap.size w0 W') (hk : Kept W W' D) (hD : ∀ k, D k → k ∈ tb x) (hS : ∀ k ∈ tb x, S k) (hm : ∀ cs, kG.M W w0.heap.size (fun k => P k ∧ some k ≠ (Value.slice (some ⟨g, 0, none⟩) n c).ownBlock) x cs → kG.M W' w0.heap.size (fun k => P k ∧ some k ≠ (Value.slice (some ⟨g, 0, none⟩) n c).ownBlock) x' cs) : Mk w0 w W' g n c P S (a ++ x' :: b) := by
 have hin := tbL_ok (a ++ x :: b) (R_each (Kd.R_bound h.rr));have hx : x ∈ a ++ x :: b := by simp
 have hg : ∀ k, (Value.slice (some ⟨g, 0, none⟩) n c).ownBlock = some k → W'.heap[k]? = W.heap[k]? := fun k e => hk.2 k (Kd.R_lt h.rr k e) (fun hd => (hin k (tb_mem _ x hx k (hD k hd))).2 e.symm)
 have hR := row_sub h.rr hn (j := a.length) (x := x) (x' := x') si_ hg (fun k hk1 hk2 => hk.2 k (hin k hk2).1.2.2.1 (fun hd => hk1 (hD k hd))) hm;rw [set_mid] at hR;exact ⟨hR, h.kp.then_ hk (fun k hd => .inl (hS k (hD k hd))), hb, h.gs, h.g0⟩
theorem nd_mem : ∀ (xs : List G43) (x : G43), x ∈ xs → (tbL xs).Nodup → (tb x).Nodup
 | [], x, hx, _ => by cases hx
 | y :: ys, x, hx, h => by
  rw [tbL] at h;obtain ⟨h1, h2, _⟩ := List.nodup_append.1 h;rcases List.mem_cons.1 hx with e | hx
  ·rw [e]; exact h1
  ·exact nd_mem ys x hx h2
theorem tb_eq (x : G43) : tb x = x.b3.ownBlock.toList ++ (x.b5.ownBlock.toList ++ tbL x.f5) := by
 obtain ⟨f0, f1, f2, f3, f4, f5, b3, b5⟩ := x;rw [tb]
theorem Mk.attrs {w0 w W W' : World} {g n c : Nat} {P S : Nat → Prop} {a b : List G43} {x : G43} (h : Mk w0 w W g n c P S (a ++ x :: b)) (hn : (tbL (a ++ x :: b)).Nodup) (hb : Below w0.heap.size w0 W') (hk : Kept W W' (fun k => x.b3.ownBlock = some k)) (hS : ∀ k ∈ tb x, S k) {Q : Nat → Prop} {at_ : List S36} (hr : k36.R 36 W' w0.heap.size Q x.b3 at_) : Mk w0 w W' g n c P S (a ++ ⟨x.f0, x.f1, x.f2, at_, x.f4, x.f5, x.b3, x.b5⟩ :: b) := by
 have hx : x ∈ a ++ x :: b := by simp
 have hnd := nd_mem _ x hx hn;rw [tb_eq] at hnd;obtain ⟨_, _, hne⟩ := List.nodup_append.1 hnd;refine h.sub hn hb hk (fun k e => by rw [tb_eq]; exact List.mem_append_left _ (Option.mem_toList.2 e)) hS (fun cs hm => ?_);obtain ⟨v3, v5, rfl, g3, g5, rfl, rfl⟩ := kG_openM hm;have g5' := R_tb x.f5 g5 (ok' := fun k => (P k ∧ some k ≠ (Value.slice (some ⟨g, 0, none⟩) n c).ownBlock) ∧ ¬ x.b3.ownBlock = some k)
  (fun k e => ⟨g5.1 k e, fun e3 => hne k (Option.mem_toList.2 e3) k (List.mem_append_left _ (Option.mem_toList.2 e)) rfl⟩)
  (fun k hk ho => ⟨ho, fun e3 => hne k (Option.mem_toList.2 e3) k (List.mem_append_right _ hk) rfl⟩)
 exact kG_mkM W' _ _ ⟨x.f0, x.f1, x.f2, at_, x.f4, x.f5, x.b3, x.b5⟩ (R36_ok hr g3.1) (Kd.R_mono (Kd.R_kept g5' hk (fun k ho => ho.2)) (fun k ho => ho.1)) rfl rfl
theorem Mk.kids {w0 w W W' : World} {g n c : Nat} {P S : Nat → Prop} {a b : List G43} {x : G43} (h : Mk w0 w W g n c P S (a ++ x :: b)) (hn : (tbL (a ++ x :: b)).Nodup) (hb : Below w0.heap.size w0 W') (hk : Kept W W' (fun k => x.b5.ownBlock = some k ∨ k ∈ tbL x.f5)) (hS : ∀ k ∈ tb x, S k) {Q : Nat → Prop} {ks : List G43} (ht : tbL ks = tbL x.f5) (hr : kG.R 43 W' w0.heap.size Q x.b5 ks) : Mk w0 w W' g n c P S (a ++ ⟨x.f0, x.f1, x.f2, x.f3, x.f4, ks, x.b3, x.b5⟩ :: b) := by
 have hx : x ∈ a ++ x :: b := by simp
 have hnd := nd_mem _ x hx hn;rw [tb_eq] at hnd;obtain ⟨_, _, hne⟩ := List.nodup_append.1 hnd;refine h.sub hn hb hk (fun k e => by
  rw [tb_eq];rcases e with e | e
  ·exact List.mem_append_right _ (List.mem_append_left _ (Option.mem_toList.2 e))
  ·exact List.mem_append_right _ (List.mem_append_right _ e)) hS (fun cs hm => ?_)
 obtain ⟨v3, v5, rfl, g3, g5, rfl, rfl⟩ := kG_openM hm;have h5 := tbL_ok x.f5 (R_each g5);have g3' := R36_ok g3 (ok' := fun k => (P k ∧ some k ≠ (Value.slice (some ⟨g, 0, none⟩) n c).ownBlock) ∧ ¬ (x.b5.ownBlock = some k ∨ k ∈ tbL x.f5)) (fun k e => ⟨g3.1 k e, fun e5 => by
  rcases e5 with e5 | e5
  ·exact hne k (Option.mem_toList.2 e) k (List.mem_append_left _ (Option.mem_toList.2 e5)) rfl
  ·exact hne k (Option.mem_toList.2 e) k (List.mem_append_right _ e5) rfl⟩)
 exact kG_mkM W' _ _ ⟨x.f0, x.f1, x.f2, x.f3, x.f4, ks, x.b3, x.b5⟩ (Kd.R_mono (Kd.R_kept g3' hk (fun k ho => ho.2)) (fun k ho => ho.1)) (R_tb ks hr g5.1 (fun k hk2 _ => (h5 k (ht ▸ hk2)).1)) rfl rfl
theorem tb_same (x y : G43) (h3 : y.b3 = x.b3) (h5 : y.b5 = x.b5) (f5 : y.f5 = x.f5) : tb y = tb x := by rw [tb_eq, tb_eq, h3, h5, f5]
theorem tbL_mid (a b : List G43) (x : G43) : tbL (a ++ x :: b) = tbL a ++ (tb x ++ tbL b) := by rw [tbL_append, tbL]
theorem markElS_G : ∀ (m k : Nat) (xs : List G43) (n r1 : Int) (r2 : List G43) (P : Nat → Prop) (v : Value) (w0 w : World), SizeOf.sizeOf xs < m → Below w0.heap.size w0 w → kG.R 43 w w0.heap.size P v xs → (tbL xs).Nodup → mkL k xs n = some (r1, r2) →
  Calls Tryz.prog 41 #[v, .int .i64 n] w fun e w' => e = .returned (.int .i64 r1) ∧ kG.R 43 w' w0.heap.size P v r2 ∧ Below w0.heap.size w0 w' ∧ Kept w w' (fun b => v.ownBlock = some b ∨ b ∈ tbL xs) := by
 intro m;induction m with
 | zero => intro k xs n r1 r2 P v w0 w hm; omega
 | succ m ih =>
 intro k xs n r1 r2 P v w0 w hm hB hR hn h;obtain ⟨A0, c0, rfl⟩ := Kd.R_slice hR;have hml : xs.length ≤ 9223372036854775807 := by
  obtain ⟨inner, ho⟩ := Kd.R_own hR;exact (by have := (Kd.C_max (Kd.R_reads' hR).2.2); omega)
 have HML := A_ hml;have HND := A_ hn;have HSZ := A_ hm;have H := A_ h;have HR := A_ hR;have HB := A_ hB;have HK := A_ (Kept.refl w (fun b => (Value.slice A0 xs.length c0).ownBlock = some b ∨ b ∈ tbL xs));clear hm hB hR hn h hml;go_enter Tryz.func41, Tryz.ntmps41
 go_wp2
 go_loopg [1, 5] xs.length (fun kq v1 v5 wr => ∃ (done rest : List G43) (nj j : Int) (R : List G43), v1 = .int .i64 nj ∧ v5 = .int .i64 j ∧ As9 (kq = rest.length) ∧ As9 (j = (done.length : Int)) ∧ As9 (mkL k rest nj = some (r1, R)) ∧ As9 (r2 = done ++ R) ∧ As9 (tbL (done ++ rest) = tbL xs) ∧ As9 (done.length + rest.length = xs.length) ∧ As9 (SizeOf.sizeOf rest ≤ SizeOf.sizeOf xs) ∧ As9 (kG.R 43 wr w0.heap.size P (.slice A0 xs.length c0) (done ++ rest)) ∧ As9 (Kept w wr (fun b => (Value.slice A0 xs.length c0).ownBlock = some b ∨ b ∈ tbL xs)) ∧ As9 (Below w0.heap.size w0 wr))
 case atStart => exact ⟨[], xs, n, 0, r2, rfl, rfl, ⟨rfl⟩, ⟨rfl⟩, H, ⟨rfl⟩, ⟨rfl⟩, ⟨by simp⟩, ⟨Nat.le_refl _⟩, HR, HK, HB⟩
 case round =>
  clear H HR HK HB;obtain ⟨done, rest, nj, j, R, rfl, rfl, HEQ, HJ, HM, HR2, HT, HLN, HSR, HR, HK, HB⟩ := hrel;cases rest with
  | nil =>
   have hlt : ¬ (j < (xs.length : Int)) := by
    have h1 := HJ.out;have h2 := HLN.out;rw [List.length_nil] at h2;omega
   have q7 := eq_false hlt;have h := HM.out;rw [mkL] at h;obtain ⟨rfl, rfl⟩ := Prod.mk.inj (sI_ h);clear h HM;go_wp2
   go_ret
   exact ⟨rfl, HR2.out ▸ HR.out, HB.out, HK.out⟩
  | cons x rest =>
   have hlt : j < (xs.length : Int) := by
    have h1 := HJ.out;have h2 := HLN.out;rw [List.length_cons] at h2;omega
   have q7 := eq_true hlt;have p7 := eq_true (show 0 ≤ j by have := HJ.out; omega);have hwr : wrap64 (j + 1) = j + 1 := by have := HML.out; have := HJ.out; unfold wrap64; omega
   have h := HM.out;rw [mkL] at h;obtain ⟨⟨n5, x5⟩, hx5, h⟩ := oB_ h;obtain ⟨⟨n6, R6⟩, hR6, h⟩ := oB_ h;obtain ⟨e1, rfl⟩ := Prod.mk.inj (sI_ h);dsimp only at hR6 e1;have HR6 := A_ (e1 ▸ hR6);have hxs := tb_eq x;obtain ⟨f0, f1, f2, f3, f4, f5, b3, b5⟩ := x;rw [mkE] at hx5;obtain ⟨t2, h2, hx5⟩ := oB_ hx5;obtain ⟨⟨n3, at_⟩, h3, hx5⟩ := oB_ hx5;obtain ⟨t4, h4, hx5⟩ := oB_ hx5;obtain ⟨⟨n4, ks⟩, h5, hx5⟩ := oB_ hx5;obtain ⟨rfl, rfl⟩ := Prod.mk.inj (sI_ hx5);dsimp only at h4 h5;have A2 := A_ h2;have A3 := A_ h3;have A4 := A_ h4;have A5 := A_ h5;have HS5 : As9 (SizeOf.sizeOf f5 < m) := ⟨by have h1 := HSZ.out; have h2 := HSR.out; simp at h2; omega⟩;obtain ⟨g, cap, hv, hg0, -, -⟩ := Kd.R_form HR.out (by rw [List.length_append, List.length_cons]; omega);injection hv with hv1 hv2 hv3
   subst hv1 hv3;have HN : As9 (∀ y : G43, y.b3 = b3 → y.b5 = b5 → y.f5 = f5 → (tbL (done ++ y :: rest)).Nodup) := ⟨fun y h3 h5 hf => by
    have := HND.out;rw [← HT.out, tbL_mid] at this;rw [tbL_mid, tb_same ⟨f0, f1, f2, f3, f4, f5, b3, b5⟩ y h3 h5 hf];exact this⟩
   have HSS : As9 (∀ y : G43, y.b3 = b3 → y.b5 = b5 → y.f5 = f5 → ∀ k ∈ tb y, (Value.slice (some ⟨g, 0, none⟩) xs.length c0).ownBlock = some k ∨ k ∈ tbL xs) := ⟨fun y h3 h5 hf k hk => .inr (by
    rw [← HT.out, tbL_mid, ← tb_same ⟨f0, f1, f2, f3, f4, f5, b3, b5⟩ y h3 h5 hf];exact List.mem_append_right _ (List.mem_append_left _ hk))⟩
   have HNK : As9 ((tbL f5).Nodup) := ⟨by
    have h1 := nd_mem (done ++ (⟨f0, f1, f2, f3, f4, f5, b3, b5⟩ : G43) :: rest) ⟨f0, f1, f2, f3, f4, f5, b3, b5⟩ (List.mem_append_right _ List.mem_cons_self) (HN.out ⟨f0, f1, f2, f3, f4, f5, b3, b5⟩ rfl rfl rfl);rw [tb_eq] at h1;exact (List.nodup_append.1 (List.nodup_append.1 h1).2.1).2.1⟩
   have M0 : As9 (Mk w0 w wr g xs.length c0 P (fun b => (Value.slice (some ⟨g, 0, none⟩) xs.length c0).ownBlock = some b ∨ b ∈ tbL xs) (done ++ ⟨f0, f1, f2, f3, f4, f5, b3, b5⟩ :: rest)) := ⟨⟨HR.out, HK.out, HB.out, .inl rfl, hg0⟩⟩;clear h hx5 h2 h3 h4 h5 hR6 e1 hxs hv2 hg0 HR HK HB HM;obtain ⟨-, -, hx0, hx1, hx2, hx3, hx4, hx5, hf0, hf1, hf2, hf4⟩ := M0.out.cells HJ.out; dsimp only at hx0 hx1 hx2 hx3 hx4 hx5;go_wp2_with (first | (go_at_call 98; (with_reducible refine (laws_markText.calls k _ t2 _ A2.out).mono ?_); rintro e w4 ⟨rfl, hb⟩; have M4 := A_ (((M0.out.st0 HJ.out nj).st1 HJ.out (wrap64 (nj + 1))).below hb); clear hb M0 A2; clear hx0 hx1 hx2 hx3 hx4 hx5 hf0 hf1 hf2 hf4; obtain ⟨-, -, hx0, hx1, hx2, hx3, hx4, hx5, hf0, hf1, hf2, hf4⟩ := M4.out.cells HJ.out; dsimp only at hx0 hx1 hx2 hx3 hx4 hx5) | (go_at_call 89; have M5 := A_ (M4.out.st2 HJ.out t2); (with_reducible refine (laws_markAttrS.calls k (fun k_ => b3.ownBlock = some k_) b3 f3 _ n3 at_ w0 _ M5.out.bl (R36_ok (M5.out.cells HJ.out).1 (fun _ e_ => e_)) A3.out).mono ?_); rintro e w6 ⟨rfl, hr, hb, hk⟩; have M6 := A_ (M5.out.attrs (HN.out _ rfl rfl rfl) hb hk (HSS.out _ rfl rfl rfl) hr); clear hr hb hk M5 M4 A3; clear hx0 hx1 hx2 hx3 hx4 hx5 hf0 hf1 hf2 hf4; obtain ⟨-, -, hx0, hx1, hx2, hx3, hx4, hx5, hf0, hf1, hf2, hf4⟩ := M6.out.cells HJ.out; dsimp only at hx0 hx1 hx2 hx3 hx4 hx5) | (go_at_call 98; (with_reducible refine (laws_markText.calls k _ t4 _ A4.out).mono ?_); rintro e w7 ⟨rfl, hb⟩; have M7 := A_ (M6.out.below hb); clear hb M6 A4; clear hx0 hx1 hx2 hx3 hx4 hx5 hf0 hf1 hf2 hf4; obtain ⟨-, -, hx0, hx1, hx2, hx3, hx4, hx5, hf0, hf1, hf2, hf4⟩ := M7.out.cells HJ.out; dsimp only at hx0 hx1 hx2 hx3 hx4 hx5) | (go_at_call 41; have M8 := A_ (M7.out.st4 HJ.out t4); (with_reducible refine (ih k f5 _ n4 ks (fun k_ => P k_ ∧ k_ ≠ g) b5 w0 _ HS5.out M8.out.bl (M8.out.cells HJ.out).2.1 HNK.out A5.out).mono ?_); rintro e w9 ⟨rfl, hr, hb, hk⟩; have M9 := A_ (M8.out.kids (HN.out _ rfl rfl rfl) hb hk (HSS.out _ rfl rfl rfl) (mkL_tb k f5 _ _ A5.out).1 hr); clear hr hb hk M8 M7; clear hx0 hx1 hx2 hx3 hx4 hx5 hf0 hf1 hf2 hf4))
   go_roundg rest.length
   case measure => have := HEQ.out; rw [List.length_cons] at this; omega
   case rel => exact ⟨done ++ [⟨nj, wrap64 (nj + 1), t2, at_, t4, ks, b3, b5⟩], rest, n4, j + 1, R6, rfl, by rw [hwr], ⟨rfl⟩, ⟨by have := HJ.out; rw [List.length_append, List.length_singleton]; omega⟩, HR6, ⟨by rw [HR2.out, List.append_assoc]; rfl⟩, ⟨by rw [← HT.out, List.append_assoc, List.singleton_append, tbL_mid, tbL_mid, tb_eq, tb_eq]; dsimp only; rw [(mkL_tb k f5 _ _ A5.out).1]⟩, ⟨by have := HLN.out; simp at this ⊢; omega⟩, ⟨by have := HSR.out; simp at this; omega⟩, ⟨by rw [List.append_assoc]; exact M9.out.rr⟩, ⟨M9.out.kp⟩, ⟨M9.out.bl⟩⟩
end Go.Proofs.YtkmmoheeoblmnaaGreatDoor.A
