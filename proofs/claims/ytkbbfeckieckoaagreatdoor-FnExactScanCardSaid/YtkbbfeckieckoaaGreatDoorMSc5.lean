-- joined by wip/tools/shake.py
import Derived.Test.YtkbbfeckieckoaaGreatDoorVScW9
import Derived.Test.YtkbbfeckieckoaaGreatDoorMSc0
import Derived.Test.YtkbbfeckieckoaaGreatDoorMSc4
import Derived.Test.YtkbbfeckieckoaaGreatDoorMSc1
set_option maxHeartbeats 16000000
set_option maxRecDepth 100000
namespace Go.Proofs.YtkbbfeckieckoaaGreatDoor.A
open Go.RowKit Go.Proofs.YtkbbfeckieckoaaGreatDoorW.PrintWords Go.Proofs.YtkbbfeckieckoaaGreatDoorW.PrintLast Go.Proofs.YtkbbfeckieckoaaGreatDoorW.PrintMore
attribute [local go_sem] max2_int min2_int max_two min_two max_three min_three max_four min_four
set_option linter.unusedVariables false
set_option linter.unusedSimpArgs false
def impl_begins.f (a0 : BA) (a1 : Int) : Option (Bool) := if (wrap64 (a1 + 1)) ≥ (a0.size : Int) then (some false) else (if 0 ≤ a1 then (if a1 < (a0.size : Int) then (if (bt a0 a1) = 60 then (if 0 ≤ (wrap64 (a1 + 1)) then (if (wrap64 (a1 + 1)) < (a0.size : Int) then (if (bt a0 (wrap64 (a1 + 1))) = 33 then (some true) else (if (bt a0 (wrap64 (a1 + 1))) = 63 then (some true) else (if (bt a0 (wrap64 (a1 + 1))) = 47 then (some true) else ((impl_IsLetter.f (wrap64 (bt a0 (wrap64 (a1 + 1))))).bind fun t273 => (some t273))))) else (none)) else (none)) else (some false)) else (none)) else (none))
theorem impl_begins.calls (a0 : BA) (a1 : Int) (r : Bool) (w : World) (h : impl_begins.f a0 a1 = some r) :
  Calls Tryz.prog 65 #[.string a0, .int .i64 a1] w fun e w' => e = .returned (.bool r) ∧ Drawn0 w w' := by
 have H : (if (wrap64 (a1 + 1)) ≥ (a0.size : Int) then (some false) else (if 0 ≤ a1 then (if a1 < (a0.size : Int) then (if (bt a0 a1) = 60 then (if 0 ≤ (wrap64 (a1 + 1)) then (if (wrap64 (a1 + 1)) < (a0.size : Int) then (if (bt a0 (wrap64 (a1 + 1))) = 33 then (some true) else (if (bt a0 (wrap64 (a1 + 1))) = 63 then (some true) else (if (bt a0 (wrap64 (a1 + 1))) = 47 then (some true) else ((impl_IsLetter.f (wrap64 (bt a0 (wrap64 (a1 + 1))))).bind fun t273 => (some t273))))) else (none)) else (none)) else (some false)) else (none)) else (none))) = some r := h;clear h;rcases ic_ H with ⟨c3, H⟩ | ⟨c3, H⟩
 ·have c3b0 : decide ((a0.size : Int) ≤ (wrap64 (a1 + 1))) = true := dE_ c3;clear c3;obtain rfl := sI_ H;go_enter Tryz.func65, Tryz.ntmps65
  go_wp2
  go_ret
  exact ⟨e2_, d0_⟩
 ·have c3b0 : decide ((a0.size : Int) ≤ (wrap64 (a1 + 1))) = false := dF_ c3;clear c3;obtain ⟨c4, H⟩ := ifn_ H;have c4b0 := dE_ c4;clear c4;obtain ⟨c5, H⟩ := ifn_ H;have c5b0 := dE_ c5;clear c5;rcases ic_ H with ⟨c7, H⟩ | ⟨c7, H⟩
  ·obtain ⟨c7b0, c7b1⟩ := be_ c7;clear c7;obtain ⟨ji8, hji8⟩ : ∃ j_ : Int, (wrap64 (a1 + 1)) = j_ := ⟨_, rfl⟩;replace H : (if 0 ≤ (ji8) then (if (ji8) < (a0.size : Int) then (if (bt a0 (ji8)) = 33 then (some true) else (if (bt a0 (ji8)) = 63 then (some true) else (if (bt a0 (ji8)) = 47 then (some true) else ((impl_IsLetter.f (wrap64 (bt a0 (ji8)))).bind fun t273 => (some t273))))) else (none)) else (none)) = some r := by first | (rw [hji8] at H; exact H) | (simp only [hji8] at H ⊢; exact H)
   (try rw [hji8] at c3b0)
   have hji8w : (IntKind.i64.wrap (a1 + 1)) = ji8 := (i64_w _).trans hji8;obtain ⟨c9, H⟩ := ifn_ H;have c9b0 := dE_ c9;clear c9;obtain ⟨c10, H⟩ := ifn_ H;have c10b0 := dE_ c10;clear c10;rcases ic_ H with ⟨c12, H⟩ | ⟨c12, H⟩
   ·obtain ⟨c12b0, c12b1⟩ := be_ c12;clear c12;obtain rfl := sI_ H;have p6 : 0 ≤ (a1 : Int) := dT_;have q6 : a1 < (a0.size : Int) := dT_;have hx6 := bt_at a0 a1;replace p6 := eq_true p6;replace q6 := eq_true q6;have p11 : 0 ≤ ((ji8) : Int) := dT_;have q11 : (ji8) < (a0.size : Int) := dT_;have hx11 := bt_at a0 (ji8);replace p11 := eq_true p11;replace q11 := eq_true q11;go_enter Tryz.func65, Tryz.ntmps65
    go_wp2
    go_ret
    exact ⟨by first | rfl | (simp; done) | (simp only [← hji8] <;> (first | rfl | simp)) | (simp [*]; done), d0_⟩
   ·obtain ⟨c12b0, c12b1⟩ := bn_ c12;rcases ic_ H with ⟨c13, H⟩ | ⟨c13, H⟩
    ·obtain ⟨c13b0, c13b1⟩ := be_ c13;clear c13;obtain rfl := sI_ H;have p6 : 0 ≤ (a1 : Int) := dT_;have q6 : a1 < (a0.size : Int) := dT_;have hx6 := bt_at a0 a1;replace p6 := eq_true p6;replace q6 := eq_true q6;have p11 : 0 ≤ ((ji8) : Int) := dT_;have q11 : (ji8) < (a0.size : Int) := dT_;have hx11 := bt_at a0 (ji8);replace p11 := eq_true p11;replace q11 := eq_true q11;go_enter Tryz.func65, Tryz.ntmps65
     go_wp2
     go_ret
     exact ⟨by first | rfl | (simp; done) | (simp only [← hji8] <;> (first | rfl | simp)) | (simp [*]; done), d0_⟩
    ·obtain ⟨c13b0, c13b1⟩ := bn_ c13;rcases ic_ H with ⟨c14, H⟩ | ⟨c14, H⟩
     ·obtain ⟨c14b0, c14b1⟩ := be_ c14;clear c14;obtain rfl := sI_ H;have p6 : 0 ≤ (a1 : Int) := dT_;have q6 : a1 < (a0.size : Int) := dT_;have hx6 := bt_at a0 a1;replace p6 := eq_true p6;replace q6 := eq_true q6;have p11 : 0 ≤ ((ji8) : Int) := dT_;have q11 : (ji8) < (a0.size : Int) := dT_;have hx11 := bt_at a0 (ji8);replace p11 := eq_true p11;replace q11 := eq_true q11;go_enter Tryz.func65, Tryz.ntmps65
      go_wp2
      go_ret
      exact ⟨by first | rfl | (simp; done) | (simp only [← hji8] <;> (first | rfl | simp)) | (simp [*]; done), d0_⟩
     ·obtain ⟨c14b0, c14b1⟩ := bn_ c14;obtain ⟨t273, A15, H⟩ := ob_ H;obtain rfl := sI_ H;have p6 : 0 ≤ (a1 : Int) := dT_;have q6 : a1 < (a0.size : Int) := dT_;have hx6 := bt_at a0 a1;replace p6 := eq_true p6;replace q6 := eq_true q6;have p11 : 0 ≤ ((ji8) : Int) := dT_;have q11 : (ji8) < (a0.size : Int) := dT_;have hx11 := bt_at a0 (ji8);replace p11 := eq_true p11;replace q11 := eq_true q11;go_enter Tryz.func65, Tryz.ntmps65
      go_wp2_with (first | (go_at_call 104; (with_reducible refine (impl_IsLetter.calls (wrap64 (bt a0 (ji8))) t273 _ A15.out).mono ?_); rintro e w' ⟨rfl, ⟨nd, rfl⟩⟩))
      go_ret
      exact ⟨by first | rfl | (simp; done) | (simp only [← hji8] <;> (first | rfl | simp)) | (simp [*]; done), d0_⟩
  ·obtain ⟨c7b0, c7b1⟩ := bn_ c7;obtain rfl := sI_ H;have p6 : 0 ≤ (a1 : Int) := dT_;have q6 : a1 < (a0.size : Int) := dT_;have hx6 := bt_at a0 a1;replace p6 := eq_true p6;replace q6 := eq_true q6;go_enter Tryz.func65, Tryz.ntmps65
   go_wp2
   go_ret
   exact ⟨e2_, d0_⟩
def stringslite_HasPrefix.f (a0 : BA) (a1 : BA) : Option (Bool) := if (a0.size : Int) ≥ (a1.size : Int) then (if 0 ≤ (a1.size : Int) then (if (a1.size : Int) ≤ (a0.size : Int) then (some ((a0.extract 0 ((a1.size : Int) : Int).toNat).toList == a1.toList)) else (none)) else (none)) else (some false)
theorem stringslite_HasPrefix.calls (a0 : BA) (a1 : BA) (r : Bool) (w : World) (h : stringslite_HasPrefix.f a0 a1 = some r) :
  Calls Tryz.prog 107 #[.string a0, .string a1] w fun e w' => e = .returned (.bool r) ∧ Drawn0 w w' := by
 have H : (if (a0.size : Int) ≥ (a1.size : Int) then (if 0 ≤ (a1.size : Int) then (if (a1.size : Int) ≤ (a0.size : Int) then (some ((a0.extract 0 ((a1.size : Int) : Int).toNat).toList == a1.toList)) else (none)) else (none)) else (some false)) = some r := h;clear h;rcases ic_ H with ⟨c3, H⟩ | ⟨c3, H⟩
 ·have c3b0 : decide ((a1.size : Int) ≤ (a0.size : Int)) = true := dE_ c3;have c3b1 : decide (a1.size ≤ a0.size) = true := dE_ (Int.ofNat_le.mp c3);clear c3;obtain ⟨c4, H⟩ := ifn_ H;have c4b0 := eq_true c4;have c4b1 := dE_ c4;clear c4;obtain ⟨c5, H⟩ := ifn_ H;have c5b0 := eq_true c5;have c5b1 := dE_ c5;clear c5;obtain rfl := sI_ H;go_enter Tryz.func107, Tryz.ntmps107
  go_wp2
  go_ret
  exact ⟨e2_, d0_⟩
 ·have c3b0 : decide ((a1.size : Int) ≤ (a0.size : Int)) = false := dF_ c3;have c3b1 : decide (a1.size ≤ a0.size) = false := dF_ (fun h => c3 (Int.ofNat_le.mpr h));clear c3;obtain rfl := sI_ H;go_enter Tryz.func107, Tryz.ntmps107
  go_wp2
  go_ret
  exact ⟨e2_, d0_⟩
def strings_HasPrefix.f (a0 : BA) (a1 : BA) : Option (Bool) := (stringslite_HasPrefix.f a0 a1).bind fun t274 => (some t274)
theorem strings_HasPrefix.calls (a0 : BA) (a1 : BA) (r : Bool) (w : World) (h : strings_HasPrefix.f a0 a1 = some r) :
  Calls Tryz.prog 67 #[.string a0, .string a1] w fun e w' => e = .returned (.bool r) ∧ Drawn0 w w' := by
 have H : ((stringslite_HasPrefix.f a0 a1).bind fun t274 => (some t274)) = some r := h;clear h;obtain ⟨t274, A3, H⟩ := ob_ H;obtain rfl := sI_ H;go_enter Tryz.func67, Tryz.ntmps67
 go_wp2_with (first | ((with_reducible refine gC_ 107 ?_); refine gL_ 7 Tryz.func107 #[.string a0, .string a1] ?_; refine dm_ (stringslite_HasPrefix.calls a0 a1 t274 _ A3.out) fun nd => ?_))
 go_ret
 exact ⟨e2_, d0_⟩
def impl_withEnd.f (a0 : BA) (a1 : Int) : Option (Int) := if a1 < (a0.size : Int) then (if 0 ≤ a1 then (if (bt a0 a1) = 59 then (some (wrap64 (a1 + 1))) else (some a1)) else (none)) else (some a1)
theorem impl_withEnd.calls (a0 : BA) (a1 : Int) (r : Int) (w : World) (h : impl_withEnd.f a0 a1 = some r) :
  Calls Tryz.prog 164 #[.string a0, .int .i64 a1] w fun e w' => e = .returned (.int .i64 r) ∧ Drawn0 w w' := by
 have H : (if a1 < (a0.size : Int) then (if 0 ≤ a1 then (if (bt a0 a1) = 59 then (some (wrap64 (a1 + 1))) else (some a1)) else (none)) else (some a1)) = some r := h;clear h;rcases ic_ H with ⟨c3, H⟩ | ⟨c3, H⟩
 ·have c3b0 := dE_ c3;clear c3;obtain ⟨c4, H⟩ := ifn_ H;have c4b0 := dE_ c4;clear c4;rcases ic_ H with ⟨c6, H⟩ | ⟨c6, H⟩
  ·obtain ⟨c6b0, c6b1⟩ := be_ c6;clear c6;obtain rfl := sI_ H;have p5 : 0 ≤ (a1 : Int) := dT_;have q5 : a1 < (a0.size : Int) := dT_;have hx5 := bt_at a0 a1;replace p5 := eq_true p5;replace q5 := eq_true q5;go_enter Tryz.func164, Tryz.ntmps164
   go_wp2
   go_ret
   exact ⟨e2_, d0_⟩
  ·obtain ⟨c6b0, c6b1⟩ := bn_ c6;obtain rfl := sI_ H;have p5 : 0 ≤ (a1 : Int) := dT_;have q5 : a1 < (a0.size : Int) := dT_;have hx5 := bt_at a0 a1;replace p5 := eq_true p5;replace q5 := eq_true q5;go_enter Tryz.func164, Tryz.ntmps164
   go_wp2
   go_ret
   exact ⟨e2_, d0_⟩
 ·have c3b0 := dF_ c3;clear c3;obtain rfl := sI_ H;go_enter Tryz.func164, Tryz.ntmps164
  go_wp2
  go_ret
  exact ⟨e2_, d0_⟩
mutual
def impl_digitOf.j0 : Nat → Int → Int → Int → Bool → Option (Int)
 | 0, _, _, _, _ => none
 | k + 1, x0, x1, x5, x6 => if x6 = true then (if ((x0 - 48) % 256) ≥ x1 then (some (-1)) else (some ((x0 - 48) % 256))) else (if x0 ≥ 97 then (impl_digitOf.j1 k x0 x1 x5 (decide (x0 ≤ 102))) else (impl_digitOf.j1 k x0 x1 x5 false))
def impl_digitOf.j1 : Nat → Int → Int → Int → Bool → Option (Int)
 | 0, _, _, _, _ => none
 | k + 1, x0, x1, x5, x16 => if x16 = true then (if (((x0 - 97) % 256) + 10) ≥ x1 then (some (-1)) else (some (((x0 - 97) % 256) + 10))) else (if x0 ≥ 65 then (impl_digitOf.j2 k x0 x1 x5 (decide (x0 ≤ 70))) else (impl_digitOf.j2 k x0 x1 x5 false))
def impl_digitOf.j2 : Nat → Int → Int → Int → Bool → Option (Int)
 | 0, _, _, _, _ => none
 | k + 1, x0, x1, x5, x27 => if x27 = true then (if (((x0 - 65) % 256) + 10) ≥ x1 then (some (-1)) else (some (((x0 - 65) % 256) + 10))) else (if x5 ≥ x1 then (some (-1)) else (some x5))
end
def impl_digitOf.f (k : Nat) (a0 : Int) (a1 : Int) : Option (Int) := if a0 ≥ 48 then (impl_digitOf.j0 k a0 a1 (-1) (decide (a0 ≤ 57))) else (impl_digitOf.j0 k a0 a1 (-1) false)
theorem impl_digitOf.mono_l : ∀ k, (∀ y0 y1 y2 y3, LeO (impl_digitOf.j0 k y0 y1 y2 y3) (impl_digitOf.j0 (k + 1) y0 y1 y2 y3)) ∧ (∀ y0 y1 y2 y3, LeO (impl_digitOf.j1 k y0 y1 y2 y3) (impl_digitOf.j1 (k + 1) y0 y1 y2 y3)) ∧ (∀ y0 y1 y2 y3, LeO (impl_digitOf.j2 k y0 y1 y2 y3) (impl_digitOf.j2 (k + 1) y0 y1 y2 y3))
 | 0 => ⟨fun _ _ _ _ r h => by simp [impl_digitOf.j0] at h, fun _ _ _ _ r h => by simp [impl_digitOf.j1] at h, fun _ _ _ _ r h => by simp [impl_digitOf.j2] at h⟩
 | k + 1 => by
  obtain ⟨ih0, ih1, ih2⟩ := impl_digitOf.mono_l k;refine ⟨?_, ?_, ?_⟩
  ·intro y0 y1 y2 y3;unfold impl_digitOf.j0;with_reducible repeat' first | exact ih0 _ _ _ _ | exact ih1 _ _ _ _ | exact ih2 _ _ _ _ | apply LeO.refl | apply LeO.none | apply LeO.ite | apply LeO.bind | intro
  ·intro y0 y1 y2 y3;unfold impl_digitOf.j1;with_reducible repeat' first | exact ih0 _ _ _ _ | exact ih1 _ _ _ _ | exact ih2 _ _ _ _ | apply LeO.refl | apply LeO.none | apply LeO.ite | apply LeO.bind | intro
  ·intro y0 y1 y2 y3;unfold impl_digitOf.j2;with_reducible repeat' first | exact ih0 _ _ _ _ | exact ih1 _ _ _ _ | exact ih2 _ _ _ _ | apply LeO.refl | apply LeO.none | apply LeO.ite | apply LeO.bind | intro
theorem impl_digitOf.mono : ∀ a0 a1 k, LeO (impl_digitOf.f k a0 a1) (impl_digitOf.f (k + 1) a0 a1) := by
 intro a0 a1 k;obtain ⟨ih0, ih1, ih2⟩ := impl_digitOf.mono_l k;unfold impl_digitOf.f;with_reducible repeat' first | exact ih0 _ _ _ _ | exact ih1 _ _ _ _ | exact ih2 _ _ _ _ | apply LeO.refl | apply LeO.none | apply LeO.ite | apply LeO.bind | intro
theorem impl_digitOf.calls (k : Nat) (a0 : Int) (a1 : Int) (r : Int) (w : World) (h : impl_digitOf.f k a0 a1 = some r) :
  Calls Tryz.prog 175 #[.int .u8 a0, .int .i64 a1] w fun e w' => e = .returned (.int .i64 r) ∧ Drawn0 w w' := by
 have H : (if a0 ≥ 48 then (impl_digitOf.j0 k a0 a1 (-1) (decide (a0 ≤ 57))) else (impl_digitOf.j0 k a0 a1 (-1) false)) = some r := h;clear h;have HC3 := A_ H;clear H;go_enter Tryz.func175, Tryz.ntmps175
 go_upto_region 2 with (fail)
 go_cut [6] (fun v6 wc => ∃ (kq : Nat) (x6_2 : Bool), v6 = .bool x6_2 ∧ As9 (impl_digitOf.j0 kq a0 a1 (-1) x6_2 = some r) ∧ As9 (kq ≤ k) ∧ Drawn0 w wc)
 case first =>
  have H := HC3.out;clear HC3;rcases ic_ H with ⟨c4, H⟩ | ⟨c4, H⟩
  ·have c4b0 : decide (48 ≤ a0) = true := dE_ c4;clear c4;(first | rw [c4b0] | (simp only [i64_w, i32_w]; rw [c4b0]) | skip)
   have H' := A_ H;clear H;go_wp2
   go_meet
   case rel => exact ⟨_, (decide (a0 ≤ 57)), e2_, H', ⟨by first | omega | exact Nat.le_refl _⟩, d0_⟩
  ·have c4b0 : decide (48 ≤ a0) = false := dF_ c4;clear c4;(first | rw [c4b0] | (simp only [i64_w, i32_w]; rw [c4b0]) | skip)
   have H' := A_ H;clear H;go_wp2
   go_meet
   case rel => exact ⟨_, (false), e2_, H', ⟨by first | omega | exact Nat.le_refl _⟩, d0_⟩
 case rest =>
  clear HC3;try clear c1
  try clear p2
  try clear c4
  try clear c4b0
  obtain ⟨kq, x6_2, rfl, HA, HJ2, ⟨mc2, rfl⟩⟩ := hcut;cases kq with
  | zero => exact absurd HA.out (by simp [impl_digitOf.j0])
  | succ kj2 =>
   have H := HA.out;clear HA;simp only [impl_digitOf.j0] at H;by_cases c5 : x6_2 = true
   ·subst c5;rw [if_pos rfl] at H;rcases ic_ H with ⟨c6, H⟩ | ⟨c6, H⟩
    ·have c6b0 : decide (a1 ≤ ((a0 - 48) % 256)) = true := dE_ c6;clear c6;obtain rfl := sI_ H;go_wp2
     go_ret
     exact ⟨e2_, d0_⟩
    ·have c6b0 : decide (a1 ≤ ((a0 - 48) % 256)) = false := dF_ c6;clear c6;obtain rfl := sI_ H;go_wp2
     go_ret
     exact ⟨e2_, d0_⟩
   ·replace c5 := bF_ c5;subst c5;rw [if_neg nF_] at H;have HC7 := A_ H;clear H;go_upto_region 4 with (fail)
    go_cut [16] (fun v16 wc => ∃ (kq : Nat) (x16_6 : Bool), v16 = .bool x16_6 ∧ As9 (impl_digitOf.j1 kq a0 a1 (-1) x16_6 = some r) ∧ As9 (kq ≤ kj2) ∧ Drawn0 w wc)
    case first =>
     have H := HC7.out;clear HC7;rcases ic_ H with ⟨c8, H⟩ | ⟨c8, H⟩
     ·have c8b0 : decide (97 ≤ a0) = true := dE_ c8;clear c8;(first | rw [c8b0] | (simp only [i64_w, i32_w]; rw [c8b0]) | skip)
      have H' := A_ H;clear H;go_wp2
      go_meet
      case rel => exact ⟨_, (decide (a0 ≤ 102)), e2_, H', ⟨by have := HJ2.out; first | omega | exact Nat.le_refl _⟩, d0_⟩
     ·have c8b0 : decide (97 ≤ a0) = false := dF_ c8;clear c8;(first | rw [c8b0] | (simp only [i64_w, i32_w]; rw [c8b0]) | skip)
      have H' := A_ H;clear H;go_wp2
      go_meet
      case rel => exact ⟨_, (false), e2_, H', ⟨by have := HJ2.out; first | omega | exact Nat.le_refl _⟩, d0_⟩
    case rest =>
     clear HC7;try clear c1
     try clear c2
     try clear p2
     try clear c4
     try clear c4b0
     try clear c5
     try clear c6
     try clear c6b0
     try clear c8
     try clear c8b0
     try clear p2
     obtain ⟨kq, x16_6, rfl, HA, HJ6, ⟨mc6, rfl⟩⟩ := hcut;cases kq with
     | zero => exact absurd HA.out (by simp [impl_digitOf.j1])
     | succ kj6 =>
      have H := HA.out;clear HA;simp only [impl_digitOf.j1] at H;by_cases c9 : x16_6 = true
      ·subst c9;rw [if_pos rfl] at H;rcases ic_ H with ⟨c10, H⟩ | ⟨c10, H⟩
       ·have c10b0 : decide (a1 ≤ (((a0 - 97) % 256) + 10)) = true := dE_ c10;clear c10;obtain rfl := sI_ H;go_wp2
        go_ret
        exact ⟨e2_, d0_⟩
       ·have c10b0 : decide (a1 ≤ (((a0 - 97) % 256) + 10)) = false := dF_ c10;clear c10;obtain rfl := sI_ H;go_wp2
        go_ret
        exact ⟨e2_, d0_⟩
      ·replace c9 := bF_ c9;subst c9;rw [if_neg nF_] at H;have HC11 := A_ H;clear H;go_upto_region 6 with (fail)
       go_cut [27] (fun v27 wc => ∃ (kq : Nat) (x27_10 : Bool), v27 = .bool x27_10 ∧ As9 (impl_digitOf.j2 kq a0 a1 (-1) x27_10 = some r) ∧ As9 (kq ≤ kj6) ∧ Drawn0 w wc)
       case first =>
        have H := HC11.out;clear HC11;rcases ic_ H with ⟨c12, H⟩ | ⟨c12, H⟩
        ·have c12b0 : decide (65 ≤ a0) = true := dE_ c12;clear c12;(first | rw [c12b0] | (simp only [i64_w, i32_w]; rw [c12b0]) | skip)
         have H' := A_ H;clear H;go_wp2
         go_meet
         case rel => exact ⟨_, (decide (a0 ≤ 70)), e2_, H', ⟨by have := HJ2.out; have := HJ6.out; first | omega | exact Nat.le_refl _⟩, d0_⟩
        ·have c12b0 : decide (65 ≤ a0) = false := dF_ c12;clear c12;(first | rw [c12b0] | (simp only [i64_w, i32_w]; rw [c12b0]) | skip)
         have H' := A_ H;clear H;go_wp2
         go_meet
         case rel => exact ⟨_, (false), e2_, H', ⟨by have := HJ2.out; have := HJ6.out; first | omega | exact Nat.le_refl _⟩, d0_⟩
       case rest =>
        clear HC11;try clear c1
        try clear c2
        try clear p2
        try clear c4
        try clear c4b0
        try clear c5
        try clear c6
        try clear c6b0
        try clear c8
        try clear c8b0
        try clear c9
        try clear c10
        try clear c10b0
        try clear c12
        try clear c12b0
        try clear p2
        obtain ⟨kq, x27_10, rfl, HA, HJ10, ⟨mc10, rfl⟩⟩ := hcut;cases kq with
        | zero => exact absurd HA.out (by simp [impl_digitOf.j2])
        | succ kj10 =>
         have H := HA.out;clear HA;simp only [impl_digitOf.j2] at H;by_cases c13 : x27_10 = true
         ·subst c13;rw [if_pos rfl] at H;rcases ic_ H with ⟨c14, H⟩ | ⟨c14, H⟩
          ·have c14b0 : decide (a1 ≤ (((a0 - 65) % 256) + 10)) = true := dE_ c14;clear c14;obtain rfl := sI_ H;go_wp2
           go_ret
           exact ⟨e2_, d0_⟩
          ·have c14b0 : decide (a1 ≤ (((a0 - 65) % 256) + 10)) = false := dF_ c14;clear c14;obtain rfl := sI_ H;go_wp2
           go_ret
           exact ⟨e2_, d0_⟩
         ·replace c13 := bF_ c13;subst c13;rw [if_neg nF_] at H;rcases ic_ H with ⟨c15, H⟩ | ⟨c15, H⟩
          ·have c15b0 : decide (a1 ≤ (-1)) = true := dE_ c15;clear c15;obtain rfl := sI_ H;go_wp2
           go_ret
           exact ⟨e2_, d0_⟩
          ·have c15b0 : decide (a1 ≤ (-1)) = false := dF_ c15;clear c15;obtain rfl := sI_ H;go_wp2
           go_ret
           exact ⟨e2_, d0_⟩
def numL : List Int := [8364, 129, 8218, 402, 8222, 8230, 8224, 8225, 710, 8240, 352, 8249, 338, 141, 381, 143, 144, 8216, 8217, 8220, 8221, 8226, 8211, 8212, 732, 8482, 353, 8250, 339, 157, 382, 376]
theorem numb_at (i : Int) (h0 : 0 ≤ i) (h1 : i < 32) (w : World) : (Instr.index 146 (.agg #[.int .i64 8364, .int .i64 129, .int .i64 8218, .int .i64 402, .int .i64 8222, .int .i64 8230, .int .i64 8224, .int .i64 8225, .int .i64 710, .int .i64 8240, .int .i64 352, .int .i64 8249, .int .i64 338, .int .i64 141, .int .i64 381, .int .i64 143, .int .i64 144, .int .i64 8216, .int .i64 8217, .int .i64 8220, .int .i64 8221, .int .i64 8226, .int .i64 8211, .int .i64 8212, .int .i64 732, .int .i64 8482, .int .i64 353, .int .i64 8250, .int .i64 339, .int .i64 157, .int .i64 382, .int .i64 376]) (.int .i64 i)).run Tryz.prog w = .ok (.int .i64 (rd numL i)) w := by
 have : i = 0 ∨ i = 1 ∨ i = 2 ∨ i = 3 ∨ i = 4 ∨ i = 5 ∨ i = 6 ∨ i = 7 ∨ i = 8 ∨ i = 9 ∨ i = 10 ∨ i = 11 ∨ i = 12 ∨ i = 13 ∨ i = 14 ∨ i = 15 ∨ i = 16 ∨ i = 17 ∨ i = 18 ∨ i = 19 ∨ i = 20 ∨ i = 21 ∨ i = 22 ∨ i = 23 ∨ i = 24 ∨ i = 25 ∨ i = 26 ∨ i = 27 ∨ i = 28 ∨ i = 29 ∨ i = 30 ∨ i = 31 := om_;rcases this with rfl | rfl | rfl | rfl | rfl | rfl | rfl | rfl | rfl | rfl | rfl | rfl | rfl | rfl | rfl | rfl | rfl | rfl | rfl | rfl | rfl | rfl | rfl | rfl | rfl | rfl | rfl | rfl | rfl | rfl | rfl | rfl <;> (clear h0 h1; show _ = _; kernel_rfl)
def impl_Numbered.f (a0 : Int) : Option Int := if 128 ≤ a0 ∧ a0 ≤ 159 then some (rd numL (a0 - 128)) else if a0 = 0 then some 65533 else (impl_SignOk.f a0).bind fun b => if b = true then some a0 else some 65533
theorem impl_Numbered.calls (a0 : Int) (r : Int) (w : World) (h : impl_Numbered.f a0 = some r) :
  Calls Tryz.prog 176 #[.int .i64 a0] w fun e w' => e = .returned (.int .i64 r) ∧ Drawn0 w w' := by
 unfold impl_Numbered.f at h;by_cases hc : 128 ≤ a0 ∧ a0 ≤ 159
 ·rw [if_pos hc] at h;obtain rfl := sI_ h;have hin : impl_inRange.f a0 128 159 = some true := by unfold impl_inRange.f; rw [if_pos hc.1, dE_ hc.2]
  have Hin := A_ hin;have hix := numb_at (a0 - 128) om_ om_;obtain ⟨h1, h2⟩ := hc;clear hin h;go_enter Tryz.func176, Tryz.ntmps176
  go_wp2_with ((go_at_call 144; (with_reducible refine (impl_inRange.calls a0 128 159 true _ Hin.out).mono ?_); rintro r w' ⟨rfl, ⟨nd, rfl⟩⟩))
  go_ret
  exact ⟨rfl, ⟨_, rfl⟩⟩
 ·rw [if_neg hc] at h;have hin : impl_inRange.f a0 128 159 = some false := by
   unfold impl_inRange.f;by_cases h1 : a0 ≥ 128
   ·rw [if_pos h1, dF_ om_]
   ·rw [if_neg h1]
  have Hin := A_ hin;clear hin;by_cases hz : a0 = 0
  ·rw [if_pos hz] at h;obtain rfl := sI_ h;subst hz;clear h hc;go_enter Tryz.func176, Tryz.ntmps176
   go_wp2_with ((go_at_call 144; (with_reducible refine (impl_inRange.calls 0 128 159 false _ Hin.out).mono ?_); rintro r w' ⟨rfl, ⟨nd, rfl⟩⟩))
   go_ret
   exact ⟨rfl, ⟨_, rfl⟩⟩
  ·rw [if_neg hz] at h;obtain ⟨b, hb, h⟩ := oB_ h;have hzb : (a0 == 0) = false := bN_ hz;have Hb := A_ hb;clear hb hc hz;cases b
   ·rw [if_neg si_] at h;obtain rfl := sI_ h;clear h;go_enter Tryz.func176, Tryz.ntmps176
    go_wp2_with (first | (go_at_call 144; (with_reducible refine (impl_inRange.calls a0 128 159 false _ Hin.out).mono ?_); rintro r w' ⟨rfl, ⟨nd, rfl⟩⟩) | (go_at_call 141; (with_reducible refine (impl_SignOk.calls a0 false _ Hb.out).mono ?_); rintro r w' ⟨rfl, ⟨nd2, rfl⟩⟩))
    go_ret
    exact ⟨rfl, ⟨_, rfl⟩⟩
   ·rw [if_pos rfl] at h;obtain rfl := sI_ h;clear h;go_enter Tryz.func176, Tryz.ntmps176
    go_wp2_with (first | (go_at_call 144; (with_reducible refine (impl_inRange.calls a0 128 159 false _ Hin.out).mono ?_); rintro r w' ⟨rfl, ⟨nd, rfl⟩⟩) | (go_at_call 141; (with_reducible refine (impl_SignOk.calls a0 true _ Hb.out).mono ?_); rintro r w' ⟨rfl, ⟨nd2, rfl⟩⟩))
    go_ret
    exact ⟨rfl, ⟨_, rfl⟩⟩
mutual
def impl_numberRef.j0 : Nat → ByteArray → Int → Int → Int → Bool → Option (ByteArray × Int)
 | 0, _, _, _, _, _ => none
 | k + 1, x0, x1, x6, x7, x27 => if x27 = true then (impl_numberRef.j1 k x0 x1 (wrap64 (x6 + 1)) 16) else (impl_numberRef.j1 k x0 x1 x6 x7)
def impl_numberRef.j1 : Nat → ByteArray → Int → Int → Int → Option (ByteArray × Int)
 | 0, _, _, _, _ => none
 | k + 1, x0, x1, x6, x7 => impl_numberRef.l0 k x0 x1 x6 x7 0 x6
def impl_numberRef.j3 : Nat → ByteArray → Int → Int → Int → Int → Option (ByteArray × Int)
 | 0, _, _, _, _, _ => none
 | k + 1, x0, x1, x6, x8, x9 => if x9 = x6 then (some ((⟨#[]⟩ : BA), 0)) else ((impl_Numbered.f x8).bind fun t277 => ((impl_PutSign.f k t277).bind fun t278 => ((impl_withEnd.f x0 x9).bind fun t279 => (some (t278, wrap64 (t279 - x1))))))
def impl_numberRef.l0 : Nat → ByteArray → Int → Int → Int → Int → Int → Option (ByteArray × Int)
 | 0, _, _, _, _, _, _ => none
 | k + 1, x0, x1, x6, x7, x8, x9 => if x9 < (x0.size : Int) then (if 0 ≤ x9 then ((impl_digitOf.f k (bt x0 x9) x7).bind fun t275 => (if t275 ≥ 0 then ((impl_digitOf.f k (bt x0 x9) x7).bind fun t276 => (impl_numberRef.l0 k x0 x1 x6 x7 (mn (wrap64 ((wrap64 (x8 * x7)) + t276)) 1114112) (wrap64 (x9 + 1)))) else (impl_numberRef.j3 k x0 x1 x6 x8 x9))) else (none)) else (impl_numberRef.j3 k x0 x1 x6 x8 x9)
end
def impl_numberRef.f (k : Nat) (a0 : BA) (a1 : Int) : Option (ByteArray × Int) := if (wrap64 (a1 + 2)) < (a0.size : Int) then (if 0 ≤ (wrap64 (a1 + 2)) then (if (bt a0 (wrap64 (a1 + 2))) = 120 then (impl_numberRef.j0 k a0 a1 (wrap64 (a1 + 2)) 10 true) else (impl_numberRef.j0 k a0 a1 (wrap64 (a1 + 2)) 10 ((bt a0 (wrap64 (a1 + 2))) == 88))) else (none)) else (impl_numberRef.j0 k a0 a1 (wrap64 (a1 + 2)) 10 false)
theorem impl_numberRef.mono_l : ∀ k, (∀ y0 y1 y2 y3 y4, LeO (impl_numberRef.j0 k y0 y1 y2 y3 y4) (impl_numberRef.j0 (k + 1) y0 y1 y2 y3 y4)) ∧ (∀ y0 y1 y2 y3, LeO (impl_numberRef.j1 k y0 y1 y2 y3) (impl_numberRef.j1 (k + 1) y0 y1 y2 y3)) ∧ (∀ y0 y1 y2 y3 y4, LeO (impl_numberRef.j3 k y0 y1 y2 y3 y4) (impl_numberRef.j3 (k + 1) y0 y1 y2 y3 y4)) ∧ (∀ y0 y1 y2 y3 y4 y5, LeO (impl_numberRef.l0 k y0 y1 y2 y3 y4 y5) (impl_numberRef.l0 (k + 1) y0 y1 y2 y3 y4 y5))
 | 0 => ⟨fun _ _ _ _ _ r h => by simp [impl_numberRef.j0] at h, fun _ _ _ _ r h => by simp [impl_numberRef.j1] at h, fun _ _ _ _ _ r h => by simp [impl_numberRef.j3] at h, fun _ _ _ _ _ _ r h => by simp [impl_numberRef.l0] at h⟩
 | k + 1 => by
  obtain ⟨ih0, ih1, ih2, ih3⟩ := impl_numberRef.mono_l k;refine ⟨?_, ?_, ?_, ?_⟩
  ·intro y0 y1 y2 y3 y4;unfold impl_numberRef.j0;with_reducible repeat' first | exact ih0 _ _ _ _ _ | exact ih1 _ _ _ _ | exact ih2 _ _ _ _ _ | exact ih3 _ _ _ _ _ _ | exact impl_PutSign.mono _ _ | exact impl_digitOf.mono _ _ _ | apply LeO.refl | apply LeO.none | apply LeO.ite | apply LeO.bind | intro
  ·intro y0 y1 y2 y3;unfold impl_numberRef.j1;with_reducible repeat' first | exact ih0 _ _ _ _ _ | exact ih1 _ _ _ _ | exact ih2 _ _ _ _ _ | exact ih3 _ _ _ _ _ _ | exact impl_PutSign.mono _ _ | exact impl_digitOf.mono _ _ _ | apply LeO.refl | apply LeO.none | apply LeO.ite | apply LeO.bind | intro
  ·intro y0 y1 y2 y3 y4;unfold impl_numberRef.j3;with_reducible repeat' first | exact ih0 _ _ _ _ _ | exact ih1 _ _ _ _ | exact ih2 _ _ _ _ _ | exact ih3 _ _ _ _ _ _ | exact impl_PutSign.mono _ _ | exact impl_digitOf.mono _ _ _ | apply LeO.refl | apply LeO.none | apply LeO.ite | apply LeO.bind | intro
  ·intro y0 y1 y2 y3 y4 y5;unfold impl_numberRef.l0;with_reducible repeat' first | exact ih0 _ _ _ _ _ | exact ih1 _ _ _ _ | exact ih2 _ _ _ _ _ | exact ih3 _ _ _ _ _ _ | exact impl_PutSign.mono _ _ | exact impl_digitOf.mono _ _ _ | apply LeO.refl | apply LeO.none | apply LeO.ite | apply LeO.bind | intro
theorem impl_numberRef.mono : ∀ a0 a1 k, LeO (impl_numberRef.f k a0 a1) (impl_numberRef.f (k + 1) a0 a1) := by
 intro a0 a1 k;obtain ⟨ih0, ih1, ih2, ih3⟩ := impl_numberRef.mono_l k;unfold impl_numberRef.f;with_reducible repeat' first | exact ih0 _ _ _ _ _ | exact ih1 _ _ _ _ | exact ih2 _ _ _ _ _ | exact ih3 _ _ _ _ _ _ | exact impl_PutSign.mono _ _ | exact impl_digitOf.mono _ _ _ | apply LeO.refl | apply LeO.none | apply LeO.ite | apply LeO.bind | intro
theorem impl_numberRef.calls (k : Nat) (a0 : BA) (a1 : Int) (r1 : BA) (r2 : Int) (w : World) (h : impl_numberRef.f k a0 a1 = some (r1, r2)) :
  Calls Tryz.prog 162 #[.string a0, .int .i64 a1] w fun e w' => e = .returned (.tuple #[.string r1, .int .i64 r2]) ∧ Below w.heap.size w w' := by
 have HB := A_ (Below.refl w.heap.size w);have H : (if (wrap64 (a1 + 2)) < (a0.size : Int) then (if 0 ≤ (wrap64 (a1 + 2)) then (if (bt a0 (wrap64 (a1 + 2))) = 120 then (impl_numberRef.j0 k a0 a1 (wrap64 (a1 + 2)) 10 true) else (impl_numberRef.j0 k a0 a1 (wrap64 (a1 + 2)) 10 ((bt a0 (wrap64 (a1 + 2))) == 88))) else (none)) else (impl_numberRef.j0 k a0 a1 (wrap64 (a1 + 2)) 10 false)) = some (r1, r2) := h;clear h;have HC3 := A_ H;clear H;go_enter Tryz.func162, Tryz.ntmps162
 go_upto_region 2 with (fail)
 go_cut [27] (fun v27 wc => ∃ (kq : Nat) (x27_2 : Bool), v27 = .bool x27_2 ∧ As9 (impl_numberRef.j0 kq a0 a1 (wrap64 (a1 + 2)) 10 x27_2 = some (r1, r2)) ∧ As9 (kq ≤ k) ∧ As9 (Below w.heap.size w wc))
 case first =>
  have H := HC3.out;clear HC3;rcases ic_ H with ⟨c4, H⟩ | ⟨c4, H⟩
  ·have c4b0 := dE_ c4;clear c4;(first | rw [c4b0] | (simp only [i64_w, i32_w]; rw [c4b0]) | skip)
   obtain ⟨c5, H⟩ := ifn_ H;have c5b0 := dE_ c5;clear c5;rcases ic_ H with ⟨c7, H⟩ | ⟨c7, H⟩
   ·obtain ⟨c7b0, c7b1⟩ := be_ c7;clear c7;have H' := A_ H;clear H;have p6 : 0 ≤ ((wrap64 (a1 + 2)) : Int) := dT_;have q6 : (wrap64 (a1 + 2)) < (a0.size : Int) := dT_;have hx6 := bt_at a0 (wrap64 (a1 + 2));replace p6 := eq_true p6;replace q6 := eq_true q6;go_wp2
    go_meet
    case rel => exact ⟨_, (true), e2_, H', ⟨by first | omega | exact Nat.le_refl _⟩, ⟨hB_⟩⟩
   ·obtain ⟨c7b0, c7b1⟩ := bn_ c7;have H' := A_ H;clear H;have p6 : 0 ≤ ((wrap64 (a1 + 2)) : Int) := dT_;have q6 : (wrap64 (a1 + 2)) < (a0.size : Int) := dT_;have hx6 := bt_at a0 (wrap64 (a1 + 2));replace p6 := eq_true p6;replace q6 := eq_true q6;have p8 : 0 ≤ ((wrap64 (a1 + 2)) : Int) := dT_;have q8 : (wrap64 (a1 + 2)) < (a0.size : Int) := dT_;have hx8 := bt_at a0 (wrap64 (a1 + 2));replace p8 := eq_true p8;replace q8 := eq_true q8;go_wp2
    go_meet
    case rel => exact ⟨_, (((bt a0 (wrap64 (a1 + 2))) == 88)), e2_, H', ⟨by first | omega | exact Nat.le_refl _⟩, ⟨hB_⟩⟩
  ·have c4b0 := dF_ c4;clear c4;(first | rw [c4b0] | (simp only [i64_w, i32_w]; rw [c4b0]) | skip)
   have H' := A_ H;clear H;go_wp2
   go_meet
   case rel => exact ⟨_, (false), e2_, H', ⟨by first | omega | exact Nat.le_refl _⟩, ⟨hB_⟩⟩
 case rest =>
  clear HC3;try clear c1
  try clear p2
  try clear c4
  try clear c4b0
  try clear c5
  try clear c5b0
  try clear p6
  try clear q6
  try clear hx6
  try clear c7
  try clear c7b0
  try clear c7b1
  try clear p8
  try clear q8
  try clear hx8
  try clear p6
  try clear p8
  try clear q6
  try clear q8
  obtain ⟨kq, x27_2, rfl, HA, HJ2, HB⟩ := hcut;cases kq with
  | zero => exact absurd HA.out (by simp [impl_numberRef.j0])
  | succ kj2 =>
   have H := HA.out;clear HA;simp only [impl_numberRef.j0] at H;have HC9 := A_ H;clear H;go_upto_if 27 with (fail)
   go_cut [6, 7] (fun v6 v7 wc => ∃ (kq : Nat) (x6_8 : Int) (x7_8 : Int), v6 = .int .i64 x6_8 ∧ v7 = .int .i64 x7_8 ∧ As9 (impl_numberRef.j1 kq a0 a1 x6_8 x7_8 = some (r1, r2)) ∧ As9 (kq ≤ kj2) ∧ As9 (Below w.heap.size w wc))
   case first =>
    have H := HC9.out;clear HC9;by_cases c10 : x27_2 = true
    ·subst c10;rw [if_pos rfl] at H;have H' := A_ H;clear H;go_wp2
     go_meet
     case rel => exact ⟨_, (wrap64 ((wrap64 (a1 + 2)) + 1)), (16), e2_, e2_, H', ⟨by have := HJ2.out; first | omega | exact Nat.le_refl _⟩, ⟨hB_⟩⟩
    ·replace c10 := bF_ c10;subst c10;rw [if_neg nF_] at H;have H' := A_ H;clear H;go_wp2
     go_meet
     case rel => exact ⟨_, ((wrap64 (a1 + 2))), (10), e2_, e2_, H', ⟨by have := HJ2.out; first | omega | exact Nat.le_refl _⟩, ⟨hB_⟩⟩
   case rest =>
    clear HC9;try clear c1
    try clear p2
    try clear c4
    try clear c4b0
    try clear c5
    try clear c5b0
    try clear p6
    try clear q6
    try clear hx6
    try clear c7
    try clear c7b0
    try clear c7b1
    try clear p8
    try clear q8
    try clear hx8
    try clear c10
    try clear p2
    try clear p6
    try clear p8
    try clear q6
    try clear q8
    obtain ⟨kq, x6_8, x7_8, rfl, rfl, HA, HJ8, HB⟩ := hcut;cases kq with
    | zero => exact absurd HA.out (by simp [impl_numberRef.j1])
    | succ kj8 =>
     have H := HA.out;clear HA;simp only [impl_numberRef.j1] at H;have HC11 := A_ H;clear H;go_upto_block 0 with (fail)
     go_cut [8, 9] (fun v8 v9 wc => ∃ (kq : Nat) (x8_10 : Int) (x9_10 : Int), v8 = .int .i64 x8_10 ∧ v9 = .int .i64 x9_10 ∧ As9 (impl_numberRef.j3 kq a0 a1 x6_8 x8_10 x9_10 = some (r1, r2)) ∧ As9 (kq ≤ kj8) ∧ As9 (Below w.heap.size w wc))
     case first =>
      have H := HC11.out;clear HC11;have H' := A_ H;clear H;go_wp2
      go_loopg [8, 9] kj8 (fun kq v8 v9 w' => ∃ (x8_3 : Int) (x9_3 : Int), v8 = .int .i64 x8_3 ∧ v9 = .int .i64 x9_3 ∧ As9 (impl_numberRef.l0 kq a0 a1 x6_8 x7_8 x8_3 x9_3 = some (r1, r2)) ∧ As9 (kq ≤ kj8) ∧ As9 (Below w.heap.size w w'))
      case atStart => exact ⟨(0), (x6_8), e2_, e2_, H', ⟨Nat.le_refl _⟩, ⟨hB_⟩⟩
      case round =>
       clear H';try clear c1
       try clear p2
       try clear c4
       try clear c4b0
       try clear c5
       try clear c5b0
       try clear p6
       try clear q6
       try clear hx6
       try clear c7
       try clear c7b0
       try clear c7b1
       try clear p8
       try clear q8
       try clear hx8
       try clear c10
       try clear p2
       try clear p6
       try clear p8
       try clear q6
       try clear q8
       obtain ⟨x8_3, x9_3, rfl, rfl, HA, HK3, HB⟩ := hrel;cases gk with
       | zero => exact absurd HA.out (by simp [impl_numberRef.l0])
       | succ k3 =>
        have H := HA.out;clear HA;simp only [impl_numberRef.l0] at H;rcases ic_ H with ⟨c12, H⟩ | ⟨c12, H⟩
        ·have c12b0 := dE_ c12;clear c12;(first | rw [c12b0] | (simp only [i64_w, i32_w]; rw [c12b0]) | skip)
         obtain ⟨c13, H⟩ := ifn_ H;have c13b0 := dE_ c13;clear c13;obtain ⟨t275, A15, H⟩ := ob_ H;rcases ic_ H with ⟨c16, H⟩ | ⟨c16, H⟩
         ·have c16b0 : decide (0 ≤ t275) = true := dE_ c16;clear c16;obtain ⟨t276, A18, H⟩ := ob_ H;(try dsimp only at H)
          obtain ⟨ji19, hji19⟩ : ∃ j_ : Int, (mn (wrap64 ((wrap64 (x8_3 * x7_8)) + t276)) 1114112) = j_ := ⟨_, rfl⟩;replace H : (impl_numberRef.l0 k3 a0 a1 x6_8 x7_8 ji19 (wrap64 (x9_3 + 1))) = some (r1, r2) := by first | (rw [hji19] at H; exact H) | (simp only [hji19] at H ⊢; exact H)
          (try rw [hji19] at A15)
          (try rw [hji19] at A18)
          have hji19_ : (if 1114112 < (wrap64 ((wrap64 (x8_3 * x7_8)) + t276)) then 1114112 else (wrap64 ((wrap64 (x8_3 * x7_8)) + t276))) = ji19 := hji19;have H' := A_ H;clear H;have p14 : 0 ≤ (x9_3 : Int) := dT_;have q14 : x9_3 < (a0.size : Int) := dT_;have hx14 := bt_at a0 x9_3;replace p14 := eq_true p14;replace q14 := eq_true q14;go_wp2_with (first | (go_at_call 175; (with_reducible refine (impl_digitOf.calls k3 (bt a0 x9_3) x7_8 t275 _ A15.out).mono ?_); rintro e w' ⟨rfl, ⟨nd, rfl⟩⟩; have p17 : 0 ≤ (x9_3 : Int) := dT_; have q17 : x9_3 < (a0.size : Int) := dT_; have hx17 := bt_at a0 x9_3; replace p17 := eq_true p17; replace q17 := eq_true q17) | ((with_reducible refine gC_ 175 ?_); refine gL_ 50 Tryz.func175 #[.int .u8 (bt a0 x9_3), .int .i64 x7_8] ?_; refine dm_ (impl_digitOf.calls k3 (bt a0 x9_3) x7_8 t276 _ A18.out) fun nd => ?_))
          go_roundg k3
          case measure => have := HJ2.out; have := HJ8.out; have := HK3.out; omega
          case rel => exact ⟨(ji19), (wrap64 (x9_3 + 1)), (by first | rfl | (simp; done) | (simp only [← hji19] <;> (first | rfl | simp)) | (simp [*]; done)), e2_, H', ⟨by have := HJ2.out; have := HJ8.out; have := HK3.out; omega⟩, ⟨hB_⟩⟩
         ·have c16b0 : decide (0 ≤ t275) = false := dF_ c16;clear c16;have H' := A_ H;clear H;have p14 : 0 ≤ (x9_3 : Int) := dT_;have q14 : x9_3 < (a0.size : Int) := dT_;have hx14 := bt_at a0 x9_3;replace p14 := eq_true p14;replace q14 := eq_true q14;go_wp2_with (first | (go_at_call 175; (with_reducible refine (impl_digitOf.calls k3 (bt a0 x9_3) x7_8 t275 _ A15.out).mono ?_); rintro e w' ⟨rfl, ⟨nd, rfl⟩⟩))
          go_meet
          case rel => exact ⟨_, (x8_3), (x9_3), e2_, e2_, H', ⟨by have := HJ2.out; have := HJ8.out; have := HK3.out; first | omega | exact Nat.le_refl _⟩, ⟨hB_⟩⟩
        ·have c12b0 := dF_ c12;clear c12;(first | rw [c12b0] | (simp only [i64_w, i32_w]; rw [c12b0]) | skip)
         have H' := A_ H;clear H;go_wp2
         go_meet
         case rel => exact ⟨_, (x8_3), (x9_3), e2_, e2_, H', ⟨by have := HJ2.out; have := HJ8.out; have := HK3.out; first | omega | exact Nat.le_refl _⟩, ⟨hB_⟩⟩
     case rest =>
      clear HC11;try clear c1
      try clear p1
      try clear q1
      try clear hx1
      try clear p2
      try clear c4
      try clear c4b0
      try clear c5
      try clear c5b0
      try clear p6
      try clear q6
      try clear hx6
      try clear c7
      try clear c7b0
      try clear c7b1
      try clear p8
      try clear q8
      try clear hx8
      try clear c10
      try clear c12
      try clear c12b0
      try clear c13
      try clear c13b0
      try clear p14
      try clear q14
      try clear hx14
      try clear c16
      try clear c16b0
      try clear c17
      try clear p17
      try clear q17
      try clear hx17
      try clear p14
      try clear p17
      try clear p2
      try clear p6
      try clear p8
      try clear q14
      try clear q17
      try clear q6
      try clear q8
      obtain ⟨kq, x8_10, x9_10, rfl, rfl, HA, HJ10, HB⟩ := hcut;cases kq with
      | zero => exact absurd HA.out (by simp [impl_numberRef.j3])
      | succ kj10 =>
       have H := HA.out;clear HA;simp only [impl_numberRef.j3] at H;rcases ic_ H with ⟨c20, H⟩ | ⟨c20, H⟩
       ·obtain ⟨c20b0, c20b1⟩ := be_ c20;clear c20;obtain ⟨rfl, rfl⟩ := pi_ H;go_wp2
        go_ret2
        exact ⟨e1_, hB_⟩
       ·obtain ⟨c20b0, c20b1⟩ := bn_ c20;obtain ⟨t277, A21, H⟩ := ob_ H;obtain ⟨t278, A22, H⟩ := ob_ H;obtain ⟨t279, A23, H⟩ := ob_ H;(try dsimp only at H)
        obtain ⟨rfl, rfl⟩ := pi_ H;go_wp2_with (first | ((with_reducible refine gC_ 176 ?_); refine gL_ 59 Tryz.func176 #[.int .i64 x8_10] ?_; refine dm_ (impl_Numbered.calls x8_10 t277 _ A21.out) fun nd => ?_) | ((with_reducible refine gC_ 102 ?_); refine gL_ 60 Tryz.func102 #[.int .i64 t277] ?_; refine bm_ (impl_PutSign.calls kj10 t277 t278 _ A22.out) ?_; clear HB; intro w24 HB) | ((with_reducible refine gC_ 164 ?_); refine gL_ 63 Tryz.func164 #[.string a0, .int .i64 x9_10] ?_; refine dm_ (impl_withEnd.calls a0 x9_10 t279 _ A23.out) fun nd => ?_))
        go_ret2
        exact ⟨e1_, hB_⟩
def impl_Named.f  : Option (List ByteArray) := some (([(⟨#[97, 109, 112]⟩ : BA), (⟨#[97, 112, 111, 115]⟩ : BA), (⟨#[99, 111, 112, 121]⟩ : BA), (⟨#[101, 117, 114, 111]⟩ : BA), (⟨#[103, 116]⟩ : BA), (⟨#[104, 101, 108, 108, 105, 112]⟩ : BA), (⟨#[108, 116]⟩ : BA), (⟨#[109, 100, 97, 115, 104]⟩ : BA), (⟨#[110, 98, 115, 112]⟩ : BA), (⟨#[110, 111, 116]⟩ : BA), (⟨#[110, 111, 116, 105, 110]⟩ : BA), (⟨#[113, 117, 111, 116]⟩ : BA), (⟨#[114, 101, 103]⟩ : BA), (⟨#[116, 105, 109, 101, 115]⟩ : BA)] : List ByteArray))
theorem impl_Named.calls  (r : List ByteArray) (w : World) (h : impl_Named.f  = some r) :
  Calls Tryz.prog 163 #[] w fun e w' => ∃ v0_ : Value, e = .returned (v0_) ∧ Kd.R Kd.string 9 w' w.heap.size (fun _ => True) v0_ r ∧ Below w.heap.size w w' := by
 have HB := A_ (Below.refl w.heap.size w);have H : (some (([(⟨#[97, 109, 112]⟩ : BA), (⟨#[97, 112, 111, 115]⟩ : BA), (⟨#[99, 111, 112, 121]⟩ : BA), (⟨#[101, 117, 114, 111]⟩ : BA), (⟨#[103, 116]⟩ : BA), (⟨#[104, 101, 108, 108, 105, 112]⟩ : BA), (⟨#[108, 116]⟩ : BA), (⟨#[109, 100, 97, 115, 104]⟩ : BA), (⟨#[110, 98, 115, 112]⟩ : BA), (⟨#[110, 111, 116]⟩ : BA), (⟨#[110, 111, 116, 105, 110]⟩ : BA), (⟨#[113, 117, 111, 116]⟩ : BA), (⟨#[114, 101, 103]⟩ : BA), (⟨#[116, 105, 109, 101, 115]⟩ : BA)] : List ByteArray))) = some r := h;clear h;obtain ⟨y280, hy280⟩ : ∃ y_ : List ByteArray, y_ = (([(⟨#[97, 109, 112]⟩ : BA), (⟨#[97, 112, 111, 115]⟩ : BA), (⟨#[99, 111, 112, 121]⟩ : BA), (⟨#[101, 117, 114, 111]⟩ : BA), (⟨#[103, 116]⟩ : BA), (⟨#[104, 101, 108, 108, 105, 112]⟩ : BA), (⟨#[108, 116]⟩ : BA), (⟨#[109, 100, 97, 115, 104]⟩ : BA), (⟨#[110, 98, 115, 112]⟩ : BA), (⟨#[110, 111, 116]⟩ : BA), (⟨#[110, 111, 116, 105, 110]⟩ : BA), (⟨#[113, 117, 111, 116]⟩ : BA), (⟨#[114, 101, 103]⟩ : BA), (⟨#[116, 105, 109, 101, 115]⟩ : BA)] : List ByteArray)) := ⟨_, rfl⟩;replace H : (some y280) = some r := by first | (rw [hy280]; with_reducible exact H) | (have H2_ := (Option.bind_some _ _).symm.trans H; rw [hy280]; with_reducible exact H2_) | (have H2_ := (Option.bind_some _ _).symm.trans H; with_reducible exact H2_) | with_reducible exact H | (rw [hy280]; exact H) | exact H
 have Ny280 := A_ hy280;clear hy280;obtain rfl := sI_ H;go_enter Tryz.func163, Tryz.ntmps163
 go_wp2_with (first | ((with_reducible refine gate_dst (N := 1) rfl ?_); refine rl_ Kd.string 9 1 [(⟨#[97, 109, 112]⟩ : BA), (⟨#[97, 112, 111, 115]⟩ : BA), (⟨#[99, 111, 112, 121]⟩ : BA), (⟨#[101, 117, 114, 111]⟩ : BA), (⟨#[103, 116]⟩ : BA), (⟨#[104, 101, 108, 108, 105, 112]⟩ : BA), (⟨#[108, 116]⟩ : BA), (⟨#[109, 100, 97, 115, 104]⟩ : BA), (⟨#[110, 98, 115, 112]⟩ : BA), (⟨#[110, 111, 116]⟩ : BA), (⟨#[110, 111, 116, 105, 110]⟩ : BA), (⟨#[113, 117, 111, 116]⟩ : BA), (⟨#[114, 101, 103]⟩ : BA), (⟨#[116, 105, 109, 101, 115]⟩ : BA)] [.string (⟨#[97, 109, 112]⟩ : BA), .string (⟨#[97, 112, 111, 115]⟩ : BA), .string (⟨#[99, 111, 112, 121]⟩ : BA), .string (⟨#[101, 117, 114, 111]⟩ : BA), .string (⟨#[103, 116]⟩ : BA), .string (⟨#[104, 101, 108, 108, 105, 112]⟩ : BA), .string (⟨#[108, 116]⟩ : BA), .string (⟨#[109, 100, 97, 115, 104]⟩ : BA), .string (⟨#[110, 98, 115, 112]⟩ : BA), .string (⟨#[110, 111, 116]⟩ : BA), .string (⟨#[110, 111, 116, 105, 110]⟩ : BA), .string (⟨#[113, 117, 111, 116]⟩ : BA), .string (⟨#[114, 101, 103]⟩ : BA), .string (⟨#[116, 105, 109, 101, 115]⟩ : BA)] ?_; intro v281 w1 ho2 hb hg_ hnew_; clear hg_ hnew_; (first | rw [← Ny280.out] at ho2 | (simp only [Int.reduceToNat] at ho2; rw [← Ny280.out] at ho2)); have HO282 := A_ (Kd.R_lower ho2 (below_size hB_)); replace HB := bS_ hb; clear hb ho2))
 go_ret
 exact ⟨_, e1_, kQ_ HO282.out, hB_⟩
def impl_isAfter.f (k : Nat) (a0 : BA) (a1 : Int) : Option (Bool) := if a1 < (a0.size : Int) then (if 0 ≤ a1 then (if (bt a0 a1) = 61 then (some true) else ((impl_IsLetter.f (wrap64 (bt a0 a1))).bind fun t283 => (if t283 = true then (some true) else ((impl_digitOf.f k (bt a0 a1) 10).bind fun t284 => (some (decide (t284 ≥ 0))))))) else (none)) else (some false)
theorem impl_isAfter.mono : ∀ a0 a1 k, LeO (impl_isAfter.f k a0 a1) (impl_isAfter.f (k + 1) a0 a1) := by
 intro a0 a1 k;unfold impl_isAfter.f;with_reducible repeat' first | exact impl_digitOf.mono _ _ _ | apply LeO.refl | apply LeO.none | apply LeO.ite | apply LeO.bind | intro
theorem impl_isAfter.calls (k : Nat) (a0 : BA) (a1 : Int) (r : Bool) (w : World) (h : impl_isAfter.f k a0 a1 = some r) :
  Calls Tryz.prog 165 #[.string a0, .int .i64 a1] w fun e w' => e = .returned (.bool r) ∧ Drawn0 w w' := by
 have H : (if a1 < (a0.size : Int) then (if 0 ≤ a1 then (if (bt a0 a1) = 61 then (some true) else ((impl_IsLetter.f (wrap64 (bt a0 a1))).bind fun t283 => (if t283 = true then (some true) else ((impl_digitOf.f k (bt a0 a1) 10).bind fun t284 => (some (decide (t284 ≥ 0))))))) else (none)) else (some false)) = some r := h;clear h;rcases ic_ H with ⟨c3, H⟩ | ⟨c3, H⟩
 ·have c3b0 := dE_ c3;clear c3;obtain ⟨c4, H⟩ := ifn_ H;have c4b0 := dE_ c4;clear c4;rcases ic_ H with ⟨c6, H⟩ | ⟨c6, H⟩
  ·obtain ⟨c6b0, c6b1⟩ := be_ c6;clear c6;obtain rfl := sI_ H;have p5 : 0 ≤ (a1 : Int) := dT_;have q5 : a1 < (a0.size : Int) := dT_;have hx5 := bt_at a0 a1;replace p5 := eq_true p5;replace q5 := eq_true q5;go_enter Tryz.func165, Tryz.ntmps165
   go_wp2
   go_ret
   exact ⟨e2_, d0_⟩
  ·obtain ⟨c6b0, c6b1⟩ := bn_ c6;obtain ⟨t283, A8, H⟩ := ob_ H;(try dsimp only at H)
   by_cases c9 : t283 = true
   ·subst c9;rw [if_pos rfl] at H;obtain rfl := sI_ H;have p5 : 0 ≤ (a1 : Int) := dT_;have q5 : a1 < (a0.size : Int) := dT_;have hx5 := bt_at a0 a1;replace p5 := eq_true p5;replace q5 := eq_true q5;have p7 : 0 ≤ (a1 : Int) := dT_;have q7 : a1 < (a0.size : Int) := dT_;have hx7 := bt_at a0 a1;replace p7 := eq_true p7;replace q7 := eq_true q7;go_enter Tryz.func165, Tryz.ntmps165
    go_wp2_with (first | (go_at_call 104; (with_reducible refine (impl_IsLetter.calls (wrap64 (bt a0 a1)) true _ A8.out).mono ?_); rintro e w' ⟨rfl, ⟨nd, rfl⟩⟩))
    go_ret
    exact ⟨e2_, d0_⟩
   ·replace c9 := bF_ c9;subst c9;rw [if_neg nF_] at H;obtain ⟨t284, A11, H⟩ := ob_ H;obtain rfl := sI_ H;have p5 : 0 ≤ (a1 : Int) := dT_;have q5 : a1 < (a0.size : Int) := dT_;have hx5 := bt_at a0 a1;replace p5 := eq_true p5;replace q5 := eq_true q5;have p7 : 0 ≤ (a1 : Int) := dT_;have q7 : a1 < (a0.size : Int) := dT_;have hx7 := bt_at a0 a1;replace p7 := eq_true p7;replace q7 := eq_true q7;go_enter Tryz.func165, Tryz.ntmps165
    go_wp2_with (first | (go_at_call 104; (with_reducible refine (impl_IsLetter.calls (wrap64 (bt a0 a1)) false _ A8.out).mono ?_); rintro e w' ⟨rfl, ⟨nd, rfl⟩⟩; have p10 : 0 ≤ (a1 : Int) := dT_; have q10 : a1 < (a0.size : Int) := dT_; have hx10 := bt_at a0 a1; replace p10 := eq_true p10; replace q10 := eq_true q10) | (go_at_call 175; (with_reducible refine (impl_digitOf.calls k (bt a0 a1) 10 t284 _ A11.out).mono ?_); rintro e w' ⟨rfl, ⟨nd, rfl⟩⟩))
    go_ret
    exact ⟨e2_, d0_⟩
 ·have c3b0 := dF_ c3;clear c3;obtain rfl := sI_ H;go_enter Tryz.func165, Tryz.ntmps165
  go_wp2
  go_ret
  exact ⟨e2_, d0_⟩
def namedL : List ByteArray := [(⟨#[97, 109, 112]⟩ : BA), (⟨#[97, 112, 111, 115]⟩ : BA), (⟨#[99, 111, 112, 121]⟩ : BA), (⟨#[101, 117, 114, 111]⟩ : BA), (⟨#[103, 116]⟩ : BA), (⟨#[104, 101, 108, 108, 105, 112]⟩ : BA), (⟨#[108, 116]⟩ : BA), (⟨#[109, 100, 97, 115, 104]⟩ : BA), (⟨#[110, 98, 115, 112]⟩ : BA), (⟨#[110, 111, 116]⟩ : BA), (⟨#[110, 111, 116, 105, 110]⟩ : BA), (⟨#[113, 117, 111, 116]⟩ : BA), (⟨#[114, 101, 103]⟩ : BA), (⟨#[116, 105, 109, 101, 115]⟩ : BA)]
def signL : List Int := [38, 39, 169, 8364, 62, 8230, 60, 8212, 160, 172, 8713, 34, 174, 215]
def nsL : List ByteArray → List Int → ByteArray → Int
 | n :: ns, x :: xs, a => if n.toList = a.toList then x else nsL ns xs a
 | _, _, _ => -1
theorem named_f : impl_Named.f = some namedL := rfl
theorem ns_drop (a : BA) : ∀ (ns : List ByteArray) (xs : List Int) (j : Nat), ns.length = xs.length → (h : j < ns.length) →
  nsL (ns.drop j) (xs.drop j) a = if (ns[j]'h).toList = a.toList then xs.getD j 0 else nsL (ns.drop (j + 1)) (xs.drop (j + 1)) a := by
 intro ns xs j hl h;rw [List.drop_eq_getElem_cons h, List.drop_eq_getElem_cons (show j < xs.length by omega)];simp only [nsL];rw [List.getD_eq_getElem?_getD, List.getElem?_eq_getElem (show j < xs.length by omega)];rfl
def impl_NameSign.f (a0 : BA) : Option Int := some (nsL namedL signL a0)
theorem impl_NameSign.calls (a0 : BA) (r : Int) (w : World) (h : impl_NameSign.f a0 = some r) :
  Calls Tryz.prog 166 #[.string a0] w fun e w' => e = .returned (.int .i64 r) ∧ Below w.heap.size w w' := by
 obtain rfl := sI_ h;clear h;have hn := A_ named_f;have hu := Tryz.underlying142;go_enter Tryz.func166, Tryz.ntmps166
 go_wp2_with ((go_at_call 163; (with_reducible refine (impl_Named.calls _ _ hn.out).mono ?_); rintro r w2 ⟨v, rfl, ho, hb⟩; obtain ⟨Ao, co, eo⟩ := Kd.R_slice ho; subst eo))
 have hg : w2.heap[w.heap.size]? = some (.cells #[.int .i64 38, .int .i64 39, .int .i64 169, .int .i64 8364, .int .i64 62, .int .i64 8230, .int .i64 60, .int .i64 8212, .int .i64 160, .int .i64 172, .int .i64 8713, .int .i64 34, .int .i64 174, .int .i64 215] 142 (0, 0)) := (hb.block _ si_).trans (heap_alloc_new w _);have HG := A_ hg;have HO := A_ (Kd.R_reads' ho).2.2;have HBB := A_ (below_step (bA9 (Below.refl _ _) _) hb);have hlen : namedL.length = 14 := rfl;have HL := A_ hlen;clear hg ho hb hlen hn;go_loopg [9] 14 (fun kq v9 wr => ∃ j : Int, v9 = .int .i64 j ∧ 0 ≤ j ∧ j ≤ 14 ∧ As9 (kq = 14 - j.toNat) ∧ As9 (nsL (namedL.drop j.toNat) (signL.drop j.toNat) a0 = nsL namedL signL a0) ∧ As9 (w2 = wr))
 case atStart => exact ⟨0, rfl, Int.le_refl _, om_, ⟨rfl⟩, ⟨rfl⟩, ⟨rfl⟩⟩
 case round =>
  obtain ⟨j, rfl, j0, hj, HM, HE, HW⟩ := hrel;have hw2 := HW.out;subst hw2;clear HW;by_cases hlt : j < (namedL.length : Int)
  ·have hjn : j.toNat < namedL.length := om_;have hj14 : j < 14 := by have := HL.out; omega
   obtain ⟨ad, ea, hx0⟩ := Kd.at_string HO.out j j0 hlt;cases ea;have hns := ns_drop a0 namedL signL j.toNat rfl hjn;have hrd : rdOf ByteArray.empty namedL j = namedL[j.toNat] := by
    unfold rdOf; rw [List.getD_eq_getElem?_getD, List.getElem?_eq_getElem hjn]; rfl
   rw [← hrd] at hns;have HNS := A_ hns;have hcell : w2.cell? ⟨w.heap.size, j.toNat, none⟩ = some (.int .i64 (signL.getD j.toNat 0)) := by
    rw [blk_cell HG.out];have : j = 0 ∨ j = 1 ∨ j = 2 ∨ j = 3 ∨ j = 4 ∨ j = 5 ∨ j = 6 ∨ j = 7 ∨ j = 8 ∨ j = 9 ∨ j = 10 ∨ j = 11 ∨ j = 12 ∨ j = 13 := om_;rcases this with rfl | rfl | rfl | rfl | rfl | rfl | rfl | rfl | rfl | rfl | rfl | rfl | rfl | rfl <;> rfl
   clear hns hrd hjn;have p7 := eq_true j0;have q7 := eq_true hlt;by_cases hc : (rdOf ByteArray.empty namedL j).toList = a0.toList
   ·have hcb : ((rdOf ByteArray.empty namedL j).toList == a0.toList) = true := bQ_ hc;have HC := A_ hc;clear hc;go_wp2
    go_ret
    exact ⟨by rw [← HE.out, HNS.out, if_pos HC.out]; simp [List.getD_eq_getElem?_getD], HBB.out⟩
   ·have hcb : ((rdOf ByteArray.empty namedL j).toList == a0.toList) = false := bN_ hc;go_wp2
    go_roundg (14 - (j + 1).toNat)
    case measure => have := HM.out; omega
    case rel => exact ⟨j + 1, rfl, om_, om_, ⟨rfl⟩, ⟨by rw [← HE.out, HNS.out, if_neg hc, show (j + 1).toNat = j.toNat + 1 by omega]⟩, ⟨rfl⟩⟩
  ·go_wp2
   go_ret
   exact ⟨by rw [← HE.out, List.drop_of_length_le om_]; rfl, HBB.out⟩
mutual
def impl_Ref.j0 : Nat → ByteArray → Int → Bool → Bool → Option (ByteArray × Int)
 | 0, _, _, _, _ => none
 | k + 1, x0, x1, x2, x24 => if x24 = true then (some ((⟨#[]⟩ : BA), 0)) else (if 0 ≤ (wrap64 (x1 + 1)) then (if (wrap64 (x1 + 1)) ≤ (x0.size : Int) then ((strings_HasPrefix.f (x0.extract ((wrap64 (x1 + 1)) : Int).toNat x0.size) (⟨#[35]⟩ : BA)).bind fun t286 => (if t286 = true then ((impl_numberRef.f k x0 x1).bind fun bt287 => (some (bt287.1, bt287.2))) else ((impl_Named.f).bind fun t289 => (impl_Ref.l0 k x0 x1 x2 (x0.extract ((wrap64 (x1 + 1)) : Int).toNat x0.size) (⟨#[]⟩ : BA) t289 (t289.length : Int) 0)))) else (none)) else (none))
def impl_Ref.l0 : Nat → ByteArray → Int → Bool → ByteArray → ByteArray → List ByteArray → Int → Int → Option (ByteArray × Int)
 | 0, _, _, _, _, _, _, _, _ => none
 | k + 1, x0, x1, x2, x8, x9, x36, x37, x38 => if x38 < x37 then (if 0 ≤ x38 then (if x38 < (x36.length : Int) then (if ((rdOf ByteArray.empty x36 x38).size : Int) > (x9.size : Int) then ((strings_HasPrefix.f x8 (rdOf ByteArray.empty x36 x38)).bind fun t293 => (if t293 = true then (impl_Ref.l0 k x0 x1 x2 x8 (rdOf ByteArray.empty x36 x38) x36 x37 (wrap64 (x38 + 1))) else (impl_Ref.l0 k x0 x1 x2 x8 x9 x36 x37 (wrap64 (x38 + 1))))) else (impl_Ref.l0 k x0 x1 x2 x8 x9 x36 x37 (wrap64 (x38 + 1)))) else (none)) else (none)) else (if x9.toList = ([] : List UInt8) then (some ((⟨#[]⟩ : BA), 0)) else ((impl_withEnd.f x0 (wrap64 ((wrap64 (x1 + 1)) + (x9.size : Int)))).bind fun t294 => (if t294 = (wrap64 ((wrap64 (x1 + 1)) + (x9.size : Int))) then (if x2 = true then ((impl_isAfter.f k x0 (wrap64 ((wrap64 (x1 + 1)) + (x9.size : Int)))).bind fun t295 => (impl_Ref.j2 k x0 x1 x9 (wrap64 ((wrap64 (x1 + 1)) + (x9.size : Int))) t295)) else (impl_Ref.j2 k x0 x1 x9 (wrap64 ((wrap64 (x1 + 1)) + (x9.size : Int))) false)) else (impl_Ref.j2 k x0 x1 x9 (wrap64 ((wrap64 (x1 + 1)) + (x9.size : Int))) false))))
def impl_Ref.j2 : Nat → ByteArray → Int → ByteArray → Int → Bool → Option (ByteArray × Int)
 | 0, _, _, _, _, _ => none
 | k + 1, x0, x1, x9, x12, x73 => if x73 = true then (some ((⟨#[]⟩ : BA), 0)) else ((impl_NameSign.f x9).bind fun t296 => ((impl_PutSign.f k t296).bind fun t297 => ((impl_withEnd.f x0 x12).bind fun t298 => (some (t297, wrap64 (t298 - x1))))))
end
def impl_Ref.f (k : Nat) (a0 : BA) (a1 : Int) (a2 : Bool) : Option (ByteArray × Int) := (impl_inRange.f a1 0 (wrap64 ((a0.size : Int) - 1))).bind fun t285 => (if t285 = true then (if 0 ≤ a1 then (if a1 < (a0.size : Int) then (impl_Ref.j0 k a0 a1 a2 ((bt a0 a1) != 38)) else (none)) else (none)) else (impl_Ref.j0 k a0 a1 a2 true))
theorem impl_Ref.mono_l : ∀ k, (∀ y0 y1 y2 y3, LeO (impl_Ref.j0 k y0 y1 y2 y3) (impl_Ref.j0 (k + 1) y0 y1 y2 y3)) ∧ (∀ y0 y1 y2 y3 y4 y5 y6 y7, LeO (impl_Ref.l0 k y0 y1 y2 y3 y4 y5 y6 y7) (impl_Ref.l0 (k + 1) y0 y1 y2 y3 y4 y5 y6 y7)) ∧ (∀ y0 y1 y2 y3 y4, LeO (impl_Ref.j2 k y0 y1 y2 y3 y4) (impl_Ref.j2 (k + 1) y0 y1 y2 y3 y4))
 | 0 => ⟨fun _ _ _ _ r h => by simp [impl_Ref.j0] at h, fun _ _ _ _ _ _ _ _ r h => by simp [impl_Ref.l0] at h, fun _ _ _ _ _ r h => by simp [impl_Ref.j2] at h⟩
 | k + 1 => by
  obtain ⟨ih0, ih1, ih2⟩ := impl_Ref.mono_l k;refine ⟨?_, ?_, ?_⟩
  ·intro y0 y1 y2 y3;unfold impl_Ref.j0;with_reducible repeat' first | exact ih0 _ _ _ _ | exact ih1 _ _ _ _ _ _ _ _ | exact ih2 _ _ _ _ _ | exact impl_PutSign.mono _ _ | exact impl_isAfter.mono _ _ _ | exact impl_numberRef.mono _ _ _ | apply LeO.refl | apply LeO.none | apply LeO.ite | apply LeO.bind | intro
  ·intro y0 y1 y2 y3 y4 y5 y6 y7;unfold impl_Ref.l0;with_reducible repeat' first | exact ih0 _ _ _ _ | exact ih1 _ _ _ _ _ _ _ _ | exact ih2 _ _ _ _ _ | exact impl_PutSign.mono _ _ | exact impl_isAfter.mono _ _ _ | exact impl_numberRef.mono _ _ _ | apply LeO.refl | apply LeO.none | apply LeO.ite | apply LeO.bind | intro
  ·intro y0 y1 y2 y3 y4;unfold impl_Ref.j2;with_reducible repeat' first | exact ih0 _ _ _ _ | exact ih1 _ _ _ _ _ _ _ _ | exact ih2 _ _ _ _ _ | exact impl_PutSign.mono _ _ | exact impl_isAfter.mono _ _ _ | exact impl_numberRef.mono _ _ _ | apply LeO.refl | apply LeO.none | apply LeO.ite | apply LeO.bind | intro
theorem impl_Ref.mono : ∀ a0 a1 a2 k, LeO (impl_Ref.f k a0 a1 a2) (impl_Ref.f (k + 1) a0 a1 a2) := by
 intro a0 a1 a2 k;obtain ⟨ih0, ih1, ih2⟩ := impl_Ref.mono_l k;unfold impl_Ref.f;with_reducible repeat' first | exact ih0 _ _ _ _ | exact ih1 _ _ _ _ _ _ _ _ | exact ih2 _ _ _ _ _ | exact impl_PutSign.mono _ _ | exact impl_isAfter.mono _ _ _ | exact impl_numberRef.mono _ _ _ | apply LeO.refl | apply LeO.none | apply LeO.ite | apply LeO.bind | intro
theorem impl_Ref.calls (k : Nat) (a0 : BA) (a1 : Int) (a2 : Bool) (r1 : BA) (r2 : Int) (w : World) (h : impl_Ref.f k a0 a1 a2 = some (r1, r2)) :
  Calls Tryz.prog 145 #[.string a0, .int .i64 a1, .bool a2] w fun e w' => e = .returned (.tuple #[.string r1, .int .i64 r2]) ∧ Below w.heap.size w w' := by
 have HB := A_ (Below.refl w.heap.size w);have H : ((impl_inRange.f a1 0 (wrap64 ((a0.size : Int) - 1))).bind fun t285 => (if t285 = true then (if 0 ≤ a1 then (if a1 < (a0.size : Int) then (impl_Ref.j0 k a0 a1 a2 ((bt a0 a1) != 38)) else (none)) else (none)) else (impl_Ref.j0 k a0 a1 a2 true))) = some (r1, r2) := h;clear h;have HC4 := A_ H;clear H;go_enter Tryz.func145, Tryz.ntmps145
 go_upto_region 1 with (fail)
 go_cut [24] (fun v24 wc => ∃ (kq : Nat) (x24_3 : Bool), v24 = .bool x24_3 ∧ As9 (impl_Ref.j0 kq a0 a1 a2 x24_3 = some (r1, r2)) ∧ As9 (kq ≤ k) ∧ As9 (Below w.heap.size w wc))
 case first =>
  have H := HC4.out;clear HC4;obtain ⟨t285, A5, H⟩ := ob_ H;(try dsimp only at H)
  by_cases c6 : t285 = true
  ·subst c6;rw [if_pos rfl] at H;obtain ⟨c7, H⟩ := ifn_ H;have c7b0 := dE_ c7;clear c7;(first | rw [c7b0] | (simp only [i64_w, i32_w]; rw [c7b0]) | skip)
   obtain ⟨c8, H⟩ := ifn_ H;have c8b0 := dE_ c8;clear c8;have H' := A_ H;clear H;go_wp2_with (first | ((with_reducible refine gC_ 144 ?_); refine gL_ 17 Tryz.func144 #[.int .i64 a1, .int .i64 0, .int .i64 (wrap64 ((a0.size : Int) - 1))] ?_; (with_reducible refine (impl_inRange.calls a1 0 (wrap64 ((a0.size : Int) - 1)) true _ A5.out).mono ?_); rintro e w' ⟨rfl, ⟨nd, rfl⟩⟩; refine ⟨_, rfl, ?_⟩; have p9 : 0 ≤ (a1 : Int) := dT_; have q9 : a1 < (a0.size : Int) := dT_; have hx9 := bt_at a0 a1; replace p9 := eq_true p9; replace q9 := eq_true q9))
   go_meet
   case rel => exact ⟨_, (((bt a0 a1) != 38)), e2_, H', ⟨by first | omega | exact Nat.le_refl _⟩, ⟨hB_⟩⟩
  ·replace c6 := bF_ c6;subst c6;rw [if_neg nF_] at H;have H' := A_ H;clear H;go_wp2_with (first | ((with_reducible refine gC_ 144 ?_); refine gL_ 17 Tryz.func144 #[.int .i64 a1, .int .i64 0, .int .i64 (wrap64 ((a0.size : Int) - 1))] ?_; (with_reducible refine (impl_inRange.calls a1 0 (wrap64 ((a0.size : Int) - 1)) false _ A5.out).mono ?_); rintro e w' ⟨rfl, ⟨nd, rfl⟩⟩; refine ⟨_, rfl, ?_⟩))
   go_meet
   case rel => exact ⟨_, (true), e2_, H', ⟨by first | omega | exact Nat.le_refl _⟩, ⟨hB_⟩⟩
 case rest =>
  clear HC4;try clear c1
  try clear p2
  try clear c6
  try clear p6
  try clear c7
  try clear c7b0
  try clear c8
  try clear c8b0
  try clear p9
  try clear q9
  try clear hx9
  try clear p9
  try clear q9
  obtain ⟨kq, x24_3, rfl, HA, HJ3, HB⟩ := hcut;cases kq with
  | zero => exact absurd HA.out (by simp [impl_Ref.j0])
  | succ kj3 =>
   have H := HA.out;clear HA;simp only [impl_Ref.j0] at H;by_cases c10 : x24_3 = true
   ·subst c10;rw [if_pos rfl] at H;obtain ⟨rfl, rfl⟩ := pi_ H;go_wp2
    go_ret2
    exact ⟨e1_, hB_⟩
   ·replace c10 := bF_ c10;subst c10;rw [if_neg nF_] at H;obtain ⟨c11, H⟩ := ifn_ H;have c11b0 := eq_true c11;have c11b1 := dE_ c11;obtain ⟨c12, H⟩ := ifn_ H;have c12b0 := eq_true c12;have c12b1 := dE_ c12;obtain ⟨t286, A13, H⟩ := ob_ H;(try dsimp only at H)
    by_cases c14 : t286 = true
    ·subst c14;rw [if_pos rfl] at H;obtain ⟨⟨t287, t288⟩, A15, H⟩ := ob_ H;(try dsimp only at H)
     obtain ⟨rfl, rfl⟩ := pi_ H;go_wp2_with (first | ((with_reducible refine gC_ 67 ?_); refine gL_ 30 Tryz.func67 #[.string (a0.extract ((wrap64 (a1 + 1)) : Int).toNat a0.size), .string (⟨#[35]⟩ : BA)] ?_; (with_reducible refine (strings_HasPrefix.calls (a0.extract ((wrap64 (a1 + 1)) : Int).toNat a0.size) (⟨#[35]⟩ : BA) true _ A13.out).mono ?_); rintro e w' ⟨rfl, ⟨nd, rfl⟩⟩; refine ⟨_, rfl, ?_⟩) | ((with_reducible refine gC_ 162 ?_); refine gL_ 33 Tryz.func162 #[.string a0, .int .i64 a1] ?_; refine bm_ (impl_numberRef.calls kj3 a0 a1 t287 t288 _ A15.out) ?_; clear HB; intro w16 HB))
     go_ret2
     exact ⟨e1_, hB_⟩
    ·replace c14 := bF_ c14;subst c14;rw [if_neg nF_] at H;obtain ⟨t289, A17, H⟩ := ob_ H;(try dsimp only at H)
     have H' := A_ H;clear H;go_wp2_with (first | ((with_reducible refine gC_ 67 ?_); refine gL_ 30 Tryz.func67 #[.string (a0.extract ((wrap64 (a1 + 1)) : Int).toNat a0.size), .string (⟨#[35]⟩ : BA)] ?_; (with_reducible refine (strings_HasPrefix.calls (a0.extract ((wrap64 (a1 + 1)) : Int).toNat a0.size) (⟨#[35]⟩ : BA) false _ A13.out).mono ?_); rintro e w' ⟨rfl, ⟨nd, rfl⟩⟩; refine ⟨_, rfl, ?_⟩) | ((with_reducible refine gC_ 163 ?_); refine gL_ 36 Tryz.func163 #[] ?_; (with_reducible refine (impl_Named.calls  t289 _ A17.out).mono ?_); rintro e w18 ⟨v290, rfl, ho0, hb⟩; refine ⟨_, rfl, ?_⟩; have HO291 := A_ (Kd.R_lower ho0 (below_size hB_)); replace HB := bS_ hb; clear hb; (try clear ho0); obtain ⟨Ao19, co19, eo19⟩ := Kd.R_slice HO291.out; subst eo19))
     go_loopg [9, 38] kj3 (fun kq v9 v38 w' => ∃ (x9_2 : BA) (x38_2 : Int), v9 = .string x9_2 ∧ v38 = .int .i64 x38_2 ∧ As9 (impl_Ref.l0 kq a0 a1 a2 (a0.extract ((wrap64 (a1 + 1)) : Int).toNat a0.size) x9_2 t289 (t289.length : Int) x38_2 = some (r1, r2)) ∧ As9 (kq ≤ kj3) ∧ As9 (Kd.R Kd.string 9 w' w.heap.size (fun _ => True) (.slice Ao19 t289.length co19) t289) ∧ As9 (Below w.heap.size w w'))
     case atStart => exact ⟨((⟨#[]⟩ : BA)), (0), e2_, e2_, H', ⟨Nat.le_refl _⟩, ⟨kQ_ HO291.out⟩, ⟨hB_⟩⟩
     case round =>
      clear H';try clear c1
      try clear p2
      try clear c6
      try clear p6
      try clear c7
      try clear c7b0
      try clear c8
      try clear c8b0
      try clear p9
      try clear q9
      try clear hx9
      try clear c10
      try clear c11
      try clear c11b0
      try clear c11b1
      try clear c12
      try clear c12b0
      try clear c12b1
      try clear c14
      try clear c16
      try clear p2
      try clear p6
      try clear p9
      try clear q9
      obtain ⟨x9_2, x38_2, rfl, rfl, HA, HK2, HO_36, HB⟩ := hrel;cases gk with
      | zero => exact absurd HA.out (by simp [impl_Ref.l0])
      | succ k2 =>
       have H := HA.out;clear HA;simp only [impl_Ref.l0] at H;rcases ic_ H with ⟨c20, H⟩ | ⟨c20, H⟩
       ·have c20b0 := dE_ c20;clear c20;obtain ⟨c21, H⟩ := ifn_ H;have c21b0 := dE_ c21;clear c21;obtain ⟨c22, H⟩ := ifn_ H;have c22b0 := dE_ c22;clear c22;rcases ic_ H with ⟨c23, H⟩ | ⟨c23, H⟩
        ·have c23b0 : decide ((x9_2.size : Int) < ((rdOf ByteArray.empty t289 x38_2).size : Int)) = true := dE_ c23;have c23b1 : decide (x9_2.size < (rdOf ByteArray.empty t289 x38_2).size) = true := dE_ (Int.ofNat_lt.mp c23);clear c23;obtain ⟨t293, A24, H⟩ := ob_ H;(try dsimp only at H)
         by_cases c25 : t293 = true
         ·subst c25;rw [if_pos rfl] at H;have H' := A_ H;clear H;have p292 : 0 ≤ (x38_2 : Int) := dT_;have q292 : x38_2 < (t289.length : Int) := dT_;obtain ⟨ad292, e292, hx292_0⟩ := Kd.at_string (Kd.R_reads' HO_36.out).2.2 x38_2 p292 q292;cases e292;replace p292 := eq_true p292;replace q292 := eq_true q292;go_wp2_with (first | (go_at_call 67; (with_reducible refine (strings_HasPrefix.calls (a0.extract ((wrap64 (a1 + 1)) : Int).toNat a0.size) (rdOf ByteArray.empty t289 x38_2) true _ A24.out).mono ?_); rintro e w' ⟨rfl, ⟨nd, rfl⟩⟩))
          go_roundg k2
          case measure => have := HJ3.out; have := HK2.out; omega
          case rel => exact ⟨(rdOf ByteArray.empty t289 x38_2), (wrap64 (x38_2 + 1)), e2_, e2_, H', ⟨by have := HJ3.out; have := HK2.out; omega⟩, ⟨kQ_ HO_36.out⟩, ⟨hB_⟩⟩
         ·replace c25 := bF_ c25;subst c25;rw [if_neg nF_] at H;have H' := A_ H;clear H;have p292 : 0 ≤ (x38_2 : Int) := dT_;have q292 : x38_2 < (t289.length : Int) := dT_;obtain ⟨ad292, e292, hx292_0⟩ := Kd.at_string (Kd.R_reads' HO_36.out).2.2 x38_2 p292 q292;cases e292;replace p292 := eq_true p292;replace q292 := eq_true q292;go_wp2_with (first | (go_at_call 67; (with_reducible refine (strings_HasPrefix.calls (a0.extract ((wrap64 (a1 + 1)) : Int).toNat a0.size) (rdOf ByteArray.empty t289 x38_2) false _ A24.out).mono ?_); rintro e w' ⟨rfl, ⟨nd, rfl⟩⟩))
          go_roundg k2
          case measure => have := HJ3.out; have := HK2.out; omega
          case rel => exact ⟨(x9_2), (wrap64 (x38_2 + 1)), e2_, e2_, H', ⟨by have := HJ3.out; have := HK2.out; omega⟩, ⟨kQ_ HO_36.out⟩, ⟨hB_⟩⟩
        ·have c23b0 : decide ((x9_2.size : Int) < ((rdOf ByteArray.empty t289 x38_2).size : Int)) = false := dF_ c23;have c23b1 : decide (x9_2.size < (rdOf ByteArray.empty t289 x38_2).size) = false := dF_ (fun h => c23 (Int.ofNat_lt.mpr h));clear c23;have H' := A_ H;clear H;have p292 : 0 ≤ (x38_2 : Int) := dT_;have q292 : x38_2 < (t289.length : Int) := dT_;obtain ⟨ad292, e292, hx292_0⟩ := Kd.at_string (Kd.R_reads' HO_36.out).2.2 x38_2 p292 q292;cases e292;replace p292 := eq_true p292;replace q292 := eq_true q292;go_wp2
         go_roundg k2
         case measure => have := HJ3.out; have := HK2.out; omega
         case rel => exact ⟨(x9_2), (wrap64 (x38_2 + 1)), e2_, e2_, H', ⟨by have := HJ3.out; have := HK2.out; omega⟩, ⟨kQ_ HO_36.out⟩, ⟨hB_⟩⟩
       ·have c20b0 := dF_ c20;clear c20;rcases ic_ H with ⟨c26, H⟩ | ⟨c26, H⟩
        ·obtain ⟨c26b0, c26b1⟩ := be_ c26;clear c26;obtain ⟨rfl, rfl⟩ := pi_ H;go_wp2
         go_ret2
         exact ⟨e1_, hB_⟩
        ·obtain ⟨c26b0, c26b1⟩ := bn_ c26;have HC27 := A_ H;clear H;go_upto_region 16 with (fail)
         go_cut [73] (fun v73 wc => ∃ (kq : Nat) (x73_26 : Bool), v73 = .bool x73_26 ∧ As9 (impl_Ref.j2 kq a0 a1 x9_2 (wrap64 ((wrap64 (a1 + 1)) + (x9_2.size : Int))) x73_26 = some (r1, r2)) ∧ As9 (kq ≤ k2) ∧ As9 (Below w.heap.size w wc))
         case first =>
          have H := HC27.out;clear HC27;obtain ⟨t294, A28, H⟩ := ob_ H;rcases ic_ H with ⟨c29, H⟩ | ⟨c29, H⟩
          ·obtain ⟨c29b0, c29b1⟩ := be_ c29;clear c29;(first | rw [c29b0] | (simp only [i64_w, i32_w]; rw [c29b0]) | skip)
           by_cases c30 : a2 = true
           ·subst c30;rw [if_pos rfl] at H;obtain ⟨t295, A31, H⟩ := ob_ H;(try dsimp only at H)
            have H' := A_ H;clear H;go_wp2_with (first | ((with_reducible refine gC_ 164 ?_); refine gL_ 63 Tryz.func164 #[.string a0, .int .i64 (wrap64 ((wrap64 (a1 + 1)) + (x9_2.size : Int)))] ?_; (with_reducible refine (impl_withEnd.calls a0 (wrap64 ((wrap64 (a1 + 1)) + (x9_2.size : Int))) t294 _ A28.out).mono ?_); rintro e w' ⟨rfl, ⟨nd, rfl⟩⟩; refine ⟨_, rfl, ?_⟩) | (go_at_call 165; (with_reducible refine (impl_isAfter.calls k2 a0 (wrap64 ((wrap64 (a1 + 1)) + (x9_2.size : Int))) t295 _ A31.out).mono ?_); rintro e w' ⟨rfl, ⟨nd, rfl⟩⟩))
            go_meet
            case rel => exact ⟨_, (t295), e2_, H', ⟨by have := HJ3.out; have := HK2.out; first | omega | exact Nat.le_refl _⟩, ⟨hB_⟩⟩
           ·replace c30 := bF_ c30;subst c30;rw [if_neg nF_] at H;have H' := A_ H;clear H;go_wp2_with (first | ((with_reducible refine gC_ 164 ?_); refine gL_ 63 Tryz.func164 #[.string a0, .int .i64 (wrap64 ((wrap64 (a1 + 1)) + (x9_2.size : Int)))] ?_; (with_reducible refine (impl_withEnd.calls a0 (wrap64 ((wrap64 (a1 + 1)) + (x9_2.size : Int))) t294 _ A28.out).mono ?_); rintro e w' ⟨rfl, ⟨nd, rfl⟩⟩; refine ⟨_, rfl, ?_⟩))
            go_meet
            case rel => exact ⟨_, (false), e2_, H', ⟨by have := HJ3.out; have := HK2.out; first | omega | exact Nat.le_refl _⟩, ⟨hB_⟩⟩
          ·obtain ⟨c29b0, c29b1⟩ := bn_ c29;(first | rw [c29b0] | (simp only [i64_w, i32_w]; rw [c29b0]) | skip)
           have H' := A_ H;clear H;go_wp2_with (first | ((with_reducible refine gC_ 164 ?_); refine gL_ 63 Tryz.func164 #[.string a0, .int .i64 (wrap64 ((wrap64 (a1 + 1)) + (x9_2.size : Int)))] ?_; (with_reducible refine (impl_withEnd.calls a0 (wrap64 ((wrap64 (a1 + 1)) + (x9_2.size : Int))) t294 _ A28.out).mono ?_); rintro e w' ⟨rfl, ⟨nd, rfl⟩⟩; refine ⟨_, rfl, ?_⟩))
           go_meet
           case rel => exact ⟨_, (false), e2_, H', ⟨by have := HJ3.out; have := HK2.out; first | omega | exact Nat.le_refl _⟩, ⟨hB_⟩⟩
         case rest =>
          clear HC27;try clear c1
          try clear c2
          try clear p2
          try clear q2
          try clear hx2
          try clear c3
          try clear c6
          try clear p6
          try clear c7
          try clear c7b0
          try clear c8
          try clear c8b0
          try clear p9
          try clear q9
          try clear hx9
          try clear c10
          try clear c11
          try clear c11b0
          try clear c11b1
          try clear c12
          try clear c12b0
          try clear c12b1
          try clear c14
          try clear c16
          try clear c20
          try clear c20b0
          try clear c21
          try clear c21b0
          try clear c22
          try clear c22b0
          try clear c23
          try clear c23b0
          try clear c23b1
          try clear c25
          try clear c26
          try clear c26b0
          try clear c26b1
          try clear c29
          try clear c29b0
          try clear c29b1
          try clear p29
          try clear q29
          try clear hx29
          try clear c30
          try clear hx292_0
          try clear p2
          try clear p292
          try clear p6
          try clear p9
          try clear q292
          try clear q9
          obtain ⟨kq, x73_26, rfl, HA, HJ26, HB⟩ := hcut;cases kq with
          | zero => exact absurd HA.out (by simp [impl_Ref.j2])
          | succ kj26 =>
           have H := HA.out;clear HA;simp only [impl_Ref.j2] at H;by_cases c32 : x73_26 = true
           ·subst c32;rw [if_pos rfl] at H;obtain ⟨rfl, rfl⟩ := pi_ H;go_wp2
            go_ret2
            exact ⟨e1_, hB_⟩
           ·replace c32 := bF_ c32;subst c32;rw [if_neg nF_] at H;obtain ⟨t296, A33, H⟩ := ob_ H;obtain ⟨t297, A34, H⟩ := ob_ H;obtain ⟨t298, A35, H⟩ := ob_ H;(try dsimp only at H)
            obtain ⟨rfl, rfl⟩ := pi_ H;go_wp2_with (first | ((with_reducible refine gC_ 166 ?_); refine gL_ 75 Tryz.func166 #[.string x9_2] ?_; refine bm_ (impl_NameSign.calls x9_2 t296 _ A33.out) ?_; clear HB; intro w36 HB) | ((with_reducible refine gC_ 102 ?_); refine gL_ 76 Tryz.func102 #[.int .i64 t296] ?_; refine bm_ (impl_PutSign.calls kj26 t296 t297 _ A34.out) ?_; clear HB; intro w37 HB) | ((with_reducible refine gC_ 164 ?_); refine gL_ 79 Tryz.func164 #[.string a0, .int .i64 (wrap64 ((wrap64 (a1 + 1)) + (x9_2.size : Int)))] ?_; (with_reducible refine (impl_withEnd.calls a0 (wrap64 ((wrap64 (a1 + 1)) + (x9_2.size : Int))) t298 _ A35.out).mono ?_); rintro e w' ⟨rfl, ⟨nd, rfl⟩⟩; refine ⟨_, rfl, ?_⟩))
            go_ret2
            exact ⟨e1_, hB_⟩
def byU (s : BA) (i : Int) : UInt8 := s.data.toList.getD i.toNat 0
theorem byU_bt (s : BA) (i : Int) : ((byU s i).toNat : Int) = bt s i := by
 unfold byU bt;split
 ·rename_i h
  have h' : i.toNat < s.data.toList.length := by rw [data_length]; exact h
  simp [List.getD_eq_getElem?_getD, List.getElem?_eq_getElem h']
  rfl
 ·rename_i h
  have h' : s.data.toList.length ≤ i.toNat := by rw [data_length]; omega
  simp [List.getD_eq_getElem?_getD, List.getElem?_eq_none h']
def impl_Refs.l0 : Nat → ByteArray → Bool → List UInt8 → Int → Option ByteArray
 | 0, _, _, _, _ => none
 | k + 1, s, v, out, j => if j < (s.size : Int) then (impl_Ref.f k s j v).bind fun t => (if t.2 = 0 then (if 0 ≤ j then (if out.length + 1 ≤ 140737488355328 then impl_Refs.l0 k s v (out ++ [byU s j]) (wrap64 (j + 1)) else none) else none) else (if out.length + t.1.size ≤ 140737488355328 then impl_Refs.l0 k s v (out ++ t.1.data.toList) (wrap64 (j + t.2)) else none)) else some ⟨out.toArray⟩
def impl_Refs.f (k : Nat) (a0 : BA) (a1 : Bool) : Option ByteArray := impl_Refs.l0 k a0 a1 [] 0
theorem impl_Refs.mono_l : ∀ k y0 y1 y2 y3, LeO (impl_Refs.l0 k y0 y1 y2 y3) (impl_Refs.l0 (k + 1) y0 y1 y2 y3)
 | 0 => fun _ _ _ _ r h => by simp [impl_Refs.l0] at h
 | k + 1 => by
  have ih0 := impl_Refs.mono_l k;intro y0 y1 y2 y3;rw [impl_Refs.l0, impl_Refs.l0];refine LeO.ite (LeO.bind (impl_Ref.mono _ _ _ _) (fun t => ?_)) (LeO.refl _);exact LeO.ite (LeO.ite (LeO.ite (ih0 _ _ _ _) (LeO.refl _)) (LeO.refl _)) (LeO.ite (ih0 _ _ _ _) (LeO.refl _))
theorem impl_Refs.mono : ∀ a0 a1 k, LeO (impl_Refs.f k a0 a1) (impl_Refs.f (k + 1) a0 a1) := fun _ _ k => impl_Refs.mono_l k _ _ _ _
theorem impl_Refs.calls (k : Nat) (a0 : BA) (a1 : Bool) (r : BA) (w : World) (h : impl_Refs.f k a0 a1 = some r) :
  Calls Tryz.prog 105 #[.string a0, .bool a1] w fun e w' => e = .returned (.string r) ∧ Below w.heap.size w w' := by
 have HH := A_ h;clear h;have hu := Tryz.underlying51;have HN := A_ (bld_new w);have HB := A_ (bA9 (Below.refl _ _) (.cells #[.pointer none, .slice none 0 0] 51 (0, 0)) : Below w.heap.size w _);go_enter Tryz.func105, Tryz.ntmps105
 go_wp2
 go_loopg [6] k (fun kq v6 wr => ∃ (out : List UInt8) (j : Int), v6 = .int .i64 j ∧ As9 (impl_Refs.l0 kq a0 a1 out j = some r) ∧ As9 (Bld w.heap.size w.heap.size (Lib.byteCells out) wr) ∧ As9 (Below w.heap.size w wr))
 case atStart => exact ⟨[], 0, rfl, HH, HN, HB⟩
 case round =>
  clear HH HN HB;obtain ⟨out, j, rfl, HE, HO, HB⟩ := hrel;cases gk with
  | zero => exact absurd HE.out (by simp [impl_Refs.l0])
  | succ k1 =>
   have h := HE.out;clear HE;rw [impl_Refs.l0] at h;by_cases hlt : j < (a0.size : Int)
   ·rw [if_pos hlt] at h;obtain ⟨⟨tx, us⟩, hR, h⟩ := oB_ h;have HR := A_ hR;clear hR;dsimp only at h;have q7 := eq_true hlt;by_cases hu : us = 0
    ·rw [if_pos hu] at h;have hub : (us == 0) = true := bQ_ hu;have j0 : 0 ≤ j := by
      by_cases j0 : 0 ≤ j
      ·exact j0
      ·rw [if_neg j0] at h; cases h
     rw [if_pos j0] at h;have hl : out.length + 1 ≤ 140737488355328 := by
      by_cases hl : out.length + 1 ≤ 140737488355328
      ·exact hl
      ·rw [if_neg hl] at h; cases h
     rw [if_pos hl] at h;have HE := A_ h;have HL := A_ hl;have HU := A_ (byU_bt a0 j);clear h hl hu;have p7 := eq_true j0;have hx7 := bt_at a0 j;go_wp2_with (first | (go_at_call 35; (with_reducible refine (bld_byte w.heap.size w.heap.size (Lib.byteCells out) (bt a0 j) _ HO4.out (by rw [byteCells_len]; exact HL.out) HB4.out.size).mono ?_); rintro e w5 ⟨rfl, ho, hb, hk⟩; have HO5 := A_ ho; have HB5 := A_ (HB4.out.trans hb); clear ho hb hk) | (go_at_call 145; (with_reducible refine (impl_Ref.calls k1 a0 j a1 tx us _ HR.out).mono ?_); rintro e w4 ⟨rfl, hb⟩; have HB4 := A_ (below_step HB.out hb); have HO4 := A_ (bld_below HO.out hb); clear hb))
     go_roundg k1
     case measure => omega
     case rel => exact ⟨_, _, rfl, HE, ⟨by rw [byteCells_append]; unfold Lib.byteCells; simp only [List.map_cons, List.map_nil, HU.out]; exact HO5.out⟩, HB5⟩
    ·rw [if_neg hu] at h;have hub : (us == 0) = false := bN_ hu;have hl : out.length + tx.size ≤ 140737488355328 := by
      by_cases hl : out.length + tx.size ≤ 140737488355328
      ·exact hl
      ·rw [if_neg hl] at h; cases h
     rw [if_pos hl] at h;have HE := A_ h;have HL := A_ hl;clear h hl hu;go_wp2_with (first | (go_at_call 31; (with_reducible refine (bld_str w.heap.size w.heap.size (Lib.byteCells out) tx _ HO4.out (by rw [byteCells_len]; exact HL.out) HB4.out.size).mono ?_); rintro e w5 ⟨rfl, ho, hb, hk⟩; have HO5 := A_ ho; have HB5 := A_ (HB4.out.trans hb); clear ho hb hk) | (go_at_call 145; (with_reducible refine (impl_Ref.calls k1 a0 j a1 tx us _ HR.out).mono ?_); rintro e w4 ⟨rfl, hb⟩; have HB4 := A_ (below_step HB.out hb); have HO4 := A_ (bld_below HO.out hb); clear hb))
     go_roundg k1
     case measure => omega
     case rel => exact ⟨_, _, rfl, HE, ⟨by rw [byteCells_append, ← strCells_bytes]; exact HO5.out⟩, HB5⟩
   ·rw [if_neg hlt] at h;obtain rfl := sI_ h;clear h;go_wp2_with (go_at_call 36; (with_reducible refine (bld_string w.heap.size w.heap.size out _ HO.out HB.out.size).mono ?_); rintro e w5 ⟨rfl, hb, hk⟩; have HB5 := A_ (HB.out.trans hb); clear hb hk)
    go_ret
    exact ⟨rfl, HB5.out⟩
def textTo : Nat → ByteArray → Int → Option Int
 | 0, _, _ => none
 | k + 1, s, j => if j < s.size then (impl_begins.f s j).bind fun c => if c = true then some j else textTo k s (j + 1) else some j
theorem textTo_mono : ∀ k s j, LeO (textTo k s j) (textTo (k + 1) s j)
 | 0, _, _ => fun r h => by simp [textTo] at h
 | k + 1, s, j => by
  rw [textTo, textTo];exact LeO.ite (LeO.bind (LeO.refl _) fun c => LeO.ite (LeO.refl _) (textTo_mono k s (j + 1))) (LeO.refl _)
def impl_scanner_text.f (k : Nat) (s : BA) (p : Int) (out : List S43) : Option (Int × List S43) :=
 if 0 ≤ p ∧ p < s.size ∧ s.size ≤ 1000000 then (textTo k s (p + 1)).bind fun te => if p ≤ te ∧ te ≤ s.size then
  (impl_Refs.f k (s.extract p.toNat te.toNat) false).bind fun t => (impl_scanner_put.f out ⟨1, ⟨#[]⟩, [], t, false⟩).bind fun o => some (te, o) else none
 else none
theorem impl_scanner_text.mono : ∀ s p out k, LeO (impl_scanner_text.f k s p out) (impl_scanner_text.f (k + 1) s p out) := fun s p out k => LeO.ite (LeO.bind (textTo_mono _ _ _) fun te => LeO.ite (LeO.bind (impl_Refs.mono _ _ _) fun t => LeO.refl _) (LeO.refl _)) (LeO.refl _)
theorem impl_scanner_text.calls (k : Nat) (b : Nat) (s : BA) (p : Int) (out : List S43) (p' : Int) (out' : List S43) (w0 w : World) (hS : St 39 b w0 s p out w) (h : impl_scanner_text.f k s p out = some (p', out')) :
  Calls Tryz.prog 66 #[.pointer (some ⟨b, 0, none⟩)] w fun e w' => e = .returned (.tuple #[]) ∧ St 39 b w0 s p' out' w' := by
 have HT := A_ hS;clear hS;unfold impl_scanner_text.f at h;split at h
 case isFalse => cases h
 case isTrue hg =>
 obtain ⟨p0, p1, hs⟩ := hg;obtain ⟨te, hte, h⟩ := oB_ h;split at h
 case isFalse => cases h
 case isTrue hg =>
 obtain ⟨t0, t1⟩ := hg;obtain ⟨t, ht, h⟩ := oB_ h;obtain ⟨o, ho, h⟩ := oB_ h;obtain ⟨rfl, rfl⟩ := Prod.mk.inj (sI_ h);have Hte := A_ hte;have Ht := A_ ht;have Ho := A_ ho;clear hte ht ho h;have g1 := eq_true p0;have g2 := eq_true t0;have g3 := eq_true t1;have hw : wrap64 (p + 1) = p + 1 := by unfold wrap64; omega
 obtain ⟨hc0, hc1, hf1⟩ := HT.out.sc.cells;go_enter Tryz.func66, Tryz.ntmps66
 go_wp2
 clear hc0 hc1 hf1;go_loopg [2] k (fun kq v2 wr => ∃ j : Int, v2 = .int .i64 j ∧ 0 ≤ j ∧ j ≤ s.size ∧ As9 (textTo kq s j = some te) ∧ As9 (St 39 b w0 s p out wr))
 case atStart => exact ⟨p + 1, rfl, om_, om_, Hte, HT⟩
 case round =>
  clear Hte HT;obtain ⟨j, rfl, j0, j1, HA, HT⟩ := hrel;obtain ⟨hc0, hc1, hf1⟩ := HT.out.sc.cells;cases gk with
  | zero => exact absurd HA.out (by simp [textTo])
  | succ m =>
  have H := HA.out;clear HA;rw [textTo] at H;by_cases hj : j < (s.size : Int)
  case neg =>
   rw [if_neg hj] at H;obtain rfl := sI_ H;have q7 := eq_false hj;have HTx := HT;clear H HT;go_wp2
   have HTxd := A_ (HTx.out.below (below_drew (Below.refl _ _)));clear HTx hc0 hc1 hf1;refine start_ (n := 12) (S := fun w' => w'.cell? ⟨b, 0, none⟩ = some (.string s) ∧ w'.cell? ⟨b, 1, none⟩ = some (.int .i64 p)) (ds := [10]) (tS 12 0) (by kernel_rfl) rfl rfl ⟨HTxd.out.sc.cells.1, HTxd.out.sc.cells.2.1⟩ (fun hHeld => ?_);generalize World.drew _ = wr0 at HTxd hHeld ⊢;iterate 3 refine pq_ ?_
   refine tq_ rfl (by rintro w' ⟨s0, s1⟩; go_simp; with_reducible rfl) ?_;iterate 3 refine pq_ ?_
   refine tq_ rfl (by rintro w' ⟨s0, s1⟩; go_simp; with_reducible rfl) ?_;refine pq_ ?_;refine pq_ ?_;refine last_ (i := 10) (N := some 37) (tS 12 11) rfl rfl (by kernel_rfl) de_ (fun K hK => ?_);refine gS_ Tryz.func105 #[.string (s.extract p.toNat j.toNat), .bool false] ?_;with_reducible refine (impl_Refs.calls k (s.extract p.toNat j.toNat) false t _ Ht.out).mono ?_
   rintro e wr10 ⟨rfl, hb⟩;refine ⟨_, rfl, ?_⟩;have HT1 := A_ (HTxd.out.below hb);clear hb HTxd;refine hK.out _ _ ?_;clear hK K;refine nm_ ?_;refine pq_ ?_;refine done_ (by kernel_rfl) ?_;obtain ⟨hc0, hc1, hf1⟩ := HT1.out.sc.cells;have HT2 := A_ (HT1.out.at_ j);clear HT1;go_wp2_with ((go_at_call 106; (with_reducible refine (impl_scanner_put.calls b _ s _ out o 1 ⟨#[]⟩ [] t false (.slice none 0 0) w0 _ HT2.out.sc HT2.out.bl (Kd.R_nil _ _ _ _ _) HT2.out.sc.lt (Nat.le_refl _) Ho.out).mono ?_); rintro e w2 ⟨rfl, hst⟩; have HT4 := A_ hst; clear hst HT2; clear hc0 hc1 hf1; obtain ⟨hc0, hc1, hf1⟩ := HT4.out.sc.cells))
   go_end0
   exact ⟨rfl, HT4.out⟩
  case pos =>
   rw [if_pos hj] at H;have q7 := eq_true hj;obtain ⟨c, hc, H⟩ := oB_ H;have Hc := A_ hc;cases c with
   | true =>
    rw [if_pos rfl] at H;obtain rfl := sI_ H;clear H hc;go_wp2_with ((go_at_call 65; (with_reducible refine (impl_begins.calls s j true _ Hc.out).mono ?_); rintro e w2 ⟨rfl, hb⟩; have HTx := A_ (HT.out.below hb.below); clear hb HT; clear hc0 hc1 hf1; obtain ⟨hc0, hc1, hf1⟩ := HTx.out.sc.cells))
    have HTxd := A_ (HTx.out.below (below_drew (Below.refl _ _)));clear HTx hc0 hc1 hf1;refine start_ (n := 12) (S := fun w' => w'.cell? ⟨b, 0, none⟩ = some (.string s) ∧ w'.cell? ⟨b, 1, none⟩ = some (.int .i64 p)) (ds := [10]) (tS 12 0) (by kernel_rfl) rfl rfl ⟨HTxd.out.sc.cells.1, HTxd.out.sc.cells.2.1⟩ (fun hHeld => ?_);generalize World.drew _ = wr0 at HTxd hHeld ⊢;iterate 3 refine pq_ ?_
    refine tq_ rfl (by rintro w' ⟨s0, s1⟩; go_simp; with_reducible rfl) ?_;iterate 3 refine pq_ ?_
    refine tq_ rfl (by rintro w' ⟨s0, s1⟩; go_simp; with_reducible rfl) ?_;refine pq_ ?_;refine pq_ ?_;refine last_ (i := 10) (N := some 37) (tS 12 11) rfl rfl (by kernel_rfl) de_ (fun K hK => ?_);refine gS_ Tryz.func105 #[.string (s.extract p.toNat j.toNat), .bool false] ?_;with_reducible refine (impl_Refs.calls k (s.extract p.toNat j.toNat) false t _ Ht.out).mono ?_
    rintro e wr10 ⟨rfl, hb⟩;refine ⟨_, rfl, ?_⟩;have HT1 := A_ (HTxd.out.below hb);clear hb HTxd;refine hK.out _ _ ?_;clear hK K;refine nm_ ?_;refine pq_ ?_;refine done_ (by kernel_rfl) ?_;obtain ⟨hc0, hc1, hf1⟩ := HT1.out.sc.cells;have HT2 := A_ (HT1.out.at_ j);clear HT1;go_wp2_with ((go_at_call 106; (with_reducible refine (impl_scanner_put.calls b _ s _ out o 1 ⟨#[]⟩ [] t false (.slice none 0 0) w0 _ HT2.out.sc HT2.out.bl (Kd.R_nil _ _ _ _ _) HT2.out.sc.lt (Nat.le_refl _) Ho.out).mono ?_); rintro e w2 ⟨rfl, hst⟩; have HT4 := A_ hst; clear hst HT2; clear hc0 hc1 hf1; obtain ⟨hc0, hc1, hf1⟩ := HT4.out.sc.cells))
    go_end0
    exact ⟨rfl, HT4.out⟩
   | false =>
    rw [if_neg si_] at H;have HH := A_ H;clear H hc;have hwj : wrap64 (j + 1) = j + 1 := by unfold wrap64; omega
    go_wp2_with ((go_at_call 65; (with_reducible refine (impl_begins.calls s j false _ Hc.out).mono ?_); rintro e w2 ⟨rfl, hb⟩; have HTx := A_ (HT.out.below hb.below); clear hb HT; clear hc0 hc1 hf1; obtain ⟨hc0, hc1, hf1⟩ := HTx.out.sc.cells))
    go_roundg m
    case measure => omega
    case rel => exact ⟨j + 1, rfl, om_, om_, HH, HTx⟩
def strings_Index.f (a0 : BA) (a1 : BA) : Option Int := if a0.size < 4294967281 then some (Lib.index a0.data.toList a1.data.toList) else none
theorem strings_Index.calls (a0 : BA) (a1 : BA) (r : Int) (w : World) (hL : LibOk w) (h : strings_Index.f a0 a1 = some r) :
  Calls Tryz.prog 108 #[.string a0, .string a1] w fun e w' => e = .returned (.int .i64 r) ∧ Drawn0 w w' := by
 unfold strings_Index.f at h;have hs : a0.size < 4294967281 := by
  by_cases hs : a0.size < 4294967281
  ·exact hs
  ·rw [if_neg hs] at h; cases h
 rw [if_pos hs] at h;obtain rfl := sI_ h;obtain ⟨m, hm⟩ := hL.maxLen;exact (Tryz.strings_Index a0 a1 m w hs hm).mono fun e w' hh => ⟨hh.1, by rw [hh.2]; exact Drawn0.refl _⟩
def impl_scanner_note.f (s : BA) (p : Int) (out : List S43) : Option (Int × List S43) :=
 if 0 ≤ p ∧ p + 4 ≤ s.size ∧ s.size ≤ 1000000 then (strings_Index.f (s.extract (p + 2).toNat s.size) ⟨#[45, 45, 62]⟩).bind fun n =>
  if n < 0 then (impl_scanner_put.f out ⟨4, ⟨#[]⟩, [], s.extract (p + 4).toNat s.size, false⟩).bind fun o => some ((s.size : Int), o)
  else if p + 2 + n ≤ s.size then (if p + 4 < p + 2 + n then (impl_scanner_put.f out ⟨4, ⟨#[]⟩, [], s.extract (p + 4).toNat (p + 2 + n).toNat, false⟩).bind fun o => some (p + 2 + n + 3, o) else (impl_scanner_put.f out ⟨4, ⟨#[]⟩, [], ByteArray.empty, false⟩).bind fun o => some (p + 2 + n + 3, o)) else none
 else none
theorem impl_scanner_note.calls (b : Nat) (s : BA) (p : Int) (out : List S43) (p' : Int) (out' : List S43) (w0 w : World) (hS : St 39 b w0 s p out w) (hb0 : w0.heap.size ≤ b) (hL : LibOk w0) (h : impl_scanner_note.f s p out = some (p', out')) :
  Calls Tryz.prog 68 #[.pointer (some ⟨b, 0, none⟩)] w fun e w' => e = .returned (.tuple #[]) ∧ St 39 b w0 s p' out' w' := by
 have HT := A_ hS;have HB0 := A_ hb0;have HL := A_ hL;clear hS hb0 hL;unfold impl_scanner_note.f at h;split at h
 case isFalse => cases h
 case isTrue hg =>
 obtain ⟨p0, p4, hs⟩ := hg;obtain ⟨n, hn, h⟩ := oB_ h;have Hn := A_ hn;have HH := A_ h;clear hn h;have hw4 : wrap64 (p + 4) = p + 4 := by unfold wrap64; omega
 have hw2 : wrap64 (p + 2) = p + 2 := by unfold wrap64; omega
 have g1 := eq_true (show 0 ≤ p + 2 by omega);have g2 := eq_true (show p + 2 ≤ (s.size : Int) by omega);have g3 := eq_true (show 0 ≤ p + 4 by omega);have g4 := eq_true p4;obtain ⟨hc0, hc1, hf1⟩ := HT.out.sc.cells;go_enter Tryz.func68, Tryz.ntmps68
 go_wp2
 go_quiet (((go_at_call 108; (refine (strings_Index.calls _ _ n _ (LibOk.below HL.out (bN9 (Below.mono HT.out.bl HB0.out) _)) Hn.out).mono ?_); rintro r w' ⟨rfl, ⟨nd, rfl⟩⟩; exact ⟨rfl, _, World.drewN_drewN _ _ _⟩)))
 generalize hW : World.drewN w nq = wx;have HT1 : As9 (St 39 b w0 s p out wx) := ⟨by rw [← hW]; exact HT.out.below (bN9 (Below.refl _ _) _)⟩;clear hW HT hc0 hc1 hf1;obtain ⟨hc0, hc1, hf1⟩ := HT1.out.sc.cells;have H := HH.out;by_cases c : n < 0
 case pos =>
  rw [if_pos c] at H;obtain ⟨o, ho, H⟩ := oB_ H;obtain ⟨rfl, rfl⟩ := Prod.mk.inj (sI_ H);have Ho := A_ ho;clear ho H HH;go_wp2_with ((go_at_call 106; (with_reducible refine (impl_scanner_put.calls b _ s p out o 4 ⟨#[]⟩ [] (s.extract (p + 4).toNat s.size) false (.slice none 0 0) w0 _ HT1.out.sc HT1.out.bl (Kd.R_nil _ _ _ _ _) HT1.out.sc.lt (Nat.le_refl _) Ho.out).mono ?_); rintro e w2 ⟨rfl, hst⟩; have HT2 := A_ hst; clear hst HT1; clear hc0 hc1 hf1; obtain ⟨hc0, hc1, hf1⟩ := HT2.out.sc.cells))
  refine bodyPost_ret (results_none rfl _ _ _) rfl ?_;exact ⟨rfl, HT2.out.at_ _⟩
 case neg =>
  rw [if_neg c] at H;split at H
  case isFalse => cases H
  case isTrue hl =>
  have hw5 : wrap64 (p + 2 + n) = p + 2 + n := by unfold wrap64; omega
  have hw6 : wrap64 (p + 2 + n + 3) = p + 2 + n + 3 := by unfold wrap64; omega
  have HT1b := A_ (HT1.out.at_ (p + 2 + n + 3));have hl2 := eq_true hl;by_cases cm : p + 4 < p + 2 + n
  case pos =>
   rw [if_pos cm] at H;obtain ⟨o, ho, H⟩ := oB_ H;obtain ⟨rfl, rfl⟩ := Prod.mk.inj (sI_ H);have Ho := A_ ho;clear ho H HH;have hm1 := eq_true cm;have hm2 := eq_true (show p + 4 ≤ p + 2 + n by omega);go_wp2_with ((go_at_call 106; (with_reducible refine (impl_scanner_put.calls b _ s _ out o 4 ⟨#[]⟩ [] (s.extract (p + 4).toNat (p + 2 + n).toNat) false (.slice none 0 0) w0 _ HT1b.out.sc HT1b.out.bl (Kd.R_nil _ _ _ _ _) HT1b.out.sc.lt (Nat.le_refl _) Ho.out).mono ?_); rintro e w2 ⟨rfl, hst⟩; have HT2 := A_ hst; clear hst HT1b; clear hc0 hc1 hf1; obtain ⟨hc0, hc1, hf1⟩ := HT2.out.sc.cells))
   go_end0
   exact ⟨rfl, HT2.out⟩
  case neg =>
   rw [if_neg cm] at H;obtain ⟨o, ho, H⟩ := oB_ H;obtain ⟨rfl, rfl⟩ := Prod.mk.inj (sI_ H);have Ho := A_ ho;clear ho H HH;have hm1 := eq_false cm;go_wp2_with ((go_at_call 106; (with_reducible refine (impl_scanner_put.calls b _ s _ out o 4 ⟨#[]⟩ [] (ByteArray.empty) false (.slice none 0 0) w0 _ HT1b.out.sc HT1b.out.bl (Kd.R_nil _ _ _ _ _) HT1b.out.sc.lt (Nat.le_refl _) Ho.out).mono ?_); rintro e w2 ⟨rfl, hst⟩; have HT2 := A_ hst; clear hst HT1b; clear hc0 hc1 hf1; obtain ⟨hc0, hc1, hf1⟩ := HT2.out.sc.cells))
   go_end0
   exact ⟨rfl, HT2.out⟩
def impl_isLetterAt.f (a0 : BA) (a1 : Int) : Option (Bool) := if a1 < (a0.size : Int) then (if 0 ≤ a1 then ((impl_IsLetter.f (wrap64 (bt a0 a1))).bind fun t299 => (some t299)) else (none)) else (some false)
theorem impl_isLetterAt.calls (a0 : BA) (a1 : Int) (r : Bool) (w : World) (h : impl_isLetterAt.f a0 a1 = some r) :
  Calls Tryz.prog 69 #[.string a0, .int .i64 a1] w fun e w' => e = .returned (.bool r) ∧ Drawn0 w w' := by
 have H : (if a1 < (a0.size : Int) then (if 0 ≤ a1 then ((impl_IsLetter.f (wrap64 (bt a0 a1))).bind fun t299 => (some t299)) else (none)) else (some false)) = some r := h;clear h;rcases ic_ H with ⟨c3, H⟩ | ⟨c3, H⟩
 ·have c3b0 := dE_ c3;clear c3;obtain ⟨c4, H⟩ := ifn_ H;have c4b0 := dE_ c4;clear c4;obtain ⟨t299, A6, H⟩ := ob_ H;obtain rfl := sI_ H;have p5 : 0 ≤ (a1 : Int) := dT_;have q5 : a1 < (a0.size : Int) := dT_;have hx5 := bt_at a0 a1;replace p5 := eq_true p5;replace q5 := eq_true q5;go_enter Tryz.func69, Tryz.ntmps69
  go_wp2_with (first | (go_at_call 104; (with_reducible refine (impl_IsLetter.calls (wrap64 (bt a0 a1)) t299 _ A6.out).mono ?_); rintro e w' ⟨rfl, ⟨nd, rfl⟩⟩))
  go_ret
  exact ⟨e2_, d0_⟩
 ·have c3b0 := dF_ c3;clear c3;obtain rfl := sI_ H;go_enter Tryz.func69, Tryz.ntmps69
  go_wp2
  go_ret
  exact ⟨e2_, d0_⟩
def strings_Contains.f (a0 : BA) (a1 : BA) : Option Bool := if a0.size < 4294967281 then some (Lib.contains a0.data.toList a1.data.toList) else none
theorem strings_Contains.calls (a0 : BA) (a1 : BA) (r : Bool) (w : World) (hL : LibOk w) (h : strings_Contains.f a0 a1 = some r) :
  Calls Tryz.prog 119 #[.string a0, .string a1] w fun e w' => e = .returned (.bool r) ∧ Drawn0 w w' := by
 unfold strings_Contains.f at h;have hs : a0.size < 4294967281 := by
  by_cases hs : a0.size < 4294967281
  ·exact hs
  ·rw [if_neg hs] at h; cases h
 rw [if_pos hs] at h;obtain rfl := sI_ h;obtain ⟨m, hm⟩ := hL.maxLen;exact (Tryz.strings_Contains a0 a1 m w hs hm).mono fun e w' hh => ⟨hh.1, by rw [hh.2]; exact Drawn0.refl _⟩
def impl_isOneOf.f (a0 : BA) (a1 : BA) : Option (Bool) := if a0.toList = ([] : List UInt8) then (some false) else ((strings_Contains.f a0 (⟨#[32]⟩ : BA)).bind fun t300 => (if t300 = true then (some false) else (if 1 + a1.size ≤ 9223372036854775807 then (if ((⟨#[32]⟩ : BA) ++ a1).size + 1 ≤ 9223372036854775807 then (if 1 + a0.size ≤ 9223372036854775807 then (if ((⟨#[32]⟩ : BA) ++ a0).size + 1 ≤ 9223372036854775807 then ((strings_Contains.f (((⟨#[32]⟩ : BA) ++ a1) ++ (⟨#[32]⟩ : BA)) (((⟨#[32]⟩ : BA) ++ a0) ++ (⟨#[32]⟩ : BA))).bind fun t301 => (some t301)) else (none)) else (none)) else (none)) else (none))))
theorem impl_isOneOf.calls (a0 : BA) (a1 : BA) (r : Bool) (w : World) (hL : LibOk w) (h : impl_isOneOf.f a0 a1 = some r) :
  Calls Tryz.prog 81 #[.string a0, .string a1] w fun e w' => e = .returned (.bool r) ∧ Drawn0 w w' := by
 have H : (if a0.toList = ([] : List UInt8) then (some false) else ((strings_Contains.f a0 (⟨#[32]⟩ : BA)).bind fun t300 => (if t300 = true then (some false) else (if 1 + a1.size ≤ 9223372036854775807 then (if ((⟨#[32]⟩ : BA) ++ a1).size + 1 ≤ 9223372036854775807 then (if 1 + a0.size ≤ 9223372036854775807 then (if ((⟨#[32]⟩ : BA) ++ a0).size + 1 ≤ 9223372036854775807 then ((strings_Contains.f (((⟨#[32]⟩ : BA) ++ a1) ++ (⟨#[32]⟩ : BA)) (((⟨#[32]⟩ : BA) ++ a0) ++ (⟨#[32]⟩ : BA))).bind fun t301 => (some t301)) else (none)) else (none)) else (none)) else (none))))) = some r := h;clear h;rcases ic_ H with ⟨c3, H⟩ | ⟨c3, H⟩
 ·obtain ⟨c3b0, c3b1⟩ := be_ c3;clear c3;obtain rfl := sI_ H;go_enter Tryz.func81, Tryz.ntmps81
  go_wp2
  go_ret
  exact ⟨e2_, d0_⟩
 ·obtain ⟨c3b0, c3b1⟩ := bn_ c3;obtain ⟨t300, A4, H⟩ := ob_ H;(try dsimp only at H)
  by_cases c5 : t300 = true
  ·subst c5;rw [if_pos rfl] at H;obtain rfl := sI_ H;go_enter Tryz.func81, Tryz.ntmps81
   go_wp2_with (first | (go_at_call 119; (with_reducible refine (strings_Contains.calls a0 (⟨#[32]⟩ : BA) true _ ?side1 A4.out).mono ?_); (case side1 => first | exact hL | exact LibOk.below hL (bN9 (Below.refl _ _) _)); rintro e w' ⟨rfl, ⟨nd, rfl⟩⟩))
   go_ret
   exact ⟨e2_, d0_⟩
  ·replace c5 := bF_ c5;subst c5;rw [if_neg nF_] at H;obtain ⟨c6, H⟩ := ifn_ H;have c6b0 := eq_true c6;have c6b1 := dE_ c6;try have c6b2 : (9223372036854775807 < 1 + a1.size) = False := eq_false (Nat.not_lt.2 c6)
   obtain ⟨c7, H⟩ := ifn_ H;have c7b0 := eq_true c7;have c7b1 := dE_ c7;try have c7b2 : (9223372036854775807 < ((⟨#[32]⟩ : BA) ++ a1).size + 1) = False := eq_false (Nat.not_lt.2 c7)
   (try (have c7b23 := c7b2; simp only [ByteArray.size_append, show (⟨#[32]⟩ : BA).size = 1 from rfl] at c7b23))
   obtain ⟨c8, H⟩ := ifn_ H;have c8b0 := eq_true c8;have c8b1 := dE_ c8;try have c8b2 : (9223372036854775807 < 1 + a0.size) = False := eq_false (Nat.not_lt.2 c8)
   obtain ⟨c9, H⟩ := ifn_ H;have c9b0 := eq_true c9;have c9b1 := dE_ c9;try have c9b2 : (9223372036854775807 < ((⟨#[32]⟩ : BA) ++ a0).size + 1) = False := eq_false (Nat.not_lt.2 c9)
   (try (have c9b23 := c9b2; simp only [ByteArray.size_append, show (⟨#[32]⟩ : BA).size = 1 from rfl] at c9b23))
   obtain ⟨t301, A10, H⟩ := ob_ H;obtain rfl := sI_ H;go_enter Tryz.func81, Tryz.ntmps81
   go_wp2_with (first | (go_at_call 119; (with_reducible refine (strings_Contains.calls a0 (⟨#[32]⟩ : BA) false _ ?side1 A4.out).mono ?_); (case side1 => first | exact hL | exact LibOk.below hL (bN9 (Below.refl _ _) _)); rintro e w' ⟨rfl, ⟨nd, rfl⟩⟩) | ((with_reducible refine gC_ 119 ?_); refine gL_ 17 Tryz.func119 #[.string (((⟨#[32]⟩ : BA) ++ a1) ++ (⟨#[32]⟩ : BA)), .string (((⟨#[32]⟩ : BA) ++ a0) ++ (⟨#[32]⟩ : BA))] ?_; (with_reducible refine (strings_Contains.calls (((⟨#[32]⟩ : BA) ++ a1) ++ (⟨#[32]⟩ : BA)) (((⟨#[32]⟩ : BA) ++ a0) ++ (⟨#[32]⟩ : BA)) t301 _ ?side1 A10.out).mono ?_); (case side1 => first | exact hL | exact LibOk.below hL (bN9 (Below.refl _ _) _)); rintro e w' ⟨rfl, ⟨nd, rfl⟩⟩; refine ⟨_, rfl, ?_⟩))
   go_ret
   exact ⟨e2_, d0_⟩
def impl_Raw.f (a0 : BA) : Option (Bool) := (impl_isOneOf.f a0 (⟨#[115, 99, 114, 105, 112, 116, 32, 115, 116, 121, 108, 101, 32, 116, 105, 116, 108, 101, 32, 116, 101, 120, 116, 97, 114, 101, 97]⟩ : BA)).bind fun t302 => (some t302)
theorem impl_Raw.calls (a0 : BA) (r : Bool) (w : World) (hL : LibOk w) (h : impl_Raw.f a0 = some r) :
  Calls Tryz.prog 41 #[.string a0] w fun e w' => e = .returned (.bool r) ∧ Drawn0 w w' := by
 have H : ((impl_isOneOf.f a0 (⟨#[115, 99, 114, 105, 112, 116, 32, 115, 116, 121, 108, 101, 32, 116, 105, 116, 108, 101, 32, 116, 101, 120, 116, 97, 114, 101, 97]⟩ : BA)).bind fun t302 => (some t302)) = some r := h;clear h;obtain ⟨t302, A2, H⟩ := ob_ H;obtain rfl := sI_ H;go_enter Tryz.func41, Tryz.ntmps41
 go_wp2_with (first | ((with_reducible refine gC_ 81 ?_); refine gL_ 4 Tryz.func81 #[.string a0, .string (⟨#[115, 99, 114, 105, 112, 116, 32, 115, 116, 121, 108, 101, 32, 116, 105, 116, 108, 101, 32, 116, 101, 120, 116, 97, 114, 101, 97]⟩ : BA)] ?_; (with_reducible refine (impl_isOneOf.calls a0 (⟨#[115, 99, 114, 105, 112, 116, 32, 115, 116, 121, 108, 101, 32, 116, 105, 116, 108, 101, 32, 116, 101, 120, 116, 97, 114, 101, 97]⟩ : BA) t302 _ ?side1 A2.out).mono ?_); (case side1 => exact hL); rintro e w' ⟨rfl, ⟨nd, rfl⟩⟩; refine ⟨_, rfl, ?_⟩))
 go_ret
 exact ⟨e2_, d0_⟩
end Go.Proofs.YtkbbfeckieckoaaGreatDoor.A
