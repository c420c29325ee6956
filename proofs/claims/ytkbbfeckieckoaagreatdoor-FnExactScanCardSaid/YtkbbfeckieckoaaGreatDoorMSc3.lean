-- joined by wip/tools/shake.py
import Derived.Test.YtkbbfeckieckoaaGreatDoorVScW9
import Derived.Test.YtkbbfeckieckoaaGreatDoorMSc0
import Derived.Test.YtkbbfeckieckoaaGreatDoorMSc2
set_option maxHeartbeats 16000000
set_option maxRecDepth 100000
namespace Go.Proofs.YtkbbfeckieckoaaGreatDoor.A
open Go.RowKit Go.Proofs.YtkbbfeckieckoaaGreatDoorW.PrintWords Go.Proofs.YtkbbfeckieckoaaGreatDoorW.PrintLast Go.Proofs.YtkbbfeckieckoaaGreatDoorW.PrintMore
attribute [local go_sem] max2_int min2_int max_two min_two max_three min_three max_four min_four
set_option linter.unusedVariables false
set_option linter.unusedSimpArgs false
def spec_l4Name.l0 : Nat → ByteArray → Int → Bool → Int → Option (Int)
 | 0, _, _, _, _ => none
 | k + 1, x0, x1, x2, x7 => if x7 < (x0.size : Int) then (if 0 ≤ x7 then ((spec_l4Blank.f (bt x0 x7)).bind fun t196 => (if t196 = true then (some x7) else (if (bt x0 x7) = 47 then (some x7) else (if (bt x0 x7) = 61 then (if x7 = x1 then (if x2 = true then (if ((bt x0 x7) = 62) then (some x7) else (spec_l4Name.l0 k x0 x1 x2 (wrap64 (x7 + 1)))) else (spec_l4Name.l0 k x0 x1 x2 (wrap64 (x7 + 1)))) else (some x7)) else (if x2 = true then (if ((bt x0 x7) = 62) then (some x7) else (spec_l4Name.l0 k x0 x1 x2 (wrap64 (x7 + 1)))) else (spec_l4Name.l0 k x0 x1 x2 (wrap64 (x7 + 1)))))))) else (none)) else (some x7)
def spec_l4Name.f (k : Nat) (a0 : BA) (a1 : Int) (a2 : Bool) : Option (Int) := spec_l4Name.l0 k a0 a1 a2 a1
theorem spec_l4Name.mono_l : ∀ k, (∀ y0 y1 y2 y3, LeO (spec_l4Name.l0 k y0 y1 y2 y3) (spec_l4Name.l0 (k + 1) y0 y1 y2 y3))
 | 0 => fun _ _ _ _ r h => by simp [spec_l4Name.l0] at h
 | k + 1 => by
  have ih0 := spec_l4Name.mono_l k
  ·intro y0 y1 y2 y3;unfold spec_l4Name.l0;with_reducible repeat' first | exact ih0 _ _ _ _ | apply LeO.refl | apply LeO.none | apply LeO.ite | apply LeO.bind | intro
theorem spec_l4Name.mono : ∀ a0 a1 a2 k, LeO (spec_l4Name.f k a0 a1 a2) (spec_l4Name.f (k + 1) a0 a1 a2) := by
 intro a0 a1 a2 k;have ih0 := spec_l4Name.mono_l k;unfold spec_l4Name.f;with_reducible repeat' first | exact ih0 _ _ _ _ | apply LeO.refl | apply LeO.none | apply LeO.ite | apply LeO.bind | intro
theorem spec_l4Name.calls (k : Nat) (a0 : BA) (a1 : Int) (a2 : Bool) (r : Int) (w : World) (h : spec_l4Name.f k a0 a1 a2 = some r) :
  Calls Tryz.prog 135 #[.string a0, .int .i64 a1, .bool a2] w fun e w' => e = .returned (.int .i64 r) ∧ Drawn0 w w' := by
 have H : (spec_l4Name.l0 k a0 a1 a2 a1) = some r := h;clear h;have H' := A_ H;clear H;go_enter Tryz.func135, Tryz.ntmps135
 go_wp2
 go_loopg [7] k (fun kq v7 w' => ∃ (x7_1 : Int), v7 = .int .i64 x7_1 ∧ As9 (spec_l4Name.l0 kq a0 a1 a2 x7_1 = some r) ∧ As9 (kq ≤ k) ∧ Drawn0 w w')
 case atStart => exact ⟨(a1), e2_, H', ⟨Nat.le_refl _⟩, d0_⟩
 case round =>
  clear H';try clear c1
  try clear p2
  obtain ⟨x7_1, rfl, HA, HK1, ⟨m1, rfl⟩⟩ := hrel;cases gk with
  | zero => exact absurd HA.out (by simp [spec_l4Name.l0])
  | succ k1 =>
   have H := HA.out;clear HA;simp only [spec_l4Name.l0] at H;rcases ic_ H with ⟨c4, H⟩ | ⟨c4, H⟩
   ·have c4b0 := dE_ c4;clear c4;obtain ⟨c5, H⟩ := ifn_ H;have c5b0 := dE_ c5;clear c5;obtain ⟨t196, A7, H⟩ := ob_ H;(try dsimp only at H)
    by_cases c8 : t196 = true
    ·subst c8;rw [if_pos rfl] at H;obtain rfl := sI_ H;have p6 : 0 ≤ (x7_1 : Int) := dT_;have q6 : x7_1 < (a0.size : Int) := dT_;have hx6 := bt_at a0 x7_1;replace p6 := eq_true p6;replace q6 := eq_true q6;go_wp2_with (first | (go_at_call 124; (with_reducible refine (spec_l4Blank.calls (bt a0 x7_1) true _ A7.out).mono ?_); rintro e w' ⟨rfl, ⟨nd, rfl⟩⟩))
     go_ret
     exact ⟨e2_, d0_⟩
    ·replace c8 := bF_ c8;subst c8;rw [if_neg nF_] at H;rcases ic_ H with ⟨c10, H⟩ | ⟨c10, H⟩
     ·obtain ⟨c10b0, c10b1⟩ := be_ c10;clear c10;obtain rfl := sI_ H;have p6 : 0 ≤ (x7_1 : Int) := dT_;have q6 : x7_1 < (a0.size : Int) := dT_;have hx6 := bt_at a0 x7_1;replace p6 := eq_true p6;replace q6 := eq_true q6;go_wp2_with (first | (go_at_call 124; (with_reducible refine (spec_l4Blank.calls (bt a0 x7_1) false _ A7.out).mono ?_); rintro e w' ⟨rfl, ⟨nd, rfl⟩⟩; have p9 : 0 ≤ (x7_1 : Int) := dT_; have q9 : x7_1 < (a0.size : Int) := dT_; have hx9 := bt_at a0 x7_1; replace p9 := eq_true p9; replace q9 := eq_true q9))
      go_ret
      exact ⟨e2_, d0_⟩
     ·obtain ⟨c10b0, c10b1⟩ := bn_ c10;rcases ic_ H with ⟨c12, H⟩ | ⟨c12, H⟩
      ·obtain ⟨c12b0, c12b1⟩ := be_ c12;clear c12;rcases ic_ H with ⟨c13, H⟩ | ⟨c13, H⟩
       ·obtain ⟨c13b0, c13b1⟩ := be_ c13;clear c13;by_cases c14 : a2 = true
        ·subst c14;rw [if_pos rfl] at H;rcases ic_ H with ⟨c16, H⟩ | ⟨c16, H⟩
         ·have c16b0 : ((bt a0 x7_1) == 62) = true := bQ_ c16;have c16b1 : ((bt a0 x7_1) != 62) = false := nQ_ c16;clear c16;obtain rfl := sI_ H;have p6 : 0 ≤ (x7_1 : Int) := dT_;have q6 : x7_1 < (a0.size : Int) := dT_;have hx6 := bt_at a0 x7_1;replace p6 := eq_true p6;replace q6 := eq_true q6;go_wp2_with (first | (go_at_call 124; (with_reducible refine (spec_l4Blank.calls (bt a0 x7_1) false _ A7.out).mono ?_); rintro e w' ⟨rfl, ⟨nd, rfl⟩⟩; have p9 : 0 ≤ (x7_1 : Int) := dT_; have q9 : x7_1 < (a0.size : Int) := dT_; have hx9 := bt_at a0 x7_1; replace p9 := eq_true p9; replace q9 := eq_true q9; have p11 : 0 ≤ (x7_1 : Int) := dT_; have q11 : x7_1 < (a0.size : Int) := dT_; have hx11 := bt_at a0 x7_1; replace p11 := eq_true p11; replace q11 := eq_true q11; have p15 : 0 ≤ (x7_1 : Int) := dT_; have q15 : x7_1 < (a0.size : Int) := dT_; have hx15 := bt_at a0 x7_1; replace p15 := eq_true p15; replace q15 := eq_true q15))
          go_ret
          exact ⟨e2_, d0_⟩
         ·have c16b0 : ((bt a0 x7_1) == 62) = false := bN_ c16;have c16b1 : ((bt a0 x7_1) != 62) = true := nN_ c16;have H' := A_ H;clear H;have p6 : 0 ≤ (x7_1 : Int) := dT_;have q6 : x7_1 < (a0.size : Int) := dT_;have hx6 := bt_at a0 x7_1;replace p6 := eq_true p6;replace q6 := eq_true q6;go_wp2_with (first | (go_at_call 124; (with_reducible refine (spec_l4Blank.calls (bt a0 x7_1) false _ A7.out).mono ?_); rintro e w' ⟨rfl, ⟨nd, rfl⟩⟩; have p9 : 0 ≤ (x7_1 : Int) := dT_; have q9 : x7_1 < (a0.size : Int) := dT_; have hx9 := bt_at a0 x7_1; replace p9 := eq_true p9; replace q9 := eq_true q9; have p11 : 0 ≤ (x7_1 : Int) := dT_; have q11 : x7_1 < (a0.size : Int) := dT_; have hx11 := bt_at a0 x7_1; replace p11 := eq_true p11; replace q11 := eq_true q11; have p15 : 0 ≤ (x7_1 : Int) := dT_; have q15 : x7_1 < (a0.size : Int) := dT_; have hx15 := bt_at a0 x7_1; replace p15 := eq_true p15; replace q15 := eq_true q15))
          go_roundg k1
          case measure => have := HK1.out; omega
          case rel => exact ⟨(wrap64 (x7_1 + 1)), e2_, H', ⟨by have := HK1.out; omega⟩, d0_⟩
        ·replace c14 := bF_ c14;subst c14;rw [if_neg nF_] at H;have H' := A_ H;clear H;have p6 : 0 ≤ (x7_1 : Int) := dT_;have q6 : x7_1 < (a0.size : Int) := dT_;have hx6 := bt_at a0 x7_1;replace p6 := eq_true p6;replace q6 := eq_true q6;go_wp2_with (first | (go_at_call 124; (with_reducible refine (spec_l4Blank.calls (bt a0 x7_1) false _ A7.out).mono ?_); rintro e w' ⟨rfl, ⟨nd, rfl⟩⟩; have p9 : 0 ≤ (x7_1 : Int) := dT_; have q9 : x7_1 < (a0.size : Int) := dT_; have hx9 := bt_at a0 x7_1; replace p9 := eq_true p9; replace q9 := eq_true q9; have p11 : 0 ≤ (x7_1 : Int) := dT_; have q11 : x7_1 < (a0.size : Int) := dT_; have hx11 := bt_at a0 x7_1; replace p11 := eq_true p11; replace q11 := eq_true q11))
         go_roundg k1
         case measure => have := HK1.out; omega
         case rel => exact ⟨(wrap64 (x7_1 + 1)), e2_, H', ⟨by have := HK1.out; omega⟩, d0_⟩
       ·obtain ⟨c13b0, c13b1⟩ := bn_ c13;obtain rfl := sI_ H;have p6 : 0 ≤ (x7_1 : Int) := dT_;have q6 : x7_1 < (a0.size : Int) := dT_;have hx6 := bt_at a0 x7_1;replace p6 := eq_true p6;replace q6 := eq_true q6;go_wp2_with (first | (go_at_call 124; (with_reducible refine (spec_l4Blank.calls (bt a0 x7_1) false _ A7.out).mono ?_); rintro e w' ⟨rfl, ⟨nd, rfl⟩⟩; have p9 : 0 ≤ (x7_1 : Int) := dT_; have q9 : x7_1 < (a0.size : Int) := dT_; have hx9 := bt_at a0 x7_1; replace p9 := eq_true p9; replace q9 := eq_true q9; have p11 : 0 ≤ (x7_1 : Int) := dT_; have q11 : x7_1 < (a0.size : Int) := dT_; have hx11 := bt_at a0 x7_1; replace p11 := eq_true p11; replace q11 := eq_true q11))
        go_ret
        exact ⟨e2_, d0_⟩
      ·obtain ⟨c12b0, c12b1⟩ := bn_ c12;by_cases c17 : a2 = true
       ·subst c17;rw [if_pos rfl] at H;rcases ic_ H with ⟨c19, H⟩ | ⟨c19, H⟩
        ·have c19b0 : ((bt a0 x7_1) == 62) = true := bQ_ c19;have c19b1 : ((bt a0 x7_1) != 62) = false := nQ_ c19;clear c19;obtain rfl := sI_ H;have p6 : 0 ≤ (x7_1 : Int) := dT_;have q6 : x7_1 < (a0.size : Int) := dT_;have hx6 := bt_at a0 x7_1;replace p6 := eq_true p6;replace q6 := eq_true q6;go_wp2_with (first | (go_at_call 124; (with_reducible refine (spec_l4Blank.calls (bt a0 x7_1) false _ A7.out).mono ?_); rintro e w' ⟨rfl, ⟨nd, rfl⟩⟩; have p9 : 0 ≤ (x7_1 : Int) := dT_; have q9 : x7_1 < (a0.size : Int) := dT_; have hx9 := bt_at a0 x7_1; replace p9 := eq_true p9; replace q9 := eq_true q9; have p11 : 0 ≤ (x7_1 : Int) := dT_; have q11 : x7_1 < (a0.size : Int) := dT_; have hx11 := bt_at a0 x7_1; replace p11 := eq_true p11; replace q11 := eq_true q11; have p18 : 0 ≤ (x7_1 : Int) := dT_; have q18 : x7_1 < (a0.size : Int) := dT_; have hx18 := bt_at a0 x7_1; replace p18 := eq_true p18; replace q18 := eq_true q18))
         go_ret
         exact ⟨e2_, d0_⟩
        ·have c19b0 : ((bt a0 x7_1) == 62) = false := bN_ c19;have c19b1 : ((bt a0 x7_1) != 62) = true := nN_ c19;have H' := A_ H;clear H;have p6 : 0 ≤ (x7_1 : Int) := dT_;have q6 : x7_1 < (a0.size : Int) := dT_;have hx6 := bt_at a0 x7_1;replace p6 := eq_true p6;replace q6 := eq_true q6;go_wp2_with (first | (go_at_call 124; (with_reducible refine (spec_l4Blank.calls (bt a0 x7_1) false _ A7.out).mono ?_); rintro e w' ⟨rfl, ⟨nd, rfl⟩⟩; have p9 : 0 ≤ (x7_1 : Int) := dT_; have q9 : x7_1 < (a0.size : Int) := dT_; have hx9 := bt_at a0 x7_1; replace p9 := eq_true p9; replace q9 := eq_true q9; have p11 : 0 ≤ (x7_1 : Int) := dT_; have q11 : x7_1 < (a0.size : Int) := dT_; have hx11 := bt_at a0 x7_1; replace p11 := eq_true p11; replace q11 := eq_true q11; have p18 : 0 ≤ (x7_1 : Int) := dT_; have q18 : x7_1 < (a0.size : Int) := dT_; have hx18 := bt_at a0 x7_1; replace p18 := eq_true p18; replace q18 := eq_true q18))
         go_roundg k1
         case measure => have := HK1.out; omega
         case rel => exact ⟨(wrap64 (x7_1 + 1)), e2_, H', ⟨by have := HK1.out; omega⟩, d0_⟩
       ·replace c17 := bF_ c17;subst c17;rw [if_neg nF_] at H;have H' := A_ H;clear H;have p6 : 0 ≤ (x7_1 : Int) := dT_;have q6 : x7_1 < (a0.size : Int) := dT_;have hx6 := bt_at a0 x7_1;replace p6 := eq_true p6;replace q6 := eq_true q6;go_wp2_with (first | (go_at_call 124; (with_reducible refine (spec_l4Blank.calls (bt a0 x7_1) false _ A7.out).mono ?_); rintro e w' ⟨rfl, ⟨nd, rfl⟩⟩; have p9 : 0 ≤ (x7_1 : Int) := dT_; have q9 : x7_1 < (a0.size : Int) := dT_; have hx9 := bt_at a0 x7_1; replace p9 := eq_true p9; replace q9 := eq_true q9; have p11 : 0 ≤ (x7_1 : Int) := dT_; have q11 : x7_1 < (a0.size : Int) := dT_; have hx11 := bt_at a0 x7_1; replace p11 := eq_true p11; replace q11 := eq_true q11))
        go_roundg k1
        case measure => have := HK1.out; omega
        case rel => exact ⟨(wrap64 (x7_1 + 1)), e2_, H', ⟨by have := HK1.out; omega⟩, d0_⟩
   ·have c4b0 := dF_ c4;clear c4;obtain rfl := sI_ H;go_wp2
    go_ret
    exact ⟨e2_, d0_⟩
def spec_l4Plain.l0 : Nat → ByteArray → Int → Bool → Option (Int)
 | 0, _, _, _ => none
 | k + 1, x0, x1, x2 => if x1 < (x0.size : Int) then (if 0 ≤ x1 then ((spec_l4Blank.f (bt x0 x1)).bind fun t197 => (if t197 = true then (some x1) else (if x2 = true then (if ((bt x0 x1) = 62) then (some x1) else (spec_l4Plain.l0 k x0 (wrap64 (x1 + 1)) x2)) else (spec_l4Plain.l0 k x0 (wrap64 (x1 + 1)) x2)))) else (none)) else (some x1)
def spec_l4Plain.f (k : Nat) (a0 : BA) (a1 : Int) (a2 : Bool) : Option (Int) := spec_l4Plain.l0 k a0 a1 a2
theorem spec_l4Plain.mono_l : ∀ k, (∀ y0 y1 y2, LeO (spec_l4Plain.l0 k y0 y1 y2) (spec_l4Plain.l0 (k + 1) y0 y1 y2))
 | 0 => fun _ _ _ r h => by simp [spec_l4Plain.l0] at h
 | k + 1 => by
  have ih0 := spec_l4Plain.mono_l k
  ·intro y0 y1 y2;unfold spec_l4Plain.l0;with_reducible repeat' first | exact ih0 _ _ _ | apply LeO.refl | apply LeO.none | apply LeO.ite | apply LeO.bind | intro
theorem spec_l4Plain.mono : ∀ a0 a1 a2 k, LeO (spec_l4Plain.f k a0 a1 a2) (spec_l4Plain.f (k + 1) a0 a1 a2) := by
 intro a0 a1 a2 k;have ih0 := spec_l4Plain.mono_l k;unfold spec_l4Plain.f;with_reducible repeat' first | exact ih0 _ _ _ | apply LeO.refl | apply LeO.none | apply LeO.ite | apply LeO.bind | intro
theorem spec_l4Plain.calls (k : Nat) (a0 : BA) (a1 : Int) (a2 : Bool) (r : Int) (w : World) (h : spec_l4Plain.f k a0 a1 a2 = some r) :
  Calls Tryz.prog 136 #[.string a0, .int .i64 a1, .bool a2] w fun e w' => e = .returned (.int .i64 r) ∧ Drawn0 w w' := by
 have H : (spec_l4Plain.l0 k a0 a1 a2) = some r := h;clear h;have H' := A_ H;clear H;go_enter Tryz.func136, Tryz.ntmps136
 go_wp2
 go_loopg [1] k (fun kq v1 w' => ∃ (x1_1 : Int), v1 = .int .i64 x1_1 ∧ As9 (spec_l4Plain.l0 kq a0 x1_1 a2 = some r) ∧ As9 (kq ≤ k) ∧ Drawn0 w w')
 case atStart => exact ⟨(a1), e2_, H', ⟨Nat.le_refl _⟩, d0_⟩
 case round =>
  clear H';try clear c1
  try clear p2
  obtain ⟨x1_1, rfl, HA, HK1, ⟨m1, rfl⟩⟩ := hrel;cases gk with
  | zero => exact absurd HA.out (by simp [spec_l4Plain.l0])
  | succ k1 =>
   have H := HA.out;clear HA;simp only [spec_l4Plain.l0] at H;rcases ic_ H with ⟨c4, H⟩ | ⟨c4, H⟩
   ·have c4b0 := dE_ c4;clear c4;obtain ⟨c5, H⟩ := ifn_ H;have c5b0 := dE_ c5;clear c5;obtain ⟨t197, A7, H⟩ := ob_ H;(try dsimp only at H)
    by_cases c8 : t197 = true
    ·subst c8;rw [if_pos rfl] at H;obtain rfl := sI_ H;have p6 : 0 ≤ (x1_1 : Int) := dT_;have q6 : x1_1 < (a0.size : Int) := dT_;have hx6 := bt_at a0 x1_1;replace p6 := eq_true p6;replace q6 := eq_true q6;go_wp2_with (first | (go_at_call 124; (with_reducible refine (spec_l4Blank.calls (bt a0 x1_1) true _ A7.out).mono ?_); rintro e w' ⟨rfl, ⟨nd, rfl⟩⟩))
     go_ret
     exact ⟨e2_, d0_⟩
    ·replace c8 := bF_ c8;subst c8;rw [if_neg nF_] at H;by_cases c9 : a2 = true
     ·subst c9;rw [if_pos rfl] at H;rcases ic_ H with ⟨c11, H⟩ | ⟨c11, H⟩
      ·have c11b0 : ((bt a0 x1_1) == 62) = true := bQ_ c11;have c11b1 : ((bt a0 x1_1) != 62) = false := nQ_ c11;clear c11;obtain rfl := sI_ H;have p6 : 0 ≤ (x1_1 : Int) := dT_;have q6 : x1_1 < (a0.size : Int) := dT_;have hx6 := bt_at a0 x1_1;replace p6 := eq_true p6;replace q6 := eq_true q6;go_wp2_with (first | (go_at_call 124; (with_reducible refine (spec_l4Blank.calls (bt a0 x1_1) false _ A7.out).mono ?_); rintro e w' ⟨rfl, ⟨nd, rfl⟩⟩; have p10 : 0 ≤ (x1_1 : Int) := dT_; have q10 : x1_1 < (a0.size : Int) := dT_; have hx10 := bt_at a0 x1_1; replace p10 := eq_true p10; replace q10 := eq_true q10))
       go_ret
       exact ⟨e2_, d0_⟩
      ·have c11b0 : ((bt a0 x1_1) == 62) = false := bN_ c11;have c11b1 : ((bt a0 x1_1) != 62) = true := nN_ c11;have H' := A_ H;clear H;have p6 : 0 ≤ (x1_1 : Int) := dT_;have q6 : x1_1 < (a0.size : Int) := dT_;have hx6 := bt_at a0 x1_1;replace p6 := eq_true p6;replace q6 := eq_true q6;go_wp2_with (first | (go_at_call 124; (with_reducible refine (spec_l4Blank.calls (bt a0 x1_1) false _ A7.out).mono ?_); rintro e w' ⟨rfl, ⟨nd, rfl⟩⟩; have p10 : 0 ≤ (x1_1 : Int) := dT_; have q10 : x1_1 < (a0.size : Int) := dT_; have hx10 := bt_at a0 x1_1; replace p10 := eq_true p10; replace q10 := eq_true q10))
       go_roundg k1
       case measure => have := HK1.out; omega
       case rel => exact ⟨(wrap64 (x1_1 + 1)), e2_, H', ⟨by have := HK1.out; omega⟩, d0_⟩
     ·replace c9 := bF_ c9;subst c9;rw [if_neg nF_] at H;have H' := A_ H;clear H;have p6 : 0 ≤ (x1_1 : Int) := dT_;have q6 : x1_1 < (a0.size : Int) := dT_;have hx6 := bt_at a0 x1_1;replace p6 := eq_true p6;replace q6 := eq_true q6;go_wp2_with (first | (go_at_call 124; (with_reducible refine (spec_l4Blank.calls (bt a0 x1_1) false _ A7.out).mono ?_); rintro e w' ⟨rfl, ⟨nd, rfl⟩⟩))
      go_roundg k1
      case measure => have := HK1.out; omega
      case rel => exact ⟨(wrap64 (x1_1 + 1)), e2_, H', ⟨by have := HK1.out; omega⟩, d0_⟩
   ·have c4b0 := dF_ c4;clear c4;obtain rfl := sI_ H;go_wp2
    go_ret
    exact ⟨e2_, d0_⟩
mutual
def spec_TagEnd.j0 : Nat → ByteArray → Int → Bool → Option (Int)
 | 0, _, _, _ => none
 | k + 1, x0, x1, x20 => if x20 = true then (some (-1)) else ((spec_l4After.f x0 x1).bind fun t198 => ((spec_l4Tag.f k x0 t198).bind fun t199 => (spec_TagEnd.l0 k x0 t199)))
def spec_TagEnd.l0 : Nat → ByteArray → Int → Option (Int)
 | 0, _, _ => none
 | k + 1, x0, x5 => (spec_l4Skip.f k x0 x5).bind fun t200 => (if t200 ≥ (x0.size : Int) then (some (-1)) else (if 0 ≤ t200 then (if t200 < (x0.size : Int) then (if (bt x0 t200) = 62 then (some t200) else ((spec_l4Name.f k x0 t200 true).bind fun t201 => ((spec_l4Blanks.f k x0 t201).bind fun t202 => (if t202 ≥ (x0.size : Int) then (spec_TagEnd.j2 k x0 t202 true) else (if 0 ≤ t202 then (if t202 < (x0.size : Int) then (spec_TagEnd.j2 k x0 t202 ((bt x0 t202) != 61)) else (none)) else (none)))))) else (none)) else (none)))
def spec_TagEnd.j2 : Nat → ByteArray → Int → Bool → Option (Int)
 | 0, _, _, _ => none
 | k + 1, x0, x5, x52 => if x52 = true then (spec_TagEnd.l0 k x0 x5) else ((spec_l4Blanks.f k x0 (wrap64 (x5 + 1))).bind fun t203 => (if t203 < (x0.size : Int) then (if 0 ≤ t203 then (if (bt x0 t203) = 34 then (spec_TagEnd.j3 k x0 t203 true) else (spec_TagEnd.j3 k x0 t203 ((bt x0 t203) == 39))) else (none)) else (spec_TagEnd.j3 k x0 t203 false)))
def spec_TagEnd.j3 : Nat → ByteArray → Int → Bool → Option (Int)
 | 0, _, _, _ => none
 | k + 1, x0, x5, x72 => if x72 = true then (if 0 ≤ x5 then (if x5 < (x0.size : Int) then ((spec_l4Find.f k x0 (wrap64 (x5 + 1)) (bt x0 x5)).bind fun t204 => (if t204 < 0 then (some (-1)) else (spec_TagEnd.l0 k x0 (wrap64 (t204 + 1))))) else (none)) else (none)) else ((spec_l4Plain.f k x0 x5 true).bind fun t205 => (spec_TagEnd.l0 k x0 t205))
end
def spec_TagEnd.f (k : Nat) (a0 : BA) (a1 : Int) : Option (Int) := if a1 < 0 then (spec_TagEnd.j0 k a0 a1 true) else (if a1 ≥ (a0.size : Int) then (spec_TagEnd.j0 k a0 a1 true) else (if 0 ≤ a1 then (if a1 < (a0.size : Int) then (spec_TagEnd.j0 k a0 a1 ((bt a0 a1) != 60)) else (none)) else (none)))
theorem spec_TagEnd.mono_l : ∀ k, (∀ y0 y1 y2, LeO (spec_TagEnd.j0 k y0 y1 y2) (spec_TagEnd.j0 (k + 1) y0 y1 y2)) ∧ (∀ y0 y1, LeO (spec_TagEnd.l0 k y0 y1) (spec_TagEnd.l0 (k + 1) y0 y1)) ∧ (∀ y0 y1 y2, LeO (spec_TagEnd.j2 k y0 y1 y2) (spec_TagEnd.j2 (k + 1) y0 y1 y2)) ∧ (∀ y0 y1 y2, LeO (spec_TagEnd.j3 k y0 y1 y2) (spec_TagEnd.j3 (k + 1) y0 y1 y2))
 | 0 => ⟨fun _ _ _ r h => by simp [spec_TagEnd.j0] at h, fun _ _ r h => by simp [spec_TagEnd.l0] at h, fun _ _ _ r h => by simp [spec_TagEnd.j2] at h, fun _ _ _ r h => by simp [spec_TagEnd.j3] at h⟩
 | k + 1 => by
  obtain ⟨ih0, ih1, ih2, ih3⟩ := spec_TagEnd.mono_l k;refine ⟨?_, ?_, ?_, ?_⟩
  ·intro y0 y1 y2;unfold spec_TagEnd.j0;with_reducible repeat' first | exact ih0 _ _ _ | exact ih1 _ _ | exact ih2 _ _ _ | exact ih3 _ _ _ | exact spec_l4Blanks.mono _ _ _ | exact spec_l4Find.mono _ _ _ _ | exact spec_l4Name.mono _ _ _ _ | exact spec_l4Plain.mono _ _ _ _ | exact spec_l4Skip.mono _ _ _ | exact spec_l4Tag.mono _ _ _ | apply LeO.refl | apply LeO.none | apply LeO.ite | apply LeO.bind | intro
  ·intro y0 y1;unfold spec_TagEnd.l0;with_reducible repeat' first | exact ih0 _ _ _ | exact ih1 _ _ | exact ih2 _ _ _ | exact ih3 _ _ _ | exact spec_l4Blanks.mono _ _ _ | exact spec_l4Find.mono _ _ _ _ | exact spec_l4Name.mono _ _ _ _ | exact spec_l4Plain.mono _ _ _ _ | exact spec_l4Skip.mono _ _ _ | exact spec_l4Tag.mono _ _ _ | apply LeO.refl | apply LeO.none | apply LeO.ite | apply LeO.bind | intro
  ·intro y0 y1 y2;unfold spec_TagEnd.j2;with_reducible repeat' first | exact ih0 _ _ _ | exact ih1 _ _ | exact ih2 _ _ _ | exact ih3 _ _ _ | exact spec_l4Blanks.mono _ _ _ | exact spec_l4Find.mono _ _ _ _ | exact spec_l4Name.mono _ _ _ _ | exact spec_l4Plain.mono _ _ _ _ | exact spec_l4Skip.mono _ _ _ | exact spec_l4Tag.mono _ _ _ | apply LeO.refl | apply LeO.none | apply LeO.ite | apply LeO.bind | intro
  ·intro y0 y1 y2;unfold spec_TagEnd.j3;with_reducible repeat' first | exact ih0 _ _ _ | exact ih1 _ _ | exact ih2 _ _ _ | exact ih3 _ _ _ | exact spec_l4Blanks.mono _ _ _ | exact spec_l4Find.mono _ _ _ _ | exact spec_l4Name.mono _ _ _ _ | exact spec_l4Plain.mono _ _ _ _ | exact spec_l4Skip.mono _ _ _ | exact spec_l4Tag.mono _ _ _ | apply LeO.refl | apply LeO.none | apply LeO.ite | apply LeO.bind | intro
theorem spec_TagEnd.mono : ∀ a0 a1 k, LeO (spec_TagEnd.f k a0 a1) (spec_TagEnd.f (k + 1) a0 a1) := by
 intro a0 a1 k;obtain ⟨ih0, ih1, ih2, ih3⟩ := spec_TagEnd.mono_l k;unfold spec_TagEnd.f;with_reducible repeat' first | exact ih0 _ _ _ | exact ih1 _ _ | exact ih2 _ _ _ | exact ih3 _ _ _ | exact spec_l4Blanks.mono _ _ _ | exact spec_l4Find.mono _ _ _ _ | exact spec_l4Name.mono _ _ _ _ | exact spec_l4Plain.mono _ _ _ _ | exact spec_l4Skip.mono _ _ _ | exact spec_l4Tag.mono _ _ _ | apply LeO.refl | apply LeO.none | apply LeO.ite | apply LeO.bind | intro
theorem spec_TagEnd.calls (k : Nat) (a0 : BA) (a1 : Int) (r : Int) (w : World) (h : spec_TagEnd.f k a0 a1 = some r) :
  Calls Tryz.prog 96 #[.string a0, .int .i64 a1] w fun e w' => e = .returned (.int .i64 r) ∧ Drawn0 w w' := by
 have H : (if a1 < 0 then (spec_TagEnd.j0 k a0 a1 true) else (if a1 ≥ (a0.size : Int) then (spec_TagEnd.j0 k a0 a1 true) else (if 0 ≤ a1 then (if a1 < (a0.size : Int) then (spec_TagEnd.j0 k a0 a1 ((bt a0 a1) != 60)) else (none)) else (none)))) = some r := h;clear h;have HC3 := A_ H;clear H;go_enter Tryz.func96, Tryz.ntmps96
 go_upto_region 1 with (fail)
 go_cut [20] (fun v20 wc => ∃ (kq : Nat) (x20_2 : Bool), v20 = .bool x20_2 ∧ As9 (spec_TagEnd.j0 kq a0 a1 x20_2 = some r) ∧ As9 (kq ≤ k) ∧ Drawn0 w wc)
 case first =>
  have H := HC3.out;clear HC3;rcases ic_ H with ⟨c4, H⟩ | ⟨c4, H⟩
  ·have c4b0 := dE_ c4;clear c4;(first | rw [c4b0] | (simp only [i64_w, i32_w]; rw [c4b0]) | skip)
   have H' := A_ H;clear H;go_wp2
   go_meet
   case rel => exact ⟨_, (true), e2_, H', ⟨by first | omega | exact Nat.le_refl _⟩, d0_⟩
  ·have c4b0 := dF_ c4;clear c4;(first | rw [c4b0] | (simp only [i64_w, i32_w]; rw [c4b0]) | skip)
   rcases ic_ H with ⟨c5, H⟩ | ⟨c5, H⟩
   ·have c5b0 : decide ((a0.size : Int) ≤ a1) = true := dE_ c5;clear c5;have H' := A_ H;clear H;go_wp2
    go_meet
    case rel => exact ⟨_, (true), e2_, H', ⟨by first | omega | exact Nat.le_refl _⟩, d0_⟩
   ·have c5b0 : decide ((a0.size : Int) ≤ a1) = false := dF_ c5;clear c5;obtain ⟨c6, H⟩ := ifn_ H;have c6b0 := dE_ c6;clear c6;obtain ⟨c7, H⟩ := ifn_ H;have c7b0 := dE_ c7;clear c7;have H' := A_ H;clear H;have p8 : 0 ≤ (a1 : Int) := dT_;have q8 : a1 < (a0.size : Int) := dT_;have hx8 := bt_at a0 a1;replace p8 := eq_true p8;replace q8 := eq_true q8;go_wp2
    go_meet
    case rel => exact ⟨_, (((bt a0 a1) != 60)), e2_, H', ⟨by first | omega | exact Nat.le_refl _⟩, d0_⟩
 case rest =>
  clear HC3;try clear p2
  try clear c4
  try clear c4b0
  try clear c5
  try clear c5b0
  try clear c6
  try clear c6b0
  try clear c7
  try clear c7b0
  try clear p8
  try clear q8
  try clear hx8
  try clear p8
  try clear q8
  obtain ⟨kq, x20_2, rfl, HA, HJ2, ⟨mc2, rfl⟩⟩ := hcut;cases kq with
  | zero => exact absurd HA.out (by simp [spec_TagEnd.j0])
  | succ kj2 =>
   have H := HA.out;clear HA;simp only [spec_TagEnd.j0] at H;by_cases c9 : x20_2 = true
   ·subst c9;rw [if_pos rfl] at H;obtain rfl := sI_ H;go_wp2
    go_ret
    exact ⟨e2_, d0_⟩
   ·replace c9 := bF_ c9;subst c9;rw [if_neg nF_] at H;obtain ⟨t198, A10, H⟩ := ob_ H;obtain ⟨t199, A11, H⟩ := ob_ H;(try dsimp only at H)
    have H' := A_ H;clear H;go_wp2_with (first | ((with_reducible refine gC_ 56 ?_); refine gL_ 24 Tryz.func56 #[.string a0, .int .i64 a1] ?_; refine dm_ (spec_l4After.calls a0 a1 t198 _ A10.out) fun nd => ?_) | ((with_reducible refine gC_ 97 ?_); refine gL_ 25 Tryz.func97 #[.string a0, .int .i64 t198] ?_; refine dm_ (spec_l4Tag.calls kj2 a0 t198 t199 _ A11.out) fun nd => ?_))
    go_loopg [5] kj2 (fun kq v5 w' => ∃ (x5_2 : Int), v5 = .int .i64 x5_2 ∧ As9 (spec_TagEnd.l0 kq a0 x5_2 = some r) ∧ As9 (kq ≤ kj2) ∧ Drawn0 w w')
    case atStart => exact ⟨(t199), e2_, H', ⟨Nat.le_refl _⟩, d0_⟩
    case round =>
     clear H';try clear c2
     try clear p2
     try clear c4
     try clear c4b0
     try clear c5
     try clear c5b0
     try clear c6
     try clear c6b0
     try clear c7
     try clear c7b0
     try clear p8
     try clear q8
     try clear hx8
     try clear c9
     try clear p2
     try clear p8
     try clear q8
     obtain ⟨x5_2, rfl, HA, HK2, ⟨m2, rfl⟩⟩ := hrel;cases gk with
     | zero => exact absurd HA.out (by simp [spec_TagEnd.l0])
     | succ k2 =>
      have H := HA.out;clear HA;simp only [spec_TagEnd.l0] at H;obtain ⟨t200, A12, H⟩ := ob_ H;rcases ic_ H with ⟨c13, H⟩ | ⟨c13, H⟩
      ·have c13b0 : decide ((a0.size : Int) ≤ t200) = true := dE_ c13;clear c13;obtain rfl := sI_ H;go_wp2_with (first | ((with_reducible refine gC_ 134 ?_); refine gL_ 28 Tryz.func134 #[.string a0, .int .i64 x5_2] ?_; refine dm_ (spec_l4Skip.calls k2 a0 x5_2 t200 _ A12.out) fun nd => ?_))
       go_ret
       exact ⟨e2_, d0_⟩
      ·have c13b0 : decide ((a0.size : Int) ≤ t200) = false := dF_ c13;clear c13;obtain ⟨c14, H⟩ := ifn_ H;have c14b0 := dE_ c14;clear c14;obtain ⟨c15, H⟩ := ifn_ H;have c15b0 := dE_ c15;clear c15;rcases ic_ H with ⟨c17, H⟩ | ⟨c17, H⟩
       ·obtain ⟨c17b0, c17b1⟩ := be_ c17;clear c17;obtain rfl := sI_ H;go_wp2_with (first | ((with_reducible refine gC_ 134 ?_); refine gL_ 28 Tryz.func134 #[.string a0, .int .i64 x5_2] ?_; refine dm_ (spec_l4Skip.calls k2 a0 x5_2 t200 _ A12.out) fun nd => ?_; have p16 : 0 ≤ (t200 : Int) := dT_; have q16 : t200 < (a0.size : Int) := dT_; have hx16 := bt_at a0 t200; replace p16 := eq_true p16; replace q16 := eq_true q16))
        go_ret
        exact ⟨e2_, d0_⟩
       ·obtain ⟨c17b0, c17b1⟩ := bn_ c17;obtain ⟨t201, A18, H⟩ := ob_ H;obtain ⟨t202, A19, H⟩ := ob_ H;(try dsimp only at H)
        have HC20 := A_ H;clear H;go_upto_region 10 with (first | ((with_reducible refine gC_ 134 ?_); refine gL_ 28 Tryz.func134 #[.string a0, .int .i64 x5_2] ?_; refine dm_ (spec_l4Skip.calls k2 a0 x5_2 t200 _ A12.out) fun nd => ?_; have p16 : 0 ≤ (t200 : Int) := dT_; have q16 : t200 < (a0.size : Int) := dT_; have hx16 := bt_at a0 t200; replace p16 := eq_true p16; replace q16 := eq_true q16) | ((with_reducible refine gC_ 135 ?_); refine gL_ 41 Tryz.func135 #[.string a0, .int .i64 t200, .bool true] ?_; refine dm_ (spec_l4Name.calls k2 a0 t200 true t201 _ A18.out) fun nd => ?_) | ((with_reducible refine gC_ 88 ?_); refine gL_ 42 Tryz.func88 #[.string a0, .int .i64 t201] ?_; refine dm_ (spec_l4Blanks.calls k2 a0 t201 t202 _ A19.out) fun nd => ?_))
        (try simp only [Act.put, List.setIfInBounds_toArray, List.set_cons_zero, List.set_cons_succ])
        go_cut [52] (fun v52 wc => ∃ (kq : Nat) (x52_19 : Bool), v52 = .bool x52_19 ∧ As9 (spec_TagEnd.j2 kq a0 t202 x52_19 = some r) ∧ As9 (kq ≤ k2) ∧ Drawn0 w wc)
        case first =>
         have H := HC20.out;clear HC20;rcases ic_ H with ⟨c21, H⟩ | ⟨c21, H⟩
         ·have c21b0 : decide ((a0.size : Int) ≤ t202) = true := dE_ c21;clear c21;(first | rw [c21b0] | (simp only [i64_w, i32_w]; rw [c21b0]) | skip)
          have H' := A_ H;clear H;go_wp2
          go_meet
          case rel => exact ⟨_, (true), e2_, H', ⟨by have := HJ2.out; have := HK2.out; first | omega | exact Nat.le_refl _⟩, d0_⟩
         ·have c21b0 : decide ((a0.size : Int) ≤ t202) = false := dF_ c21;clear c21;(first | rw [c21b0] | (simp only [i64_w, i32_w]; rw [c21b0]) | skip)
          obtain ⟨c22, H⟩ := ifn_ H;have c22b0 := dE_ c22;clear c22;obtain ⟨c23, H⟩ := ifn_ H;have c23b0 := dE_ c23;clear c23;have H' := A_ H;clear H;have p24 : 0 ≤ (t202 : Int) := dT_;have q24 : t202 < (a0.size : Int) := dT_;have hx24 := bt_at a0 t202;replace p24 := eq_true p24;replace q24 := eq_true q24;go_wp2
          go_meet
          case rel => exact ⟨_, (((bt a0 t202) != 61)), e2_, H', ⟨by have := HJ2.out; have := HK2.out; first | omega | exact Nat.le_refl _⟩, d0_⟩
        case rest =>
         clear HC20;try clear c1
         try clear p1
         try clear q1
         try clear hx1
         try clear c2
         try clear p2
         try clear q2
         try clear hx2
         try clear c4
         try clear c4b0
         try clear c5
         try clear c5b0
         try clear c6
         try clear c6b0
         try clear c7
         try clear c7b0
         try clear c8
         try clear p8
         try clear q8
         try clear hx8
         try clear c9
         try clear c13
         try clear c13b0
         try clear c14
         try clear c14b0
         try clear c15
         try clear c15b0
         try clear p16
         try clear q16
         try clear hx16
         try clear c17
         try clear c17b0
         try clear c17b1
         try clear c21
         try clear c21b0
         try clear c22
         try clear c22b0
         try clear c23
         try clear c23b0
         try clear p24
         try clear q24
         try clear hx24
         try clear p16
         try clear p2
         try clear p24
         try clear p8
         try clear q16
         try clear q24
         try clear q8
         obtain ⟨kq, x52_19, rfl, HA, HJ19, ⟨mc19, rfl⟩⟩ := hcut;cases kq with
         | zero => exact absurd HA.out (by simp [spec_TagEnd.j2])
         | succ kj19 =>
          have H := HA.out;clear HA;simp only [spec_TagEnd.j2] at H;by_cases c25 : x52_19 = true
          ·subst c25;rw [if_pos rfl] at H;have H' := A_ H;clear H;go_wp2
           go_roundg kj19
           case measure => have := HJ2.out; have := HK2.out; have := HJ19.out; omega
           case rel => exact ⟨(t202), e2_, H', ⟨by have := HJ2.out; have := HK2.out; have := HJ19.out; omega⟩, d0_⟩
          ·replace c25 := bF_ c25;subst c25;rw [if_neg nF_] at H;obtain ⟨t203, A26, H⟩ := ob_ H;(try dsimp only at H)
           have HC27 := A_ H;clear H;go_upto_region 12 with (first | ((with_reducible refine gC_ 88 ?_); refine gL_ 56 Tryz.func88 #[.string a0, .int .i64 (wrap64 (t202 + 1))] ?_; refine dm_ (spec_l4Blanks.calls kj19 a0 (wrap64 (t202 + 1)) t203 _ A26.out) fun nd => ?_))
           (try simp only [Act.put, List.setIfInBounds_toArray, List.set_cons_zero, List.set_cons_succ])
           go_cut [72] (fun v72 wc => ∃ (kq : Nat) (x72_26 : Bool), v72 = .bool x72_26 ∧ As9 (spec_TagEnd.j3 kq a0 t203 x72_26 = some r) ∧ As9 (kq ≤ kj19) ∧ Drawn0 w wc)
           case first =>
            have H := HC27.out;clear HC27;rcases ic_ H with ⟨c28, H⟩ | ⟨c28, H⟩
            ·have c28b0 := dE_ c28;clear c28;(first | rw [c28b0] | (simp only [i64_w, i32_w]; rw [c28b0]) | skip)
             obtain ⟨c29, H⟩ := ifn_ H;have c29b0 := dE_ c29;clear c29;rcases ic_ H with ⟨c31, H⟩ | ⟨c31, H⟩
             ·obtain ⟨c31b0, c31b1⟩ := be_ c31;clear c31;have H' := A_ H;clear H;have p30 : 0 ≤ (t203 : Int) := dT_;have q30 : t203 < (a0.size : Int) := dT_;have hx30 := bt_at a0 t203;replace p30 := eq_true p30;replace q30 := eq_true q30;go_wp2
              go_meet
              case rel => exact ⟨_, (true), e2_, H', ⟨by have := HJ2.out; have := HK2.out; have := HJ19.out; first | omega | exact Nat.le_refl _⟩, d0_⟩
             ·obtain ⟨c31b0, c31b1⟩ := bn_ c31;have H' := A_ H;clear H;have p30 : 0 ≤ (t203 : Int) := dT_;have q30 : t203 < (a0.size : Int) := dT_;have hx30 := bt_at a0 t203;replace p30 := eq_true p30;replace q30 := eq_true q30;have p32 : 0 ≤ (t203 : Int) := dT_;have q32 : t203 < (a0.size : Int) := dT_;have hx32 := bt_at a0 t203;replace p32 := eq_true p32;replace q32 := eq_true q32;go_wp2
              go_meet
              case rel => exact ⟨_, (((bt a0 t203) == 39)), e2_, H', ⟨by have := HJ2.out; have := HK2.out; have := HJ19.out; first | omega | exact Nat.le_refl _⟩, d0_⟩
            ·have c28b0 := dF_ c28;clear c28;(first | rw [c28b0] | (simp only [i64_w, i32_w]; rw [c28b0]) | skip)
             have H' := A_ H;clear H;go_wp2
             go_meet
             case rel => exact ⟨_, (false), e2_, H', ⟨by have := HJ2.out; have := HK2.out; have := HJ19.out; first | omega | exact Nat.le_refl _⟩, d0_⟩
           case rest =>
            clear HC27;try clear c1
            try clear p1
            try clear q1
            try clear hx1
            try clear c2
            try clear p2
            try clear q2
            try clear hx2
            try clear c3
            try clear p3
            try clear q3
            try clear hx3
            try clear c4
            try clear c4b0
            try clear c5
            try clear c5b0
            try clear c6
            try clear c6b0
            try clear p6
            try clear c7
            try clear c7b0
            try clear c8
            try clear p8
            try clear q8
            try clear hx8
            try clear c9
            try clear c13
            try clear c13b0
            try clear c14
            try clear c14b0
            try clear c15
            try clear c15b0
            try clear p16
            try clear q16
            try clear hx16
            try clear c17
            try clear c17b0
            try clear c17b1
            try clear c19
            try clear c21
            try clear c21b0
            try clear c22
            try clear c22b0
            try clear c23
            try clear c23b0
            try clear p24
            try clear q24
            try clear hx24
            try clear c25
            try clear c28
            try clear c28b0
            try clear c29
            try clear c29b0
            try clear p30
            try clear q30
            try clear hx30
            try clear c31
            try clear c31b0
            try clear c31b1
            try clear p32
            try clear q32
            try clear hx32
            try clear p1
            try clear p16
            try clear p2
            try clear p24
            try clear p30
            try clear p32
            try clear p8
            try clear q1
            try clear q16
            try clear q2
            try clear q24
            try clear q30
            try clear q32
            try clear q8
            obtain ⟨kq, x72_26, rfl, HA, HJ26, ⟨mc26, rfl⟩⟩ := hcut;cases kq with
            | zero => exact absurd HA.out (by simp [spec_TagEnd.j3])
            | succ kj26 =>
             have H := HA.out;clear HA;simp only [spec_TagEnd.j3] at H;by_cases c33 : x72_26 = true
             ·subst c33;rw [if_pos rfl] at H;obtain ⟨c34, H⟩ := ifn_ H;have c34b0 := dE_ c34;clear c34;obtain ⟨c35, H⟩ := ifn_ H;have c35b0 := dE_ c35;clear c35;obtain ⟨t204, A37, H⟩ := ob_ H;rcases ic_ H with ⟨c38, H⟩ | ⟨c38, H⟩
              ·have c38b0 := dE_ c38;clear c38;obtain rfl := sI_ H;have p36 : 0 ≤ (t203 : Int) := dT_;have q36 : t203 < (a0.size : Int) := dT_;have hx36 := bt_at a0 t203;replace p36 := eq_true p36;replace q36 := eq_true q36;go_wp2_with (first | ((with_reducible refine gC_ 75 ?_); refine gL_ 79 Tryz.func75 #[.string a0, .int .i64 (wrap64 (t203 + 1)), .int .u8 (bt a0 t203)] ?_; refine dm_ (spec_l4Find.calls kj26 a0 (wrap64 (t203 + 1)) (bt a0 t203) t204 _ A37.out) fun nd => ?_))
               go_ret
               exact ⟨e2_, d0_⟩
              ·have c38b0 := dF_ c38;clear c38;have H' := A_ H;clear H;have p36 : 0 ≤ (t203 : Int) := dT_;have q36 : t203 < (a0.size : Int) := dT_;have hx36 := bt_at a0 t203;replace p36 := eq_true p36;replace q36 := eq_true q36;go_wp2_with (first | ((with_reducible refine gC_ 75 ?_); refine gL_ 79 Tryz.func75 #[.string a0, .int .i64 (wrap64 (t203 + 1)), .int .u8 (bt a0 t203)] ?_; refine dm_ (spec_l4Find.calls kj26 a0 (wrap64 (t203 + 1)) (bt a0 t203) t204 _ A37.out) fun nd => ?_))
               go_roundg kj26
               case measure => have := HJ2.out; have := HK2.out; have := HJ19.out; have := HJ26.out; omega
               case rel => exact ⟨(wrap64 (t204 + 1)), e2_, H', ⟨by have := HJ2.out; have := HK2.out; have := HJ19.out; have := HJ26.out; omega⟩, d0_⟩
             ·replace c33 := bF_ c33;subst c33;rw [if_neg nF_] at H;obtain ⟨t205, A39, H⟩ := ob_ H;(try dsimp only at H)
              have H' := A_ H;clear H;go_wp2_with (first | ((with_reducible refine gC_ 136 ?_); refine gL_ 86 Tryz.func136 #[.string a0, .int .i64 t203, .bool true] ?_; refine dm_ (spec_l4Plain.calls kj26 a0 t203 true t205 _ A39.out) fun nd => ?_))
              go_roundg kj26
              case measure => have := HJ2.out; have := HK2.out; have := HJ19.out; have := HJ26.out; omega
              case rel => exact ⟨(t205), e2_, H', ⟨by have := HJ2.out; have := HK2.out; have := HJ19.out; have := HJ26.out; omega⟩, d0_⟩
def spec_l4Has.l0 : Nat → List (S84) → ByteArray → Int → Option (Bool)
 | 0, _, _, _ => none
 | k + 1, x0, x1, x5 => if x5 < (x0.length : Int) then (if 0 ≤ x5 then (if ((rd_T84 x0 x5).f0).toList = x1.toList then (some true) else (spec_l4Has.l0 k x0 x1 (wrap64 (x5 + 1)))) else (none)) else (some false)
def spec_l4Has.f (k : Nat) (l0 : List (S84)) (a1 : BA) : Option (Bool) := spec_l4Has.l0 k l0 a1 0
theorem spec_l4Has.mono_l : ∀ k, (∀ y0 y1 y2, LeO (spec_l4Has.l0 k y0 y1 y2) (spec_l4Has.l0 (k + 1) y0 y1 y2))
 | 0 => fun _ _ _ r h => by simp [spec_l4Has.l0] at h
 | k + 1 => by
  have ih0 := spec_l4Has.mono_l k
  ·intro y0 y1 y2;unfold spec_l4Has.l0;with_reducible repeat' first | exact ih0 _ _ _ | apply LeO.refl | apply LeO.none | apply LeO.ite | apply LeO.bind | intro
theorem spec_l4Has.mono : ∀ a0 a1 k, LeO (spec_l4Has.f k a0 a1) (spec_l4Has.f (k + 1) a0 a1) := by
 intro a0 a1 k;have ih0 := spec_l4Has.mono_l k;unfold spec_l4Has.f;with_reducible repeat' first | exact ih0 _ _ _ | apply LeO.refl | apply LeO.none | apply LeO.ite | apply LeO.bind | intro
theorem spec_l4Has.calls (k : Nat) (A0 : Option Addr) (c0 : Nat) (l0 : List (S84)) (a1 : BA) (r : Bool) (w : World) (hr0 : Kd.C k84 w A0 l0.length l0) (hc0 : l0.length ≤ c0) (h : spec_l4Has.f k l0 a1 = some r) :
  Calls Tryz.prog 125 #[.slice A0 l0.length c0, .string a1] w fun e w' => e = .returned (.bool r) ∧ Drawn0 w w' := by
 have HR0 := A_ hr0;have HC0 := A_ hc0;clear hr0 hc0;have H : (spec_l4Has.l0 k l0 a1 0) = some r := h;clear h;have H' := A_ H;clear H;go_enter Tryz.func125, Tryz.ntmps125
 go_wp2
 go_loopg [5] k (fun kq v5 w' => ∃ (x5_1 : Int), v5 = .int .i64 x5_1 ∧ As9 (spec_l4Has.l0 kq l0 a1 x5_1 = some r) ∧ As9 (kq ≤ k) ∧ Drawn0 w w')
 case atStart => exact ⟨(0), e2_, H', ⟨Nat.le_refl _⟩, d0_⟩
 case round =>
  clear H';try clear c1
  try clear p2
  obtain ⟨x5_1, rfl, HA, HK1, ⟨m1, rfl⟩⟩ := hrel;cases gk with
  | zero => exact absurd HA.out (by simp [spec_l4Has.l0])
  | succ k1 =>
   have H := HA.out;clear HA;simp only [spec_l4Has.l0] at H;rcases ic_ H with ⟨c3, H⟩ | ⟨c3, H⟩
   ·have c3b0 := dE_ c3;clear c3;obtain ⟨c4, H⟩ := ifn_ H;have c4b0 := dE_ c4;clear c4;rcases ic_ H with ⟨c5, H⟩ | ⟨c5, H⟩
    ·obtain ⟨c5b0, c5b1⟩ := be_ c5;clear c5;obtain rfl := sI_ H;have p206 : 0 ≤ (x5_1 : Int) := dT_;have q206 : x5_1 < (l0.length : Int) := dT_;obtain ⟨ad206, e206, hx206_0, hx206_1⟩ := at_T84 HR0.out x5_1 p206 q206;cases e206;replace p206 := eq_true p206;replace q206 := eq_true q206;go_wp2
     go_ret
     exact ⟨e2_, d0_⟩
    ·obtain ⟨c5b0, c5b1⟩ := bn_ c5;have H' := A_ H;clear H;have p206 : 0 ≤ (x5_1 : Int) := dT_;have q206 : x5_1 < (l0.length : Int) := dT_;obtain ⟨ad206, e206, hx206_0, hx206_1⟩ := at_T84 HR0.out x5_1 p206 q206;cases e206;replace p206 := eq_true p206;replace q206 := eq_true q206;go_wp2
     go_roundg k1
     case measure => have := HK1.out; omega
     case rel => exact ⟨(wrap64 (x5_1 + 1)), e2_, H', ⟨by have := HK1.out; omega⟩, d0_⟩
   ·have c3b0 := dF_ c3;clear c3;obtain rfl := sI_ H;go_wp2
    go_ret
    exact ⟨e2_, d0_⟩
def spec_l4Value.j0 : Nat → ByteArray → Int → Bool → Option (ByteArray × Int)
 | 0, _, _, _ => none
 | k + 1, x0, x1, x23 => if x23 = true then (if 0 ≤ x1 then (if x1 < (x0.size : Int) then ((spec_l4Find.f k x0 (wrap64 (x1 + 1)) (bt x0 x1)).bind fun t207 => (if t207 ≥ 0 then (if 0 ≤ (wrap64 (x1 + 1)) then (if (wrap64 (x1 + 1)) ≤ t207 then (if t207 ≤ (x0.size : Int) then (some (x0.extract ((wrap64 (x1 + 1)) : Int).toNat (t207 : Int).toNat, wrap64 (t207 + 1))) else (none)) else (none)) else (none)) else (if 0 ≤ (wrap64 (x1 + 1)) then (if (wrap64 (x1 + 1)) ≤ (x0.size : Int) then (some (x0.extract ((wrap64 (x1 + 1)) : Int).toNat x0.size, (x0.size : Int))) else (none)) else (none)))) else (none)) else (none)) else ((spec_l4Plain.f k x0 x1 false).bind fun t208 => (if 0 ≤ x1 then (if x1 ≤ t208 then (if t208 ≤ (x0.size : Int) then (some (x0.extract (x1 : Int).toNat (t208 : Int).toNat, t208)) else (none)) else (none)) else (none)))
def spec_l4Value.f (k : Nat) (a0 : BA) (a1 : Int) : Option (ByteArray × Int) := if a1 < (a0.size : Int) then (if 0 ≤ a1 then (if (bt a0 a1) = 34 then (spec_l4Value.j0 k a0 a1 true) else (spec_l4Value.j0 k a0 a1 ((bt a0 a1) == 39))) else (none)) else (spec_l4Value.j0 k a0 a1 false)
theorem spec_l4Value.mono_l : ∀ k, (∀ y0 y1 y2, LeO (spec_l4Value.j0 k y0 y1 y2) (spec_l4Value.j0 (k + 1) y0 y1 y2))
 | 0 => fun _ _ _ r h => by simp [spec_l4Value.j0] at h
 | k + 1 => by
  have ih0 := spec_l4Value.mono_l k
  ·intro y0 y1 y2;unfold spec_l4Value.j0;with_reducible repeat' first | exact ih0 _ _ _ | exact spec_l4Find.mono _ _ _ _ | exact spec_l4Plain.mono _ _ _ _ | apply LeO.refl | apply LeO.none | apply LeO.ite | apply LeO.bind | intro
theorem spec_l4Value.mono : ∀ a0 a1 k, LeO (spec_l4Value.f k a0 a1) (spec_l4Value.f (k + 1) a0 a1) := by
 intro a0 a1 k;have ih0 := spec_l4Value.mono_l k;unfold spec_l4Value.f;with_reducible repeat' first | exact ih0 _ _ _ | exact spec_l4Find.mono _ _ _ _ | exact spec_l4Plain.mono _ _ _ _ | apply LeO.refl | apply LeO.none | apply LeO.ite | apply LeO.bind | intro
theorem spec_l4Value.calls (k : Nat) (a0 : BA) (a1 : Int) (r1 : BA) (r2 : Int) (w : World) (h : spec_l4Value.f k a0 a1 = some (r1, r2)) :
  Calls Tryz.prog 137 #[.string a0, .int .i64 a1] w fun e w' => e = .returned (.tuple #[.string r1, .int .i64 r2]) ∧ Drawn0 w w' := by
 have H : (if a1 < (a0.size : Int) then (if 0 ≤ a1 then (if (bt a0 a1) = 34 then (spec_l4Value.j0 k a0 a1 true) else (spec_l4Value.j0 k a0 a1 ((bt a0 a1) == 39))) else (none)) else (spec_l4Value.j0 k a0 a1 false)) = some (r1, r2) := h;clear h;have HC3 := A_ H;clear H;go_enter Tryz.func137, Tryz.ntmps137
 go_upto_region 1 with (fail)
 go_cut [23] (fun v23 wc => ∃ (kq : Nat) (x23_2 : Bool), v23 = .bool x23_2 ∧ As9 (spec_l4Value.j0 kq a0 a1 x23_2 = some (r1, r2)) ∧ As9 (kq ≤ k) ∧ Drawn0 w wc)
 case first =>
  have H := HC3.out;clear HC3;rcases ic_ H with ⟨c4, H⟩ | ⟨c4, H⟩
  ·have c4b0 := dE_ c4;clear c4;(first | rw [c4b0] | (simp only [i64_w, i32_w]; rw [c4b0]) | skip)
   obtain ⟨c5, H⟩ := ifn_ H;have c5b0 := dE_ c5;clear c5;rcases ic_ H with ⟨c7, H⟩ | ⟨c7, H⟩
   ·obtain ⟨c7b0, c7b1⟩ := be_ c7;clear c7;have H' := A_ H;clear H;have p6 : 0 ≤ (a1 : Int) := dT_;have q6 : a1 < (a0.size : Int) := dT_;have hx6 := bt_at a0 a1;replace p6 := eq_true p6;replace q6 := eq_true q6;go_wp2
    go_meet
    case rel => exact ⟨_, (true), e2_, H', ⟨by first | omega | exact Nat.le_refl _⟩, d0_⟩
   ·obtain ⟨c7b0, c7b1⟩ := bn_ c7;have H' := A_ H;clear H;have p6 : 0 ≤ (a1 : Int) := dT_;have q6 : a1 < (a0.size : Int) := dT_;have hx6 := bt_at a0 a1;replace p6 := eq_true p6;replace q6 := eq_true q6;have p8 : 0 ≤ (a1 : Int) := dT_;have q8 : a1 < (a0.size : Int) := dT_;have hx8 := bt_at a0 a1;replace p8 := eq_true p8;replace q8 := eq_true q8;go_wp2
    go_meet
    case rel => exact ⟨_, (((bt a0 a1) == 39)), e2_, H', ⟨by first | omega | exact Nat.le_refl _⟩, d0_⟩
  ·have c4b0 := dF_ c4;clear c4;(first | rw [c4b0] | (simp only [i64_w, i32_w]; rw [c4b0]) | skip)
   have H' := A_ H;clear H;go_wp2
   go_meet
   case rel => exact ⟨_, (false), e2_, H', ⟨by first | omega | exact Nat.le_refl _⟩, d0_⟩
 case rest =>
  clear HC3;try clear c1
  try clear p2
  try clear c4
  try clear c4b0
  try clear c5
  try clear c5b0
  try clear p6
  try clear q6
  try clear hx6
  try clear c7
  try clear c7b0
  try clear c7b1
  try clear p8
  try clear q8
  try clear hx8
  try clear p6
  try clear p8
  try clear q6
  try clear q8
  obtain ⟨kq, x23_2, rfl, HA, HJ2, ⟨mc2, rfl⟩⟩ := hcut;cases kq with
  | zero => exact absurd HA.out (by simp [spec_l4Value.j0])
  | succ kj2 =>
   have H := HA.out;clear HA;simp only [spec_l4Value.j0] at H;by_cases c9 : x23_2 = true
   ·subst c9;rw [if_pos rfl] at H;obtain ⟨c10, H⟩ := ifn_ H;have c10b0 := dE_ c10;clear c10;obtain ⟨c11, H⟩ := ifn_ H;have c11b0 := dE_ c11;clear c11;obtain ⟨t207, A13, H⟩ := ob_ H;rcases ic_ H with ⟨c14, H⟩ | ⟨c14, H⟩
    ·have c14b0 : decide (0 ≤ t207) = true := dE_ c14;clear c14;obtain ⟨ji15, hji15⟩ : ∃ j_ : Int, (wrap64 (a1 + 1)) = j_ := ⟨_, rfl⟩;replace H : (if 0 ≤ (ji15) then (if (ji15) ≤ t207 then (if t207 ≤ (a0.size : Int) then (some (a0.extract ((ji15) : Int).toNat (t207 : Int).toNat, wrap64 (t207 + 1))) else (none)) else (none)) else (none)) = some (r1, r2) := by first | (rw [hji15] at H; exact H) | (simp only [hji15] at H ⊢; exact H)
     (try rw [hji15] at A13)
     have hji15w : (IntKind.i64.wrap (a1 + 1)) = ji15 := (i64_w _).trans hji15;obtain ⟨c16, H⟩ := ifn_ H;have c16b0 := eq_true c16;have c16b1 := dE_ c16;clear c16;obtain ⟨c17, H⟩ := ifn_ H;have c17b0 := eq_true c17;have c17b1 := dE_ c17;clear c17;obtain ⟨c18, H⟩ := ifn_ H;have c18b0 := eq_true c18;have c18b1 := dE_ c18;clear c18;obtain ⟨rfl, rfl⟩ := pi_ H;have p12 : 0 ≤ (a1 : Int) := dT_;have q12 : a1 < (a0.size : Int) := dT_;have hx12 := bt_at a0 a1;replace p12 := eq_true p12;replace q12 := eq_true q12;go_wp2_with (first | ((with_reducible refine gC_ 75 ?_); refine goesL_ (some 30) rfl rfl Tryz.func75 (by kernel_rfl) rfl #[.string a0, .int .i64 ji15, .int .u8 (bt a0 a1)] rfl (by (try simp only [List.map_toArray, List.map_cons, List.map_nil]); first | done | (simp only [hji15]; rfl) | rfl | (simp only [List.length_drop, List.length_take]; rfl)) ?_; refine dm_ (spec_l4Find.calls kj2 a0 ji15 (bt a0 a1) t207 _ A13.out) fun nd => ?_))
     go_ret2
     exact ⟨by first | rfl | (simp; done) | (simp only [← hji15] <;> (first | rfl | simp)) | (simp [*]; done), d0_⟩
    ·have c14b0 : decide (0 ≤ t207) = false := dF_ c14;clear c14;obtain ⟨ji19, hji19⟩ : ∃ j_ : Int, (wrap64 (a1 + 1)) = j_ := ⟨_, rfl⟩;replace H : (if 0 ≤ (ji19) then (if (ji19) ≤ (a0.size : Int) then (some (a0.extract ((ji19) : Int).toNat a0.size, (a0.size : Int))) else (none)) else (none)) = some (r1, r2) := by first | (rw [hji19] at H; exact H) | (simp only [hji19] at H ⊢; exact H)
     (try rw [hji19] at A13)
     have hji19w : (IntKind.i64.wrap (a1 + 1)) = ji19 := (i64_w _).trans hji19;obtain ⟨c20, H⟩ := ifn_ H;have c20b0 := eq_true c20;have c20b1 := dE_ c20;clear c20;obtain ⟨c21, H⟩ := ifn_ H;have c21b0 := eq_true c21;have c21b1 := dE_ c21;clear c21;obtain ⟨rfl, rfl⟩ := pi_ H;have p12 : 0 ≤ (a1 : Int) := dT_;have q12 : a1 < (a0.size : Int) := dT_;have hx12 := bt_at a0 a1;replace p12 := eq_true p12;replace q12 := eq_true q12;go_wp2_with (first | ((with_reducible refine gC_ 75 ?_); refine goesL_ (some 30) rfl rfl Tryz.func75 (by kernel_rfl) rfl #[.string a0, .int .i64 ji19, .int .u8 (bt a0 a1)] rfl (by (try simp only [List.map_toArray, List.map_cons, List.map_nil]); first | done | (simp only [hji19]; rfl) | rfl | (simp only [List.length_drop, List.length_take]; rfl)) ?_; refine dm_ (spec_l4Find.calls kj2 a0 ji19 (bt a0 a1) t207 _ A13.out) fun nd => ?_))
     go_ret2
     exact ⟨by first | rfl | (simp; done) | (simp only [← hji19] <;> (first | rfl | simp)) | (simp [*]; done), d0_⟩
   ·replace c9 := bF_ c9;subst c9;rw [if_neg nF_] at H;obtain ⟨t208, A22, H⟩ := ob_ H;obtain ⟨c23, H⟩ := ifn_ H;have c23b0 := eq_true c23;have c23b1 := dE_ c23;clear c23;obtain ⟨c24, H⟩ := ifn_ H;have c24b0 := eq_true c24;have c24b1 := dE_ c24;clear c24;obtain ⟨c25, H⟩ := ifn_ H;have c25b0 := eq_true c25;have c25b1 := dE_ c25;clear c25;obtain ⟨rfl, rfl⟩ := pi_ H;go_wp2_with (first | ((with_reducible refine gC_ 136 ?_); refine gL_ 48 Tryz.func136 #[.string a0, .int .i64 a1, .bool false] ?_; refine dm_ (spec_l4Plain.calls kj2 a0 a1 false t208 _ A22.out) fun nd => ?_))
    go_ret2
    exact ⟨e2_, d0_⟩
mutual
def spec_Attrs.l0 : Nat → ByteArray → List (S84) → Bool → Int → Option ((List (S84)) × Bool)
 | 0, _, _, _, _ => none
 | k + 1, x0, x4, x5, x6 => if x6 < (x0.size : Int) then ((spec_l4Skip.f k x0 x6).bind fun t212 => (if t212 = (x0.size : Int) then (if t212 > x6 then (if 0 ≤ (wrap64 (t212 - 1)) then (if (wrap64 (t212 - 1)) < (x0.size : Int) then (spec_Attrs.j1 k x0 x4 ((bt x0 (wrap64 (t212 - 1))) == 47) t212) else (none)) else (none)) else (spec_Attrs.j1 k x0 x4 false t212)) else (spec_Attrs.j1 k x0 x4 false t212))) else (some (x4, x5))
def spec_Attrs.j1 : Nat → ByteArray → List (S84) → Bool → Int → Option ((List (S84)) × Bool)
 | 0, _, _, _, _ => none
 | k + 1, x0, x4, x5, x7 => if x7 = (x0.size : Int) then (some (x4, x5)) else ((spec_l4Name.f k x0 x7 false).bind fun t213 => (if 0 ≤ x7 then (if x7 ≤ t213 then (if t213 ≤ (x0.size : Int) then ((spec_Small.f (x0.extract (x7 : Int).toNat (t213 : Int).toNat)).bind fun t214 => ((spec_l4Blanks.f k x0 t213).bind fun t216 => (if t216 < (x0.size : Int) then (if 0 ≤ t216 then (spec_Attrs.j2 k x0 x4 x5 t213 t216 ((bt x0 t216) == 61) t214 (⟨#[]⟩ : BA)) else (none)) else (spec_Attrs.j2 k x0 x4 x5 t213 t216 false t214 (⟨#[]⟩ : BA))))) else (none)) else (none)) else (none)))
def spec_Attrs.j2 : Nat → ByteArray → List (S84) → Bool → Int → Int → Bool → ByteArray → ByteArray → Option ((List (S84)) × Bool)
 | 0, _, _, _, _, _, _, _, _ => none
 | k + 1, x0, x4, x5, x6, x10, x64, x216000, x216001 => if x64 = true then ((spec_l4Blanks.f k x0 (wrap64 (x10 + 1))).bind fun t217 => ((spec_l4Value.f k x0 t217).bind fun bt218 => ((spec_Refs.f k bt218.1 true).bind fun t220 => ((spec_l4Has.f k x4 x216000).bind fun t221 => (if t221 = true then (spec_Attrs.l0 k x0 x4 x5 bt218.2) else (if x4.length < 4398046511104 then (spec_Attrs.l0 k x0 (x4 ++ [(⟨x216000, t220⟩ : S84)]) x5 bt218.2) else (none))))))) else ((spec_l4Has.f k x4 x216000).bind fun t225 => (if t225 = true then (spec_Attrs.l0 k x0 x4 x5 x6) else (if x4.length < 4398046511104 then (spec_Attrs.l0 k x0 (x4 ++ [(⟨x216000, x216001⟩ : S84)]) x5 x6) else (none))))
end
def spec_Attrs.f (k : Nat) (a0 : BA) : Option ((List (S84)) × Bool) := spec_Attrs.l0 k a0 (([] : List (S84))) false 0
theorem spec_Attrs.mono_l : ∀ k, (∀ y0 y1 y2 y3, LeO (spec_Attrs.l0 k y0 y1 y2 y3) (spec_Attrs.l0 (k + 1) y0 y1 y2 y3)) ∧ (∀ y0 y1 y2 y3, LeO (spec_Attrs.j1 k y0 y1 y2 y3) (spec_Attrs.j1 (k + 1) y0 y1 y2 y3)) ∧ (∀ y0 y1 y2 y3 y4 y5 y6 y7, LeO (spec_Attrs.j2 k y0 y1 y2 y3 y4 y5 y6 y7) (spec_Attrs.j2 (k + 1) y0 y1 y2 y3 y4 y5 y6 y7))
 | 0 => ⟨fun _ _ _ _ r h => by simp [spec_Attrs.l0] at h, fun _ _ _ _ r h => by simp [spec_Attrs.j1] at h, fun _ _ _ _ _ _ _ _ r h => by simp [spec_Attrs.j2] at h⟩
 | k + 1 => by
  obtain ⟨ih0, ih1, ih2⟩ := spec_Attrs.mono_l k;refine ⟨?_, ?_, ?_⟩
  ·intro y0 y1 y2 y3;unfold spec_Attrs.l0;with_reducible repeat' first | exact ih0 _ _ _ _ | exact ih1 _ _ _ _ | exact ih2 _ _ _ _ _ _ _ _ | exact spec_Refs.mono _ _ _ | exact spec_l4Blanks.mono _ _ _ | exact spec_l4Has.mono _ _ _ | exact spec_l4Name.mono _ _ _ _ | exact spec_l4Skip.mono _ _ _ | exact spec_l4Value.mono _ _ _ | apply LeO.refl | apply LeO.none | apply LeO.ite | apply LeO.bind | intro
  ·intro y0 y1 y2 y3;unfold spec_Attrs.j1;with_reducible repeat' first | exact ih0 _ _ _ _ | exact ih1 _ _ _ _ | exact ih2 _ _ _ _ _ _ _ _ | exact spec_Refs.mono _ _ _ | exact spec_l4Blanks.mono _ _ _ | exact spec_l4Has.mono _ _ _ | exact spec_l4Name.mono _ _ _ _ | exact spec_l4Skip.mono _ _ _ | exact spec_l4Value.mono _ _ _ | apply LeO.refl | apply LeO.none | apply LeO.ite | apply LeO.bind | intro
  ·intro y0 y1 y2 y3 y4 y5 y6 y7;unfold spec_Attrs.j2;with_reducible repeat' first | exact ih0 _ _ _ _ | exact ih1 _ _ _ _ | exact ih2 _ _ _ _ _ _ _ _ | exact spec_Refs.mono _ _ _ | exact spec_l4Blanks.mono _ _ _ | exact spec_l4Has.mono _ _ _ | exact spec_l4Name.mono _ _ _ _ | exact spec_l4Skip.mono _ _ _ | exact spec_l4Value.mono _ _ _ | apply LeO.refl | apply LeO.none | apply LeO.ite | apply LeO.bind | intro
theorem spec_Attrs.mono : ∀ a0 k, LeO (spec_Attrs.f k a0) (spec_Attrs.f (k + 1) a0) := by
 intro a0 k;obtain ⟨ih0, ih1, ih2⟩ := spec_Attrs.mono_l k;unfold spec_Attrs.f;with_reducible repeat' first | exact ih0 _ _ _ _ | exact ih1 _ _ _ _ | exact ih2 _ _ _ _ _ _ _ _ | exact spec_Refs.mono _ _ _ | exact spec_l4Blanks.mono _ _ _ | exact spec_l4Has.mono _ _ _ | exact spec_l4Name.mono _ _ _ _ | exact spec_l4Skip.mono _ _ _ | exact spec_l4Value.mono _ _ _ | apply LeO.refl | apply LeO.none | apply LeO.ite | apply LeO.bind | intro
theorem spec_Attrs.calls (k : Nat) (a0 : BA) (r1 : List (S84)) (r2 : Bool) (w : World) (h : spec_Attrs.f k a0 = some (r1, r2)) :
  Calls Tryz.prog 98 #[.string a0] w fun e w' => ∃ v0_ : Value, e = .returned (.tuple #[v0_, .bool r2]) ∧ Kd.R k84 84 w' w.heap.size (fun _ => True) v0_ r1 ∧ Below w.heap.size w w' := by
 have hu84 := Tryz.underlying84;have HB := A_ (Below.refl w.heap.size w);have H : (spec_Attrs.l0 k a0 (([] : List (S84))) false 0) = some (r1, r2) := h;clear h;obtain ⟨y209, hy209⟩ : ∃ y_ : List (S84), y_ = (([] : List (S84))) := ⟨_, rfl⟩;replace H : (spec_Attrs.l0 k a0 y209 false 0) = some (r1, r2) := by first | (rw [hy209]; with_reducible exact H) | (have H2_ := (Option.bind_some _ _).symm.trans H; rw [hy209]; with_reducible exact H2_) | (have H2_ := (Option.bind_some _ _).symm.trans H; with_reducible exact H2_) | with_reducible exact H | (rw [hy209]; exact H) | exact H
 have Ny209 := A_ hy209;clear hy209;have H' := A_ H;clear H;go_enter Tryz.func98, Tryz.ntmps98
 go_wp2_with (first | ((with_reducible refine gate_dst (N := 13) rfl ?_); refine Kd.R_lit k84 _ 84 ?hg (N := 13) ?hd (xs := ([] : List (S84))) (inner := []) (ok := fun _ => True) (okp := fun _ => True) ?hr ?hp (fun _ hk => hk) trivial (Below.refl _ _) (Nat.le_refl _) si_ ?_; (case hd => rfl); (case hg => rfl); (case hr => first | (go_simp; done) | (go_simp; rfl)); (case hp => exact (Reps.none _ _)); intro v210 w2 ho3 hb hg_ hnew_; clear hg_ hnew_; (first | rw [← Ny209.out] at ho3 | (simp only [Int.reduceToNat] at ho3; rw [← Ny209.out] at ho3)); have HO211 := A_ (Kd.R_lower ho3 (below_size hB_)); replace HB := bS_ hb; clear hb ho3))
 go_loopg [4, 5, 6] k (fun kq v4 v5 v6 w' => ∃ (x4_1 : List (S84)) (x5_1 : Bool) (x6_1 : Int), v5 = .bool x5_1 ∧ v6 = .int .i64 x6_1 ∧ As9 (spec_Attrs.l0 kq a0 x4_1 x5_1 x6_1 = some (r1, r2)) ∧ As9 (kq ≤ k) ∧ As9 (Kd.R k84 84 w' w.heap.size (fun _ => True) v4 x4_1) ∧ As9 (Below w.heap.size w w'))
 case atStart => exact ⟨(y209), (false), (0), e2_, e2_, H', ⟨Nat.le_refl _⟩, ⟨kQ_ HO211.out⟩, ⟨hB_⟩⟩
 case round =>
  clear H';try clear p2
  obtain ⟨x4_1, x5_1, x6_1, rfl, rfl, HA, HK1, HO_4, HB⟩ := hrel;cases gk with
  | zero => exact absurd HA.out (by simp [spec_Attrs.l0])
  | succ k1 =>
   have H := HA.out;clear HA;simp only [spec_Attrs.l0] at H;rcases ic_ H with ⟨c4, H⟩ | ⟨c4, H⟩
   ·have c4b0 := dE_ c4;clear c4;obtain ⟨t212, A5, H⟩ := ob_ H;(try dsimp only at H)
    have HC6 := A_ H;clear H;go_upto_region 6 with (first | ((with_reducible refine gC_ 134 ?_); refine gL_ 20 Tryz.func134 #[.string a0, .int .i64 x6_1] ?_; refine dm_ (spec_l4Skip.calls k1 a0 x6_1 t212 _ A5.out) fun nd => ?_))
    (try simp only [Act.put, List.setIfInBounds_toArray, List.set_cons_zero, List.set_cons_succ])
    go_cut [5] (fun v5 wc => ∃ (kq : Nat) (x5_5 : Bool), v5 = .bool x5_5 ∧ As9 (spec_Attrs.j1 kq a0 x4_1 x5_5 t212 = some (r1, r2)) ∧ As9 (kq ≤ k1) ∧ As9 (Kd.R k84 84 wc w.heap.size (fun _ => True) u4 x4_1) ∧ As9 (Below w.heap.size w wc))
    case first =>
     have H := HC6.out;clear HC6;rcases ic_ H with ⟨c7, H⟩ | ⟨c7, H⟩
     ·obtain ⟨c7b0, c7b1⟩ := be_ c7;clear c7;(first | rw [c7b0] | (simp only [i64_w, i32_w]; rw [c7b0]) | skip)
      rcases ic_ H with ⟨c8, H⟩ | ⟨c8, H⟩
      ·have c8b0 : decide (x6_1 < t212) = true := dE_ c8;clear c8;obtain ⟨ji9, hji9⟩ : ∃ j_ : Int, (wrap64 (t212 - 1)) = j_ := ⟨_, rfl⟩;replace H : (if 0 ≤ (ji9) then (if (ji9) < (a0.size : Int) then (spec_Attrs.j1 k1 a0 x4_1 ((bt a0 (ji9)) == 47) t212) else (none)) else (none)) = some (r1, r2) := by first | (rw [hji9] at H; exact H) | (simp only [hji9] at H ⊢; exact H)
       have hji9w : (IntKind.i64.wrap (t212 - 1)) = ji9 := (i64_w _).trans hji9;obtain ⟨c10, H⟩ := ifn_ H;have c10b0 := dE_ c10;clear c10;obtain ⟨c11, H⟩ := ifn_ H;have c11b0 := dE_ c11;clear c11;have H' := A_ H;clear H;have p12 : 0 ≤ ((ji9) : Int) := dT_;have q12 : (ji9) < (a0.size : Int) := dT_;have hx12 := bt_at a0 (ji9);replace p12 := eq_true p12;replace q12 := eq_true q12;go_wp2
       go_meet
       case rel => exact ⟨_, (((bt a0 (ji9)) == 47)), (by first | rfl | (simp; done) | (simp only [← hji9] <;> (first | rfl | simp)) | (simp [*]; done)), H', ⟨by have := HK1.out; first | omega | exact Nat.le_refl _⟩, ⟨kQ_ HO_4.out⟩, ⟨hB_⟩⟩
      ·have c8b0 : decide (x6_1 < t212) = false := dF_ c8;clear c8;have H' := A_ H;clear H;go_wp2
       go_meet
       case rel => exact ⟨_, (false), e2_, H', ⟨by have := HK1.out; first | omega | exact Nat.le_refl _⟩, ⟨kQ_ HO_4.out⟩, ⟨hB_⟩⟩
     ·obtain ⟨c7b0, c7b1⟩ := bn_ c7;(first | rw [c7b0] | (simp only [i64_w, i32_w]; rw [c7b0]) | skip)
      have H' := A_ H;clear H;go_wp2
      go_meet
      case rel => exact ⟨_, (false), e2_, H', ⟨by have := HK1.out; first | omega | exact Nat.le_refl _⟩, ⟨kQ_ HO_4.out⟩, ⟨hB_⟩⟩
    case rest =>
     clear HC6;try clear c1
     try clear p1
     try clear q1
     try clear hx1
     try clear p2
     try clear c4
     try clear c4b0
     try clear p6
     try clear c7
     try clear c7b0
     try clear c7b1
     try clear c8
     try clear c8b0
     try clear c9
     try clear c10
     try clear c10b0
     try clear c11
     try clear c11b0
     try clear p12
     try clear q12
     try clear hx12
     try clear p12
     try clear p2
     try clear q12
     obtain ⟨kq, x5_5, rfl, HA, HJ5, HO_4, HB⟩ := hcut;cases kq with
     | zero => exact absurd HA.out (by simp [spec_Attrs.j1])
     | succ kj5 =>
      have H := HA.out;clear HA;simp only [spec_Attrs.j1] at H;rcases ic_ H with ⟨c13, H⟩ | ⟨c13, H⟩
      ·obtain ⟨c13b0, c13b1⟩ := be_ c13;clear c13;obtain ⟨rfl, rfl⟩ := pi_ H;go_wp2
       go_ret2
       exact ⟨_, e1_, kQ_ HO_4.out, hB_⟩
      ·obtain ⟨c13b0, c13b1⟩ := bn_ c13;obtain ⟨t213, A14, H⟩ := ob_ H;obtain ⟨c15, H⟩ := ifn_ H;have c15b0 := eq_true c15;have c15b1 := dE_ c15;clear c15;obtain ⟨c16, H⟩ := ifn_ H;have c16b0 := eq_true c16;have c16b1 := dE_ c16;clear c16;obtain ⟨c17, H⟩ := ifn_ H;have c17b0 := eq_true c17;have c17b1 := dE_ c17;clear c17;obtain ⟨t214, A18, H⟩ := ob_ H;obtain ⟨t216, A19, H⟩ := ob_ H;(try dsimp only at H)
       have HC20 := A_ H;clear H;go_upto_region 13 with (first | ((with_reducible refine gC_ 135 ?_); refine gL_ 44 Tryz.func135 #[.string a0, .int .i64 t212, .bool false] ?_; refine dm_ (spec_l4Name.calls kj5 a0 t212 false t213 _ A14.out) fun nd => ?_; (try (rw [drewN_self wc]; generalize hq_ : World.drewN wc _ = wc; have n0_ : As9 (Kd.R k84 84 wc w.heap.size (fun _ => True) u4 x4_1) := ⟨by rw [← hq_]; exact (kQ_ HO_4.out)⟩; have n1_ : As9 (Below w.heap.size w wc) := ⟨by rw [← hq_]; exact hB_⟩; clear HO_4 HB hq_; have HO_4 := n0_; have HB := n1_; clear n0_ n1_))) | ((with_reducible refine gC_ 87 ?_); refine gL_ 49 Tryz.func87 #[.string (a0.extract (t212 : Int).toNat (t213 : Int).toNat)] ?_; (with_reducible refine (spec_Small.calls (a0.extract (t212 : Int).toNat (t213 : Int).toNat) t214 _ A18.out).mono ?_); rintro e w21 ⟨rfl, hb⟩; refine ⟨_, rfl, ?_⟩; replace HO_4 := A_ (Kd.R_below (kQ_ HO_4.out) hb); replace HB := bS_ hb; clear hb) | ((with_reducible refine gate_dst (N := 9) rfl ?_); refine bE_ #[.string (⟨#[]⟩ : BA), .string (⟨#[]⟩ : BA)] 84 ?_; intro gb215 hg w22 hbox hb; replace HO_4 := A_ (Kd.R_below (Kd.R_elderB (kQ_ HO_4.out) gb215 (Nat.le_of_eq hg.symm)) hb); have BK215 := A_ (hbox); have GW215 := hs_ hg; have GE215 := hs_ hg; replace HB := bS_ hb; clear hb hbox hg; obtain ⟨hcz23_0, hcz23_1, hfz23_0, hfz23_1⟩ := bk2_ BK215.out) | ((with_reducible refine gC_ 88 ?_); refine gL_ 54 Tryz.func88 #[.string a0, .int .i64 t213] ?_; refine dm_ (spec_l4Blanks.calls kj5 a0 t213 t216 _ A19.out) fun nd => ?_))
       (try simp only [Act.put, List.setIfInBounds_toArray, List.set_cons_zero, List.set_cons_succ])
       go_cut [64] (fun v64 wc => ∃ (kq : Nat) (x64_19 : Bool), v64 = .bool x64_19 ∧ As9 (spec_Attrs.j2 kq a0 x4_1 x5_5 t213 t216 x64_19 t214 (⟨#[]⟩ : BA) = some (r1, r2)) ∧ As9 (kq ≤ kj5) ∧ As9 (Kd.R k84 84 wc w.heap.size (fun k_ => k_ ≠ gb215) u4 x4_1) ∧ As9 (wc.heap[gb215]? = some (.cells #[.string t214, .string (⟨#[]⟩ : BA)] 84 (0, 0))) ∧ As9 (Below w.heap.size w wc))
       case first =>
        have H := HC20.out;clear HC20;rcases ic_ H with ⟨c24, H⟩ | ⟨c24, H⟩
        ·have c24b0 := dE_ c24;clear c24;(first | rw [c24b0] | (simp only [i64_w, i32_w]; rw [c24b0]) | skip)
         obtain ⟨c25, H⟩ := ifn_ H;have c25b0 := dE_ c25;clear c25;have H' := A_ H;clear H;have p26 : 0 ≤ (t216 : Int) := dT_;have q26 : t216 < (a0.size : Int) := dT_;have hx26 := bt_at a0 t216;replace p26 := eq_true p26;replace q26 := eq_true q26;go_wp2
         go_meet
         case rel => exact ⟨_, (((bt a0 t216) == 61)), e2_, H', ⟨by have := HK1.out; have := HJ5.out; first | omega | exact Nat.le_refl _⟩, ⟨by (with_reducible repeat (first | apply Kd.R_alloc | apply Kd.R_drewN | apply Kd.R_drew)); exact Kd.R_mono (Kd.R_far (p := ⟨gb215, 1, none⟩) (Kd.R_far (p := ⟨gb215, 0, none⟩) (Kd.R_mono HO_4.out (fun k_ hk => (⟨hk, hk.2⟩ : _ ∧ k_ ≠ gb215))) (fun _ hk => hk.2) (.string t214)) (fun _ hk => hk.2) (.string (⟨#[]⟩ : BA))) (fun _ hk => hk.1.2)⟩, ⟨by refine kB_ ?_; refine blk_put (cs := #[.string t214, .string (⟨#[]⟩ : BA)]) ?_ 1 _ rfl; refine kB_ ?_; refine blk_put (cs := #[.string (⟨#[]⟩ : BA), .string (⟨#[]⟩ : BA)]) ?_ 0 _ rfl; refine kB_ ?_; exact BK215.out⟩, ⟨hB_⟩⟩
        ·have c24b0 := dF_ c24;clear c24;(first | rw [c24b0] | (simp only [i64_w, i32_w]; rw [c24b0]) | skip)
         have H' := A_ H;clear H;go_wp2
         go_meet
         case rel => exact ⟨_, (false), e2_, H', ⟨by have := HK1.out; have := HJ5.out; first | omega | exact Nat.le_refl _⟩, ⟨by (with_reducible repeat (first | apply Kd.R_alloc | apply Kd.R_drewN | apply Kd.R_drew)); exact Kd.R_mono (Kd.R_far (p := ⟨gb215, 1, none⟩) (Kd.R_far (p := ⟨gb215, 0, none⟩) (Kd.R_mono HO_4.out (fun k_ hk => (⟨hk, hk.2⟩ : _ ∧ k_ ≠ gb215))) (fun _ hk => hk.2) (.string t214)) (fun _ hk => hk.2) (.string (⟨#[]⟩ : BA))) (fun _ hk => hk.1.2)⟩, ⟨by refine kB_ ?_; refine blk_put (cs := #[.string t214, .string (⟨#[]⟩ : BA)]) ?_ 1 _ rfl; refine kB_ ?_; refine blk_put (cs := #[.string (⟨#[]⟩ : BA), .string (⟨#[]⟩ : BA)]) ?_ 0 _ rfl; refine kB_ ?_; exact BK215.out⟩, ⟨hB_⟩⟩
       case rest =>
        clear HC20;try clear c1
        try clear p1
        try clear q1
        try clear hx1
        try clear c2
        try clear p2
        try clear q2
        try clear hx2
        try clear c4
        try clear c4b0
        try clear p6
        try clear c7
        try clear c7b0
        try clear c7b1
        try clear c8
        try clear c8b0
        try clear c9
        try clear c10
        try clear c10b0
        try clear c11
        try clear c11b0
        try clear p12
        try clear q12
        try clear hx12
        try clear c13
        try clear c13b0
        try clear c13b1
        try clear c15
        try clear c15b0
        try clear c15b1
        try clear c16
        try clear c16b0
        try clear c16b1
        try clear c17
        try clear c17b0
        try clear c17b1
        try clear c24
        try clear c24b0
        try clear c25
        try clear c25b0
        try clear p26
        try clear q26
        try clear hx26
        try clear hcz23_0
        try clear hcz23_1
        try clear hfz23_0
        try clear hfz23_1
        try clear p1
        try clear p12
        try clear p2
        try clear p26
        try clear p6
        try clear q1
        try clear q12
        try clear q26
        obtain ⟨kq, x64_19, rfl, HA, HJ19, HO_4, BK215, HB⟩ := hcut;cases kq with
        | zero => exact absurd HA.out (by simp [spec_Attrs.j2])
        | succ kj19 =>
         have H := HA.out;clear HA;simp only [spec_Attrs.j2] at H;by_cases c27 : x64_19 = true
         ·subst c27;rw [if_pos rfl] at H;obtain ⟨t217, A28, H⟩ := ob_ H;(try dsimp only at H)
          obtain ⟨⟨t218, t219⟩, A29, H⟩ := ob_ H;(try dsimp only at H)
          obtain ⟨t220, A30, H⟩ := ob_ H;obtain ⟨t221, A31, H⟩ := ob_ H;(try dsimp only at H)
          by_cases c32 : t221 = true
          ·subst c32;rw [if_pos rfl] at H;have H' := A_ H;clear H;go_wp2_with (first | ((with_reducible refine gC_ 88 ?_); refine gL_ 70 Tryz.func88 #[.string a0, .int .i64 (wrap64 (t216 + 1))] ?_; refine dm_ (spec_l4Blanks.calls kj19 a0 (wrap64 (t216 + 1)) t217 _ A28.out) fun nd => ?_; (try (rw [drewN_self wc]; generalize hq_ : World.drewN wc _ = wc; have n0_ : As9 (Kd.R k84 84 wc w.heap.size (fun k_ => k_ ≠ gb215) u4 x4_1) := ⟨by rw [← hq_]; exact (kQ_ HO_4.out)⟩; have n1_ : As9 (wc.heap[gb215]? = some (.cells #[.string t214, .string (⟨#[]⟩ : BA)] 84 (0, 0))) := ⟨by rw [← hq_]; exact (blk_below BK215.out hR_)⟩; have n2_ : As9 (Below w.heap.size w wc) := ⟨by rw [← hq_]; exact hB_⟩; clear HO_4 BK215 HB hq_; have HO_4 := n0_; have BK215 := n1_; have HB := n2_; clear n0_ n1_ n2_))) | ((with_reducible refine gC_ 137 ?_); refine gL_ 71 Tryz.func137 #[.string a0, .int .i64 t217] ?_; refine dm_ (spec_l4Value.calls kj19 a0 t217 t218 t219 _ A29.out) fun nd => ?_; (try (rw [drewN_self wc]; generalize hq_ : World.drewN wc _ = wc; have n0_ : As9 (Kd.R k84 84 wc w.heap.size (fun k_ => k_ ≠ gb215) u4 x4_1) := ⟨by rw [← hq_]; exact (kQ_ HO_4.out)⟩; have n1_ : As9 (wc.heap[gb215]? = some (.cells #[.string t214, .string (⟨#[]⟩ : BA)] 84 (0, 0))) := ⟨by rw [← hq_]; exact (blk_below BK215.out hR_)⟩; have n2_ : As9 (Below w.heap.size w wc) := ⟨by rw [← hq_]; exact hB_⟩; clear HO_4 BK215 HB hq_; have HO_4 := n0_; have BK215 := n1_; have HB := n2_; clear n0_ n1_ n2_))) | ((with_reducible refine gC_ 55 ?_); refine gL_ 75 Tryz.func55 #[.string t218, .bool true] ?_; (with_reducible refine (spec_Refs.calls kj19 t218 true t220 _ A30.out).mono ?_); rintro e w33 ⟨rfl, hb⟩; refine ⟨_, rfl, ?_⟩; replace HO_4 := A_ (Kd.R_below (kQ_ HO_4.out) hb); replace BK215 := A_ (blk_below (g := gb215) (o := .cells #[.string t214, .string (⟨#[]⟩ : BA)] 84 (0, 0)) (blk_below BK215.out hR_) hb); replace HB := bS_ hb; clear hb; obtain ⟨hcz34_0, hcz34_1, hfz34_0, hfz34_1⟩ := bk2_ BK215.out; obtain ⟨Ao35, co35, eo35⟩ := Kd.R_slice HO_4.out; subst eo35) | ((with_reducible refine gC_ 125 ?_); refine gL_ 81 Tryz.func125 #[.slice Ao35 x4_1.length co35, .string t214] ?_; (with_reducible refine (spec_l4Has.calls kj19 _ _ x4_1 t214 true _ ?side1 ?side2 A31.out).mono ?_); (case side1 => refine (Kd.R_reads' (e := 84) (base := w.heap.size) (ok := fun k_ => k_ ≠ gb215) (n := x4_1.length) (c := co35) ?_).2.2; exact (by (with_reducible repeat (first | apply Kd.R_alloc | apply Kd.R_drewN | apply Kd.R_drew)); exact (Kd.R_mono (Kd.R_far (p := ⟨gb215, 1, none⟩) (Kd.R_mono HO_4.out (fun k_ hk => (⟨hk, hk⟩ : _ ∧ k_ ≠ gb215))) (fun _ hk => hk.2) (.string t220)) (fun _ h_ => h_.1)))); (case side2 => exact (Kd.R_reads' HO_4.out).2.1); rintro e w' ⟨rfl, ⟨nd, rfl⟩⟩; refine ⟨_, rfl, ?_⟩))
           go_roundg kj19
           case measure => have := HK1.out; have := HJ5.out; have := HJ19.out; omega
           case rel => exact ⟨(x4_1), (x5_5), (t219), e2_, e2_, H', ⟨by have := HK1.out; have := HJ5.out; have := HJ19.out; omega⟩, ⟨by (with_reducible repeat (first | apply Kd.R_alloc | apply Kd.R_drewN | apply Kd.R_drew)); exact Kd.R_mono (Kd.R_far (p := ⟨gb215, 1, none⟩) (Kd.R_mono HO_4.out (fun k_ hk => (⟨hk, hk⟩ : _ ∧ k_ ≠ gb215))) (fun _ hk => hk.2) (.string t220)) (fun _ hk => trivial)⟩, ⟨hB_⟩⟩
          ·replace c32 := bF_ c32;subst c32;rw [if_neg nF_] at H;obtain ⟨c36, H⟩ := ifn_ H;have LMc36 := A_ c36;clear c36;obtain ⟨y222, hy222⟩ : ∃ y_ : List (S84), y_ = (x4_1 ++ [(⟨t214, t220⟩ : S84)]) := ⟨_, rfl⟩;replace H : (spec_Attrs.l0 kj19 a0 y222 x5_5 t219) = some (r1, r2) := by first | (rw [hy222]; with_reducible exact H) | (have H2_ := (Option.bind_some _ _).symm.trans H; rw [hy222]; with_reducible exact H2_) | (have H2_ := (Option.bind_some _ _).symm.trans H; with_reducible exact H2_) | with_reducible exact H | (rw [hy222]; exact H) | exact H
           have Ny222 := A_ hy222;clear hy222;have H' := A_ H;clear H;go_wp2_with (first | ((with_reducible refine gC_ 88 ?_); refine gL_ 70 Tryz.func88 #[.string a0, .int .i64 (wrap64 (t216 + 1))] ?_; refine dm_ (spec_l4Blanks.calls kj19 a0 (wrap64 (t216 + 1)) t217 _ A28.out) fun nd => ?_; (try (rw [drewN_self wc]; generalize hq_ : World.drewN wc _ = wc; have n0_ : As9 (Kd.R k84 84 wc w.heap.size (fun k_ => k_ ≠ gb215) u4 x4_1) := ⟨by rw [← hq_]; exact (kQ_ HO_4.out)⟩; have n1_ : As9 (wc.heap[gb215]? = some (.cells #[.string t214, .string (⟨#[]⟩ : BA)] 84 (0, 0))) := ⟨by rw [← hq_]; exact (blk_below BK215.out hR_)⟩; have n2_ : As9 (Below w.heap.size w wc) := ⟨by rw [← hq_]; exact hB_⟩; clear HO_4 BK215 HB hq_; have HO_4 := n0_; have BK215 := n1_; have HB := n2_; clear n0_ n1_ n2_))) | ((with_reducible refine gC_ 137 ?_); refine gL_ 71 Tryz.func137 #[.string a0, .int .i64 t217] ?_; refine dm_ (spec_l4Value.calls kj19 a0 t217 t218 t219 _ A29.out) fun nd => ?_; (try (rw [drewN_self wc]; generalize hq_ : World.drewN wc _ = wc; have n0_ : As9 (Kd.R k84 84 wc w.heap.size (fun k_ => k_ ≠ gb215) u4 x4_1) := ⟨by rw [← hq_]; exact (kQ_ HO_4.out)⟩; have n1_ : As9 (wc.heap[gb215]? = some (.cells #[.string t214, .string (⟨#[]⟩ : BA)] 84 (0, 0))) := ⟨by rw [← hq_]; exact (blk_below BK215.out hR_)⟩; have n2_ : As9 (Below w.heap.size w wc) := ⟨by rw [← hq_]; exact hB_⟩; clear HO_4 BK215 HB hq_; have HO_4 := n0_; have BK215 := n1_; have HB := n2_; clear n0_ n1_ n2_))) | ((with_reducible refine gC_ 55 ?_); refine gL_ 75 Tryz.func55 #[.string t218, .bool true] ?_; (with_reducible refine (spec_Refs.calls kj19 t218 true t220 _ A30.out).mono ?_); rintro e w37 ⟨rfl, hb⟩; refine ⟨_, rfl, ?_⟩; replace HO_4 := A_ (Kd.R_below (kQ_ HO_4.out) hb); replace BK215 := A_ (blk_below (g := gb215) (o := .cells #[.string t214, .string (⟨#[]⟩ : BA)] 84 (0, 0)) (blk_below BK215.out hR_) hb); replace HB := bS_ hb; clear hb; obtain ⟨hcz38_0, hcz38_1, hfz38_0, hfz38_1⟩ := bk2_ BK215.out; obtain ⟨Ao39, co39, eo39⟩ := Kd.R_slice HO_4.out; subst eo39) | ((with_reducible refine gC_ 125 ?_); refine gL_ 81 Tryz.func125 #[.slice Ao39 x4_1.length co39, .string t214] ?_; (with_reducible refine (spec_l4Has.calls kj19 _ _ x4_1 t214 false _ ?side1 ?side2 A31.out).mono ?_); (case side1 => refine (Kd.R_reads' (e := 84) (base := w.heap.size) (ok := fun k_ => k_ ≠ gb215) (n := x4_1.length) (c := co39) ?_).2.2; exact (by (with_reducible repeat (first | apply Kd.R_alloc | apply Kd.R_drewN | apply Kd.R_drew)); exact (Kd.R_mono (Kd.R_far (p := ⟨gb215, 1, none⟩) (Kd.R_mono HO_4.out (fun k_ hk => (⟨hk, hk⟩ : _ ∧ k_ ≠ gb215))) (fun _ hk => hk.2) (.string t220)) (fun _ h_ => h_.1)))); (case side2 => exact (Kd.R_reads' HO_4.out).2.1); rintro e w' ⟨rfl, ⟨nd, rfl⟩⟩; refine ⟨_, rfl, ?_⟩) | ((with_reducible refine gate_builtin (b := .append) (xs := #[.tmp 83, .tmp 85]) rfl ?_); at_builtin; refine Kd.R_append k84 (w0 := w) w.heap.size rfl (.tmp 83) (.tmp 85) 41 84 (.agg #[(.string ⟨#[]⟩), (.string ⟨#[]⟩)]) 32 rfl Tryz.underlying41 info84 rfl de_ om_ (.slice Ao39 x4_1.length co39) x4_1 (⟨t214, t220⟩ : S84) [.string t214, .string t220] (fun k_ => k_ ≠ gb215) (fun _ => False) rfl (by first | (go_simp; done) | (go_simp; rfl)) ?aP (fun _ hk => hk.elim) ?aF ?aO ?aB ?aS ?aL ?_; (case aP => exact k84_mkM _ _ _ (⟨t214, t220⟩ : S84)); (case aB => exact hB_); (case aF => exact (fun k_ hk => Kd.freshB (g := gb215) (o := .cells #[.string t214, .string t220] 84 (0, 0)) (by refine kB_ ?_; refine blk_put (cs := #[.string t214, .string (⟨#[]⟩ : BA)]) ?_ 1 _ rfl; refine kB_ ?_; exact BK215.out) k_ hk)); (case aO => exact (by (with_reducible repeat (first | apply Kd.R_alloc | apply Kd.R_drewN | apply Kd.R_drew)); exact Kd.R_mono (Kd.R_far (p := ⟨gb215, 1, none⟩) (Kd.R_mono HO_4.out (fun k_ hk => (⟨hk, hk⟩ : _ ∧ k_ ≠ gb215))) (fun _ hk => hk.2) (.string t220)) (fun _ hk => hk.1))); (case aS => exact (below_size hB_)); (case aL => have := LMc36.out; omega); intro v223 w40 ho hb hg hat; rw [← Ny222.out] at ho; replace BK215 := A_ (blk_grown (g := gb215) (o := .cells #[.string t214, .string t220] 84 (0, 0)) (by refine kB_ ?_; refine blk_put (cs := #[.string t214, .string (⟨#[]⟩ : BA)]) ?_ 1 _ rfl; refine kB_ ?_; exact BK215.out) hg (Kd.R_away HO_4.out (fun _ hk => hk))); replace HB := A_ (hb); have HO224 := A_ (ho); clear HO_4; clear ho hb hg hat))
           go_roundg kj19
           case measure => have := HK1.out; have := HJ5.out; have := HJ19.out; omega
           case rel => exact ⟨(y222), (x5_5), (t219), e2_, e2_, H', ⟨by have := HK1.out; have := HJ5.out; have := HJ19.out; omega⟩, ⟨by (with_reducible repeat (first | apply Kd.R_alloc | apply Kd.R_drewN | apply Kd.R_drew)); exact Kd.R_mono HO224.out (fun _ hk => trivial)⟩, ⟨hB_⟩⟩
         ·replace c27 := bF_ c27;subst c27;rw [if_neg nF_] at H;obtain ⟨t225, A41, H⟩ := ob_ H;(try dsimp only at H)
          by_cases c42 : t225 = true
          ·subst c42;rw [if_pos rfl] at H;have H' := A_ H;clear H;obtain ⟨hcz43_0, hcz43_1, hfz43_0, hfz43_1⟩ := bk2_ BK215.out;obtain ⟨Ao44, co44, eo44⟩ := Kd.R_slice HO_4.out;subst eo44;go_wp2_with (first | ((with_reducible refine gC_ 125 ?_); refine gL_ 81 Tryz.func125 #[.slice Ao44 x4_1.length co44, .string t214] ?_; (with_reducible refine (spec_l4Has.calls kj19 _ _ x4_1 t214 true _ ?side1 ?side2 A41.out).mono ?_); (case side1 => repeat (first | exact (Kd.R_reads' HO_4.out).2.2 | (with_reducible refine Kd.C_alloc ?_ _) | (with_reducible refine Kd.C_drewN ?_ _) | (with_reducible refine Kd.C_drew ?_))); (case side2 => exact (Kd.R_reads' HO_4.out).2.1); rintro e w' ⟨rfl, ⟨nd, rfl⟩⟩; refine ⟨_, rfl, ?_⟩))
           go_roundg kj19
           case measure => have := HK1.out; have := HJ5.out; have := HJ19.out; omega
           case rel => exact ⟨(x4_1), (x5_5), (t213), e2_, e2_, H', ⟨by have := HK1.out; have := HJ5.out; have := HJ19.out; omega⟩, ⟨by (with_reducible repeat (first | apply Kd.R_alloc | apply Kd.R_drewN | apply Kd.R_drew)); exact Kd.R_mono HO_4.out (fun _ hk => trivial)⟩, ⟨hB_⟩⟩
          ·replace c42 := bF_ c42;subst c42;rw [if_neg nF_] at H;obtain ⟨c45, H⟩ := ifn_ H;have LMc45 := A_ c45;clear c45;obtain ⟨y226, hy226⟩ : ∃ y_ : List (S84), y_ = (x4_1 ++ [(⟨t214, (⟨#[]⟩ : BA)⟩ : S84)]) := ⟨_, rfl⟩;replace H : (spec_Attrs.l0 kj19 a0 y226 x5_5 t213) = some (r1, r2) := by first | (rw [hy226]; with_reducible exact H) | (have H2_ := (Option.bind_some _ _).symm.trans H; rw [hy226]; with_reducible exact H2_) | (have H2_ := (Option.bind_some _ _).symm.trans H; with_reducible exact H2_) | with_reducible exact H | (rw [hy226]; exact H) | exact H
           have Ny226 := A_ hy226;clear hy226;have H' := A_ H;clear H;obtain ⟨hcz46_0, hcz46_1, hfz46_0, hfz46_1⟩ := bk2_ BK215.out;obtain ⟨Ao47, co47, eo47⟩ := Kd.R_slice HO_4.out;subst eo47;go_wp2_with (first | ((with_reducible refine gC_ 125 ?_); refine gL_ 81 Tryz.func125 #[.slice Ao47 x4_1.length co47, .string t214] ?_; (with_reducible refine (spec_l4Has.calls kj19 _ _ x4_1 t214 false _ ?side1 ?side2 A41.out).mono ?_); (case side1 => repeat (first | exact (Kd.R_reads' HO_4.out).2.2 | (with_reducible refine Kd.C_alloc ?_ _) | (with_reducible refine Kd.C_drewN ?_ _) | (with_reducible refine Kd.C_drew ?_))); (case side2 => exact (Kd.R_reads' HO_4.out).2.1); rintro e w' ⟨rfl, ⟨nd, rfl⟩⟩; refine ⟨_, rfl, ?_⟩) | ((with_reducible refine gate_builtin (b := .append) (xs := #[.tmp 83, .tmp 85]) rfl ?_); at_builtin; refine Kd.R_append k84 (w0 := w) w.heap.size rfl (.tmp 83) (.tmp 85) 41 84 (.agg #[(.string ⟨#[]⟩), (.string ⟨#[]⟩)]) 32 rfl Tryz.underlying41 info84 rfl de_ om_ (.slice Ao47 x4_1.length co47) x4_1 (⟨t214, (⟨#[]⟩ : BA)⟩ : S84) [.string t214, .string (⟨#[]⟩ : BA)] (fun k_ => k_ ≠ gb215) (fun _ => False) rfl rfl ?aP (fun _ hk => hk.elim) ?aF ?aO ?aB ?aS ?aL ?_; (case aP => exact k84_mkM _ _ _ (⟨t214, (⟨#[]⟩ : BA)⟩ : S84)); (case aB => exact hB_); (case aF => exact (fun k_ hk => Kd.freshB (g := gb215) (o := .cells #[.string t214, .string (⟨#[]⟩ : BA)] 84 (0, 0)) (blk_below BK215.out hR_) k_ hk)); (case aO => exact (kQ_ HO_4.out)); (case aS => exact (below_size hB_)); (case aL => have := LMc45.out; omega); intro v227 w48 ho hb hg hat; rw [← Ny226.out] at ho; replace BK215 := A_ (blk_grown (g := gb215) (o := .cells #[.string t214, .string (⟨#[]⟩ : BA)] 84 (0, 0)) (blk_below BK215.out hR_) hg (Kd.R_away HO_4.out (fun _ hk => hk))); replace HB := A_ (hb); have HO228 := A_ (ho); clear HO_4; clear ho hb hg hat))
           go_roundg kj19
           case measure => have := HK1.out; have := HJ5.out; have := HJ19.out; omega
           case rel => exact ⟨(y226), (x5_5), (t213), e2_, e2_, H', ⟨by have := HK1.out; have := HJ5.out; have := HJ19.out; omega⟩, ⟨by (with_reducible repeat (first | apply Kd.R_alloc | apply Kd.R_drewN | apply Kd.R_drew)); exact Kd.R_mono HO228.out (fun _ hk => trivial)⟩, ⟨hB_⟩⟩
   ·have c4b0 := dF_ c4;clear c4;obtain ⟨rfl, rfl⟩ := pi_ H;go_wp2
    go_ret2
    exact ⟨_, e1_, kQ_ HO_4.out, hB_⟩
def spec_l1Max.f (a0 : Int) (a1 : Int) : Option (Int) := if a0 > a1 then (some a0) else (some a1)
theorem spec_l1Max.calls (a0 : Int) (a1 : Int) (r : Int) (w : World) (h : spec_l1Max.f a0 a1 = some r) :
  Calls Tryz.prog 126 #[.int .i64 a0, .int .i64 a1] w fun e w' => e = .returned (.int .i64 r) ∧ Drawn0 w w' := by
 have H : (if a0 > a1 then (some a0) else (some a1)) = some r := h;clear h;rcases ic_ H with ⟨c3, H⟩ | ⟨c3, H⟩
 ·have c3b0 : decide (a1 < a0) = true := dE_ c3;clear c3;obtain rfl := sI_ H;go_enter Tryz.func126, Tryz.ntmps126
  go_wp2
  go_ret
  exact ⟨e2_, d0_⟩
 ·have c3b0 : decide (a1 < a0) = false := dF_ c3;clear c3;obtain rfl := sI_ H;go_enter Tryz.func126, Tryz.ntmps126
  go_wp2
  go_ret
  exact ⟨e2_, d0_⟩
def spec_RawEnd.l0 : Nat → ByteArray → ByteArray → Int → Int → Option (Int)
 | 0, _, _, _, _ => none
 | k + 1, x0, x2, x7, x8 => if (wrap64 ((wrap64 (x8 + 2)) + x7)) < (x0.size : Int) then (if 0 ≤ x8 then (if x8 < (x0.size : Int) then (if (bt x0 x8) = 60 then (if 0 ≤ (wrap64 (x8 + 1)) then (if (wrap64 (x8 + 1)) < (x0.size : Int) then (if (bt x0 (wrap64 (x8 + 1))) = 47 then (if 0 ≤ (wrap64 (x8 + 2)) then (if (wrap64 (x8 + 2)) ≤ (wrap64 ((wrap64 (x8 + 2)) + x7)) then (if (wrap64 ((wrap64 (x8 + 2)) + x7)) ≤ (x0.size : Int) then ((spec_Small.f (x0.extract ((wrap64 (x8 + 2)) : Int).toNat ((wrap64 ((wrap64 (x8 + 2)) + x7)) : Int).toNat)).bind fun t230 => ((spec_Small.f x2).bind fun t231 => (if t230.toList = t231.toList then (if 0 ≤ (wrap64 ((wrap64 (x8 + 2)) + x7)) then ((spec_l4Blank.f (bt x0 (wrap64 ((wrap64 (x8 + 2)) + x7)))).bind fun t232 => (if t232 = true then (some x8) else (if (bt x0 (wrap64 ((wrap64 (x8 + 2)) + x7))) = 47 then (some x8) else (if (bt x0 (wrap64 ((wrap64 (x8 + 2)) + x7))) = 62 then (some x8) else (spec_RawEnd.l0 k x0 x2 x7 (wrap64 (x8 + 1))))))) else (none)) else (spec_RawEnd.l0 k x0 x2 x7 (wrap64 (x8 + 1)))))) else (none)) else (none)) else (none)) else (spec_RawEnd.l0 k x0 x2 x7 (wrap64 (x8 + 1)))) else (none)) else (none)) else (spec_RawEnd.l0 k x0 x2 x7 (wrap64 (x8 + 1)))) else (none)) else (none)) else (some (x0.size : Int))
def spec_RawEnd.f (k : Nat) (a0 : BA) (a1 : Int) (a2 : BA) : Option (Int) := if a1 ≥ (a0.size : Int) then (some (a0.size : Int)) else ((spec_l1Max.f a1 0).bind fun t229 => (spec_RawEnd.l0 k a0 a2 (a2.size : Int) t229))
theorem spec_RawEnd.mono_l : ∀ k, (∀ y0 y1 y2 y3, LeO (spec_RawEnd.l0 k y0 y1 y2 y3) (spec_RawEnd.l0 (k + 1) y0 y1 y2 y3))
 | 0 => fun _ _ _ _ r h => by simp [spec_RawEnd.l0] at h
 | k + 1 => by
  have ih0 := spec_RawEnd.mono_l k
  ·intro y0 y1 y2 y3;unfold spec_RawEnd.l0;with_reducible repeat' first | exact ih0 _ _ _ _ | apply LeO.refl | apply LeO.none | apply LeO.ite | apply LeO.bind | intro
theorem spec_RawEnd.mono : ∀ a0 a1 a2 k, LeO (spec_RawEnd.f k a0 a1 a2) (spec_RawEnd.f (k + 1) a0 a1 a2) := by
 intro a0 a1 a2 k;have ih0 := spec_RawEnd.mono_l k;unfold spec_RawEnd.f;with_reducible repeat' first | exact ih0 _ _ _ _ | apply LeO.refl | apply LeO.none | apply LeO.ite | apply LeO.bind | intro
theorem spec_RawEnd.calls (k : Nat) (a0 : BA) (a1 : Int) (a2 : BA) (r : Int) (w : World) (h : spec_RawEnd.f k a0 a1 a2 = some r) :
  Calls Tryz.prog 90 #[.string a0, .int .i64 a1, .string a2] w fun e w' => e = .returned (.int .i64 r) ∧ Below w.heap.size w w' := by
 have HB := A_ (Below.refl w.heap.size w);have H : (if a1 ≥ (a0.size : Int) then (some (a0.size : Int)) else ((spec_l1Max.f a1 0).bind fun t229 => (spec_RawEnd.l0 k a0 a2 (a2.size : Int) t229))) = some r := h;clear h;rcases ic_ H with ⟨c4, H⟩ | ⟨c4, H⟩
 ·have c4b0 : decide ((a0.size : Int) ≤ a1) = true := dE_ c4;clear c4;obtain rfl := sI_ H;go_enter Tryz.func90, Tryz.ntmps90
  go_wp2
  go_ret
  exact ⟨e1_, hB_⟩
 ·have c4b0 : decide ((a0.size : Int) ≤ a1) = false := dF_ c4;clear c4;obtain ⟨t229, A5, H⟩ := ob_ H;(try dsimp only at H)
  have H' := A_ H;clear H;go_enter Tryz.func90, Tryz.ntmps90
  go_wp2_with (first | ((with_reducible refine gC_ 126 ?_); refine gL_ 18 Tryz.func126 #[.int .i64 a1, .int .i64 0] ?_; refine dm_ (spec_l1Max.calls a1 0 t229 _ A5.out) fun nd => ?_))
  go_loopg [8] k (fun kq v8 w' => ∃ (x8_1 : Int), v8 = .int .i64 x8_1 ∧ As9 (spec_RawEnd.l0 kq a0 a2 (a2.size : Int) x8_1 = some r) ∧ As9 (kq ≤ k) ∧ As9 (Below w.heap.size w w'))
  case atStart => exact ⟨(t229), e2_, H', ⟨Nat.le_refl _⟩, ⟨hB_⟩⟩
  case round =>
   clear H';try clear c1
   try clear p2
   try clear c4
   try clear c4b0
   obtain ⟨x8_1, rfl, HA, HK1, HB⟩ := hrel;cases gk with
   | zero => exact absurd HA.out (by simp [spec_RawEnd.l0])
   | succ k1 =>
    have H := HA.out;clear HA;simp only [spec_RawEnd.l0] at H;rcases ic_ H with ⟨c6, H⟩ | ⟨c6, H⟩
    ·have c6b0 := dE_ c6;clear c6;obtain ⟨c7, H⟩ := ifn_ H;have c7b0 := dE_ c7;clear c7;obtain ⟨c8, H⟩ := ifn_ H;have c8b0 := dE_ c8;clear c8;rcases ic_ H with ⟨c10, H⟩ | ⟨c10, H⟩
     ·obtain ⟨c10b0, c10b1⟩ := be_ c10;clear c10;obtain ⟨ji11, hji11⟩ : ∃ j_ : Int, (wrap64 (x8_1 + 1)) = j_ := ⟨_, rfl⟩;replace H : (if 0 ≤ (ji11) then (if (ji11) < (a0.size : Int) then (if (bt a0 (ji11)) = 47 then (if 0 ≤ (wrap64 (x8_1 + 2)) then (if (wrap64 (x8_1 + 2)) ≤ (wrap64 ((wrap64 (x8_1 + 2)) + (a2.size : Int))) then (if (wrap64 ((wrap64 (x8_1 + 2)) + (a2.size : Int))) ≤ (a0.size : Int) then ((spec_Small.f (a0.extract ((wrap64 (x8_1 + 2)) : Int).toNat ((wrap64 ((wrap64 (x8_1 + 2)) + (a2.size : Int))) : Int).toNat)).bind fun t230 => ((spec_Small.f a2).bind fun t231 => (if t230.toList = t231.toList then (if 0 ≤ (wrap64 ((wrap64 (x8_1 + 2)) + (a2.size : Int))) then ((spec_l4Blank.f (bt a0 (wrap64 ((wrap64 (x8_1 + 2)) + (a2.size : Int))))).bind fun t232 => (if t232 = true then (some x8_1) else (if (bt a0 (wrap64 ((wrap64 (x8_1 + 2)) + (a2.size : Int)))) = 47 then (some x8_1) else (if (bt a0 (wrap64 ((wrap64 (x8_1 + 2)) + (a2.size : Int)))) = 62 then (some x8_1) else (spec_RawEnd.l0 k1 a0 a2 (a2.size : Int) ji11))))) else (none)) else (spec_RawEnd.l0 k1 a0 a2 (a2.size : Int) ji11)))) else (none)) else (none)) else (none)) else (spec_RawEnd.l0 k1 a0 a2 (a2.size : Int) ji11)) else (none)) else (none)) = some r := by first | (rw [hji11] at H; exact H) | (simp only [hji11] at H ⊢; exact H)
      have hji11w : (IntKind.i64.wrap (x8_1 + 1)) = ji11 := (i64_w _).trans hji11;obtain ⟨c12, H⟩ := ifn_ H;have c12b0 := dE_ c12;clear c12;obtain ⟨c13, H⟩ := ifn_ H;have c13b0 := dE_ c13;clear c13;rcases ic_ H with ⟨c15, H⟩ | ⟨c15, H⟩
      ·obtain ⟨c15b0, c15b1⟩ := be_ c15;clear c15;obtain ⟨ji16, hji16⟩ : ∃ j_ : Int, (wrap64 (x8_1 + 2)) = j_ := ⟨_, rfl⟩;replace H : (if 0 ≤ (ji16) then (if (ji16) ≤ (wrap64 ((ji16) + (a2.size : Int))) then (if (wrap64 ((ji16) + (a2.size : Int))) ≤ (a0.size : Int) then ((spec_Small.f (a0.extract ((ji16) : Int).toNat ((wrap64 ((ji16) + (a2.size : Int))) : Int).toNat)).bind fun t230 => ((spec_Small.f a2).bind fun t231 => (if t230.toList = t231.toList then (if 0 ≤ (wrap64 ((ji16) + (a2.size : Int))) then ((spec_l4Blank.f (bt a0 (wrap64 ((ji16) + (a2.size : Int))))).bind fun t232 => (if t232 = true then (some x8_1) else (if (bt a0 (wrap64 ((ji16) + (a2.size : Int)))) = 47 then (some x8_1) else (if (bt a0 (wrap64 ((ji16) + (a2.size : Int)))) = 62 then (some x8_1) else (spec_RawEnd.l0 k1 a0 a2 (a2.size : Int) ji11))))) else (none)) else (spec_RawEnd.l0 k1 a0 a2 (a2.size : Int) ji11)))) else (none)) else (none)) else (none)) = some r := by first | (rw [hji16] at H; exact H) | (simp only [hji16] at H ⊢; exact H)
       (try rw [hji16] at c6b0)
       have hji16w : (IntKind.i64.wrap (x8_1 + 2)) = ji16 := (i64_w _).trans hji16;obtain ⟨c17, H⟩ := ifn_ H;have c17b0 := eq_true c17;have c17b1 := dE_ c17;clear c17;obtain ⟨c18, H⟩ := ifn_ H;have c18b0 := eq_true c18;have c18b1 := dE_ c18;obtain ⟨c19, H⟩ := ifn_ H;have c19b0 := eq_true c19;have c19b1 := dE_ c19;obtain ⟨t230, A20, H⟩ := ob_ H;obtain ⟨t231, A21, H⟩ := ob_ H;rcases ic_ H with ⟨c22, H⟩ | ⟨c22, H⟩
       ·obtain ⟨c22b0, c22b1⟩ := be_ c22;clear c22;obtain ⟨ji23, hji23⟩ : ∃ j_ : Int, (wrap64 ((ji16) + (a2.size : Int))) = j_ := ⟨_, rfl⟩;replace H : (if 0 ≤ (ji23) then ((spec_l4Blank.f (bt a0 (ji23))).bind fun t232 => (if t232 = true then (some x8_1) else (if (bt a0 (ji23)) = 47 then (some x8_1) else (if (bt a0 (ji23)) = 62 then (some x8_1) else (spec_RawEnd.l0 k1 a0 a2 (a2.size : Int) ji11))))) else (none)) = some r := by first | (rw [hji23] at H; exact H) | (simp only [hji23] at H ⊢; exact H)
        (try rw [hji23] at c18b0)
        (try rw [hji23] at c18b1)
        (try rw [hji23] at c18)
        (try rw [hji23] at c19b0)
        (try rw [hji23] at c19b1)
        (try rw [hji23] at c19)
        (try rw [hji23] at A20)
        (try rw [hji23] at A21)
        have hji23w : (IntKind.i64.wrap ((ji16) + (a2.size : Int))) = ji23 := (i64_w _).trans hji23;(try rw [hji23] at c6b0)
        obtain ⟨c24, H⟩ := ifn_ H;have c24b0 := dE_ c24;clear c24;obtain ⟨t232, A26, H⟩ := ob_ H;(try dsimp only at H)
        by_cases c27 : t232 = true
        ·subst c27;rw [if_pos rfl] at H;obtain rfl := sI_ H;have p9 : 0 ≤ (x8_1 : Int) := dT_;have q9 : x8_1 < (a0.size : Int) := dT_;have hx9 := bt_at a0 x8_1;replace p9 := eq_true p9;replace q9 := eq_true q9;have p14 : 0 ≤ ((ji11) : Int) := dT_;have q14 : (ji11) < (a0.size : Int) := dT_;have hx14 := bt_at a0 (ji11);replace p14 := eq_true p14;replace q14 := eq_true q14;go_wp2_with (first | (go_at_call 87; (with_reducible refine (spec_Small.calls (a0.extract ((ji16) : Int).toNat ((ji23) : Int).toNat) t230 _ A20.out).mono ?_); rintro e w28 ⟨rfl, hb⟩; replace HB := bS_ hb; clear hb) | (go_at_call 87; (with_reducible refine (spec_Small.calls a2 t231 _ A21.out).mono ?_); rintro e w29 ⟨rfl, hb⟩; replace HB := bS_ hb; clear hb; have p25 : 0 ≤ ((ji23) : Int) := dT_; have q25 : (ji23) < (a0.size : Int) := dT_; have hx25 := bt_at a0 (ji23); replace p25 := eq_true p25; replace q25 := eq_true q25) | (go_at_call 124; (with_reducible refine (spec_l4Blank.calls (bt a0 (ji23)) true _ A26.out).mono ?_); rintro e w' ⟨rfl, ⟨nd, rfl⟩⟩))
         go_ret
         exact ⟨by first | rfl | (simp [errW_none, errW_some] <;> rfl) | (simp only [← hji11, ← hji16, ← hji23]; first | rfl | (simp [errW_none, errW_some] <;> rfl)) | (simp [*, errW_none, errW_some] <;> rfl), hB_⟩
        ·replace c27 := bF_ c27;subst c27;rw [if_neg nF_] at H;rcases ic_ H with ⟨c31, H⟩ | ⟨c31, H⟩
         ·obtain ⟨c31b0, c31b1⟩ := be_ c31;clear c31;obtain rfl := sI_ H;have p9 : 0 ≤ (x8_1 : Int) := dT_;have q9 : x8_1 < (a0.size : Int) := dT_;have hx9 := bt_at a0 x8_1;replace p9 := eq_true p9;replace q9 := eq_true q9;have p14 : 0 ≤ ((ji11) : Int) := dT_;have q14 : (ji11) < (a0.size : Int) := dT_;have hx14 := bt_at a0 (ji11);replace p14 := eq_true p14;replace q14 := eq_true q14;go_wp2_with (first | (go_at_call 87; (with_reducible refine (spec_Small.calls (a0.extract ((ji16) : Int).toNat ((ji23) : Int).toNat) t230 _ A20.out).mono ?_); rintro e w32 ⟨rfl, hb⟩; replace HB := bS_ hb; clear hb) | (go_at_call 87; (with_reducible refine (spec_Small.calls a2 t231 _ A21.out).mono ?_); rintro e w33 ⟨rfl, hb⟩; replace HB := bS_ hb; clear hb; have p25 : 0 ≤ ((ji23) : Int) := dT_; have q25 : (ji23) < (a0.size : Int) := dT_; have hx25 := bt_at a0 (ji23); replace p25 := eq_true p25; replace q25 := eq_true q25) | (go_at_call 124; (with_reducible refine (spec_l4Blank.calls (bt a0 (ji23)) false _ A26.out).mono ?_); rintro e w' ⟨rfl, ⟨nd, rfl⟩⟩; have p30 : 0 ≤ ((ji23) : Int) := dT_; have q30 : (ji23) < (a0.size : Int) := dT_; have hx30 := bt_at a0 (ji23); replace p30 := eq_true p30; replace q30 := eq_true q30))
          go_ret
          exact ⟨by first | rfl | (simp [errW_none, errW_some] <;> rfl) | (simp only [← hji11, ← hji16, ← hji23]; first | rfl | (simp [errW_none, errW_some] <;> rfl)) | (simp [*, errW_none, errW_some] <;> rfl), hB_⟩
         ·obtain ⟨c31b0, c31b1⟩ := bn_ c31;rcases ic_ H with ⟨c35, H⟩ | ⟨c35, H⟩
          ·obtain ⟨c35b0, c35b1⟩ := be_ c35;clear c35;obtain rfl := sI_ H;have p9 : 0 ≤ (x8_1 : Int) := dT_;have q9 : x8_1 < (a0.size : Int) := dT_;have hx9 := bt_at a0 x8_1;replace p9 := eq_true p9;replace q9 := eq_true q9;have p14 : 0 ≤ ((ji11) : Int) := dT_;have q14 : (ji11) < (a0.size : Int) := dT_;have hx14 := bt_at a0 (ji11);replace p14 := eq_true p14;replace q14 := eq_true q14;go_wp2_with (first | (go_at_call 87; (with_reducible refine (spec_Small.calls (a0.extract ((ji16) : Int).toNat ((ji23) : Int).toNat) t230 _ A20.out).mono ?_); rintro e w36 ⟨rfl, hb⟩; replace HB := bS_ hb; clear hb) | (go_at_call 87; (with_reducible refine (spec_Small.calls a2 t231 _ A21.out).mono ?_); rintro e w37 ⟨rfl, hb⟩; replace HB := bS_ hb; clear hb; have p25 : 0 ≤ ((ji23) : Int) := dT_; have q25 : (ji23) < (a0.size : Int) := dT_; have hx25 := bt_at a0 (ji23); replace p25 := eq_true p25; replace q25 := eq_true q25) | (go_at_call 124; (with_reducible refine (spec_l4Blank.calls (bt a0 (ji23)) false _ A26.out).mono ?_); rintro e w' ⟨rfl, ⟨nd, rfl⟩⟩; have p30 : 0 ≤ ((ji23) : Int) := dT_; have q30 : (ji23) < (a0.size : Int) := dT_; have hx30 := bt_at a0 (ji23); replace p30 := eq_true p30; replace q30 := eq_true q30; have p34 : 0 ≤ ((ji23) : Int) := dT_; have q34 : (ji23) < (a0.size : Int) := dT_; have hx34 := bt_at a0 (ji23); replace p34 := eq_true p34; replace q34 := eq_true q34))
           go_ret
           exact ⟨by first | rfl | (simp [errW_none, errW_some] <;> rfl) | (simp only [← hji11, ← hji16, ← hji23]; first | rfl | (simp [errW_none, errW_some] <;> rfl)) | (simp [*, errW_none, errW_some] <;> rfl), hB_⟩
          ·obtain ⟨c35b0, c35b1⟩ := bn_ c35;have H' := A_ H;clear H;have p9 : 0 ≤ (x8_1 : Int) := dT_;have q9 : x8_1 < (a0.size : Int) := dT_;have hx9 := bt_at a0 x8_1;replace p9 := eq_true p9;replace q9 := eq_true q9;have p14 : 0 ≤ ((ji11) : Int) := dT_;have q14 : (ji11) < (a0.size : Int) := dT_;have hx14 := bt_at a0 (ji11);replace p14 := eq_true p14;replace q14 := eq_true q14;go_wp2_with (first | (go_at_call 87; (with_reducible refine (spec_Small.calls (a0.extract ((ji16) : Int).toNat ((ji23) : Int).toNat) t230 _ A20.out).mono ?_); rintro e w38 ⟨rfl, hb⟩; replace HB := bS_ hb; clear hb) | (go_at_call 87; (with_reducible refine (spec_Small.calls a2 t231 _ A21.out).mono ?_); rintro e w39 ⟨rfl, hb⟩; replace HB := bS_ hb; clear hb; have p25 : 0 ≤ ((ji23) : Int) := dT_; have q25 : (ji23) < (a0.size : Int) := dT_; have hx25 := bt_at a0 (ji23); replace p25 := eq_true p25; replace q25 := eq_true q25) | (go_at_call 124; (with_reducible refine (spec_l4Blank.calls (bt a0 (ji23)) false _ A26.out).mono ?_); rintro e w' ⟨rfl, ⟨nd, rfl⟩⟩; have p30 : 0 ≤ ((ji23) : Int) := dT_; have q30 : (ji23) < (a0.size : Int) := dT_; have hx30 := bt_at a0 (ji23); replace p30 := eq_true p30; replace q30 := eq_true q30; have p34 : 0 ≤ ((ji23) : Int) := dT_; have q34 : (ji23) < (a0.size : Int) := dT_; have hx34 := bt_at a0 (ji23); replace p34 := eq_true p34; replace q34 := eq_true q34))
           go_roundg k1
           case measure => have := HK1.out; omega
           case rel => exact ⟨(ji11), (by first | rfl | (simp; done) | (simp only [← hji11] <;> (first | rfl | simp)) | (simp [*]; done)), H', ⟨by have := HK1.out; omega⟩, ⟨hB_⟩⟩
       ·obtain ⟨c22b0, c22b1⟩ := bn_ c22;have H' := A_ H;clear H;have p9 : 0 ≤ (x8_1 : Int) := dT_;have q9 : x8_1 < (a0.size : Int) := dT_;have hx9 := bt_at a0 x8_1;replace p9 := eq_true p9;replace q9 := eq_true q9;have p14 : 0 ≤ ((ji11) : Int) := dT_;have q14 : (ji11) < (a0.size : Int) := dT_;have hx14 := bt_at a0 (ji11);replace p14 := eq_true p14;replace q14 := eq_true q14;go_wp2_with (first | (go_at_call 87; (with_reducible refine (spec_Small.calls (a0.extract ((ji16) : Int).toNat ((wrap64 ((ji16) + (a2.size : Int))) : Int).toNat) t230 _ A20.out).mono ?_); rintro e w40 ⟨rfl, hb⟩; replace HB := bS_ hb; clear hb) | (go_at_call 87; (with_reducible refine (spec_Small.calls a2 t231 _ A21.out).mono ?_); rintro e w41 ⟨rfl, hb⟩; replace HB := bS_ hb; clear hb))
        go_roundg k1
        case measure => have := HK1.out; omega
        case rel => exact ⟨(ji11), (by first | rfl | (simp; done) | (simp only [← hji11] <;> (first | rfl | simp)) | (simp [*]; done)), H', ⟨by have := HK1.out; omega⟩, ⟨hB_⟩⟩
      ·obtain ⟨c15b0, c15b1⟩ := bn_ c15;have H' := A_ H;clear H;have p9 : 0 ≤ (x8_1 : Int) := dT_;have q9 : x8_1 < (a0.size : Int) := dT_;have hx9 := bt_at a0 x8_1;replace p9 := eq_true p9;replace q9 := eq_true q9;have p14 : 0 ≤ ((ji11) : Int) := dT_;have q14 : (ji11) < (a0.size : Int) := dT_;have hx14 := bt_at a0 (ji11);replace p14 := eq_true p14;replace q14 := eq_true q14;go_wp2
       go_roundg k1
       case measure => have := HK1.out; omega
       case rel => exact ⟨(ji11), (by first | rfl | (simp; done) | (simp only [← hji11] <;> (first | rfl | simp)) | (simp [*]; done)), H', ⟨by have := HK1.out; omega⟩, ⟨hB_⟩⟩
     ·obtain ⟨c10b0, c10b1⟩ := bn_ c10;have H' := A_ H;clear H;have p9 : 0 ≤ (x8_1 : Int) := dT_;have q9 : x8_1 < (a0.size : Int) := dT_;have hx9 := bt_at a0 x8_1;replace p9 := eq_true p9;replace q9 := eq_true q9;go_wp2
      go_roundg k1
      case measure => have := HK1.out; omega
      case rel => exact ⟨(wrap64 (x8_1 + 1)), e2_, H', ⟨by have := HK1.out; omega⟩, ⟨hB_⟩⟩
    ·have c6b0 := dF_ c6;clear c6;obtain rfl := sI_ H;go_wp2
     go_ret
     exact ⟨e1_, hB_⟩
end Go.Proofs.YtkbbfeckieckoaaGreatDoor.A
