-- joined by wip/tools/shake.py
import Derived.Test.YtkbbfeckieckoaaGreatDoorVScW9
import Derived.Test.YtkbbfeckieckoaaGreatDoorMSc0
import Derived.Test.YtkbbfeckieckoaaGreatDoorMSc1
set_option maxHeartbeats 16000000
set_option maxRecDepth 100000
namespace Go.Proofs.YtkbbfeckieckoaaGreatDoor.A
open Go.RowKit Go.Proofs.YtkbbfeckieckoaaGreatDoorW.PrintWords Go.Proofs.YtkbbfeckieckoaaGreatDoorW.PrintLast Go.Proofs.YtkbbfeckieckoaaGreatDoorW.PrintMore
attribute [local go_sem] max2_int min2_int max_two min_two max_three min_three max_four min_four
set_option linter.unusedVariables false
set_option linter.unusedSimpArgs false
def spec_Named.f  : Option (List ByteArray) := some (([(⟨#[97, 109, 112]⟩ : BA), (⟨#[97, 112, 111, 115]⟩ : BA), (⟨#[99, 111, 112, 121]⟩ : BA), (⟨#[101, 117, 114, 111]⟩ : BA), (⟨#[103, 116]⟩ : BA), (⟨#[104, 101, 108, 108, 105, 112]⟩ : BA), (⟨#[108, 116]⟩ : BA), (⟨#[109, 100, 97, 115, 104]⟩ : BA), (⟨#[110, 98, 115, 112]⟩ : BA), (⟨#[110, 111, 116]⟩ : BA), (⟨#[110, 111, 116, 105, 110]⟩ : BA), (⟨#[113, 117, 111, 116]⟩ : BA), (⟨#[114, 101, 103]⟩ : BA), (⟨#[116, 105, 109, 101, 115]⟩ : BA)] : List ByteArray))
theorem spec_Named.calls  (r : List ByteArray) (w : World) (h : spec_Named.f  = some r) :
  Calls Tryz.prog 157 #[] w fun e w' => ∃ v0_ : Value, e = .returned (v0_) ∧ Kd.R Kd.string 9 w' w.heap.size (fun _ => True) v0_ r ∧ Below w.heap.size w w' := by
 have HB := A_ (Below.refl w.heap.size w);have H : (some (([(⟨#[97, 109, 112]⟩ : BA), (⟨#[97, 112, 111, 115]⟩ : BA), (⟨#[99, 111, 112, 121]⟩ : BA), (⟨#[101, 117, 114, 111]⟩ : BA), (⟨#[103, 116]⟩ : BA), (⟨#[104, 101, 108, 108, 105, 112]⟩ : BA), (⟨#[108, 116]⟩ : BA), (⟨#[109, 100, 97, 115, 104]⟩ : BA), (⟨#[110, 98, 115, 112]⟩ : BA), (⟨#[110, 111, 116]⟩ : BA), (⟨#[110, 111, 116, 105, 110]⟩ : BA), (⟨#[113, 117, 111, 116]⟩ : BA), (⟨#[114, 101, 103]⟩ : BA), (⟨#[116, 105, 109, 101, 115]⟩ : BA)] : List ByteArray))) = some r := h;clear h;obtain ⟨y165, hy165⟩ : ∃ y_ : List ByteArray, y_ = (([(⟨#[97, 109, 112]⟩ : BA), (⟨#[97, 112, 111, 115]⟩ : BA), (⟨#[99, 111, 112, 121]⟩ : BA), (⟨#[101, 117, 114, 111]⟩ : BA), (⟨#[103, 116]⟩ : BA), (⟨#[104, 101, 108, 108, 105, 112]⟩ : BA), (⟨#[108, 116]⟩ : BA), (⟨#[109, 100, 97, 115, 104]⟩ : BA), (⟨#[110, 98, 115, 112]⟩ : BA), (⟨#[110, 111, 116]⟩ : BA), (⟨#[110, 111, 116, 105, 110]⟩ : BA), (⟨#[113, 117, 111, 116]⟩ : BA), (⟨#[114, 101, 103]⟩ : BA), (⟨#[116, 105, 109, 101, 115]⟩ : BA)] : List ByteArray)) := ⟨_, rfl⟩;replace H : (some y165) = some r := by first | (rw [hy165]; with_reducible exact H) | (have H2_ := (Option.bind_some _ _).symm.trans H; rw [hy165]; with_reducible exact H2_) | (have H2_ := (Option.bind_some _ _).symm.trans H; with_reducible exact H2_) | with_reducible exact H | (rw [hy165]; exact H) | exact H
 have Ny165 := A_ hy165;clear hy165;obtain rfl := sI_ H;go_enter Tryz.func157, Tryz.ntmps157
 go_wp2_with (first | ((with_reducible refine gate_dst (N := 1) rfl ?_); refine rl_ Kd.string 9 1 [(⟨#[97, 109, 112]⟩ : BA), (⟨#[97, 112, 111, 115]⟩ : BA), (⟨#[99, 111, 112, 121]⟩ : BA), (⟨#[101, 117, 114, 111]⟩ : BA), (⟨#[103, 116]⟩ : BA), (⟨#[104, 101, 108, 108, 105, 112]⟩ : BA), (⟨#[108, 116]⟩ : BA), (⟨#[109, 100, 97, 115, 104]⟩ : BA), (⟨#[110, 98, 115, 112]⟩ : BA), (⟨#[110, 111, 116]⟩ : BA), (⟨#[110, 111, 116, 105, 110]⟩ : BA), (⟨#[113, 117, 111, 116]⟩ : BA), (⟨#[114, 101, 103]⟩ : BA), (⟨#[116, 105, 109, 101, 115]⟩ : BA)] [.string (⟨#[97, 109, 112]⟩ : BA), .string (⟨#[97, 112, 111, 115]⟩ : BA), .string (⟨#[99, 111, 112, 121]⟩ : BA), .string (⟨#[101, 117, 114, 111]⟩ : BA), .string (⟨#[103, 116]⟩ : BA), .string (⟨#[104, 101, 108, 108, 105, 112]⟩ : BA), .string (⟨#[108, 116]⟩ : BA), .string (⟨#[109, 100, 97, 115, 104]⟩ : BA), .string (⟨#[110, 98, 115, 112]⟩ : BA), .string (⟨#[110, 111, 116]⟩ : BA), .string (⟨#[110, 111, 116, 105, 110]⟩ : BA), .string (⟨#[113, 117, 111, 116]⟩ : BA), .string (⟨#[114, 101, 103]⟩ : BA), .string (⟨#[116, 105, 109, 101, 115]⟩ : BA)] ?_; intro v166 w1 ho2 hb hg_ hnew_; clear hg_ hnew_; (first | rw [← Ny165.out] at ho2 | (simp only [Int.reduceToNat] at ho2; rw [← Ny165.out] at ho2)); have HO167 := A_ (Kd.R_lower ho2 (below_size hB_)); replace HB := bS_ hb; clear hb ho2))
 go_ret
 exact ⟨_, e1_, kQ_ HO167.out, hB_⟩
def spec_l3Longest.l0 : Nat → ByteArray → Int → ByteArray → List ByteArray → Int → Option (ByteArray)
 | 0, _, _, _, _, _ => none
 | k + 1, x0, x1, x5, x6, x7 => if x7 < (x6.length : Int) then (if 0 ≤ x7 then (if ((rdOf ByteArray.empty x6 x7).size : Int) > (x5.size : Int) then (if (wrap64 (x1 + ((rdOf ByteArray.empty x6 x7).size : Int))) ≤ (x0.size : Int) then (if 0 ≤ x1 then (if x1 ≤ (wrap64 (x1 + ((rdOf ByteArray.empty x6 x7).size : Int))) then (if (x0.extract (x1 : Int).toNat ((wrap64 (x1 + ((rdOf ByteArray.empty x6 x7).size : Int))) : Int).toNat).toList = (rdOf ByteArray.empty x6 x7).toList then (spec_l3Longest.l0 k x0 x1 (rdOf ByteArray.empty x6 x7) x6 (wrap64 (x7 + 1))) else (spec_l3Longest.l0 k x0 x1 x5 x6 (wrap64 (x7 + 1)))) else (none)) else (none)) else (spec_l3Longest.l0 k x0 x1 x5 x6 (wrap64 (x7 + 1)))) else (spec_l3Longest.l0 k x0 x1 x5 x6 (wrap64 (x7 + 1)))) else (none)) else (some x5)
def spec_l3Longest.f (k : Nat) (a0 : BA) (a1 : Int) : Option (ByteArray) := (spec_Named.f).bind fun t168 => (spec_l3Longest.l0 k a0 a1 (⟨#[]⟩ : BA) t168 0)
theorem spec_l3Longest.mono_l : ∀ k, (∀ y0 y1 y2 y3 y4, LeO (spec_l3Longest.l0 k y0 y1 y2 y3 y4) (spec_l3Longest.l0 (k + 1) y0 y1 y2 y3 y4))
 | 0 => fun _ _ _ _ _ r h => by simp [spec_l3Longest.l0] at h
 | k + 1 => by
  have ih0 := spec_l3Longest.mono_l k
  ·intro y0 y1 y2 y3 y4;unfold spec_l3Longest.l0;with_reducible repeat' first | exact ih0 _ _ _ _ _ | apply LeO.refl | apply LeO.none | apply LeO.ite | apply LeO.bind | intro
theorem spec_l3Longest.mono : ∀ a0 a1 k, LeO (spec_l3Longest.f k a0 a1) (spec_l3Longest.f (k + 1) a0 a1) := by
 intro a0 a1 k;have ih0 := spec_l3Longest.mono_l k;unfold spec_l3Longest.f;with_reducible repeat' first | exact ih0 _ _ _ _ _ | apply LeO.refl | apply LeO.none | apply LeO.ite | apply LeO.bind | intro
theorem spec_l3Longest.calls (k : Nat) (a0 : BA) (a1 : Int) (r : BA) (w : World) (h : spec_l3Longest.f k a0 a1 = some r) :
  Calls Tryz.prog 131 #[.string a0, .int .i64 a1] w fun e w' => e = .returned (.string r) ∧ Below w.heap.size w w' := by
 have HB := A_ (Below.refl w.heap.size w);have H : ((spec_Named.f).bind fun t168 => (spec_l3Longest.l0 k a0 a1 (⟨#[]⟩ : BA) t168 0)) = some r := h;clear h;obtain ⟨t168, A3, H⟩ := ob_ H;(try dsimp only at H)
 have H' := A_ H;clear H;go_enter Tryz.func131, Tryz.ntmps131
 go_wp2_with (first | (go_at_call 157; (with_reducible refine (spec_Named.calls  t168 _ A3.out).mono ?_); rintro e w4 ⟨v169, rfl, ho0, hb⟩; have HO170 := A_ (Kd.R_lower ho0 (below_size hB_)); replace HB := bS_ hb; clear hb; (try clear ho0)))
 repeat (go_quiet (first | (go_at_call 157; (with_reducible refine (spec_Named.calls  t168 _ A3.out).mono ?_); rintro e w4 ⟨v169, rfl, ho0, hb⟩; have HO170 := A_ (Kd.R_lower ho0 (below_size hB_)); replace HB := bS_ hb; clear hb; (try clear ho0))); try go_wp2_with (first | (go_at_call 157; (with_reducible refine (spec_Named.calls  t168 _ A3.out).mono ?_); rintro e w4 ⟨v169, rfl, ho0, hb⟩; have HO170 := A_ (Kd.R_lower ho0 (below_size hB_)); replace HB := bS_ hb; clear hb; (try clear ho0))))
 go_loopg [5, 7] k (fun kq v5 v7 w' => ∃ (x5_1 : BA) (x7_1 : Int), v5 = .string x5_1 ∧ v7 = .int .i64 x7_1 ∧ As9 (spec_l3Longest.l0 kq a0 a1 x5_1 t168 x7_1 = some r) ∧ As9 (kq ≤ k) ∧ As9 (Kd.R Kd.string 9 w' w.heap.size (fun _ => True) v169 t168) ∧ As9 (Below w.heap.size w w'))
 case atStart => exact ⟨((⟨#[]⟩ : BA)), (0), e2_, e2_, H', ⟨Nat.le_refl _⟩, ⟨kQ_ HO170.out⟩, ⟨hB_⟩⟩
 case round =>
  clear H';try clear c1
  try clear p2
  obtain ⟨x5_1, x7_1, rfl, rfl, HA, HK1, HO_6, HB⟩ := hrel;cases gk with
  | zero => exact absurd HA.out (by simp [spec_l3Longest.l0])
  | succ k1 =>
   have H := HA.out;clear HA;simp only [spec_l3Longest.l0] at H;rcases ic_ H with ⟨c5, H⟩ | ⟨c5, H⟩
   ·have c5b0 := dE_ c5;clear c5;obtain ⟨c6, H⟩ := ifn_ H;have c6b0 := dE_ c6;clear c6;rcases ic_ H with ⟨c7, H⟩ | ⟨c7, H⟩
    ·have c7b0 : decide ((x5_1.size : Int) < ((rdOf ByteArray.empty t168 x7_1).size : Int)) = true := dE_ c7;have c7b1 : decide (x5_1.size < (rdOf ByteArray.empty t168 x7_1).size) = true := dE_ (Int.ofNat_lt.mp c7);clear c7;rcases ic_ H with ⟨c8, H⟩ | ⟨c8, H⟩
     ·have c8b0 := dE_ c8;clear c8;obtain ⟨c9, H⟩ := ifn_ H;have c9b0 := eq_true c9;have c9b1 := dE_ c9;clear c9;obtain ⟨c10, H⟩ := ifn_ H;have c10b0 := eq_true c10;have c10b1 := dE_ c10;have c11b0 := eq_true (dT_ : (wrap64 (a1 + ((rdOf ByteArray.empty t168 x7_1).size : Int))) ≤ (a0.size : Int));rcases ic_ H with ⟨c12, H⟩ | ⟨c12, H⟩
      ·obtain ⟨c12b0, c12b1⟩ := be_ c12;clear c12;have H' := A_ H;clear H;obtain ⟨Ao13, co13, eo13⟩ := Kd.R_slice HO_6.out;subst eo13;have p171 : 0 ≤ (x7_1 : Int) := dT_;have q171 : x7_1 < (t168.length : Int) := dT_;obtain ⟨ad171, e171, hx171_0⟩ := Kd.at_string (Kd.R_reads' HO_6.out).2.2 x7_1 p171 q171;cases e171;replace p171 := eq_true p171;replace q171 := eq_true q171;have p172 : 0 ≤ (x7_1 : Int) := dT_;have q172 : x7_1 < (t168.length : Int) := dT_;obtain ⟨ad172, e172, hx172_0⟩ := Kd.at_string (Kd.R_reads' HO_6.out).2.2 x7_1 p172 q172;obtain rfl : ad171 = ad172 := (by injection e172);replace p172 := eq_true p172;replace q172 := eq_true q172;have p173 : 0 ≤ (x7_1 : Int) := dT_;have q173 : x7_1 < (t168.length : Int) := dT_;obtain ⟨ad173, e173, hx173_0⟩ := Kd.at_string (Kd.R_reads' HO_6.out).2.2 x7_1 p173 q173;obtain rfl : ad171 = ad173 := (by injection e173);replace p173 := eq_true p173;replace q173 := eq_true q173;go_wp2
       repeat (go_quiet (fail); try go_wp2)
       go_roundg k1
       case measure => have := HK1.out; omega
       case rel => exact ⟨(rdOf ByteArray.empty t168 x7_1), (wrap64 (x7_1 + 1)), e2_, e2_, H', ⟨by have := HK1.out; omega⟩, ⟨kQ_ HO_6.out⟩, ⟨hB_⟩⟩
      ·obtain ⟨c12b0, c12b1⟩ := bn_ c12;have H' := A_ H;clear H;obtain ⟨Ao14, co14, eo14⟩ := Kd.R_slice HO_6.out;subst eo14;have p171 : 0 ≤ (x7_1 : Int) := dT_;have q171 : x7_1 < (t168.length : Int) := dT_;obtain ⟨ad171, e171, hx171_0⟩ := Kd.at_string (Kd.R_reads' HO_6.out).2.2 x7_1 p171 q171;cases e171;replace p171 := eq_true p171;replace q171 := eq_true q171;have p172 : 0 ≤ (x7_1 : Int) := dT_;have q172 : x7_1 < (t168.length : Int) := dT_;obtain ⟨ad172, e172, hx172_0⟩ := Kd.at_string (Kd.R_reads' HO_6.out).2.2 x7_1 p172 q172;obtain rfl : ad171 = ad172 := (by injection e172);replace p172 := eq_true p172;replace q172 := eq_true q172;go_wp2
       repeat (go_quiet (fail); try go_wp2)
       go_roundg k1
       case measure => have := HK1.out; omega
       case rel => exact ⟨(x5_1), (wrap64 (x7_1 + 1)), e2_, e2_, H', ⟨by have := HK1.out; omega⟩, ⟨kQ_ HO_6.out⟩, ⟨hB_⟩⟩
     ·have c8b0 := dF_ c8;clear c8;have H' := A_ H;clear H;obtain ⟨Ao15, co15, eo15⟩ := Kd.R_slice HO_6.out;subst eo15;have p171 : 0 ≤ (x7_1 : Int) := dT_;have q171 : x7_1 < (t168.length : Int) := dT_;obtain ⟨ad171, e171, hx171_0⟩ := Kd.at_string (Kd.R_reads' HO_6.out).2.2 x7_1 p171 q171;cases e171;replace p171 := eq_true p171;replace q171 := eq_true q171;go_wp2
      repeat (go_quiet (fail); try go_wp2)
      go_roundg k1
      case measure => have := HK1.out; omega
      case rel => exact ⟨(x5_1), (wrap64 (x7_1 + 1)), e2_, e2_, H', ⟨by have := HK1.out; omega⟩, ⟨kQ_ HO_6.out⟩, ⟨hB_⟩⟩
    ·have c7b0 : decide ((x5_1.size : Int) < ((rdOf ByteArray.empty t168 x7_1).size : Int)) = false := dF_ c7;have c7b1 : decide (x5_1.size < (rdOf ByteArray.empty t168 x7_1).size) = false := dF_ (fun h => c7 (Int.ofNat_lt.mpr h));clear c7;have H' := A_ H;clear H;obtain ⟨Ao16, co16, eo16⟩ := Kd.R_slice HO_6.out;subst eo16;have p171 : 0 ≤ (x7_1 : Int) := dT_;have q171 : x7_1 < (t168.length : Int) := dT_;obtain ⟨ad171, e171, hx171_0⟩ := Kd.at_string (Kd.R_reads' HO_6.out).2.2 x7_1 p171 q171;cases e171;replace p171 := eq_true p171;replace q171 := eq_true q171;go_wp2
     repeat (go_quiet (fail); try go_wp2)
     go_roundg k1
     case measure => have := HK1.out; omega
     case rel => exact ⟨(x5_1), (wrap64 (x7_1 + 1)), e2_, e2_, H', ⟨by have := HK1.out; omega⟩, ⟨kQ_ HO_6.out⟩, ⟨hB_⟩⟩
   ·have c5b0 := dF_ c5;clear c5;obtain rfl := sI_ H;obtain ⟨Ao17, co17, eo17⟩ := Kd.R_slice HO_6.out;subst eo17;go_wp2
    repeat (go_quiet (fail); try go_wp2)
    go_ret
    exact ⟨e1_, hB_⟩
def spec_NameSign.l0 : Nat → ByteArray → List Int → List ByteArray → Int → Option (Int)
 | 0, _, _, _, _ => none
 | k + 1, x0, x3, x4, x5 => if x5 < (x4.length : Int) then (if 0 ≤ x5 then (if (rdOf ByteArray.empty x4 x5).toList = x0.toList then (if x5 < (x3.length : Int) then (some (rd x3 x5)) else (none)) else (spec_NameSign.l0 k x0 x3 x4 (wrap64 (x5 + 1)))) else (none)) else (some (-1))
def spec_NameSign.f (k : Nat) (a0 : BA) : Option (Int) := (spec_Named.f).bind fun t177 => (spec_NameSign.l0 k a0 (([38, 39, 169, 8364, 62, 8230, 60, 8212, 160, 172, 8713, 34, 174, 215] : List Int)) t177 0)
theorem spec_NameSign.mono_l : ∀ k, (∀ y0 y1 y2 y3, LeO (spec_NameSign.l0 k y0 y1 y2 y3) (spec_NameSign.l0 (k + 1) y0 y1 y2 y3))
 | 0 => fun _ _ _ _ r h => by simp [spec_NameSign.l0] at h
 | k + 1 => by
  have ih0 := spec_NameSign.mono_l k
  ·intro y0 y1 y2 y3;unfold spec_NameSign.l0;with_reducible repeat' first | exact ih0 _ _ _ _ | apply LeO.refl | apply LeO.none | apply LeO.ite | apply LeO.bind | intro
theorem spec_NameSign.mono : ∀ a0 k, LeO (spec_NameSign.f k a0) (spec_NameSign.f (k + 1) a0) := by
 intro a0 k;have ih0 := spec_NameSign.mono_l k;unfold spec_NameSign.f;with_reducible repeat' first | exact ih0 _ _ _ _ | apply LeO.refl | apply LeO.none | apply LeO.ite | apply LeO.bind | intro
theorem spec_NameSign.calls (k : Nat) (a0 : BA) (r : Int) (w : World) (h : spec_NameSign.f k a0 = some r) :
  Calls Tryz.prog 132 #[.string a0] w fun e w' => e = .returned (.int .i64 r) ∧ Below w.heap.size w w' := by
 have HB := A_ (Below.refl w.heap.size w);have H : ((spec_Named.f).bind fun t177 => (spec_NameSign.l0 k a0 (([38, 39, 169, 8364, 62, 8230, 60, 8212, 160, 172, 8713, 34, 174, 215] : List Int)) t177 0)) = some r := h;clear h;obtain ⟨y174, hy174⟩ : ∃ y_ : List Int, y_ = (([38, 39, 169, 8364, 62, 8230, 60, 8212, 160, 172, 8713, 34, 174, 215] : List Int)) := ⟨_, rfl⟩;replace H : ((spec_Named.f).bind fun t177 => (spec_NameSign.l0 k a0 y174 t177 0)) = some r := by first | (rw [hy174]; with_reducible exact H) | (have H2_ := (Option.bind_some _ _).symm.trans H; rw [hy174]; with_reducible exact H2_) | (have H2_ := (Option.bind_some _ _).symm.trans H; with_reducible exact H2_) | with_reducible exact H | (rw [hy174]; exact H) | exact H
 have Ny174 := A_ hy174;clear hy174;obtain ⟨t177, A2, H⟩ := ob_ H;(try dsimp only at H)
 have H' := A_ H;clear H;go_enter Tryz.func132, Tryz.ntmps132
 go_wp2_with (first | ((with_reducible refine gate_dst (N := 6) rfl ?_); refine rl_ (Kd.int .i64) 3 6 [38, 39, 169, 8364, 62, 8230, 60, 8212, 160, 172, 8713, 34, 174, 215] [.int .i64 38, .int .i64 39, .int .i64 169, .int .i64 8364, .int .i64 62, .int .i64 8230, .int .i64 60, .int .i64 8212, .int .i64 160, .int .i64 172, .int .i64 8713, .int .i64 34, .int .i64 174, .int .i64 215] ?_; intro v175 w3 ho4 hb hg_ hnew_; clear hg_ hnew_; (first | rw [← Ny174.out] at ho4 | (simp only [Int.reduceToNat] at ho4; rw [← Ny174.out] at ho4)); have HO176 := A_ (Kd.R_lower ho4 (below_size hB_)); replace HB := bS_ hb; clear hb ho4) | ((with_reducible refine gC_ 157 ?_); refine gL_ 7 Tryz.func157 #[] ?_; (with_reducible refine (spec_Named.calls  t177 _ A2.out).mono ?_); rintro e w5 ⟨v178, rfl, ho0, hb⟩; refine ⟨_, rfl, ?_⟩; replace HO176 := A_ (Kd.R_below (kQ_ HO176.out) hb); have HO179 := A_ (Kd.R_lower ho0 (below_size hB_)); replace HB := bS_ hb; clear hb; (try clear ho0)))
 go_loopg [5] k (fun kq v5 w' => ∃ (x5_1 : Int), v5 = .int .i64 x5_1 ∧ As9 (spec_NameSign.l0 kq a0 y174 t177 x5_1 = some r) ∧ As9 (kq ≤ k) ∧ As9 (Kd.R (Kd.int .i64) 3 w' w.heap.size (fun _ => True) v175 y174) ∧ As9 (Kd.R Kd.string 9 w' w.heap.size (fun _ => True) v178 t177) ∧ As9 (Below w.heap.size w w'))
 case atStart => exact ⟨(0), e2_, H', ⟨Nat.le_refl _⟩, ⟨kQ_ HO176.out⟩, ⟨kQ_ HO179.out⟩, ⟨hB_⟩⟩
 case round =>
  clear H';try clear c1
  try clear p2
  obtain ⟨x5_1, rfl, HA, HK1, HO_3, HO_4, HB⟩ := hrel;cases gk with
  | zero => exact absurd HA.out (by simp [spec_NameSign.l0])
  | succ k1 =>
   have H := HA.out;clear HA;simp only [spec_NameSign.l0] at H;rcases ic_ H with ⟨c6, H⟩ | ⟨c6, H⟩
   ·have c6b0 := dE_ c6;clear c6;obtain ⟨c7, H⟩ := ifn_ H;have c7b0 := dE_ c7;clear c7;rcases ic_ H with ⟨c8, H⟩ | ⟨c8, H⟩
    ·obtain ⟨c8b0, c8b1⟩ := be_ c8;clear c8;obtain ⟨c9, H⟩ := ifn_ H;have c9b0 := dE_ c9;clear c9;obtain rfl := sI_ H;obtain ⟨Ao10, co10, eo10⟩ := Kd.R_slice HO_4.out;subst eo10;have p180 : 0 ≤ (x5_1 : Int) := dT_;have q180 : x5_1 < (t177.length : Int) := dT_;obtain ⟨ad180, e180, hx180_0⟩ := Kd.at_string (Kd.R_reads' HO_4.out).2.2 x5_1 p180 q180;cases e180;replace p180 := eq_true p180;replace q180 := eq_true q180;obtain ⟨Ao11, co11, eo11⟩ := Kd.R_slice HO_3.out;subst eo11;have p181 : 0 ≤ (x5_1 : Int) := dT_;have q181 : x5_1 < (y174.length : Int) := dT_;obtain ⟨ad181, e181, hx181_0⟩ := Kd.at_int (Kd.R_reads' HO_3.out).2.2 x5_1 p181 q181;cases e181;replace p181 := eq_true p181;replace q181 := eq_true q181;go_wp2
     go_ret
     exact ⟨e1_, hB_⟩
    ·obtain ⟨c8b0, c8b1⟩ := bn_ c8;have H' := A_ H;clear H;obtain ⟨Ao12, co12, eo12⟩ := Kd.R_slice HO_4.out;subst eo12;have p180 : 0 ≤ (x5_1 : Int) := dT_;have q180 : x5_1 < (t177.length : Int) := dT_;obtain ⟨ad180, e180, hx180_0⟩ := Kd.at_string (Kd.R_reads' HO_4.out).2.2 x5_1 p180 q180;cases e180;replace p180 := eq_true p180;replace q180 := eq_true q180;go_wp2
     go_roundg k1
     case measure => have := HK1.out; omega
     case rel => exact ⟨(wrap64 (x5_1 + 1)), e2_, H', ⟨by have := HK1.out; omega⟩, ⟨kQ_ HO_3.out⟩, ⟨kQ_ HO_4.out⟩, ⟨hB_⟩⟩
   ·have c6b0 := dF_ c6;clear c6;obtain rfl := sI_ H;obtain ⟨Ao13, co13, eo13⟩ := Kd.R_slice HO_4.out;subst eo13;go_wp2
    go_ret
    exact ⟨e1_, hB_⟩
mutual
def spec_Ref.j0 : Nat → ByteArray → Int → Bool → Bool → Option (ByteArray × Int)
 | 0, _, _, _, _ => none
 | k + 1, x0, x1, x2, x25 => if x25 = true then (some ((⟨#[]⟩ : BA), 0)) else (if (wrap64 (x1 + 1)) < (x0.size : Int) then (if 0 ≤ (wrap64 (x1 + 1)) then (spec_Ref.j1 k x0 x1 x2 ((bt x0 (wrap64 (x1 + 1))) == 35)) else (none)) else (spec_Ref.j1 k x0 x1 x2 false))
def spec_Ref.j1 : Nat → ByteArray → Int → Bool → Bool → Option (ByteArray × Int)
 | 0, _, _, _, _ => none
 | k + 1, x0, x1, x2, x37 => if x37 = true then ((spec_l3Number.f k x0 x1).bind fun bt182 => (some (bt182.1, bt182.2))) else ((spec_l3Longest.f k x0 (wrap64 (x1 + 1))).bind fun t184 => (if t184.toList = ([] : List UInt8) then (some ((⟨#[]⟩ : BA), 0)) else (if (wrap64 ((wrap64 (x1 + 1)) + (t184.size : Int))) < (x0.size : Int) then (if 0 ≤ (wrap64 ((wrap64 (x1 + 1)) + (t184.size : Int))) then (spec_Ref.j2 k x0 x1 x2 t184 (wrap64 ((wrap64 (x1 + 1)) + (t184.size : Int))) ((bt x0 (wrap64 ((wrap64 (x1 + 1)) + (t184.size : Int)))) == 59)) else (none)) else (spec_Ref.j2 k x0 x1 x2 t184 (wrap64 ((wrap64 (x1 + 1)) + (t184.size : Int))) false))))
def spec_Ref.j2 : Nat → ByteArray → Int → Bool → ByteArray → Int → Bool → Option (ByteArray × Int)
 | 0, _, _, _, _, _, _ => none
 | k + 1, x0, x1, x2, x10, x11, x66 => if x66 = true then ((spec_NameSign.f k x10).bind fun t185 => ((spec_PutSign.f k t185).bind fun t186 => (some (t186, wrap64 ((wrap64 (x11 + 1)) - x1))))) else (if x2 = true then (if x11 < (x0.size : Int) then (if 0 ≤ x11 then (if (bt x0 x11) = 61 then (spec_Ref.j3 k x1 x10 x11 true) else ((spec_IsLetter.f (wrap64 (bt x0 x11))).bind fun t187 => (if t187 = true then (spec_Ref.j3 k x1 x10 x11 true) else ((spec_l3Digit.f k (bt x0 x11) false).bind fun t188 => (spec_Ref.j3 k x1 x10 x11 (decide (t188 ≥ 0))))))) else (none)) else (spec_Ref.j3 k x1 x10 x11 false)) else (spec_Ref.j3 k x1 x10 x11 false))
def spec_Ref.j3 : Nat → Int → ByteArray → Int → Bool → Option (ByteArray × Int)
 | 0, _, _, _, _ => none
 | k + 1, x1, x10, x11, x100 => if x100 = true then (some ((⟨#[]⟩ : BA), 0)) else ((spec_NameSign.f k x10).bind fun t189 => ((spec_PutSign.f k t189).bind fun t190 => (some (t190, wrap64 (x11 - x1)))))
end
def spec_Ref.f (k : Nat) (a0 : BA) (a1 : Int) (a2 : Bool) : Option (ByteArray × Int) := if a1 < 0 then (spec_Ref.j0 k a0 a1 a2 true) else (if a1 ≥ (a0.size : Int) then (spec_Ref.j0 k a0 a1 a2 true) else (if 0 ≤ a1 then (if a1 < (a0.size : Int) then (spec_Ref.j0 k a0 a1 a2 ((bt a0 a1) != 38)) else (none)) else (none)))
theorem spec_Ref.mono_l : ∀ k, (∀ y0 y1 y2 y3, LeO (spec_Ref.j0 k y0 y1 y2 y3) (spec_Ref.j0 (k + 1) y0 y1 y2 y3)) ∧ (∀ y0 y1 y2 y3, LeO (spec_Ref.j1 k y0 y1 y2 y3) (spec_Ref.j1 (k + 1) y0 y1 y2 y3)) ∧ (∀ y0 y1 y2 y3 y4 y5, LeO (spec_Ref.j2 k y0 y1 y2 y3 y4 y5) (spec_Ref.j2 (k + 1) y0 y1 y2 y3 y4 y5)) ∧ (∀ y0 y1 y2 y3, LeO (spec_Ref.j3 k y0 y1 y2 y3) (spec_Ref.j3 (k + 1) y0 y1 y2 y3))
 | 0 => ⟨fun _ _ _ _ r h => by simp [spec_Ref.j0] at h, fun _ _ _ _ r h => by simp [spec_Ref.j1] at h, fun _ _ _ _ _ _ r h => by simp [spec_Ref.j2] at h, fun _ _ _ _ r h => by simp [spec_Ref.j3] at h⟩
 | k + 1 => by
  obtain ⟨ih0, ih1, ih2, ih3⟩ := spec_Ref.mono_l k;refine ⟨?_, ?_, ?_, ?_⟩
  ·intro y0 y1 y2 y3;unfold spec_Ref.j0;with_reducible repeat' first | exact ih0 _ _ _ _ | exact ih1 _ _ _ _ | exact ih2 _ _ _ _ _ _ | exact ih3 _ _ _ _ | exact spec_NameSign.mono _ _ | exact spec_PutSign.mono _ _ | exact spec_l3Digit.mono _ _ _ | exact spec_l3Longest.mono _ _ _ | exact spec_l3Number.mono _ _ _ | apply LeO.refl | apply LeO.none | apply LeO.ite | apply LeO.bind | intro
  ·intro y0 y1 y2 y3;unfold spec_Ref.j1;with_reducible repeat' first | exact ih0 _ _ _ _ | exact ih1 _ _ _ _ | exact ih2 _ _ _ _ _ _ | exact ih3 _ _ _ _ | exact spec_NameSign.mono _ _ | exact spec_PutSign.mono _ _ | exact spec_l3Digit.mono _ _ _ | exact spec_l3Longest.mono _ _ _ | exact spec_l3Number.mono _ _ _ | apply LeO.refl | apply LeO.none | apply LeO.ite | apply LeO.bind | intro
  ·intro y0 y1 y2 y3 y4 y5;unfold spec_Ref.j2;with_reducible repeat' first | exact ih0 _ _ _ _ | exact ih1 _ _ _ _ | exact ih2 _ _ _ _ _ _ | exact ih3 _ _ _ _ | exact spec_NameSign.mono _ _ | exact spec_PutSign.mono _ _ | exact spec_l3Digit.mono _ _ _ | exact spec_l3Longest.mono _ _ _ | exact spec_l3Number.mono _ _ _ | apply LeO.refl | apply LeO.none | apply LeO.ite | apply LeO.bind | intro
  ·intro y0 y1 y2 y3;unfold spec_Ref.j3;with_reducible repeat' first | exact ih0 _ _ _ _ | exact ih1 _ _ _ _ | exact ih2 _ _ _ _ _ _ | exact ih3 _ _ _ _ | exact spec_NameSign.mono _ _ | exact spec_PutSign.mono _ _ | exact spec_l3Digit.mono _ _ _ | exact spec_l3Longest.mono _ _ _ | exact spec_l3Number.mono _ _ _ | apply LeO.refl | apply LeO.none | apply LeO.ite | apply LeO.bind | intro
theorem spec_Ref.mono : ∀ a0 a1 a2 k, LeO (spec_Ref.f k a0 a1 a2) (spec_Ref.f (k + 1) a0 a1 a2) := by
 intro a0 a1 a2 k;obtain ⟨ih0, ih1, ih2, ih3⟩ := spec_Ref.mono_l k;unfold spec_Ref.f;with_reducible repeat' first | exact ih0 _ _ _ _ | exact ih1 _ _ _ _ | exact ih2 _ _ _ _ _ _ | exact ih3 _ _ _ _ | exact spec_NameSign.mono _ _ | exact spec_PutSign.mono _ _ | exact spec_l3Digit.mono _ _ _ | exact spec_l3Longest.mono _ _ _ | exact spec_l3Number.mono _ _ _ | apply LeO.refl | apply LeO.none | apply LeO.ite | apply LeO.bind | intro
theorem spec_Ref.calls (k : Nat) (a0 : BA) (a1 : Int) (a2 : Bool) (r1 : BA) (r2 : Int) (w : World) (h : spec_Ref.f k a0 a1 a2 = some (r1, r2)) :
  Calls Tryz.prog 94 #[.string a0, .int .i64 a1, .bool a2] w fun e w' => e = .returned (.tuple #[.string r1, .int .i64 r2]) ∧ Below w.heap.size w w' := by
 have HB := A_ (Below.refl w.heap.size w);have H : (if a1 < 0 then (spec_Ref.j0 k a0 a1 a2 true) else (if a1 ≥ (a0.size : Int) then (spec_Ref.j0 k a0 a1 a2 true) else (if 0 ≤ a1 then (if a1 < (a0.size : Int) then (spec_Ref.j0 k a0 a1 a2 ((bt a0 a1) != 38)) else (none)) else (none)))) = some (r1, r2) := h;clear h;have HC4 := A_ H;clear H;go_enter Tryz.func94, Tryz.ntmps94
 go_upto_region 1 with (fail)
 go_cut [25] (fun v25 wc => ∃ (kq : Nat) (x25_3 : Bool), v25 = .bool x25_3 ∧ As9 (spec_Ref.j0 kq a0 a1 a2 x25_3 = some (r1, r2)) ∧ As9 (kq ≤ k) ∧ As9 (Below w.heap.size w wc))
 case first =>
  have H := HC4.out;clear HC4;rcases ic_ H with ⟨c5, H⟩ | ⟨c5, H⟩
  ·have c5b0 := dE_ c5;clear c5;(first | rw [c5b0] | (simp only [i64_w, i32_w]; rw [c5b0]) | skip)
   have H' := A_ H;clear H;go_wp2
   go_meet
   case rel => exact ⟨_, (true), e2_, H', ⟨by first | omega | exact Nat.le_refl _⟩, ⟨hB_⟩⟩
  ·have c5b0 := dF_ c5;clear c5;(first | rw [c5b0] | (simp only [i64_w, i32_w]; rw [c5b0]) | skip)
   rcases ic_ H with ⟨c6, H⟩ | ⟨c6, H⟩
   ·have c6b0 : decide ((a0.size : Int) ≤ a1) = true := dE_ c6;clear c6;have H' := A_ H;clear H;go_wp2
    go_meet
    case rel => exact ⟨_, (true), e2_, H', ⟨by first | omega | exact Nat.le_refl _⟩, ⟨hB_⟩⟩
   ·have c6b0 : decide ((a0.size : Int) ≤ a1) = false := dF_ c6;clear c6;obtain ⟨c7, H⟩ := ifn_ H;have c7b0 := dE_ c7;clear c7;obtain ⟨c8, H⟩ := ifn_ H;have c8b0 := dE_ c8;clear c8;have H' := A_ H;clear H;have p9 : 0 ≤ (a1 : Int) := dT_;have q9 : a1 < (a0.size : Int) := dT_;have hx9 := bt_at a0 a1;replace p9 := eq_true p9;replace q9 := eq_true q9;go_wp2
    go_meet
    case rel => exact ⟨_, (((bt a0 a1) != 38)), e2_, H', ⟨by first | omega | exact Nat.le_refl _⟩, ⟨hB_⟩⟩
 case rest =>
  clear HC4;try clear p2
  try clear c5
  try clear c5b0
  try clear c6
  try clear c6b0
  try clear c7
  try clear c7b0
  try clear c8
  try clear c8b0
  try clear c9
  try clear p9
  try clear q9
  try clear hx9
  try clear p9
  try clear q9
  obtain ⟨kq, x25_3, rfl, HA, HJ3, HB⟩ := hcut;cases kq with
  | zero => exact absurd HA.out (by simp [spec_Ref.j0])
  | succ kj3 =>
   have H := HA.out;clear HA;simp only [spec_Ref.j0] at H;by_cases c10 : x25_3 = true
   ·subst c10;rw [if_pos rfl] at H;obtain ⟨rfl, rfl⟩ := pi_ H;go_wp2
    go_ret2
    exact ⟨e1_, hB_⟩
   ·replace c10 := bF_ c10;subst c10;rw [if_neg nF_] at H;have HC11 := A_ H;clear H;go_upto_region 3 with (fail)
    go_cut [37] (fun v37 wc => ∃ (kq : Nat) (x37_10 : Bool), v37 = .bool x37_10 ∧ As9 (spec_Ref.j1 kq a0 a1 a2 x37_10 = some (r1, r2)) ∧ As9 (kq ≤ kj3) ∧ As9 (Below w.heap.size w wc))
    case first =>
     have H := HC11.out;clear HC11;rcases ic_ H with ⟨c12, H⟩ | ⟨c12, H⟩
     ·have c12b0 := dE_ c12;clear c12;(first | rw [c12b0] | (simp only [i64_w, i32_w]; rw [c12b0]) | skip)
      obtain ⟨c13, H⟩ := ifn_ H;have c13b0 := dE_ c13;clear c13;have H' := A_ H;clear H;have p14 : 0 ≤ ((wrap64 (a1 + 1)) : Int) := dT_;have q14 : (wrap64 (a1 + 1)) < (a0.size : Int) := dT_;have hx14 := bt_at a0 (wrap64 (a1 + 1));replace p14 := eq_true p14;replace q14 := eq_true q14;go_wp2
      go_meet
      case rel => exact ⟨_, (((bt a0 (wrap64 (a1 + 1))) == 35)), e2_, H', ⟨by have := HJ3.out; first | omega | exact Nat.le_refl _⟩, ⟨hB_⟩⟩
     ·have c12b0 := dF_ c12;clear c12;(first | rw [c12b0] | (simp only [i64_w, i32_w]; rw [c12b0]) | skip)
      have H' := A_ H;clear H;go_wp2
      go_meet
      case rel => exact ⟨_, (false), e2_, H', ⟨by have := HJ3.out; first | omega | exact Nat.le_refl _⟩, ⟨hB_⟩⟩
    case rest =>
     clear HC11;try clear c1
     try clear p1
     try clear q1
     try clear hx1
     try clear p2
     try clear c5
     try clear c5b0
     try clear c6
     try clear c6b0
     try clear p6
     try clear c7
     try clear c7b0
     try clear c8
     try clear c8b0
     try clear c9
     try clear p9
     try clear q9
     try clear hx9
     try clear c10
     try clear c12
     try clear c12b0
     try clear c13
     try clear c13b0
     try clear p14
     try clear q14
     try clear hx14
     try clear p14
     try clear p2
     try clear p9
     try clear q14
     try clear q9
     obtain ⟨kq, x37_10, rfl, HA, HJ10, HB⟩ := hcut;cases kq with
     | zero => exact absurd HA.out (by simp [spec_Ref.j1])
     | succ kj10 =>
      have H := HA.out;clear HA;simp only [spec_Ref.j1] at H;by_cases c15 : x37_10 = true
      ·subst c15;rw [if_pos rfl] at H;obtain ⟨⟨t182, t183⟩, A16, H⟩ := ob_ H;(try dsimp only at H)
       obtain ⟨rfl, rfl⟩ := pi_ H;go_wp2_with (first | ((with_reducible refine gC_ 130 ?_); refine gL_ 41 Tryz.func130 #[.string a0, .int .i64 a1] ?_; refine bm_ (spec_l3Number.calls kj10 a0 a1 t182 t183 _ A16.out) ?_; clear HB; intro w17 HB))
       go_ret2
       exact ⟨e1_, hB_⟩
      ·replace c15 := bF_ c15;subst c15;rw [if_neg nF_] at H;obtain ⟨t184, A18, H⟩ := ob_ H;rcases ic_ H with ⟨c19, H⟩ | ⟨c19, H⟩
       ·obtain ⟨c19b0, c19b1⟩ := be_ c19;clear c19;obtain ⟨rfl, rfl⟩ := pi_ H;go_wp2_with (first | ((with_reducible refine gC_ 131 ?_); refine gL_ 49 Tryz.func131 #[.string a0, .int .i64 (wrap64 (a1 + 1))] ?_; refine bm_ (spec_l3Longest.calls kj10 a0 (wrap64 (a1 + 1)) t184 _ A18.out) ?_; clear HB; intro w20 HB))
        go_ret2
        exact ⟨e1_, hB_⟩
       ·obtain ⟨c19b0, c19b1⟩ := bn_ c19;have HC21 := A_ H;clear H;go_upto_region 10 with (first | ((with_reducible refine gC_ 131 ?_); refine gL_ 49 Tryz.func131 #[.string a0, .int .i64 (wrap64 (a1 + 1))] ?_; refine bm_ (spec_l3Longest.calls kj10 a0 (wrap64 (a1 + 1)) t184 _ A18.out) ?_; clear HB; intro w22 HB))
        (try simp only [Act.put, List.setIfInBounds_toArray, List.set_cons_zero, List.set_cons_succ])
        go_cut [66] (fun v66 wc => ∃ (kq : Nat) (x66_20 : Bool), v66 = .bool x66_20 ∧ As9 (spec_Ref.j2 kq a0 a1 a2 t184 (wrap64 ((wrap64 (a1 + 1)) + (t184.size : Int))) x66_20 = some (r1, r2)) ∧ As9 (kq ≤ kj10) ∧ As9 (Below w.heap.size w wc))
        case first =>
         have H := HC21.out;clear HC21;rcases ic_ H with ⟨c23, H⟩ | ⟨c23, H⟩
         ·have c23b0 := dE_ c23;clear c23;(first | rw [c23b0] | (simp only [i64_w, i32_w]; rw [c23b0]) | skip)
          obtain ⟨c24, H⟩ := ifn_ H;have c24b0 := dE_ c24;clear c24;have H' := A_ H;clear H;have p25 : 0 ≤ ((wrap64 ((wrap64 (a1 + 1)) + (t184.size : Int))) : Int) := dT_;have q25 : (wrap64 ((wrap64 (a1 + 1)) + (t184.size : Int))) < (a0.size : Int) := dT_;have hx25 := bt_at a0 (wrap64 ((wrap64 (a1 + 1)) + (t184.size : Int)));replace p25 := eq_true p25;replace q25 := eq_true q25;go_wp2
          go_meet
          case rel => exact ⟨_, (((bt a0 (wrap64 ((wrap64 (a1 + 1)) + (t184.size : Int)))) == 59)), e2_, H', ⟨by have := HJ3.out; have := HJ10.out; first | omega | exact Nat.le_refl _⟩, ⟨hB_⟩⟩
         ·have c23b0 := dF_ c23;clear c23;(first | rw [c23b0] | (simp only [i64_w, i32_w]; rw [c23b0]) | skip)
          have H' := A_ H;clear H;go_wp2
          go_meet
          case rel => exact ⟨_, (false), e2_, H', ⟨by have := HJ3.out; have := HJ10.out; first | omega | exact Nat.le_refl _⟩, ⟨hB_⟩⟩
        case rest =>
         clear HC21;try clear c1
         try clear p1
         try clear q1
         try clear hx1
         try clear c2
         try clear p2
         try clear q2
         try clear hx2
         try clear c5
         try clear c5b0
         try clear c6
         try clear c6b0
         try clear p6
         try clear c7
         try clear c7b0
         try clear c8
         try clear c8b0
         try clear c9
         try clear p9
         try clear q9
         try clear hx9
         try clear c10
         try clear c12
         try clear c12b0
         try clear c13
         try clear c13b0
         try clear p14
         try clear q14
         try clear hx14
         try clear c15
         try clear c19
         try clear c19b0
         try clear c19b1
         try clear c23
         try clear c23b0
         try clear c24
         try clear c24b0
         try clear p25
         try clear q25
         try clear hx25
         try clear p1
         try clear p14
         try clear p2
         try clear p25
         try clear p6
         try clear p9
         try clear q1
         try clear q14
         try clear q25
         try clear q9
         obtain ⟨kq, x66_20, rfl, HA, HJ20, HB⟩ := hcut;cases kq with
         | zero => exact absurd HA.out (by simp [spec_Ref.j2])
         | succ kj20 =>
          have H := HA.out;clear HA;simp only [spec_Ref.j2] at H;by_cases c26 : x66_20 = true
          ·subst c26;rw [if_pos rfl] at H;obtain ⟨t185, A27, H⟩ := ob_ H;obtain ⟨t186, A28, H⟩ := ob_ H;(try dsimp only at H)
           obtain ⟨rfl, rfl⟩ := pi_ H;go_wp2_with (first | ((with_reducible refine gC_ 132 ?_); refine gL_ 68 Tryz.func132 #[.string t184] ?_; refine bm_ (spec_NameSign.calls kj20 t184 t185 _ A27.out) ?_; clear HB; intro w29 HB) | ((with_reducible refine gC_ 92 ?_); refine gL_ 69 Tryz.func92 #[.int .i64 t185] ?_; refine bm_ (spec_PutSign.calls kj20 t185 t186 _ A28.out) ?_; clear HB; intro w30 HB))
           go_ret2
           exact ⟨e1_, hB_⟩
          ·replace c26 := bF_ c26;subst c26;rw [if_neg nF_] at H;have HC31 := A_ H;clear H;go_upto_region 12 with (fail)
           go_cut [100] (fun v100 wc => ∃ (kq : Nat) (x100_30 : Bool), v100 = .bool x100_30 ∧ As9 (spec_Ref.j3 kq a1 t184 (wrap64 ((wrap64 (a1 + 1)) + (t184.size : Int))) x100_30 = some (r1, r2)) ∧ As9 (kq ≤ kj20) ∧ As9 (Below w.heap.size w wc))
           case first =>
            have H := HC31.out;clear HC31;by_cases c32 : a2 = true
            ·subst c32;rw [if_pos rfl] at H;rcases ic_ H with ⟨c33, H⟩ | ⟨c33, H⟩
             ·have c33b0 := dE_ c33;clear c33;(first | rw [c33b0] | (simp only [i64_w, i32_w]; rw [c33b0]) | skip)
              obtain ⟨c34, H⟩ := ifn_ H;have c34b0 := dE_ c34;clear c34;rcases ic_ H with ⟨c36, H⟩ | ⟨c36, H⟩
              ·obtain ⟨c36b0, c36b1⟩ := be_ c36;clear c36;have H' := A_ H;clear H;have p35 : 0 ≤ ((wrap64 ((wrap64 (a1 + 1)) + (t184.size : Int))) : Int) := dT_;have q35 : (wrap64 ((wrap64 (a1 + 1)) + (t184.size : Int))) < (a0.size : Int) := dT_;have hx35 := bt_at a0 (wrap64 ((wrap64 (a1 + 1)) + (t184.size : Int)));replace p35 := eq_true p35;replace q35 := eq_true q35;go_wp2
               go_meet
               case rel => exact ⟨_, (true), e2_, H', ⟨by have := HJ3.out; have := HJ10.out; have := HJ20.out; first | omega | exact Nat.le_refl _⟩, ⟨hB_⟩⟩
              ·obtain ⟨c36b0, c36b1⟩ := bn_ c36;obtain ⟨t187, A38, H⟩ := ob_ H;(try dsimp only at H)
               by_cases c39 : t187 = true
               ·subst c39;rw [if_pos rfl] at H;have H' := A_ H;clear H;have p35 : 0 ≤ ((wrap64 ((wrap64 (a1 + 1)) + (t184.size : Int))) : Int) := dT_;have q35 : (wrap64 ((wrap64 (a1 + 1)) + (t184.size : Int))) < (a0.size : Int) := dT_;have hx35 := bt_at a0 (wrap64 ((wrap64 (a1 + 1)) + (t184.size : Int)));replace p35 := eq_true p35;replace q35 := eq_true q35;have p37 : 0 ≤ ((wrap64 ((wrap64 (a1 + 1)) + (t184.size : Int))) : Int) := dT_;have q37 : (wrap64 ((wrap64 (a1 + 1)) + (t184.size : Int))) < (a0.size : Int) := dT_;have hx37 := bt_at a0 (wrap64 ((wrap64 (a1 + 1)) + (t184.size : Int)));replace p37 := eq_true p37;replace q37 := eq_true q37;go_wp2_with (first | (go_at_call 59; (with_reducible refine (spec_IsLetter.calls (wrap64 (bt a0 (wrap64 ((wrap64 (a1 + 1)) + (t184.size : Int))))) true _ A38.out).mono ?_); rintro e w' ⟨rfl, ⟨nd, rfl⟩⟩))
                go_meet
                case rel => exact ⟨_, (true), e2_, H', ⟨by have := HJ3.out; have := HJ10.out; have := HJ20.out; first | omega | exact Nat.le_refl _⟩, ⟨hB_⟩⟩
               ·replace c39 := bF_ c39;subst c39;rw [if_neg nF_] at H;obtain ⟨t188, A41, H⟩ := ob_ H;(try dsimp only at H)
                have H' := A_ H;clear H;have p35 : 0 ≤ ((wrap64 ((wrap64 (a1 + 1)) + (t184.size : Int))) : Int) := dT_;have q35 : (wrap64 ((wrap64 (a1 + 1)) + (t184.size : Int))) < (a0.size : Int) := dT_;have hx35 := bt_at a0 (wrap64 ((wrap64 (a1 + 1)) + (t184.size : Int)));replace p35 := eq_true p35;replace q35 := eq_true q35;have p37 : 0 ≤ ((wrap64 ((wrap64 (a1 + 1)) + (t184.size : Int))) : Int) := dT_;have q37 : (wrap64 ((wrap64 (a1 + 1)) + (t184.size : Int))) < (a0.size : Int) := dT_;have hx37 := bt_at a0 (wrap64 ((wrap64 (a1 + 1)) + (t184.size : Int)));replace p37 := eq_true p37;replace q37 := eq_true q37;go_wp2_with (first | (go_at_call 59; (with_reducible refine (spec_IsLetter.calls (wrap64 (bt a0 (wrap64 ((wrap64 (a1 + 1)) + (t184.size : Int))))) false _ A38.out).mono ?_); rintro e w' ⟨rfl, ⟨nd, rfl⟩⟩; have p40 : 0 ≤ ((wrap64 ((wrap64 (a1 + 1)) + (t184.size : Int))) : Int) := dT_; have q40 : (wrap64 ((wrap64 (a1 + 1)) + (t184.size : Int))) < (a0.size : Int) := dT_; have hx40 := bt_at a0 (wrap64 ((wrap64 (a1 + 1)) + (t184.size : Int))); replace p40 := eq_true p40; replace q40 := eq_true q40) | (go_at_call 133; (with_reducible refine (spec_l3Digit.calls kj20 (bt a0 (wrap64 ((wrap64 (a1 + 1)) + (t184.size : Int)))) false t188 _ A41.out).mono ?_); rintro e w' ⟨rfl, ⟨nd, rfl⟩⟩))
                go_meet
                case rel => exact ⟨_, (decide (t188 ≥ 0)), e2_, H', ⟨by have := HJ3.out; have := HJ10.out; have := HJ20.out; first | omega | exact Nat.le_refl _⟩, ⟨hB_⟩⟩
             ·have c33b0 := dF_ c33;clear c33;(first | rw [c33b0] | (simp only [i64_w, i32_w]; rw [c33b0]) | skip)
              have H' := A_ H;clear H;go_wp2
              go_meet
              case rel => exact ⟨_, (false), e2_, H', ⟨by have := HJ3.out; have := HJ10.out; have := HJ20.out; first | omega | exact Nat.le_refl _⟩, ⟨hB_⟩⟩
            ·replace c32 := bF_ c32;subst c32;rw [if_neg nF_] at H;have H' := A_ H;clear H;go_wp2
             go_meet
             case rel => exact ⟨_, (false), e2_, H', ⟨by have := HJ3.out; have := HJ10.out; have := HJ20.out; first | omega | exact Nat.le_refl _⟩, ⟨hB_⟩⟩
           case rest =>
            clear HC31;try clear c1
            try clear p1
            try clear q1
            try clear hx1
            try clear c2
            try clear p2
            try clear q2
            try clear hx2
            try clear c3
            try clear p3
            try clear q3
            try clear hx3
            try clear p4
            try clear q4
            try clear hx4
            try clear c5
            try clear c5b0
            try clear c6
            try clear c6b0
            try clear p6
            try clear c7
            try clear c7b0
            try clear c8
            try clear c8b0
            try clear c9
            try clear p9
            try clear q9
            try clear hx9
            try clear c10
            try clear c12
            try clear c12b0
            try clear c13
            try clear c13b0
            try clear p14
            try clear q14
            try clear hx14
            try clear c15
            try clear c19
            try clear c19b0
            try clear c19b1
            try clear c23
            try clear c23b0
            try clear c24
            try clear c24b0
            try clear p25
            try clear q25
            try clear hx25
            try clear c26
            try clear c32
            try clear c33
            try clear c33b0
            try clear c34
            try clear c34b0
            try clear p35
            try clear q35
            try clear hx35
            try clear c36
            try clear c36b0
            try clear c36b1
            try clear p37
            try clear q37
            try clear hx37
            try clear c39
            try clear p40
            try clear q40
            try clear hx40
            try clear p1
            try clear p14
            try clear p2
            try clear p25
            try clear p35
            try clear p37
            try clear p40
            try clear p6
            try clear p9
            try clear q1
            try clear q14
            try clear q2
            try clear q25
            try clear q35
            try clear q37
            try clear q40
            try clear q9
            obtain ⟨kq, x100_30, rfl, HA, HJ30, HB⟩ := hcut;cases kq with
            | zero => exact absurd HA.out (by simp [spec_Ref.j3])
            | succ kj30 =>
             have H := HA.out;clear HA;simp only [spec_Ref.j3] at H;by_cases c42 : x100_30 = true
             ·subst c42;rw [if_pos rfl] at H;obtain ⟨rfl, rfl⟩ := pi_ H;go_wp2
              go_ret2
              exact ⟨e1_, hB_⟩
             ·replace c42 := bF_ c42;subst c42;rw [if_neg nF_] at H;obtain ⟨t189, A43, H⟩ := ob_ H;obtain ⟨t190, A44, H⟩ := ob_ H;(try dsimp only at H)
              obtain ⟨rfl, rfl⟩ := pi_ H;go_wp2_with (first | ((with_reducible refine gC_ 132 ?_); refine gL_ 102 Tryz.func132 #[.string t184] ?_; refine bm_ (spec_NameSign.calls kj30 t184 t189 _ A43.out) ?_; clear HB; intro w45 HB) | ((with_reducible refine gC_ 92 ?_); refine gL_ 103 Tryz.func92 #[.int .i64 t189] ?_; refine bm_ (spec_PutSign.calls kj30 t189 t190 _ A44.out) ?_; clear HB; intro w46 HB))
              go_ret2
              exact ⟨e1_, hB_⟩
def spec_Refs.l0 : Nat → ByteArray → Bool → List Int → Int → Option ByteArray
 | 0, _, _, _, _ => none
 | k + 1, s, v, out, j => if j < (s.size : Int) then (spec_Ref.f k s j v).bind fun t => (if t.2 > 0 then (if out.length + t.1.size ≤ 140737488355327 then spec_Refs.l0 k s v (out ++ bytesOf t.1) (wrap64 (j + t.2)) else none) else (if 0 ≤ j then (if out.length < 140737488355328 then spec_Refs.l0 k s v (out ++ [bt s j]) (wrap64 (j + 1)) else none) else none)) else some (strOfNums out)
def spec_Refs.f (k : Nat) (a0 : BA) (a1 : Bool) : Option ByteArray := spec_Refs.l0 k a0 a1 [] 0
theorem spec_Refs.mono_l : ∀ k y0 y1 y2 y3, LeO (spec_Refs.l0 k y0 y1 y2 y3) (spec_Refs.l0 (k + 1) y0 y1 y2 y3)
 | 0 => fun _ _ _ _ r h => by simp [spec_Refs.l0] at h
 | k + 1 => by
  have ih0 := spec_Refs.mono_l k;intro y0 y1 y2 y3;rw [spec_Refs.l0, spec_Refs.l0];refine LeO.ite (LeO.bind (spec_Ref.mono _ _ _ _) (fun t => ?_)) (LeO.refl _);exact LeO.ite (LeO.ite (ih0 _ _ _ _) (LeO.refl _)) (LeO.ite (LeO.ite (ih0 _ _ _ _) (LeO.refl _)) (LeO.refl _))
theorem spec_Refs.mono : ∀ a0 a1 k, LeO (spec_Refs.f k a0 a1) (spec_Refs.f (k + 1) a0 a1) := fun _ _ k => spec_Refs.mono_l k _ _ _ _
theorem spec_Refs.calls (k : Nat) (a0 : BA) (a1 : Bool) (r : BA) (w : World) (h : spec_Refs.f k a0 a1 = some r) :
  Calls Tryz.prog 55 #[.string a0, .bool a1] w fun e w' => e = .returned (.string r) ∧ Below w.heap.size w w' := by
 have HH := A_ h;clear h;go_enter Tryz.func55, Tryz.ntmps55
 go_wp2_with ((with_reducible refine gate_dst (N := 9) rfl ?_); refine rl_ (Kd.int .u8) 5 9 [] [] ?_; intro v9 w2 ho hb hg_ hnew_; clear hg_ hnew_; have HO := A_ ho; have HB := A_ hb; clear ho hb)
 go_loopg [5, 6] k (fun kq v5 v6 wr => ∃ (out : List Int) (j : Int), v6 = .int .i64 j ∧ As9 (spec_Refs.l0 kq a0 a1 out j = some r) ∧ As9 (Kd.R (Kd.int .u8) 5 wr w.heap.size (fun _ => True) v5 out) ∧ As9 (Below w.heap.size w wr))
 case atStart => exact ⟨[], 0, rfl, HH, HO, HB⟩
 case round =>
  clear HH HO HB;obtain ⟨out, j, rfl, HE, HO, HB⟩ := hrel;cases gk with
  | zero => exact absurd HE.out (by simp [spec_Refs.l0])
  | succ k1 =>
   have h := HE.out;clear HE;rw [spec_Refs.l0] at h;by_cases hlt : j < (a0.size : Int)
   ·rw [if_pos hlt] at h;obtain ⟨⟨tx, us⟩, hR, h⟩ := oB_ h;have HR := A_ hR;clear hR;dsimp only at h;have q7 := eq_true hlt;by_cases hu : us > 0
    ·rw [if_pos hu] at h;have hub := dE_ hu;have hl : out.length + tx.size ≤ 140737488355327 := by
      by_cases hl : out.length + tx.size ≤ 140737488355327
      ·exact hl
      ·rw [if_neg hl] at h; cases h
     rw [if_pos hl] at h;have HE := A_ h;have HL := A_ hl;clear h hl;go_wp2_with (first | ((with_reducible refine gate_builtin (b := .append) (xs := #[.tmp 23, .tmp 25]) rfl ?_); at_builtin; refine Kd.R_append_rows (Kd.int .u8) (w0 := w) w.heap.size rfl (.tmp 23) (.tmp 25) 27 5 (.int .u8 0) 1 rfl Tryz.underlying27 info5 rfl de_ om_ _ out (bytesOf tx) _ _ _ (fun _ => True) (fun _ => False) rfl rfl ?aO ?aR (fun _ _ h => h) (fun _ h => h.elim) ?aF ?aB ?aS ?aL ?_; (case aO => exact HO5.out); (case aR => exact HC5.out); (case aF => exact fun _ _ => trivial); (case aB => exact HB5.out); (case aS => exact below_size HB5.out); (case aL => have := HL.out; omega); intro v6 w6 ho hb hg hat; have HO6 := A_ ho; have HB6 := A_ hb; clear ho hb hg hat) | (go_at_call 94; (with_reducible refine (spec_Ref.calls k1 a0 j a1 tx us _ HR.out).mono ?_); rintro e w4 ⟨rfl, hb⟩; have HB4 := A_ (below_step HB.out hb); have HO4 := A_ (Kd.R_below HO.out hb); clear hb; have hcv := print_bytes (P := Tryz.prog) 9 27 5 Tryz.underlying9 Tryz.underlying27 Tryz.underlying5 tx w4; have HC5 := A_ (txt_C (TxtRow.new w4 tx (by have := HL.out; omega))); have hb5 := (bytes_below (Below.refl w4.heap.size w4) (Nat.le_refl _) 5 tx); have HO5 := A_ (Kd.R_below HO4.out hb5); have HB5 := A_ (below_step HB4.out hb5); clear hb5 HO4; rw [bytesOf_length] at HC5; generalize Lib.bytesWorld w4 5 tx = w5 at hcv HC5 HO5 HB5; generalize grownCap w4 tx.size 0 5 = cp at hcv))
     go_roundg k1
     case measure => omega
     case rel => exact ⟨_, _, rfl, HE, HO6, HB6⟩
    ·rw [if_neg hu] at h;have hub := dF_ hu;have j0 : 0 ≤ j := by
      by_cases j0 : 0 ≤ j
      ·exact j0
      ·rw [if_neg j0] at h; cases h
     rw [if_pos j0] at h;have hl : out.length < 140737488355328 := by
      by_cases hl : out.length < 140737488355328
      ·exact hl
      ·rw [if_neg hl] at h; cases h
     rw [if_pos hl] at h;have HE := A_ h;have HL := A_ hl;clear h hl;have p7 := eq_true j0;have hx7 := bt_at a0 j;go_wp2_with (first | ((with_reducible refine gate_builtin (b := .append) (xs := #[.tmp 30, .tmp 34]) rfl ?_); at_builtin; refine Kd.R_append (Kd.int .u8) (w0 := w) w.heap.size rfl (.tmp 30) (.tmp 34) 27 5 (.int .u8 0) 1 rfl Tryz.underlying27 info5 rfl de_ om_ _ out (bt a0 j) [.int .u8 (bt a0 j)] (fun _ => True) (fun _ => False) rfl rfl ?aP (fun _ hk => hk.elim) ?aF ?aO ?aB ?aS ?aL ?_; (case aP => exact rfl); (case aF => exact fun _ _ => trivial); (case aO => (with_reducible repeat (first | apply Kd.R_alloc | apply Kd.R_drewN | apply Kd.R_drew)); exact HO4.out); (case aB => exact (by repeat (first | (with_reducible first | exact HB4.out | apply bA9 | apply bN9 | apply bD9) | exact HB4.out))); (case aS => exact (below_size (by repeat (first | (with_reducible first | exact HB4.out | apply bA9 | apply bN9 | apply bD9) | exact HB4.out)))); (case aL => have := HL.out; omega); intro v6 w6 ho hb hg hat; have HO6 := A_ ho; have HB6 := A_ hb; clear ho hb hg hat) | (go_at_call 94; (with_reducible refine (spec_Ref.calls k1 a0 j a1 tx us _ HR.out).mono ?_); rintro e w4 ⟨rfl, hb⟩; have HB4 := A_ (below_step HB.out hb); have HO4 := A_ (Kd.R_below HO.out hb); clear hb))
     go_roundg k1
     case measure => omega
     case rel => exact ⟨_, _, rfl, HE, HO6, HB6⟩
   ·rw [if_neg hlt] at h;obtain rfl := sI_ h;obtain ⟨A5, c5, rfl⟩ := Kd.R_slice HO.out;have hback := Kd.C_string (P := Tryz.prog) (src := 27) (dst := 9) (c := c5) Tryz.underlying27 Tryz.underlying5 Tryz.underlying9 (Kd.R_reads' HO.out).2.2;go_wp2
    go_ret
    exact ⟨rfl, HB.out⟩
def spec_l4After.f (a0 : BA) (a1 : Int) : Option (Int) := if (wrap64 (a1 + 1)) < (a0.size : Int) then (if 0 ≤ (wrap64 (a1 + 1)) then (if (bt a0 (wrap64 (a1 + 1))) = 47 then (some (wrap64 (a1 + 2))) else (some (wrap64 (a1 + 1)))) else (none)) else (some (wrap64 (a1 + 1)))
theorem spec_l4After.calls (a0 : BA) (a1 : Int) (r : Int) (w : World) (h : spec_l4After.f a0 a1 = some r) :
  Calls Tryz.prog 56 #[.string a0, .int .i64 a1] w fun e w' => e = .returned (.int .i64 r) ∧ Drawn0 w w' := by
 have H : (if (wrap64 (a1 + 1)) < (a0.size : Int) then (if 0 ≤ (wrap64 (a1 + 1)) then (if (bt a0 (wrap64 (a1 + 1))) = 47 then (some (wrap64 (a1 + 2))) else (some (wrap64 (a1 + 1)))) else (none)) else (some (wrap64 (a1 + 1)))) = some r := h;clear h;rcases ic_ H with ⟨c3, H⟩ | ⟨c3, H⟩
 ·have c3b0 := dE_ c3;clear c3;obtain ⟨ji4, hji4⟩ : ∃ j_ : Int, (wrap64 (a1 + 1)) = j_ := ⟨_, rfl⟩;replace H : (if 0 ≤ (ji4) then (if (bt a0 (ji4)) = 47 then (some (wrap64 (a1 + 2))) else (some ji4)) else (none)) = some r := by first | (rw [hji4] at H; exact H) | (simp only [hji4] at H ⊢; exact H)
  (try rw [hji4] at c3b0)
  have hji4w : (IntKind.i64.wrap (a1 + 1)) = ji4 := (i64_w _).trans hji4;obtain ⟨c5, H⟩ := ifn_ H;have c5b0 := dE_ c5;clear c5;rcases ic_ H with ⟨c7, H⟩ | ⟨c7, H⟩
  ·obtain ⟨c7b0, c7b1⟩ := be_ c7;clear c7;obtain rfl := sI_ H;have p6 : 0 ≤ ((ji4) : Int) := dT_;have q6 : (ji4) < (a0.size : Int) := dT_;have hx6 := bt_at a0 (ji4);replace p6 := eq_true p6;replace q6 := eq_true q6;go_enter Tryz.func56, Tryz.ntmps56
   go_wp2
   go_ret
   exact ⟨by first | rfl | (simp; done) | (simp only [← hji4] <;> (first | rfl | simp)) | (simp [*]; done), d0_⟩
  ·obtain ⟨c7b0, c7b1⟩ := bn_ c7;obtain rfl := sI_ H;have p6 : 0 ≤ ((ji4) : Int) := dT_;have q6 : (ji4) < (a0.size : Int) := dT_;have hx6 := bt_at a0 (ji4);replace p6 := eq_true p6;replace q6 := eq_true q6;go_enter Tryz.func56, Tryz.ntmps56
   go_wp2
   go_ret
   exact ⟨by first | rfl | (simp; done) | (simp only [← hji4] <;> (first | rfl | simp)) | (simp [*]; done), d0_⟩
 ·have c3b0 := dF_ c3;clear c3;obtain rfl := sI_ H;go_enter Tryz.func56, Tryz.ntmps56
  go_wp2
  go_ret
  exact ⟨e2_, d0_⟩
def spec_l5Stands.f (a0 : BA) (a1 : Int) (a2 : BA) : Option (Bool) := if (wrap64 (a1 + (a2.size : Int))) ≤ (a0.size : Int) then (if 0 ≤ a1 then (if a1 ≤ (wrap64 (a1 + (a2.size : Int))) then (some ((a0.extract (a1 : Int).toNat ((wrap64 (a1 + (a2.size : Int))) : Int).toNat).toList == a2.toList)) else (none)) else (none)) else (some false)
theorem spec_l5Stands.calls (a0 : BA) (a1 : Int) (a2 : BA) (r : Bool) (w : World) (h : spec_l5Stands.f a0 a1 a2 = some r) :
  Calls Tryz.prog 57 #[.string a0, .int .i64 a1, .string a2] w fun e w' => e = .returned (.bool r) ∧ Drawn0 w w' := by
 have H : (if (wrap64 (a1 + (a2.size : Int))) ≤ (a0.size : Int) then (if 0 ≤ a1 then (if a1 ≤ (wrap64 (a1 + (a2.size : Int))) then (some ((a0.extract (a1 : Int).toNat ((wrap64 (a1 + (a2.size : Int))) : Int).toNat).toList == a2.toList)) else (none)) else (none)) else (some false)) = some r := h;clear h;rcases ic_ H with ⟨c4, H⟩ | ⟨c4, H⟩
 ·have c4b0 := dE_ c4;clear c4;obtain ⟨c5, H⟩ := ifn_ H;have c5b0 := eq_true c5;have c5b1 := dE_ c5;clear c5;obtain ⟨c6, H⟩ := ifn_ H;have c6b0 := eq_true c6;have c6b1 := dE_ c6;have c7b0 := eq_true (dT_ : (wrap64 (a1 + (a2.size : Int))) ≤ (a0.size : Int));obtain rfl := sI_ H;go_enter Tryz.func57, Tryz.ntmps57
  go_wp2
  go_ret
  exact ⟨e2_, d0_⟩
 ·have c4b0 := dF_ c4;clear c4;obtain rfl := sI_ H;go_enter Tryz.func57, Tryz.ntmps57
  go_wp2
  go_ret
  exact ⟨e2_, d0_⟩
def spec_l5Search.l0 : Nat → ByteArray → Int → ByteArray → Option (Int)
 | 0, _, _, _ => none
 | k + 1, x0, x1, x2 => if (wrap64 (x1 + (x2.size : Int))) ≤ (x0.size : Int) then ((spec_l5Stands.f x0 x1 x2).bind fun t191 => (if t191 = true then (some x1) else (spec_l5Search.l0 k x0 (wrap64 (x1 + 1)) x2))) else (some (-1))
def spec_l5Search.f (k : Nat) (a0 : BA) (a1 : Int) (a2 : BA) : Option (Int) := spec_l5Search.l0 k a0 a1 a2
theorem spec_l5Search.mono_l : ∀ k, (∀ y0 y1 y2, LeO (spec_l5Search.l0 k y0 y1 y2) (spec_l5Search.l0 (k + 1) y0 y1 y2))
 | 0 => fun _ _ _ r h => by simp [spec_l5Search.l0] at h
 | k + 1 => by
  have ih0 := spec_l5Search.mono_l k
  ·intro y0 y1 y2;unfold spec_l5Search.l0;with_reducible repeat' first | exact ih0 _ _ _ | apply LeO.refl | apply LeO.none | apply LeO.ite | apply LeO.bind | intro
theorem spec_l5Search.mono : ∀ a0 a1 a2 k, LeO (spec_l5Search.f k a0 a1 a2) (spec_l5Search.f (k + 1) a0 a1 a2) := by
 intro a0 a1 a2 k;have ih0 := spec_l5Search.mono_l k;unfold spec_l5Search.f;with_reducible repeat' first | exact ih0 _ _ _ | apply LeO.refl | apply LeO.none | apply LeO.ite | apply LeO.bind | intro
theorem spec_l5Search.calls (k : Nat) (a0 : BA) (a1 : Int) (a2 : BA) (r : Int) (w : World) (h : spec_l5Search.f k a0 a1 a2 = some r) :
  Calls Tryz.prog 86 #[.string a0, .int .i64 a1, .string a2] w fun e w' => e = .returned (.int .i64 r) ∧ Drawn0 w w' := by
 have H : (spec_l5Search.l0 k a0 a1 a2) = some r := h;clear h;have H' := A_ H;clear H;go_enter Tryz.func86, Tryz.ntmps86
 go_wp2
 go_loopg [1] k (fun kq v1 w' => ∃ (x1_1 : Int), v1 = .int .i64 x1_1 ∧ As9 (spec_l5Search.l0 kq a0 x1_1 a2 = some r) ∧ As9 (kq ≤ k) ∧ Drawn0 w w')
 case atStart => exact ⟨(a1), e2_, H', ⟨Nat.le_refl _⟩, d0_⟩
 case round =>
  clear H';try clear p2
  obtain ⟨x1_1, rfl, HA, HK1, ⟨m1, rfl⟩⟩ := hrel;cases gk with
  | zero => exact absurd HA.out (by simp [spec_l5Search.l0])
  | succ k1 =>
   have H := HA.out;clear HA;simp only [spec_l5Search.l0] at H;rcases ic_ H with ⟨c4, H⟩ | ⟨c4, H⟩
   ·have c4b0 := dE_ c4;clear c4;obtain ⟨t191, A5, H⟩ := ob_ H;(try dsimp only at H)
    by_cases c6 : t191 = true
    ·subst c6;rw [if_pos rfl] at H;obtain rfl := sI_ H;go_wp2_with (first | ((with_reducible refine gC_ 57 ?_); refine gL_ 17 Tryz.func57 #[.string a0, .int .i64 x1_1, .string a2] ?_; refine dm_ (spec_l5Stands.calls a0 x1_1 a2 true _ A5.out) fun nd => ?_))
     go_ret
     exact ⟨e2_, d0_⟩
    ·replace c6 := bF_ c6;subst c6;rw [if_neg nF_] at H;have H' := A_ H;clear H;go_wp2_with (first | ((with_reducible refine gC_ 57 ?_); refine gL_ 17 Tryz.func57 #[.string a0, .int .i64 x1_1, .string a2] ?_; refine dm_ (spec_l5Stands.calls a0 x1_1 a2 false _ A5.out) fun nd => ?_))
     go_roundg k1
     case measure => have := HK1.out; omega
     case rel => exact ⟨(wrap64 (x1_1 + 1)), e2_, H', ⟨by have := HK1.out; omega⟩, d0_⟩
   ·have c4b0 := dF_ c4;clear c4;obtain rfl := sI_ H;go_wp2
    go_ret
    exact ⟨e2_, d0_⟩
def spec_l5Note.f (k : Nat) (s : BA) (p : Int) (out : List S43) : Option (Int × List S43) :=
 if 0 ≤ p ∧ p + 4 ≤ s.size ∧ s.size ≤ 1000000 then (spec_l5Search.f k s (p + 2) ⟨#[45, 45, 62]⟩).bind fun en =>
  if en < 0 then (spec_l5Put.f out ⟨4, ⟨#[]⟩, [], s.extract (p + 4).toNat s.size, false⟩).bind fun o => some ((s.size : Int), o)
  else if en ≤ s.size then (if p + 4 < en then (spec_l5Put.f out ⟨4, ⟨#[]⟩, [], s.extract (p + 4).toNat en.toNat, false⟩).bind fun o => some (en + 3, o) else (spec_l5Put.f out ⟨4, ⟨#[]⟩, [], ⟨#[]⟩, false⟩).bind fun o => some (en + 3, o)) else none
 else none
theorem spec_l5Note.mono : ∀ s p out k, LeO (spec_l5Note.f k s p out) (spec_l5Note.f (k + 1) s p out) := fun s p out k => LeO.ite (LeO.bind (spec_l5Search.mono _ _ _ _) fun en => LeO.refl _) (LeO.refl _)
theorem spec_l5Note.calls (k : Nat) (b : Nat) (s : BA) (p : Int) (out : List S43) (p' : Int) (out' : List S43) (w0 w : World) (hS : St 36 b w0 s p out w) (h : spec_l5Note.f k s p out = some (p', out')) :
  Calls Tryz.prog 58 #[.pointer (some ⟨b, 0, none⟩)] w fun e w' => e = .returned (.tuple #[]) ∧ St 36 b w0 s p' out' w' := by
 have HT := A_ hS;clear hS;unfold spec_l5Note.f at h;split at h
 case isFalse => cases h
 case isTrue hg =>
 obtain ⟨p0, p4, hs⟩ := hg;obtain ⟨en, hn, h⟩ := oB_ h;have Hn := A_ hn;have HH := A_ h;clear hn h;have hw4 : wrap64 (p + 4) = p + 4 := by unfold wrap64; omega
 have hw2 : wrap64 (p + 2) = p + 2 := by unfold wrap64; omega
 have g3 := eq_true (show 0 ≤ p + 4 by omega);have g4 := eq_true p4;obtain ⟨hc0, hc1, hf1⟩ := HT.out.sc.cells;go_enter Tryz.func58, Tryz.ntmps58
 go_wp2
 go_quiet (((go_at_call 86; (refine (spec_l5Search.calls k s _ _ en _ Hn.out).mono ?_); rintro r w' ⟨rfl, ⟨nd, rfl⟩⟩; exact ⟨rfl, _, World.drewN_drewN _ _ _⟩)))
 generalize hW : World.drewN w nq = wx;have HT1 : As9 (St 36 b w0 s p out wx) := ⟨by rw [← hW]; exact HT.out.below (bN9 (Below.refl _ _) _)⟩;clear hW HT hc0 hc1 hf1;obtain ⟨hc0, hc1, hf1⟩ := HT1.out.sc.cells;have H := HH.out;by_cases c : en < 0
 case pos =>
  rw [if_pos c] at H;obtain ⟨o, ho, H⟩ := oB_ H;obtain ⟨rfl, rfl⟩ := Prod.mk.inj (sI_ H);have Ho := A_ ho;have cb := eq_true c;clear ho H HH;go_wp2
  go_quiet (fail)
  generalize hW : World.drewN _ nq = wx;have HT2 : As9 (St 36 b w0 s p out wx) := ⟨by rw [← hW]; exact HT1.out.below (bN9 (Below.refl _ _) _)⟩;clear hW HT1 hc0 hc1 hf1;obtain ⟨hc0, hc1, hf1⟩ := HT2.out.sc.cells;go_wp2_with ((go_at_call 54; have HT8 := A_ (HT2.out.at_ (s.size : Int)); (with_reducible refine (spec_l5Put.calls b _ s _ out o 4 ⟨#[]⟩ [] (s.extract (p + 4).toNat s.size) false (.slice none 0 0) w0 _ HT8.out.sc HT8.out.bl (Kd.R_nil _ _ _ _ _) HT8.out.sc.lt (Nat.le_refl _) Ho.out).mono ?_); rintro e w2 ⟨rfl, hst⟩; have HT9 := A_ hst; clear hst HT8))
  go_end0
  exact ⟨rfl, HT9.out⟩
 case neg =>
  rw [if_neg c] at H;have cb := eq_false c;split at H
  case isFalse => cases H
  case isTrue hl =>
  have hl2 := eq_true hl;have hw3 : wrap64 (en + 3) = en + 3 := by unfold wrap64; omega
  by_cases cm : p + 4 < en
  case pos =>
   rw [if_pos cm] at H;obtain ⟨o, ho, H⟩ := oB_ H;obtain ⟨rfl, rfl⟩ := Prod.mk.inj (sI_ H);have Ho := A_ ho;clear ho H HH;have hm1 := eq_true cm;have hm2 := eq_true (show p + 4 ≤ en by omega);go_wp2
   go_quiet (fail)
   generalize hW : World.drewN _ nq = wx;have HT2 : As9 (St 36 b w0 s p out wx) := ⟨by rw [← hW]; exact HT1.out.below (bN9 (Below.refl _ _) _)⟩;clear hW HT1 hc0 hc1 hf1;obtain ⟨hc0, hc1, hf1⟩ := HT2.out.sc.cells;go_wp2_with ((go_at_call 54; have HT8 := A_ (HT2.out.at_ (en + 3)); (with_reducible refine (spec_l5Put.calls b _ s _ out o 4 ⟨#[]⟩ [] (s.extract (p + 4).toNat en.toNat) false (.slice none 0 0) w0 _ HT8.out.sc HT8.out.bl (Kd.R_nil _ _ _ _ _) HT8.out.sc.lt (Nat.le_refl _) Ho.out).mono ?_); rintro e w2 ⟨rfl, hst⟩; have HT9 := A_ hst; clear hst HT8))
   go_end0
   exact ⟨rfl, HT9.out⟩
  case neg =>
   rw [if_neg cm] at H;obtain ⟨o, ho, H⟩ := oB_ H;obtain ⟨rfl, rfl⟩ := Prod.mk.inj (sI_ H);have Ho := A_ ho;clear ho H HH;have hm1 := eq_false cm;go_wp2_with ((go_at_call 54; have HT8 := A_ (HT1.out.at_ (en + 3)); (with_reducible refine (spec_l5Put.calls b _ s _ out o 4 ⟨#[]⟩ [] ⟨#[]⟩ false (.slice none 0 0) w0 _ HT8.out.sc HT8.out.bl (Kd.R_nil _ _ _ _ _) HT8.out.sc.lt (Nat.le_refl _) Ho.out).mono ?_); rintro e w2 ⟨rfl, hst⟩; have HT9 := A_ hst; clear hst HT8))
   go_end0
   exact ⟨rfl, HT9.out⟩
def spec_Small.f (a0 : BA) : Option ByteArray := if a0.size ≤ 140737488355328 then some (strOfNums ((bytesOf a0).map lowB)) else none
theorem spec_Small.calls (a0 : BA) (r : BA) (w : World) (h : spec_Small.f a0 = some r) :
  Calls Tryz.prog 87 #[.string a0] w fun e w' => e = .returned (.string r) ∧ Below w.heap.size w w' := by
 unfold spec_Small.f at h;have hs : a0.size ≤ 140737488355328 := by
  by_cases hs : a0.size ≤ 140737488355328
  ·exact hs
  ·rw [if_neg hs] at h; cases h
 rw [if_pos hs] at h;obtain rfl := sI_ h;clear h;have hcv := print_bytes (P := Tryz.prog) 9 27 5 Tryz.underlying9 Tryz.underlying27 Tryz.underlying5 a0 w;have HT := A_ (TxtRow.new w a0 om_);have HB := A_ (bytes_below (Below.refl _ _) (Nat.le_refl _) 5 a0 : Below w.heap.size w (Lib.bytesWorld w 5 a0));generalize Lib.bytesWorld w 5 a0 = w2 at hcv HT HB;generalize grownCap w a0.size 0 5 = cp at hcv;have HBN := A_ (bytesOf_bound a0);have HLN := A_ (bytesOf_length a0);go_enter Tryz.func87, Tryz.ntmps87
 go_wp2
 go_loopg [4] a0.size (fun kq v4 wr => ∃ j : Int, v4 = .int .i64 j ∧ 0 ≤ j ∧ j ≤ (a0.size : Int) ∧ As9 (kq = a0.size - j.toNat) ∧ As9 (TxtRow wr w.heap.size (lowL (bytesOf a0) j.toNat)) ∧ As9 (Below w.heap.size w wr))
 case atStart => exact ⟨0, rfl, Int.le_refl _, om_, ⟨rfl⟩, ⟨by simpa [lowL] using HT.out⟩, HB⟩
 case round =>
  obtain ⟨j, rfl, j0, hj, HM, HX, HW⟩ := hrel;clear HT HB;by_cases hlt : j < (a0.size : Int)
  ·have hjn : j.toNat < (bytesOf a0).length := by rw [HLN.out]; omega
   have hjl : j.toNat < (lowL (bytesOf a0) j.toNat).length := by rw [lowL_length]; exact hjn
   have hcell := HX.out.cell j.toNat hjl;rw [lowL_getD _ _ hjn] at hcell;have hfz := HX.out.frozen j.toNat hjl;have hbd := HBN.out j.toNat hjn;have HS := A_ (lowL_set (bytesOf a0) j.toNat hjn);have HE := A_ (lowL_same (bytesOf a0) j.toNat hjn);have HXS := A_ (fun x => HX.out.set j.toNat hjl x);generalize hv : (bytesOf a0).getD j.toNat 0 = v at hcell hbd HS HE;have Hv := A_ hv;clear hv hjn hjl;have p7 := eq_true j0;have q7 := eq_true hlt;by_cases h1 : v ≥ 65
   ·by_cases h2 : v ≤ 90
    ·have h1b := dE_ h1;have h2b := dE_ h2;have hw : IntKind.u8.wrap (v + 32) = v + 32 := u8_wrap om_ om_;go_wp2
     go_roundg (a0.size - (j + 1).toNat)
     case measure => have := HM.out; omega
     case rel => exact ⟨j + 1, rfl, om_, om_, ⟨rfl⟩, ⟨by rw [show (j + 1).toNat = j.toNat + 1 by omega, ← HS.out]; unfold lowB; rw [if_pos ⟨h1, h2⟩]; exact HXS.out _⟩, ⟨below_set HW.out (Nat.le_refl _)⟩⟩
    ·have h1b := dE_ h1;have h2b := dF_ h2;go_wp2
     go_roundg (a0.size - (j + 1).toNat)
     case measure => have := HM.out; omega
     case rel => exact ⟨j + 1, rfl, om_, om_, ⟨rfl⟩, ⟨by rw [show (j + 1).toNat = j.toNat + 1 by omega, ← HE.out om_]; exact HX.out⟩, HW⟩
   ·have h1b := dF_ h1;go_wp2
    go_roundg (a0.size - (j + 1).toNat)
    case measure => have := HM.out; omega
    case rel => exact ⟨j + 1, rfl, om_, om_, ⟨rfl⟩, ⟨by rw [show (j + 1).toNat = j.toNat + 1 by omega, ← HE.out om_]; exact HX.out⟩, HW⟩
  ·have hje : j.toNat = (bytesOf a0).length := by rw [HLN.out]; omega
   have hX2 := HX.out;rw [hje] at hX2;have hl2 : lowL (bytesOf a0) (bytesOf a0).length = (bytesOf a0).map lowB := by simp [lowL]
   rw [hl2] at hX2;have hback := string_of_reads (P := Tryz.prog) (src := 27) (dst := 9) (c := cp) Tryz.underlying27 Tryz.underlying5 Tryz.underlying9 hX2.reads;rw [List.length_map, HLN.out] at hback;clear hX2 hje hl2;go_wp2
   go_ret
   exact ⟨rfl, HW.out⟩
def spec_Raw.f (a0 : BA) : Option (Bool) := if a0.toList = ([115, 99, 114, 105, 112, 116] : List UInt8) then (some true) else (if a0.toList = ([115, 116, 121, 108, 101] : List UInt8) then (some true) else (if a0.toList = ([116, 105, 116, 108, 101] : List UInt8) then (some true) else (some (a0.toList == ([116, 101, 120, 116, 97, 114, 101, 97] : List UInt8)))))
theorem spec_Raw.calls (a0 : BA) (r : Bool) (w : World) (h : spec_Raw.f a0 = some r) :
  Calls Tryz.prog 89 #[.string a0] w fun e w' => e = .returned (.bool r) ∧ Drawn0 w w' := by
 have H : (if a0.toList = ([115, 99, 114, 105, 112, 116] : List UInt8) then (some true) else (if a0.toList = ([115, 116, 121, 108, 101] : List UInt8) then (some true) else (if a0.toList = ([116, 105, 116, 108, 101] : List UInt8) then (some true) else (some (a0.toList == ([116, 101, 120, 116, 97, 114, 101, 97] : List UInt8)))))) = some r := h;clear h;rcases ic_ H with ⟨c2, H⟩ | ⟨c2, H⟩
 ·obtain ⟨c2b0, c2b1⟩ := be_ c2;clear c2;obtain rfl := sI_ H;go_enter Tryz.func89, Tryz.ntmps89
  go_wp2
  go_ret
  exact ⟨e2_, d0_⟩
 ·obtain ⟨c2b0, c2b1⟩ := bn_ c2;rcases ic_ H with ⟨c3, H⟩ | ⟨c3, H⟩
  ·obtain ⟨c3b0, c3b1⟩ := be_ c3;clear c3;obtain rfl := sI_ H;go_enter Tryz.func89, Tryz.ntmps89
   go_wp2
   go_ret
   exact ⟨e2_, d0_⟩
  ·obtain ⟨c3b0, c3b1⟩ := bn_ c3;rcases ic_ H with ⟨c4, H⟩ | ⟨c4, H⟩
   ·obtain ⟨c4b0, c4b1⟩ := be_ c4;clear c4;obtain rfl := sI_ H;go_enter Tryz.func89, Tryz.ntmps89
    go_wp2
    go_ret
    exact ⟨e2_, d0_⟩
   ·obtain ⟨c4b0, c4b1⟩ := bn_ c4;obtain rfl := sI_ H;go_enter Tryz.func89, Tryz.ntmps89
    go_wp2
    go_ret
    exact ⟨e2_, d0_⟩
def spec_IsBlank.f (a0 : Int) : Option (Bool) := if a0 = 9 then (some true) else (if a0 = 10 then (some true) else (if a0 = 12 then (some true) else (if a0 = 13 then (some true) else (some (a0 == 32)))))
theorem spec_IsBlank.calls (a0 : Int) (r : Bool) (w : World) (h : spec_IsBlank.f a0 = some r) :
  Calls Tryz.prog 155 #[.int .i64 a0] w fun e w' => e = .returned (.bool r) ∧ Drawn0 w w' := by
 have H : (if a0 = 9 then (some true) else (if a0 = 10 then (some true) else (if a0 = 12 then (some true) else (if a0 = 13 then (some true) else (some (a0 == 32)))))) = some r := h;clear h;rcases ic_ H with ⟨c2, H⟩ | ⟨c2, H⟩
 ·obtain ⟨c2b0, c2b1⟩ := be_ c2;clear c2;obtain rfl := sI_ H;go_enter Tryz.func155, Tryz.ntmps155
  go_wp2
  go_ret
  exact ⟨e2_, d0_⟩
 ·obtain ⟨c2b0, c2b1⟩ := bn_ c2;rcases ic_ H with ⟨c3, H⟩ | ⟨c3, H⟩
  ·obtain ⟨c3b0, c3b1⟩ := be_ c3;clear c3;obtain rfl := sI_ H;go_enter Tryz.func155, Tryz.ntmps155
   go_wp2
   go_ret
   exact ⟨e2_, d0_⟩
  ·obtain ⟨c3b0, c3b1⟩ := bn_ c3;rcases ic_ H with ⟨c4, H⟩ | ⟨c4, H⟩
   ·obtain ⟨c4b0, c4b1⟩ := be_ c4;clear c4;obtain rfl := sI_ H;go_enter Tryz.func155, Tryz.ntmps155
    go_wp2
    go_ret
    exact ⟨e2_, d0_⟩
   ·obtain ⟨c4b0, c4b1⟩ := bn_ c4;rcases ic_ H with ⟨c5, H⟩ | ⟨c5, H⟩
    ·obtain ⟨c5b0, c5b1⟩ := be_ c5;clear c5;obtain rfl := sI_ H;go_enter Tryz.func155, Tryz.ntmps155
     go_wp2
     go_ret
     exact ⟨e2_, d0_⟩
    ·obtain ⟨c5b0, c5b1⟩ := bn_ c5;obtain rfl := sI_ H;go_enter Tryz.func155, Tryz.ntmps155
     go_wp2
     go_ret
     exact ⟨e2_, d0_⟩
def spec_l4Blank.f (a0 : Int) : Option (Bool) := (spec_IsBlank.f (wrap64 (a0))).bind fun t192 => (some t192)
theorem spec_l4Blank.calls (a0 : Int) (r : Bool) (w : World) (h : spec_l4Blank.f a0 = some r) :
  Calls Tryz.prog 124 #[.int .u8 a0] w fun e w' => e = .returned (.bool r) ∧ Drawn0 w w' := by
 have H : ((spec_IsBlank.f (wrap64 (a0))).bind fun t192 => (some t192)) = some r := h;clear h;obtain ⟨t192, A2, H⟩ := ob_ H;obtain rfl := sI_ H;go_enter Tryz.func124, Tryz.ntmps124
 go_wp2_with (first | ((with_reducible refine gC_ 155 ?_); refine gL_ 5 Tryz.func155 #[.int .i64 (wrap64 (a0))] ?_; refine dm_ (spec_IsBlank.calls (wrap64 (a0)) t192 _ A2.out) fun nd => ?_))
 go_ret
 exact ⟨e2_, d0_⟩
def spec_l4Tag.l0 : Nat → ByteArray → Int → Option (Int)
 | 0, _, _ => none
 | k + 1, x0, x1 => if x1 < (x0.size : Int) then (if 0 ≤ x1 then ((spec_l4Blank.f (bt x0 x1)).bind fun t194 => (if t194 = true then (some x1) else (if (bt x0 x1) = 47 then (some x1) else (if (bt x0 x1) = 62 then (some x1) else (spec_l4Tag.l0 k x0 (wrap64 (x1 + 1))))))) else (none)) else (some x1)
def spec_l4Tag.f (k : Nat) (a0 : BA) (a1 : Int) : Option (Int) := spec_l4Tag.l0 k a0 a1
theorem spec_l4Tag.mono_l : ∀ k, (∀ y0 y1, LeO (spec_l4Tag.l0 k y0 y1) (spec_l4Tag.l0 (k + 1) y0 y1))
 | 0 => fun _ _ r h => by simp [spec_l4Tag.l0] at h
 | k + 1 => by
  have ih0 := spec_l4Tag.mono_l k
  ·intro y0 y1;unfold spec_l4Tag.l0;with_reducible repeat' first | exact ih0 _ _ | apply LeO.refl | apply LeO.none | apply LeO.ite | apply LeO.bind | intro
theorem spec_l4Tag.mono : ∀ a0 a1 k, LeO (spec_l4Tag.f k a0 a1) (spec_l4Tag.f (k + 1) a0 a1) := by
 intro a0 a1 k;have ih0 := spec_l4Tag.mono_l k;unfold spec_l4Tag.f;with_reducible repeat' first | exact ih0 _ _ | apply LeO.refl | apply LeO.none | apply LeO.ite | apply LeO.bind | intro
theorem spec_l4Tag.calls (k : Nat) (a0 : BA) (a1 : Int) (r : Int) (w : World) (h : spec_l4Tag.f k a0 a1 = some r) :
  Calls Tryz.prog 97 #[.string a0, .int .i64 a1] w fun e w' => e = .returned (.int .i64 r) ∧ Drawn0 w w' := by
 have H : (spec_l4Tag.l0 k a0 a1) = some r := h;clear h;have H' := A_ H;clear H;go_enter Tryz.func97, Tryz.ntmps97
 go_wp2
 go_loopg [1] k (fun kq v1 w' => ∃ (x1_1 : Int), v1 = .int .i64 x1_1 ∧ As9 (spec_l4Tag.l0 kq a0 x1_1 = some r) ∧ As9 (kq ≤ k) ∧ Drawn0 w w')
 case atStart => exact ⟨(a1), e2_, H', ⟨Nat.le_refl _⟩, d0_⟩
 case round =>
  clear H';try clear p2
  obtain ⟨x1_1, rfl, HA, HK1, ⟨m1, rfl⟩⟩ := hrel;cases gk with
  | zero => exact absurd HA.out (by simp [spec_l4Tag.l0])
  | succ k1 =>
   have H := HA.out;clear HA;simp only [spec_l4Tag.l0] at H;rcases ic_ H with ⟨c3, H⟩ | ⟨c3, H⟩
   ·have c3b0 := dE_ c3;clear c3;obtain ⟨c4, H⟩ := ifn_ H;have c4b0 := dE_ c4;clear c4;obtain ⟨t194, A6, H⟩ := ob_ H;(try dsimp only at H)
    by_cases c7 : t194 = true
    ·subst c7;rw [if_pos rfl] at H;obtain rfl := sI_ H;have p5 : 0 ≤ (x1_1 : Int) := dT_;have q5 : x1_1 < (a0.size : Int) := dT_;have hx5 := bt_at a0 x1_1;replace p5 := eq_true p5;replace q5 := eq_true q5;go_wp2_with (first | (go_at_call 124; (with_reducible refine (spec_l4Blank.calls (bt a0 x1_1) true _ A6.out).mono ?_); rintro e w' ⟨rfl, ⟨nd, rfl⟩⟩))
     go_ret
     exact ⟨e2_, d0_⟩
    ·replace c7 := bF_ c7;subst c7;rw [if_neg nF_] at H;rcases ic_ H with ⟨c9, H⟩ | ⟨c9, H⟩
     ·obtain ⟨c9b0, c9b1⟩ := be_ c9;clear c9;obtain rfl := sI_ H;have p5 : 0 ≤ (x1_1 : Int) := dT_;have q5 : x1_1 < (a0.size : Int) := dT_;have hx5 := bt_at a0 x1_1;replace p5 := eq_true p5;replace q5 := eq_true q5;go_wp2_with (first | (go_at_call 124; (with_reducible refine (spec_l4Blank.calls (bt a0 x1_1) false _ A6.out).mono ?_); rintro e w' ⟨rfl, ⟨nd, rfl⟩⟩; have p8 : 0 ≤ (x1_1 : Int) := dT_; have q8 : x1_1 < (a0.size : Int) := dT_; have hx8 := bt_at a0 x1_1; replace p8 := eq_true p8; replace q8 := eq_true q8))
      go_ret
      exact ⟨e2_, d0_⟩
     ·obtain ⟨c9b0, c9b1⟩ := bn_ c9;rcases ic_ H with ⟨c11, H⟩ | ⟨c11, H⟩
      ·obtain ⟨c11b0, c11b1⟩ := be_ c11;clear c11;obtain rfl := sI_ H;have p5 : 0 ≤ (x1_1 : Int) := dT_;have q5 : x1_1 < (a0.size : Int) := dT_;have hx5 := bt_at a0 x1_1;replace p5 := eq_true p5;replace q5 := eq_true q5;go_wp2_with (first | (go_at_call 124; (with_reducible refine (spec_l4Blank.calls (bt a0 x1_1) false _ A6.out).mono ?_); rintro e w' ⟨rfl, ⟨nd, rfl⟩⟩; have p8 : 0 ≤ (x1_1 : Int) := dT_; have q8 : x1_1 < (a0.size : Int) := dT_; have hx8 := bt_at a0 x1_1; replace p8 := eq_true p8; replace q8 := eq_true q8; have p10 : 0 ≤ (x1_1 : Int) := dT_; have q10 : x1_1 < (a0.size : Int) := dT_; have hx10 := bt_at a0 x1_1; replace p10 := eq_true p10; replace q10 := eq_true q10))
       go_ret
       exact ⟨e2_, d0_⟩
      ·obtain ⟨c11b0, c11b1⟩ := bn_ c11;have H' := A_ H;clear H;have p5 : 0 ≤ (x1_1 : Int) := dT_;have q5 : x1_1 < (a0.size : Int) := dT_;have hx5 := bt_at a0 x1_1;replace p5 := eq_true p5;replace q5 := eq_true q5;go_wp2_with (first | (go_at_call 124; (with_reducible refine (spec_l4Blank.calls (bt a0 x1_1) false _ A6.out).mono ?_); rintro e w' ⟨rfl, ⟨nd, rfl⟩⟩; have p8 : 0 ≤ (x1_1 : Int) := dT_; have q8 : x1_1 < (a0.size : Int) := dT_; have hx8 := bt_at a0 x1_1; replace p8 := eq_true p8; replace q8 := eq_true q8; have p10 : 0 ≤ (x1_1 : Int) := dT_; have q10 : x1_1 < (a0.size : Int) := dT_; have hx10 := bt_at a0 x1_1; replace p10 := eq_true p10; replace q10 := eq_true q10))
       go_roundg k1
       case measure => have := HK1.out; omega
       case rel => exact ⟨(wrap64 (x1_1 + 1)), e2_, H', ⟨by have := HK1.out; omega⟩, d0_⟩
   ·have c3b0 := dF_ c3;clear c3;obtain rfl := sI_ H;go_wp2
    go_ret
    exact ⟨e2_, d0_⟩
def spec_l4Find.l0 : Nat → ByteArray → Int → Int → Option (Int)
 | 0, _, _, _ => none
 | k + 1, x0, x1, x2 => if x1 < (x0.size : Int) then (if 0 ≤ x1 then (if (bt x0 x1) = x2 then (some x1) else (spec_l4Find.l0 k x0 (wrap64 (x1 + 1)) x2)) else (none)) else (some (-1))
def spec_l4Find.f (k : Nat) (a0 : BA) (a1 : Int) (a2 : Int) : Option (Int) := spec_l4Find.l0 k a0 a1 a2
theorem spec_l4Find.mono_l : ∀ k, (∀ y0 y1 y2, LeO (spec_l4Find.l0 k y0 y1 y2) (spec_l4Find.l0 (k + 1) y0 y1 y2))
 | 0 => fun _ _ _ r h => by simp [spec_l4Find.l0] at h
 | k + 1 => by
  have ih0 := spec_l4Find.mono_l k
  ·intro y0 y1 y2;unfold spec_l4Find.l0;with_reducible repeat' first | exact ih0 _ _ _ | apply LeO.refl | apply LeO.none | apply LeO.ite | apply LeO.bind | intro
theorem spec_l4Find.mono : ∀ a0 a1 a2 k, LeO (spec_l4Find.f k a0 a1 a2) (spec_l4Find.f (k + 1) a0 a1 a2) := by
 intro a0 a1 a2 k;have ih0 := spec_l4Find.mono_l k;unfold spec_l4Find.f;with_reducible repeat' first | exact ih0 _ _ _ | apply LeO.refl | apply LeO.none | apply LeO.ite | apply LeO.bind | intro
theorem spec_l4Find.calls (k : Nat) (a0 : BA) (a1 : Int) (a2 : Int) (r : Int) (w : World) (h : spec_l4Find.f k a0 a1 a2 = some r) :
  Calls Tryz.prog 75 #[.string a0, .int .i64 a1, .int .u8 a2] w fun e w' => e = .returned (.int .i64 r) ∧ Drawn0 w w' := by
 have H : (spec_l4Find.l0 k a0 a1 a2) = some r := h;clear h;have H' := A_ H;clear H;go_enter Tryz.func75, Tryz.ntmps75
 go_wp2
 go_loopg [1] k (fun kq v1 w' => ∃ (x1_1 : Int), v1 = .int .i64 x1_1 ∧ As9 (spec_l4Find.l0 kq a0 x1_1 a2 = some r) ∧ As9 (kq ≤ k) ∧ Drawn0 w w')
 case atStart => exact ⟨(a1), e2_, H', ⟨Nat.le_refl _⟩, d0_⟩
 case round =>
  clear H';try clear p2
  obtain ⟨x1_1, rfl, HA, HK1, ⟨m1, rfl⟩⟩ := hrel;cases gk with
  | zero => exact absurd HA.out (by simp [spec_l4Find.l0])
  | succ k1 =>
   have H := HA.out;clear HA;simp only [spec_l4Find.l0] at H;rcases ic_ H with ⟨c4, H⟩ | ⟨c4, H⟩
   ·have c4b0 := dE_ c4;clear c4;obtain ⟨c5, H⟩ := ifn_ H;have c5b0 := dE_ c5;clear c5;rcases ic_ H with ⟨c7, H⟩ | ⟨c7, H⟩
    ·obtain ⟨c7b0, c7b1⟩ := be_ c7;clear c7;obtain rfl := sI_ H;have p6 : 0 ≤ (x1_1 : Int) := dT_;have q6 : x1_1 < (a0.size : Int) := dT_;have hx6 := bt_at a0 x1_1;replace p6 := eq_true p6;replace q6 := eq_true q6;go_wp2
     go_ret
     exact ⟨e2_, d0_⟩
    ·obtain ⟨c7b0, c7b1⟩ := bn_ c7;have H' := A_ H;clear H;have p6 : 0 ≤ (x1_1 : Int) := dT_;have q6 : x1_1 < (a0.size : Int) := dT_;have hx6 := bt_at a0 x1_1;replace p6 := eq_true p6;replace q6 := eq_true q6;go_wp2
     go_roundg k1
     case measure => have := HK1.out; omega
     case rel => exact ⟨(wrap64 (x1_1 + 1)), e2_, H', ⟨by have := HK1.out; omega⟩, d0_⟩
   ·have c4b0 := dF_ c4;clear c4;obtain rfl := sI_ H;go_wp2
    go_ret
    exact ⟨e2_, d0_⟩
def spec_l4Blanks.l0 : Nat → ByteArray → Int → Option (Int)
 | 0, _, _ => none
 | k + 1, x0, x1 => if x1 < (x0.size : Int) then (if 0 ≤ x1 then ((spec_l4Blank.f (bt x0 x1)).bind fun t193 => (if t193 = true then (spec_l4Blanks.l0 k x0 (wrap64 (x1 + 1))) else (some x1))) else (none)) else (some x1)
def spec_l4Blanks.f (k : Nat) (a0 : BA) (a1 : Int) : Option (Int) := spec_l4Blanks.l0 k a0 a1
theorem spec_l4Blanks.mono_l : ∀ k, (∀ y0 y1, LeO (spec_l4Blanks.l0 k y0 y1) (spec_l4Blanks.l0 (k + 1) y0 y1))
 | 0 => fun _ _ r h => by simp [spec_l4Blanks.l0] at h
 | k + 1 => by
  have ih0 := spec_l4Blanks.mono_l k
  ·intro y0 y1;unfold spec_l4Blanks.l0;with_reducible repeat' first | exact ih0 _ _ | apply LeO.refl | apply LeO.none | apply LeO.ite | apply LeO.bind | intro
theorem spec_l4Blanks.mono : ∀ a0 a1 k, LeO (spec_l4Blanks.f k a0 a1) (spec_l4Blanks.f (k + 1) a0 a1) := by
 intro a0 a1 k;have ih0 := spec_l4Blanks.mono_l k;unfold spec_l4Blanks.f;with_reducible repeat' first | exact ih0 _ _ | apply LeO.refl | apply LeO.none | apply LeO.ite | apply LeO.bind | intro
theorem spec_l4Blanks.calls (k : Nat) (a0 : BA) (a1 : Int) (r : Int) (w : World) (h : spec_l4Blanks.f k a0 a1 = some r) :
  Calls Tryz.prog 88 #[.string a0, .int .i64 a1] w fun e w' => e = .returned (.int .i64 r) ∧ Drawn0 w w' := by
 have H : (spec_l4Blanks.l0 k a0 a1) = some r := h;clear h;have H' := A_ H;clear H;go_enter Tryz.func88, Tryz.ntmps88
 go_wp2
 go_loopg [1] k (fun kq v1 w' => ∃ (x1_1 : Int), v1 = .int .i64 x1_1 ∧ As9 (spec_l4Blanks.l0 kq a0 x1_1 = some r) ∧ As9 (kq ≤ k) ∧ Drawn0 w w')
 case atStart => exact ⟨(a1), e2_, H', ⟨Nat.le_refl _⟩, d0_⟩
 case round =>
  clear H';try clear p2
  obtain ⟨x1_1, rfl, HA, HK1, ⟨m1, rfl⟩⟩ := hrel;cases gk with
  | zero => exact absurd HA.out (by simp [spec_l4Blanks.l0])
  | succ k1 =>
   have H := HA.out;clear HA;simp only [spec_l4Blanks.l0] at H;rcases ic_ H with ⟨c3, H⟩ | ⟨c3, H⟩
   ·have c3b0 := dE_ c3;clear c3;obtain ⟨c4, H⟩ := ifn_ H;have c4b0 := dE_ c4;clear c4;obtain ⟨t193, A6, H⟩ := ob_ H;(try dsimp only at H)
    by_cases c7 : t193 = true
    ·subst c7;rw [if_pos rfl] at H;have H' := A_ H;clear H;have p5 : 0 ≤ (x1_1 : Int) := dT_;have q5 : x1_1 < (a0.size : Int) := dT_;have hx5 := bt_at a0 x1_1;replace p5 := eq_true p5;replace q5 := eq_true q5;go_wp2_with (first | (go_at_call 124; (with_reducible refine (spec_l4Blank.calls (bt a0 x1_1) true _ A6.out).mono ?_); rintro e w' ⟨rfl, ⟨nd, rfl⟩⟩))
     go_roundg k1
     case measure => have := HK1.out; omega
     case rel => exact ⟨(wrap64 (x1_1 + 1)), e2_, H', ⟨by have := HK1.out; omega⟩, d0_⟩
    ·replace c7 := bF_ c7;subst c7;rw [if_neg nF_] at H;obtain rfl := sI_ H;have p5 : 0 ≤ (x1_1 : Int) := dT_;have q5 : x1_1 < (a0.size : Int) := dT_;have hx5 := bt_at a0 x1_1;replace p5 := eq_true p5;replace q5 := eq_true q5;go_wp2_with (first | (go_at_call 124; (with_reducible refine (spec_l4Blank.calls (bt a0 x1_1) false _ A6.out).mono ?_); rintro e w' ⟨rfl, ⟨nd, rfl⟩⟩))
     go_ret
     exact ⟨e2_, d0_⟩
   ·have c3b0 := dF_ c3;clear c3;obtain rfl := sI_ H;go_wp2
    go_ret
    exact ⟨e2_, d0_⟩
def spec_l4Skip.l0 : Nat → ByteArray → Int → Option (Int)
 | 0, _, _ => none
 | k + 1, x0, x1 => if x1 < (x0.size : Int) then (if 0 ≤ x1 then ((spec_l4Blank.f (bt x0 x1)).bind fun t195 => (if t195 = true then (spec_l4Skip.l0 k x0 (wrap64 (x1 + 1))) else (if (bt x0 x1) = 47 then (spec_l4Skip.l0 k x0 (wrap64 (x1 + 1))) else (some x1)))) else (none)) else (some x1)
def spec_l4Skip.f (k : Nat) (a0 : BA) (a1 : Int) : Option (Int) := spec_l4Skip.l0 k a0 a1
theorem spec_l4Skip.mono_l : ∀ k, (∀ y0 y1, LeO (spec_l4Skip.l0 k y0 y1) (spec_l4Skip.l0 (k + 1) y0 y1))
 | 0 => fun _ _ r h => by simp [spec_l4Skip.l0] at h
 | k + 1 => by
  have ih0 := spec_l4Skip.mono_l k
  ·intro y0 y1;unfold spec_l4Skip.l0;with_reducible repeat' first | exact ih0 _ _ | apply LeO.refl | apply LeO.none | apply LeO.ite | apply LeO.bind | intro
theorem spec_l4Skip.mono : ∀ a0 a1 k, LeO (spec_l4Skip.f k a0 a1) (spec_l4Skip.f (k + 1) a0 a1) := by
 intro a0 a1 k;have ih0 := spec_l4Skip.mono_l k;unfold spec_l4Skip.f;with_reducible repeat' first | exact ih0 _ _ | apply LeO.refl | apply LeO.none | apply LeO.ite | apply LeO.bind | intro
theorem spec_l4Skip.calls (k : Nat) (a0 : BA) (a1 : Int) (r : Int) (w : World) (h : spec_l4Skip.f k a0 a1 = some r) :
  Calls Tryz.prog 134 #[.string a0, .int .i64 a1] w fun e w' => e = .returned (.int .i64 r) ∧ Drawn0 w w' := by
 have H : (spec_l4Skip.l0 k a0 a1) = some r := h;clear h;have H' := A_ H;clear H;go_enter Tryz.func134, Tryz.ntmps134
 go_wp2
 go_loopg [1] k (fun kq v1 w' => ∃ (x1_1 : Int), v1 = .int .i64 x1_1 ∧ As9 (spec_l4Skip.l0 kq a0 x1_1 = some r) ∧ As9 (kq ≤ k) ∧ Drawn0 w w')
 case atStart => exact ⟨(a1), e2_, H', ⟨Nat.le_refl _⟩, d0_⟩
 case round =>
  clear H';try clear c1
  try clear p2
  obtain ⟨x1_1, rfl, HA, HK1, ⟨m1, rfl⟩⟩ := hrel;cases gk with
  | zero => exact absurd HA.out (by simp [spec_l4Skip.l0])
  | succ k1 =>
   have H := HA.out;clear HA;simp only [spec_l4Skip.l0] at H;rcases ic_ H with ⟨c3, H⟩ | ⟨c3, H⟩
   ·have c3b0 := dE_ c3;clear c3;obtain ⟨c4, H⟩ := ifn_ H;have c4b0 := dE_ c4;clear c4;obtain ⟨t195, A6, H⟩ := ob_ H;(try dsimp only at H)
    by_cases c7 : t195 = true
    ·subst c7;rw [if_pos rfl] at H;have H' := A_ H;clear H;have p5 : 0 ≤ (x1_1 : Int) := dT_;have q5 : x1_1 < (a0.size : Int) := dT_;have hx5 := bt_at a0 x1_1;replace p5 := eq_true p5;replace q5 := eq_true q5;go_wp2_with (first | (go_at_call 124; (with_reducible refine (spec_l4Blank.calls (bt a0 x1_1) true _ A6.out).mono ?_); rintro e w' ⟨rfl, ⟨nd, rfl⟩⟩))
     go_roundg k1
     case measure => have := HK1.out; omega
     case rel => exact ⟨(wrap64 (x1_1 + 1)), e2_, H', ⟨by have := HK1.out; omega⟩, d0_⟩
    ·replace c7 := bF_ c7;subst c7;rw [if_neg nF_] at H;rcases ic_ H with ⟨c9, H⟩ | ⟨c9, H⟩
     ·obtain ⟨c9b0, c9b1⟩ := be_ c9;clear c9;have H' := A_ H;clear H;have p5 : 0 ≤ (x1_1 : Int) := dT_;have q5 : x1_1 < (a0.size : Int) := dT_;have hx5 := bt_at a0 x1_1;replace p5 := eq_true p5;replace q5 := eq_true q5;go_wp2_with (first | (go_at_call 124; (with_reducible refine (spec_l4Blank.calls (bt a0 x1_1) false _ A6.out).mono ?_); rintro e w' ⟨rfl, ⟨nd, rfl⟩⟩; have p8 : 0 ≤ (x1_1 : Int) := dT_; have q8 : x1_1 < (a0.size : Int) := dT_; have hx8 := bt_at a0 x1_1; replace p8 := eq_true p8; replace q8 := eq_true q8))
      go_roundg k1
      case measure => have := HK1.out; omega
      case rel => exact ⟨(wrap64 (x1_1 + 1)), e2_, H', ⟨by have := HK1.out; omega⟩, d0_⟩
     ·obtain ⟨c9b0, c9b1⟩ := bn_ c9;obtain rfl := sI_ H;have p5 : 0 ≤ (x1_1 : Int) := dT_;have q5 : x1_1 < (a0.size : Int) := dT_;have hx5 := bt_at a0 x1_1;replace p5 := eq_true p5;replace q5 := eq_true q5;go_wp2_with (first | (go_at_call 124; (with_reducible refine (spec_l4Blank.calls (bt a0 x1_1) false _ A6.out).mono ?_); rintro e w' ⟨rfl, ⟨nd, rfl⟩⟩; have p8 : 0 ≤ (x1_1 : Int) := dT_; have q8 : x1_1 < (a0.size : Int) := dT_; have hx8 := bt_at a0 x1_1; replace p8 := eq_true p8; replace q8 := eq_true q8))
      go_ret
      exact ⟨e2_, d0_⟩
   ·have c3b0 := dF_ c3;clear c3;obtain rfl := sI_ H;go_wp2
    go_ret
    exact ⟨e2_, d0_⟩
end Go.Proofs.YtkbbfeckieckoaaGreatDoor.A
