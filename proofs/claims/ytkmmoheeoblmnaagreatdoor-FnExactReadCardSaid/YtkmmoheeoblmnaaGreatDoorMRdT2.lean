-- joined by wip/tools/shake.py
import Derived.Test.YtkmmoheeoblmnaaGreatDoorVRdTW9
import Derived.Test.YtkmmoheeoblmnaaGreatDoorMRdT0
import Derived.Test.YtkmmoheeoblmnaaGreatDoorMRdT1
set_option maxHeartbeats 16000000
set_option maxRecDepth 100000
namespace Go.Proofs.YtkmmoheeoblmnaaGreatDoor.A
open Go.RowKit Go.Proofs.YtkmmoheeoblmnaaGreatDoorW.PrintWords Go.Proofs.YtkmmoheeoblmnaaGreatDoorW.PrintLast Go.Proofs.YtkmmoheeoblmnaaGreatDoorW.PrintMore
attribute [local go_sem] max2_int min2_int max_two min_two max_three min_three max_four min_four
set_option linter.unusedVariables false
set_option linter.unusedSimpArgs false
mutual
def spec_XmlRef.j0 : Nat → ByteArray → Int → Bool → Option (ByteArray × Int)
 | 0, _, _, _ => none
 | k + 1, x0, x1, x24 => if x24 = true then (some ((⟨#[]⟩ : BA), (-1))) else (spec_XmlRef.l0 k x0 x1 (([(⟨#[38, 97, 109, 112, 59]⟩ : BA), (⟨#[38, 108, 116, 59]⟩ : BA), (⟨#[38, 103, 116, 59]⟩ : BA), (⟨#[38, 113, 117, 111, 116, 59]⟩ : BA), (⟨#[38, 97, 112, 111, 115, 59]⟩ : BA)] : List ByteArray)) (([(⟨#[38]⟩ : BA), (⟨#[60]⟩ : BA), (⟨#[62]⟩ : BA), (⟨#[34]⟩ : BA), (⟨#[39]⟩ : BA)] : List ByteArray)) 0)
def spec_XmlRef.l0 : Nat → ByteArray → Int → List ByteArray → List ByteArray → Int → Option (ByteArray × Int)
 | 0, _, _, _, _, _ => none
 | k + 1, x0, x1, x6, x7, x8 => if x8 < (x6.length : Int) then (if 0 ≤ x8 then ((spec_l5Stands.f x0 x1 (rdOf ByteArray.empty x6 x8)).bind fun t349 => (if t349 = true then (if x8 < (x7.length : Int) then (some (rdOf ByteArray.empty x7 x8, wrap64 (x1 + ((rdOf ByteArray.empty x6 x8).size : Int)))) else (none)) else (spec_XmlRef.l0 k x0 x1 x6 x7 (wrap64 (x8 + 1))))) else (none)) else ((spec_l5Stands.f x0 x1 (⟨#[38, 35]⟩ : BA)).bind fun t352 => (if t352 = true then ((spec_l18Number.f k x0 x1).bind fun bt353 => (if bt353.2 < 0 then (some ((⟨#[]⟩ : BA), (-1))) else ((spec_PutSign.f k bt353.1).bind fun t355 => (some (t355, wrap64 (bt353.2 + 1)))))) else (some ((⟨#[]⟩ : BA), (-1)))))
end
def spec_XmlRef.f (k : Nat) (a0 : BA) (a1 : Int) : Option (ByteArray × Int) := if a1 < 0 then (spec_XmlRef.j0 k a0 a1 true) else (if a1 ≥ (a0.size : Int) then (spec_XmlRef.j0 k a0 a1 true) else (if 0 ≤ a1 then (if a1 < (a0.size : Int) then (spec_XmlRef.j0 k a0 a1 ((bt a0 a1) != 38)) else (none)) else (none)))
theorem spec_XmlRef.mono_l : ∀ k, (∀ y0 y1 y2, LeO (spec_XmlRef.j0 k y0 y1 y2) (spec_XmlRef.j0 (k + 1) y0 y1 y2)) ∧ (∀ y0 y1 y2 y3 y4, LeO (spec_XmlRef.l0 k y0 y1 y2 y3 y4) (spec_XmlRef.l0 (k + 1) y0 y1 y2 y3 y4))
 | 0 => ⟨fun _ _ _ r h => by simp [spec_XmlRef.j0] at h, fun _ _ _ _ _ r h => by simp [spec_XmlRef.l0] at h⟩
 | k + 1 => by
  obtain ⟨ih0, ih1⟩ := spec_XmlRef.mono_l k;refine ⟨?_, ?_⟩
  ·intro y0 y1 y2;unfold spec_XmlRef.j0;with_reducible repeat' first | exact ih0 _ _ _ | exact ih1 _ _ _ _ _ | exact spec_PutSign.mono _ _ | exact spec_l18Number.mono _ _ _ | apply LeO.refl | apply LeO.none | apply LeO.ite | apply LeO.bind | intro
  ·intro y0 y1 y2 y3 y4;unfold spec_XmlRef.l0;with_reducible repeat' first | exact ih0 _ _ _ | exact ih1 _ _ _ _ _ | exact spec_PutSign.mono _ _ | exact spec_l18Number.mono _ _ _ | apply LeO.refl | apply LeO.none | apply LeO.ite | apply LeO.bind | intro
theorem spec_XmlRef.mono : ∀ a0 a1 k, LeO (spec_XmlRef.f k a0 a1) (spec_XmlRef.f (k + 1) a0 a1) := by
 intro a0 a1 k;obtain ⟨ih0, ih1⟩ := spec_XmlRef.mono_l k;unfold spec_XmlRef.f;with_reducible repeat' first | exact ih0 _ _ _ | exact ih1 _ _ _ _ _ | exact spec_PutSign.mono _ _ | exact spec_l18Number.mono _ _ _ | apply LeO.refl | apply LeO.none | apply LeO.ite | apply LeO.bind | intro
theorem spec_XmlRef.calls (k : Nat) (a0 : BA) (a1 : Int) (r1 : BA) (r2 : Int) (w : World) (h : spec_XmlRef.f k a0 a1 = some (r1, r2)) :
  Calls Tryz.prog 20 #[.string a0, .int .i64 a1] w fun e w' => e = .returned (.tuple #[.string r1, .int .i64 r2]) ∧ Below w.heap.size w w' := by
 have HB := A_ (Below.refl w.heap.size w);have H : (if a1 < 0 then (spec_XmlRef.j0 k a0 a1 true) else (if a1 ≥ (a0.size : Int) then (spec_XmlRef.j0 k a0 a1 true) else (if 0 ≤ a1 then (if a1 < (a0.size : Int) then (spec_XmlRef.j0 k a0 a1 ((bt a0 a1) != 38)) else (none)) else (none)))) = some (r1, r2) := h;clear h;have HC3 := A_ H;clear H;go_enter Tryz.func20, Tryz.ntmps20
 go_upto_region 1 with (fail)
 repeat (go_quiet (fail); go_upto_region 1 with (fail))
 go_cut [24] (fun v24 wc => ∃ (kq : Nat) (x24_2 : Bool), v24 = .bool x24_2 ∧ As9 (spec_XmlRef.j0 kq a0 a1 x24_2 = some (r1, r2)) ∧ As9 (kq ≤ k) ∧ As9 (Below w.heap.size w wc))
 case first =>
  have H := HC3.out;clear HC3;rcases ic_ H with ⟨c4, H⟩ | ⟨c4, H⟩
  ·have c4b0 := dE_ c4;clear c4;(first | rw [c4b0] | (simp only [i64_w, i32_w]; rw [c4b0]) | skip)
   have H' := A_ H;clear H;go_wp2
   repeat (go_quiet (fail); try go_wp2)
   go_meet
   case rel => exact ⟨_, (true), e2_, H', ⟨by first | omega | exact Nat.le_refl _⟩, ⟨hB_⟩⟩
  ·have c4b0 := dF_ c4;clear c4;(first | rw [c4b0] | (simp only [i64_w, i32_w]; rw [c4b0]) | skip)
   rcases ic_ H with ⟨c5, H⟩ | ⟨c5, H⟩
   ·have c5b0 : decide ((a0.size : Int) ≤ a1) = true := dE_ c5;clear c5;have H' := A_ H;clear H;go_wp2
    repeat (go_quiet (fail); try go_wp2)
    go_meet
    case rel => exact ⟨_, (true), e2_, H', ⟨by first | omega | exact Nat.le_refl _⟩, ⟨hB_⟩⟩
   ·have c5b0 : decide ((a0.size : Int) ≤ a1) = false := dF_ c5;clear c5;obtain ⟨c6, H⟩ := ifn_ H;have c6b0 := dE_ c6;clear c6;obtain ⟨c7, H⟩ := ifn_ H;have c7b0 := dE_ c7;clear c7;have H' := A_ H;clear H;have p8 : 0 ≤ (a1 : Int) := dT_;have q8 : a1 < (a0.size : Int) := dT_;have hx8 := bt_at a0 a1;replace p8 := eq_true p8;replace q8 := eq_true q8;go_wp2
    repeat (go_quiet (fail); try go_wp2)
    go_meet
    case rel => exact ⟨_, (((bt a0 a1) != 38)), e2_, H', ⟨by first | omega | exact Nat.le_refl _⟩, ⟨hB_⟩⟩
 case rest =>
  clear HC3;try clear c2
  try clear p2
  try clear c4
  try clear c4b0
  try clear c5
  try clear c5b0
  try clear c6
  try clear c6b0
  try clear c7
  try clear c7b0
  try clear p8
  try clear q8
  try clear hx8
  try clear p8
  try clear q8
  obtain ⟨kq, x24_2, rfl, HA, HJ2, HB⟩ := hcut;cases kq with
  | zero => exact absurd HA.out (by simp [spec_XmlRef.j0])
  | succ kj2 =>
   have H := HA.out;clear HA;simp only [spec_XmlRef.j0] at H;by_cases c9 : x24_2 = true
   ·subst c9;rw [if_pos rfl] at H;obtain ⟨rfl, rfl⟩ := pi_ H;go_wp2
    repeat (go_quiet (fail); try go_wp2)
    go_ret2
    exact ⟨e1_, hB_⟩
   ·replace c9 := bF_ c9;subst c9;rw [if_neg nF_] at H;obtain ⟨y342, hy342⟩ : ∃ y_ : List ByteArray, y_ = (([(⟨#[38, 97, 109, 112, 59]⟩ : BA), (⟨#[38, 108, 116, 59]⟩ : BA), (⟨#[38, 103, 116, 59]⟩ : BA), (⟨#[38, 113, 117, 111, 116, 59]⟩ : BA), (⟨#[38, 97, 112, 111, 115, 59]⟩ : BA)] : List ByteArray)) := ⟨_, rfl⟩;replace H : (spec_XmlRef.l0 kj2 a0 a1 y342 (([(⟨#[38]⟩ : BA), (⟨#[60]⟩ : BA), (⟨#[62]⟩ : BA), (⟨#[34]⟩ : BA), (⟨#[39]⟩ : BA)] : List ByteArray)) 0) = some (r1, r2) := by first | (rw [hy342]; with_reducible exact H) | (have H2_ := (Option.bind_some _ _).symm.trans H; rw [hy342]; with_reducible exact H2_) | (have H2_ := (Option.bind_some _ _).symm.trans H; with_reducible exact H2_) | with_reducible exact H | (rw [hy342]; exact H) | exact H
    have Ny342 := A_ hy342;clear hy342;obtain ⟨y345, hy345⟩ : ∃ y_ : List ByteArray, y_ = (([(⟨#[38]⟩ : BA), (⟨#[60]⟩ : BA), (⟨#[62]⟩ : BA), (⟨#[34]⟩ : BA), (⟨#[39]⟩ : BA)] : List ByteArray)) := ⟨_, rfl⟩;replace H : (spec_XmlRef.l0 kj2 a0 a1 y342 y345 0) = some (r1, r2) := by first | (rw [hy345]; with_reducible exact H) | (have H2_ := (Option.bind_some _ _).symm.trans H; rw [hy345]; with_reducible exact H2_) | (have H2_ := (Option.bind_some _ _).symm.trans H; with_reducible exact H2_) | with_reducible exact H | (rw [hy345]; exact H) | exact H
    have Ny345 := A_ hy345;clear hy345;have H' := A_ H;clear H;go_wp2_with (first | ((with_reducible refine gate_dst (N := 25) rfl ?_); (try (refine gate_guard (by rfl) ?_; dsimp only)); refine rl_ Kd.string 9 25 [(⟨#[38, 97, 109, 112, 59]⟩ : BA), (⟨#[38, 108, 116, 59]⟩ : BA), (⟨#[38, 103, 116, 59]⟩ : BA), (⟨#[38, 113, 117, 111, 116, 59]⟩ : BA), (⟨#[38, 97, 112, 111, 115, 59]⟩ : BA)] [.string (⟨#[38, 97, 109, 112, 59]⟩ : BA), .string (⟨#[38, 108, 116, 59]⟩ : BA), .string (⟨#[38, 103, 116, 59]⟩ : BA), .string (⟨#[38, 113, 117, 111, 116, 59]⟩ : BA), .string (⟨#[38, 97, 112, 111, 115, 59]⟩ : BA)] ?_; intro v343 w10 ho11 hb hg_ hnew_; clear hg_ hnew_; (first | rw [← Ny342.out] at ho11 | (simp only [Int.reduceToNat] at ho11; rw [← Ny342.out] at ho11)); have HO344 := A_ (Kd.R_lower ho11 (below_size hB_)); replace HB := bS_ hb; clear hb ho11) | ((with_reducible refine gate_dst (N := 26) rfl ?_); (try (refine gate_guard (by rfl) ?_; dsimp only)); refine rl_ Kd.string 9 26 [(⟨#[38]⟩ : BA), (⟨#[60]⟩ : BA), (⟨#[62]⟩ : BA), (⟨#[34]⟩ : BA), (⟨#[39]⟩ : BA)] [.string (⟨#[38]⟩ : BA), .string (⟨#[60]⟩ : BA), .string (⟨#[62]⟩ : BA), .string (⟨#[34]⟩ : BA), .string (⟨#[39]⟩ : BA)] ?_; intro v346 w12 ho13 hb hg_ hnew_; clear hg_ hnew_; (first | rw [← Ny345.out] at ho13 | (simp only [Int.reduceToNat] at ho13; rw [← Ny345.out] at ho13)); have HO347 := A_ (Kd.R_lower (Kd.R_new' ho13 (Kd.R_lt (kQ_ HO344.out))) (below_size hB_)); replace HO344 := A_ (Kd.R_elder' (kQ_ HO344.out) (Kd.R_base ho13) hb); replace HB := bS_ hb; clear hb ho13))
    repeat (go_quiet (first | ((with_reducible refine gate_dst (N := 25) rfl ?_); (try (refine gate_guard (by rfl) ?_; dsimp only)); refine rl_ Kd.string 9 25 [(⟨#[38, 97, 109, 112, 59]⟩ : BA), (⟨#[38, 108, 116, 59]⟩ : BA), (⟨#[38, 103, 116, 59]⟩ : BA), (⟨#[38, 113, 117, 111, 116, 59]⟩ : BA), (⟨#[38, 97, 112, 111, 115, 59]⟩ : BA)] [.string (⟨#[38, 97, 109, 112, 59]⟩ : BA), .string (⟨#[38, 108, 116, 59]⟩ : BA), .string (⟨#[38, 103, 116, 59]⟩ : BA), .string (⟨#[38, 113, 117, 111, 116, 59]⟩ : BA), .string (⟨#[38, 97, 112, 111, 115, 59]⟩ : BA)] ?_; intro v343 w10 ho11 hb hg_ hnew_; clear hg_ hnew_; (first | rw [← Ny342.out] at ho11 | (simp only [Int.reduceToNat] at ho11; rw [← Ny342.out] at ho11)); have HO344 := A_ (Kd.R_lower ho11 (below_size hB_)); replace HB := bS_ hb; clear hb ho11) | ((with_reducible refine gate_dst (N := 26) rfl ?_); (try (refine gate_guard (by rfl) ?_; dsimp only)); refine rl_ Kd.string 9 26 [(⟨#[38]⟩ : BA), (⟨#[60]⟩ : BA), (⟨#[62]⟩ : BA), (⟨#[34]⟩ : BA), (⟨#[39]⟩ : BA)] [.string (⟨#[38]⟩ : BA), .string (⟨#[60]⟩ : BA), .string (⟨#[62]⟩ : BA), .string (⟨#[34]⟩ : BA), .string (⟨#[39]⟩ : BA)] ?_; intro v346 w12 ho13 hb hg_ hnew_; clear hg_ hnew_; (first | rw [← Ny345.out] at ho13 | (simp only [Int.reduceToNat] at ho13; rw [← Ny345.out] at ho13)); have HO347 := A_ (Kd.R_lower (Kd.R_new' ho13 (Kd.R_lt (kQ_ HO344.out))) (below_size hB_)); replace HO344 := A_ (Kd.R_elder' (kQ_ HO344.out) (Kd.R_base ho13) hb); replace HB := bS_ hb; clear hb ho13)); try go_wp2_with (first | ((with_reducible refine gate_dst (N := 25) rfl ?_); (try (refine gate_guard (by rfl) ?_; dsimp only)); refine rl_ Kd.string 9 25 [(⟨#[38, 97, 109, 112, 59]⟩ : BA), (⟨#[38, 108, 116, 59]⟩ : BA), (⟨#[38, 103, 116, 59]⟩ : BA), (⟨#[38, 113, 117, 111, 116, 59]⟩ : BA), (⟨#[38, 97, 112, 111, 115, 59]⟩ : BA)] [.string (⟨#[38, 97, 109, 112, 59]⟩ : BA), .string (⟨#[38, 108, 116, 59]⟩ : BA), .string (⟨#[38, 103, 116, 59]⟩ : BA), .string (⟨#[38, 113, 117, 111, 116, 59]⟩ : BA), .string (⟨#[38, 97, 112, 111, 115, 59]⟩ : BA)] ?_; intro v343 w10 ho11 hb hg_ hnew_; clear hg_ hnew_; (first | rw [← Ny342.out] at ho11 | (simp only [Int.reduceToNat] at ho11; rw [← Ny342.out] at ho11)); have HO344 := A_ (Kd.R_lower ho11 (below_size hB_)); replace HB := bS_ hb; clear hb ho11) | ((with_reducible refine gate_dst (N := 26) rfl ?_); (try (refine gate_guard (by rfl) ?_; dsimp only)); refine rl_ Kd.string 9 26 [(⟨#[38]⟩ : BA), (⟨#[60]⟩ : BA), (⟨#[62]⟩ : BA), (⟨#[34]⟩ : BA), (⟨#[39]⟩ : BA)] [.string (⟨#[38]⟩ : BA), .string (⟨#[60]⟩ : BA), .string (⟨#[62]⟩ : BA), .string (⟨#[34]⟩ : BA), .string (⟨#[39]⟩ : BA)] ?_; intro v346 w12 ho13 hb hg_ hnew_; clear hg_ hnew_; (first | rw [← Ny345.out] at ho13 | (simp only [Int.reduceToNat] at ho13; rw [← Ny345.out] at ho13)); have HO347 := A_ (Kd.R_lower (Kd.R_new' ho13 (Kd.R_lt (kQ_ HO344.out))) (below_size hB_)); replace HO344 := A_ (Kd.R_elder' (kQ_ HO344.out) (Kd.R_base ho13) hb); replace HB := bS_ hb; clear hb ho13)))
    go_loopg [8] kj2 (fun kq v8 w' => ∃ (x8_2 : Int), v8 = .int .i64 x8_2 ∧ As9 (spec_XmlRef.l0 kq a0 a1 y342 y345 x8_2 = some (r1, r2)) ∧ As9 (kq ≤ kj2) ∧ As9 (Kd.R Kd.string 9 w' w.heap.size (fun k_ => some k_ ≠ (v346 : Value).ownBlock) v343 y342) ∧ As9 (Kd.R Kd.string 9 w' w.heap.size (fun k_ => some k_ ≠ (v343 : Value).ownBlock) v346 y345) ∧ As9 (Below w.heap.size w w'))
    case atStart => exact ⟨(0), e2_, H', ⟨Nat.le_refl _⟩, ⟨by (with_reducible repeat (first | apply Kd.R_alloc | apply Kd.R_drewN | apply Kd.R_drew)); exact Kd.R_mono HO344.out (fun _ hk => hk.2)⟩, ⟨by (with_reducible repeat (first | apply Kd.R_alloc | apply Kd.R_drewN | apply Kd.R_drew)); exact Kd.R_mono HO347.out (fun _ hk => hk.2)⟩, ⟨hB_⟩⟩
    case round =>
     clear H';try clear c2
     try clear p2
     try clear c4
     try clear c4b0
     try clear c5
     try clear c5b0
     try clear c6
     try clear c6b0
     try clear c7
     try clear c7b0
     try clear p8
     try clear q8
     try clear hx8
     try clear c9
     try clear p2
     try clear p8
     try clear q8
     obtain ⟨x8_2, rfl, HA, HK2, HO_6, HO_7, HB⟩ := hrel;cases gk with
     | zero => exact absurd HA.out (by simp [spec_XmlRef.l0])
     | succ k2 =>
      have H := HA.out;clear HA;simp only [spec_XmlRef.l0] at H;rcases ic_ H with ⟨c14, H⟩ | ⟨c14, H⟩
      ·have c14b0 := dE_ c14;clear c14;obtain ⟨c15, H⟩ := ifn_ H;have c15b0 := dE_ c15;clear c15;obtain ⟨t349, A16, H⟩ := ob_ H;(try dsimp only at H)
       by_cases c17 : t349 = true
       ·subst c17;rw [if_pos rfl] at H;obtain ⟨c18, H⟩ := ifn_ H;have c18b0 := dE_ c18;clear c18;obtain ⟨rfl, rfl⟩ := pi_ H;obtain ⟨Ao19, co19, eo19⟩ := Kd.R_slice HO_6.out;subst eo19;have p348 : 0 ≤ (x8_2 : Int) := dT_;have q348 : x8_2 < (y342.length : Int) := dT_;obtain ⟨ad348, e348, hx348_0⟩ := Kd.at_string (Kd.R_reads' HO_6.out).2.2 x8_2 p348 q348;cases e348;replace p348 := eq_true p348;replace q348 := eq_true q348;go_wp2_with (first | (go_at_call 69; (with_reducible refine (spec_l5Stands.calls a0 a1 (rdOf ByteArray.empty y342 x8_2) true _ A16.out).mono ?_); rintro e w' ⟨rfl, ⟨nd, rfl⟩⟩; (try exact dd_); obtain ⟨Ao20, co20, eo20⟩ := Kd.R_slice HO_7.out; subst eo20; have p350 : 0 ≤ (x8_2 : Int) := dT_; have q350 : x8_2 < (y345.length : Int) := dT_; obtain ⟨ad350, e350, hx350_0⟩ := Kd.at_string (Kd.R_reads' HO_7.out).2.2 x8_2 p350 q350; cases e350; replace p350 := eq_true p350; replace q350 := eq_true q350; have p351 : 0 ≤ (x8_2 : Int) := dT_; have q351 : x8_2 < (y342.length : Int) := dT_; obtain ⟨ad351, e351, hx351_0⟩ := Kd.at_string (Kd.R_reads' HO_6.out).2.2 x8_2 p351 q351; obtain rfl : ad348 = ad351 := (by injection e351); replace p351 := eq_true p351; replace q351 := eq_true q351))
        repeat (go_quiet (first | (go_at_call 69; (with_reducible refine (spec_l5Stands.calls a0 a1 (rdOf ByteArray.empty y342 x8_2) true _ A16.out).mono ?_); rintro e w' ⟨rfl, ⟨nd, rfl⟩⟩; (try exact dd_); obtain ⟨Ao20, co20, eo20⟩ := Kd.R_slice HO_7.out; subst eo20; have p350 : 0 ≤ (x8_2 : Int) := dT_; have q350 : x8_2 < (y345.length : Int) := dT_; obtain ⟨ad350, e350, hx350_0⟩ := Kd.at_string (Kd.R_reads' HO_7.out).2.2 x8_2 p350 q350; cases e350; replace p350 := eq_true p350; replace q350 := eq_true q350; have p351 : 0 ≤ (x8_2 : Int) := dT_; have q351 : x8_2 < (y342.length : Int) := dT_; obtain ⟨ad351, e351, hx351_0⟩ := Kd.at_string (Kd.R_reads' HO_6.out).2.2 x8_2 p351 q351; obtain rfl : ad348 = ad351 := (by injection e351); replace p351 := eq_true p351; replace q351 := eq_true q351)); try go_wp2_with (first | (go_at_call 69; (with_reducible refine (spec_l5Stands.calls a0 a1 (rdOf ByteArray.empty y342 x8_2) true _ A16.out).mono ?_); rintro e w' ⟨rfl, ⟨nd, rfl⟩⟩; (try exact dd_); obtain ⟨Ao20, co20, eo20⟩ := Kd.R_slice HO_7.out; subst eo20; have p350 : 0 ≤ (x8_2 : Int) := dT_; have q350 : x8_2 < (y345.length : Int) := dT_; obtain ⟨ad350, e350, hx350_0⟩ := Kd.at_string (Kd.R_reads' HO_7.out).2.2 x8_2 p350 q350; cases e350; replace p350 := eq_true p350; replace q350 := eq_true q350; have p351 : 0 ≤ (x8_2 : Int) := dT_; have q351 : x8_2 < (y342.length : Int) := dT_; obtain ⟨ad351, e351, hx351_0⟩ := Kd.at_string (Kd.R_reads' HO_6.out).2.2 x8_2 p351 q351; obtain rfl : ad348 = ad351 := (by injection e351); replace p351 := eq_true p351; replace q351 := eq_true q351)))
        go_ret2
        exact ⟨e1_, hB_⟩
       ·replace c17 := bF_ c17;subst c17;rw [if_neg nF_] at H;have H' := A_ H;clear H;obtain ⟨Ao21, co21, eo21⟩ := Kd.R_slice HO_6.out;subst eo21;have p348 : 0 ≤ (x8_2 : Int) := dT_;have q348 : x8_2 < (y342.length : Int) := dT_;obtain ⟨ad348, e348, hx348_0⟩ := Kd.at_string (Kd.R_reads' HO_6.out).2.2 x8_2 p348 q348;cases e348;replace p348 := eq_true p348;replace q348 := eq_true q348;go_wp2_with (first | (go_at_call 69; (with_reducible refine (spec_l5Stands.calls a0 a1 (rdOf ByteArray.empty y342 x8_2) false _ A16.out).mono ?_); rintro e w' ⟨rfl, ⟨nd, rfl⟩⟩; (try exact dd_)))
        repeat (go_quiet (first | (go_at_call 69; (with_reducible refine (spec_l5Stands.calls a0 a1 (rdOf ByteArray.empty y342 x8_2) false _ A16.out).mono ?_); rintro e w' ⟨rfl, ⟨nd, rfl⟩⟩; (try exact dd_))); try go_wp2_with (first | (go_at_call 69; (with_reducible refine (spec_l5Stands.calls a0 a1 (rdOf ByteArray.empty y342 x8_2) false _ A16.out).mono ?_); rintro e w' ⟨rfl, ⟨nd, rfl⟩⟩; (try exact dd_))))
        go_roundg k2
        case measure => have := HJ2.out; have := HK2.out; omega
        case rel => exact ⟨(wrap64 (x8_2 + 1)), e2_, H', ⟨by have := HJ2.out; have := HK2.out; omega⟩, ⟨kQ_ HO_6.out⟩, ⟨kQ_ HO_7.out⟩, ⟨hB_⟩⟩
      ·have c14b0 := dF_ c14;clear c14;obtain ⟨t352, A22, H⟩ := ob_ H;(try dsimp only at H)
       by_cases c23 : t352 = true
       ·subst c23;rw [if_pos rfl] at H;obtain ⟨⟨t353, t354⟩, A24, H⟩ := ob_ H;(try dsimp only at H)
        rcases ic_ H with ⟨c25, H⟩ | ⟨c25, H⟩
        ·have c25b0 := dE_ c25;clear c25;obtain ⟨rfl, rfl⟩ := pi_ H;obtain ⟨Ao26, co26, eo26⟩ := Kd.R_slice HO_6.out;subst eo26;go_wp2_with (first | (go_at_call 69; (with_reducible refine (spec_l5Stands.calls a0 a1 (⟨#[38, 35]⟩ : BA) true _ A22.out).mono ?_); rintro e w' ⟨rfl, ⟨nd, rfl⟩⟩; (try exact dd_)) | (go_at_call 70; (with_reducible refine (spec_l18Number.calls k2 a0 a1 t353 t354 _ A24.out).mono ?_); rintro e w' ⟨rfl, ⟨nd, rfl⟩⟩; (try exact dd_)))
         repeat (go_quiet (first | (go_at_call 69; (with_reducible refine (spec_l5Stands.calls a0 a1 (⟨#[38, 35]⟩ : BA) true _ A22.out).mono ?_); rintro e w' ⟨rfl, ⟨nd, rfl⟩⟩; (try exact dd_)) | (go_at_call 70; (with_reducible refine (spec_l18Number.calls k2 a0 a1 t353 t354 _ A24.out).mono ?_); rintro e w' ⟨rfl, ⟨nd, rfl⟩⟩; (try exact dd_))); try go_wp2_with (first | (go_at_call 69; (with_reducible refine (spec_l5Stands.calls a0 a1 (⟨#[38, 35]⟩ : BA) true _ A22.out).mono ?_); rintro e w' ⟨rfl, ⟨nd, rfl⟩⟩; (try exact dd_)) | (go_at_call 70; (with_reducible refine (spec_l18Number.calls k2 a0 a1 t353 t354 _ A24.out).mono ?_); rintro e w' ⟨rfl, ⟨nd, rfl⟩⟩; (try exact dd_))))
         go_ret2
         exact ⟨e1_, hB_⟩
        ·have c25b0 := dF_ c25;clear c25;obtain ⟨t355, A27, H⟩ := ob_ H;(try dsimp only at H)
         obtain ⟨rfl, rfl⟩ := pi_ H;obtain ⟨Ao28, co28, eo28⟩ := Kd.R_slice HO_6.out;subst eo28;go_wp2_with (first | (go_at_call 69; (with_reducible refine (spec_l5Stands.calls a0 a1 (⟨#[38, 35]⟩ : BA) true _ A22.out).mono ?_); rintro e w' ⟨rfl, ⟨nd, rfl⟩⟩; (try exact dd_)) | (go_at_call 70; (with_reducible refine (spec_l18Number.calls k2 a0 a1 t353 t354 _ A24.out).mono ?_); rintro e w' ⟨rfl, ⟨nd, rfl⟩⟩; (try exact dd_)) | (go_at_call 61; (with_reducible refine (spec_PutSign.calls k2 t353 t355 _ A27.out).mono ?_); rintro e w29 ⟨rfl, hb⟩; replace HO_6 := A_ (Kd.R_below (kQ_ HO_6.out) hb); replace HO_7 := A_ (Kd.R_below (kQ_ HO_7.out) hb); replace HB := bS_ hb; clear hb))
         repeat (go_quiet (first | (go_at_call 69; (with_reducible refine (spec_l5Stands.calls a0 a1 (⟨#[38, 35]⟩ : BA) true _ A22.out).mono ?_); rintro e w' ⟨rfl, ⟨nd, rfl⟩⟩; (try exact dd_)) | (go_at_call 70; (with_reducible refine (spec_l18Number.calls k2 a0 a1 t353 t354 _ A24.out).mono ?_); rintro e w' ⟨rfl, ⟨nd, rfl⟩⟩; (try exact dd_)) | (go_at_call 61; (with_reducible refine (spec_PutSign.calls k2 t353 t355 _ A27.out).mono ?_); rintro e w29 ⟨rfl, hb⟩; replace HO_6 := A_ (Kd.R_below (kQ_ HO_6.out) hb); replace HO_7 := A_ (Kd.R_below (kQ_ HO_7.out) hb); replace HB := bS_ hb; clear hb)); try go_wp2_with (first | (go_at_call 69; (with_reducible refine (spec_l5Stands.calls a0 a1 (⟨#[38, 35]⟩ : BA) true _ A22.out).mono ?_); rintro e w' ⟨rfl, ⟨nd, rfl⟩⟩; (try exact dd_)) | (go_at_call 70; (with_reducible refine (spec_l18Number.calls k2 a0 a1 t353 t354 _ A24.out).mono ?_); rintro e w' ⟨rfl, ⟨nd, rfl⟩⟩; (try exact dd_)) | (go_at_call 61; (with_reducible refine (spec_PutSign.calls k2 t353 t355 _ A27.out).mono ?_); rintro e w29 ⟨rfl, hb⟩; replace HO_6 := A_ (Kd.R_below (kQ_ HO_6.out) hb); replace HO_7 := A_ (Kd.R_below (kQ_ HO_7.out) hb); replace HB := bS_ hb; clear hb)))
         go_ret2
         exact ⟨e1_, hB_⟩
       ·replace c23 := bF_ c23;subst c23;rw [if_neg nF_] at H;obtain ⟨rfl, rfl⟩ := pi_ H;obtain ⟨Ao30, co30, eo30⟩ := Kd.R_slice HO_6.out;subst eo30;go_wp2_with (first | (go_at_call 69; (with_reducible refine (spec_l5Stands.calls a0 a1 (⟨#[38, 35]⟩ : BA) false _ A22.out).mono ?_); rintro e w' ⟨rfl, ⟨nd, rfl⟩⟩; (try exact dd_)))
        repeat (go_quiet (first | (go_at_call 69; (with_reducible refine (spec_l5Stands.calls a0 a1 (⟨#[38, 35]⟩ : BA) false _ A22.out).mono ?_); rintro e w' ⟨rfl, ⟨nd, rfl⟩⟩; (try exact dd_))); try go_wp2_with (first | (go_at_call 69; (with_reducible refine (spec_l5Stands.calls a0 a1 (⟨#[38, 35]⟩ : BA) false _ A22.out).mono ?_); rintro e w' ⟨rfl, ⟨nd, rfl⟩⟩; (try exact dd_))))
        go_ret2
        exact ⟨e1_, hB_⟩
def xsGo (rec_ : Int → List Int → Option (ByteArray × Int)) (s : BA) (i c2 : Int) (out : List Int) : Option (ByteArray × Int) :=
 if out.length + (s.extract i.toNat (wrap64 (i + c2)).toNat).size ≤ 140737488355327 then rec_ (wrap64 (i + c2)) (out ++ bytesOf (s.extract i.toNat (wrap64 (i + c2)).toNat)) else none
def xsSign (n : Nat) (rec_ : Int → List Int → Option (ByteArray × Int)) (s en : BA) (i c1 c2 : Int) (out : List Int) : Option (ByteArray × Int) :=
 (spec_IsText.f c1).bind fun b => if b = true then
  (if c1 = 13 then some (⟨#[]⟩, -1) else if c1 = 60 then some (⟨#[]⟩, -1)
   else (spec_PutSign.f n c1).bind fun p =>
    if i ≤ wrap64 (i + c2) ∧ wrap64 (i + c2) ≤ (s.size : Int) then
     (if p.toList = (s.extract i.toNat (wrap64 (i + c2)).toNat).toList then
      (spec_l5Stands.f s i ⟨#[93, 93, 62]⟩).bind fun h => if h = true then (spec_l4Find.f n en 0 62).bind fun z => (if z < 0 then some (⟨#[]⟩, -1) else xsGo rec_ s i c2 out) else xsGo rec_ s i c2 out
     else some (⟨#[]⟩, -1))
    else none)
  else some (⟨#[]⟩, -1)
def xsL : Nat → ByteArray → ByteArray → Int → List Int → Option (ByteArray × Int)
 | 0, _, _, _, _ => none
 | n + 1, s, en, i, out =>
  if 0 ≤ i then
   (if i < (s.size : Int) then (spec_l4Find.f n en 0 (bt s i)).bind fun q => if q < 0 then
     (if bt s i = 38 then (spec_XmlRef.f n s i).bind fun tn => if tn.2 < 0 then some (⟨#[]⟩, -1) else if out.length + tn.1.size ≤ 140737488355327 then xsL n s en tn.2 (out ++ bytesOf tn.1) else none
      else (spec_GetSign.f n s i).bind fun c => xsSign n (xsL n s en) s en i c.1 c.2 out)
    else some (strOfNums out, i)
   else some (strOfNums out, i))
  else none
theorem xsGo_mono {f g : Int → List Int → Option (ByteArray × Int)} (h : ∀ i o, LeO (f i o) (g i o)) (s : BA) (i c2 : Int) (out : List Int) : LeO (xsGo f s i c2 out) (xsGo g s i c2 out) := by
 unfold xsGo; exact LeO.ite (h _ _) (LeO.refl _)
theorem xsSign_mono {f g : Int → List Int → Option (ByteArray × Int)} (n : Nat) (h : ∀ i o, LeO (f i o) (g i o)) (s en : BA) (i c1 c2 : Int) (out : List Int) : LeO (xsSign n f s en i c1 c2 out) (xsSign (n + 1) g s en i c1 c2 out) := by
 unfold xsSign;exact LeO.bind (LeO.refl _) (fun b => LeO.ite (LeO.ite (LeO.refl _) (LeO.ite (LeO.refl _) (LeO.bind (spec_PutSign.mono _ _) (fun p => LeO.ite (LeO.ite (LeO.bind (LeO.refl _) (fun h' => LeO.ite (LeO.bind (spec_l4Find.mono _ _ _ _) (fun z => LeO.ite (LeO.refl _) (xsGo_mono h _ _ _ _))) (xsGo_mono h _ _ _ _))) (LeO.refl _)) (LeO.refl _))))) (LeO.refl _))
theorem xsL_mono : ∀ k y0 y1 y2 y3, LeO (xsL k y0 y1 y2 y3) (xsL (k + 1) y0 y1 y2 y3)
 | 0 => fun _ _ _ _ r h => by simp [xsL] at h
 | k + 1 => by
  have ih := xsL_mono k;intro y0 y1 y2 y3;rw [xsL, xsL];exact LeO.ite (LeO.ite (LeO.bind (spec_l4Find.mono _ _ _ _) (fun q => LeO.ite (LeO.ite (LeO.bind (spec_XmlRef.mono _ _ _) (fun tn => LeO.ite (LeO.refl _) (LeO.ite (ih _ _ _ _) (LeO.refl _)))) (LeO.bind (spec_GetSign.mono _ _ _) (fun c => xsSign_mono k (fun i o => ih _ _ i o) _ _ _ _ _ _))) (LeO.refl _))) (LeO.refl _)) (LeO.refl _)
def spec_XmlText.f (k : Nat) (a0 : BA) (a1 : Int) (a2 : BA) : Option (ByteArray × Int) :=
 if a1 < 0 then some (⟨#[]⟩, -1) else if a1 > (a0.size : Int) then some (⟨#[]⟩, -1) else xsL k a0 a2 a1 []
theorem spec_XmlText.mono : ∀ a0 a1 a2 k, LeO (spec_XmlText.f k a0 a1 a2) (spec_XmlText.f (k + 1) a0 a1 a2) := by
 intro a0 a1 a2 k;unfold spec_XmlText.f;exact LeO.ite (LeO.refl _) (LeO.ite (LeO.refl _) (xsL_mono k _ _ _ _))
theorem spec_XmlText.calls (k : Nat) (a0 : BA) (a1 : Int) (a2 : BA) (r1 : BA) (r2 : Int) (w : World) (h : spec_XmlText.f k a0 a1 a2 = some (r1, r2)) :
  Calls Tryz.prog 23 #[.string a0, .int .i64 a1, .string a2] w fun e w' => e = .returned (.tuple #[.string r1, .int .i64 r2]) ∧ Below w.heap.size w w' := by
 unfold spec_XmlText.f at h;have HB := A_ (Below.refl w.heap.size w);by_cases c0 : a1 < 0
 ·rw [if_pos c0] at h;obtain ⟨rfl, rfl⟩ := Prod.mk.inj (sI_ h);have b0 : decide (a1 < 0) = true := dE_ c0;clear h c0;go_enter Tryz.func23, Tryz.ntmps23
  go_wp2
  go_ret2
  exact ⟨rfl, hB_⟩
 rw [if_neg c0] at h;have b0 : decide (a1 < 0) = false := dF_ c0;clear c0;by_cases c1 : a1 > (a0.size : Int)
 ·rw [if_pos c1] at h;obtain ⟨rfl, rfl⟩ := Prod.mk.inj (sI_ h);have b1 : decide ((a0.size : Int) < a1) = true := dE_ c1;clear h c1;go_enter Tryz.func23, Tryz.ntmps23
  go_wp2
  go_ret2
  exact ⟨rfl, hB_⟩
 rw [if_neg c1] at h;have b1 : decide ((a0.size : Int) < a1) = false := dF_ c1;clear c1;have HH := A_ h;clear h HB;go_enter Tryz.func23, Tryz.ntmps23
 go_wp2_with ((with_reducible refine gate_dst (N := 22) rfl ?_); refine rl_ (Kd.int .u8) 5 22 [] [] ?_; intro v22 w2 ho hb hg_ hnew_; clear hg_ hnew_; have HO := A_ ho; have HB := A_ hb; clear ho hb)
 go_loopg [8, 9] k (fun kq v8 v9 wr => ∃ (out : List Int) (i : Int), v9 = .int .i64 i ∧ As9 (xsL kq a0 a2 i out = some (r1, r2)) ∧ As9 (Kd.R (Kd.int .u8) 5 wr w.heap.size (fun _ => True) v8 out) ∧ As9 (Below w.heap.size w wr))
 case atStart => exact ⟨[], a1, rfl, HH, HO, HB⟩
 case round =>
  clear HH HO HB;obtain ⟨out, i, rfl, HA, HO, HB⟩ := hrel;cases gk with
  | zero => exact absurd HA.out (by simp [xsL])
  | succ n =>
  have h := HA.out;clear HA;rw [xsL] at h;split at h
  case isFalse => cases h
  case isTrue hi0 =>
  have p1 := eq_true hi0;by_cases hlt : i < (a0.size : Int)
  case neg =>
   rw [if_neg hlt] at h;obtain ⟨rfl, rfl⟩ := Prod.mk.inj (sI_ h);have q1 : decide (i < (a0.size : Int)) = false := dF_ hlt;clear h hi0 hlt;obtain ⟨A5, c5, rfl⟩ := Kd.R_slice HO.out;have hback := Kd.C_string (P := Tryz.prog) (src := 22) (dst := 9) (c := c5) Tryz.underlying22 Tryz.underlying5 Tryz.underlying9 (Kd.R_reads' HO.out).2.2;go_wp2
   go_ret2
   exact ⟨rfl, HB.out⟩
  case pos =>
  rw [if_pos hlt] at h;have q1 : decide (i < (a0.size : Int)) = true := dE_ hlt;have q2 := eq_true hlt;obtain ⟨q, hQ, h⟩ := oB_ h;have HQ := A_ hQ;have hx := bt_at a0 i;clear hQ;by_cases hq : q < 0
  case neg =>
   rw [if_neg hq] at h;obtain ⟨rfl, rfl⟩ := Prod.mk.inj (sI_ h);have q3 : decide (q < 0) = false := dF_ hq;clear h hi0 hlt hq;obtain ⟨A5, c5, rfl⟩ := Kd.R_slice HO.out;go_wp2_with (first | (go_at_call 74; (with_reducible refine (spec_l4Find.calls n a2 0 (bt a0 i) q _ HQ.out).mono ?_); rintro r w4 ⟨rfl, hd⟩; have HB4 := A_ (below_step HB.out hd.below); have HO4 := A_ (Kd.R_below HO.out hd.below); clear hd; have hback := Kd.C_string (P := Tryz.prog) (src := 22) (dst := 9) (c := c5) Tryz.underlying22 Tryz.underlying5 Tryz.underlying9 (Kd.R_reads' HO4.out).2.2))
   go_ret2
   exact ⟨rfl, HB4.out⟩
  case pos =>
  rw [if_pos hq] at h;have q3 : decide (q < 0) = true := dE_ hq;clear hq hi0 hlt;by_cases h38 : bt a0 i = 38
  case pos =>
   rw [if_pos h38] at h;have q4 : (bt a0 i == 38) = true := bQ_ h38;obtain ⟨⟨t1, t2⟩, hR, h⟩ := oB_ h;have HR := A_ hR;clear hR h38;simp only at h;by_cases hn : t2 < 0
   case pos =>
    rw [if_pos hn] at h;have q5 : decide (t2 < 0) = true := dE_ hn;clear hn;obtain ⟨rfl, rfl⟩ := Prod.mk.inj (sI_ h);repeat clear h
    go_wp2_with (first | (go_at_call 74; (with_reducible refine (spec_l4Find.calls n a2 0 (bt a0 i) q _ HQ.out).mono ?_); rintro r w4 ⟨rfl, hd⟩; have HB4 := A_ (below_step HB.out hd.below); have HO4 := A_ (Kd.R_below HO.out hd.below); clear hd) | (go_at_call 20; (with_reducible refine (spec_XmlRef.calls n a0 i t1 t2 _ HR.out).mono ?_); rintro r w5 ⟨rfl, hb⟩; have HB5 := A_ (below_step HB4.out hb); have HO5 := A_ (Kd.R_below HO4.out hb); clear hb))
    go_ret2
    exact ⟨rfl, HB5.out⟩
   case neg =>
    rw [if_neg hn] at h;have q5 : decide (t2 < 0) = false := dF_ hn;clear hn;split at h
    case isFalse => cases h
    case isTrue hl =>
    have HL := A_ hl;have HGN := A_ h;clear hl;repeat clear h
    go_wp2_with (first | ((with_reducible refine gate_builtin (b := .append) (xs := #[.tmp 48, .tmp 50]) rfl ?_); at_builtin; refine Kd.R_append_rows (Kd.int .u8) (w0 := w) w.heap.size rfl (.tmp 48) (.tmp 50) 22 5 (.int .u8 0) 1 rfl Tryz.underlying22 info5 rfl de_ om_ _ out (bytesOf t1) _ _ _ (fun _ => True) (fun _ => False) rfl rfl ?aO ?aR (fun _ _ h => h) (fun _ h => h.elim) ?aF ?aB ?aS ?aL ?_; (case aO => exact HOc.out); (case aR => exact HC5.out); (case aF => exact fun _ _ => trivial); (case aB => exact HBc.out); (case aS => exact below_size HBc.out); (case aL => have := HL.out; omega); intro v6 w6 ho hb hg hat; have HOz := A_ ho; have HBz := A_ hb; clear ho hb hg hat) | (go_at_call 74; (with_reducible refine (spec_l4Find.calls n a2 0 (bt a0 i) q _ HQ.out).mono ?_); rintro r w4 ⟨rfl, hd⟩; have HB4 := A_ (below_step HB.out hd.below); have HO4 := A_ (Kd.R_below HO.out hd.below); clear hd) | (go_at_call 20; (with_reducible refine (spec_XmlRef.calls n a0 i t1 t2 _ HR.out).mono ?_); rintro r w5 ⟨rfl, hb⟩; have HB5 := A_ (below_step HB4.out hb); have HO5 := A_ (Kd.R_below HO4.out hb); clear hb; have hcv := print_bytes (P := Tryz.prog) 9 22 5 Tryz.underlying9 Tryz.underlying22 Tryz.underlying5 t1 w5; have HC5 := A_ (txt_C (TxtRow.new w5 t1 (by have := HL.out; omega))); have hb5 := (bytes_below (Below.refl w5.heap.size w5) (Nat.le_refl _) 5 t1); have HOc := A_ (Kd.R_below HO5.out hb5); have HBc := A_ (below_step HB5.out hb5); clear hb5 HO5; rw [bytesOf_length] at HC5; generalize Lib.bytesWorld w5 5 t1 = w9 at hcv HC5 HOc HBc; generalize grownCap w5 t1.size 0 5 = cp at hcv))
    go_roundg n
    case measure => omega
    case rel => exact ⟨_, t2, rfl, HGN, HOz, HBz⟩
  case neg =>
  rw [if_neg h38] at h;have q4 : (bt a0 i == 38) = false := bN_ h38;clear h38;obtain ⟨⟨c1, c2⟩, hC, h⟩ := oB_ h;have HGS := A_ hC;clear hC;simp only at h;unfold xsSign at h;obtain ⟨b, hT, h⟩ := oB_ h;have HT := A_ hT;clear hT;cases b with
  | false =>
   rw [if_neg si_] at h;obtain ⟨rfl, rfl⟩ := Prod.mk.inj (sI_ h);repeat clear h
   go_wp2_with (first | (go_at_call 74; (with_reducible refine (spec_l4Find.calls n a2 0 (bt a0 i) q _ HQ.out).mono ?_); rintro r w4 ⟨rfl, hd⟩; have HB4 := A_ (below_step HB.out hd.below); have HO4 := A_ (Kd.R_below HO.out hd.below); clear hd) | (go_at_call 58; (with_reducible refine (spec_GetSign.calls n a0 i c1 c2 _ HGS.out).mono ?_); rintro r w5 ⟨rfl, hd⟩; have HB5 := A_ (below_step HB4.out hd.below); have HO5 := A_ (Kd.R_below HO4.out hd.below); clear hd))
   have HB6 : As9 (Below w.heap.size w w5.drew) := ⟨bD9 HB5.out⟩;have HO6 : As9 (Kd.R (Kd.int .u8) 5 w5.drew w.heap.size (fun _ => True) _ out) := ⟨by (with_reducible apply Kd.R_drew); exact HO5.out⟩;clear HB5 HO5;refine start_ (n := 32) (S := fun w' => True) (ds := [31]) (tS 32 0) (by kernel_rfl) rfl rfl trivial (fun hHeld => ?_);generalize World.drew _ = wq0 at HB6 HO6 hHeld ⊢;refine pq_ ?_;refine n1_ 1 (tS 32 2) rfl fun K hK => ?_
   refine gS_ Tryz.func75 #[.int .i64 c1] ?_;with_reducible refine (spec_IsText.calls c1 false _ HT.out).mono ?_
   rintro e wq1 ⟨rfl, hd⟩;refine ⟨_, rfl, ?_⟩;have HB7 := A_ (below_step HB6.out hd.below);have HO7 := A_ (Kd.R_below HO6.out hd.below);clear hd HB6 HO6;refine hK.out _ _ trivial (fun hHeld => ?_);clear hK K;refine nm_ ?_;refine pq_ ?_;refine pq_ ?_;refine oq_ ?_;refine oq_ ?_;refine pq_ ?_;refine pq_ ?_;refine oq_ ?_;refine oq_ ?_;refine pq_ ?_;refine pq_ ?_;refine oq_ ?_;refine og_ 14 (tB 32 24575) ?_;refine og_ 15 (tB 32 57343) ?_;refine og_ 16 (tB 32 122879) ?_;refine og_ 17 (tB 32 253951) ?_;refine og_ 18 (tB 32 516095) ?_;refine og_ 19 (tB 32 1040383) ?_;refine n1_ 13 (tS 32 20) rfl fun K hK => ?_
   show K (Act.put _ (some 72) undef) _;refine hK.out _ _ trivial (fun hHeld => ?_);clear hK K;refine nm_ ?_;refine oq_ ?_;refine pq_ ?_;refine pq_ ?_;refine oq_ ?_;refine oq_ ?_;refine n1_ 25 (tS 32 26) rfl fun K hK => ?_
   show K (Act.put _ (some 84) undef) _;refine hK.out _ _ trivial (fun hHeld => ?_);clear hK K;refine nm_ ?_;refine oq_ ?_;refine oq_ ?_;refine n1_ 28 (tS 32 29) rfl fun K hK => ?_
   show K (Act.put _ (some 87) undef) _;refine hK.out _ _ trivial (fun hHeld => ?_);clear hK K;refine nm_ ?_;refine oq_ ?_;refine oq_ ?_;refine pq_ ?_;refine done_ (by kernel_rfl) ?_;go_wp2
   go_ret2
   exact ⟨rfl, by repeat (first | (with_reducible first | exact HB7.out | apply bA9 | apply bN9 | apply bD9) | exact HB7.out)⟩
  | true =>
  rw [if_pos rfl] at h;by_cases h13 : c1 = 13
  case pos =>
   rw [if_pos h13] at h;have q6 : (c1 == 13) = true := bQ_ h13;clear h13;obtain ⟨rfl, rfl⟩ := Prod.mk.inj (sI_ h);repeat clear h
   go_wp2_with (first | (go_at_call 74; (with_reducible refine (spec_l4Find.calls n a2 0 (bt a0 i) q _ HQ.out).mono ?_); rintro r w4 ⟨rfl, hd⟩; have HB4 := A_ (below_step HB.out hd.below); have HO4 := A_ (Kd.R_below HO.out hd.below); clear hd) | (go_at_call 58; (with_reducible refine (spec_GetSign.calls n a0 i c1 c2 _ HGS.out).mono ?_); rintro r w5 ⟨rfl, hd⟩; have HB5 := A_ (below_step HB4.out hd.below); have HO5 := A_ (Kd.R_below HO4.out hd.below); clear hd))
   have HB6 : As9 (Below w.heap.size w w5.drew) := ⟨bD9 HB5.out⟩;have HO6 : As9 (Kd.R (Kd.int .u8) 5 w5.drew w.heap.size (fun _ => True) _ out) := ⟨by (with_reducible apply Kd.R_drew); exact HO5.out⟩;clear HB5 HO5;refine start_ (n := 32) (S := fun w' => True) (ds := [31]) (tS 32 0) (by kernel_rfl) rfl rfl trivial (fun hHeld => ?_);generalize World.drew _ = wq0 at HB6 HO6 hHeld ⊢;refine pq_ ?_;refine n1_ 1 (tS 32 2) rfl fun K hK => ?_
   refine gS_ Tryz.func75 #[.int .i64 c1] ?_;with_reducible refine (spec_IsText.calls c1 true _ HT.out).mono ?_
   rintro e wq1 ⟨rfl, hd⟩;refine ⟨_, rfl, ?_⟩;have HB7 := A_ (below_step HB6.out hd.below);have HO7 := A_ (Kd.R_below HO6.out hd.below);clear hd HB6 HO6;refine hK.out _ _ trivial (fun hHeld => ?_);clear hK K;refine nm_ ?_;iterate 6 refine pq_ ?_
   refine oq_ ?_;refine oq_ ?_;refine pq_ ?_;refine pq_ ?_;refine oq_ ?_;refine og_ 14 (tB 32 24575) ?_;refine og_ 15 (tB 32 57343) ?_;refine og_ 16 (tB 32 122879) ?_;refine og_ 17 (tB 32 253951) ?_;refine og_ 18 (tB 32 516095) ?_;refine og_ 19 (tB 32 1040383) ?_;refine n1_ 13 (tS 32 20) rfl fun K hK => ?_
   show K (Act.put _ (some 72) undef) _;refine hK.out _ _ trivial (fun hHeld => ?_);clear hK K;refine nm_ ?_;refine oq_ ?_;refine pq_ ?_;refine pq_ ?_;refine oq_ ?_;refine oq_ ?_;refine n1_ 25 (tS 32 26) rfl fun K hK => ?_
   show K (Act.put _ (some 84) undef) _;refine hK.out _ _ trivial (fun hHeld => ?_);clear hK K;refine nm_ ?_;refine oq_ ?_;refine oq_ ?_;refine n1_ 28 (tS 32 29) rfl fun K hK => ?_
   show K (Act.put _ (some 87) undef) _;refine hK.out _ _ trivial (fun hHeld => ?_);clear hK K;refine nm_ ?_;refine oq_ ?_;refine oq_ ?_;refine pq_ ?_;refine done_ (by kernel_rfl) ?_;go_wp2
   go_ret2
   exact ⟨rfl, by repeat (first | (with_reducible first | exact HB7.out | apply bA9 | apply bN9 | apply bD9) | exact HB7.out)⟩
  case neg =>
  rw [if_neg h13] at h;have q6 : (c1 == 13) = false := bN_ h13;clear h13;by_cases h60 : c1 = 60
  case pos =>
   rw [if_pos h60] at h;have q7 : (c1 == 60) = true := bQ_ h60;clear h60;obtain ⟨rfl, rfl⟩ := Prod.mk.inj (sI_ h);repeat clear h
   go_wp2_with (first | (go_at_call 74; (with_reducible refine (spec_l4Find.calls n a2 0 (bt a0 i) q _ HQ.out).mono ?_); rintro r w4 ⟨rfl, hd⟩; have HB4 := A_ (below_step HB.out hd.below); have HO4 := A_ (Kd.R_below HO.out hd.below); clear hd) | (go_at_call 58; (with_reducible refine (spec_GetSign.calls n a0 i c1 c2 _ HGS.out).mono ?_); rintro r w5 ⟨rfl, hd⟩; have HB5 := A_ (below_step HB4.out hd.below); have HO5 := A_ (Kd.R_below HO4.out hd.below); clear hd))
   have HB6 : As9 (Below w.heap.size w w5.drew) := ⟨bD9 HB5.out⟩;have HO6 : As9 (Kd.R (Kd.int .u8) 5 w5.drew w.heap.size (fun _ => True) _ out) := ⟨by (with_reducible apply Kd.R_drew); exact HO5.out⟩;clear HB5 HO5;refine start_ (n := 32) (S := fun w' => True) (ds := [31]) (tS 32 0) (by kernel_rfl) rfl rfl trivial (fun hHeld => ?_);generalize World.drew _ = wq0 at HB6 HO6 hHeld ⊢;refine pq_ ?_;refine n1_ 1 (tS 32 2) rfl fun K hK => ?_
   refine gS_ Tryz.func75 #[.int .i64 c1] ?_;with_reducible refine (spec_IsText.calls c1 true _ HT.out).mono ?_
   rintro e wq1 ⟨rfl, hd⟩;refine ⟨_, rfl, ?_⟩;have HB7 := A_ (below_step HB6.out hd.below);have HO7 := A_ (Kd.R_below HO6.out hd.below);clear hd HB6 HO6;refine hK.out _ _ trivial (fun hHeld => ?_);clear hK K;refine nm_ ?_;iterate 10 refine pq_ ?_
   refine oq_ ?_;refine og_ 14 (tB 32 24575) ?_;refine og_ 15 (tB 32 57343) ?_;refine og_ 16 (tB 32 122879) ?_;refine og_ 17 (tB 32 253951) ?_;refine og_ 18 (tB 32 516095) ?_;refine og_ 19 (tB 32 1040383) ?_;refine n1_ 13 (tS 32 20) rfl fun K hK => ?_
   show K (Act.put _ (some 72) undef) _;refine hK.out _ _ trivial (fun hHeld => ?_);clear hK K;refine nm_ ?_;refine oq_ ?_;refine pq_ ?_;refine pq_ ?_;refine oq_ ?_;refine oq_ ?_;refine n1_ 25 (tS 32 26) rfl fun K hK => ?_
   show K (Act.put _ (some 84) undef) _;refine hK.out _ _ trivial (fun hHeld => ?_);clear hK K;refine nm_ ?_;refine oq_ ?_;refine oq_ ?_;refine n1_ 28 (tS 32 29) rfl fun K hK => ?_
   show K (Act.put _ (some 87) undef) _;refine hK.out _ _ trivial (fun hHeld => ?_);clear hK K;refine nm_ ?_;refine oq_ ?_;refine oq_ ?_;refine pq_ ?_;refine done_ (by kernel_rfl) ?_;go_wp2
   go_ret2
   exact ⟨rfl, by repeat (first | (with_reducible first | exact HB7.out | apply bA9 | apply bN9 | apply bD9) | exact HB7.out)⟩
  case neg =>
  rw [if_neg h60] at h;have q7 : (c1 == 60) = false := bN_ h60;clear h60;obtain ⟨p, hP, h⟩ := oB_ h;have HP := A_ hP;clear hP;obtain ⟨ni, hni⟩ : ∃ j_ : Int, wrap64 (i + c2) = j_ := ⟨_, rfl⟩;have hniw : IntKind.i64.wrap (i + c2) = ni := (i64_w _).trans hni;unfold xsGo at h;rw [hni] at h;split at h
  case isFalse => cases h
  case isTrue hg =>
  obtain ⟨u0, u1⟩ := hg;have s0 := eq_true u0;have s1 := eq_true u1;clear u0 u1;by_cases hp : p.toList = (a0.extract i.toNat ni.toNat).toList
  case neg =>
   rw [if_neg hp] at h;have q8 : (p.toList != (a0.extract i.toNat ni.toNat).toList) = true := nN_ hp;have q9 : (p.toList == (a0.extract i.toNat ni.toNat).toList) = false := bN_ hp;clear hp;obtain ⟨rfl, rfl⟩ := Prod.mk.inj (sI_ h);repeat clear h
   go_wp2_with (first | (go_at_call 74; (with_reducible refine (spec_l4Find.calls n a2 0 (bt a0 i) q _ HQ.out).mono ?_); rintro r w4 ⟨rfl, hd⟩; have HB4 := A_ (below_step HB.out hd.below); have HO4 := A_ (Kd.R_below HO.out hd.below); clear hd) | (go_at_call 58; (with_reducible refine (spec_GetSign.calls n a0 i c1 c2 _ HGS.out).mono ?_); rintro r w5 ⟨rfl, hd⟩; have HB5 := A_ (below_step HB4.out hd.below); have HO5 := A_ (Kd.R_below HO4.out hd.below); clear hd))
   have HB6 : As9 (Below w.heap.size w w5.drew) := ⟨bD9 HB5.out⟩;have HO6 : As9 (Kd.R (Kd.int .u8) 5 w5.drew w.heap.size (fun _ => True) _ out) := ⟨by (with_reducible apply Kd.R_drew); exact HO5.out⟩;clear HB5 HO5;refine start_ (n := 32) (S := fun w' => True) (ds := [31]) (tS 32 0) (by kernel_rfl) rfl rfl trivial (fun hHeld => ?_);generalize World.drew _ = wq0 at HB6 HO6 hHeld ⊢;refine pq_ ?_;refine n1_ 1 (tS 32 2) rfl fun K hK => ?_
   refine gS_ Tryz.func75 #[.int .i64 c1] ?_;with_reducible refine (spec_IsText.calls c1 true _ HT.out).mono ?_
   rintro e wq1 ⟨rfl, hd⟩;refine ⟨_, rfl, ?_⟩;have HB7 := A_ (below_step HB6.out hd.below);have HO7 := A_ (Kd.R_below HO6.out hd.below);clear hd HB6 HO6;refine hK.out _ _ trivial (fun hHeld => ?_);clear hK K;refine nm_ ?_;iterate 11 refine pq_ ?_
   refine pg_ 14 (tB 32 24575) ?_;refine pg_ 15 (tB 32 57343) ?_;refine pg_ 16 (tB 32 122879) ?_;refine pg_ 17 (tB 32 253951) ?_;refine pg_ 18 (tB 32 516095) ?_;refine pg_ 19 (tB 32 1040383) ?_;refine n1_ 13 (tS 32 20) rfl fun K hK => ?_
   refine gS_ Tryz.func61 #[.int .i64 c1] ?_;with_reducible refine (spec_PutSign.calls n c1 p _ HP.out).mono ?_
   rintro e wq13 ⟨rfl, hb⟩;refine ⟨_, rfl, ?_⟩;have HB8 := A_ (below_step HB7.out hb);have HO8 := A_ (Kd.R_below HO7.out hb);clear hb HB7 HO7;refine hK.out _ _ trivial (fun hHeld => ?_);clear hK K;refine nm_ ?_;iterate 3 refine pq_ ?_
   refine oq_ ?_;refine oq_ ?_;refine n1_ 25 (tS 32 26) rfl fun K hK => ?_
   show K (Act.put _ (some 84) undef) _;refine hK.out _ _ trivial (fun hHeld => ?_);clear hK K;refine nm_ ?_;refine oq_ ?_;refine oq_ ?_;refine n1_ 28 (tS 32 29) rfl fun K hK => ?_
   show K (Act.put _ (some 87) undef) _;refine hK.out _ _ trivial (fun hHeld => ?_);clear hK K;refine nm_ ?_;refine oq_ ?_;refine oq_ ?_;refine pq_ ?_;refine done_ (by kernel_rfl) ?_;go_wp2
   go_ret2
   exact ⟨rfl, by repeat (first | (with_reducible first | exact HB8.out | apply bA9 | apply bN9 | apply bD9) | exact HB8.out)⟩
  case pos =>
  rw [if_pos hp] at h;have q8 : (p.toList != (a0.extract i.toNat ni.toNat).toList) = false := nQ_ hp;have q9 : (p.toList == (a0.extract i.toNat ni.toNat).toList) = true := bQ_ hp;clear hp;obtain ⟨b, hS, h⟩ := oB_ h;have HST := A_ hS;clear hS;cases b with
  | true =>
   rw [if_pos rfl] at h;obtain ⟨z, hZ, h⟩ := oB_ h;have HZ := A_ hZ;clear hZ;by_cases hz : z < 0
   case pos =>
    rw [if_pos hz] at h;have q10 : decide (z < 0) = true := dE_ hz;clear hz;obtain ⟨rfl, rfl⟩ := Prod.mk.inj (sI_ h);repeat clear h
    go_wp2_with (first | (go_at_call 74; (with_reducible refine (spec_l4Find.calls n a2 0 (bt a0 i) q _ HQ.out).mono ?_); rintro r w4 ⟨rfl, hd⟩; have HB4 := A_ (below_step HB.out hd.below); have HO4 := A_ (Kd.R_below HO.out hd.below); clear hd) | (go_at_call 58; (with_reducible refine (spec_GetSign.calls n a0 i c1 c2 _ HGS.out).mono ?_); rintro r w5 ⟨rfl, hd⟩; have HB5 := A_ (below_step HB4.out hd.below); have HO5 := A_ (Kd.R_below HO4.out hd.below); clear hd))
    have HB6 : As9 (Below w.heap.size w w5.drew) := ⟨bD9 HB5.out⟩;have HO6 : As9 (Kd.R (Kd.int .u8) 5 w5.drew w.heap.size (fun _ => True) _ out) := ⟨by (with_reducible apply Kd.R_drew); exact HO5.out⟩;clear HB5 HO5;refine start_ (n := 32) (S := fun w' => True) (ds := [31]) (tS 32 0) (by kernel_rfl) rfl rfl trivial (fun hHeld => ?_);generalize World.drew _ = wq0 at HB6 HO6 hHeld ⊢;refine pq_ ?_;refine n1_ 1 (tS 32 2) rfl fun K hK => ?_
    refine gS_ Tryz.func75 #[.int .i64 c1] ?_;with_reducible refine (spec_IsText.calls c1 true _ HT.out).mono ?_
    rintro e wq1 ⟨rfl, hd⟩;refine ⟨_, rfl, ?_⟩;have HB7 := A_ (below_step HB6.out hd.below);have HO7 := A_ (Kd.R_below HO6.out hd.below);clear hd HB6 HO6;refine hK.out _ _ trivial (fun hHeld => ?_);clear hK K;refine nm_ ?_;iterate 11 refine pq_ ?_
    refine pg_ 14 (tB 32 24575) ?_;refine pg_ 15 (tB 32 57343) ?_;refine pg_ 16 (tB 32 122879) ?_;refine pg_ 17 (tB 32 253951) ?_;refine pg_ 18 (tB 32 516095) ?_;refine pg_ 19 (tB 32 1040383) ?_;refine n1_ 13 (tS 32 20) rfl fun K hK => ?_
    refine gS_ Tryz.func61 #[.int .i64 c1] ?_;with_reducible refine (spec_PutSign.calls n c1 p _ HP.out).mono ?_
    rintro e wq13 ⟨rfl, hb⟩;refine ⟨_, rfl, ?_⟩;have HB8 := A_ (below_step HB7.out hb);have HO8 := A_ (Kd.R_below HO7.out hb);clear hb HB7 HO7;refine hK.out _ _ trivial (fun hHeld => ?_);clear hK K;refine nm_ ?_;iterate 5 refine pq_ ?_
    refine n1_ 25 (tS 32 26) rfl fun K hK => ?_
    refine gS_ Tryz.func69 #[.string a0, .int .i64 i, .string ⟨#[93, 93, 62]⟩] ?_;with_reducible refine (spec_l5Stands.calls a0 i ⟨#[93, 93, 62]⟩ true _ HST.out).mono ?_
    rintro e wq25 ⟨rfl, hd⟩;refine ⟨_, rfl, ?_⟩;have HB9 := A_ (below_step HB8.out hd.below);have HO9 := A_ (Kd.R_below HO8.out hd.below);clear hd HB8 HO8;refine hK.out _ _ trivial (fun hHeld => ?_);clear hK K;refine nm_ ?_;refine pq_ ?_;refine pq_ ?_;refine n1_ 28 (tS 32 29) rfl fun K hK => ?_
    refine gS_ Tryz.func74 #[.string a2, .int .i64 0, .int .u8 62] ?_;with_reducible refine (spec_l4Find.calls n a2 0 62 z _ HZ.out).mono ?_
    rintro e wq28 ⟨rfl, hd⟩;refine ⟨_, rfl, ?_⟩;have HB10 := A_ (below_step HB9.out hd.below);have HO10 := A_ (Kd.R_below HO9.out hd.below);clear hd HB9 HO9;refine hK.out _ _ trivial (fun hHeld => ?_);clear hK K;refine nm_ ?_;iterate 3 refine pq_ ?_
    refine done_ (by kernel_rfl) ?_;go_wp2
    go_ret2
    exact ⟨rfl, by repeat (first | (with_reducible first | exact HB10.out | apply bA9 | apply bN9 | apply bD9) | exact HB10.out)⟩
   case neg =>
    rw [if_neg hz] at h;have q10 : decide (z < 0) = false := dF_ hz;clear hz;split at h
    case isFalse => cases h
    case isTrue hgl =>
    obtain ⟨tx, htx⟩ : ∃ t_, a0.extract i.toNat ni.toNat = t_ := ⟨_, rfl⟩;rw [htx] at h hgl;have HTX := A_ htx;have HL : As9 (out.length + tx.size ≤ 140737488355327) := ⟨hgl⟩;have HGN := A_ h;repeat clear h
    clear hgl htx;go_wp2_with (first | (go_at_call 74; (with_reducible refine (spec_l4Find.calls n a2 0 (bt a0 i) q _ HQ.out).mono ?_); rintro r w4 ⟨rfl, hd⟩; have HB4 := A_ (below_step HB.out hd.below); have HO4 := A_ (Kd.R_below HO.out hd.below); clear hd) | (go_at_call 58; (with_reducible refine (spec_GetSign.calls n a0 i c1 c2 _ HGS.out).mono ?_); rintro r w5 ⟨rfl, hd⟩; have HB5 := A_ (below_step HB4.out hd.below); have HO5 := A_ (Kd.R_below HO4.out hd.below); clear hd))
    have HB6 : As9 (Below w.heap.size w w5.drew) := ⟨bD9 HB5.out⟩;have HO6 : As9 (Kd.R (Kd.int .u8) 5 w5.drew w.heap.size (fun _ => True) _ out) := ⟨by (with_reducible apply Kd.R_drew); exact HO5.out⟩;clear HB5 HO5;refine start_ (n := 32) (S := fun w' => True) (ds := [31]) (tS 32 0) (by kernel_rfl) rfl rfl trivial (fun hHeld => ?_);generalize World.drew _ = wq0 at HB6 HO6 hHeld ⊢;refine pq_ ?_;refine n1_ 1 (tS 32 2) rfl fun K hK => ?_
    refine gS_ Tryz.func75 #[.int .i64 c1] ?_;with_reducible refine (spec_IsText.calls c1 true _ HT.out).mono ?_
    rintro e wq1 ⟨rfl, hd⟩;refine ⟨_, rfl, ?_⟩;have HB7 := A_ (below_step HB6.out hd.below);have HO7 := A_ (Kd.R_below HO6.out hd.below);clear hd HB6 HO6;refine hK.out _ _ trivial (fun hHeld => ?_);clear hK K;refine nm_ ?_;iterate 11 refine pq_ ?_
    refine pg_ 14 (tB 32 24575) ?_;refine pg_ 15 (tB 32 57343) ?_;refine pg_ 16 (tB 32 122879) ?_;refine pg_ 17 (tB 32 253951) ?_;refine pg_ 18 (tB 32 516095) ?_;refine pg_ 19 (tB 32 1040383) ?_;refine n1_ 13 (tS 32 20) rfl fun K hK => ?_
    refine gS_ Tryz.func61 #[.int .i64 c1] ?_;with_reducible refine (spec_PutSign.calls n c1 p _ HP.out).mono ?_
    rintro e wq13 ⟨rfl, hb⟩;refine ⟨_, rfl, ?_⟩;have HB8 := A_ (below_step HB7.out hb);have HO8 := A_ (Kd.R_below HO7.out hb);clear hb HB7 HO7;refine hK.out _ _ trivial (fun hHeld => ?_);clear hK K;refine nm_ ?_;iterate 5 refine pq_ ?_
    refine n1_ 25 (tS 32 26) rfl fun K hK => ?_
    refine gS_ Tryz.func69 #[.string a0, .int .i64 i, .string ⟨#[93, 93, 62]⟩] ?_;with_reducible refine (spec_l5Stands.calls a0 i ⟨#[93, 93, 62]⟩ true _ HST.out).mono ?_
    rintro e wq25 ⟨rfl, hd⟩;refine ⟨_, rfl, ?_⟩;have HB9 := A_ (below_step HB8.out hd.below);have HO9 := A_ (Kd.R_below HO8.out hd.below);clear hd HB8 HO8;refine hK.out _ _ trivial (fun hHeld => ?_);clear hK K;refine nm_ ?_;refine pq_ ?_;refine pq_ ?_;refine n1_ 28 (tS 32 29) rfl fun K hK => ?_
    refine gS_ Tryz.func74 #[.string a2, .int .i64 0, .int .u8 62] ?_;with_reducible refine (spec_l4Find.calls n a2 0 62 z _ HZ.out).mono ?_
    rintro e wq28 ⟨rfl, hd⟩;refine ⟨_, rfl, ?_⟩;have HB10 := A_ (below_step HB9.out hd.below);have HO10 := A_ (Kd.R_below HO9.out hd.below);clear hd HB9 HO9;refine hK.out _ _ trivial (fun hHeld => ?_);clear hK K;refine nm_ ?_;iterate 3 refine pq_ ?_
    refine done_ (by kernel_rfl) ?_;have htx := HTX.out;clear HTX;have hcv := print_bytes (P := Tryz.prog) 9 22 5 Tryz.underlying9 Tryz.underlying22 Tryz.underlying5 tx wq28;have HC5 := A_ (txt_C (TxtRow.new wq28 tx (by have := HL.out; omega)));have hb5 := (bytes_below (Below.refl wq28.heap.size wq28) (Nat.le_refl _) 5 tx);have HOc := A_ (Kd.R_below HO10.out hb5);have HBc := A_ (below_step HB10.out hb5);clear hb5 HO10;rw [bytesOf_length] at HC5;generalize Lib.bytesWorld wq28 5 tx = w9 at hcv HC5 HOc HBc;generalize grownCap wq28 tx.size 0 5 = cp at hcv;go_wp2_with (first | ((with_reducible refine gate_builtin (b := .append) (xs := #[.tmp 91, .tmp 98]) rfl ?_); at_builtin; refine Kd.R_append_rows (Kd.int .u8) (w0 := w) w.heap.size rfl (.tmp 91) (.tmp 98) 22 5 (.int .u8 0) 1 rfl Tryz.underlying22 info5 rfl de_ om_ _ out (bytesOf tx) _ _ _ (fun _ => True) (fun _ => False) rfl rfl ?aO ?aR (fun _ _ h => h) (fun _ h => h.elim) ?aF ?aB ?aS ?aL ?_; (case aO => exact HOc.out); (case aR => exact HC5.out); (case aF => exact fun _ _ => trivial); (case aB => exact HBc.out); (case aS => exact below_size HBc.out); (case aL => have := HL.out; omega); intro v6 w6 ho hb hg hat; have HOz := A_ ho; have HBz := A_ hb; clear ho hb hg hat))
    go_roundg n
    case measure => omega
    case rel => exact ⟨_, ni, by first | rfl | rw [← hni], HGN, HOz, HBz⟩
  | false =>
   rw [if_neg si_] at h;split at h
   case isFalse => cases h
   case isTrue hgl =>
   obtain ⟨tx, htx⟩ : ∃ t_, a0.extract i.toNat ni.toNat = t_ := ⟨_, rfl⟩;rw [htx] at h hgl;have HTX := A_ htx;have HL : As9 (out.length + tx.size ≤ 140737488355327) := ⟨hgl⟩;have HGN := A_ h;repeat clear h
   clear hgl htx;go_wp2_with (first | (go_at_call 74; (with_reducible refine (spec_l4Find.calls n a2 0 (bt a0 i) q _ HQ.out).mono ?_); rintro r w4 ⟨rfl, hd⟩; have HB4 := A_ (below_step HB.out hd.below); have HO4 := A_ (Kd.R_below HO.out hd.below); clear hd) | (go_at_call 58; (with_reducible refine (spec_GetSign.calls n a0 i c1 c2 _ HGS.out).mono ?_); rintro r w5 ⟨rfl, hd⟩; have HB5 := A_ (below_step HB4.out hd.below); have HO5 := A_ (Kd.R_below HO4.out hd.below); clear hd))
   have HB6 : As9 (Below w.heap.size w w5.drew) := ⟨bD9 HB5.out⟩;have HO6 : As9 (Kd.R (Kd.int .u8) 5 w5.drew w.heap.size (fun _ => True) _ out) := ⟨by (with_reducible apply Kd.R_drew); exact HO5.out⟩;clear HB5 HO5;refine start_ (n := 32) (S := fun w' => True) (ds := [31]) (tS 32 0) (by kernel_rfl) rfl rfl trivial (fun hHeld => ?_);generalize World.drew _ = wq0 at HB6 HO6 hHeld ⊢;refine pq_ ?_;refine n1_ 1 (tS 32 2) rfl fun K hK => ?_
   refine gS_ Tryz.func75 #[.int .i64 c1] ?_;with_reducible refine (spec_IsText.calls c1 true _ HT.out).mono ?_
   rintro e wq1 ⟨rfl, hd⟩;refine ⟨_, rfl, ?_⟩;have HB7 := A_ (below_step HB6.out hd.below);have HO7 := A_ (Kd.R_below HO6.out hd.below);clear hd HB6 HO6;refine hK.out _ _ trivial (fun hHeld => ?_);clear hK K;refine nm_ ?_;iterate 11 refine pq_ ?_
   refine pg_ 14 (tB 32 24575) ?_;refine pg_ 15 (tB 32 57343) ?_;refine pg_ 16 (tB 32 122879) ?_;refine pg_ 17 (tB 32 253951) ?_;refine pg_ 18 (tB 32 516095) ?_;refine pg_ 19 (tB 32 1040383) ?_;refine n1_ 13 (tS 32 20) rfl fun K hK => ?_
   refine gS_ Tryz.func61 #[.int .i64 c1] ?_;with_reducible refine (spec_PutSign.calls n c1 p _ HP.out).mono ?_
   rintro e wq13 ⟨rfl, hb⟩;refine ⟨_, rfl, ?_⟩;have HB8 := A_ (below_step HB7.out hb);have HO8 := A_ (Kd.R_below HO7.out hb);clear hb HB7 HO7;refine hK.out _ _ trivial (fun hHeld => ?_);clear hK K;refine nm_ ?_;iterate 5 refine pq_ ?_
   refine n1_ 25 (tS 32 26) rfl fun K hK => ?_
   refine gS_ Tryz.func69 #[.string a0, .int .i64 i, .string ⟨#[93, 93, 62]⟩] ?_;with_reducible refine (spec_l5Stands.calls a0 i ⟨#[93, 93, 62]⟩ false _ HST.out).mono ?_
   rintro e wq25 ⟨rfl, hd⟩;refine ⟨_, rfl, ?_⟩;have HB9 := A_ (below_step HB8.out hd.below);have HO9 := A_ (Kd.R_below HO8.out hd.below);clear hd HB8 HO8;refine hK.out _ _ trivial (fun hHeld => ?_);clear hK K;refine nm_ ?_;refine pq_ ?_;refine oq_ ?_;refine n1_ 28 (tS 32 29) rfl fun K hK => ?_
   show K (Act.put _ (some 87) undef) _;refine hK.out _ _ trivial (fun hHeld => ?_);clear hK K;refine nm_ ?_;refine oq_ ?_;refine pq_ ?_;refine pq_ ?_;refine done_ (by kernel_rfl) ?_;have htx := HTX.out;clear HTX;have hcv := print_bytes (P := Tryz.prog) 9 22 5 Tryz.underlying9 Tryz.underlying22 Tryz.underlying5 tx wq25;have HC5 := A_ (txt_C (TxtRow.new wq25 tx (by have := HL.out; omega)));have hb5 := (bytes_below (Below.refl wq25.heap.size wq25) (Nat.le_refl _) 5 tx);have HOc := A_ (Kd.R_below HO9.out hb5);have HBc := A_ (below_step HB9.out hb5);clear hb5 HO9;rw [bytesOf_length] at HC5;generalize Lib.bytesWorld wq25 5 tx = w9 at hcv HC5 HOc HBc;generalize grownCap wq25 tx.size 0 5 = cp at hcv;go_wp2_with (first | ((with_reducible refine gate_builtin (b := .append) (xs := #[.tmp 91, .tmp 98]) rfl ?_); at_builtin; refine Kd.R_append_rows (Kd.int .u8) (w0 := w) w.heap.size rfl (.tmp 91) (.tmp 98) 22 5 (.int .u8 0) 1 rfl Tryz.underlying22 info5 rfl de_ om_ _ out (bytesOf tx) _ _ _ (fun _ => True) (fun _ => False) rfl rfl ?aO ?aR (fun _ _ h => h) (fun _ h => h.elim) ?aF ?aB ?aS ?aL ?_; (case aO => exact HOc.out); (case aR => exact HC5.out); (case aF => exact fun _ _ => trivial); (case aB => exact HBc.out); (case aS => exact below_size HBc.out); (case aL => have := HL.out; omega); intro v6 w6 ho hb hg hat; have HOz := A_ ho; have HBz := A_ hb; clear ho hb hg hat))
   go_roundg n
   case measure => omega
   case rel => exact ⟨_, ni, by first | rfl | rw [← hni], HGN, HOz, HBz⟩
def spec_XmlAttr.j0 : Nat → ByteArray → ByteArray → Int → Bool → Option (ByteArray × ByteArray × Int)
 | 0, _, _, _, _ => none
 | k + 1, x0, x6, x7, x23 => if x23 = true then (some ((⟨#[]⟩ : BA), (⟨#[]⟩ : BA), (-1))) else ((spec_XmlText.f k x0 (wrap64 (x7 + 2)) (⟨#[34]⟩ : BA)).bind fun bt383 => (if bt383.2 < 0 then (some ((⟨#[]⟩ : BA), (⟨#[]⟩ : BA), (-1))) else (if bt383.2 ≥ (x0.size : Int) then (some ((⟨#[]⟩ : BA), (⟨#[]⟩ : BA), (-1))) else (if 0 ≤ (wrap64 (x7 + 2)) then (if (wrap64 (x7 + 2)) ≤ bt383.2 then (if bt383.2 ≤ (x0.size : Int) then ((spec_l4Find.f k (x0.extract ((wrap64 (x7 + 2)) : Int).toNat (bt383.2 : Int).toNat) 0 9).bind fun t385 => (if t385 ≥ 0 then (some ((⟨#[]⟩ : BA), (⟨#[]⟩ : BA), (-1))) else ((spec_l4Find.f k (x0.extract ((wrap64 (x7 + 2)) : Int).toNat (bt383.2 : Int).toNat) 0 10).bind fun t386 => (if t386 ≥ 0 then (some ((⟨#[]⟩ : BA), (⟨#[]⟩ : BA), (-1))) else (some (x6, bt383.1, wrap64 (bt383.2 + 1))))))) else (none)) else (none)) else (none)))))
def spec_XmlAttr.f (k : Nat) (a0 : BA) (a1 : Int) : Option (ByteArray × ByteArray × Int) := (spec_XmlName.f k a0 a1).bind fun bt380 => (if bt380.1.toList = ([] : List UInt8) then (spec_XmlAttr.j0 k a0 bt380.1 bt380.2 true) else ((spec_l5Stands.f a0 bt380.2 (⟨#[61, 34]⟩ : BA)).bind fun t382 => (spec_XmlAttr.j0 k a0 bt380.1 bt380.2 (!t382))))
theorem spec_XmlAttr.mono_l : ∀ k, (∀ y0 y1 y2 y3, LeO (spec_XmlAttr.j0 k y0 y1 y2 y3) (spec_XmlAttr.j0 (k + 1) y0 y1 y2 y3))
 | 0 => fun _ _ _ _ r h => by simp [spec_XmlAttr.j0] at h
 | k + 1 => by
  have ih0 := spec_XmlAttr.mono_l k
  ·intro y0 y1 y2 y3;unfold spec_XmlAttr.j0;with_reducible repeat' first | exact ih0 _ _ _ _ | exact spec_XmlName.mono _ _ _ | exact spec_XmlText.mono _ _ _ _ | exact spec_l4Find.mono _ _ _ _ | apply LeO.refl | apply LeO.none | apply LeO.ite | apply LeO.bind | intro
theorem spec_XmlAttr.mono : ∀ a0 a1 k, LeO (spec_XmlAttr.f k a0 a1) (spec_XmlAttr.f (k + 1) a0 a1) := by
 intro a0 a1 k;have ih0 := spec_XmlAttr.mono_l k;unfold spec_XmlAttr.f;with_reducible repeat' first | exact ih0 _ _ _ _ | exact spec_XmlName.mono _ _ _ | exact spec_XmlText.mono _ _ _ _ | exact spec_l4Find.mono _ _ _ _ | apply LeO.refl | apply LeO.none | apply LeO.ite | apply LeO.bind | intro
theorem spec_XmlAttr.calls (k : Nat) (a0 : BA) (a1 : Int) (r1 : BA) (r2 : BA) (r3 : Int) (w : World) (h : spec_XmlAttr.f k a0 a1 = some (r1, r2, r3)) :
  Calls Tryz.prog 26 #[.string a0, .int .i64 a1] w fun e w' => e = .returned (.tuple #[.agg #[.string r1, .string r2], .int .i64 r3]) ∧ Below w.heap.size w w' := by
 have hu36 := Tryz.underlying36;have HB := A_ (Below.refl w.heap.size w);have H : ((spec_XmlName.f k a0 a1).bind fun bt380 => (if bt380.1.toList = ([] : List UInt8) then (spec_XmlAttr.j0 k a0 bt380.1 bt380.2 true) else ((spec_l5Stands.f a0 bt380.2 (⟨#[61, 34]⟩ : BA)).bind fun t382 => (spec_XmlAttr.j0 k a0 bt380.1 bt380.2 (!t382))))) = some (r1, r2, r3) := h;clear h;obtain ⟨⟨t380, t381⟩, A3, H⟩ := ob_ H;(try dsimp only at H)
 have HC4 := A_ H;clear H;go_enter Tryz.func26, Tryz.ntmps26
 go_upto_region 2 with (first | ((with_reducible refine gate_dst (N := 4) rfl ?_); (try (refine gate_guard (by rfl) ?_; dsimp only)); refine bE_ #[.string (⟨#[]⟩ : BA), .string (⟨#[]⟩ : BA)] 36 ?_; intro gb379 hg w5 hbox hb; have BK379 := A_ (hbox); have GW379 := hs_ hg; have GE379 := hs_ hg; replace HB := bS_ hb; clear hb hbox hg) | ((with_reducible refine gC_ 17 ?_); refine gL_ 13 Tryz.func17 #[.string a0, .int .i64 a1] ?_; (with_reducible refine (spec_XmlName.calls k a0 a1 t380 t381 _ A3.out).mono ?_); rintro e w6 ⟨rfl, hb⟩; refine ⟨_, rfl, ?_⟩; replace BK379 := A_ (blk_below (g := gb379) (o := .cells #[.string (⟨#[]⟩ : BA), .string (⟨#[]⟩ : BA)] 36 (0, 0)) (blk_below BK379.out hR_) hb); replace HB := bS_ hb; clear hb))
 (try simp only [Act.put, List.setIfInBounds_toArray, List.set_cons_zero, List.set_cons_succ])
 go_cut [23] (fun v23 wc => ∃ (kq : Nat) (x23_3 : Bool), v23 = .bool x23_3 ∧ As9 (spec_XmlAttr.j0 kq a0 t380 t381 x23_3 = some (r1, r2, r3)) ∧ As9 (kq ≤ k) ∧ As9 (wc.heap[gb379]? = some (.cells #[.string (⟨#[]⟩ : BA), .string (⟨#[]⟩ : BA)] 36 (0, 0))) ∧ As9 (Below w.heap.size w wc))
 case first =>
  have H := HC4.out;clear HC4;rcases ic_ H with ⟨c7, H⟩ | ⟨c7, H⟩
  ·obtain ⟨c7b0, c7b1⟩ := be_ c7;clear c7;(first | rw [c7b0] | (simp only [i64_w, i32_w]; rw [c7b0]) | skip)
   have H' := A_ H;clear H;go_wp2
   go_meet
   case rel => exact ⟨_, (true), e2_, H', ⟨by first | omega | exact Nat.le_refl _⟩, ⟨blk_below BK379.out hR_⟩, ⟨hB_⟩⟩
  ·obtain ⟨c7b0, c7b1⟩ := bn_ c7;(first | rw [c7b0] | (simp only [i64_w, i32_w]; rw [c7b0]) | skip)
   obtain ⟨t382, A8, H⟩ := ob_ H;(try dsimp only at H)
   have H' := A_ H;clear H;go_wp2_with (first | (go_at_call 69; (with_reducible refine (spec_l5Stands.calls a0 t381 (⟨#[61, 34]⟩ : BA) t382 _ A8.out).mono ?_); rintro e w' ⟨rfl, ⟨nd, rfl⟩⟩))
   go_meet
   case rel => exact ⟨_, (!t382), e2_, H', ⟨by first | omega | exact Nat.le_refl _⟩, ⟨blk_below BK379.out hR_⟩, ⟨hB_⟩⟩
 case rest =>
  clear HC4;try clear c1
  try clear c2
  try clear p2
  try clear c7
  try clear c7b0
  try clear c7b1
  obtain ⟨kq, x23_3, rfl, HA, HJ3, BK379, HB⟩ := hcut;cases kq with
  | zero => exact absurd HA.out (by simp [spec_XmlAttr.j0])
  | succ kj3 =>
   have H := HA.out;clear HA;simp only [spec_XmlAttr.j0] at H;by_cases c9 : x23_3 = true
   ·subst c9;rw [if_pos rfl] at H;obtain ⟨rfl, rfl, rfl⟩ := pj_ H;obtain ⟨hcz10_0, hcz10_1, hfz10_0, hfz10_1⟩ := bk2_ BK379.out;go_wp2
    refine bodyPost_ret (results_ct rfl _ _ gb379 36 #[.string (⟨#[]⟩ : BA), .string (⟨#[]⟩ : BA)] (0, 0) _ rfl (by refine kB_ ?_; refine blk_put (cs := #[.string (⟨#[]⟩ : BA), .string (⟨#[]⟩ : BA)]) ?_ 1 _ rfl; refine kB_ ?_; refine blk_put (cs := #[.string (⟨#[]⟩ : BA), .string (⟨#[]⟩ : BA)]) ?_ 0 _ rfl; refine kB_ ?_; exact BK379.out) Tryz.underlying36 rfl (by kernel_rfl)) rfl ?_;exact ⟨e1_, hB_⟩
   ·replace c9 := bF_ c9;subst c9;rw [if_neg nF_] at H;obtain ⟨⟨t383, t384⟩, A11, H⟩ := ob_ H;(try dsimp only at H)
    rcases ic_ H with ⟨c12, H⟩ | ⟨c12, H⟩
    ·have c12b0 := dE_ c12;clear c12;obtain ⟨rfl, rfl, rfl⟩ := pj_ H;go_wp2_with (first | ((with_reducible refine gC_ 23 ?_); refine gL_ 29 Tryz.func23 #[.string a0, .int .i64 (wrap64 (t381 + 2)), .string (⟨#[34]⟩ : BA)] ?_; (with_reducible refine (spec_XmlText.calls kj3 a0 (wrap64 (t381 + 2)) (⟨#[34]⟩ : BA) t383 t384 _ A11.out).mono ?_); rintro e w13 ⟨rfl, hb⟩; refine ⟨_, rfl, ?_⟩; replace BK379 := A_ (blk_below (g := gb379) (o := .cells #[.string (⟨#[]⟩ : BA), .string (⟨#[]⟩ : BA)] 36 (0, 0)) (blk_below BK379.out hR_) hb); replace HB := bS_ hb; clear hb; obtain ⟨hcz14_0, hcz14_1, hfz14_0, hfz14_1⟩ := bk2_ BK379.out))
     refine bodyPost_ret (results_ct rfl _ _ gb379 36 #[.string (⟨#[]⟩ : BA), .string (⟨#[]⟩ : BA)] (0, 0) _ rfl (by refine kB_ ?_; refine blk_put (cs := #[.string (⟨#[]⟩ : BA), .string (⟨#[]⟩ : BA)]) ?_ 1 _ rfl; refine kB_ ?_; refine blk_put (cs := #[.string (⟨#[]⟩ : BA), .string (⟨#[]⟩ : BA)]) ?_ 0 _ rfl; refine kB_ ?_; exact BK379.out) Tryz.underlying36 rfl (by kernel_rfl)) rfl ?_;exact ⟨e1_, hB_⟩
    ·have c12b0 := dF_ c12;clear c12;rcases ic_ H with ⟨c15, H⟩ | ⟨c15, H⟩
     ·have c15b0 : decide ((a0.size : Int) ≤ t384) = true := dE_ c15;clear c15;obtain ⟨rfl, rfl, rfl⟩ := pj_ H;go_wp2_with (first | ((with_reducible refine gC_ 23 ?_); refine gL_ 29 Tryz.func23 #[.string a0, .int .i64 (wrap64 (t381 + 2)), .string (⟨#[34]⟩ : BA)] ?_; (with_reducible refine (spec_XmlText.calls kj3 a0 (wrap64 (t381 + 2)) (⟨#[34]⟩ : BA) t383 t384 _ A11.out).mono ?_); rintro e w16 ⟨rfl, hb⟩; refine ⟨_, rfl, ?_⟩; replace BK379 := A_ (blk_below (g := gb379) (o := .cells #[.string (⟨#[]⟩ : BA), .string (⟨#[]⟩ : BA)] 36 (0, 0)) (blk_below BK379.out hR_) hb); replace HB := bS_ hb; clear hb; obtain ⟨hcz17_0, hcz17_1, hfz17_0, hfz17_1⟩ := bk2_ BK379.out))
      refine bodyPost_ret (results_ct rfl _ _ gb379 36 #[.string (⟨#[]⟩ : BA), .string (⟨#[]⟩ : BA)] (0, 0) _ rfl (by refine kB_ ?_; refine blk_put (cs := #[.string (⟨#[]⟩ : BA), .string (⟨#[]⟩ : BA)]) ?_ 1 _ rfl; refine kB_ ?_; refine blk_put (cs := #[.string (⟨#[]⟩ : BA), .string (⟨#[]⟩ : BA)]) ?_ 0 _ rfl; refine kB_ ?_; exact BK379.out) Tryz.underlying36 rfl (by kernel_rfl)) rfl ?_;exact ⟨e1_, hB_⟩
     ·have c15b0 : decide ((a0.size : Int) ≤ t384) = false := dF_ c15;clear c15;obtain ⟨ji18, hji18⟩ : ∃ j_ : Int, (wrap64 (t381 + 2)) = j_ := ⟨_, rfl⟩;replace H : (if 0 ≤ (ji18) then (if (ji18) ≤ t384 then (if t384 ≤ (a0.size : Int) then ((spec_l4Find.f kj3 (a0.extract ((ji18) : Int).toNat (t384 : Int).toNat) 0 9).bind fun t385 => (if t385 ≥ 0 then (some ((⟨#[]⟩ : BA), (⟨#[]⟩ : BA), (-1))) else ((spec_l4Find.f kj3 (a0.extract ((ji18) : Int).toNat (t384 : Int).toNat) 0 10).bind fun t386 => (if t386 ≥ 0 then (some ((⟨#[]⟩ : BA), (⟨#[]⟩ : BA), (-1))) else (some (t380, t383, wrap64 (t384 + 1))))))) else (none)) else (none)) else (none)) = some (r1, r2, r3) := by first | (rw [hji18] at H; exact H) | (simp only [hji18] at H ⊢; exact H)
      (try rw [hji18] at A11)
      have hji18w : (IntKind.i64.wrap (t381 + 2)) = ji18 := (i64_w _).trans hji18;obtain ⟨c19, H⟩ := ifn_ H;have c19b0 := eq_true c19;have c19b1 := dE_ c19;clear c19;obtain ⟨c20, H⟩ := ifn_ H;have c20b0 := eq_true c20;have c20b1 := dE_ c20;clear c20;obtain ⟨c21, H⟩ := ifn_ H;have c21b0 := eq_true c21;have c21b1 := dE_ c21;clear c21;obtain ⟨t385, A22, H⟩ := ob_ H;rcases ic_ H with ⟨c23, H⟩ | ⟨c23, H⟩
      ·have c23b0 : decide (0 ≤ t385) = true := dE_ c23;clear c23;obtain ⟨rfl, rfl, rfl⟩ := pj_ H;go_wp2_with (first | ((with_reducible refine gC_ 23 ?_); refine goesL_ (some 29) rfl rfl Tryz.func23 (by kernel_rfl) rfl #[.string a0, .int .i64 ji18, .string (⟨#[34]⟩ : BA)] rfl (by (try simp only [List.map_toArray, List.map_cons, List.map_nil]); first | done | (simp only [hji18]; rfl) | rfl | (simp only [List.length_drop, List.length_take]; rfl)) ?_; (with_reducible refine (spec_XmlText.calls kj3 a0 ji18 (⟨#[34]⟩ : BA) t383 t384 _ A11.out).mono ?_); rintro e w24 ⟨rfl, hb⟩; refine ⟨_, rfl, ?_⟩; replace BK379 := A_ (blk_below (g := gb379) (o := .cells #[.string (⟨#[]⟩ : BA), .string (⟨#[]⟩ : BA)] 36 (0, 0)) (blk_below BK379.out hR_) hb); replace HB := bS_ hb; clear hb) | (go_at_call 74; (with_reducible refine (spec_l4Find.calls kj3 (a0.extract ((ji18) : Int).toNat (t384 : Int).toNat) 0 9 t385 _ A22.out).mono ?_); rintro e w' ⟨rfl, ⟨nd, rfl⟩⟩; (try (rw [drewN_self w24]; generalize hq_ : World.drewN w24 _ = w24; have n0_ : As9 (w24.heap[gb379]? = some (.cells #[.string (⟨#[]⟩ : BA), .string (⟨#[]⟩ : BA)] 36 (0, 0))) := ⟨by rw [← hq_]; exact (blk_below BK379.out hR_)⟩; have n1_ : As9 (Below w.heap.size w w24) := ⟨by rw [← hq_]; exact hB_⟩; clear BK379 HB hq_; have BK379 := n0_; have HB := n1_; clear n0_ n1_)); obtain ⟨hcz25_0, hcz25_1, hfz25_0, hfz25_1⟩ := bk2_ BK379.out))
       refine bodyPost_ret (results_ct rfl _ _ gb379 36 #[.string (⟨#[]⟩ : BA), .string (⟨#[]⟩ : BA)] (0, 0) _ rfl (by refine kB_ ?_; refine blk_put (cs := #[.string (⟨#[]⟩ : BA), .string (⟨#[]⟩ : BA)]) ?_ 1 _ rfl; refine kB_ ?_; refine blk_put (cs := #[.string (⟨#[]⟩ : BA), .string (⟨#[]⟩ : BA)]) ?_ 0 _ rfl; refine kB_ ?_; exact BK379.out) Tryz.underlying36 rfl (by kernel_rfl)) rfl ?_;exact ⟨by first | rfl | (simp [errW_none, errW_some] <;> rfl) | (simp only [← hji18]; first | rfl | (simp [errW_none, errW_some] <;> rfl)) | (simp [*, errW_none, errW_some] <;> rfl), hB_⟩
      ·have c23b0 : decide (0 ≤ t385) = false := dF_ c23;clear c23;have c26b0 := eq_true (dT_ : 0 ≤ (ji18));have c27b0 := eq_true (dT_ : (ji18) ≤ t384);have c28b0 := eq_true (dT_ : t384 ≤ (a0.size : Int));obtain ⟨t386, A29, H⟩ := ob_ H;rcases ic_ H with ⟨c30, H⟩ | ⟨c30, H⟩
       ·have c30b0 : decide (0 ≤ t386) = true := dE_ c30;clear c30;obtain ⟨rfl, rfl, rfl⟩ := pj_ H;go_wp2_with (first | ((with_reducible refine gC_ 23 ?_); refine goesL_ (some 29) rfl rfl Tryz.func23 (by kernel_rfl) rfl #[.string a0, .int .i64 ji18, .string (⟨#[34]⟩ : BA)] rfl (by (try simp only [List.map_toArray, List.map_cons, List.map_nil]); first | done | (simp only [hji18]; rfl) | rfl | (simp only [List.length_drop, List.length_take]; rfl)) ?_; (with_reducible refine (spec_XmlText.calls kj3 a0 ji18 (⟨#[34]⟩ : BA) t383 t384 _ A11.out).mono ?_); rintro e w31 ⟨rfl, hb⟩; refine ⟨_, rfl, ?_⟩; replace BK379 := A_ (blk_below (g := gb379) (o := .cells #[.string (⟨#[]⟩ : BA), .string (⟨#[]⟩ : BA)] 36 (0, 0)) (blk_below BK379.out hR_) hb); replace HB := bS_ hb; clear hb) | (go_at_call 74; (with_reducible refine (spec_l4Find.calls kj3 (a0.extract ((ji18) : Int).toNat (t384 : Int).toNat) 0 9 t385 _ A22.out).mono ?_); rintro e w' ⟨rfl, ⟨nd, rfl⟩⟩; (try (rw [drewN_self w31]; generalize hq_ : World.drewN w31 _ = w31; have n0_ : As9 (w31.heap[gb379]? = some (.cells #[.string (⟨#[]⟩ : BA), .string (⟨#[]⟩ : BA)] 36 (0, 0))) := ⟨by rw [← hq_]; exact (blk_below BK379.out hR_)⟩; have n1_ : As9 (Below w.heap.size w w31) := ⟨by rw [← hq_]; exact hB_⟩; clear BK379 HB hq_; have BK379 := n0_; have HB := n1_; clear n0_ n1_))) | (go_at_call 74; (with_reducible refine (spec_l4Find.calls kj3 (a0.extract ((ji18) : Int).toNat (t384 : Int).toNat) 0 10 t386 _ A29.out).mono ?_); rintro e w' ⟨rfl, ⟨nd, rfl⟩⟩; (try (rw [drewN_self w31]; generalize hq_ : World.drewN w31 _ = w31; have n0_ : As9 (w31.heap[gb379]? = some (.cells #[.string (⟨#[]⟩ : BA), .string (⟨#[]⟩ : BA)] 36 (0, 0))) := ⟨by rw [← hq_]; exact (blk_below BK379.out hR_)⟩; have n1_ : As9 (Below w.heap.size w w31) := ⟨by rw [← hq_]; exact hB_⟩; clear BK379 HB hq_; have BK379 := n0_; have HB := n1_; clear n0_ n1_)); obtain ⟨hcz32_0, hcz32_1, hfz32_0, hfz32_1⟩ := bk2_ BK379.out))
        refine bodyPost_ret (results_ct rfl _ _ gb379 36 #[.string (⟨#[]⟩ : BA), .string (⟨#[]⟩ : BA)] (0, 0) _ rfl (by refine kB_ ?_; refine blk_put (cs := #[.string (⟨#[]⟩ : BA), .string (⟨#[]⟩ : BA)]) ?_ 1 _ rfl; refine kB_ ?_; refine blk_put (cs := #[.string (⟨#[]⟩ : BA), .string (⟨#[]⟩ : BA)]) ?_ 0 _ rfl; refine kB_ ?_; exact BK379.out) Tryz.underlying36 rfl (by kernel_rfl)) rfl ?_;exact ⟨by first | rfl | (simp [errW_none, errW_some] <;> rfl) | (simp only [← hji18]; first | rfl | (simp [errW_none, errW_some] <;> rfl)) | (simp [*, errW_none, errW_some] <;> rfl), hB_⟩
       ·have c30b0 : decide (0 ≤ t386) = false := dF_ c30;clear c30;obtain ⟨rfl, rfl, rfl⟩ := pj_ H;go_wp2_with (first | ((with_reducible refine gC_ 23 ?_); refine goesL_ (some 29) rfl rfl Tryz.func23 (by kernel_rfl) rfl #[.string a0, .int .i64 ji18, .string (⟨#[34]⟩ : BA)] rfl (by (try simp only [List.map_toArray, List.map_cons, List.map_nil]); first | done | (simp only [hji18]; rfl) | rfl | (simp only [List.length_drop, List.length_take]; rfl)) ?_; (with_reducible refine (spec_XmlText.calls kj3 a0 ji18 (⟨#[34]⟩ : BA) t383 t384 _ A11.out).mono ?_); rintro e w33 ⟨rfl, hb⟩; refine ⟨_, rfl, ?_⟩; replace BK379 := A_ (blk_below (g := gb379) (o := .cells #[.string (⟨#[]⟩ : BA), .string (⟨#[]⟩ : BA)] 36 (0, 0)) (blk_below BK379.out hR_) hb); replace HB := bS_ hb; clear hb) | (go_at_call 74; (with_reducible refine (spec_l4Find.calls kj3 (a0.extract ((ji18) : Int).toNat (t384 : Int).toNat) 0 9 t385 _ A22.out).mono ?_); rintro e w' ⟨rfl, ⟨nd, rfl⟩⟩; (try (rw [drewN_self w33]; generalize hq_ : World.drewN w33 _ = w33; have n0_ : As9 (w33.heap[gb379]? = some (.cells #[.string (⟨#[]⟩ : BA), .string (⟨#[]⟩ : BA)] 36 (0, 0))) := ⟨by rw [← hq_]; exact (blk_below BK379.out hR_)⟩; have n1_ : As9 (Below w.heap.size w w33) := ⟨by rw [← hq_]; exact hB_⟩; clear BK379 HB hq_; have BK379 := n0_; have HB := n1_; clear n0_ n1_))) | (go_at_call 74; (with_reducible refine (spec_l4Find.calls kj3 (a0.extract ((ji18) : Int).toNat (t384 : Int).toNat) 0 10 t386 _ A29.out).mono ?_); rintro e w' ⟨rfl, ⟨nd, rfl⟩⟩; (try (rw [drewN_self w33]; generalize hq_ : World.drewN w33 _ = w33; have n0_ : As9 (w33.heap[gb379]? = some (.cells #[.string (⟨#[]⟩ : BA), .string (⟨#[]⟩ : BA)] 36 (0, 0))) := ⟨by rw [← hq_]; exact (blk_below BK379.out hR_)⟩; have n1_ : As9 (Below w.heap.size w w33) := ⟨by rw [← hq_]; exact hB_⟩; clear BK379 HB hq_; have BK379 := n0_; have HB := n1_; clear n0_ n1_)); obtain ⟨hcz34_0, hcz34_1, hfz34_0, hfz34_1⟩ := bk2_ BK379.out))
        refine bodyPost_ret (results_ct rfl _ _ gb379 36 #[.string t380, .string t383] (0, 0) _ rfl (by refine kB_ ?_; refine blk_put (cs := #[.string t380, .string (⟨#[]⟩ : BA)]) ?_ 1 _ rfl; refine kB_ ?_; refine blk_put (cs := #[.string (⟨#[]⟩ : BA), .string (⟨#[]⟩ : BA)]) ?_ 0 _ rfl; refine kB_ ?_; exact BK379.out) Tryz.underlying36 rfl (by kernel_rfl)) rfl ?_;exact ⟨by first | rfl | (simp [errW_none, errW_some] <;> rfl) | (simp only [← hji18]; first | rfl | (simp [errW_none, errW_some] <;> rfl)) | (simp [*, errW_none, errW_some] <;> rfl), hB_⟩
def spec_l4Has.l0 : Nat → List (S36) → ByteArray → Int → Option (Bool)
 | 0, _, _, _ => none
 | k + 1, x0, x1, x5 => if x5 < (x0.length : Int) then (if 0 ≤ x5 then (if ((rd_T36 x0 x5).f0).toList = x1.toList then (some true) else (spec_l4Has.l0 k x0 x1 (wrap64 (x5 + 1)))) else (none)) else (some false)
def spec_l4Has.f (k : Nat) (l0 : List (S36)) (a1 : BA) : Option (Bool) := spec_l4Has.l0 k l0 a1 0
theorem spec_l4Has.mono_l : ∀ k, (∀ y0 y1 y2, LeO (spec_l4Has.l0 k y0 y1 y2) (spec_l4Has.l0 (k + 1) y0 y1 y2))
 | 0 => fun _ _ _ r h => by simp [spec_l4Has.l0] at h
 | k + 1 => by
  have ih0 := spec_l4Has.mono_l k
  ·intro y0 y1 y2;unfold spec_l4Has.l0;with_reducible repeat' first | exact ih0 _ _ _ | apply LeO.refl | apply LeO.none | apply LeO.ite | apply LeO.bind | intro
theorem spec_l4Has.mono : ∀ a0 a1 k, LeO (spec_l4Has.f k a0 a1) (spec_l4Has.f (k + 1) a0 a1) := by
 intro a0 a1 k;have ih0 := spec_l4Has.mono_l k;unfold spec_l4Has.f;with_reducible repeat' first | exact ih0 _ _ _ | apply LeO.refl | apply LeO.none | apply LeO.ite | apply LeO.bind | intro
theorem spec_l4Has.calls (k : Nat) (A0 : Option Addr) (c0 : Nat) (l0 : List (S36)) (a1 : BA) (r : Bool) (w : World) (hr0 : Kd.C k36 w A0 l0.length l0) (hc0 : l0.length ≤ c0) (h : spec_l4Has.f k l0 a1 = some r) :
  Calls Tryz.prog 168 #[.slice A0 l0.length c0, .string a1] w fun e w' => e = .returned (.bool r) ∧ Drawn0 w w' := by
 have HR0 := A_ hr0;have HC0 := A_ hc0;clear hr0 hc0;have H : (spec_l4Has.l0 k l0 a1 0) = some r := h;clear h;have H' := A_ H;clear H;go_enter Tryz.func168, Tryz.ntmps168
 go_wp2
 go_loopg [5] k (fun kq v5 w' => ∃ (x5_1 : Int), v5 = .int .i64 x5_1 ∧ As9 (spec_l4Has.l0 kq l0 a1 x5_1 = some r) ∧ As9 (kq ≤ k) ∧ Drawn0 w w')
 case atStart => exact ⟨(0), e2_, H', ⟨Nat.le_refl _⟩, d0_⟩
 case round =>
  clear H';try clear c1
  try clear p2
  obtain ⟨x5_1, rfl, HA, HK1, ⟨m1, rfl⟩⟩ := hrel;cases gk with
  | zero => exact absurd HA.out (by simp [spec_l4Has.l0])
  | succ k1 =>
   have H := HA.out;clear HA;simp only [spec_l4Has.l0] at H;rcases ic_ H with ⟨c3, H⟩ | ⟨c3, H⟩
   ·have c3b0 := dE_ c3;clear c3;obtain ⟨c4, H⟩ := ifn_ H;have c4b0 := dE_ c4;clear c4;rcases ic_ H with ⟨c5, H⟩ | ⟨c5, H⟩
    ·obtain ⟨c5b0, c5b1⟩ := be_ c5;clear c5;obtain rfl := sI_ H;have p495 : 0 ≤ (x5_1 : Int) := dT_;have q495 : x5_1 < (l0.length : Int) := dT_;obtain ⟨ad495, e495, hx495_0, hx495_1⟩ := at_T36 HR0.out x5_1 p495 q495;cases e495;replace p495 := eq_true p495;replace q495 := eq_true q495;go_wp2
     go_ret
     exact ⟨e2_, d0_⟩
    ·obtain ⟨c5b0, c5b1⟩ := bn_ c5;have H' := A_ H;clear H;have p495 : 0 ≤ (x5_1 : Int) := dT_;have q495 : x5_1 < (l0.length : Int) := dT_;obtain ⟨ad495, e495, hx495_0, hx495_1⟩ := at_T36 HR0.out x5_1 p495 q495;cases e495;replace p495 := eq_true p495;replace q495 := eq_true q495;go_wp2
     go_roundg k1
     case measure => have := HK1.out; omega
     case rel => exact ⟨(wrap64 (x5_1 + 1)), e2_, H', ⟨by have := HK1.out; omega⟩, d0_⟩
   ·have c3b0 := dF_ c3;clear c3;obtain rfl := sI_ H;go_wp2
    go_ret
    exact ⟨e2_, d0_⟩
def spec_SpaceName.f (a0 : Int) : Option (ByteArray) := if a0 = 0 then (some (⟨#[104, 116, 116, 112, 58, 47, 47, 119, 119, 119, 46, 119, 51, 46, 111, 114, 103, 47, 49, 57, 57, 57, 47, 120, 104, 116, 109, 108]⟩ : BA)) else (if a0 = 1 then (some (⟨#[104, 116, 116, 112, 58, 47, 47, 119, 119, 119, 46, 119, 51, 46, 111, 114, 103, 47, 50, 48, 48, 48, 47, 115, 118, 103]⟩ : BA)) else (if a0 = 2 then (some (⟨#[104, 116, 116, 112, 58, 47, 47, 119, 119, 119, 46, 119, 51, 46, 111, 114, 103, 47, 49, 57, 57, 56, 47, 77, 97, 116, 104, 47, 77, 97, 116, 104, 77, 76]⟩ : BA)) else (some (⟨#[]⟩ : BA))))
theorem spec_SpaceName.calls (a0 : Int) (r : BA) (w : World) (h : spec_SpaceName.f a0 = some r) :
  Calls Tryz.prog 14 #[.int .i64 a0] w fun e w' => e = .returned (.string r) ∧ Drawn0 w w' := by
 have H : (if a0 = 0 then (some (⟨#[104, 116, 116, 112, 58, 47, 47, 119, 119, 119, 46, 119, 51, 46, 111, 114, 103, 47, 49, 57, 57, 57, 47, 120, 104, 116, 109, 108]⟩ : BA)) else (if a0 = 1 then (some (⟨#[104, 116, 116, 112, 58, 47, 47, 119, 119, 119, 46, 119, 51, 46, 111, 114, 103, 47, 50, 48, 48, 48, 47, 115, 118, 103]⟩ : BA)) else (if a0 = 2 then (some (⟨#[104, 116, 116, 112, 58, 47, 47, 119, 119, 119, 46, 119, 51, 46, 111, 114, 103, 47, 49, 57, 57, 56, 47, 77, 97, 116, 104, 47, 77, 97, 116, 104, 77, 76]⟩ : BA)) else (some (⟨#[]⟩ : BA))))) = some r := h;clear h;rcases ic_ H with ⟨c2, H⟩ | ⟨c2, H⟩
 ·obtain ⟨c2b0, c2b1⟩ := be_ c2;clear c2;obtain rfl := sI_ H;go_enter Tryz.func14, Tryz.ntmps14
  go_wp2
  go_ret
  exact ⟨e2_, d0_⟩
 ·obtain ⟨c2b0, c2b1⟩ := bn_ c2;rcases ic_ H with ⟨c3, H⟩ | ⟨c3, H⟩
  ·obtain ⟨c3b0, c3b1⟩ := be_ c3;clear c3;obtain rfl := sI_ H;go_enter Tryz.func14, Tryz.ntmps14
   go_wp2
   go_ret
   exact ⟨e2_, d0_⟩
  ·obtain ⟨c3b0, c3b1⟩ := bn_ c3;rcases ic_ H with ⟨c4, H⟩ | ⟨c4, H⟩
   ·obtain ⟨c4b0, c4b1⟩ := be_ c4;clear c4;obtain rfl := sI_ H;go_enter Tryz.func14, Tryz.ntmps14
    go_wp2
    go_ret
    exact ⟨e2_, d0_⟩
   ·obtain ⟨c4b0, c4b1⟩ := bn_ c4;obtain rfl := sI_ H;go_enter Tryz.func14, Tryz.ntmps14
    go_wp2
    go_ret
    exact ⟨e2_, d0_⟩
def spec_l19Space.l0 : Nat → ByteArray → Int → Option (Int)
 | 0, _, _ => none
 | k + 1, x0, x3 => if x3 ≤ 2 then ((spec_SpaceName.f x3).bind fun t496 => (if t496.toList = x0.toList then (some x3) else (spec_l19Space.l0 k x0 (wrap64 (x3 + 1))))) else (some (-1))
def spec_l19Space.f (k : Nat) (a0 : BA) : Option (Int) := spec_l19Space.l0 k a0 0
theorem spec_l19Space.mono_l : ∀ k, (∀ y0 y1, LeO (spec_l19Space.l0 k y0 y1) (spec_l19Space.l0 (k + 1) y0 y1))
 | 0 => fun _ _ r h => by simp [spec_l19Space.l0] at h
 | k + 1 => by
  have ih0 := spec_l19Space.mono_l k
  ·intro y0 y1;unfold spec_l19Space.l0;with_reducible repeat' first | exact ih0 _ _ | apply LeO.refl | apply LeO.none | apply LeO.ite | apply LeO.bind | intro
theorem spec_l19Space.mono : ∀ a0 k, LeO (spec_l19Space.f k a0) (spec_l19Space.f (k + 1) a0) := by
 intro a0 k;have ih0 := spec_l19Space.mono_l k;unfold spec_l19Space.f;with_reducible repeat' first | exact ih0 _ _ | apply LeO.refl | apply LeO.none | apply LeO.ite | apply LeO.bind | intro
theorem spec_l19Space.calls (k : Nat) (a0 : BA) (r : Int) (w : World) (h : spec_l19Space.f k a0 = some r) :
  Calls Tryz.prog 169 #[.string a0] w fun e w' => e = .returned (.int .i64 r) ∧ Drawn0 w w' := by
 have H : (spec_l19Space.l0 k a0 0) = some r := h;clear h;have H' := A_ H;clear H;go_enter Tryz.func169, Tryz.ntmps169
 go_wp2
 go_loopg [3] k (fun kq v3 w' => ∃ (x3_1 : Int), v3 = .int .i64 x3_1 ∧ As9 (spec_l19Space.l0 kq a0 x3_1 = some r) ∧ As9 (kq ≤ k) ∧ Drawn0 w w')
 case atStart => exact ⟨(0), e2_, H', ⟨Nat.le_refl _⟩, d0_⟩
 case round =>
  clear H';try clear c1
  obtain ⟨x3_1, rfl, HA, HK1, ⟨m1, rfl⟩⟩ := hrel;cases gk with
  | zero => exact absurd HA.out (by simp [spec_l19Space.l0])
  | succ k1 =>
   have H := HA.out;clear HA;simp only [spec_l19Space.l0] at H;rcases ic_ H with ⟨c2, H⟩ | ⟨c2, H⟩
   ·have c2b0 := dE_ c2;clear c2;obtain ⟨t496, A3, H⟩ := ob_ H;rcases ic_ H with ⟨c4, H⟩ | ⟨c4, H⟩
    ·obtain ⟨c4b0, c4b1⟩ := be_ c4;clear c4;obtain rfl := sI_ H;go_wp2_with (first | ((with_reducible refine gC_ 14 ?_); refine gL_ 9 Tryz.func14 #[.int .i64 x3_1] ?_; refine dm_ (spec_SpaceName.calls x3_1 t496 _ A3.out) fun nd => ?_))
     go_ret
     exact ⟨e2_, d0_⟩
    ·obtain ⟨c4b0, c4b1⟩ := bn_ c4;have H' := A_ H;clear H;go_wp2_with (first | ((with_reducible refine gC_ 14 ?_); refine gL_ 9 Tryz.func14 #[.int .i64 x3_1] ?_; refine dm_ (spec_SpaceName.calls x3_1 t496 _ A3.out) fun nd => ?_))
     go_roundg k1
     case measure => have := HK1.out; omega
     case rel => exact ⟨(wrap64 (x3_1 + 1)), e2_, H', ⟨by have := HK1.out; omega⟩, d0_⟩
   ·have c2b0 := dF_ c2;clear c2;obtain rfl := sI_ H;go_wp2
    go_ret
    exact ⟨e2_, d0_⟩
def impl_beginning.j0 : Nat → Int → Bool → Option (Int × Int × Int × Int)
 | 0, _, _ => none
 | k + 1, x0, x11 => if x11 = true then (some ((-1), 0, 0, 0)) else (if x0 < 224 then (some (1, wrap64 (Go.bits .and .u8 x0 31), 128, 191)) else (if x0 = 224 then (some (2, 0, 160, 191)) else (if x0 = 237 then (some (2, 13, 128, 159)) else (if x0 < 240 then (some (2, wrap64 (Go.bits .and .u8 x0 15), 128, 191)) else (if x0 = 240 then (some (3, 0, 144, 191)) else (if x0 = 244 then (some (3, 4, 128, 143)) else (some (3, wrap64 (Go.bits .and .u8 x0 7), 128, 191))))))))
def impl_beginning.f (k : Nat) (a0 : Int) : Option (Int × Int × Int × Int) := if a0 < 128 then (some (0, wrap64 (a0), 0, 0)) else (if a0 < 194 then (impl_beginning.j0 k a0 true) else (impl_beginning.j0 k a0 (decide (a0 > 244))))
theorem impl_beginning.mono_l : ∀ k, (∀ y0 y1, LeO (impl_beginning.j0 k y0 y1) (impl_beginning.j0 (k + 1) y0 y1))
 | 0 => fun _ _ r h => by simp [impl_beginning.j0] at h
 | k + 1 => by
  have ih0 := impl_beginning.mono_l k
  ·intro y0 y1;unfold impl_beginning.j0;with_reducible repeat' first | exact ih0 _ _ | apply LeO.refl | apply LeO.none | apply LeO.ite | apply LeO.bind | intro
theorem impl_beginning.mono : ∀ a0 k, LeO (impl_beginning.f k a0) (impl_beginning.f (k + 1) a0) := by
 intro a0 k;have ih0 := impl_beginning.mono_l k;unfold impl_beginning.f;with_reducible repeat' first | exact ih0 _ _ | apply LeO.refl | apply LeO.none | apply LeO.ite | apply LeO.bind | intro
theorem impl_beginning.calls (k : Nat) (a0 : Int) (r1 : Int) (r2 : Int) (r3 : Int) (r4 : Int) (w : World) (h : impl_beginning.f k a0 = some (r1, r2, r3, r4)) :
  Calls Tryz.prog 149 #[.int .u8 a0] w fun e w' => e = .returned (.tuple #[.int .i64 r1, .int .i64 r2, .int .u8 r3, .int .u8 r4]) ∧ Drawn0 w w' := by
 have H : (if a0 < 128 then (some (0, wrap64 (a0), 0, 0)) else (if a0 < 194 then (impl_beginning.j0 k a0 true) else (impl_beginning.j0 k a0 (decide (a0 > 244))))) = some (r1, r2, r3, r4) := h;clear h;rcases ic_ H with ⟨c2, H⟩ | ⟨c2, H⟩
 ·have c2b0 := dE_ c2;clear c2;simp only [Option.some.injEq, Prod.mk.injEq] at H;obtain ⟨rfl, rfl, rfl, rfl⟩ := H;go_enter Tryz.func149, Tryz.ntmps149
  go_wp2
  refine bodyPost_ret (results_list (rs := [.tmp 2, .tmp 3, .tmp 4, .tmp 5]) rfl si_ (.tmp (.tmp (.tmp (.tmp .nil))))) rfl ?_;exact ⟨e2_, d0_⟩
 ·have c2b0 := dF_ c2;clear c2;have HC3 := A_ H;clear H;go_enter Tryz.func149, Tryz.ntmps149
  go_upto_region 3 with (fail)
  go_cut [11] (fun v11 wc => ∃ (kq : Nat) (x11_2 : Bool), v11 = .bool x11_2 ∧ As9 (impl_beginning.j0 kq a0 x11_2 = some (r1, r2, r3, r4)) ∧ As9 (kq ≤ k) ∧ Drawn0 w wc)
  case first =>
   have H := HC3.out;clear HC3;rcases ic_ H with ⟨c4, H⟩ | ⟨c4, H⟩
   ·have c4b0 := dE_ c4;clear c4;(first | rw [c4b0] | (simp only [i64_w, i32_w]; rw [c4b0]) | skip)
    have H' := A_ H;clear H;go_wp2
    go_meet
    case rel => exact ⟨_, (true), e2_, H', ⟨by first | omega | exact Nat.le_refl _⟩, d0_⟩
   ·have c4b0 := dF_ c4;clear c4;(first | rw [c4b0] | (simp only [i64_w, i32_w]; rw [c4b0]) | skip)
    have H' := A_ H;clear H;go_wp2
    go_meet
    case rel => exact ⟨_, (decide (a0 > 244)), e2_, H', ⟨by first | omega | exact Nat.le_refl _⟩, d0_⟩
  case rest =>
   clear HC3;try clear c1
   try clear c2
   try clear c2b0
   try clear p2
   try clear c4
   try clear c4b0
   obtain ⟨kq, x11_2, rfl, HA, HJ2, ⟨mc2, rfl⟩⟩ := hcut;cases kq with
   | zero => exact absurd HA.out (by simp [impl_beginning.j0])
   | succ kj2 =>
    have H := HA.out;clear HA;simp only [impl_beginning.j0] at H;by_cases c5 : x11_2 = true
    ·subst c5;rw [if_pos rfl] at H;simp only [Option.some.injEq, Prod.mk.injEq] at H;obtain ⟨rfl, rfl, rfl, rfl⟩ := H;go_wp2
     refine bodyPost_ret (results_list (rs := [.tmp 2, .tmp 3, .tmp 4, .tmp 5]) rfl si_ (.tmp (.tmp (.tmp (.tmp .nil))))) rfl ?_;exact ⟨e2_, d0_⟩
    ·replace c5 := bF_ c5;subst c5;rw [if_neg nF_] at H;rcases ic_ H with ⟨c6, H⟩ | ⟨c6, H⟩
     ·have c6b0 := dE_ c6;clear c6;simp only [Option.some.injEq, Prod.mk.injEq] at H;obtain ⟨rfl, rfl, rfl, rfl⟩ := H;go_wp2
      refine bodyPost_ret (results_list (rs := [.tmp 2, .tmp 3, .tmp 4, .tmp 5]) rfl si_ (.tmp (.tmp (.tmp (.tmp .nil))))) rfl ?_;exact ⟨e2_, d0_⟩
     ·have c6b0 := dF_ c6;clear c6;rcases ic_ H with ⟨c7, H⟩ | ⟨c7, H⟩
      ·obtain ⟨c7b0, c7b1⟩ := be_ c7;clear c7;simp only [Option.some.injEq, Prod.mk.injEq] at H;obtain ⟨rfl, rfl, rfl, rfl⟩ := H;go_wp2
       refine bodyPost_ret (results_list (rs := [.tmp 2, .tmp 3, .tmp 4, .tmp 5]) rfl si_ (.tmp (.tmp (.tmp (.tmp .nil))))) rfl ?_;exact ⟨e2_, d0_⟩
      ·obtain ⟨c7b0, c7b1⟩ := bn_ c7;rcases ic_ H with ⟨c8, H⟩ | ⟨c8, H⟩
       ·obtain ⟨c8b0, c8b1⟩ := be_ c8;clear c8;simp only [Option.some.injEq, Prod.mk.injEq] at H;obtain ⟨rfl, rfl, rfl, rfl⟩ := H;go_wp2
        refine bodyPost_ret (results_list (rs := [.tmp 2, .tmp 3, .tmp 4, .tmp 5]) rfl si_ (.tmp (.tmp (.tmp (.tmp .nil))))) rfl ?_;exact ⟨e2_, d0_⟩
       ·obtain ⟨c8b0, c8b1⟩ := bn_ c8;rcases ic_ H with ⟨c9, H⟩ | ⟨c9, H⟩
        ·have c9b0 := dE_ c9;clear c9;simp only [Option.some.injEq, Prod.mk.injEq] at H;obtain ⟨rfl, rfl, rfl, rfl⟩ := H;go_wp2
         refine bodyPost_ret (results_list (rs := [.tmp 2, .tmp 3, .tmp 4, .tmp 5]) rfl si_ (.tmp (.tmp (.tmp (.tmp .nil))))) rfl ?_;exact ⟨e2_, d0_⟩
        ·have c9b0 := dF_ c9;clear c9;rcases ic_ H with ⟨c10, H⟩ | ⟨c10, H⟩
         ·obtain ⟨c10b0, c10b1⟩ := be_ c10;clear c10;simp only [Option.some.injEq, Prod.mk.injEq] at H;obtain ⟨rfl, rfl, rfl, rfl⟩ := H;go_wp2
          refine bodyPost_ret (results_list (rs := [.tmp 2, .tmp 3, .tmp 4, .tmp 5]) rfl si_ (.tmp (.tmp (.tmp (.tmp .nil))))) rfl ?_;exact ⟨e2_, d0_⟩
         ·obtain ⟨c10b0, c10b1⟩ := bn_ c10;rcases ic_ H with ⟨c11, H⟩ | ⟨c11, H⟩
          ·obtain ⟨c11b0, c11b1⟩ := be_ c11;clear c11;simp only [Option.some.injEq, Prod.mk.injEq] at H;obtain ⟨rfl, rfl, rfl, rfl⟩ := H;go_wp2
           refine bodyPost_ret (results_list (rs := [.tmp 2, .tmp 3, .tmp 4, .tmp 5]) rfl si_ (.tmp (.tmp (.tmp (.tmp .nil))))) rfl ?_;exact ⟨e2_, d0_⟩
          ·obtain ⟨c11b0, c11b1⟩ := bn_ c11;simp only [Option.some.injEq, Prod.mk.injEq] at H;obtain ⟨rfl, rfl, rfl, rfl⟩ := H;go_wp2
           refine bodyPost_ret (results_list (rs := [.tmp 2, .tmp 3, .tmp 4, .tmp 5]) rfl si_ (.tmp (.tmp (.tmp (.tmp .nil))))) rfl ?_;exact ⟨e2_, d0_⟩
def impl_getSign.l0 : Nat → ByteArray → Int → Int → Int → Int → Int → Int → Option (Int × Int)
 | 0, _, _, _, _, _, _, _ => none
 | k + 1, x0, x1, x6, x7, x8, x9, x10 => if x10 ≤ x6 then (if (wrap64 (x1 + x10)) ≥ (x0.size : Int) then (some (65533, x10)) else (if 0 ≤ (wrap64 (x1 + x10)) then (if (wrap64 (x1 + x10)) < (x0.size : Int) then (if (bt x0 (wrap64 (x1 + x10))) < x8 then (some (65533, x10)) else (if (bt x0 (wrap64 (x1 + x10))) > x9 then (some (65533, x10)) else (impl_getSign.l0 k x0 x1 x6 (Go.bits .or .i64 (wrap64 (x7 * 64)) (wrap64 (Go.bits .and .u8 (bt x0 (wrap64 (x1 + x10))) 63))) 128 191 (wrap64 (x10 + 1))))) else (none)) else (none))) else (some (x7, wrap64 (x6 + 1)))
def impl_getSign.f (k : Nat) (a0 : BA) (a1 : Int) : Option (Int × Int) := if 0 ≤ a1 then (if a1 < (a0.size : Int) then ((impl_beginning.f k (bt a0 a1)).bind fun bt233 => (if bt233.1 < 0 then (some (65533, 1)) else (impl_getSign.l0 k a0 a1 bt233.1 bt233.2.1 bt233.2.2.1 bt233.2.2.2 1))) else (none)) else (none)
theorem impl_getSign.mono_l : ∀ k, (∀ y0 y1 y2 y3 y4 y5 y6, LeO (impl_getSign.l0 k y0 y1 y2 y3 y4 y5 y6) (impl_getSign.l0 (k + 1) y0 y1 y2 y3 y4 y5 y6))
 | 0 => fun _ _ _ _ _ _ _ r h => by simp [impl_getSign.l0] at h
 | k + 1 => by
  have ih0 := impl_getSign.mono_l k
  ·intro y0 y1 y2 y3 y4 y5 y6;unfold impl_getSign.l0;with_reducible repeat' first | exact ih0 _ _ _ _ _ _ _ | exact impl_beginning.mono _ _ | apply LeO.refl | apply LeO.none | apply LeO.ite | apply LeO.bind | intro
theorem impl_getSign.mono : ∀ a0 a1 k, LeO (impl_getSign.f k a0 a1) (impl_getSign.f (k + 1) a0 a1) := by
 intro a0 a1 k;have ih0 := impl_getSign.mono_l k;unfold impl_getSign.f;with_reducible repeat' first | exact ih0 _ _ _ _ _ _ _ | exact impl_beginning.mono _ _ | apply LeO.refl | apply LeO.none | apply LeO.ite | apply LeO.bind | intro
theorem impl_getSign.calls (k : Nat) (a0 : BA) (a1 : Int) (r1 : Int) (r2 : Int) (w : World) (h : impl_getSign.f k a0 a1 = some (r1, r2)) :
  Calls Tryz.prog 106 #[.string a0, .int .i64 a1] w fun e w' => e = .returned (.tuple #[.int .i64 r1, .int .i64 r2]) ∧ Drawn0 w w' := by
 have H : (if 0 ≤ a1 then (if a1 < (a0.size : Int) then ((impl_beginning.f k (bt a0 a1)).bind fun bt233 => (if bt233.1 < 0 then (some (65533, 1)) else (impl_getSign.l0 k a0 a1 bt233.1 bt233.2.1 bt233.2.2.1 bt233.2.2.2 1))) else (none)) else (none)) = some (r1, r2) := h;clear h;obtain ⟨c3, H⟩ := ifn_ H;have c3b0 := dE_ c3;clear c3;obtain ⟨c4, H⟩ := ifn_ H;have c4b0 := dE_ c4;clear c4;obtain ⟨⟨t233, t234, t235, t236⟩, A6, H⟩ := ob_ H;(try dsimp only at H)
 rcases ic_ H with ⟨c7, H⟩ | ⟨c7, H⟩
 ·have c7b0 := dE_ c7;clear c7;obtain ⟨rfl, rfl⟩ := pi_ H;have p5 : 0 ≤ (a1 : Int) := dT_;have q5 : a1 < (a0.size : Int) := dT_;have hx5 := bt_at a0 a1;replace p5 := eq_true p5;replace q5 := eq_true q5;go_enter Tryz.func106, Tryz.ntmps106
  go_wp2_with (first | ((with_reducible refine gC_ 149 ?_); refine gL_ 15 Tryz.func149 #[.int .u8 (bt a0 a1)] ?_; refine dm_ (impl_beginning.calls k (bt a0 a1) t233 t234 t235 t236 _ A6.out) fun nd => ?_))
  go_ret2
  exact ⟨e2_, d0_⟩
 ·have c7b0 := dF_ c7;clear c7;have H' := A_ H;clear H;have p5 : 0 ≤ (a1 : Int) := dT_;have q5 : a1 < (a0.size : Int) := dT_;have hx5 := bt_at a0 a1;replace p5 := eq_true p5;replace q5 := eq_true q5;go_enter Tryz.func106, Tryz.ntmps106
  go_wp2_with (first | ((with_reducible refine gC_ 149 ?_); refine gL_ 15 Tryz.func149 #[.int .u8 (bt a0 a1)] ?_; refine dm_ (impl_beginning.calls k (bt a0 a1) t233 t234 t235 t236 _ A6.out) fun nd => ?_))
  go_loopg [7, 8, 9, 10] k (fun kq v7 v8 v9 v10 w' => ∃ (x7_1 : Int) (x8_1 : Int) (x9_1 : Int) (x10_1 : Int), v7 = .int .i64 x7_1 ∧ v8 = .int .u8 x8_1 ∧ v9 = .int .u8 x9_1 ∧ v10 = .int .i64 x10_1 ∧ As9 (impl_getSign.l0 kq a0 a1 t233 x7_1 x8_1 x9_1 x10_1 = some (r1, r2)) ∧ As9 (kq ≤ k) ∧ Drawn0 w w')
  case atStart => exact ⟨(t234), (t235), (t236), (1), e2_, e2_, e2_, e2_, H', ⟨Nat.le_refl _⟩, d0_⟩
  case round =>
   clear H';try clear c1
   try clear p2
   try clear c3
   try clear c3b0
   try clear c4
   try clear c4b0
   try clear p5
   try clear q5
   try clear hx5
   try clear c7
   try clear c7b0
   try clear p5
   try clear q5
   obtain ⟨x7_1, x8_1, x9_1, x10_1, rfl, rfl, rfl, rfl, HA, HK1, ⟨m1, rfl⟩⟩ := hrel;cases gk with
   | zero => exact absurd HA.out (by simp [impl_getSign.l0])
   | succ k1 =>
    have H := HA.out;clear HA;simp only [impl_getSign.l0] at H;rcases ic_ H with ⟨c8, H⟩ | ⟨c8, H⟩
    ·have c8b0 := dE_ c8;clear c8;rcases ic_ H with ⟨c9, H⟩ | ⟨c9, H⟩
     ·have c9b0 : decide ((a0.size : Int) ≤ (wrap64 (a1 + x10_1))) = true := dE_ c9;clear c9;obtain ⟨rfl, rfl⟩ := pi_ H;go_wp2
      go_ret2
      exact ⟨e2_, d0_⟩
     ·have c9b0 : decide ((a0.size : Int) ≤ (wrap64 (a1 + x10_1))) = false := dF_ c9;clear c9;obtain ⟨ji10, hji10⟩ : ∃ j_ : Int, (wrap64 (a1 + x10_1)) = j_ := ⟨_, rfl⟩;replace H : (if 0 ≤ (ji10) then (if (ji10) < (a0.size : Int) then (if (bt a0 (ji10)) < x8_1 then (some (65533, x10_1)) else (if (bt a0 (ji10)) > x9_1 then (some (65533, x10_1)) else (impl_getSign.l0 k1 a0 a1 t233 (Go.bits .or .i64 (wrap64 (x7_1 * 64)) (wrap64 (Go.bits .and .u8 (bt a0 (ji10)) 63))) 128 191 (wrap64 (x10_1 + 1))))) else (none)) else (none)) = some (r1, r2) := by first | (rw [hji10] at H; exact H) | (simp only [hji10] at H ⊢; exact H)
      (try rw [hji10] at c9b0)
      have hji10w : (IntKind.i64.wrap (a1 + x10_1)) = ji10 := (i64_w _).trans hji10;obtain ⟨c11, H⟩ := ifn_ H;have c11b0 := dE_ c11;clear c11;obtain ⟨c12, H⟩ := ifn_ H;have c12b0 := dE_ c12;clear c12;rcases ic_ H with ⟨c14, H⟩ | ⟨c14, H⟩
      ·have c14b0 := dE_ c14;clear c14;obtain ⟨rfl, rfl⟩ := pi_ H;have p13 : 0 ≤ ((ji10) : Int) := dT_;have q13 : (ji10) < (a0.size : Int) := dT_;have hx13 := bt_at a0 (ji10);replace p13 := eq_true p13;replace q13 := eq_true q13;go_wp2
       go_ret2
       exact ⟨by first | rfl | (simp; done) | (simp only [← hji10] <;> (first | rfl | simp)) | (simp [*]; done), d0_⟩
      ·have c14b0 := dF_ c14;clear c14;rcases ic_ H with ⟨c16, H⟩ | ⟨c16, H⟩
       ·have c16b0 : decide (x9_1 < (bt a0 (ji10))) = true := dE_ c16;clear c16;obtain ⟨rfl, rfl⟩ := pi_ H;have p13 : 0 ≤ ((ji10) : Int) := dT_;have q13 : (ji10) < (a0.size : Int) := dT_;have hx13 := bt_at a0 (ji10);replace p13 := eq_true p13;replace q13 := eq_true q13;have p15 : 0 ≤ ((ji10) : Int) := dT_;have q15 : (ji10) < (a0.size : Int) := dT_;have hx15 := bt_at a0 (ji10);replace p15 := eq_true p15;replace q15 := eq_true q15;go_wp2
        go_ret2
        exact ⟨by first | rfl | (simp; done) | (simp only [← hji10] <;> (first | rfl | simp)) | (simp [*]; done), d0_⟩
       ·have c16b0 : decide (x9_1 < (bt a0 (ji10))) = false := dF_ c16;clear c16;have H' := A_ H;clear H;have p13 : 0 ≤ ((ji10) : Int) := dT_;have q13 : (ji10) < (a0.size : Int) := dT_;have hx13 := bt_at a0 (ji10);replace p13 := eq_true p13;replace q13 := eq_true q13;have p15 : 0 ≤ ((ji10) : Int) := dT_;have q15 : (ji10) < (a0.size : Int) := dT_;have hx15 := bt_at a0 (ji10);replace p15 := eq_true p15;replace q15 := eq_true q15;have p17 : 0 ≤ ((ji10) : Int) := dT_;have q17 : (ji10) < (a0.size : Int) := dT_;have hx17 := bt_at a0 (ji10);replace p17 := eq_true p17;replace q17 := eq_true q17;go_wp2
        go_roundg k1
        case measure => have := HK1.out; omega
        case rel => exact ⟨(Go.bits .or .i64 (wrap64 (x7_1 * 64)) (wrap64 (Go.bits .and .u8 (bt a0 (ji10)) 63))), (128), (191), (wrap64 (x10_1 + 1)), (by first | rfl | (simp; done) | (simp only [← hji10] <;> (first | rfl | simp)) | (simp [*]; done)), e2_, e2_, e2_, H', ⟨by have := HK1.out; omega⟩, d0_⟩
    ·have c8b0 := dF_ c8;clear c8;obtain ⟨rfl, rfl⟩ := pi_ H;go_wp2
     go_ret2
     exact ⟨e2_, d0_⟩
def impl_cleanSign.f (k : Nat) (a0 : BA) (a1 : Int) : Option (Int × Int) := if a1 ≥ (a0.size : Int) then (some ((-1), 0)) else ((impl_getSign.f k a0 a1).bind fun bt237 => ((impl_PutSign.f k bt237.1).bind fun t239 => (if 0 ≤ a1 then (if a1 ≤ (wrap64 (a1 + bt237.2)) then (if (wrap64 (a1 + bt237.2)) ≤ (a0.size : Int) then (if t239.toList = (a0.extract (a1 : Int).toNat ((wrap64 (a1 + bt237.2)) : Int).toNat).toList then (some (bt237.1, bt237.2)) else (some ((-1), 0))) else (none)) else (none)) else (none))))
theorem impl_cleanSign.mono : ∀ a0 a1 k, LeO (impl_cleanSign.f k a0 a1) (impl_cleanSign.f (k + 1) a0 a1) := by
 intro a0 a1 k;unfold impl_cleanSign.f;with_reducible repeat' first | exact impl_PutSign.mono _ _ | exact impl_getSign.mono _ _ _ | apply LeO.refl | apply LeO.none | apply LeO.ite | apply LeO.bind | intro
def impl_cleanSign.T4 : Bool × List (List Nat × List Nat) := (true, [([], []), ([0], [0]), ([], []), ([], []), ([], []), ([], []), ([4, 5], [4, 5]), ([2, 3, 6], [2, 3, 6]), ([1, 7], [1, 7])])
def impl_cleanSign.B4 : List Nat := [0, 1, 0, 0, 0, 0, 48, 124, 255]
theorem impl_cleanSign.tab4 : rtab .any (opsOf Tryz.f55 4) = impl_cleanSign.T4 := by kernel_rfl
theorem impl_cleanSign.bits4 : waitsOk impl_cleanSign.T4.2 impl_cleanSign.B4 = true := by kernel_rfl
theorem impl_cleanSign.calls (k : Nat) (a0 : BA) (a1 : Int) (r1 : Int) (r2 : Int) (w : World) (h : impl_cleanSign.f k a0 a1 = some (r1, r2)) :
  Calls Tryz.prog 55 #[.string a0, .int .i64 a1] w fun e w' => e = .returned (.tuple #[.int .i64 r1, .int .i64 r2]) ∧ Below w.heap.size w w' := by
 have HB := A_ (Below.refl w.heap.size w);have H : (if a1 ≥ (a0.size : Int) then (some ((-1), 0)) else ((impl_getSign.f k a0 a1).bind fun bt237 => ((impl_PutSign.f k bt237.1).bind fun t239 => (if 0 ≤ a1 then (if a1 ≤ (wrap64 (a1 + bt237.2)) then (if (wrap64 (a1 + bt237.2)) ≤ (a0.size : Int) then (if t239.toList = (a0.extract (a1 : Int).toNat ((wrap64 (a1 + bt237.2)) : Int).toNat).toList then (some (bt237.1, bt237.2)) else (some ((-1), 0))) else (none)) else (none)) else (none))))) = some (r1, r2) := h;clear h;rcases ic_ H with ⟨c3, H⟩ | ⟨c3, H⟩
 ·have c3b0 : decide ((a0.size : Int) ≤ a1) = true := dE_ c3;clear c3;obtain ⟨rfl, rfl⟩ := pi_ H;go_enter Tryz.func55, Tryz.ntmps55
  go_wp2
  go_ret2
  exact ⟨e1_, hB_⟩
 ·have c3b0 : decide ((a0.size : Int) ≤ a1) = false := dF_ c3;clear c3;obtain ⟨⟨t237, t238⟩, A4, H⟩ := ob_ H;(try dsimp only at H)
  obtain ⟨t239, A5, H⟩ := ob_ H;obtain ⟨c6, H⟩ := ifn_ H;have c6b0 := eq_true c6;have c6b1 := dE_ c6;clear c6;obtain ⟨c7, H⟩ := ifn_ H;have c7b0 := eq_true c7;have c7b1 := dE_ c7;obtain ⟨c8, H⟩ := ifn_ H;have c8b0 := eq_true c8;have c8b1 := dE_ c8;rcases ic_ H with ⟨c9, H⟩ | ⟨c9, H⟩
  ·obtain ⟨c9b0, c9b1⟩ := be_ c9;clear c9;obtain ⟨rfl, rfl⟩ := pi_ H;go_enter Tryz.func55, Tryz.ntmps55
   try go_wp2_with (first | ((with_reducible refine gC_ 106 ?_); refine gL_ 15 Tryz.func106 #[.string a0, .int .i64 a1] ?_; refine dm_ (impl_getSign.calls k a0 a1 t237 t238 _ A4.out) fun nd => ?_))
   (try (generalize hwq_ : World.drewN w _ = wq_; have n9_ : As9 (Below _ _ wq_) := ⟨by rw [← hwq_]; exact bN9 HB.out _⟩; clear hwq_ HB; have HB := n9_; clear n9_))
   replace HB := A_ (bD9 HB.out);refine start_ (n := 9) (S := fun w' => True) (ds := []) (tS 9 0) (by kernel_rfl) rfl rfl trivial (fun hHeld => ?_); refine with_tabW impl_cleanSign.tab4 impl_cleanSign.bits4 (fun HT_ HW_ => ?_);generalize World.drew _ = w10 at HB hHeld ⊢;refine pqT_ ?_;refine pgT_ 2 (tB 9 5) ?_;refine pgT_ 3 (tB 9 13) ?_;refine pgT_ 4 (tB 9 29) ?_;refine pgT_ 5 (tB 9 61) ?_;refine pgT_ 6 (tB 9 125) ?_;refine pgT_ 7 (tB 9 253) ?_;refine n1T_ 1 (tS 9 8) rfl fun K hK => ?_
   refine gS_ Tryz.func68 #[.int .i64 t237] ?_;with_reducible refine (impl_PutSign.calls k t237 t239 _ A5.out).mono ?_
   rintro e w11 ⟨rfl, hb⟩;refine ⟨_, rfl, ?_⟩;replace HB := bS_ hb;clear hb;refine hK.out _ _ trivial (fun hHeld => ?_);clear hK K;refine nm_ ?_;refine pqT_ ?_;refine done_ (done_of HT_.out (by kernel_rfl)) ?_;try go_wp2
   go_ret2
   exact ⟨e1_, hB_⟩
  ·obtain ⟨c9b0, c9b1⟩ := bn_ c9;obtain ⟨rfl, rfl⟩ := pi_ H;go_enter Tryz.func55, Tryz.ntmps55
   try go_wp2_with (first | ((with_reducible refine gC_ 106 ?_); refine gL_ 15 Tryz.func106 #[.string a0, .int .i64 a1] ?_; refine dm_ (impl_getSign.calls k a0 a1 t237 t238 _ A4.out) fun nd => ?_))
   (try (generalize hwq_ : World.drewN w _ = wq_; have n9_ : As9 (Below _ _ wq_) := ⟨by rw [← hwq_]; exact bN9 HB.out _⟩; clear hwq_ HB; have HB := n9_; clear n9_))
   replace HB := A_ (bD9 HB.out);refine start_ (n := 9) (S := fun w' => True) (ds := []) (tS 9 0) (by kernel_rfl) rfl rfl trivial (fun hHeld => ?_); refine with_tabW impl_cleanSign.tab4 impl_cleanSign.bits4 (fun HT_ HW_ => ?_);generalize World.drew _ = w12 at HB hHeld ⊢;refine pqT_ ?_;refine pgT_ 2 (tB 9 5) ?_;refine pgT_ 3 (tB 9 13) ?_;refine pgT_ 4 (tB 9 29) ?_;refine pgT_ 5 (tB 9 61) ?_;refine pgT_ 6 (tB 9 125) ?_;refine pgT_ 7 (tB 9 253) ?_;refine n1T_ 1 (tS 9 8) rfl fun K hK => ?_
   refine gS_ Tryz.func68 #[.int .i64 t237] ?_;with_reducible refine (impl_PutSign.calls k t237 t239 _ A5.out).mono ?_
   rintro e w13 ⟨rfl, hb⟩;refine ⟨_, rfl, ?_⟩;replace HB := bS_ hb;clear hb;refine hK.out _ _ trivial (fun hHeld => ?_);clear hK K;refine nm_ ?_;refine pqT_ ?_;refine done_ (done_of HT_.out (by kernel_rfl)) ?_;try go_wp2
   go_ret2
   exact ⟨e1_, hB_⟩
def impl_IsLetter.f (a0 : Int) : Option (Bool) := (impl_inRange.f a0 97 122).bind fun t240 => (if t240 = true then (some true) else ((impl_inRange.f a0 65 90).bind fun t241 => (some t241)))
theorem impl_IsLetter.calls (a0 : Int) (r : Bool) (w : World) (h : impl_IsLetter.f a0 = some r) :
  Calls Tryz.prog 107 #[.int .i64 a0] w fun e w' => e = .returned (.bool r) ∧ Drawn0 w w' := by
 have H : ((impl_inRange.f a0 97 122).bind fun t240 => (if t240 = true then (some true) else ((impl_inRange.f a0 65 90).bind fun t241 => (some t241)))) = some r := h;clear h;obtain ⟨t240, A2, H⟩ := ob_ H;(try dsimp only at H)
 by_cases c3 : t240 = true
 ·subst c3;rw [if_pos rfl] at H;obtain rfl := sI_ H;go_enter Tryz.func107, Tryz.ntmps107
  go_wp2_with (first | ((with_reducible refine gC_ 53 ?_); refine gL_ 4 Tryz.func53 #[.int .i64 a0, .int .i64 97, .int .i64 122] ?_; refine dm_ (impl_inRange.calls a0 97 122 true _ A2.out) fun nd => ?_))
  go_ret
  exact ⟨e2_, d0_⟩
 ·replace c3 := bF_ c3;subst c3;rw [if_neg nF_] at H;obtain ⟨t241, A4, H⟩ := ob_ H;obtain rfl := sI_ H;go_enter Tryz.func107, Tryz.ntmps107
  go_wp2_with (first | ((with_reducible refine gC_ 53 ?_); refine gL_ 4 Tryz.func53 #[.int .i64 a0, .int .i64 97, .int .i64 122] ?_; refine dm_ (impl_inRange.calls a0 97 122 false _ A2.out) fun nd => ?_) | (go_at_call 53; (with_reducible refine (impl_inRange.calls a0 65 90 t241 _ A4.out).mono ?_); rintro e w' ⟨rfl, ⟨nd, rfl⟩⟩))
  go_ret
  exact ⟨e2_, d0_⟩
end Go.Proofs.YtkmmoheeoblmnaaGreatDoor.A
