-- joined by wip/tools/shake.py
import Derived.Test.YtkmmoheeoblmnaaGreatDoorVReTW9
import Derived.Test.YtkmmoheeoblmnaaGreatDoorMReT0
import Derived.Test.YtkmmoheeoblmnaaGreatDoorMReT5
import Derived.Test.YtkmmoheeoblmnaaGreatDoorMReT6
import Derived.Test.YtkmmoheeoblmnaaGreatDoorMReT3
import Derived.Test.YtkmmoheeoblmnaaGreatDoorMReT2
import Derived.Test.YtkmmoheeoblmnaaGreatDoorMReT1
set_option maxHeartbeats 16000000
set_option maxRecDepth 100000
namespace Go.Proofs.YtkmmoheeoblmnaaGreatDoor.A
open Go.RowKit Go.Proofs.YtkmmoheeoblmnaaGreatDoorW.PrintWords Go.Proofs.YtkmmoheeoblmnaaGreatDoorW.PrintLast Go.Proofs.YtkmmoheeoblmnaaGreatDoorW.PrintMore
attribute [local go_sem] max2_int min2_int max_two min_two max_three min_three max_four min_four
set_option linter.unusedVariables false
set_option linter.unusedSimpArgs false
def spec_l15Attrs.l0 : Nat → List (S36) → Int → Option (Bool)
 | 0, _, _ => none
 | k + 1, x0, x3 => if x3 < (x0.length : Int) then (if 0 ≤ x3 then ((spec_NameOk.f k ((rd_T36 x0 x3).f0)).bind fun t523 => (if t523 = true then (if ((rd_T36 x0 x3).f0).toList = ([120, 109, 108, 110, 115] : List UInt8) then (some false) else ((spec_TextOk.f k ((rd_T36 x0 x3).f1)).bind fun t526 => (if t526 = true then (if x3 ≤ (x0.length : Int) then ((spec_l4Has.f k (x0.take (x3 : Int).toNat) ((rd_T36 x0 x3).f0)).bind fun t532 => (if t532 = true then (some false) else (spec_l15Attrs.l0 k x0 (wrap64 (x3 + 1))))) else (none)) else (some false)))) else (some false))) else (none)) else (some true)
def spec_l15Attrs.f (k : Nat) (l0 : List (S36)) : Option (Bool) := spec_l15Attrs.l0 k l0 0
theorem spec_l15Attrs.mono_l : ∀ k, (∀ y0 y1, LeO (spec_l15Attrs.l0 k y0 y1) (spec_l15Attrs.l0 (k + 1) y0 y1))
 | 0 => fun _ _ r h => by simp [spec_l15Attrs.l0] at h
 | k + 1 => by
  have ih0 := spec_l15Attrs.mono_l k
  ·intro y0 y1;unfold spec_l15Attrs.l0;with_reducible repeat' first | exact ih0 _ _ | exact spec_NameOk.mono _ _ | exact spec_TextOk.mono _ _ | exact spec_l4Has.mono _ _ _ | apply LeO.refl | apply LeO.none | apply LeO.ite | apply LeO.bind | intro
theorem spec_l15Attrs.mono : ∀ a0 k, LeO (spec_l15Attrs.f k a0) (spec_l15Attrs.f (k + 1) a0) := by
 intro a0 k;have ih0 := spec_l15Attrs.mono_l k;unfold spec_l15Attrs.f;with_reducible repeat' first | exact ih0 _ _ | exact spec_NameOk.mono _ _ | exact spec_TextOk.mono _ _ | exact spec_l4Has.mono _ _ _ | apply LeO.refl | apply LeO.none | apply LeO.ite | apply LeO.bind | intro
def spec_l15Attrs.T4 : Bool × List (List Nat × List Nat) := (true, [([], []), ([], []), ([0, 1], [0, 1]), ([2], [2]), ([3], [3]), ([4], [4]), ([5], [5]), ([6, 5], [6]), ([7], [7]), ([7], [7]), ([8, 9, 7], [7, 8, 9]), ([10, 7], [7, 10]), ([11, 7], [7, 11]), ([12, 7], [7, 12]), ([7, 13], [7, 13]), ([14, 7], [14]), ([15], [15]), ([15], [15]), ([16, 17, 15], [15, 16, 17]), ([18, 15], [15, 18]), ([19, 15], [15, 19]), ([20, 15, 15], [15, 20]), ([21, 15], [15, 21]), ([15, 22], [15, 22]), ([23, 21], [23]), ([24], [24]), ([24], [24]), ([25, 26, 24], [24, 25, 26]), ([24], [24]), ([24], [24]), ([28, 29, 24], [24, 28, 29]), ([30, 24], [24, 30]), ([31, 24], [24, 31]), ([27, 32, 24, 24], [24, 27, 32]), ([24, 33], [24, 33])])
def spec_l15Attrs.B4 : List Nat := [0, 0, 3, 7, 15, 31, 63, 127, 255, 255, 1023, 2047, 4095, 8191, 16383, 32767, 65535, 65535, 262143, 524287, 1048575, 2097151, 4194303, 8388607, 16777215, 33554431, 33554431, 134217727, 33554431, 33554431, 838860799, 1912602623, 4060086271, 8589934591, 17179869183]
theorem spec_l15Attrs.tab4 : rtab .any (opsOf Tryz.f171 4) = spec_l15Attrs.T4 := by kernel_rfl
theorem spec_l15Attrs.bits4 : waitsOk spec_l15Attrs.T4.2 spec_l15Attrs.B4 = true := by kernel_rfl
theorem spec_l15Attrs.calls (k : Nat) (A0 : Option Addr) (c0 : Nat) (l0 : List (S36)) (r : Bool) (w : World) (hr0 : Kd.C k36 w A0 l0.length l0) (hc0 : l0.length ≤ c0) (h : spec_l15Attrs.f k l0 = some r) :
  Calls Tryz.prog 171 #[.slice A0 l0.length c0] w fun e w' => e = .returned (.bool r) ∧ Below w.heap.size w w' := by
 have HR0 := A_ hr0;have HC0 := A_ hc0;clear hr0 hc0;have HB := A_ (Below.refl w.heap.size w);have H : (spec_l15Attrs.l0 k l0 0) = some r := h;clear h;have H' := A_ H;clear H;go_enter Tryz.func171, Tryz.ntmps171
 go_wp2
 go_loopg [3] k (fun kq v3 w' => ∃ (x3_1 : Int), v3 = .int .i64 x3_1 ∧ As9 (spec_l15Attrs.l0 kq l0 x3_1 = some r) ∧ As9 (kq ≤ k) ∧ As9 (Below w.heap.size w w'))
 case atStart => exact ⟨(0), e2_, H', ⟨Nat.le_refl _⟩, ⟨hB_⟩⟩
 case round =>
  clear H';try clear c1
  obtain ⟨x3_1, rfl, HA, HK1, HB⟩ := hrel;cases gk with
  | zero => exact absurd HA.out (by simp [spec_l15Attrs.l0])
  | succ k1 =>
   have H := HA.out;clear HA;simp only [spec_l15Attrs.l0] at H;rcases ic_ H with ⟨c2, H⟩ | ⟨c2, H⟩
   ·have c2b0 := dE_ c2;clear c2;obtain ⟨c3, H⟩ := ifn_ H;have c3b0 := dE_ c3;clear c3;obtain ⟨t523, A4, H⟩ := ob_ H;(try dsimp only at H)
    by_cases c5 : t523 = true
    ·subst c5;rw [if_pos rfl] at H;rcases ic_ H with ⟨c6, H⟩ | ⟨c6, H⟩
     ·obtain ⟨c6b0, c6b1⟩ := be_ c6;clear c6;obtain rfl := sI_ H;try go_wp2
      replace HB := A_ (bD9 HB.out);obtain ⟨p522, q522, ad522, e522, hw522_0, hw522_1, hx522_0, hx522_1⟩ := aW36_ HB.out HR0.out x3_1;cases e522;obtain ⟨p524, q524, ad524, e524, hw524_0, hw524_1, hx524_0, hx524_1⟩ := aW36_ HB.out HR0.out x3_1;obtain rfl : ad522 = ad524 := (by injection e524);refine start_ (n := 35) (S := fun w' => w'.cell? (ad522.add ((x3_1).toNat * 2)) = some (.string ((rd_T36 l0 x3_1).f0)) ∧ w'.cell? ⟨(ad522.add ((x3_1).toNat * 2)).block, (ad522.add ((x3_1).toNat * 2)).off + 1, none⟩ = some (.string ((rd_T36 l0 x3_1).f1)) ∧ w'.cell? (ad522.add ((x3_1).toNat * 2)) = some (.string ((rd_T36 l0 x3_1).f0)) ∧ w'.cell? ⟨(ad522.add ((x3_1).toNat * 2)).block, (ad522.add ((x3_1).toNat * 2)).off + 1, none⟩ = some (.string ((rd_T36 l0 x3_1).f1))) (ds := []) (tS 35 0) (by kernel_rfl) rfl rfl ⟨(cB_ HB.out hw522_0), (cB_ HB.out hw522_1), (cB_ HB.out hw524_0), (cB_ HB.out hw524_1)⟩ (fun hHeld => ?_); refine with_tabW spec_l15Attrs.tab4 spec_l15Attrs.bits4 (fun HT_ HW_ => ?_);generalize wr.drew = w7 at HB hx522_0 hx522_1 hx524_0 hx524_1 hHeld ⊢;iterate 4 refine pqT_ ?_
      refine tqT_ rfl (by rintro w' ⟨s0, s1, s2, s3⟩; go_simp; with_reducible rfl) ?_;refine n1T_ 5 (tS 35 6) rfl fun K hK => ?_
      refine gS_ Tryz.func170 #[.string ((rd_T36 l0 x3_1).f0)] ?_;with_reducible refine (spec_NameOk.calls k1 ((rd_T36 l0 x3_1).f0) true _ A4.out).mono ?_
      rintro e w8 ⟨rfl, hb⟩;refine ⟨_, rfl, ?_⟩;replace HB := bS_ hb;clear hb;refine hK.out _ _ ⟨(cB_ HB.out hw522_0), (cB_ HB.out hw522_1), (cB_ HB.out hw524_0), (cB_ HB.out hw524_1)⟩ (fun hHeld => ?_);clear hK K;refine nm_ ?_;iterate 6 refine pqT_ ?_
      refine tqT_ rfl (by rintro w' ⟨s0, s1, s2, s3⟩; go_simp; with_reducible rfl) ?_;iterate 3 refine pqT_ ?_
      iterate 7 refine oqT_ ?_
      refine pqT_ ?_;refine pqT_ ?_;iterate 9 refine oqT_ ?_
      refine pqT_ ?_;refine done_ (done_of HT_.out (by kernel_rfl)) ?_;try go_wp2
      go_ret
      exact ⟨e1_, hB_⟩
     ·obtain ⟨c6b0, c6b1⟩ := bn_ c6;obtain ⟨t526, A9, H⟩ := ob_ H;(try dsimp only at H)
      by_cases c10 : t526 = true
      ·subst c10;rw [if_pos rfl] at H;have c11b0 := eq_true (dT_ : 0 ≤ x3_1);obtain ⟨c12, H⟩ := ifn_ H;have c12b0 := eq_true c12;have c12b1 := dE_ c12;clear c12;obtain ⟨y527, hy527⟩ : ∃ y_ : List (S36), y_ = (l0.take (x3_1 : Int).toNat) := ⟨_, rfl⟩;replace H : ((spec_l4Has.f k1 y527 ((rd_T36 l0 x3_1).f0)).bind fun t532 => (if t532 = true then (some false) else (spec_l15Attrs.l0 k1 l0 (wrap64 (x3_1 + 1))))) = some r := by first | (rw [hy527]; with_reducible exact H) | (have H2_ := (Option.bind_some _ _).symm.trans H; rw [hy527]; with_reducible exact H2_) | (have H2_ := (Option.bind_some _ _).symm.trans H; with_reducible exact H2_) | with_reducible exact H | (rw [hy527]; exact H) | exact H
       have Ny527 := A_ hy527;clear hy527;obtain ⟨t532, A13, H⟩ := ob_ H;(try dsimp only at H)
       by_cases c14 : t532 = true
       ·subst c14;rw [if_pos rfl] at H;obtain rfl := sI_ H;try go_wp2
        replace HB := A_ (bD9 HB.out);obtain ⟨p522, q522, ad522, e522, hw522_0, hw522_1, hx522_0, hx522_1⟩ := aW36_ HB.out HR0.out x3_1;cases e522;obtain ⟨p524, q524, ad524, e524, hw524_0, hw524_1, hx524_0, hx524_1⟩ := aW36_ HB.out HR0.out x3_1;obtain rfl : ad522 = ad524 := (by injection e524);obtain ⟨p525, q525, ad525, e525, hw525_0, hw525_1, hx525_0, hx525_1⟩ := aW36_ HB.out HR0.out x3_1;obtain rfl : ad522 = ad525 := (by injection e525);obtain ⟨p531, q531, ad531, e531, hw531_0, hw531_1, hx531_0, hx531_1⟩ := aW36_ HB.out HR0.out x3_1;obtain rfl : ad522 = ad531 := (by injection e531);refine start_ (n := 35) (S := fun w' => w'.cell? (ad522.add ((x3_1).toNat * 2)) = some (.string ((rd_T36 l0 x3_1).f0)) ∧ w'.cell? ⟨(ad522.add ((x3_1).toNat * 2)).block, (ad522.add ((x3_1).toNat * 2)).off + 1, none⟩ = some (.string ((rd_T36 l0 x3_1).f1)) ∧ w'.cell? (ad522.add ((x3_1).toNat * 2)) = some (.string ((rd_T36 l0 x3_1).f0)) ∧ w'.cell? ⟨(ad522.add ((x3_1).toNat * 2)).block, (ad522.add ((x3_1).toNat * 2)).off + 1, none⟩ = some (.string ((rd_T36 l0 x3_1).f1)) ∧ w'.cell? (ad522.add ((x3_1).toNat * 2)) = some (.string ((rd_T36 l0 x3_1).f0)) ∧ w'.cell? ⟨(ad522.add ((x3_1).toNat * 2)).block, (ad522.add ((x3_1).toNat * 2)).off + 1, none⟩ = some (.string ((rd_T36 l0 x3_1).f1)) ∧ w'.cell? (ad522.add ((x3_1).toNat * 2)) = some (.string ((rd_T36 l0 x3_1).f0)) ∧ w'.cell? ⟨(ad522.add ((x3_1).toNat * 2)).block, (ad522.add ((x3_1).toNat * 2)).off + 1, none⟩ = some (.string ((rd_T36 l0 x3_1).f1))) (ds := []) (tS 35 0) (by kernel_rfl) rfl rfl ⟨(cB_ HB.out hw522_0), (cB_ HB.out hw522_1), (cB_ HB.out hw524_0), (cB_ HB.out hw524_1), (cB_ HB.out hw525_0), (cB_ HB.out hw525_1), (cB_ HB.out hw531_0), (cB_ HB.out hw531_1)⟩ (fun hHeld => ?_); refine with_tabW spec_l15Attrs.tab4 spec_l15Attrs.bits4 (fun HT_ HW_ => ?_);generalize wr.drew = w15 at HB hx522_0 hx522_1 hx524_0 hx524_1 hx525_0 hx525_1 hx531_0 hx531_1 hHeld ⊢;iterate 4 refine pqT_ ?_
        refine tqT_ rfl (by rintro w' ⟨s0, s1, s2, s3, s4, s5, s6, s7⟩; go_simp; with_reducible rfl) ?_;refine n1T_ 5 (tS 35 6) rfl fun K hK => ?_
        refine gS_ Tryz.func170 #[.string ((rd_T36 l0 x3_1).f0)] ?_;with_reducible refine (spec_NameOk.calls k1 ((rd_T36 l0 x3_1).f0) true _ A4.out).mono ?_
        rintro e w16 ⟨rfl, hb⟩;refine ⟨_, rfl, ?_⟩;replace HB := bS_ hb;clear hb;refine hK.out _ _ ⟨(cB_ HB.out hw522_0), (cB_ HB.out hw522_1), (cB_ HB.out hw524_0), (cB_ HB.out hw524_1), (cB_ HB.out hw525_0), (cB_ HB.out hw525_1), (cB_ HB.out hw531_0), (cB_ HB.out hw531_1)⟩ (fun hHeld => ?_);clear hK K;refine nm_ ?_;iterate 6 refine pqT_ ?_
        refine tqT_ rfl (by rintro w' ⟨s0, s1, s2, s3, s4, s5, s6, s7⟩; go_simp; with_reducible rfl) ?_;iterate 7 refine pqT_ ?_
        refine tqT_ rfl (by rintro w' ⟨s0, s1, s2, s3, s4, s5, s6, s7⟩; go_simp; with_reducible rfl) ?_;refine n1T_ 21 (tS 35 22) rfl fun K hK => ?_
        refine gS_ Tryz.func129 #[.string ((rd_T36 l0 x3_1).f1)] ?_;with_reducible refine (spec_TextOk.calls k1 ((rd_T36 l0 x3_1).f1) true _ A9.out).mono ?_
        rintro e w17 ⟨rfl, hb⟩;refine ⟨_, rfl, ?_⟩;replace HB := bS_ hb;clear hb;have q18 : (x3_1 : Int) ≤ ((l0.length : Int) : Int) := dT_;obtain ⟨i018, hi018, _, hsz18, _⟩ := info_parts info36;have hroom18 : l0.length ≤ c0 := HC0.out;have hC18 : Kd.C k36 _ (some ad522) l0.length l0 := HR0.out;have hcut18 := cut_to (P := Tryz.prog) 40 36 .i64 Tryz.underlying40 hi018 (some ad522) l0.length c0 x3_1 (dT_) q18 hroom18;have hr18 := Kd.C_take (m := (x3_1 : Int).toNat) hC18 om_;have hy18 : y527.length = (x3_1 : Int).toNat := (by rw [Ny527.out, List.length_take]; omega);rw [← Ny527.out] at hr18;rw [← hy18] at hcut18;have HR530 := A_ hr18;have HC530 := A_ (show y527.length ≤ c0 from by omega);clear hr18 hC18 hroom18 hi018 hsz18;have KY18 := A_ hy18;clear hy18;replace q18 := eq_true q18;refine hK.out _ _ ⟨(cB_ HB.out hw522_0), (cB_ HB.out hw522_1), (cB_ HB.out hw524_0), (cB_ HB.out hw524_1), (cB_ HB.out hw525_0), (cB_ HB.out hw525_1), (cB_ HB.out hw531_0), (cB_ HB.out hw531_1)⟩ (fun hHeld => ?_);clear hK K;refine nm_ ?_;iterate 10 refine pqT_ ?_
        refine tqT_ rfl (by rintro w' ⟨s0, s1, s2, s3, s4, s5, s6, s7⟩; go_simp; with_reducible rfl) ?_;refine n1T_ 33 (tS 35 34) rfl fun K hK => ?_
        refine gS_ Tryz.func168 #[.slice (some ad522) y527.length c0, .string ((rd_T36 l0 x3_1).f0)] ?_;with_reducible refine (spec_l4Has.calls k1 _ _ y527 ((rd_T36 l0 x3_1).f0) true _ ?side1 ?side2 A13.out).mono ?_
        (case side1 => exact Kd.C_below HR530.out hB_)
        (case side2 => exact HC530.out)
        rintro e w' ⟨rfl, ⟨nd, rfl⟩⟩;refine ⟨_, rfl, ?_⟩;refine hK.out _ _ ⟨(cB_ HB.out hw522_0), (cB_ HB.out hw522_1), (cB_ HB.out hw524_0), (cB_ HB.out hw524_1), (cB_ HB.out hw525_0), (cB_ HB.out hw525_1), (cB_ HB.out hw531_0), (cB_ HB.out hw531_1)⟩ (fun hHeld => ?_);clear hK K;refine nm_ ?_;refine pqT_ ?_;refine done_ (done_of HT_.out (by kernel_rfl)) ?_;try go_wp2
        go_ret
        exact ⟨e1_, hB_⟩
       ·replace c14 := bF_ c14;subst c14;rw [if_neg nF_] at H;have H' := A_ H;clear H;try go_wp2
        replace HB := A_ (bD9 HB.out);obtain ⟨p522, q522, ad522, e522, hw522_0, hw522_1, hx522_0, hx522_1⟩ := aW36_ HB.out HR0.out x3_1;cases e522;obtain ⟨p524, q524, ad524, e524, hw524_0, hw524_1, hx524_0, hx524_1⟩ := aW36_ HB.out HR0.out x3_1;obtain rfl : ad522 = ad524 := (by injection e524);obtain ⟨p525, q525, ad525, e525, hw525_0, hw525_1, hx525_0, hx525_1⟩ := aW36_ HB.out HR0.out x3_1;obtain rfl : ad522 = ad525 := (by injection e525);obtain ⟨p531, q531, ad531, e531, hw531_0, hw531_1, hx531_0, hx531_1⟩ := aW36_ HB.out HR0.out x3_1;obtain rfl : ad522 = ad531 := (by injection e531);refine start_ (n := 35) (S := fun w' => w'.cell? (ad522.add ((x3_1).toNat * 2)) = some (.string ((rd_T36 l0 x3_1).f0)) ∧ w'.cell? ⟨(ad522.add ((x3_1).toNat * 2)).block, (ad522.add ((x3_1).toNat * 2)).off + 1, none⟩ = some (.string ((rd_T36 l0 x3_1).f1)) ∧ w'.cell? (ad522.add ((x3_1).toNat * 2)) = some (.string ((rd_T36 l0 x3_1).f0)) ∧ w'.cell? ⟨(ad522.add ((x3_1).toNat * 2)).block, (ad522.add ((x3_1).toNat * 2)).off + 1, none⟩ = some (.string ((rd_T36 l0 x3_1).f1)) ∧ w'.cell? (ad522.add ((x3_1).toNat * 2)) = some (.string ((rd_T36 l0 x3_1).f0)) ∧ w'.cell? ⟨(ad522.add ((x3_1).toNat * 2)).block, (ad522.add ((x3_1).toNat * 2)).off + 1, none⟩ = some (.string ((rd_T36 l0 x3_1).f1)) ∧ w'.cell? (ad522.add ((x3_1).toNat * 2)) = some (.string ((rd_T36 l0 x3_1).f0)) ∧ w'.cell? ⟨(ad522.add ((x3_1).toNat * 2)).block, (ad522.add ((x3_1).toNat * 2)).off + 1, none⟩ = some (.string ((rd_T36 l0 x3_1).f1))) (ds := []) (tS 35 0) (by kernel_rfl) rfl rfl ⟨(cB_ HB.out hw522_0), (cB_ HB.out hw522_1), (cB_ HB.out hw524_0), (cB_ HB.out hw524_1), (cB_ HB.out hw525_0), (cB_ HB.out hw525_1), (cB_ HB.out hw531_0), (cB_ HB.out hw531_1)⟩ (fun hHeld => ?_); refine with_tabW spec_l15Attrs.tab4 spec_l15Attrs.bits4 (fun HT_ HW_ => ?_);generalize wr.drew = w19 at HB hx522_0 hx522_1 hx524_0 hx524_1 hx525_0 hx525_1 hx531_0 hx531_1 hHeld ⊢;iterate 4 refine pqT_ ?_
        refine tqT_ rfl (by rintro w' ⟨s0, s1, s2, s3, s4, s5, s6, s7⟩; go_simp; with_reducible rfl) ?_;refine n1T_ 5 (tS 35 6) rfl fun K hK => ?_
        refine gS_ Tryz.func170 #[.string ((rd_T36 l0 x3_1).f0)] ?_;with_reducible refine (spec_NameOk.calls k1 ((rd_T36 l0 x3_1).f0) true _ A4.out).mono ?_
        rintro e w20 ⟨rfl, hb⟩;refine ⟨_, rfl, ?_⟩;replace HB := bS_ hb;clear hb;refine hK.out _ _ ⟨(cB_ HB.out hw522_0), (cB_ HB.out hw522_1), (cB_ HB.out hw524_0), (cB_ HB.out hw524_1), (cB_ HB.out hw525_0), (cB_ HB.out hw525_1), (cB_ HB.out hw531_0), (cB_ HB.out hw531_1)⟩ (fun hHeld => ?_);clear hK K;refine nm_ ?_;iterate 6 refine pqT_ ?_
        refine tqT_ rfl (by rintro w' ⟨s0, s1, s2, s3, s4, s5, s6, s7⟩; go_simp; with_reducible rfl) ?_;iterate 7 refine pqT_ ?_
        refine tqT_ rfl (by rintro w' ⟨s0, s1, s2, s3, s4, s5, s6, s7⟩; go_simp; with_reducible rfl) ?_;refine n1T_ 21 (tS 35 22) rfl fun K hK => ?_
        refine gS_ Tryz.func129 #[.string ((rd_T36 l0 x3_1).f1)] ?_;with_reducible refine (spec_TextOk.calls k1 ((rd_T36 l0 x3_1).f1) true _ A9.out).mono ?_
        rintro e w21 ⟨rfl, hb⟩;refine ⟨_, rfl, ?_⟩;replace HB := bS_ hb;clear hb;have q22 : (x3_1 : Int) ≤ ((l0.length : Int) : Int) := dT_;obtain ⟨i022, hi022, _, hsz22, _⟩ := info_parts info36;have hroom22 : l0.length ≤ c0 := HC0.out;have hC22 : Kd.C k36 _ (some ad522) l0.length l0 := HR0.out;have hcut22 := cut_to (P := Tryz.prog) 40 36 .i64 Tryz.underlying40 hi022 (some ad522) l0.length c0 x3_1 (dT_) q22 hroom22;have hr22 := Kd.C_take (m := (x3_1 : Int).toNat) hC22 om_;have hy22 : y527.length = (x3_1 : Int).toNat := (by rw [Ny527.out, List.length_take]; omega);rw [← Ny527.out] at hr22;rw [← hy22] at hcut22;have HR530 := A_ hr22;have HC530 := A_ (show y527.length ≤ c0 from by omega);clear hr22 hC22 hroom22 hi022 hsz22;have KY22 := A_ hy22;clear hy22;replace q22 := eq_true q22;refine hK.out _ _ ⟨(cB_ HB.out hw522_0), (cB_ HB.out hw522_1), (cB_ HB.out hw524_0), (cB_ HB.out hw524_1), (cB_ HB.out hw525_0), (cB_ HB.out hw525_1), (cB_ HB.out hw531_0), (cB_ HB.out hw531_1)⟩ (fun hHeld => ?_);clear hK K;refine nm_ ?_;iterate 10 refine pqT_ ?_
        refine tqT_ rfl (by rintro w' ⟨s0, s1, s2, s3, s4, s5, s6, s7⟩; go_simp; with_reducible rfl) ?_;refine n1T_ 33 (tS 35 34) rfl fun K hK => ?_
        refine gS_ Tryz.func168 #[.slice (some ad522) y527.length c0, .string ((rd_T36 l0 x3_1).f0)] ?_;with_reducible refine (spec_l4Has.calls k1 _ _ y527 ((rd_T36 l0 x3_1).f0) false _ ?side1 ?side2 A13.out).mono ?_
        (case side1 => exact Kd.C_below HR530.out hB_)
        (case side2 => exact HC530.out)
        rintro e w' ⟨rfl, ⟨nd, rfl⟩⟩;refine ⟨_, rfl, ?_⟩;refine hK.out _ _ ⟨(cB_ HB.out hw522_0), (cB_ HB.out hw522_1), (cB_ HB.out hw524_0), (cB_ HB.out hw524_1), (cB_ HB.out hw525_0), (cB_ HB.out hw525_1), (cB_ HB.out hw531_0), (cB_ HB.out hw531_1)⟩ (fun hHeld => ?_);clear hK K;refine nm_ ?_;refine pqT_ ?_;refine done_ (done_of HT_.out (by kernel_rfl)) ?_;try go_wp2
        go_roundg k1
        case measure => have := HK1.out; omega
        case rel => exact ⟨(wrap64 (x3_1 + 1)), e2_, H', ⟨by have := HK1.out; omega⟩, ⟨hB_⟩⟩
      ·replace c10 := bF_ c10;subst c10;rw [if_neg nF_] at H;obtain rfl := sI_ H;try go_wp2
       replace HB := A_ (bD9 HB.out);obtain ⟨p522, q522, ad522, e522, hw522_0, hw522_1, hx522_0, hx522_1⟩ := aW36_ HB.out HR0.out x3_1;cases e522;obtain ⟨p524, q524, ad524, e524, hw524_0, hw524_1, hx524_0, hx524_1⟩ := aW36_ HB.out HR0.out x3_1;obtain rfl : ad522 = ad524 := (by injection e524);obtain ⟨p525, q525, ad525, e525, hw525_0, hw525_1, hx525_0, hx525_1⟩ := aW36_ HB.out HR0.out x3_1;obtain rfl : ad522 = ad525 := (by injection e525);refine start_ (n := 35) (S := fun w' => w'.cell? (ad522.add ((x3_1).toNat * 2)) = some (.string ((rd_T36 l0 x3_1).f0)) ∧ w'.cell? ⟨(ad522.add ((x3_1).toNat * 2)).block, (ad522.add ((x3_1).toNat * 2)).off + 1, none⟩ = some (.string ((rd_T36 l0 x3_1).f1)) ∧ w'.cell? (ad522.add ((x3_1).toNat * 2)) = some (.string ((rd_T36 l0 x3_1).f0)) ∧ w'.cell? ⟨(ad522.add ((x3_1).toNat * 2)).block, (ad522.add ((x3_1).toNat * 2)).off + 1, none⟩ = some (.string ((rd_T36 l0 x3_1).f1)) ∧ w'.cell? (ad522.add ((x3_1).toNat * 2)) = some (.string ((rd_T36 l0 x3_1).f0)) ∧ w'.cell? ⟨(ad522.add ((x3_1).toNat * 2)).block, (ad522.add ((x3_1).toNat * 2)).off + 1, none⟩ = some (.string ((rd_T36 l0 x3_1).f1))) (ds := []) (tS 35 0) (by kernel_rfl) rfl rfl ⟨(cB_ HB.out hw522_0), (cB_ HB.out hw522_1), (cB_ HB.out hw524_0), (cB_ HB.out hw524_1), (cB_ HB.out hw525_0), (cB_ HB.out hw525_1)⟩ (fun hHeld => ?_); refine with_tabW spec_l15Attrs.tab4 spec_l15Attrs.bits4 (fun HT_ HW_ => ?_);generalize wr.drew = w23 at HB hx522_0 hx522_1 hx524_0 hx524_1 hx525_0 hx525_1 hHeld ⊢;iterate 4 refine pqT_ ?_
       refine tqT_ rfl (by rintro w' ⟨s0, s1, s2, s3, s4, s5⟩; go_simp; with_reducible rfl) ?_;refine n1T_ 5 (tS 35 6) rfl fun K hK => ?_
       refine gS_ Tryz.func170 #[.string ((rd_T36 l0 x3_1).f0)] ?_;with_reducible refine (spec_NameOk.calls k1 ((rd_T36 l0 x3_1).f0) true _ A4.out).mono ?_
       rintro e w24 ⟨rfl, hb⟩;refine ⟨_, rfl, ?_⟩;replace HB := bS_ hb;clear hb;refine hK.out _ _ ⟨(cB_ HB.out hw522_0), (cB_ HB.out hw522_1), (cB_ HB.out hw524_0), (cB_ HB.out hw524_1), (cB_ HB.out hw525_0), (cB_ HB.out hw525_1)⟩ (fun hHeld => ?_);clear hK K;refine nm_ ?_;iterate 6 refine pqT_ ?_
       refine tqT_ rfl (by rintro w' ⟨s0, s1, s2, s3, s4, s5⟩; go_simp; with_reducible rfl) ?_;iterate 7 refine pqT_ ?_
       refine tqT_ rfl (by rintro w' ⟨s0, s1, s2, s3, s4, s5⟩; go_simp; with_reducible rfl) ?_;refine n1T_ 21 (tS 35 22) rfl fun K hK => ?_
       refine gS_ Tryz.func129 #[.string ((rd_T36 l0 x3_1).f1)] ?_;with_reducible refine (spec_TextOk.calls k1 ((rd_T36 l0 x3_1).f1) false _ A9.out).mono ?_
       rintro e w25 ⟨rfl, hb⟩;refine ⟨_, rfl, ?_⟩;replace HB := bS_ hb;clear hb;refine hK.out _ _ ⟨(cB_ HB.out hw522_0), (cB_ HB.out hw522_1), (cB_ HB.out hw524_0), (cB_ HB.out hw524_1), (cB_ HB.out hw525_0), (cB_ HB.out hw525_1)⟩ (fun hHeld => ?_);clear hK K;refine nm_ ?_;iterate 3 refine pqT_ ?_
       iterate 9 refine oqT_ ?_
       refine pqT_ ?_;refine done_ (done_of HT_.out (by kernel_rfl)) ?_;try go_wp2
       go_ret
       exact ⟨e1_, hB_⟩
    ·replace c5 := bF_ c5;subst c5;rw [if_neg nF_] at H;obtain rfl := sI_ H;try go_wp2
     replace HB := A_ (bD9 HB.out);obtain ⟨p522, q522, ad522, e522, hw522_0, hw522_1, hx522_0, hx522_1⟩ := aW36_ HB.out HR0.out x3_1;cases e522;refine start_ (n := 35) (S := fun w' => w'.cell? (ad522.add ((x3_1).toNat * 2)) = some (.string ((rd_T36 l0 x3_1).f0)) ∧ w'.cell? ⟨(ad522.add ((x3_1).toNat * 2)).block, (ad522.add ((x3_1).toNat * 2)).off + 1, none⟩ = some (.string ((rd_T36 l0 x3_1).f1))) (ds := []) (tS 35 0) (by kernel_rfl) rfl rfl ⟨(cB_ HB.out hw522_0), (cB_ HB.out hw522_1)⟩ (fun hHeld => ?_); refine with_tabW spec_l15Attrs.tab4 spec_l15Attrs.bits4 (fun HT_ HW_ => ?_);generalize wr.drew = w26 at HB hx522_0 hx522_1 hHeld ⊢;iterate 4 refine pqT_ ?_
     refine tqT_ rfl (by rintro w' ⟨s0, s1⟩; go_simp; with_reducible rfl) ?_;refine n1T_ 5 (tS 35 6) rfl fun K hK => ?_
     refine gS_ Tryz.func170 #[.string ((rd_T36 l0 x3_1).f0)] ?_;with_reducible refine (spec_NameOk.calls k1 ((rd_T36 l0 x3_1).f0) false _ A4.out).mono ?_
     rintro e w27 ⟨rfl, hb⟩;refine ⟨_, rfl, ?_⟩;replace HB := bS_ hb;clear hb;refine hK.out _ _ ⟨(cB_ HB.out hw522_0), (cB_ HB.out hw522_1)⟩ (fun hHeld => ?_);clear hK K;refine nm_ ?_;refine pqT_ ?_;refine pqT_ ?_;iterate 6 refine oqT_ ?_
     refine pqT_ ?_;refine pqT_ ?_;iterate 7 refine oqT_ ?_
     refine pqT_ ?_;refine pqT_ ?_;iterate 9 refine oqT_ ?_
     refine pqT_ ?_;refine done_ (done_of HT_.out (by kernel_rfl)) ?_;try go_wp2
     go_ret
     exact ⟨e1_, hB_⟩
   ·have c2b0 := dF_ c2;clear c2;obtain rfl := sI_ H;go_wp2
    go_ret
    exact ⟨e1_, hB_⟩
mutual
def spec_l15El.l0 : Nat → Int → Int → Int → ByteArray → List (S36) → ByteArray → List (S43) → Option (Bool)
 | 0, _, _, _, _, _, _, _ => none
 | k + 1, x3, x534000, x534001, x534002, x534003, x534004, x534005 => if x3 < (x534005.length : Int) then (if 0 ≤ x3 then ((spec_l15El.f k ((rd_T43 x534005 x3).f0) ((rd_T43 x534005 x3).f1) ((rd_T43 x534005 x3).f2) ((rd_T43 x534005 x3).f3) ((rd_T43 x534005 x3).f4) ((rd_T43 x534005 x3).f5)).bind fun t535 => (if t535 = true then (if x3 > 0 then (if ((rd_T43 x534005 x3).f0) = 2 then (if 0 ≤ (wrap64 (x3 - 1)) then (if (wrap64 (x3 - 1)) < (x534005.length : Int) then (if ((rd_T43 x534005 (wrap64 (x3 - 1))).f0) = 2 then (some false) else (spec_l15El.l0 k (wrap64 (x3 + 1)) x534000 x534001 x534002 x534003 x534004 x534005)) else (none)) else (none)) else (spec_l15El.l0 k (wrap64 (x3 + 1)) x534000 x534001 x534002 x534003 x534004 x534005)) else (spec_l15El.l0 k (wrap64 (x3 + 1)) x534000 x534001 x534002 x534003 x534004 x534005)) else (some false))) else (none)) else (if x534001 = 0 then (if x534002.toList = ([] : List UInt8) then (if (x534003.length : Int) = 0 then (spec_l15El.j1 k ((x534005.length : Int) == 0) x534000 x534001 x534002 x534003 x534004 x534005) else (spec_l15El.j1 k false x534000 x534001 x534002 x534003 x534004 x534005)) else (spec_l15El.j1 k false x534000 x534001 x534002 x534003 x534004 x534005)) else (spec_l15El.j1 k false x534000 x534001 x534002 x534003 x534004 x534005))
def spec_l15El.j1 : Nat → Bool → Int → Int → ByteArray → List (S36) → ByteArray → List (S43) → Option (Bool)
 | 0, _, _, _, _, _, _, _ => none
 | k + 1, x4, x534000, x534001, x534002, x534003, x534004, x534005 => if x534000 = 1 then ((spec_l1In.f x534001 0 2).bind fun t538 => (if t538 = true then ((spec_NameOk.f k x534002).bind fun t539 => (if t539 = true then ((spec_l15Attrs.f k x534003).bind fun t540 => (if t540 = true then (some (x534004.toList == ([] : List UInt8))) else (some false))) else (some false))) else (some false))) else (if x534000 = 2 then (if x4 = true then (if x534004.toList = ([] : List UInt8) then (some false) else ((spec_TextOk.f k x534004).bind fun t541 => (some t541))) else (some false)) else (if x534000 = 3 then (if x4 = true then ((spec_NoteOk.f k x534004).bind fun t542 => (some t542)) else (some false)) else (some false)))
def spec_l15El.f : Nat → Int → Int → ByteArray → List (S36) → ByteArray → List (S43) → Option (Bool)
 | 0, _, _, _, _, _, _ => none
 | k + 1, a0_0, a0_1, a0_2, l0_3, a0_4, l0_5 => spec_l15El.l0 k 0 a0_0 a0_1 a0_2 l0_3 a0_4 l0_5
end
theorem spec_l15El.mono_l : ∀ k, (∀ y0 y1 y2 y3 y4 y5, LeO (spec_l15El.f k y0 y1 y2 y3 y4 y5) (spec_l15El.f (k + 1) y0 y1 y2 y3 y4 y5)) ∧ (∀ y0 y1 y2 y3 y4 y5 y6, LeO (spec_l15El.l0 k y0 y1 y2 y3 y4 y5 y6) (spec_l15El.l0 (k + 1) y0 y1 y2 y3 y4 y5 y6)) ∧ (∀ y0 y1 y2 y3 y4 y5 y6, LeO (spec_l15El.j1 k y0 y1 y2 y3 y4 y5 y6) (spec_l15El.j1 (k + 1) y0 y1 y2 y3 y4 y5 y6))
 | 0 => ⟨fun _ _ _ _ _ _ r h => by simp [spec_l15El.f] at h, fun _ _ _ _ _ _ _ r h => by simp [spec_l15El.l0] at h, fun _ _ _ _ _ _ _ r h => by simp [spec_l15El.j1] at h⟩
 | k + 1 => by
  obtain ⟨ih0, ih1, ih2⟩ := spec_l15El.mono_l k;refine ⟨?_, ?_, ?_⟩
  ·intro y0 y1 y2 y3 y4 y5;unfold spec_l15El.f;with_reducible repeat' first | exact ih0 _ _ _ _ _ _ | exact ih1 _ _ _ _ _ _ _ | exact ih2 _ _ _ _ _ _ _ | exact spec_NameOk.mono _ _ | exact spec_NoteOk.mono _ _ | exact spec_TextOk.mono _ _ | exact spec_l15Attrs.mono _ _ | apply LeO.refl | apply LeO.none | apply LeO.ite | apply LeO.bind | intro
  ·intro y0 y1 y2 y3 y4 y5 y6;unfold spec_l15El.l0;with_reducible repeat' first | exact ih0 _ _ _ _ _ _ | exact ih1 _ _ _ _ _ _ _ | exact ih2 _ _ _ _ _ _ _ | exact spec_NameOk.mono _ _ | exact spec_NoteOk.mono _ _ | exact spec_TextOk.mono _ _ | exact spec_l15Attrs.mono _ _ | apply LeO.refl | apply LeO.none | apply LeO.ite | apply LeO.bind | intro
  ·intro y0 y1 y2 y3 y4 y5 y6;unfold spec_l15El.j1;with_reducible repeat' first | exact ih0 _ _ _ _ _ _ | exact ih1 _ _ _ _ _ _ _ | exact ih2 _ _ _ _ _ _ _ | exact spec_NameOk.mono _ _ | exact spec_NoteOk.mono _ _ | exact spec_TextOk.mono _ _ | exact spec_l15Attrs.mono _ _ | apply LeO.refl | apply LeO.none | apply LeO.ite | apply LeO.bind | intro
theorem spec_l15El.mono : ∀ a0 a1 a2 a3 a4 a5 k, LeO (spec_l15El.f k a0 a1 a2 a3 a4 a5) (spec_l15El.f (k + 1) a0 a1 a2 a3 a4 a5) := by
 intro a0 a1 a2 a3 a4 a5 k;obtain ⟨ih0, ih1, ih2⟩ := spec_l15El.mono_l k;exact ih0 a0 a1 a2 a3 a4 a5
theorem spec_l15El.calls (k : Nat) : ∀ (a0_0 : Int) (a0_1 : Int) (a0_2 : BA) (A0_3 : Option Addr) (c0_3 : Nat) (l0_3 : List (S36)) (a0_4 : BA) (A0_5 : Option Addr) (c0_5 : Nat) (l0_5 : List (S43)) (r : Bool) (w : World) (hr0_3 : Kd.C k36 w A0_3 l0_3.length l0_3) (hc0_3 : l0_3.length ≤ c0_3) (hr0_5 : Kd.C k43 w A0_5 l0_5.length l0_5) (hc0_5 : l0_5.length ≤ c0_5) (h : spec_l15El.f k a0_0 a0_1 a0_2 l0_3 a0_4 l0_5 = some r),
  Calls Tryz.prog 134 #[.agg #[.int .i64 a0_0, .int .i64 a0_1, .string a0_2, .slice A0_3 l0_3.length c0_3, .string a0_4, .slice A0_5 l0_5.length c0_5]] w fun e w' => e = .returned (.bool r) ∧ Below w.heap.size w w' := by
 induction k using Nat.strongRecOn with
 | _ k ih =>
 intro a0_0 a0_1 a0_2 A0_3 c0_3 l0_3 a0_4 A0_5 c0_5 l0_5 r w hr0_3 hc0_3 hr0_5 hc0_5 h;cases k with
 | zero => exact absurd h (by simp [spec_l15El.f])
 | succ k =>
 simp only [spec_l15El.f] at h;have hu43 := Tryz.underlying43;have HR0_3 := A_ hr0_3;have HC0_3 := A_ hc0_3;clear hr0_3 hc0_3;have HR0_5 := A_ hr0_5;have HC0_5 := A_ hc0_5;clear hr0_5 hc0_5;have HB := A_ (Below.refl w.heap.size w);have H : (spec_l15El.l0 k 0 a0_0 a0_1 a0_2 l0_3 a0_4 l0_5) = some r := h;clear h;have H' := A_ H;clear H;go_enter Tryz.func134, Tryz.ntmps134
 go_wp2_with (first | ((with_reducible refine gate_dst (N := 1) rfl ?_); (try (refine gate_guard (by rfl) ?_; dsimp only)); refine bE_ #[.int .i64 a0_0, .int .i64 a0_1, .string a0_2, .slice A0_3 l0_3.length c0_3, .string a0_4, .slice A0_5 l0_5.length c0_5] 43 ?_; intro gb533 hg w2 hbox hb; have BK533 := A_ (hbox); have GW533 := hs_ hg; have GE533 := hs_ hg; replace HB := bS_ hb; clear hb hbox hg))
 go_loopg [3] k (fun kq v3 w' => ∃ (x3_1 : Int), v3 = .int .i64 x3_1 ∧ As9 (spec_l15El.l0 kq x3_1 a0_0 a0_1 a0_2 l0_3 a0_4 l0_5 = some r) ∧ As9 (kq ≤ k) ∧ As9 (w'.heap[gb533]? = some (.cells #[.int .i64 a0_0, .int .i64 a0_1, .string a0_2, (.slice A0_3 l0_3.length c0_3), .string a0_4, (.slice A0_5 l0_5.length c0_5)] 43 (0, 0))) ∧ As9 (Below w.heap.size w w'))
 case atStart => exact ⟨(0), e2_, H', ⟨Nat.le_refl _⟩, ⟨blk_below BK533.out hR_⟩, ⟨hB_⟩⟩
 case round =>
  clear H';try clear c1
  try clear p2
  obtain ⟨x3_1, rfl, HA, HK1, BK533, HB⟩ := hrel;cases gk with
  | zero => exact absurd HA.out (by simp [spec_l15El.l0])
  | succ k1 =>
   have H := HA.out;clear HA;simp only [spec_l15El.l0] at H;rcases ic_ H with ⟨c3, H⟩ | ⟨c3, H⟩
   ·have c3b0 := dE_ c3;clear c3;obtain ⟨c4, H⟩ := ifn_ H;have c4b0 := dE_ c4;clear c4;obtain ⟨t535, A5, H⟩ := ob_ H;(try dsimp only at H)
    by_cases c6 : t535 = true
    ·subst c6;rw [if_pos rfl] at H;rcases ic_ H with ⟨c7, H⟩ | ⟨c7, H⟩
     ·have c7b0 : decide (0 < x3_1) = true := dE_ c7;clear c7;rcases ic_ H with ⟨c8, H⟩ | ⟨c8, H⟩
      ·obtain ⟨c8b0, c8b1⟩ := be_ c8;clear c8;obtain ⟨ji9, hji9⟩ : ∃ j_ : Int, (wrap64 (x3_1 - 1)) = j_ := ⟨_, rfl⟩;replace H : (if 0 ≤ (ji9) then (if (ji9) < (l0_5.length : Int) then (if ((rd_T43 l0_5 (ji9)).f0) = 2 then (some false) else (spec_l15El.l0 k1 (wrap64 (x3_1 + 1)) a0_0 a0_1 a0_2 l0_3 a0_4 l0_5)) else (none)) else (none)) = some r := by first | (rw [hji9] at H; exact H) | (simp only [hji9] at H ⊢; exact H)
       (try rw [hji9] at A5)
       have hji9w : (IntKind.i64.wrap (x3_1 - 1)) = ji9 := (i64_w _).trans hji9;obtain ⟨c10, H⟩ := ifn_ H;have c10b0 := dE_ c10;clear c10;obtain ⟨c11, H⟩ := ifn_ H;have c11b0 := dE_ c11;clear c11;rcases ic_ H with ⟨c12, H⟩ | ⟨c12, H⟩
       ·obtain ⟨c12b0, c12b1⟩ := be_ c12;clear c12;obtain rfl := sI_ H;obtain ⟨hcz13_0, hcz13_1, hcz13_2, hcz13_3, hcz13_4, hcz13_5, hfz13_0, hfz13_1, hfz13_2, hfz13_3, hfz13_4, hfz13_5⟩ := bk6_ BK533.out;obtain ⟨p534, q534, ad534, A534_3, c534_3, A534_5, c534_5, e534, hx534_0, hx534_1, hx534_2, hx534_3, hx534_4, hx534_5, HC534_3, HR534_3, HC534_5, HR534_5⟩ := aB43_ HB.out HR0_5.out x3_1;cases e534;go_wp2_with (first | ((with_reducible refine gC_ 134 ?_); refine gL_ 17 Tryz.func134 #[.agg #[.int .i64 ((rd_T43 l0_5 x3_1).f0), .int .i64 ((rd_T43 l0_5 x3_1).f1), .string ((rd_T43 l0_5 x3_1).f2), .slice A534_3 ((rd_T43 l0_5 x3_1).f3).length c534_3, .string ((rd_T43 l0_5 x3_1).f4), .slice A534_5 ((rd_T43 l0_5 x3_1).f5).length c534_5]] ?_; (with_reducible refine (ih k1 (by have := HK1.out; omega) ((rd_T43 l0_5 x3_1).f0) ((rd_T43 l0_5 x3_1).f1) ((rd_T43 l0_5 x3_1).f2) _ _ ((rd_T43 l0_5 x3_1).f3) ((rd_T43 l0_5 x3_1).f4) _ _ ((rd_T43 l0_5 x3_1).f5) true _ ?side1 ?side2 ?side3 ?side4 A5.out).mono ?_); (case side1 => exact Kd.C_below HR534_3.out hB_); (case side2 => exact HC534_3.out); (case side3 => exact Kd.C_below HR534_5.out hB_); (case side4 => exact HC534_5.out); rintro e w14 ⟨rfl, hb⟩; refine ⟨_, rfl, ?_⟩; replace BK533 := A_ (blk_below (g := gb533) (o := .cells #[.int .i64 a0_0, .int .i64 a0_1, .string a0_2, .slice A0_3 l0_3.length c0_3, .string a0_4, .slice (some ad534) l0_5.length c0_5] 43 (0, 0)) (blk_below BK533.out hR_) hb); replace HB := bS_ hb; clear hb; obtain ⟨hcz15_0, hcz15_1, hcz15_2, hcz15_3, hcz15_4, hcz15_5, hfz15_0, hfz15_1, hfz15_2, hfz15_3, hfz15_4, hfz15_5⟩ := bk6_ BK533.out; obtain ⟨p536, q536, ad536, A536_3, c536_3, A536_5, c536_5, e536, hx536_0, hx536_1, hx536_2, hx536_3, hx536_4, hx536_5, HC536_3, HR536_3, HC536_5, HR536_5⟩ := aB43_ HB.out HR0_5.out x3_1; obtain rfl : ad534 = ad536 := (by injection e536); obtain ⟨p537, q537, ad537, A537_3, c537_3, A537_5, c537_5, e537, hx537_0, hx537_1, hx537_2, hx537_3, hx537_4, hx537_5, HC537_3, HR537_3, HC537_5, HR537_5⟩ := aB43_ HB.out HR0_5.out (ji9); obtain rfl : ad534 = ad537 := (by injection e537)))
        go_ret
        exact ⟨by first | rfl | (simp [errW_none, errW_some] <;> rfl) | (simp only [← hji9]; first | rfl | (simp [errW_none, errW_some] <;> rfl)) | (simp [*, errW_none, errW_some] <;> rfl), hB_⟩
       ·obtain ⟨c12b0, c12b1⟩ := bn_ c12;have H' := A_ H;clear H;obtain ⟨hcz16_0, hcz16_1, hcz16_2, hcz16_3, hcz16_4, hcz16_5, hfz16_0, hfz16_1, hfz16_2, hfz16_3, hfz16_4, hfz16_5⟩ := bk6_ BK533.out;obtain ⟨p534, q534, ad534, A534_3, c534_3, A534_5, c534_5, e534, hx534_0, hx534_1, hx534_2, hx534_3, hx534_4, hx534_5, HC534_3, HR534_3, HC534_5, HR534_5⟩ := aB43_ HB.out HR0_5.out x3_1;cases e534;go_wp2_with (first | ((with_reducible refine gC_ 134 ?_); refine gL_ 17 Tryz.func134 #[.agg #[.int .i64 ((rd_T43 l0_5 x3_1).f0), .int .i64 ((rd_T43 l0_5 x3_1).f1), .string ((rd_T43 l0_5 x3_1).f2), .slice A534_3 ((rd_T43 l0_5 x3_1).f3).length c534_3, .string ((rd_T43 l0_5 x3_1).f4), .slice A534_5 ((rd_T43 l0_5 x3_1).f5).length c534_5]] ?_; (with_reducible refine (ih k1 (by have := HK1.out; omega) ((rd_T43 l0_5 x3_1).f0) ((rd_T43 l0_5 x3_1).f1) ((rd_T43 l0_5 x3_1).f2) _ _ ((rd_T43 l0_5 x3_1).f3) ((rd_T43 l0_5 x3_1).f4) _ _ ((rd_T43 l0_5 x3_1).f5) true _ ?side1 ?side2 ?side3 ?side4 A5.out).mono ?_); (case side1 => exact Kd.C_below HR534_3.out hB_); (case side2 => exact HC534_3.out); (case side3 => exact Kd.C_below HR534_5.out hB_); (case side4 => exact HC534_5.out); rintro e w17 ⟨rfl, hb⟩; refine ⟨_, rfl, ?_⟩; replace BK533 := A_ (blk_below (g := gb533) (o := .cells #[.int .i64 a0_0, .int .i64 a0_1, .string a0_2, .slice A0_3 l0_3.length c0_3, .string a0_4, .slice (some ad534) l0_5.length c0_5] 43 (0, 0)) (blk_below BK533.out hR_) hb); replace HB := bS_ hb; clear hb; obtain ⟨hcz18_0, hcz18_1, hcz18_2, hcz18_3, hcz18_4, hcz18_5, hfz18_0, hfz18_1, hfz18_2, hfz18_3, hfz18_4, hfz18_5⟩ := bk6_ BK533.out; obtain ⟨p536, q536, ad536, A536_3, c536_3, A536_5, c536_5, e536, hx536_0, hx536_1, hx536_2, hx536_3, hx536_4, hx536_5, HC536_3, HR536_3, HC536_5, HR536_5⟩ := aB43_ HB.out HR0_5.out x3_1; obtain rfl : ad534 = ad536 := (by injection e536); obtain ⟨p537, q537, ad537, A537_3, c537_3, A537_5, c537_5, e537, hx537_0, hx537_1, hx537_2, hx537_3, hx537_4, hx537_5, HC537_3, HR537_3, HC537_5, HR537_5⟩ := aB43_ HB.out HR0_5.out (ji9); obtain rfl : ad534 = ad537 := (by injection e537)))
        go_roundg k1
        case measure => have := HK1.out; omega
        case rel => exact ⟨(wrap64 (x3_1 + 1)), e2_, H', ⟨by have := HK1.out; omega⟩, ⟨blk_below BK533.out hR_⟩, ⟨hB_⟩⟩
      ·obtain ⟨c8b0, c8b1⟩ := bn_ c8;have H' := A_ H;clear H;obtain ⟨hcz19_0, hcz19_1, hcz19_2, hcz19_3, hcz19_4, hcz19_5, hfz19_0, hfz19_1, hfz19_2, hfz19_3, hfz19_4, hfz19_5⟩ := bk6_ BK533.out;obtain ⟨p534, q534, ad534, A534_3, c534_3, A534_5, c534_5, e534, hx534_0, hx534_1, hx534_2, hx534_3, hx534_4, hx534_5, HC534_3, HR534_3, HC534_5, HR534_5⟩ := aB43_ HB.out HR0_5.out x3_1;cases e534;go_wp2_with (first | ((with_reducible refine gC_ 134 ?_); refine gL_ 17 Tryz.func134 #[.agg #[.int .i64 ((rd_T43 l0_5 x3_1).f0), .int .i64 ((rd_T43 l0_5 x3_1).f1), .string ((rd_T43 l0_5 x3_1).f2), .slice A534_3 ((rd_T43 l0_5 x3_1).f3).length c534_3, .string ((rd_T43 l0_5 x3_1).f4), .slice A534_5 ((rd_T43 l0_5 x3_1).f5).length c534_5]] ?_; (with_reducible refine (ih k1 (by have := HK1.out; omega) ((rd_T43 l0_5 x3_1).f0) ((rd_T43 l0_5 x3_1).f1) ((rd_T43 l0_5 x3_1).f2) _ _ ((rd_T43 l0_5 x3_1).f3) ((rd_T43 l0_5 x3_1).f4) _ _ ((rd_T43 l0_5 x3_1).f5) true _ ?side1 ?side2 ?side3 ?side4 A5.out).mono ?_); (case side1 => exact Kd.C_below HR534_3.out hB_); (case side2 => exact HC534_3.out); (case side3 => exact Kd.C_below HR534_5.out hB_); (case side4 => exact HC534_5.out); rintro e w20 ⟨rfl, hb⟩; refine ⟨_, rfl, ?_⟩; replace BK533 := A_ (blk_below (g := gb533) (o := .cells #[.int .i64 a0_0, .int .i64 a0_1, .string a0_2, .slice A0_3 l0_3.length c0_3, .string a0_4, .slice (some ad534) l0_5.length c0_5] 43 (0, 0)) (blk_below BK533.out hR_) hb); replace HB := bS_ hb; clear hb; obtain ⟨hcz21_0, hcz21_1, hcz21_2, hcz21_3, hcz21_4, hcz21_5, hfz21_0, hfz21_1, hfz21_2, hfz21_3, hfz21_4, hfz21_5⟩ := bk6_ BK533.out; obtain ⟨p536, q536, ad536, A536_3, c536_3, A536_5, c536_5, e536, hx536_0, hx536_1, hx536_2, hx536_3, hx536_4, hx536_5, HC536_3, HR536_3, HC536_5, HR536_5⟩ := aB43_ HB.out HR0_5.out x3_1; obtain rfl : ad534 = ad536 := (by injection e536)))
       go_roundg k1
       case measure => have := HK1.out; omega
       case rel => exact ⟨(wrap64 (x3_1 + 1)), e2_, H', ⟨by have := HK1.out; omega⟩, ⟨blk_below BK533.out hR_⟩, ⟨hB_⟩⟩
     ·have c7b0 : decide (0 < x3_1) = false := dF_ c7;clear c7;have H' := A_ H;clear H;obtain ⟨hcz22_0, hcz22_1, hcz22_2, hcz22_3, hcz22_4, hcz22_5, hfz22_0, hfz22_1, hfz22_2, hfz22_3, hfz22_4, hfz22_5⟩ := bk6_ BK533.out;obtain ⟨p534, q534, ad534, A534_3, c534_3, A534_5, c534_5, e534, hx534_0, hx534_1, hx534_2, hx534_3, hx534_4, hx534_5, HC534_3, HR534_3, HC534_5, HR534_5⟩ := aB43_ HB.out HR0_5.out x3_1;cases e534;go_wp2_with (first | ((with_reducible refine gC_ 134 ?_); refine gL_ 17 Tryz.func134 #[.agg #[.int .i64 ((rd_T43 l0_5 x3_1).f0), .int .i64 ((rd_T43 l0_5 x3_1).f1), .string ((rd_T43 l0_5 x3_1).f2), .slice A534_3 ((rd_T43 l0_5 x3_1).f3).length c534_3, .string ((rd_T43 l0_5 x3_1).f4), .slice A534_5 ((rd_T43 l0_5 x3_1).f5).length c534_5]] ?_; (with_reducible refine (ih k1 (by have := HK1.out; omega) ((rd_T43 l0_5 x3_1).f0) ((rd_T43 l0_5 x3_1).f1) ((rd_T43 l0_5 x3_1).f2) _ _ ((rd_T43 l0_5 x3_1).f3) ((rd_T43 l0_5 x3_1).f4) _ _ ((rd_T43 l0_5 x3_1).f5) true _ ?side1 ?side2 ?side3 ?side4 A5.out).mono ?_); (case side1 => exact Kd.C_below HR534_3.out hB_); (case side2 => exact HC534_3.out); (case side3 => exact Kd.C_below HR534_5.out hB_); (case side4 => exact HC534_5.out); rintro e w23 ⟨rfl, hb⟩; refine ⟨_, rfl, ?_⟩; replace BK533 := A_ (blk_below (g := gb533) (o := .cells #[.int .i64 a0_0, .int .i64 a0_1, .string a0_2, .slice A0_3 l0_3.length c0_3, .string a0_4, .slice (some ad534) l0_5.length c0_5] 43 (0, 0)) (blk_below BK533.out hR_) hb); replace HB := bS_ hb; clear hb))
      go_roundg k1
      case measure => have := HK1.out; omega
      case rel => exact ⟨(wrap64 (x3_1 + 1)), e2_, H', ⟨by have := HK1.out; omega⟩, ⟨blk_below BK533.out hR_⟩, ⟨hB_⟩⟩
    ·replace c6 := bF_ c6;subst c6;rw [if_neg nF_] at H;obtain rfl := sI_ H;obtain ⟨hcz24_0, hcz24_1, hcz24_2, hcz24_3, hcz24_4, hcz24_5, hfz24_0, hfz24_1, hfz24_2, hfz24_3, hfz24_4, hfz24_5⟩ := bk6_ BK533.out;obtain ⟨p534, q534, ad534, A534_3, c534_3, A534_5, c534_5, e534, hx534_0, hx534_1, hx534_2, hx534_3, hx534_4, hx534_5, HC534_3, HR534_3, HC534_5, HR534_5⟩ := aB43_ HB.out HR0_5.out x3_1;cases e534;go_wp2_with (first | ((with_reducible refine gC_ 134 ?_); refine gL_ 17 Tryz.func134 #[.agg #[.int .i64 ((rd_T43 l0_5 x3_1).f0), .int .i64 ((rd_T43 l0_5 x3_1).f1), .string ((rd_T43 l0_5 x3_1).f2), .slice A534_3 ((rd_T43 l0_5 x3_1).f3).length c534_3, .string ((rd_T43 l0_5 x3_1).f4), .slice A534_5 ((rd_T43 l0_5 x3_1).f5).length c534_5]] ?_; (with_reducible refine (ih k1 (by have := HK1.out; omega) ((rd_T43 l0_5 x3_1).f0) ((rd_T43 l0_5 x3_1).f1) ((rd_T43 l0_5 x3_1).f2) _ _ ((rd_T43 l0_5 x3_1).f3) ((rd_T43 l0_5 x3_1).f4) _ _ ((rd_T43 l0_5 x3_1).f5) false _ ?side1 ?side2 ?side3 ?side4 A5.out).mono ?_); (case side1 => exact Kd.C_below HR534_3.out hB_); (case side2 => exact HC534_3.out); (case side3 => exact Kd.C_below HR534_5.out hB_); (case side4 => exact HC534_5.out); rintro e w25 ⟨rfl, hb⟩; refine ⟨_, rfl, ?_⟩; replace BK533 := A_ (blk_below (g := gb533) (o := .cells #[.int .i64 a0_0, .int .i64 a0_1, .string a0_2, .slice A0_3 l0_3.length c0_3, .string a0_4, .slice (some ad534) l0_5.length c0_5] 43 (0, 0)) (blk_below BK533.out hR_) hb); replace HB := bS_ hb; clear hb))
     go_ret
     exact ⟨e1_, hB_⟩
   ·have c3b0 := dF_ c3;clear c3;have HC26 := A_ H;clear H;obtain ⟨hcz27_0, hcz27_1, hcz27_2, hcz27_3, hcz27_4, hcz27_5, hfz27_0, hfz27_1, hfz27_2, hfz27_3, hfz27_4, hfz27_5⟩ := bk6_ BK533.out;go_upto_region 6 with (fail)
    go_cut [4] (fun v4 wc => ∃ (kq : Nat) (x4_25 : Bool), v4 = .bool x4_25 ∧ As9 (spec_l15El.j1 kq x4_25 a0_0 a0_1 a0_2 l0_3 a0_4 l0_5 = some r) ∧ As9 (kq ≤ k1) ∧ As9 (wc.heap[gb533]? = some (.cells #[.int .i64 a0_0, .int .i64 a0_1, .string a0_2, (.slice A0_3 l0_3.length c0_3), .string a0_4, (.slice A0_5 l0_5.length c0_5)] 43 (0, 0))) ∧ As9 (Below w.heap.size w wc))
    case first =>
     have H := HC26.out;clear HC26;rcases ic_ H with ⟨c28, H⟩ | ⟨c28, H⟩
     ·obtain ⟨c28b0, c28b1⟩ := be_ c28;clear c28;(first | rw [c28b0] | (simp only [i64_w, i32_w]; rw [c28b0]) | skip)
      rcases ic_ H with ⟨c29, H⟩ | ⟨c29, H⟩
      ·obtain ⟨c29b0, c29b1⟩ := be_ c29;clear c29;rcases ic_ H with ⟨c30, H⟩ | ⟨c30, H⟩
       ·obtain ⟨c30b0, c30b1⟩ := be_ c30;clear c30;have H' := A_ H;clear H;obtain ⟨hcz31_0, hcz31_1, hcz31_2, hcz31_3, hcz31_4, hcz31_5, hfz31_0, hfz31_1, hfz31_2, hfz31_3, hfz31_4, hfz31_5⟩ := bk6_ BK533.out;go_wp2
        go_meet
        case rel => exact ⟨_, (((l0_5.length : Int) == 0)), e2_, H', ⟨by have := HK1.out; first | omega | exact Nat.le_refl _⟩, ⟨blk_below BK533.out hR_⟩, ⟨hB_⟩⟩
       ·obtain ⟨c30b0, c30b1⟩ := bn_ c30;have c30b2 : ¬ (l0_3 = []) := fun h_ => c30 (by rw [h_]; rfl)
        have H' := A_ H;clear H;obtain ⟨hcz32_0, hcz32_1, hcz32_2, hcz32_3, hcz32_4, hcz32_5, hfz32_0, hfz32_1, hfz32_2, hfz32_3, hfz32_4, hfz32_5⟩ := bk6_ BK533.out;go_wp2
        go_meet
        case rel => exact ⟨_, (false), e2_, H', ⟨by have := HK1.out; first | omega | exact Nat.le_refl _⟩, ⟨blk_below BK533.out hR_⟩, ⟨hB_⟩⟩
      ·obtain ⟨c29b0, c29b1⟩ := bn_ c29;have H' := A_ H;clear H;obtain ⟨hcz33_0, hcz33_1, hcz33_2, hcz33_3, hcz33_4, hcz33_5, hfz33_0, hfz33_1, hfz33_2, hfz33_3, hfz33_4, hfz33_5⟩ := bk6_ BK533.out;go_wp2
       go_meet
       case rel => exact ⟨_, (false), e2_, H', ⟨by have := HK1.out; first | omega | exact Nat.le_refl _⟩, ⟨blk_below BK533.out hR_⟩, ⟨hB_⟩⟩
     ·obtain ⟨c28b0, c28b1⟩ := bn_ c28;(first | rw [c28b0] | (simp only [i64_w, i32_w]; rw [c28b0]) | skip)
      have H' := A_ H;clear H;obtain ⟨hcz34_0, hcz34_1, hcz34_2, hcz34_3, hcz34_4, hcz34_5, hfz34_0, hfz34_1, hfz34_2, hfz34_3, hfz34_4, hfz34_5⟩ := bk6_ BK533.out;go_wp2
      go_meet
      case rel => exact ⟨_, (false), e2_, H', ⟨by have := HK1.out; first | omega | exact Nat.le_refl _⟩, ⟨blk_below BK533.out hR_⟩, ⟨hB_⟩⟩
    case rest =>
     clear HC26;try clear c1
     try clear c2
     try clear p2
     try clear c3
     try clear c3b0
     try clear c4
     try clear c4b0
     try clear c5
     try clear p5
     try clear q5
     try clear hx5
     try clear c6
     try clear p6
     try clear c7
     try clear c7b0
     try clear c8
     try clear c8b0
     try clear c8b1
     try clear c10
     try clear c10b0
     try clear c11
     try clear c11b0
     try clear c12
     try clear c12b0
     try clear c12b1
     try clear c13
     try clear c28
     try clear c28b0
     try clear c28b1
     try clear c29
     try clear c29b0
     try clear c29b1
     try clear c30
     try clear c30b0
     try clear c30b1
     try clear c30b2
     try clear hcz13_0
     try clear hcz13_1
     try clear hcz13_2
     try clear hcz13_3
     try clear hcz13_4
     try clear hcz13_5
     try clear hcz15_0
     try clear hcz15_1
     try clear hcz15_2
     try clear hcz15_3
     try clear hcz15_4
     try clear hcz15_5
     try clear hcz16_0
     try clear hcz16_1
     try clear hcz16_2
     try clear hcz16_3
     try clear hcz16_4
     try clear hcz16_5
     try clear hcz18_0
     try clear hcz18_1
     try clear hcz18_2
     try clear hcz18_3
     try clear hcz18_4
     try clear hcz18_5
     try clear hcz19_0
     try clear hcz19_1
     try clear hcz19_2
     try clear hcz19_3
     try clear hcz19_4
     try clear hcz19_5
     try clear hcz21_0
     try clear hcz21_1
     try clear hcz21_2
     try clear hcz21_3
     try clear hcz21_4
     try clear hcz21_5
     try clear hcz22_0
     try clear hcz22_1
     try clear hcz22_2
     try clear hcz22_3
     try clear hcz22_4
     try clear hcz22_5
     try clear hcz24_0
     try clear hcz24_1
     try clear hcz24_2
     try clear hcz24_3
     try clear hcz24_4
     try clear hcz24_5
     try clear hcz27_0
     try clear hcz27_1
     try clear hcz27_2
     try clear hcz27_3
     try clear hcz27_4
     try clear hcz27_5
     try clear hcz31_0
     try clear hcz31_1
     try clear hcz31_2
     try clear hcz31_3
     try clear hcz31_4
     try clear hcz31_5
     try clear hcz32_0
     try clear hcz32_1
     try clear hcz32_2
     try clear hcz32_3
     try clear hcz32_4
     try clear hcz32_5
     try clear hcz33_0
     try clear hcz33_1
     try clear hcz33_2
     try clear hcz33_3
     try clear hcz33_4
     try clear hcz33_5
     try clear hcz34_0
     try clear hcz34_1
     try clear hcz34_2
     try clear hcz34_3
     try clear hcz34_4
     try clear hcz34_5
     try clear hfz13_0
     try clear hfz13_1
     try clear hfz13_2
     try clear hfz13_3
     try clear hfz13_4
     try clear hfz13_5
     try clear hfz15_0
     try clear hfz15_1
     try clear hfz15_2
     try clear hfz15_3
     try clear hfz15_4
     try clear hfz15_5
     try clear hfz16_0
     try clear hfz16_1
     try clear hfz16_2
     try clear hfz16_3
     try clear hfz16_4
     try clear hfz16_5
     try clear hfz18_0
     try clear hfz18_1
     try clear hfz18_2
     try clear hfz18_3
     try clear hfz18_4
     try clear hfz18_5
     try clear hfz19_0
     try clear hfz19_1
     try clear hfz19_2
     try clear hfz19_3
     try clear hfz19_4
     try clear hfz19_5
     try clear hfz21_0
     try clear hfz21_1
     try clear hfz21_2
     try clear hfz21_3
     try clear hfz21_4
     try clear hfz21_5
     try clear hfz22_0
     try clear hfz22_1
     try clear hfz22_2
     try clear hfz22_3
     try clear hfz22_4
     try clear hfz22_5
     try clear hfz24_0
     try clear hfz24_1
     try clear hfz24_2
     try clear hfz24_3
     try clear hfz24_4
     try clear hfz24_5
     try clear hfz27_0
     try clear hfz27_1
     try clear hfz27_2
     try clear hfz27_3
     try clear hfz27_4
     try clear hfz27_5
     try clear hfz31_0
     try clear hfz31_1
     try clear hfz31_2
     try clear hfz31_3
     try clear hfz31_4
     try clear hfz31_5
     try clear hfz32_0
     try clear hfz32_1
     try clear hfz32_2
     try clear hfz32_3
     try clear hfz32_4
     try clear hfz32_5
     try clear hfz33_0
     try clear hfz33_1
     try clear hfz33_2
     try clear hfz33_3
     try clear hfz33_4
     try clear hfz33_5
     try clear hfz34_0
     try clear hfz34_1
     try clear hfz34_2
     try clear hfz34_3
     try clear hfz34_4
     try clear hfz34_5
     try clear hx534_0
     try clear hx534_1
     try clear hx534_2
     try clear hx534_3
     try clear hx534_4
     try clear hx534_5
     try clear hx536_0
     try clear hx536_1
     try clear hx536_2
     try clear hx536_3
     try clear hx536_4
     try clear hx536_5
     try clear hx537_0
     try clear hx537_1
     try clear hx537_2
     try clear hx537_3
     try clear hx537_4
     try clear hx537_5
     try clear p2
     try clear p534
     try clear p536
     try clear p537
     try clear q534
     try clear q536
     try clear q537
     obtain ⟨kq, x4_25, rfl, HA, HJ25, BK533, HB⟩ := hcut;cases kq with
     | zero => exact absurd HA.out (by simp [spec_l15El.j1])
     | succ kj25 =>
      have H := HA.out;clear HA;simp only [spec_l15El.j1] at H;rcases ic_ H with ⟨c35, H⟩ | ⟨c35, H⟩
      ·obtain ⟨c35b0, c35b1⟩ := be_ c35;clear c35;obtain ⟨t538, A36, H⟩ := ob_ H;(try dsimp only at H)
       by_cases c37 : t538 = true
       ·subst c37;rw [if_pos rfl] at H;obtain ⟨t539, A38, H⟩ := ob_ H;(try dsimp only at H)
        by_cases c39 : t539 = true
        ·subst c39;rw [if_pos rfl] at H;obtain ⟨t540, A40, H⟩ := ob_ H;(try dsimp only at H)
         by_cases c41 : t540 = true
         ·subst c41;rw [if_pos rfl] at H;obtain rfl := sI_ H;obtain ⟨hcz42_0, hcz42_1, hcz42_2, hcz42_3, hcz42_4, hcz42_5, hfz42_0, hfz42_1, hfz42_2, hfz42_3, hfz42_4, hfz42_5⟩ := bk6_ BK533.out;go_wp2_with (first | ((with_reducible refine gC_ 111 ?_); refine gL_ 68 Tryz.func111 #[.int .i64 a0_1, .int .i64 0, .int .i64 2] ?_; refine dm_ (spec_l1In.calls a0_1 0 2 true _ A36.out) fun nd => ?_) | (go_at_call 170; (with_reducible refine (spec_NameOk.calls kj25 a0_2 true _ A38.out).mono ?_); rintro e w43 ⟨rfl, hb⟩; replace BK533 := A_ (blk_below (g := gb533) (o := .cells #[.int .i64 a0_0, .int .i64 a0_1, .string a0_2, .slice A0_3 l0_3.length c0_3, .string a0_4, .slice A0_5 l0_5.length c0_5] 43 (0, 0)) (blk_below BK533.out hR_) hb); replace HB := bS_ hb; clear hb; obtain ⟨hcz44_0, hcz44_1, hcz44_2, hcz44_3, hcz44_4, hcz44_5, hfz44_0, hfz44_1, hfz44_2, hfz44_3, hfz44_4, hfz44_5⟩ := bk6_ BK533.out) | (go_at_call 171; (with_reducible refine (spec_l15Attrs.calls kj25 _ _ l0_3 true _ ?side1 ?side2 A40.out).mono ?_); (case side1 => exact Kd.C_below HR0_3.out hB_); (case side2 => exact HC0_3.out); rintro e w45 ⟨rfl, hb⟩; replace BK533 := A_ (blk_below (g := gb533) (o := .cells #[.int .i64 a0_0, .int .i64 a0_1, .string a0_2, .slice A0_3 l0_3.length c0_3, .string a0_4, .slice A0_5 l0_5.length c0_5] 43 (0, 0)) (blk_below BK533.out hR_) hb); replace HB := bS_ hb; clear hb; obtain ⟨hcz46_0, hcz46_1, hcz46_2, hcz46_3, hcz46_4, hcz46_5, hfz46_0, hfz46_1, hfz46_2, hfz46_3, hfz46_4, hfz46_5⟩ := bk6_ BK533.out))
          go_ret
          exact ⟨e1_, hB_⟩
         ·replace c41 := bF_ c41;subst c41;rw [if_neg nF_] at H;obtain rfl := sI_ H;obtain ⟨hcz47_0, hcz47_1, hcz47_2, hcz47_3, hcz47_4, hcz47_5, hfz47_0, hfz47_1, hfz47_2, hfz47_3, hfz47_4, hfz47_5⟩ := bk6_ BK533.out;go_wp2_with (first | ((with_reducible refine gC_ 111 ?_); refine gL_ 68 Tryz.func111 #[.int .i64 a0_1, .int .i64 0, .int .i64 2] ?_; refine dm_ (spec_l1In.calls a0_1 0 2 true _ A36.out) fun nd => ?_) | (go_at_call 170; (with_reducible refine (spec_NameOk.calls kj25 a0_2 true _ A38.out).mono ?_); rintro e w48 ⟨rfl, hb⟩; replace BK533 := A_ (blk_below (g := gb533) (o := .cells #[.int .i64 a0_0, .int .i64 a0_1, .string a0_2, .slice A0_3 l0_3.length c0_3, .string a0_4, .slice A0_5 l0_5.length c0_5] 43 (0, 0)) (blk_below BK533.out hR_) hb); replace HB := bS_ hb; clear hb; obtain ⟨hcz49_0, hcz49_1, hcz49_2, hcz49_3, hcz49_4, hcz49_5, hfz49_0, hfz49_1, hfz49_2, hfz49_3, hfz49_4, hfz49_5⟩ := bk6_ BK533.out) | (go_at_call 171; (with_reducible refine (spec_l15Attrs.calls kj25 _ _ l0_3 false _ ?side1 ?side2 A40.out).mono ?_); (case side1 => exact Kd.C_below HR0_3.out hB_); (case side2 => exact HC0_3.out); rintro e w50 ⟨rfl, hb⟩; replace BK533 := A_ (blk_below (g := gb533) (o := .cells #[.int .i64 a0_0, .int .i64 a0_1, .string a0_2, .slice A0_3 l0_3.length c0_3, .string a0_4, .slice A0_5 l0_5.length c0_5] 43 (0, 0)) (blk_below BK533.out hR_) hb); replace HB := bS_ hb; clear hb))
          go_ret
          exact ⟨e1_, hB_⟩
        ·replace c39 := bF_ c39;subst c39;rw [if_neg nF_] at H;obtain rfl := sI_ H;obtain ⟨hcz51_0, hcz51_1, hcz51_2, hcz51_3, hcz51_4, hcz51_5, hfz51_0, hfz51_1, hfz51_2, hfz51_3, hfz51_4, hfz51_5⟩ := bk6_ BK533.out;go_wp2_with (first | ((with_reducible refine gC_ 111 ?_); refine gL_ 68 Tryz.func111 #[.int .i64 a0_1, .int .i64 0, .int .i64 2] ?_; refine dm_ (spec_l1In.calls a0_1 0 2 true _ A36.out) fun nd => ?_) | (go_at_call 170; (with_reducible refine (spec_NameOk.calls kj25 a0_2 false _ A38.out).mono ?_); rintro e w52 ⟨rfl, hb⟩; replace BK533 := A_ (blk_below (g := gb533) (o := .cells #[.int .i64 a0_0, .int .i64 a0_1, .string a0_2, .slice A0_3 l0_3.length c0_3, .string a0_4, .slice A0_5 l0_5.length c0_5] 43 (0, 0)) (blk_below BK533.out hR_) hb); replace HB := bS_ hb; clear hb))
         go_ret
         exact ⟨e1_, hB_⟩
       ·replace c37 := bF_ c37;subst c37;rw [if_neg nF_] at H;obtain rfl := sI_ H;obtain ⟨hcz53_0, hcz53_1, hcz53_2, hcz53_3, hcz53_4, hcz53_5, hfz53_0, hfz53_1, hfz53_2, hfz53_3, hfz53_4, hfz53_5⟩ := bk6_ BK533.out;go_wp2_with (first | ((with_reducible refine gC_ 111 ?_); refine gL_ 68 Tryz.func111 #[.int .i64 a0_1, .int .i64 0, .int .i64 2] ?_; refine dm_ (spec_l1In.calls a0_1 0 2 false _ A36.out) fun nd => ?_))
        go_ret
        exact ⟨e1_, hB_⟩
      ·obtain ⟨c35b0, c35b1⟩ := bn_ c35;rcases ic_ H with ⟨c54, H⟩ | ⟨c54, H⟩
       ·obtain ⟨c54b0, c54b1⟩ := be_ c54;clear c54;by_cases c55 : x4_25 = true
        ·subst c55;rw [if_pos rfl] at H;rcases ic_ H with ⟨c56, H⟩ | ⟨c56, H⟩
         ·obtain ⟨c56b0, c56b1⟩ := be_ c56;clear c56;obtain rfl := sI_ H;obtain ⟨hcz57_0, hcz57_1, hcz57_2, hcz57_3, hcz57_4, hcz57_5, hfz57_0, hfz57_1, hfz57_2, hfz57_3, hfz57_4, hfz57_5⟩ := bk6_ BK533.out;go_wp2
          go_ret
          exact ⟨e1_, hB_⟩
         ·obtain ⟨c56b0, c56b1⟩ := bn_ c56;obtain ⟨t541, A58, H⟩ := ob_ H;obtain rfl := sI_ H;obtain ⟨hcz59_0, hcz59_1, hcz59_2, hcz59_3, hcz59_4, hcz59_5, hfz59_0, hfz59_1, hfz59_2, hfz59_3, hfz59_4, hfz59_5⟩ := bk6_ BK533.out;go_wp2_with (first | (go_at_call 129; (with_reducible refine (spec_TextOk.calls kj25 a0_4 t541 _ A58.out).mono ?_); rintro e w60 ⟨rfl, hb⟩; replace BK533 := A_ (blk_below (g := gb533) (o := .cells #[.int .i64 a0_0, .int .i64 a0_1, .string a0_2, .slice A0_3 l0_3.length c0_3, .string a0_4, .slice A0_5 l0_5.length c0_5] 43 (0, 0)) (blk_below BK533.out hR_) hb); replace HB := bS_ hb; clear hb))
          go_ret
          exact ⟨e1_, hB_⟩
        ·replace c55 := bF_ c55;subst c55;rw [if_neg nF_] at H;obtain rfl := sI_ H;obtain ⟨hcz61_0, hcz61_1, hcz61_2, hcz61_3, hcz61_4, hcz61_5, hfz61_0, hfz61_1, hfz61_2, hfz61_3, hfz61_4, hfz61_5⟩ := bk6_ BK533.out;go_wp2
         go_ret
         exact ⟨e1_, hB_⟩
       ·obtain ⟨c54b0, c54b1⟩ := bn_ c54;rcases ic_ H with ⟨c62, H⟩ | ⟨c62, H⟩
        ·obtain ⟨c62b0, c62b1⟩ := be_ c62;clear c62;by_cases c63 : x4_25 = true
         ·subst c63;rw [if_pos rfl] at H;obtain ⟨t542, A64, H⟩ := ob_ H;obtain rfl := sI_ H;obtain ⟨hcz65_0, hcz65_1, hcz65_2, hcz65_3, hcz65_4, hcz65_5, hfz65_0, hfz65_1, hfz65_2, hfz65_3, hfz65_4, hfz65_5⟩ := bk6_ BK533.out;go_wp2_with (first | (go_at_call 81; (with_reducible refine (spec_NoteOk.calls kj25 a0_4 t542 _ A64.out).mono ?_); rintro e w66 ⟨rfl, hb⟩; replace BK533 := A_ (blk_below (g := gb533) (o := .cells #[.int .i64 a0_0, .int .i64 a0_1, .string a0_2, .slice A0_3 l0_3.length c0_3, .string a0_4, .slice A0_5 l0_5.length c0_5] 43 (0, 0)) (blk_below BK533.out hR_) hb); replace HB := bS_ hb; clear hb))
          go_ret
          exact ⟨e1_, hB_⟩
         ·replace c63 := bF_ c63;subst c63;rw [if_neg nF_] at H;obtain rfl := sI_ H;obtain ⟨hcz67_0, hcz67_1, hcz67_2, hcz67_3, hcz67_4, hcz67_5, hfz67_0, hfz67_1, hfz67_2, hfz67_3, hfz67_4, hfz67_5⟩ := bk6_ BK533.out;go_wp2
          go_ret
          exact ⟨e1_, hB_⟩
        ·obtain ⟨c62b0, c62b1⟩ := bn_ c62;obtain rfl := sI_ H;obtain ⟨hcz68_0, hcz68_1, hcz68_2, hcz68_3, hcz68_4, hcz68_5, hfz68_0, hfz68_1, hfz68_2, hfz68_3, hfz68_4, hfz68_5⟩ := bk6_ BK533.out;go_wp2
         go_ret
         exact ⟨e1_, hB_⟩
def spec_ElOk.f (k : Nat) (a0_0 : Int) (a0_1 : Int) (a0_2 : BA) (l0_3 : List (S36)) (a0_4 : BA) (l0_5 : List (S43)) : Option (Bool) := (spec_ElDeep.f k a0_0 a0_1 a0_2 l0_3 a0_4 l0_5).bind fun t544 => (if t544 ≤ 60 then ((spec_l15El.f k a0_0 a0_1 a0_2 l0_3 a0_4 l0_5).bind fun t545 => (some t545)) else (some false))
theorem spec_ElOk.mono : ∀ a0 a1 a2 a3 a4 a5 k, LeO (spec_ElOk.f k a0 a1 a2 a3 a4 a5) (spec_ElOk.f (k + 1) a0 a1 a2 a3 a4 a5) := by
 intro a0 a1 a2 a3 a4 a5 k;unfold spec_ElOk.f;with_reducible repeat' first | exact spec_ElDeep.mono _ _ _ _ _ _ _ | exact spec_l15El.mono _ _ _ _ _ _ _ | apply LeO.refl | apply LeO.none | apply LeO.ite | apply LeO.bind | intro
theorem spec_ElOk.calls (k : Nat) (a0_0 : Int) (a0_1 : Int) (a0_2 : BA) (A0_3 : Option Addr) (c0_3 : Nat) (l0_3 : List (S36)) (a0_4 : BA) (A0_5 : Option Addr) (c0_5 : Nat) (l0_5 : List (S43)) (r : Bool) (w : World) (hr0_3 : Kd.C k36 w A0_3 l0_3.length l0_3) (hc0_3 : l0_3.length ≤ c0_3) (hr0_5 : Kd.C k43 w A0_5 l0_5.length l0_5) (hc0_5 : l0_5.length ≤ c0_5) (h : spec_ElOk.f k a0_0 a0_1 a0_2 l0_3 a0_4 l0_5 = some r) :
  Calls Tryz.prog 85 #[.agg #[.int .i64 a0_0, .int .i64 a0_1, .string a0_2, .slice A0_3 l0_3.length c0_3, .string a0_4, .slice A0_5 l0_5.length c0_5]] w fun e w' => e = .returned (.bool r) ∧ Below w.heap.size w w' := by
 have hu43 := Tryz.underlying43;have HR0_3 := A_ hr0_3;have HC0_3 := A_ hc0_3;clear hr0_3 hc0_3;have HR0_5 := A_ hr0_5;have HC0_5 := A_ hc0_5;clear hr0_5 hc0_5;have HB := A_ (Below.refl w.heap.size w);have H : ((spec_ElDeep.f k a0_0 a0_1 a0_2 l0_3 a0_4 l0_5).bind fun t544 => (if t544 ≤ 60 then ((spec_l15El.f k a0_0 a0_1 a0_2 l0_3 a0_4 l0_5).bind fun t545 => (some t545)) else (some false))) = some r := h;clear h;obtain ⟨t544, A2, H⟩ := ob_ H;rcases ic_ H with ⟨c3, H⟩ | ⟨c3, H⟩
 ·have c3b0 := dE_ c3;clear c3;obtain ⟨t545, A4, H⟩ := ob_ H;obtain rfl := sI_ H;go_enter Tryz.func85, Tryz.ntmps85
  go_wp2_with (first | ((with_reducible refine gate_dst (N := 1) rfl ?_); refine bE_ #[.int .i64 a0_0, .int .i64 a0_1, .string a0_2, .slice A0_3 l0_3.length c0_3, .string a0_4, .slice A0_5 l0_5.length c0_5] 43 ?_; intro gb543 hg w5 hbox hb; have BK543 := A_ (hbox); have GW543 := hs_ hg; have GE543 := hs_ hg; replace HB := bS_ hb; clear hb hbox hg; obtain ⟨hcz6_0, hcz6_1, hcz6_2, hcz6_3, hcz6_4, hcz6_5, hfz6_0, hfz6_1, hfz6_2, hfz6_3, hfz6_4, hfz6_5⟩ := bk6_ BK543.out) | ((with_reducible refine gC_ 133 ?_); refine gL_ 4 Tryz.func133 #[.agg #[.int .i64 a0_0, .int .i64 a0_1, .string a0_2, .slice A0_3 l0_3.length c0_3, .string a0_4, .slice A0_5 l0_5.length c0_5]] ?_; (with_reducible refine (spec_ElDeep.calls k a0_0 a0_1 a0_2 _ _ l0_3 a0_4 _ _ l0_5 t544 _ ?side1 ?side2 ?side3 ?side4 A2.out).mono ?_); (case side1 => exact Kd.C_below HR0_3.out hB_); (case side2 => exact HC0_3.out); (case side3 => exact Kd.C_below HR0_5.out hB_); (case side4 => exact HC0_5.out); rintro e w7 ⟨rfl, hb⟩; refine ⟨_, rfl, ?_⟩; replace BK543 := A_ (blk_below (g := gb543) (o := .cells #[.int .i64 a0_0, .int .i64 a0_1, .string a0_2, .slice A0_3 l0_3.length c0_3, .string a0_4, .slice A0_5 l0_5.length c0_5] 43 (0, 0)) (blk_below BK543.out hR_) hb); replace HB := bS_ hb; clear hb; obtain ⟨hcz8_0, hcz8_1, hcz8_2, hcz8_3, hcz8_4, hcz8_5, hfz8_0, hfz8_1, hfz8_2, hfz8_3, hfz8_4, hfz8_5⟩ := bk6_ BK543.out) | (go_at_call 134; (with_reducible refine (spec_l15El.calls k a0_0 a0_1 a0_2 _ _ l0_3 a0_4 _ _ l0_5 t545 _ ?side1 ?side2 ?side3 ?side4 A4.out).mono ?_); (case side1 => exact Kd.C_below HR0_3.out hB_); (case side2 => exact HC0_3.out); (case side3 => exact Kd.C_below HR0_5.out hB_); (case side4 => exact HC0_5.out); rintro e w9 ⟨rfl, hb⟩; replace BK543 := A_ (blk_below (g := gb543) (o := .cells #[.int .i64 a0_0, .int .i64 a0_1, .string a0_2, .slice A0_3 l0_3.length c0_3, .string a0_4, .slice A0_5 l0_5.length c0_5] 43 (0, 0)) (blk_below BK543.out hR_) hb); replace HB := bS_ hb; clear hb))
  go_ret
  exact ⟨e1_, hB_⟩
 ·have c3b0 := dF_ c3;clear c3;obtain rfl := sI_ H;go_enter Tryz.func85, Tryz.ntmps85
  go_wp2_with (first | ((with_reducible refine gate_dst (N := 1) rfl ?_); refine bE_ #[.int .i64 a0_0, .int .i64 a0_1, .string a0_2, .slice A0_3 l0_3.length c0_3, .string a0_4, .slice A0_5 l0_5.length c0_5] 43 ?_; intro gb543 hg w10 hbox hb; have BK543 := A_ (hbox); have GW543 := hs_ hg; have GE543 := hs_ hg; replace HB := bS_ hb; clear hb hbox hg; obtain ⟨hcz11_0, hcz11_1, hcz11_2, hcz11_3, hcz11_4, hcz11_5, hfz11_0, hfz11_1, hfz11_2, hfz11_3, hfz11_4, hfz11_5⟩ := bk6_ BK543.out) | ((with_reducible refine gC_ 133 ?_); refine gL_ 4 Tryz.func133 #[.agg #[.int .i64 a0_0, .int .i64 a0_1, .string a0_2, .slice A0_3 l0_3.length c0_3, .string a0_4, .slice A0_5 l0_5.length c0_5]] ?_; (with_reducible refine (spec_ElDeep.calls k a0_0 a0_1 a0_2 _ _ l0_3 a0_4 _ _ l0_5 t544 _ ?side1 ?side2 ?side3 ?side4 A2.out).mono ?_); (case side1 => exact Kd.C_below HR0_3.out hB_); (case side2 => exact HC0_3.out); (case side3 => exact Kd.C_below HR0_5.out hB_); (case side4 => exact HC0_5.out); rintro e w12 ⟨rfl, hb⟩; refine ⟨_, rfl, ?_⟩; replace BK543 := A_ (blk_below (g := gb543) (o := .cells #[.int .i64 a0_0, .int .i64 a0_1, .string a0_2, .slice A0_3 l0_3.length c0_3, .string a0_4, .slice A0_5 l0_5.length c0_5] 43 (0, 0)) (blk_below BK543.out hR_) hb); replace HB := bS_ hb; clear hb))
  go_ret
  exact ⟨e1_, hB_⟩
def spec_ReadEl.f (k : Nat) (a0 : BA) (a1 a2 : Int) : Option (S43 × Int) := if a1 < 0 then some (z43, -1) else if (a0.size : Int) ≤ a1 then some (z43, -1) else (spec_l19El.f k a0 a1 true a2 60).bind fun q => (if q.2.2.2 = false then some (z43, -1) else (spec_ElOk.f k q.1.f0 q.1.f1 q.1.f2 q.1.f3 q.1.f4 q.1.f5).bind fun o => (if o = true then some (q.1, q.2.2.1) else some (z43, -1)))
theorem spec_ReadEl.mono : ∀ a0 a1 a2 k, LeO (spec_ReadEl.f k a0 a1 a2) (spec_ReadEl.f (k + 1) a0 a1 a2) := fun a0 a1 a2 k => LeO.ite (LeO.refl _) (LeO.ite (LeO.refl _) (LeO.bind (spec_l19El.mono _ _ _ _ _ _) fun q => LeO.ite (LeO.refl _) (LeO.bind (spec_ElOk.mono _ _ _ _ _ _ _) fun o => LeO.refl _)))
theorem spec_ReadEl.calls (k : Nat) (a0 : BA) (a1 a2 : Int) (r0 : S43) (r1 : Int) (w : World) (h : spec_ReadEl.f k a0 a1 a2 = some (r0, r1)) :
  Calls Tryz.prog 33 #[.string a0, .int .i64 a1, .int .i64 a2] w fun e w' => ∃ (cs : Array Value), e = .returned (.tuple #[.agg cs, .int .i64 r1]) ∧ k43.M w' w.heap.size (fun _ => True) r0 cs.toList ∧ Below w.heap.size w w' := by
 have hu := Tryz.underlying43;have hu2 := Tryz.underlying89;unfold spec_ReadEl.f at h;by_cases d0 : a1 < 0
 ·rw [if_pos d0] at h;have b0 : decide (a1 < 0) = true := dE_ d0;obtain ⟨rfl, rfl⟩ := Prod.mk.inj (sI_ h);clear h;go_enter Tryz.func33, Tryz.ntmps33
  go_wp2_with (first | ((with_reducible refine gate_dst (N := 6) rfl ?_); refine bZ_ 43 ?_; intro gr hg w1 hbox hb; have HGR := A_ hg; have HB1 := A_ hb; have HX1 := A_ hbox; clear hg hbox hb; obtain ⟨hz0, hz1, hz2, hz3, hz4, hz5, hy0, hy1, hy2, hy3, hy4, hy5⟩ := bk6_ HX1.out))
  refine bodyPost_ret (results_ct rfl _ _ gr 43 #[.int .i64 0, .int .i64 0, .string ⟨#[]⟩, .slice none 0 0, .string ⟨#[]⟩, .slice none 0 0] (0, 0) _ rfl (blk_six HX1.out _ _ _ _ _ _) hu rfl (by kernel_rfl)) rfl ?_;exact ⟨_, rfl, k43_mkM _ _ _ z43 (Kd.R_nil _ _ _ _ _) (Kd.R_nil _ _ _ _ _), below_six HB1.out (Nat.le_of_eq HGR.out.symm) _ _ _ _ _ _⟩
 rw [if_neg d0] at h;have b0 : decide (a1 < 0) = false := dF_ d0;by_cases d1 : (a0.size : Int) ≤ a1
 ·rw [if_pos d1] at h;have b1 : decide ((a0.size : Int) ≤ a1) = true := dE_ d1;obtain ⟨rfl, rfl⟩ := Prod.mk.inj (sI_ h);clear h;go_enter Tryz.func33, Tryz.ntmps33
  go_wp2_with (first | ((with_reducible refine gate_dst (N := 6) rfl ?_); refine bZ_ 43 ?_; intro gr hg w1 hbox hb; have HGR := A_ hg; have HB1 := A_ hb; have HX1 := A_ hbox; clear hg hbox hb; obtain ⟨hz0, hz1, hz2, hz3, hz4, hz5, hy0, hy1, hy2, hy3, hy4, hy5⟩ := bk6_ HX1.out))
  refine bodyPost_ret (results_ct rfl _ _ gr 43 #[.int .i64 0, .int .i64 0, .string ⟨#[]⟩, .slice none 0 0, .string ⟨#[]⟩, .slice none 0 0] (0, 0) _ rfl (blk_six HX1.out _ _ _ _ _ _) hu rfl (by kernel_rfl)) rfl ?_;exact ⟨_, rfl, k43_mkM _ _ _ z43 (Kd.R_nil _ _ _ _ _) (Kd.R_nil _ _ _ _ _), below_six HB1.out (Nat.le_of_eq HGR.out.symm) _ _ _ _ _ _⟩
 rw [if_neg d1] at h;have b1 : decide ((a0.size : Int) ≤ a1) = false := dF_ d1;obtain ⟨⟨q0, s5, p5, b5⟩, hq, h⟩ := oB_ h;dsimp only at h;have HQ := A_ hq;have HH := A_ h;clear hq h;go_enter Tryz.func33, Tryz.ntmps33
 go_upto_region 5 with (first | ((with_reducible refine gate_dst (N := 6) rfl ?_); refine bZ_ 43 ?_; intro gr hg w1 hbox hb; have HGR := A_ hg; have HB1 := A_ hb; have HX1 := A_ hbox; clear hg hbox hb) | ((with_reducible refine gate_dst (N := 22) rfl ?_); refine bE_ #[.string a0, .int .i64 a1, .bool true] 89 ?_; intro g hg w3 hbox hb; have HNG := A_ (show gr ≠ g from by have := blk_lt HX1.out; omega); have HS3 := A_ (show IsS89 w w3 g a0 a1 true from ⟨hbox, by rw [hg]; exact HB1.out.size⟩); have HB3 := A_ (below_step HB1.out hb); have HX3 := A_ (blk_below HX1.out hb); clear hg hbox hb HB1 HX1) | (go_at_call 84; (with_reducible refine (spec_l19El.calls k g a2 60 a0 a1 true q0 s5 p5 b5 w _ HS3.out HB3.out HQ.out).mono ?_); rintro e w5 ⟨cs, rfl, hm, hi, hb, hk⟩; obtain ⟨v3, v5, hcs, g3, g5⟩ := k43_openM hm; obtain rfl : cs = #[.int .i64 q0.f0, .int .i64 q0.f1, .string q0.f2, v3, .string q0.f4, v5] := Array.ext' hcs; obtain ⟨A3, c3, rfl⟩ := Kd.R_slice g3; obtain ⟨A5, c5, rfl⟩ := Kd.R_slice g5; have HM5 := A_ (k43.M_mono (ok' := fun k_ => k_ ≠ gr) (fun k_ hk_ => by have := blk_lt HX3.out; omega) hm); have HS5 := A_ hi; have HB5 := A_ hb; have HX5 := A_ (hk.blk HX3.out HNG.out si_); clear hm hcs g3 g5 hi hb hk HS3 HB3 HX3) | ((with_reducible refine gate_dst (N := 9) rfl ?_); refine bZ_ 43 ?_; intro ge hg w6 hbox hb; have HNE := A_ (show gr ≠ ge ∧ g ≠ ge from by have h1_ := blk_lt HX5.out; have h2_ := HS5.out.lt; omega); have HGE := A_ (show w.heap.size ≤ ge by rw [hg]; exact HB5.out.size); have HM6 := A_ (k43.M_mono (ok' := fun k_ => k_ ≠ ge ∧ k_ ≠ gr) (fun k_ hk_ => ⟨by have := hk_.2.2.1; omega, hk_.1⟩) (Kd.M_below (k43.M_bound HM5.out) hb)); have HS6 := A_ (HS5.out.below hb); have HB6 := A_ (below_step HB5.out hb); have HX6 := A_ (blk_below HX5.out hb); have HXE := A_ hbox; obtain ⟨he0, he1, he2, he3, he4, he5, hf0, hf1, hf2, hf3, hf4, hf5⟩ := bk6_ hbox; clear hg hbox hb HM5 HS5 HB5 HX5))
 have hk6 : KeepBut w6 _ ge none := ((((((KeepBut.refl w6 ge none).set_ 0 (.int .i64 q0.f0)).set_ 1 (.int .i64 q0.f1)).set_ 2 (.string q0.f2)).set_ 3 (.slice A3 q0.f3.length c3)).set_ 4 (.string q0.f4)).set_ 5 (.slice A5 q0.f5.length c5);have HS7 := A_ (show IsS89 w _ g s5 p5 b5 from ⟨hk6.blk HS6.out.1 HNE.out.2 si_, HS6.out.2⟩);have HX7 := A_ (hk6.blk HX6.out HNE.out.1 si_);have HE7 := A_ (blk_six HXE.out (.int .i64 q0.f0) (.int .i64 q0.f1) (.string q0.f2) (.slice A3 q0.f3.length c3) (.string q0.f4) (.slice A5 q0.f5.length c5));have HM7 := A_ (Kd.M_keep HM6.out hk6 (fun k_ hk_ => hk_.1));have HB7 := A_ (below_six HB6.out HGE.out (.int .i64 q0.f0) (.int .i64 q0.f1) (.string q0.f2) (.slice A3 q0.f3.length c3) (.string q0.f4) (.slice A5 q0.f5.length c5));clear hk6 HS6 HX6 HXE HM6 HB6 he0 he1 he2 he3 he4 he5 hf0 hf1 hf2 hf3 hf4 hf5;generalize World.setCell _ _ _ = w7 at HS7 HX7 HE7 HM7 HB7 ⊢;have hc2 := (blk_cell HS7.out.1 2).trans rfl;obtain ⟨hz0, hz1, hz2, hz3, hz4, hz5, hy0, hy1, hy2, hy3, hy4, hy5⟩ := bk6_ HX7.out; obtain ⟨he0, he1, he2, he3, he4, he5⟩ := bc6_ HE7.out;cases b5 with
 | false =>
  have h := HH.out;rw [if_pos rfl] at h;obtain ⟨rfl, rfl⟩ := Prod.mk.inj (sI_ h);clear h HH;go_wp2
  refine bodyPost_ret (results_ct rfl _ _ gr 43 #[.int .i64 0, .int .i64 0, .string ⟨#[]⟩, .slice none 0 0, .string ⟨#[]⟩, .slice none 0 0] (0, 0) _ rfl (blk_six HX7.out _ _ _ _ _ _) hu rfl (by kernel_rfl)) rfl ?_;exact ⟨_, rfl, k43_mkM _ _ _ z43 (Kd.R_nil _ _ _ _ _) (Kd.R_nil _ _ _ _ _), below_six HB7.out (Nat.le_of_eq HGR.out.symm) _ _ _ _ _ _⟩
 | true =>
  have h := HH.out;rw [if_neg si_] at h;obtain ⟨ok, hk, h⟩ := oB_ h;obtain ⟨v3, v5, hcs, g3, g5⟩ := k43_openM HM7.out;obtain ⟨rfl, rfl⟩ : .slice A3 q0.f3.length c3 = v3 ∧ .slice A5 q0.f5.length c5 = v5 := by simpa using hcs
  have HR3 := A_ (Kd.R_reads' g3);have HR5 := A_ (Kd.R_reads' g5);have HK := A_ hk;clear hk hcs g3 g5;cases ok with
  | false =>
   rw [if_neg si_] at h;obtain ⟨rfl, rfl⟩ := Prod.mk.inj (sI_ h);clear h HH;go_wp2_with (first | (go_at_call 85; (with_reducible refine (spec_ElOk.calls k q0.f0 q0.f1 q0.f2 A3 c3 q0.f3 q0.f4 A5 c5 q0.f5 false _ HR3.out.2.2 HR3.out.2.1 HR5.out.2.2 HR5.out.2.1 HK.out).mono ?_); rintro e w8 ⟨rfl, hb⟩; have HB8 := A_ (below_step HB7.out hb); have HX8 := A_ (blk_below HX7.out hb); have HE8 := A_ (blk_below HE7.out hb); have HS8 := A_ (HS7.out.below hb); have HM8 := A_ (Kd.M_below HM7.out hb); clear hb HB7 HX7 HE7 HS7 HM7 hc2 hz0 hz1 hz2 hz3 hz4 hz5 hy0 hy1 hy2 hy3 hy4 hy5 he0 he1 he2 he3 he4 he5; obtain ⟨hz0, hz1, hz2, hz3, hz4, hz5, hy0, hy1, hy2, hy3, hy4, hy5⟩ := bk6_ HX8.out))
   refine bodyPost_ret (results_ct rfl _ _ gr 43 #[.int .i64 0, .int .i64 0, .string ⟨#[]⟩, .slice none 0 0, .string ⟨#[]⟩, .slice none 0 0] (0, 0) _ rfl (blk_six HX8.out _ _ _ _ _ _) hu rfl (by kernel_rfl)) rfl ?_;exact ⟨_, rfl, k43_mkM _ _ _ z43 (Kd.R_nil _ _ _ _ _) (Kd.R_nil _ _ _ _ _), below_six HB8.out (Nat.le_of_eq HGR.out.symm) _ _ _ _ _ _⟩
  | true =>
   rw [if_pos rfl] at h;obtain ⟨rfl, rfl⟩ := Prod.mk.inj (sI_ h);clear h HH;go_upto_region 7 with (first | (go_at_call 85; (with_reducible refine (spec_ElOk.calls k q0.f0 q0.f1 q0.f2 A3 c3 q0.f3 q0.f4 A5 c5 q0.f5 true _ HR3.out.2.2 HR3.out.2.1 HR5.out.2.2 HR5.out.2.1 HK.out).mono ?_); rintro e w8 ⟨rfl, hb⟩; have HB8 := A_ (below_step HB7.out hb); have HX8 := A_ (blk_below HX7.out hb); have HE8 := A_ (blk_below HE7.out hb); have HS8 := A_ (HS7.out.below hb); have HM8 := A_ (Kd.M_below HM7.out hb); clear hb HB7 HX7 HE7 HS7 HM7 hc2 hz0 hz1 hz2 hz3 hz4 hz5 hy0 hy1 hy2 hy3 hy4 hy5 he0 he1 he2 he3 he4 he5))
   have HB9 := A_ (bD9 HB8.out);have HX9 := A_ (blk_drew HX8.out);have HE9 := A_ (blk_drew HE8.out);have HS9 := A_ (blk_drew HS8.out.1);have HM9 := A_ (Kd.M_below HM8.out (below_drew (Below.refl _ _)));clear HB8 HX8 HE8 HS8 HM8;refine start_ (n := 7) (S := fun w' => w'.heap[ge]? = some (.cells #[.int .i64 q0.f0, .int .i64 q0.f1, .string q0.f2, .slice A3 q0.f3.length c3, .string q0.f4, .slice A5 q0.f5.length c5] 43 (0, 0)) ∧ w'.heap[g]? = some (.cells #[.string s5, .int .i64 p5, .bool true] 89 (0, 0))) (ds := []) (tS 7 0) (by kernel_rfl) rfl rfl ⟨HE9.out, HS9.out⟩ (fun hHeld => ?_);generalize World.drew _ = wq0 at HB9 HX9 HE9 HS9 HM9 hHeld ⊢;refine tq_ rfl (by rintro w' ⟨s0, s1⟩; obtain ⟨z0, z1, z2, z3, z4, z5⟩ := bc6_ s0; go_simp; with_reducible rfl) ?_;iterate 3 refine pq_ ?_
   refine tq_ rfl (by rintro w' ⟨s0, s1⟩; have z1 := (blk_cell s1 1).trans rfl; go_simp; with_reducible rfl) ?_;refine one_ (i := 5) (N := none) (tS 7 6) rfl rfl (by kernel_rfl) de_ (fun K hK => ?_);refine put_step6 ?hw ?hN 43 (.tmp 6) (.tmp 37) ?ho (g := gr) (u0 := .int .i64 q0.f0) (u1 := .int .i64 q0.f1) (u2 := .string q0.f2) (u3 := .slice A3 q0.f3.length c3) (u4 := .string q0.f4) (u5 := .slice A5 q0.f5.length c5) ?ha ?hx (by kernel_rfl) HX9.out (by intro q_ hq_; simp at hq_; rcases hq_ with rfl | rfl | rfl | rfl | rfl | rfl <;> rfl) ?_; (case hw => rfl); (case hN => rfl); (case ho => rfl); (case ha => rfl); (case hx => rfl);refine hK.out _ _ ⟨(((((((KeepBut.refl _ gr none).set_ 0 (.int .i64 q0.f0)).set_ 1 (.int .i64 q0.f1)).set_ 2 (.string q0.f2)).set_ 3 (.slice A3 q0.f3.length c3)).set_ 4 (.string q0.f4)).set_ 5 (.slice A5 q0.f5.length c5)).blk HE9.out (Ne.symm HNE.out.1) si_, (((((((KeepBut.refl _ gr none).set_ 0 (.int .i64 q0.f0)).set_ 1 (.int .i64 q0.f1)).set_ 2 (.string q0.f2)).set_ 3 (.slice A3 q0.f3.length c3)).set_ 4 (.string q0.f4)).set_ 5 (.slice A5 q0.f5.length c5)).blk HS9.out (Ne.symm HNG.out) si_⟩ (fun hHeld => ?_);clear hK K;refine pq_ ?_;refine done_ (by kernel_rfl) ?_;go_wp2
   refine bodyPost_ret (results_ct rfl _ _ gr 43 #[.int .i64 q0.f0, .int .i64 q0.f1, .string q0.f2, .slice A3 q0.f3.length c3, .string q0.f4, .slice A5 q0.f5.length c5] (0, 0) _ rfl (blk_six HX9.out _ _ _ _ _ _) hu rfl (by kernel_rfl)) rfl ?_;exact ⟨_, rfl, k43.M_mono (fun _ _ => trivial) (Kd.M_keep HM9.out (((((((KeepBut.refl _ gr none).set_ 0 (.int .i64 q0.f0)).set_ 1 (.int .i64 q0.f1)).set_ 2 (.string q0.f2)).set_ 3 (.slice A3 q0.f3.length c3)).set_ 4 (.string q0.f4)).set_ 5 (.slice A5 q0.f5.length c5)) (fun k_ hk_ => hk_.2)), below_six HB9.out (Nat.le_of_eq HGR.out.symm) _ _ _ _ _ _⟩
def impl_NameOk.l0 : Nat → ByteArray → List Int → Int → Int → Option (Bool)
 | 0, _, _, _, _ => none
 | k + 1, x0, x6, x7, x8 => if x8 < x7 then (if 0 ≤ x8 then (if x8 < (x6.length : Int) then (if x8 = 0 then ((impl_IsFirst.f (rd x6 x8)).bind fun t593 => (if t593 = true then ((impl_IsNext.f (rd x6 x8)).bind fun t594 => (if t594 = true then (impl_NameOk.l0 k x0 x6 x7 (wrap64 (x8 + 1))) else (some false))) else (some false))) else ((impl_IsNext.f (rd x6 x8)).bind fun t595 => (if t595 = true then (impl_NameOk.l0 k x0 x6 x7 (wrap64 (x8 + 1))) else (some false)))) else (none)) else (none)) else (if x0.toList = ([] : List UInt8) then (some false) else ((impl_CleanOk.f k x0).bind fun t591 => (some t591)))
def impl_NameOk.f (k : Nat) (a0 : BA) : Option (Bool) := (impl_Signs.f k a0).bind fun t588 => (impl_NameOk.l0 k a0 t588 (t588.length : Int) 0)
theorem impl_NameOk.mono_l : ∀ k, (∀ y0 y1 y2 y3, LeO (impl_NameOk.l0 k y0 y1 y2 y3) (impl_NameOk.l0 (k + 1) y0 y1 y2 y3))
 | 0 => fun _ _ _ _ r h => by simp [impl_NameOk.l0] at h
 | k + 1 => by
  have ih0 := impl_NameOk.mono_l k
  ·intro y0 y1 y2 y3;unfold impl_NameOk.l0;with_reducible repeat' first | exact ih0 _ _ _ _ | exact impl_CleanOk.mono _ _ | exact impl_Signs.mono _ _ | apply LeO.refl | apply LeO.none | apply LeO.ite | apply LeO.bind | intro
theorem impl_NameOk.mono : ∀ a0 k, LeO (impl_NameOk.f k a0) (impl_NameOk.f (k + 1) a0) := by
 intro a0 k;have ih0 := impl_NameOk.mono_l k;unfold impl_NameOk.f;with_reducible repeat' first | exact ih0 _ _ _ _ | exact impl_CleanOk.mono _ _ | exact impl_Signs.mono _ _ | apply LeO.refl | apply LeO.none | apply LeO.ite | apply LeO.bind | intro
theorem impl_NameOk.calls (k : Nat) (a0 : BA) (r : Bool) (w : World) (h : impl_NameOk.f k a0 = some r) :
  Calls Tryz.prog 176 #[.string a0] w fun e w' => e = .returned (.bool r) ∧ Below w.heap.size w w' := by
 have HB := A_ (Below.refl w.heap.size w);have H : ((impl_Signs.f k a0).bind fun t588 => (impl_NameOk.l0 k a0 t588 (t588.length : Int) 0)) = some r := h;clear h;obtain ⟨t588, A2, H⟩ := ob_ H;(try dsimp only at H)
 have H' := A_ H;clear H;go_enter Tryz.func176, Tryz.ntmps176
 go_wp2_with (first | ((with_reducible refine gC_ 82 ?_); refine gL_ 6 Tryz.func82 #[.string a0] ?_; (with_reducible refine (impl_Signs.calls k a0 t588 _ A2.out).mono ?_); rintro e w3 ⟨v589, rfl, ho0, hb⟩; refine ⟨_, rfl, ?_⟩; have HO590 := A_ (Kd.R_lower ho0 (below_size hB_)); replace HB := bS_ hb; clear hb; (try clear ho0); obtain ⟨Ao4, co4, eo4⟩ := Kd.R_slice HO590.out; subst eo4))
 go_loopg [8] k (fun kq v8 w' => ∃ (x8_1 : Int), v8 = .int .i64 x8_1 ∧ As9 (impl_NameOk.l0 kq a0 t588 (t588.length : Int) x8_1 = some r) ∧ As9 (kq ≤ k) ∧ As9 (Kd.R (Kd.int .i64) 3 w' w.heap.size (fun _ => True) (.slice Ao4 t588.length co4) t588) ∧ As9 (Below w.heap.size w w'))
 case atStart => exact ⟨(0), e2_, H', ⟨Nat.le_refl _⟩, ⟨kQ_ HO590.out⟩, ⟨hB_⟩⟩
 case round =>
  clear H';try clear c1
  try clear p2
  obtain ⟨x8_1, rfl, HA, HK1, HO_6, HB⟩ := hrel;cases gk with
  | zero => exact absurd HA.out (by simp [impl_NameOk.l0])
  | succ k1 =>
   have H := HA.out;clear HA;simp only [impl_NameOk.l0] at H;rcases ic_ H with ⟨c5, H⟩ | ⟨c5, H⟩
   ·have c5b0 := dE_ c5;clear c5;obtain ⟨c6, H⟩ := ifn_ H;have c6b0 := dE_ c6;clear c6;obtain ⟨c7, H⟩ := ifn_ H;have c7b0 := dE_ c7;clear c7;rcases ic_ H with ⟨c8, H⟩ | ⟨c8, H⟩
    ·obtain ⟨c8b0, c8b1⟩ := be_ c8;clear c8;obtain ⟨t593, A9, H⟩ := ob_ H;(try dsimp only at H)
     by_cases c10 : t593 = true
     ·subst c10;rw [if_pos rfl] at H;obtain ⟨t594, A11, H⟩ := ob_ H;(try dsimp only at H)
      by_cases c12 : t594 = true
      ·subst c12;rw [if_pos rfl] at H;have H' := A_ H;clear H;have p592 : 0 ≤ (x8_1 : Int) := dT_;have q592 : x8_1 < (t588.length : Int) := dT_;obtain ⟨ad592, e592, hx592_0⟩ := Kd.at_int (Kd.R_reads' HO_6.out).2.2 x8_1 p592 q592;cases e592;replace p592 := eq_true p592;replace q592 := eq_true q592;go_wp2_with (first | (go_at_call 56; (with_reducible refine (impl_IsFirst.calls (rd t588 x8_1) true _ A9.out).mono ?_); rintro e w13 ⟨rfl, hb⟩; replace HO_6 := A_ (Kd.R_below (kQ_ HO_6.out) hb); replace HB := bS_ hb; clear hb) | (go_at_call 57; (with_reducible refine (impl_IsNext.calls (rd t588 x8_1) true _ A11.out).mono ?_); rintro e w14 ⟨rfl, hb⟩; replace HO_6 := A_ (Kd.R_below (kQ_ HO_6.out) hb); replace HB := bS_ hb; clear hb))
       go_roundg k1
       case measure => have := HK1.out; omega
       case rel => exact ⟨(wrap64 (x8_1 + 1)), e2_, H', ⟨by have := HK1.out; omega⟩, ⟨kQ_ HO_6.out⟩, ⟨hB_⟩⟩
      ·replace c12 := bF_ c12;subst c12;rw [if_neg nF_] at H;obtain rfl := sI_ H;have p592 : 0 ≤ (x8_1 : Int) := dT_;have q592 : x8_1 < (t588.length : Int) := dT_;obtain ⟨ad592, e592, hx592_0⟩ := Kd.at_int (Kd.R_reads' HO_6.out).2.2 x8_1 p592 q592;cases e592;replace p592 := eq_true p592;replace q592 := eq_true q592;go_wp2_with (first | (go_at_call 56; (with_reducible refine (impl_IsFirst.calls (rd t588 x8_1) true _ A9.out).mono ?_); rintro e w15 ⟨rfl, hb⟩; replace HO_6 := A_ (Kd.R_below (kQ_ HO_6.out) hb); replace HB := bS_ hb; clear hb) | (go_at_call 57; (with_reducible refine (impl_IsNext.calls (rd t588 x8_1) false _ A11.out).mono ?_); rintro e w16 ⟨rfl, hb⟩; replace HO_6 := A_ (Kd.R_below (kQ_ HO_6.out) hb); replace HB := bS_ hb; clear hb))
       go_ret
       exact ⟨e1_, hB_⟩
     ·replace c10 := bF_ c10;subst c10;rw [if_neg nF_] at H;obtain rfl := sI_ H;have p592 : 0 ≤ (x8_1 : Int) := dT_;have q592 : x8_1 < (t588.length : Int) := dT_;obtain ⟨ad592, e592, hx592_0⟩ := Kd.at_int (Kd.R_reads' HO_6.out).2.2 x8_1 p592 q592;cases e592;replace p592 := eq_true p592;replace q592 := eq_true q592;go_wp2_with (first | (go_at_call 56; (with_reducible refine (impl_IsFirst.calls (rd t588 x8_1) false _ A9.out).mono ?_); rintro e w17 ⟨rfl, hb⟩; replace HO_6 := A_ (Kd.R_below (kQ_ HO_6.out) hb); replace HB := bS_ hb; clear hb))
      go_ret
      exact ⟨e1_, hB_⟩
    ·obtain ⟨c8b0, c8b1⟩ := bn_ c8;obtain ⟨t595, A18, H⟩ := ob_ H;(try dsimp only at H)
     by_cases c19 : t595 = true
     ·subst c19;rw [if_pos rfl] at H;have H' := A_ H;clear H;have p592 : 0 ≤ (x8_1 : Int) := dT_;have q592 : x8_1 < (t588.length : Int) := dT_;obtain ⟨ad592, e592, hx592_0⟩ := Kd.at_int (Kd.R_reads' HO_6.out).2.2 x8_1 p592 q592;cases e592;replace p592 := eq_true p592;replace q592 := eq_true q592;go_wp2_with (first | (go_at_call 57; (with_reducible refine (impl_IsNext.calls (rd t588 x8_1) true _ A18.out).mono ?_); rintro e w20 ⟨rfl, hb⟩; replace HO_6 := A_ (Kd.R_below (kQ_ HO_6.out) hb); replace HB := bS_ hb; clear hb))
      go_roundg k1
      case measure => have := HK1.out; omega
      case rel => exact ⟨(wrap64 (x8_1 + 1)), e2_, H', ⟨by have := HK1.out; omega⟩, ⟨kQ_ HO_6.out⟩, ⟨hB_⟩⟩
     ·replace c19 := bF_ c19;subst c19;rw [if_neg nF_] at H;obtain rfl := sI_ H;have p592 : 0 ≤ (x8_1 : Int) := dT_;have q592 : x8_1 < (t588.length : Int) := dT_;obtain ⟨ad592, e592, hx592_0⟩ := Kd.at_int (Kd.R_reads' HO_6.out).2.2 x8_1 p592 q592;cases e592;replace p592 := eq_true p592;replace q592 := eq_true q592;go_wp2_with (first | (go_at_call 57; (with_reducible refine (impl_IsNext.calls (rd t588 x8_1) false _ A18.out).mono ?_); rintro e w21 ⟨rfl, hb⟩; replace HO_6 := A_ (Kd.R_below (kQ_ HO_6.out) hb); replace HB := bS_ hb; clear hb))
      go_ret
      exact ⟨e1_, hB_⟩
   ·have c5b0 := dF_ c5;clear c5;rcases ic_ H with ⟨c22, H⟩ | ⟨c22, H⟩
    ·obtain ⟨c22b0, c22b1⟩ := be_ c22;clear c22;obtain rfl := sI_ H;go_wp2
     go_ret
     exact ⟨e1_, hB_⟩
    ·obtain ⟨c22b0, c22b1⟩ := bn_ c22;obtain ⟨t591, A23, H⟩ := ob_ H;obtain rfl := sI_ H;go_wp2_with (first | (go_at_call 83; (with_reducible refine (impl_CleanOk.calls k1 a0 t591 _ A23.out).mono ?_); rintro e w24 ⟨rfl, hb⟩; replace HO_6 := A_ (Kd.R_below (kQ_ HO_6.out) hb); replace HB := bS_ hb; clear hb))
     go_ret
     exact ⟨e1_, hB_⟩
def impl_strictAttrs.l0 : Nat → List (S36) → List (S36) → Int → Int → Option (Bool)
 | 0, _, _, _, _ => none
 | k + 1, x0, x5, x6, x7 => if x7 < x6 then (if 0 ≤ x7 then (if x7 < (x5.length : Int) then ((impl_NameOk.f k ((rd_T36 x5 x7).f0)).bind fun t598 => (if t598 = true then (if ((rd_T36 x5 x7).f0).toList = ([120, 109, 108, 110, 115] : List UInt8) then (some false) else (if x7 ≤ (x0.length : Int) then ((impl_hasAttr.f (x0.take (x7 : Int).toNat) ((rd_T36 x5 x7).f0)).bind fun t603 => (if t603 = true then (some false) else ((impl_TextOk.f k ((rd_T36 x5 x7).f1)).bind fun t604 => (if t604 = true then (impl_strictAttrs.l0 k x0 x5 x6 (wrap64 (x7 + 1))) else (some false))))) else (none))) else (some false))) else (none)) else (none)) else (some true)
def impl_strictAttrs.f (k : Nat) (l0 : List (S36)) : Option (Bool) := impl_strictAttrs.l0 k l0 l0 (l0.length : Int) 0
theorem impl_strictAttrs.mono_l : ∀ k, (∀ y0 y1 y2 y3, LeO (impl_strictAttrs.l0 k y0 y1 y2 y3) (impl_strictAttrs.l0 (k + 1) y0 y1 y2 y3))
 | 0 => fun _ _ _ _ r h => by simp [impl_strictAttrs.l0] at h
 | k + 1 => by
  have ih0 := impl_strictAttrs.mono_l k
  ·intro y0 y1 y2 y3;unfold impl_strictAttrs.l0;with_reducible repeat' first | exact ih0 _ _ _ _ | exact impl_NameOk.mono _ _ | exact impl_TextOk.mono _ _ | apply LeO.refl | apply LeO.none | apply LeO.ite | apply LeO.bind | intro
theorem impl_strictAttrs.mono : ∀ a0 k, LeO (impl_strictAttrs.f k a0) (impl_strictAttrs.f (k + 1) a0) := by
 intro a0 k;have ih0 := impl_strictAttrs.mono_l k;unfold impl_strictAttrs.f;with_reducible repeat' first | exact ih0 _ _ _ _ | exact impl_NameOk.mono _ _ | exact impl_TextOk.mono _ _ | apply LeO.refl | apply LeO.none | apply LeO.ite | apply LeO.bind | intro
def impl_strictAttrs.T4 : Bool × List (List Nat × List Nat) := (true, [([], []), ([0], [0]), ([1], [1]), ([2], [2]), ([3, 2], [3]), ([4], [4]), ([5, 4], [4, 5]), ([6, 4], [4, 6]), ([4, 7], [4, 7]), ([8, 4], [8]), ([9], [9]), ([9], [9]), ([10, 11, 9], [9, 10, 11]), ([9], [9]), ([13, 9], [9, 13]), ([12, 14, 9, 9], [9, 12, 14]), ([9, 15], [9, 15]), ([16, 15], [16]), ([17], [17]), ([18, 17], [17, 18]), ([19, 17, 17], [17, 19]), ([20, 17], [17, 20]), ([17, 21], [17, 21])])
def impl_strictAttrs.B4 : List Nat := [0, 1, 3, 7, 15, 31, 63, 127, 255, 511, 1023, 1023, 4095, 1023, 9215, 32767, 65535, 131071, 262143, 524287, 1048575, 2097151, 4194303]
theorem impl_strictAttrs.tab4 : rtab .any (opsOf Tryz.f177 4) = impl_strictAttrs.T4 := by kernel_rfl
theorem impl_strictAttrs.bits4 : waitsOk impl_strictAttrs.T4.2 impl_strictAttrs.B4 = true := by kernel_rfl
theorem impl_strictAttrs.calls (k : Nat) (A0 : Option Addr) (c0 : Nat) (l0 : List (S36)) (r : Bool) (w : World) (hr0 : Kd.C k36 w A0 l0.length l0) (hc0 : l0.length ≤ c0) (h : impl_strictAttrs.f k l0 = some r) :
  Calls Tryz.prog 177 #[.slice A0 l0.length c0] w fun e w' => e = .returned (.bool r) ∧ Below w.heap.size w w' := by
 have hu36 := Tryz.underlying36;have HR0 := A_ hr0;have HC0 := A_ hc0;clear hr0 hc0;have HB := A_ (Below.refl w.heap.size w);have H : (impl_strictAttrs.l0 k l0 l0 (l0.length : Int) 0) = some r := h;clear h;have H' := A_ H;clear H;go_enter Tryz.func177, Tryz.ntmps177
 go_wp2
 go_loopg [7] k (fun kq v7 w' => ∃ (x7_1 : Int), v7 = .int .i64 x7_1 ∧ As9 (impl_strictAttrs.l0 kq l0 l0 (l0.length : Int) x7_1 = some r) ∧ As9 (kq ≤ k) ∧ As9 (Below w.heap.size w w'))
 case atStart => exact ⟨(0), e2_, H', ⟨Nat.le_refl _⟩, ⟨hB_⟩⟩
 case round =>
  clear H';try clear c1
  obtain ⟨x7_1, rfl, HA, HK1, HB⟩ := hrel;cases gk with
  | zero => exact absurd HA.out (by simp [impl_strictAttrs.l0])
  | succ k1 =>
   have H := HA.out;clear HA;simp only [impl_strictAttrs.l0] at H;rcases ic_ H with ⟨c2, H⟩ | ⟨c2, H⟩
   ·have c2b0 := dE_ c2;clear c2;obtain ⟨c3, H⟩ := ifn_ H;have c3b0 := dE_ c3;clear c3;obtain ⟨c4, H⟩ := ifn_ H;have c4b0 := dE_ c4;clear c4;obtain ⟨t598, A5, H⟩ := ob_ H;(try dsimp only at H)
    by_cases c6 : t598 = true
    ·subst c6;rw [if_pos rfl] at H;rcases ic_ H with ⟨c7, H⟩ | ⟨c7, H⟩
     ·obtain ⟨c7b0, c7b1⟩ := be_ c7;clear c7;obtain rfl := sI_ H;obtain ⟨p596, q596, ad596, e596, hx596_0, hx596_1⟩ := aB36_ HB.out HR0.out x7_1;cases e596;try go_wp2_with (first | ((with_reducible refine gate_dst (N := 4) rfl ?_); refine bE_ #[.string (⟨#[]⟩ : BA), .string (⟨#[]⟩ : BA)] 36 ?_; intro gb597 hg w8 hbox hb; have BK597 := A_ (hbox); have GW597 := hs_ hg; have GE597 := hs_ hg; replace HB := bS_ hb; clear hb hbox hg; obtain ⟨hcz9_0, hcz9_1, hfz9_0, hfz9_1⟩ := bk2_ BK597.out))
      have n0_ : As9 (((w8.setCell ⟨gb597, 0, none⟩ (.string ((rd_T36 l0 x7_1).f0))).setCell ⟨gb597, 1, none⟩ (.string ((rd_T36 l0 x7_1).f1))).heap[gb597]? = some (.cells #[.string ((rd_T36 l0 x7_1).f0), .string ((rd_T36 l0 x7_1).f1)] 36 (0, 0))) := ⟨by refine kB_ ?_; refine blk_put (cs := #[.string ((rd_T36 l0 x7_1).f0), .string (⟨#[]⟩ : BA)]) ?_ 1 _ rfl; refine kB_ ?_; refine blk_put (cs := #[.string (⟨#[]⟩ : BA), .string (⟨#[]⟩ : BA)]) ?_ 0 _ rfl; refine kB_ ?_; exact BK597.out⟩;have n1_ : As9 (Below w.heap.size w ((w8.setCell ⟨gb597, 0, none⟩ (.string ((rd_T36 l0 x7_1).f0))).setCell ⟨gb597, 1, none⟩ (.string ((rd_T36 l0 x7_1).f1)))) := ⟨hB_⟩;(try clear BK597)
      (try clear HB)
      generalize ((w8.setCell ⟨gb597, 0, none⟩ (.string ((rd_T36 l0 x7_1).f0))).setCell ⟨gb597, 1, none⟩ (.string ((rd_T36 l0 x7_1).f1))) = w10 at n0_ n1_ ⊢;have BK597 := n0_;have HB := n1_;clear n0_ n1_;replace BK597 := A_ (blk_drew BK597.out);replace HB := A_ (bD9 HB.out);refine start_ (n := 23) (S := fun w' => w'.cell? ⟨gb597, 0, none⟩ = some (.string ((rd_T36 l0 x7_1).f0)) ∧ w'.cell? ⟨gb597, 1, none⟩ = some (.string ((rd_T36 l0 x7_1).f1))) (ds := []) (tS 23 0) (by kernel_rfl) rfl rfl ⟨(blk_cell BK597.out 0).trans rfl, (blk_cell BK597.out 1).trans rfl⟩ (fun hHeld => ?_); refine with_tabW impl_strictAttrs.tab4 impl_strictAttrs.bits4 (fun HT_ HW_ => ?_);generalize w10.drew = w11 at BK597 HB hHeld ⊢;refine pqT_ ?_;refine tqT_ rfl (by rintro w' ⟨s0, s1⟩; go_simp; with_reducible rfl) ?_;refine n1T_ 2 (tS 23 3) rfl fun K hK => ?_
      refine gS_ Tryz.func176 #[.string ((rd_T36 l0 x7_1).f0)] ?_;with_reducible refine (impl_NameOk.calls k1 ((rd_T36 l0 x7_1).f0) true _ A5.out).mono ?_
      rintro e w12 ⟨rfl, hb⟩;refine ⟨_, rfl, ?_⟩;replace BK597 := A_ (blk_below (g := gb597) (o := .cells #[.string ((rd_T36 l0 x7_1).f0), .string ((rd_T36 l0 x7_1).f1)] 36 (0, 0)) (blk_below BK597.out hR_) hb);replace HB := bS_ hb;clear hb;refine hK.out _ _ ⟨(blk_cell BK597.out 0).trans rfl, (blk_cell BK597.out 1).trans rfl⟩ (fun hHeld => ?_);clear hK K;refine nm_ ?_;iterate 3 refine pqT_ ?_
      refine tqT_ rfl (by rintro w' ⟨s0, s1⟩; go_simp; with_reducible rfl) ?_;iterate 3 refine pqT_ ?_
      iterate 6 refine oqT_ ?_
      refine pqT_ ?_;refine pqT_ ?_;iterate 4 refine oqT_ ?_
      refine pqT_ ?_;refine done_ (done_of HT_.out (by kernel_rfl)) ?_;try go_wp2
      go_ret
      exact ⟨e1_, hB_⟩
     ·obtain ⟨c7b0, c7b1⟩ := bn_ c7;have c13b0 := eq_true (dT_ : 0 ≤ x7_1);obtain ⟨c14, H⟩ := ifn_ H;have c14b0 := eq_true c14;have c14b1 := dE_ c14;clear c14;obtain ⟨y599, hy599⟩ : ∃ y_ : List (S36), y_ = (l0.take (x7_1 : Int).toNat) := ⟨_, rfl⟩;replace H : ((impl_hasAttr.f y599 ((rd_T36 l0 x7_1).f0)).bind fun t603 => (if t603 = true then (some false) else ((impl_TextOk.f k1 ((rd_T36 l0 x7_1).f1)).bind fun t604 => (if t604 = true then (impl_strictAttrs.l0 k1 l0 l0 (l0.length : Int) (wrap64 (x7_1 + 1))) else (some false))))) = some r := by first | (rw [hy599]; with_reducible exact H) | (have H2_ := (Option.bind_some _ _).symm.trans H; rw [hy599]; with_reducible exact H2_) | (have H2_ := (Option.bind_some _ _).symm.trans H; with_reducible exact H2_) | with_reducible exact H | (rw [hy599]; exact H) | exact H
      have Ny599 := A_ hy599;clear hy599;obtain ⟨t603, A15, H⟩ := ob_ H;(try dsimp only at H)
      by_cases c16 : t603 = true
      ·subst c16;rw [if_pos rfl] at H;obtain rfl := sI_ H;obtain ⟨p596, q596, ad596, e596, hx596_0, hx596_1⟩ := aB36_ HB.out HR0.out x7_1;cases e596;try go_wp2_with (first | ((with_reducible refine gate_dst (N := 4) rfl ?_); refine bE_ #[.string (⟨#[]⟩ : BA), .string (⟨#[]⟩ : BA)] 36 ?_; intro gb597 hg w17 hbox hb; have BK597 := A_ (hbox); have GW597 := hs_ hg; have GE597 := hs_ hg; replace HB := bS_ hb; clear hb hbox hg; obtain ⟨hcz18_0, hcz18_1, hfz18_0, hfz18_1⟩ := bk2_ BK597.out))
       have n0_ : As9 (((w17.setCell ⟨gb597, 0, none⟩ (.string ((rd_T36 l0 x7_1).f0))).setCell ⟨gb597, 1, none⟩ (.string ((rd_T36 l0 x7_1).f1))).heap[gb597]? = some (.cells #[.string ((rd_T36 l0 x7_1).f0), .string ((rd_T36 l0 x7_1).f1)] 36 (0, 0))) := ⟨by refine kB_ ?_; refine blk_put (cs := #[.string ((rd_T36 l0 x7_1).f0), .string (⟨#[]⟩ : BA)]) ?_ 1 _ rfl; refine kB_ ?_; refine blk_put (cs := #[.string (⟨#[]⟩ : BA), .string (⟨#[]⟩ : BA)]) ?_ 0 _ rfl; refine kB_ ?_; exact BK597.out⟩;have n1_ : As9 (Below w.heap.size w ((w17.setCell ⟨gb597, 0, none⟩ (.string ((rd_T36 l0 x7_1).f0))).setCell ⟨gb597, 1, none⟩ (.string ((rd_T36 l0 x7_1).f1)))) := ⟨hB_⟩;(try clear BK597)
       (try clear HB)
       generalize ((w17.setCell ⟨gb597, 0, none⟩ (.string ((rd_T36 l0 x7_1).f0))).setCell ⟨gb597, 1, none⟩ (.string ((rd_T36 l0 x7_1).f1))) = w19 at n0_ n1_ ⊢;have BK597 := n0_;have HB := n1_;clear n0_ n1_;replace BK597 := A_ (blk_drew BK597.out);replace HB := A_ (bD9 HB.out);refine start_ (n := 23) (S := fun w' => w'.cell? ⟨gb597, 0, none⟩ = some (.string ((rd_T36 l0 x7_1).f0)) ∧ w'.cell? ⟨gb597, 1, none⟩ = some (.string ((rd_T36 l0 x7_1).f1))) (ds := []) (tS 23 0) (by kernel_rfl) rfl rfl ⟨(blk_cell BK597.out 0).trans rfl, (blk_cell BK597.out 1).trans rfl⟩ (fun hHeld => ?_); refine with_tabW impl_strictAttrs.tab4 impl_strictAttrs.bits4 (fun HT_ HW_ => ?_);generalize w19.drew = w20 at BK597 HB hHeld ⊢;refine pqT_ ?_;refine tqT_ rfl (by rintro w' ⟨s0, s1⟩; go_simp; with_reducible rfl) ?_;refine n1T_ 2 (tS 23 3) rfl fun K hK => ?_
       refine gS_ Tryz.func176 #[.string ((rd_T36 l0 x7_1).f0)] ?_;with_reducible refine (impl_NameOk.calls k1 ((rd_T36 l0 x7_1).f0) true _ A5.out).mono ?_
       rintro e w21 ⟨rfl, hb⟩;refine ⟨_, rfl, ?_⟩;replace BK597 := A_ (blk_below (g := gb597) (o := .cells #[.string ((rd_T36 l0 x7_1).f0), .string ((rd_T36 l0 x7_1).f1)] 36 (0, 0)) (blk_below BK597.out hR_) hb);replace HB := bS_ hb;clear hb;have q22 : (x7_1 : Int) ≤ ((l0.length : Int) : Int) := dT_;obtain ⟨i022, hi022, _, hsz22, _⟩ := info_parts info36;have hroom22 : l0.length ≤ c0 := HC0.out;have hC22 : Kd.C k36 _ (some ad596) l0.length l0 := HR0.out;have hcut22 := cut_to (P := Tryz.prog) 40 36 .i64 Tryz.underlying40 hi022 (some ad596) l0.length c0 x7_1 (dT_) q22 hroom22;have hr22 := Kd.C_take (m := (x7_1 : Int).toNat) hC22 om_;have hy22 : y599.length = (x7_1 : Int).toNat := (by rw [Ny599.out, List.length_take]; omega);rw [← Ny599.out] at hr22;rw [← hy22] at hcut22;have HR602 := A_ hr22;have HC602 := A_ (show y599.length ≤ c0 from by omega);clear hr22 hC22 hroom22 hi022 hsz22;have KY22 := A_ hy22;clear hy22;replace q22 := eq_true q22;refine hK.out _ _ ⟨(blk_cell BK597.out 0).trans rfl, (blk_cell BK597.out 1).trans rfl⟩ (fun hHeld => ?_);clear hK K;refine nm_ ?_;iterate 3 refine pqT_ ?_
       refine tqT_ rfl (by rintro w' ⟨s0, s1⟩; go_simp; with_reducible rfl) ?_;iterate 7 refine pqT_ ?_
       refine tqT_ rfl (by rintro w' ⟨s0, s1⟩; go_simp; with_reducible rfl) ?_;refine n1T_ 15 (tS 23 16) rfl fun K hK => ?_
       refine gS_ Tryz.func173 #[.slice (some ad596) y599.length c0, .string ((rd_T36 l0 x7_1).f0)] ?_;with_reducible refine (impl_hasAttr.calls _ _ y599 ((rd_T36 l0 x7_1).f0) true _ ?side1 ?side2 A15.out).mono ?_
       (case side1 => exact Kd.C_below HR602.out hB_)
       (case side2 => exact HC602.out)
       rintro e w23 ⟨rfl, hb⟩;refine ⟨_, rfl, ?_⟩;replace BK597 := A_ (blk_below (g := gb597) (o := .cells #[.string ((rd_T36 l0 x7_1).f0), .string ((rd_T36 l0 x7_1).f1)] 36 (0, 0)) (blk_below BK597.out hR_) hb);replace HB := bS_ hb;clear hb;refine hK.out _ _ ⟨(blk_cell BK597.out 0).trans rfl, (blk_cell BK597.out 1).trans rfl⟩ (fun hHeld => ?_);clear hK K;refine nm_ ?_;refine pqT_ ?_;refine pqT_ ?_;iterate 4 refine oqT_ ?_
       refine pqT_ ?_;refine done_ (done_of HT_.out (by kernel_rfl)) ?_;try go_wp2
       go_ret
       exact ⟨e1_, hB_⟩
      ·replace c16 := bF_ c16;subst c16;rw [if_neg nF_] at H;obtain ⟨t604, A24, H⟩ := ob_ H;(try dsimp only at H)
       by_cases c25 : t604 = true
       ·subst c25;rw [if_pos rfl] at H;have H' := A_ H;clear H;obtain ⟨p596, q596, ad596, e596, hx596_0, hx596_1⟩ := aB36_ HB.out HR0.out x7_1;cases e596;try go_wp2_with (first | ((with_reducible refine gate_dst (N := 4) rfl ?_); refine bE_ #[.string (⟨#[]⟩ : BA), .string (⟨#[]⟩ : BA)] 36 ?_; intro gb597 hg w26 hbox hb; have BK597 := A_ (hbox); have GW597 := hs_ hg; have GE597 := hs_ hg; replace HB := bS_ hb; clear hb hbox hg; obtain ⟨hcz27_0, hcz27_1, hfz27_0, hfz27_1⟩ := bk2_ BK597.out))
        have n0_ : As9 (((w26.setCell ⟨gb597, 0, none⟩ (.string ((rd_T36 l0 x7_1).f0))).setCell ⟨gb597, 1, none⟩ (.string ((rd_T36 l0 x7_1).f1))).heap[gb597]? = some (.cells #[.string ((rd_T36 l0 x7_1).f0), .string ((rd_T36 l0 x7_1).f1)] 36 (0, 0))) := ⟨by refine kB_ ?_; refine blk_put (cs := #[.string ((rd_T36 l0 x7_1).f0), .string (⟨#[]⟩ : BA)]) ?_ 1 _ rfl; refine kB_ ?_; refine blk_put (cs := #[.string (⟨#[]⟩ : BA), .string (⟨#[]⟩ : BA)]) ?_ 0 _ rfl; refine kB_ ?_; exact BK597.out⟩;have n1_ : As9 (Below w.heap.size w ((w26.setCell ⟨gb597, 0, none⟩ (.string ((rd_T36 l0 x7_1).f0))).setCell ⟨gb597, 1, none⟩ (.string ((rd_T36 l0 x7_1).f1)))) := ⟨hB_⟩;(try clear BK597)
        (try clear HB)
        generalize ((w26.setCell ⟨gb597, 0, none⟩ (.string ((rd_T36 l0 x7_1).f0))).setCell ⟨gb597, 1, none⟩ (.string ((rd_T36 l0 x7_1).f1))) = w28 at n0_ n1_ ⊢;have BK597 := n0_;have HB := n1_;clear n0_ n1_;replace BK597 := A_ (blk_drew BK597.out);replace HB := A_ (bD9 HB.out);refine start_ (n := 23) (S := fun w' => w'.cell? ⟨gb597, 0, none⟩ = some (.string ((rd_T36 l0 x7_1).f0)) ∧ w'.cell? ⟨gb597, 1, none⟩ = some (.string ((rd_T36 l0 x7_1).f1))) (ds := []) (tS 23 0) (by kernel_rfl) rfl rfl ⟨(blk_cell BK597.out 0).trans rfl, (blk_cell BK597.out 1).trans rfl⟩ (fun hHeld => ?_); refine with_tabW impl_strictAttrs.tab4 impl_strictAttrs.bits4 (fun HT_ HW_ => ?_);generalize w28.drew = w29 at BK597 HB hHeld ⊢;refine pqT_ ?_;refine tqT_ rfl (by rintro w' ⟨s0, s1⟩; go_simp; with_reducible rfl) ?_;refine n1T_ 2 (tS 23 3) rfl fun K hK => ?_
        refine gS_ Tryz.func176 #[.string ((rd_T36 l0 x7_1).f0)] ?_;with_reducible refine (impl_NameOk.calls k1 ((rd_T36 l0 x7_1).f0) true _ A5.out).mono ?_
        rintro e w30 ⟨rfl, hb⟩;refine ⟨_, rfl, ?_⟩;replace BK597 := A_ (blk_below (g := gb597) (o := .cells #[.string ((rd_T36 l0 x7_1).f0), .string ((rd_T36 l0 x7_1).f1)] 36 (0, 0)) (blk_below BK597.out hR_) hb);replace HB := bS_ hb;clear hb;have q31 : (x7_1 : Int) ≤ ((l0.length : Int) : Int) := dT_;obtain ⟨i031, hi031, _, hsz31, _⟩ := info_parts info36;have hroom31 : l0.length ≤ c0 := HC0.out;have hC31 : Kd.C k36 _ (some ad596) l0.length l0 := HR0.out;have hcut31 := cut_to (P := Tryz.prog) 40 36 .i64 Tryz.underlying40 hi031 (some ad596) l0.length c0 x7_1 (dT_) q31 hroom31;have hr31 := Kd.C_take (m := (x7_1 : Int).toNat) hC31 om_;have hy31 : y599.length = (x7_1 : Int).toNat := (by rw [Ny599.out, List.length_take]; omega);rw [← Ny599.out] at hr31;rw [← hy31] at hcut31;have HR602 := A_ hr31;have HC602 := A_ (show y599.length ≤ c0 from by omega);clear hr31 hC31 hroom31 hi031 hsz31;have KY31 := A_ hy31;clear hy31;replace q31 := eq_true q31;refine hK.out _ _ ⟨(blk_cell BK597.out 0).trans rfl, (blk_cell BK597.out 1).trans rfl⟩ (fun hHeld => ?_);clear hK K;refine nm_ ?_;iterate 3 refine pqT_ ?_
        refine tqT_ rfl (by rintro w' ⟨s0, s1⟩; go_simp; with_reducible rfl) ?_;iterate 7 refine pqT_ ?_
        refine tqT_ rfl (by rintro w' ⟨s0, s1⟩; go_simp; with_reducible rfl) ?_;refine n1T_ 15 (tS 23 16) rfl fun K hK => ?_
        refine gS_ Tryz.func173 #[.slice (some ad596) y599.length c0, .string ((rd_T36 l0 x7_1).f0)] ?_;with_reducible refine (impl_hasAttr.calls _ _ y599 ((rd_T36 l0 x7_1).f0) false _ ?side1 ?side2 A15.out).mono ?_
        (case side1 => exact Kd.C_below HR602.out hB_)
        (case side2 => exact HC602.out)
        rintro e w32 ⟨rfl, hb⟩;refine ⟨_, rfl, ?_⟩;replace BK597 := A_ (blk_below (g := gb597) (o := .cells #[.string ((rd_T36 l0 x7_1).f0), .string ((rd_T36 l0 x7_1).f1)] 36 (0, 0)) (blk_below BK597.out hR_) hb);replace HB := bS_ hb;clear hb;refine hK.out _ _ ⟨(blk_cell BK597.out 0).trans rfl, (blk_cell BK597.out 1).trans rfl⟩ (fun hHeld => ?_);clear hK K;refine nm_ ?_;iterate 3 refine pqT_ ?_
        refine tqT_ rfl (by rintro w' ⟨s0, s1⟩; go_simp; with_reducible rfl) ?_;refine n1T_ 20 (tS 23 21) rfl fun K hK => ?_
        refine gS_ Tryz.func30 #[.string ((rd_T36 l0 x7_1).f1)] ?_;with_reducible refine (impl_TextOk.calls k1 ((rd_T36 l0 x7_1).f1) true _ A24.out).mono ?_
        rintro e w33 ⟨rfl, hb⟩;refine ⟨_, rfl, ?_⟩;replace BK597 := A_ (blk_below (g := gb597) (o := .cells #[.string ((rd_T36 l0 x7_1).f0), .string ((rd_T36 l0 x7_1).f1)] 36 (0, 0)) (blk_below BK597.out hR_) hb);replace HB := bS_ hb;clear hb;refine hK.out _ _ ⟨(blk_cell BK597.out 0).trans rfl, (blk_cell BK597.out 1).trans rfl⟩ (fun hHeld => ?_);clear hK K;refine nm_ ?_;refine pqT_ ?_;refine pqT_ ?_;refine done_ (done_of HT_.out (by kernel_rfl)) ?_;try go_wp2
        go_roundg k1
        case measure => have := HK1.out; omega
        case rel => exact ⟨(wrap64 (x7_1 + 1)), e2_, H', ⟨by have := HK1.out; omega⟩, ⟨hB_⟩⟩
       ·replace c25 := bF_ c25;subst c25;rw [if_neg nF_] at H;obtain rfl := sI_ H;obtain ⟨p596, q596, ad596, e596, hx596_0, hx596_1⟩ := aB36_ HB.out HR0.out x7_1;cases e596;try go_wp2_with (first | ((with_reducible refine gate_dst (N := 4) rfl ?_); refine bE_ #[.string (⟨#[]⟩ : BA), .string (⟨#[]⟩ : BA)] 36 ?_; intro gb597 hg w34 hbox hb; have BK597 := A_ (hbox); have GW597 := hs_ hg; have GE597 := hs_ hg; replace HB := bS_ hb; clear hb hbox hg; obtain ⟨hcz35_0, hcz35_1, hfz35_0, hfz35_1⟩ := bk2_ BK597.out))
        have n0_ : As9 (((w34.setCell ⟨gb597, 0, none⟩ (.string ((rd_T36 l0 x7_1).f0))).setCell ⟨gb597, 1, none⟩ (.string ((rd_T36 l0 x7_1).f1))).heap[gb597]? = some (.cells #[.string ((rd_T36 l0 x7_1).f0), .string ((rd_T36 l0 x7_1).f1)] 36 (0, 0))) := ⟨by refine kB_ ?_; refine blk_put (cs := #[.string ((rd_T36 l0 x7_1).f0), .string (⟨#[]⟩ : BA)]) ?_ 1 _ rfl; refine kB_ ?_; refine blk_put (cs := #[.string (⟨#[]⟩ : BA), .string (⟨#[]⟩ : BA)]) ?_ 0 _ rfl; refine kB_ ?_; exact BK597.out⟩;have n1_ : As9 (Below w.heap.size w ((w34.setCell ⟨gb597, 0, none⟩ (.string ((rd_T36 l0 x7_1).f0))).setCell ⟨gb597, 1, none⟩ (.string ((rd_T36 l0 x7_1).f1)))) := ⟨hB_⟩;(try clear BK597)
        (try clear HB)
        generalize ((w34.setCell ⟨gb597, 0, none⟩ (.string ((rd_T36 l0 x7_1).f0))).setCell ⟨gb597, 1, none⟩ (.string ((rd_T36 l0 x7_1).f1))) = w36 at n0_ n1_ ⊢;have BK597 := n0_;have HB := n1_;clear n0_ n1_;replace BK597 := A_ (blk_drew BK597.out);replace HB := A_ (bD9 HB.out);refine start_ (n := 23) (S := fun w' => w'.cell? ⟨gb597, 0, none⟩ = some (.string ((rd_T36 l0 x7_1).f0)) ∧ w'.cell? ⟨gb597, 1, none⟩ = some (.string ((rd_T36 l0 x7_1).f1))) (ds := []) (tS 23 0) (by kernel_rfl) rfl rfl ⟨(blk_cell BK597.out 0).trans rfl, (blk_cell BK597.out 1).trans rfl⟩ (fun hHeld => ?_); refine with_tabW impl_strictAttrs.tab4 impl_strictAttrs.bits4 (fun HT_ HW_ => ?_);generalize w36.drew = w37 at BK597 HB hHeld ⊢;refine pqT_ ?_;refine tqT_ rfl (by rintro w' ⟨s0, s1⟩; go_simp; with_reducible rfl) ?_;refine n1T_ 2 (tS 23 3) rfl fun K hK => ?_
        refine gS_ Tryz.func176 #[.string ((rd_T36 l0 x7_1).f0)] ?_;with_reducible refine (impl_NameOk.calls k1 ((rd_T36 l0 x7_1).f0) true _ A5.out).mono ?_
        rintro e w38 ⟨rfl, hb⟩;refine ⟨_, rfl, ?_⟩;replace BK597 := A_ (blk_below (g := gb597) (o := .cells #[.string ((rd_T36 l0 x7_1).f0), .string ((rd_T36 l0 x7_1).f1)] 36 (0, 0)) (blk_below BK597.out hR_) hb);replace HB := bS_ hb;clear hb;have q39 : (x7_1 : Int) ≤ ((l0.length : Int) : Int) := dT_;obtain ⟨i039, hi039, _, hsz39, _⟩ := info_parts info36;have hroom39 : l0.length ≤ c0 := HC0.out;have hC39 : Kd.C k36 _ (some ad596) l0.length l0 := HR0.out;have hcut39 := cut_to (P := Tryz.prog) 40 36 .i64 Tryz.underlying40 hi039 (some ad596) l0.length c0 x7_1 (dT_) q39 hroom39;have hr39 := Kd.C_take (m := (x7_1 : Int).toNat) hC39 om_;have hy39 : y599.length = (x7_1 : Int).toNat := (by rw [Ny599.out, List.length_take]; omega);rw [← Ny599.out] at hr39;rw [← hy39] at hcut39;have HR602 := A_ hr39;have HC602 := A_ (show y599.length ≤ c0 from by omega);clear hr39 hC39 hroom39 hi039 hsz39;have KY39 := A_ hy39;clear hy39;replace q39 := eq_true q39;refine hK.out _ _ ⟨(blk_cell BK597.out 0).trans rfl, (blk_cell BK597.out 1).trans rfl⟩ (fun hHeld => ?_);clear hK K;refine nm_ ?_;iterate 3 refine pqT_ ?_
        refine tqT_ rfl (by rintro w' ⟨s0, s1⟩; go_simp; with_reducible rfl) ?_;iterate 7 refine pqT_ ?_
        refine tqT_ rfl (by rintro w' ⟨s0, s1⟩; go_simp; with_reducible rfl) ?_;refine n1T_ 15 (tS 23 16) rfl fun K hK => ?_
        refine gS_ Tryz.func173 #[.slice (some ad596) y599.length c0, .string ((rd_T36 l0 x7_1).f0)] ?_;with_reducible refine (impl_hasAttr.calls _ _ y599 ((rd_T36 l0 x7_1).f0) false _ ?side1 ?side2 A15.out).mono ?_
        (case side1 => exact Kd.C_below HR602.out hB_)
        (case side2 => exact HC602.out)
        rintro e w40 ⟨rfl, hb⟩;refine ⟨_, rfl, ?_⟩;replace BK597 := A_ (blk_below (g := gb597) (o := .cells #[.string ((rd_T36 l0 x7_1).f0), .string ((rd_T36 l0 x7_1).f1)] 36 (0, 0)) (blk_below BK597.out hR_) hb);replace HB := bS_ hb;clear hb;refine hK.out _ _ ⟨(blk_cell BK597.out 0).trans rfl, (blk_cell BK597.out 1).trans rfl⟩ (fun hHeld => ?_);clear hK K;refine nm_ ?_;iterate 3 refine pqT_ ?_
        refine tqT_ rfl (by rintro w' ⟨s0, s1⟩; go_simp; with_reducible rfl) ?_;refine n1T_ 20 (tS 23 21) rfl fun K hK => ?_
        refine gS_ Tryz.func30 #[.string ((rd_T36 l0 x7_1).f1)] ?_;with_reducible refine (impl_TextOk.calls k1 ((rd_T36 l0 x7_1).f1) false _ A24.out).mono ?_
        rintro e w41 ⟨rfl, hb⟩;refine ⟨_, rfl, ?_⟩;replace BK597 := A_ (blk_below (g := gb597) (o := .cells #[.string ((rd_T36 l0 x7_1).f0), .string ((rd_T36 l0 x7_1).f1)] 36 (0, 0)) (blk_below BK597.out hR_) hb);replace HB := bS_ hb;clear hb;refine hK.out _ _ ⟨(blk_cell BK597.out 0).trans rfl, (blk_cell BK597.out 1).trans rfl⟩ (fun hHeld => ?_);clear hK K;refine nm_ ?_;refine pqT_ ?_;refine pqT_ ?_;refine done_ (done_of HT_.out (by kernel_rfl)) ?_;try go_wp2
        go_ret
        exact ⟨e1_, hB_⟩
    ·replace c6 := bF_ c6;subst c6;rw [if_neg nF_] at H;obtain rfl := sI_ H;obtain ⟨p596, q596, ad596, e596, hx596_0, hx596_1⟩ := aB36_ HB.out HR0.out x7_1;cases e596;try go_wp2_with (first | ((with_reducible refine gate_dst (N := 4) rfl ?_); refine bE_ #[.string (⟨#[]⟩ : BA), .string (⟨#[]⟩ : BA)] 36 ?_; intro gb597 hg w42 hbox hb; have BK597 := A_ (hbox); have GW597 := hs_ hg; have GE597 := hs_ hg; replace HB := bS_ hb; clear hb hbox hg; obtain ⟨hcz43_0, hcz43_1, hfz43_0, hfz43_1⟩ := bk2_ BK597.out))
     have n0_ : As9 (((w42.setCell ⟨gb597, 0, none⟩ (.string ((rd_T36 l0 x7_1).f0))).setCell ⟨gb597, 1, none⟩ (.string ((rd_T36 l0 x7_1).f1))).heap[gb597]? = some (.cells #[.string ((rd_T36 l0 x7_1).f0), .string ((rd_T36 l0 x7_1).f1)] 36 (0, 0))) := ⟨by refine kB_ ?_; refine blk_put (cs := #[.string ((rd_T36 l0 x7_1).f0), .string (⟨#[]⟩ : BA)]) ?_ 1 _ rfl; refine kB_ ?_; refine blk_put (cs := #[.string (⟨#[]⟩ : BA), .string (⟨#[]⟩ : BA)]) ?_ 0 _ rfl; refine kB_ ?_; exact BK597.out⟩;have n1_ : As9 (Below w.heap.size w ((w42.setCell ⟨gb597, 0, none⟩ (.string ((rd_T36 l0 x7_1).f0))).setCell ⟨gb597, 1, none⟩ (.string ((rd_T36 l0 x7_1).f1)))) := ⟨hB_⟩;(try clear BK597)
     (try clear HB)
     generalize ((w42.setCell ⟨gb597, 0, none⟩ (.string ((rd_T36 l0 x7_1).f0))).setCell ⟨gb597, 1, none⟩ (.string ((rd_T36 l0 x7_1).f1))) = w44 at n0_ n1_ ⊢;have BK597 := n0_;have HB := n1_;clear n0_ n1_;replace BK597 := A_ (blk_drew BK597.out);replace HB := A_ (bD9 HB.out);refine start_ (n := 23) (S := fun w' => w'.cell? ⟨gb597, 0, none⟩ = some (.string ((rd_T36 l0 x7_1).f0)) ∧ w'.cell? ⟨gb597, 1, none⟩ = some (.string ((rd_T36 l0 x7_1).f1))) (ds := []) (tS 23 0) (by kernel_rfl) rfl rfl ⟨(blk_cell BK597.out 0).trans rfl, (blk_cell BK597.out 1).trans rfl⟩ (fun hHeld => ?_); refine with_tabW impl_strictAttrs.tab4 impl_strictAttrs.bits4 (fun HT_ HW_ => ?_);generalize w44.drew = w45 at BK597 HB hHeld ⊢;refine pqT_ ?_;refine tqT_ rfl (by rintro w' ⟨s0, s1⟩; go_simp; with_reducible rfl) ?_;refine n1T_ 2 (tS 23 3) rfl fun K hK => ?_
     refine gS_ Tryz.func176 #[.string ((rd_T36 l0 x7_1).f0)] ?_;with_reducible refine (impl_NameOk.calls k1 ((rd_T36 l0 x7_1).f0) false _ A5.out).mono ?_
     rintro e w46 ⟨rfl, hb⟩;refine ⟨_, rfl, ?_⟩;replace BK597 := A_ (blk_below (g := gb597) (o := .cells #[.string ((rd_T36 l0 x7_1).f0), .string ((rd_T36 l0 x7_1).f1)] 36 (0, 0)) (blk_below BK597.out hR_) hb);replace HB := bS_ hb;clear hb;refine hK.out _ _ ⟨(blk_cell BK597.out 0).trans rfl, (blk_cell BK597.out 1).trans rfl⟩ (fun hHeld => ?_);clear hK K;refine nm_ ?_;refine pqT_ ?_;refine pqT_ ?_;iterate 3 refine oqT_ ?_
     refine pqT_ ?_;refine pqT_ ?_;iterate 6 refine oqT_ ?_
     refine pqT_ ?_;refine pqT_ ?_;iterate 4 refine oqT_ ?_
     refine pqT_ ?_;refine done_ (done_of HT_.out (by kernel_rfl)) ?_;try go_wp2
     go_ret
     exact ⟨e1_, hB_⟩
   ·have c2b0 := dF_ c2;clear c2;obtain rfl := sI_ H;go_wp2
    go_ret
    exact ⟨e1_, hB_⟩
end Go.Proofs.YtkmmoheeoblmnaaGreatDoor.A
