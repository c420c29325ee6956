-- joined by wip/tools/shake.py
import Derived.Test.YtkmmoheeoblmnaaGreatDoorVRdTW9
import Derived.Test.YtkmmoheeoblmnaaGreatDoorMRdT0
import Derived.Test.YtkmmoheeoblmnaaGreatDoorMRdT8
import Derived.Test.YtkmmoheeoblmnaaGreatDoorMRdT7
import Derived.Test.YtkmmoheeoblmnaaGreatDoorMRdT6
import Derived.Test.YtkmmoheeoblmnaaGreatDoorMRdT1
import Derived.Test.YtkmmoheeoblmnaaGreatDoorMRdT5
import Derived.Test.YtkmmoheeoblmnaaGreatDoorMRdT4
import Derived.Test.YtkmmoheeoblmnaaGreatDoorMRdT3
import Derived.Test.YtkmmoheeoblmnaaGreatDoorMRdT2
set_option maxHeartbeats 16000000
set_option maxRecDepth 100000
namespace Go.Proofs.YtkmmoheeoblmnaaGreatDoor.A
open Go.RowKit Go.Proofs.YtkmmoheeoblmnaaGreatDoorW.PrintWords Go.Proofs.YtkmmoheeoblmnaaGreatDoorW.PrintLast Go.Proofs.YtkmmoheeoblmnaaGreatDoorW.PrintMore
attribute [local go_sem] max2_int min2_int max_two min_two max_three min_three max_four min_four
set_option linter.unusedVariables false
set_option linter.unusedSimpArgs false
def laws_eqAttrS.l0 : Nat → List (S36) → List (S36) → Int → Option (Bool)
 | 0, _, _, _ => none
 | k + 1, x0, x1, x5 => if x5 < (x0.length : Int) then (if 0 ≤ x5 then (if x5 < (x1.length : Int) then ((laws_eqAttr.f ((rd_T36 x0 x5).f0) ((rd_T36 x0 x5).f1) ((rd_T36 x1 x5).f0) ((rd_T36 x1 x5).f1)).bind fun t626 => (if t626 = true then (laws_eqAttrS.l0 k x0 x1 (wrap64 (x5 + 1))) else (some false))) else (none)) else (none)) else (some true)
def laws_eqAttrS.f (k : Nat) (l0 : List (S36)) (l1 : List (S36)) : Option (Bool) := if (l0.length : Int) = (l1.length : Int) then (laws_eqAttrS.l0 k l0 l1 0) else (some false)
theorem laws_eqAttrS.mono_l : ∀ k, (∀ y0 y1 y2, LeO (laws_eqAttrS.l0 k y0 y1 y2) (laws_eqAttrS.l0 (k + 1) y0 y1 y2))
 | 0 => fun _ _ _ r h => by simp [laws_eqAttrS.l0] at h
 | k + 1 => by
  have ih0 := laws_eqAttrS.mono_l k
  ·intro y0 y1 y2;unfold laws_eqAttrS.l0;with_reducible repeat' first | exact ih0 _ _ _ | apply LeO.refl | apply LeO.none | apply LeO.ite | apply LeO.bind | intro
theorem laws_eqAttrS.mono : ∀ a0 a1 k, LeO (laws_eqAttrS.f k a0 a1) (laws_eqAttrS.f (k + 1) a0 a1) := by
 intro a0 a1 k;have ih0 := laws_eqAttrS.mono_l k;unfold laws_eqAttrS.f;with_reducible repeat' first | exact ih0 _ _ _ | apply LeO.refl | apply LeO.none | apply LeO.ite | apply LeO.bind | intro
def laws_eqAttrS.T6 : Bool × List (List Nat × List Nat) := (true, [([], []), ([], []), ([0, 1], [0, 1]), ([2], [2]), ([], []), ([], []), ([4, 5], [4, 5]), ([6], [6]), ([3, 7], [3, 7]), ([8], [8])])
def laws_eqAttrS.B6 : List Nat := [0, 0, 3, 7, 0, 0, 48, 112, 255, 511]
theorem laws_eqAttrS.tab6 : rtab .any (opsOf Tryz.f88 6) = laws_eqAttrS.T6 := by kernel_rfl
theorem laws_eqAttrS.bits6 : waitsOk laws_eqAttrS.T6.2 laws_eqAttrS.B6 = true := by kernel_rfl
theorem laws_eqAttrS.calls (k : Nat) (A0 : Option Addr) (c0 : Nat) (l0 : List (S36)) (A1 : Option Addr) (c1 : Nat) (l1 : List (S36)) (r : Bool) (w : World) (hr0 : Kd.C k36 w A0 l0.length l0) (hc0 : l0.length ≤ c0) (hr1 : Kd.C k36 w A1 l1.length l1) (hc1 : l1.length ≤ c1) (h : laws_eqAttrS.f k l0 l1 = some r) :
  Calls Tryz.prog 88 #[.slice A0 l0.length c0, .slice A1 l1.length c1] w fun e w' => e = .returned (.bool r) ∧ Below w.heap.size w w' := by
 have hu36 := Tryz.underlying36;have HR0 := A_ hr0;have HC0 := A_ hc0;clear hr0 hc0;have HR1 := A_ hr1;have HC1 := A_ hc1;clear hr1 hc1;have HB := A_ (Below.refl w.heap.size w);have H : (if (l0.length : Int) = (l1.length : Int) then (laws_eqAttrS.l0 k l0 l1 0) else (some false)) = some r := h;clear h;rcases ic_ H with ⟨c3, H⟩ | ⟨c3, H⟩
 ·obtain ⟨c3b0, c3b1⟩ := be_ c3;have c3b2 : (l0.length == l1.length) = true := by first | simpa using c3 | (simp at c3 ⊢; omega)
  clear c3;have H' := A_ H;clear H;go_enter Tryz.func88, Tryz.ntmps88
  go_wp2
  go_loopg [5] k (fun kq v5 w' => ∃ (x5_1 : Int), v5 = .int .i64 x5_1 ∧ As9 (laws_eqAttrS.l0 kq l0 l1 x5_1 = some r) ∧ As9 (kq ≤ k) ∧ As9 (Below w.heap.size w w'))
  case atStart => exact ⟨(0), e2_, H', ⟨Nat.le_refl _⟩, ⟨hB_⟩⟩
  case round =>
   clear H';try clear c1
   try clear p2
   try clear c3
   try clear c3b0
   try clear c3b1
   try clear c3b2
   obtain ⟨x5_1, rfl, HA, HK1, HB⟩ := hrel;cases gk with
   | zero => exact absurd HA.out (by simp [laws_eqAttrS.l0])
   | succ k1 =>
    have H := HA.out;clear HA;simp only [laws_eqAttrS.l0] at H;rcases ic_ H with ⟨c4, H⟩ | ⟨c4, H⟩
    ·have c4b0 := dE_ c4;clear c4;obtain ⟨c5, H⟩ := ifn_ H;have c5b0 := dE_ c5;clear c5;obtain ⟨c6, H⟩ := ifn_ H;have c6b0 := dE_ c6;clear c6;obtain ⟨t626, A7, H⟩ := ob_ H;(try dsimp only at H)
     by_cases c8 : t626 = true
     ·subst c8;rw [if_pos rfl] at H;have H' := A_ H;clear H;try go_wp2
      replace HB := A_ (bD9 HB.out);obtain ⟨p624, q624, ad624, e624, hw624_0, hw624_1, hx624_0, hx624_1⟩ := aW36_ HB.out HR0.out x5_1;cases e624;obtain ⟨p625, q625, ad625, e625, hw625_0, hw625_1, hx625_0, hx625_1⟩ := aW36_ HB.out HR1.out x5_1;cases e625;refine start_ (n := 10) (S := fun w' => w'.cell? (ad624.add ((x5_1).toNat * 2)) = some (.string ((rd_T36 l0 x5_1).f0)) ∧ w'.cell? ⟨(ad624.add ((x5_1).toNat * 2)).block, (ad624.add ((x5_1).toNat * 2)).off + 1, none⟩ = some (.string ((rd_T36 l0 x5_1).f1)) ∧ w'.cell? (ad625.add ((x5_1).toNat * 2)) = some (.string ((rd_T36 l1 x5_1).f0)) ∧ w'.cell? ⟨(ad625.add ((x5_1).toNat * 2)).block, (ad625.add ((x5_1).toNat * 2)).off + 1, none⟩ = some (.string ((rd_T36 l1 x5_1).f1))) (ds := []) (tS 10 0) (by kernel_rfl) rfl rfl ⟨(cB_ HB.out hw624_0), (cB_ HB.out hw624_1), (cB_ HB.out hw625_0), (cB_ HB.out hw625_1)⟩ (fun hHeld => ?_); refine with_tabW laws_eqAttrS.tab6 laws_eqAttrS.bits6 (fun HT_ HW_ => ?_);generalize wr.drew = w9 at HB hx624_0 hx624_1 hx625_0 hx625_1 hHeld ⊢;iterate 3 refine pqT_ ?_
      refine pgT_ 4 (tB 10 23) ?_;refine pgT_ 5 (tB 10 55) ?_;refine pgT_ 6 (tB 10 119) ?_;refine tgT_ 3 (tS 10 7) rfl (by rintro w' ⟨s0, s1, s2, s3⟩; go_simp; with_reducible rfl) ?_;refine tqT_ rfl (by rintro w' ⟨s0, s1, s2, s3⟩; go_simp; with_reducible rfl) ?_;refine n1T_ 8 (tS 10 9) rfl fun K hK => ?_
      refine gS_ Tryz.func139 #[.agg #[.string ((rd_T36 l0 x5_1).f0), .string ((rd_T36 l0 x5_1).f1)], .agg #[.string ((rd_T36 l1 x5_1).f0), .string ((rd_T36 l1 x5_1).f1)]] ?_;with_reducible refine (laws_eqAttr.calls ((rd_T36 l0 x5_1).f0) ((rd_T36 l0 x5_1).f1) ((rd_T36 l1 x5_1).f0) ((rd_T36 l1 x5_1).f1) true _ A7.out).mono ?_
      rintro e w10 ⟨rfl, hb⟩;refine ⟨_, rfl, ?_⟩;replace HB := bS_ hb;clear hb;refine hK.out _ _ ⟨(cB_ HB.out hw624_0), (cB_ HB.out hw624_1), (cB_ HB.out hw625_0), (cB_ HB.out hw625_1)⟩ (fun hHeld => ?_);clear hK K;refine nm_ ?_;refine pqT_ ?_;refine done_ (done_of HT_.out (by kernel_rfl)) ?_;try go_wp2
      go_roundg k1
      case measure => have := HK1.out; omega
      case rel => exact ⟨(wrap64 (x5_1 + 1)), e2_, H', ⟨by have := HK1.out; omega⟩, ⟨hB_⟩⟩
     ·replace c8 := bF_ c8;subst c8;rw [if_neg nF_] at H;obtain rfl := sI_ H;try go_wp2
      replace HB := A_ (bD9 HB.out);obtain ⟨p624, q624, ad624, e624, hw624_0, hw624_1, hx624_0, hx624_1⟩ := aW36_ HB.out HR0.out x5_1;cases e624;obtain ⟨p625, q625, ad625, e625, hw625_0, hw625_1, hx625_0, hx625_1⟩ := aW36_ HB.out HR1.out x5_1;cases e625;refine start_ (n := 10) (S := fun w' => w'.cell? (ad624.add ((x5_1).toNat * 2)) = some (.string ((rd_T36 l0 x5_1).f0)) ∧ w'.cell? ⟨(ad624.add ((x5_1).toNat * 2)).block, (ad624.add ((x5_1).toNat * 2)).off + 1, none⟩ = some (.string ((rd_T36 l0 x5_1).f1)) ∧ w'.cell? (ad625.add ((x5_1).toNat * 2)) = some (.string ((rd_T36 l1 x5_1).f0)) ∧ w'.cell? ⟨(ad625.add ((x5_1).toNat * 2)).block, (ad625.add ((x5_1).toNat * 2)).off + 1, none⟩ = some (.string ((rd_T36 l1 x5_1).f1))) (ds := []) (tS 10 0) (by kernel_rfl) rfl rfl ⟨(cB_ HB.out hw624_0), (cB_ HB.out hw624_1), (cB_ HB.out hw625_0), (cB_ HB.out hw625_1)⟩ (fun hHeld => ?_); refine with_tabW laws_eqAttrS.tab6 laws_eqAttrS.bits6 (fun HT_ HW_ => ?_);generalize wr.drew = w11 at HB hx624_0 hx624_1 hx625_0 hx625_1 hHeld ⊢;iterate 3 refine pqT_ ?_
      refine pgT_ 4 (tB 10 23) ?_;refine pgT_ 5 (tB 10 55) ?_;refine pgT_ 6 (tB 10 119) ?_;refine tgT_ 3 (tS 10 7) rfl (by rintro w' ⟨s0, s1, s2, s3⟩; go_simp; with_reducible rfl) ?_;refine tqT_ rfl (by rintro w' ⟨s0, s1, s2, s3⟩; go_simp; with_reducible rfl) ?_;refine n1T_ 8 (tS 10 9) rfl fun K hK => ?_
      refine gS_ Tryz.func139 #[.agg #[.string ((rd_T36 l0 x5_1).f0), .string ((rd_T36 l0 x5_1).f1)], .agg #[.string ((rd_T36 l1 x5_1).f0), .string ((rd_T36 l1 x5_1).f1)]] ?_;with_reducible refine (laws_eqAttr.calls ((rd_T36 l0 x5_1).f0) ((rd_T36 l0 x5_1).f1) ((rd_T36 l1 x5_1).f0) ((rd_T36 l1 x5_1).f1) false _ A7.out).mono ?_
      rintro e w12 ⟨rfl, hb⟩;refine ⟨_, rfl, ?_⟩;replace HB := bS_ hb;clear hb;refine hK.out _ _ ⟨(cB_ HB.out hw624_0), (cB_ HB.out hw624_1), (cB_ HB.out hw625_0), (cB_ HB.out hw625_1)⟩ (fun hHeld => ?_);clear hK K;refine nm_ ?_;refine pqT_ ?_;refine done_ (done_of HT_.out (by kernel_rfl)) ?_;try go_wp2
      go_ret
      exact ⟨e1_, hB_⟩
    ·have c4b0 := dF_ c4;clear c4;obtain rfl := sI_ H;go_wp2
     go_ret
     exact ⟨e1_, hB_⟩
 ·obtain ⟨c3b0, c3b1⟩ := bn_ c3;have c3b2 : (l0.length == l1.length) = false := by first | simpa using c3 | (simp at c3 ⊢; omega)
  obtain rfl := sI_ H;go_enter Tryz.func88, Tryz.ntmps88
  go_wp2
  go_ret
  exact ⟨e1_, hB_⟩
mutual
def eqE (k : Nat) : S43 → Prop
 | ⟨_, _, _, at_, _, ks⟩ => laws_eqAttrS.f k at_ at_ = some true ∧ eqL k ks
def eqL (k : Nat) : List S43 → Prop
 | [] => True
 | x :: xs => eqE k x ∧ eqL k xs
end
theorem eqL_mem (k : Nat) : ∀ (xs : List S43), eqL k xs → ∀ x ∈ xs, eqE k x
 | [], _, x, hx => by cases hx
 | y :: ys, h, x, hx => by
  rw [eqL] at h;rcases List.mem_cons.1 hx with e | hx
  ·rw [e]; exact h.1
  ·exact eqL_mem k ys h.2 x hx
theorem rd_mE (l : List S43) (j : Int) (h0 : 0 ≤ j) (h1 : j < (l.length : Int)) : rd_T43 l j ∈ l ∧ SizeOf.sizeOf (rd_T43 l j) < SizeOf.sizeOf l := by
 have hlt : j.toNat < l.length := om_;have : rd_T43 l j = l[j.toNat] := by unfold rd_T43; rw [List.getD_eq_getElem?_getD, List.getElem?_eq_getElem hlt, Option.getD_some]
 rw [this];exact ⟨List.getElem_mem hlt, List.sizeOf_lt_of_mem (List.getElem_mem hlt)⟩
def EqS (k m : Nat) : Prop := ∀ (xs : List S43) (A B : Option Addr) (c d : Nat) (w0 w : World), SizeOf.sizeOf xs < m → eqL k xs → Kd.C k43 w0 A xs.length xs → Kd.C k43 w0 B xs.length xs → Below w0.heap.size w0 w →
  Calls Tryz.prog 40 #[.slice A xs.length c, .slice B xs.length d] w fun e w' => e = .returned (.bool true) ∧ Below w0.heap.size w0 w'
def EqO (k m : Nat) : Prop := ∀ (x : S43) (A3 A5 B3 B5 : Option Addr) (c3 c5 d3 d5 : Nat) (w0 w : World), SizeOf.sizeOf x < m → eqE k x → Kd.C k36 w0 A3 x.f3.length x.f3 → x.f3.length ≤ c3 → Kd.C k43 w0 A5 x.f5.length x.f5 → Kd.C k36 w0 B3 x.f3.length x.f3 → x.f3.length ≤ d3 → Kd.C k43 w0 B5 x.f5.length x.f5 → Below w0.heap.size w0 w →
  Calls Tryz.prog 35 #[.agg #[.int .i64 x.f0, .int .i64 x.f1, .string x.f2, .slice A3 x.f3.length c3, .string x.f4, .slice A5 x.f5.length c5], .agg #[.int .i64 x.f0, .int .i64 x.f1, .string x.f2, .slice B3 x.f3.length d3, .string x.f4, .slice B5 x.f5.length d5]] w fun e w' => e = .returned (.bool true) ∧ Below w0.heap.size w0 w'
theorem eqO_step (k m : Nat) (ih : EqS k m) : EqO k (m + 1) := by
 unfold EqS at ih;intro x A3 A5 B3 B5 c3 c5 d3 d5 w0 w hm he h3 l3 h5 g3 m3 g5 hB;obtain ⟨kd, sp, nm, at_, tx, ks⟩ := x;rw [eqE] at he;dsimp only at h3 l3 h5 g3 m3 g5 ⊢;have HE := A_ he.1;have HEK := A_ he.2;have HS := A_ (show SizeOf.sizeOf ks < m by simp at hm; omega);have H3 := A_ h3;have L3 := A_ l3;have H5 := A_ h5;have G3 := A_ g3;have M3 := A_ m3;have G5 := A_ g5;have HB := A_ hB;have hu := Tryz.underlying43;clear hm he h3 l3 h5 g3 m3 g5 hB;go_enter Tryz.func35, Tryz.ntmps35
 go_wp2_with (first | ((with_reducible refine gate_dst (N := 2) rfl ?_); refine bE_ #[.int .i64 kd, .int .i64 sp, .string nm, .slice A3 at_.length c3, .string tx, .slice A5 ks.length c5] 43 ?_; intro ga hg w2 hbox hb; have HBX := A_ (below_step HB.out hb); have HX1 := A_ hbox; clear hg hbox hb HB) | ((with_reducible refine gate_dst (N := 3) rfl ?_); refine bE_ #[.int .i64 kd, .int .i64 sp, .string nm, .slice B3 at_.length d3, .string tx, .slice B5 ks.length d5] 43 ?_; intro gb hg w3 hbox hb; have HBY := A_ (below_step HBX.out hb); have HX2 := A_ (blk_below HX1.out hb); have HY2 := A_ hbox; clear hg hbox hb HBX HX1; obtain ⟨hx0, hx1, hx2, hx3, hx4, hx5⟩ := bc6_ HX2.out; obtain ⟨hy0, hy1, hy2, hy3, hy4, hy5⟩ := bc6_ HY2.out) | (go_at_call 88; (with_reducible refine (laws_eqAttrS.calls k A3 c3 at_ B3 d3 at_ true _ (Kd.C_below H3.out HBY.out) L3.out (Kd.C_below G3.out HBY.out) M3.out HE.out).mono ?_); rintro e w5 ⟨rfl, hb⟩; have HB5 := A_ (below_step HBY.out hb); have HX5 := A_ (blk_below HX2.out hb); have HY5 := A_ (blk_below HY2.out hb); clear hb HBY HX2 HY2 hx0 hx1 hx2 hx3 hx4 hx5 hy0 hy1 hy2 hy3 hy4 hy5; obtain ⟨hx0, hx1, hx2, hx3, hx4, hx5⟩ := bc6_ HX5.out; obtain ⟨hy0, hy1, hy2, hy3, hy4, hy5⟩ := bc6_ HY5.out) | (go_at_call 40; (with_reducible refine (ih ks A5 B5 c5 d5 w0 _ HS.out HEK.out H5.out G5.out HB5.out).mono ?_); rintro e w6 ⟨rfl, hb⟩; have HB6 := A_ hb; clear hb))
 go_ret
 exact ⟨rfl, HB6.out⟩
theorem eqS_step (k m : Nat) (ih : EqO k m) : EqS k (m + 1) := by
 unfold EqO at ih;intro xs A B c d w0 w hm he hA hC hB;have HSZ := A_ hm;have HE := A_ (eqL_mem k xs he);have HA := A_ hA;have HC := A_ hC;have HML := A_ (Kd.C_max hA);have HB := A_ hB;have hu := Tryz.underlying43;clear hm he hA hC hB;go_enter Tryz.func40, Tryz.ntmps40
 go_wp2
 go_loopg [5] xs.length (fun kq v5 wr => ∃ (j : Int), v5 = .int .i64 j ∧ 0 ≤ j ∧ j ≤ (xs.length : Int) ∧ As9 (kq = xs.length - j.toNat) ∧ As9 (Below w0.heap.size w0 wr))
 case atStart => exact ⟨0, rfl, Int.le_refl _, om_, ⟨rfl⟩, HB⟩
 case round =>
  clear HB;obtain ⟨j, rfl, j0, hj, HEQ, HB⟩ := hrel;by_cases hlt : j < (xs.length : Int)
  ·obtain ⟨hmem, hsz⟩ := rd_mE xs j j0 hlt;have HEX := A_ (HE.out _ hmem);have HS := A_ (show SizeOf.sizeOf (rd_T43 xs j) < m by have := HSZ.out; omega);obtain ⟨ad, A3, c3, A5, c5, eA, x0, x1, x2, x3, x4, x5, l3, g3, l5, g5⟩ := at_T43 HA.out j j0 hlt;subst eA;obtain ⟨bd, B3, d3, B5, d5, eB, y0, y1, y2, y3, y4, y5, m3, h3, m5, h5⟩ := at_T43 HC.out j j0 hlt;subst eB;have L3 := A_ l3;have G3 := A_ g3;have G5 := A_ g5;have M3 := A_ m3;have H3 := A_ h3;have H5 := A_ h5;have p7 := eq_true j0;have q7 := eq_true hlt;have hwr : wrap64 (j + 1) = j + 1 := by have := HML.out; unfold wrap64; omega
   clear hmem hsz l3 g3 l5 g5 m3 h3 m5 h5;go_upto_region 6 with fail
   have HB1 := A_ (bD9 HB.out);have HX := A_ (show _ ∧ _ ∧ _ ∧ _ ∧ _ ∧ _ ∧ _ ∧ _ ∧ _ ∧ _ ∧ _ ∧ _ from ⟨(HB1.out.cell (World.block_lt_of_cell? w0 _ x0)).trans x0, (HB1.out.cell (World.block_lt_of_cell? w0 _ x1)).trans x1, (HB1.out.cell (World.block_lt_of_cell? w0 _ x2)).trans x2, (HB1.out.cell (World.block_lt_of_cell? w0 _ x3)).trans x3, (HB1.out.cell (World.block_lt_of_cell? w0 _ x4)).trans x4, (HB1.out.cell (World.block_lt_of_cell? w0 _ x5)).trans x5,
    (HB1.out.cell (World.block_lt_of_cell? w0 _ y0)).trans y0, (HB1.out.cell (World.block_lt_of_cell? w0 _ y1)).trans y1, (HB1.out.cell (World.block_lt_of_cell? w0 _ y2)).trans y2, (HB1.out.cell (World.block_lt_of_cell? w0 _ y3)).trans y3, (HB1.out.cell (World.block_lt_of_cell? w0 _ y4)).trans y4, (HB1.out.cell (World.block_lt_of_cell? w0 _ y5)).trans y5⟩)
   refine start_ (n := 10) (S := fun w' => w'.cell? (ad.add (j.toNat * 6)) = some (.int .i64 (rd_T43 xs j).f0) ∧ w'.cell? ⟨(ad.add (j.toNat * 6)).block, (ad.add (j.toNat * 6)).off + 1, none⟩ = some (.int .i64 (rd_T43 xs j).f1) ∧ w'.cell? ⟨(ad.add (j.toNat * 6)).block, (ad.add (j.toNat * 6)).off + 2, none⟩ = some (.string (rd_T43 xs j).f2) ∧ w'.cell? ⟨(ad.add (j.toNat * 6)).block, (ad.add (j.toNat * 6)).off + 3, none⟩ = some (.slice A3 (rd_T43 xs j).f3.length c3) ∧ w'.cell? ⟨(ad.add (j.toNat * 6)).block, (ad.add (j.toNat * 6)).off + 4, none⟩ = some (.string (rd_T43 xs j).f4) ∧ w'.cell? ⟨(ad.add (j.toNat * 6)).block, (ad.add (j.toNat * 6)).off + 5, none⟩ = some (.slice A5 (rd_T43 xs j).f5.length c5) ∧ w'.cell? (bd.add (j.toNat * 6)) = some (.int .i64 (rd_T43 xs j).f0) ∧ w'.cell? ⟨(bd.add (j.toNat * 6)).block, (bd.add (j.toNat * 6)).off + 1, none⟩ = some (.int .i64 (rd_T43 xs j).f1) ∧ w'.cell? ⟨(bd.add (j.toNat * 6)).block, (bd.add (j.toNat * 6)).off + 2, none⟩ = some (.string (rd_T43 xs j).f2) ∧ w'.cell? ⟨(bd.add (j.toNat * 6)).block, (bd.add (j.toNat * 6)).off + 3, none⟩ = some (.slice B3 (rd_T43 xs j).f3.length d3) ∧ w'.cell? ⟨(bd.add (j.toNat * 6)).block, (bd.add (j.toNat * 6)).off + 4, none⟩ = some (.string (rd_T43 xs j).f4) ∧ w'.cell? ⟨(bd.add (j.toNat * 6)).block, (bd.add (j.toNat * 6)).off + 5, none⟩ = some (.slice B5 (rd_T43 xs j).f5.length d5)) (ds := [8]) (tS 10 0) (by kernel_rfl) rfl rfl HX.out (fun hHeld => ?_);generalize World.drew _ = wq0 at HB1 HX hHeld ⊢;iterate 3 refine pq_ ?_
   refine tq_ rfl (by rintro w' ⟨s0, s1, s2, s3, s4, s5, t0, t1, t2, t3, t4, t5⟩; go_simp; with_reducible rfl) ?_;iterate 3 refine pq_ ?_
   refine tq_ rfl (by rintro w' ⟨s0, s1, s2, s3, s4, s5, t0, t1, t2, t3, t4, t5⟩; go_simp; with_reducible rfl) ?_;refine last_ (i := 8) (N := some 25) (tS 10 9) rfl rfl (by kernel_rfl) de_ (fun K hK => ?_);refine gS_ Tryz.func35 #[.agg #[.int .i64 (rd_T43 xs j).f0, .int .i64 (rd_T43 xs j).f1, .string (rd_T43 xs j).f2, .slice A3 (rd_T43 xs j).f3.length c3, .string (rd_T43 xs j).f4, .slice A5 (rd_T43 xs j).f5.length c5], .agg #[.int .i64 (rd_T43 xs j).f0, .int .i64 (rd_T43 xs j).f1, .string (rd_T43 xs j).f2, .slice B3 (rd_T43 xs j).f3.length d3, .string (rd_T43 xs j).f4, .slice B5 (rd_T43 xs j).f5.length d5]] ?_;with_reducible refine (ih (rd_T43 xs j) A3 A5 B3 B5 c3 c5 d3 d5 w0 _ HS.out HEX.out G3.out L3.out G5.out H3.out M3.out H5.out HB1.out).mono ?_
   rintro e wq8 ⟨rfl, hb⟩;refine ⟨_, rfl, ?_⟩;have HB2 := A_ hb;clear hb HB1 HX;refine hK.out _ _ ?_;clear hK K;refine nm_ ?_;refine pq_ ?_;refine done_ (by kernel_rfl) ?_;go_wp2
   go_roundg (xs.length - (j + 1).toNat)
   case measure => have := HEQ.out; omega
   case rel => exact ⟨j + 1, by rw [hwr], om_, om_, ⟨rfl⟩, HB2⟩
  ·have q7 := eq_false hlt;go_wp2
   go_ret
   exact ⟨rfl, HB.out⟩
theorem eqs_all (k : Nat) : ∀ m, EqS k m ∧ EqO k m := by
 intro m;induction m with
 | zero => exact ⟨fun xs A B c d w0 w hm => by omega, fun x A3 A5 B3 B5 c3 c5 d3 d5 w0 w hm => by omega⟩
 | succ m ih => exact ⟨eqS_step k m ih.2, eqO_step k m ih.1⟩
def laws_markText.l0 : Nat → Int → ByteArray → Option (ByteArray)
 | 0, _, _ => none
 | k + 1, x0, x3 => if x0 > 0 then ((some (([(wrap64 (48 + (Int.tmod x0 10))) % 256] : List Int) : List Int)).bind fun y627 => (if (strOfNums y627).size + x3.size ≤ 9223372036854775807 then (laws_markText.l0 k (wrap64 (Int.tdiv x0 10)) ((strOfNums y627) ++ x3)) else (none))) else (if 1 + x3.size ≤ 9223372036854775807 then (some ((⟨#[109]⟩ : BA) ++ x3)) else (none))
def laws_markText.f (k : Nat) (a0 : Int) : Option (ByteArray) := if a0 ≤ 0 then (some (⟨#[109, 48]⟩ : BA)) else (laws_markText.l0 k a0 (⟨#[]⟩ : BA))
theorem laws_markText.mono_l : ∀ k, (∀ y0 y1, LeO (laws_markText.l0 k y0 y1) (laws_markText.l0 (k + 1) y0 y1))
 | 0 => fun _ _ r h => by simp [laws_markText.l0] at h
 | k + 1 => by
  have ih0 := laws_markText.mono_l k
  ·intro y0 y1;unfold laws_markText.l0;with_reducible repeat' first | exact ih0 _ _ | apply LeO.refl | apply LeO.none | apply LeO.ite | apply LeO.bind | intro
theorem laws_markText.mono : ∀ a0 k, LeO (laws_markText.f k a0) (laws_markText.f (k + 1) a0) := by
 intro a0 k;have ih0 := laws_markText.mono_l k;unfold laws_markText.f;with_reducible repeat' first | exact ih0 _ _ | apply LeO.refl | apply LeO.none | apply LeO.ite | apply LeO.bind | intro
theorem laws_markText.calls (k : Nat) (a0 : Int) (r : BA) (w : World) (h : laws_markText.f k a0 = some r) :
  Calls Tryz.prog 98 #[.int .i64 a0] w fun e w' => e = .returned (.string r) ∧ Below w.heap.size w w' := by
 have HB := A_ (Below.refl w.heap.size w);have H : (if a0 ≤ 0 then (some (⟨#[109, 48]⟩ : BA)) else (laws_markText.l0 k a0 (⟨#[]⟩ : BA))) = some r := h;clear h;rcases ic_ H with ⟨c2, H⟩ | ⟨c2, H⟩
 ·have c2b0 := dE_ c2;clear c2;obtain rfl := sI_ H;go_enter Tryz.func98, Tryz.ntmps98
  go_wp2
  go_ret
  exact ⟨e1_, hB_⟩
 ·have c2b0 := dF_ c2;clear c2;have H' := A_ H;clear H;go_enter Tryz.func98, Tryz.ntmps98
  go_wp2
  go_loopg [0, 3] k (fun kq v0 v3 w' => ∃ (x0_1 : Int) (x3_1 : BA), v0 = .int .i64 x0_1 ∧ v3 = .string x3_1 ∧ As9 (laws_markText.l0 kq x0_1 x3_1 = some r) ∧ As9 (kq ≤ k) ∧ As9 (Below w.heap.size w w'))
  case atStart => exact ⟨(a0), ((⟨#[]⟩ : BA)), e2_, e2_, H', ⟨Nat.le_refl _⟩, ⟨hB_⟩⟩
  case round =>
   clear H';try clear c2
   try clear c2b0
   try clear p2
   obtain ⟨x0_1, x3_1, rfl, rfl, HA, HK1, HB⟩ := hrel;cases gk with
   | zero => exact absurd HA.out (by simp [laws_markText.l0])
   | succ k1 =>
    have H := HA.out;clear HA;simp only [laws_markText.l0] at H;rcases ic_ H with ⟨c3, H⟩ | ⟨c3, H⟩
    ·have c3b0 : decide (0 < x0_1) = true := dE_ c3;clear c3;obtain ⟨y627, hy627⟩ : ∃ y_ : List Int, y_ = (([(wrap64 (48 + (Int.tmod x0_1 10))) % 256] : List Int)) := ⟨_, rfl⟩;replace H : (if (strOfNums y627).size + x3_1.size ≤ 9223372036854775807 then (laws_markText.l0 k1 (wrap64 (Int.tdiv x0_1 10)) ((strOfNums y627) ++ x3_1)) else (none)) = some r := by first | (rw [hy627]; with_reducible exact H) | (have H2_ := (Option.bind_some _ _).symm.trans H; rw [hy627]; with_reducible exact H2_) | (have H2_ := (Option.bind_some _ _).symm.trans H; with_reducible exact H2_) | with_reducible exact H | (rw [hy627]; exact H) | exact H
     have Ny627 := A_ hy627;clear hy627;obtain ⟨c4, H⟩ := ifn_ H;have c4b0 := eq_true c4;have c4b1 := dE_ c4;try have c4b2 : (9223372036854775807 < (strOfNums y627).size + x3_1.size) = False := eq_false (Nat.not_lt.2 c4)
     have H' := A_ H;clear H;go_wp2_with (first | ((with_reducible refine gate_dst (N := 12) rfl ?_); refine rl_ (Kd.int .u8) 5 12 [(wrap64 (48 + (Int.tmod x0_1 10))) % 256] [.int .u8 ((wrap64 (48 + (Int.tmod x0_1 10))) % 256)] ?_; intro v628 w5 ho6 hb hg_ hnew_; clear hg_ hnew_; (first | rw [← Ny627.out] at ho6 | (simp only [Int.reduceToNat] at ho6; rw [← Ny627.out] at ho6)); have HO629 := A_ (Kd.R_lower ho6 (below_size hB_)); replace HB := bS_ hb; clear hb ho6; have hcv7 := own_string (P := Tryz.prog) Tryz.underlying22 Tryz.underlying5 Tryz.underlying9 (Kd.own_of_R HO629.out)))
     go_roundg k1
     case measure => have := HK1.out; omega
     case rel => exact ⟨(wrap64 (Int.tdiv x0_1 10)), ((strOfNums y627) ++ x3_1), e2_, e2_, H', ⟨by have := HK1.out; omega⟩, ⟨hB_⟩⟩
    ·have c3b0 : decide (0 < x0_1) = false := dF_ c3;clear c3;obtain ⟨c8, H⟩ := ifn_ H;have c8b0 := eq_true c8;have c8b1 := dE_ c8;try have c8b2 : (9223372036854775807 < 1 + x3_1.size) = False := eq_false (Nat.not_lt.2 c8)
     obtain rfl := sI_ H;go_wp2
     go_ret
     exact ⟨e1_, hB_⟩
def laws_markAttrS.l0 : Nat → List (S36) → Int → Int → Option (Int × (List (S36)))
 | 0, _, _, _ => none
 | k + 1, x0, x1, x5 => if x5 < (x0.length : Int) then ((laws_markText.f k x1).bind fun t630 => (if 0 ≤ x5 then ((some (x0.set (x5 : Int).toNat (⟨t630, (rd_T36 x0 x5).f1⟩ : S36) : List (S36))).bind fun y631 => ((laws_markText.f k (wrap64 (x1 + 1))).bind fun t632 => (laws_markAttrS.l0 k (y631.set (x5 : Int).toNat (⟨(rd_T36 y631 x5).f0, t632⟩ : S36)) (wrap64 ((wrap64 (x1 + 1)) + 1)) (wrap64 (x5 + 1))))) else (none))) else (some (x1, x0))
def laws_markAttrS.f (k : Nat) (l0 : List (S36)) (a1 : Int) : Option (Int × (List (S36))) := laws_markAttrS.l0 k l0 a1 0
theorem laws_markAttrS.mono_l : ∀ k, (∀ y0 y1 y2, LeO (laws_markAttrS.l0 k y0 y1 y2) (laws_markAttrS.l0 (k + 1) y0 y1 y2))
 | 0 => fun _ _ _ r h => by simp [laws_markAttrS.l0] at h
 | k + 1 => by
  have ih0 := laws_markAttrS.mono_l k
  ·intro y0 y1 y2;unfold laws_markAttrS.l0;with_reducible repeat' first | exact ih0 _ _ _ | exact laws_markText.mono _ _ | apply LeO.refl | apply LeO.none | apply LeO.ite | apply LeO.bind | intro
theorem laws_markAttrS.mono : ∀ a0 a1 k, LeO (laws_markAttrS.f k a0 a1) (laws_markAttrS.f (k + 1) a0 a1) := by
 intro a0 a1 k;have ih0 := laws_markAttrS.mono_l k;unfold laws_markAttrS.f;with_reducible repeat' first | exact ih0 _ _ _ | exact laws_markText.mono _ _ | apply LeO.refl | apply LeO.none | apply LeO.ite | apply LeO.bind | intro
theorem laws_markAttrS.calls (k : Nat) (P0_ : Nat → Prop) (u9000_ : Value) (l0 : List (S36)) (a1 : Int) (r1 : Int) (r2 : List (S36)) (w0 w : World) (hB : Below w0.heap.size w0 w) (ho0 : Kd.R k36 36 w w0.heap.size P0_ u9000_ l0) (h : laws_markAttrS.f k l0 a1 = some (r1, r2)) :
  Calls Tryz.prog 89 #[u9000_, .int .i64 a1] w fun e w' => e = .returned (.int .i64 r1) ∧ Kd.R k36 36 w' w0.heap.size (fun k_ => (P0_ k_ ∨ w.heap.size ≤ k_)) u9000_ r2 ∧ Below w0.heap.size w0 w' ∧ Kept w w' (fun k_ => P0_ k_) := by
 have HO0 := A_ (show Kd.R k36 36 w w0.heap.size (fun k_ => (P0_ k_ ∨ w.heap.size ≤ k_)) u9000_ l0 from Kd.R_mono ho0 (fun k_ hk => (.inl hk)));have HK := A_ (Kept.refl w (fun k_ => P0_ k_));have HW0 := A_ hB.size;have HB := A_ hB;clear hB;have H : (laws_markAttrS.l0 k l0 a1 0) = some (r1, r2) := h;clear h;have H' := A_ H;clear H;go_enter Tryz.func89, Tryz.ntmps89
 go_wp2
 go_loopg [1, 5] k (fun kq v1 v5 w' => ∃ (x0_1 : List (S36)) (x1_1 : Int) (x5_1 : Int), v1 = .int .i64 x1_1 ∧ v5 = .int .i64 x5_1 ∧ As9 (laws_markAttrS.l0 kq x0_1 x1_1 x5_1 = some (r1, r2)) ∧ As9 (kq ≤ k) ∧ As9 (Kd.R k36 36 w' w0.heap.size (fun k_ => (P0_ k_ ∨ w.heap.size ≤ k_)) u9000_ x0_1) ∧ As9 (Kept w w' (fun k_ => P0_ k_)) ∧ As9 (Below w0.heap.size w0 w'))
 case atStart => exact ⟨(l0), (a1), (0), e2_, e2_, H', ⟨Nat.le_refl _⟩, ⟨kQ_ HO0.out⟩, ⟨by repeat (first | (with_reducible first | exact HK.out | apply Kept.alloc | apply Kept.drewN | apply Kept.drew) | exact HK.out)⟩, ⟨hB_⟩⟩
 case round =>
  clear H';try clear p2
  obtain ⟨x0_1, x1_1, x5_1, rfl, rfl, HA, HK1, HO_0, HK, HB⟩ := hrel;cases gk with
  | zero => exact absurd HA.out (by simp [laws_markAttrS.l0])
  | succ k1 =>
   have H := HA.out;clear HA;simp only [laws_markAttrS.l0] at H;rcases ic_ H with ⟨c3, H⟩ | ⟨c3, H⟩
   ·have c3b0 := dE_ c3;clear c3;obtain ⟨t630, A4, H⟩ := ob_ H;obtain ⟨c5, H⟩ := ifn_ H;have c5b0 := dE_ c5;clear c5;obtain ⟨y631, hy631⟩ : ∃ y_ : List (S36), y_ = (x0_1.set (x5_1 : Int).toNat (⟨t630, (rd_T36 x0_1 x5_1).f1⟩ : S36)) := ⟨_, rfl⟩;replace H : ((laws_markText.f k1 (wrap64 (x1_1 + 1))).bind fun t632 => (laws_markAttrS.l0 k1 (y631.set (x5_1 : Int).toNat (⟨(rd_T36 y631 x5_1).f0, t632⟩ : S36)) (wrap64 ((wrap64 (x1_1 + 1)) + 1)) (wrap64 (x5_1 + 1)))) = some (r1, r2) := by first | (rw [hy631]; with_reducible exact H) | (have H2_ := (Option.bind_some _ _).symm.trans H; rw [hy631]; with_reducible exact H2_) | (have H2_ := (Option.bind_some _ _).symm.trans H; with_reducible exact H2_) | with_reducible exact H | (rw [hy631]; exact H) | exact H
    have Ny631 := A_ hy631;clear hy631;obtain ⟨t632, A7, H⟩ := ob_ H;(try dsimp only at H)
    obtain ⟨y633, hy633⟩ : ∃ y_ : List (S36), y_ = (y631.set (x5_1 : Int).toNat (⟨(rd_T36 y631 x5_1).f0, t632⟩ : S36)) := ⟨_, rfl⟩;replace H : (laws_markAttrS.l0 k1 y633 (wrap64 ((wrap64 (x1_1 + 1)) + 1)) (wrap64 (x5_1 + 1))) = some (r1, r2) := by first | (rw [hy633]; with_reducible exact H) | (have H2_ := (Option.bind_some _ _).symm.trans H; rw [hy633]; with_reducible exact H2_) | (have H2_ := (Option.bind_some _ _).symm.trans H; with_reducible exact H2_) | with_reducible exact H | (rw [hy633]; exact H) | exact H
    have Ny633 := A_ hy633;clear hy633;have H' := A_ H;clear H;obtain ⟨Ao9, co9, eo9⟩ := Kd.R_slice HO_0.out;subst eo9;go_wp2_with (first | ((with_reducible refine gC_ 98 ?_); refine gL_ 15 Tryz.func98 #[.int .i64 x1_1] ?_; (with_reducible refine (laws_markText.calls k1 x1_1 t630 _ A4.out).mono ?_); rintro e w10 ⟨rfl, hb⟩; refine ⟨_, rfl, ?_⟩; replace HO_0 := A_ (Kd.R_below (kQ_ HO_0.out) hb); replace HK := A_ (Kept.below (S := (fun k_ => P0_ k_)) (by repeat (first | (with_reducible first | exact HK.out | apply Kept.alloc | apply Kept.drewN | apply Kept.drew) | exact HK.out)) hb); replace HB := bS_ hb; clear hb; have p6 : 0 ≤ (x5_1 : Int) := dT_; have q6 : (x5_1 : Int) < ((x0_1.length : Int) : Int) := dT_; obtain ⟨go6, co6, eo6, gb6, gl6, cl6, HG6⟩ := Kd.R_form HO_0.out om_; (first | cases eo6 | (injection eo6 with ea_ en_ ec_; (first | subst ea_ | (injection ea_ with ea_; subst ea_)); subst ec_; clear en_)); have GB6 := A_ gb6; have GG6 := A_ HG6; clear gb6 gl6 HG6; have HMgo6 := A_ (show (P0_ go6 ∨ w.heap.size ≤ go6) from (HO_0.out.1 _ rfl)); obtain ⟨ce6, hcl6, hM6, hcc6, hfr6⟩ := Kd.R_elem HO_0.out z36 (x5_1 : Int) p6 q6; obtain rfl := k36_openM hM6; have hx6_0 : w10.cell? ⟨go6, (x5_1 : Int).toNat * 2, none⟩ = some (.string ((rd_T36 x0_1 x5_1).f0)) := hcc6 0 _ rfl; have hx6_1 : w10.cell? ⟨go6, (x5_1 : Int).toNat * 2 + 1, none⟩ = some (.string ((rd_T36 x0_1 x5_1).f1)) := hcc6 1 _ rfl; have hf6_0 : w10.frozen? ⟨go6, (x5_1 : Int).toNat * 2, none⟩ = false := hfr6 0; have hf6_1 : w10.frozen? ⟨go6, (x5_1 : Int).toNat * 2 + 1, none⟩ = false := hfr6 1; clear hcl6 hcc6 hfr6 hM6; replace p6 := eq_true p6; replace q6 := eq_true q6; have HX11 := A_ (show Kd.R k36 36 w10 w0.heap.size (fun k_ => (P0_ k_ ∨ w.heap.size ≤ k_)) (.slice (some ⟨go6, 0, none⟩) x0_1.length co9) x0_1 from (kQ_ HO_0.out)); obtain ⟨ce11, hcl11, hM11, hcc11, hfr11⟩ := Kd.R_elem HX11.out z36 (x5_1 : Int) (dT_) (by have h_ : (x5_1 : Int) < ((x0_1.length : Int) : Int) := dT_; first | exact h_ | (have e_ := (Kd.R_reads' HO_0.out).1; omega) | simpa using h_); obtain rfl := k36_openM hM11; have HP11 := Kd.R_seg HX11.out (x5_1 : Int) (dT_) (by have h_ : (x5_1 : Int) < ((x0_1.length : Int) : Int) := dT_; first | exact h_ | (have e_ := (Kd.R_reads' HO_0.out).1; omega) | simpa using h_) (seg := [.string t630]) (j := 0) hcl11 hcc11 (show 1 ≤ 2 from by decide) (x' := (⟨t630, (rd_T36 x0_1 x5_1).f1⟩ : S36)) (k36_mkM _ _ _ (⟨t630, (rd_T36 x0_1 x5_1).f1⟩ : S36) ) (fun _ hk => hk); have hx11_0 := hcc11 0 _ rfl; (try simp only [show (k36).sz = 2 from rfl, Nat.mul_one, Nat.add_zero] at hx11_0); have hf11_0 := hfr11 0; (try simp only [show (k36).sz = 2 from rfl, Nat.mul_one, Nat.add_zero] at hf11_0); clear hcl11 hcc11 hfr11 hM11) | ((with_reducible refine gate_store (t := 9) (p := 17) rfl ?_); refine store_event (t := 9) (p := 17) (v := ?vo_w12) (w1 := (w10.setCell ⟨go6, (x5_1 : Int).toNat * 2, none⟩ (.string t630))) ?hg ?ho ?hn ?hr ?_; (case ho => rfl); (case hg => rfl); (case hn => rfl); (case hr => first | (go_simp; done) | (go_simp; rfl)); intro w12 hw; have hg : w10.grownBy w12 (some go6) := (by rw [hw]; exact HP11.2); have hp_ : Kd.R k36 36 w12 w0.heap.size (fun k_ => (P0_ k_ ∨ w.heap.size ≤ k_)) (.slice (some ⟨go6, 0, none⟩) x0_1.length co9) y631 := (by rw [hw, Ny631.out]; exact HP11.1); clear HP11; replace HB := A_ ((by rw [hw]; exact below_set (HB.out) GB6.out : Below w0.heap.size w0 w12)); replace HK := A_ (Kept.of_grown (S := (fun k_ => P0_ k_)) hg (by repeat (first | (with_reducible first | exact HK.out | apply Kept.alloc | apply Kept.drewN | apply Kept.drew) | exact HK.out)) (fun k_ e_ => (HO_0.out.1 k_ e_))); replace HO_0 := A_ (hp_); clear hg hw hp_) | ((with_reducible refine gC_ 98 ?_); refine gL_ 23 Tryz.func98 #[.int .i64 (wrap64 (x1_1 + 1))] ?_; (with_reducible refine (laws_markText.calls k1 (wrap64 (x1_1 + 1)) t632 _ A7.out).mono ?_); rintro e w13 ⟨rfl, hb⟩; refine ⟨_, rfl, ?_⟩; replace HO_0 := A_ (Kd.R_below (kQ_ HO_0.out) hb); replace HK := A_ (Kept.below (S := (fun k_ => P0_ k_)) (by repeat (first | (with_reducible first | exact HK.out | apply Kept.alloc | apply Kept.drewN | apply Kept.drew) | exact HK.out)) hb); replace HB := bS_ hb; clear hb; have p8 : 0 ≤ (x5_1 : Int) := dT_; have q8 : (x5_1 : Int) < ((x0_1.length : Int) : Int) := dT_; obtain ⟨ce8, hcl8, hM8, hcc8, hfr8⟩ := Kd.R_elem HO_0.out z36 (x5_1 : Int) p8 q8; obtain rfl := k36_openM hM8; have hx8_0 : w13.cell? ⟨go6, (x5_1 : Int).toNat * 2, none⟩ = some (.string ((rd_T36 y631 x5_1).f0)) := hcc8 0 _ rfl; have hx8_1 : w13.cell? ⟨go6, (x5_1 : Int).toNat * 2 + 1, none⟩ = some (.string ((rd_T36 y631 x5_1).f1)) := hcc8 1 _ rfl; have hf8_0 : w13.frozen? ⟨go6, (x5_1 : Int).toNat * 2, none⟩ = false := hfr8 0; have hf8_1 : w13.frozen? ⟨go6, (x5_1 : Int).toNat * 2 + 1, none⟩ = false := hfr8 1; clear hcl8 hcc8 hfr8 hM8; replace p8 := eq_true p8; replace q8 := eq_true q8; have HX14 := A_ (show Kd.R k36 36 w13 w0.heap.size (fun k_ => (P0_ k_ ∨ w.heap.size ≤ k_)) (.slice (some ⟨go6, 0, none⟩) x0_1.length co9) y631 from (kQ_ HO_0.out)); obtain ⟨ce14, hcl14, hM14, hcc14, hfr14⟩ := Kd.R_elem HX14.out z36 (x5_1 : Int) (dT_) (by have h_ : (x5_1 : Int) < ((x0_1.length : Int) : Int) := dT_; first | exact h_ | (have e_ := (Kd.R_reads' HO_0.out).1; omega) | simpa using h_); obtain rfl := k36_openM hM14; have HP14 := Kd.R_seg HX14.out (x5_1 : Int) (dT_) (by have h_ : (x5_1 : Int) < ((x0_1.length : Int) : Int) := dT_; first | exact h_ | (have e_ := (Kd.R_reads' HO_0.out).1; omega) | simpa using h_) (seg := [.string t632]) (j := 1) hcl14 hcc14 (show 2 ≤ 2 from by decide) (x' := (⟨(rd_T36 y631 x5_1).f0, t632⟩ : S36)) (k36_mkM _ _ _ (⟨(rd_T36 y631 x5_1).f0, t632⟩ : S36) ) (fun _ hk => hk); have hx14_1 := hcc14 1 _ rfl; (try simp only [show (k36).sz = 2 from rfl, Nat.mul_one, Nat.add_zero] at hx14_1); have hf14_1 := hfr14 1; (try simp only [show (k36).sz = 2 from rfl, Nat.mul_one, Nat.add_zero] at hf14_1); clear hcl14 hcc14 hfr14 hM14) | ((with_reducible refine gate_store (t := 9) (p := 25) rfl ?_); refine store_event (t := 9) (p := 25) (v := ?vo_w15) (w1 := (w13.setCell ⟨go6, (x5_1 : Int).toNat * 2 + 1, none⟩ (.string t632))) ?hg ?ho ?hn ?hr ?_; (case ho => rfl); (case hg => rfl); (case hn => rfl); (case hr => first | (go_simp; done) | (go_simp; rfl)); intro w15 hw; have hg : w13.grownBy w15 (some go6) := (by rw [hw]; exact HP14.2); have hp_ : Kd.R k36 36 w15 w0.heap.size (fun k_ => (P0_ k_ ∨ w.heap.size ≤ k_)) (.slice (some ⟨go6, 0, none⟩) x0_1.length co9) y633 := (by rw [hw, Ny633.out]; exact HP14.1); clear HP14; replace HB := A_ ((by rw [hw]; exact below_set (HB.out) GB6.out : Below w0.heap.size w0 w15)); replace HK := A_ (Kept.of_grown (S := (fun k_ => P0_ k_)) hg (by repeat (first | (with_reducible first | exact HK.out | apply Kept.alloc | apply Kept.drewN | apply Kept.drew) | exact HK.out)) (fun k_ e_ => (HO_0.out.1 k_ e_))); replace HO_0 := A_ (hp_); clear hg hw hp_))
    go_roundg k1
    case measure => have := HK1.out; omega
    case rel => exact ⟨(y633), (wrap64 ((wrap64 (x1_1 + 1)) + 1)), (wrap64 (x5_1 + 1)), e2_, e2_, H', ⟨by have := HK1.out; omega⟩, ⟨kQ_ HO_0.out⟩, ⟨by repeat (first | (with_reducible first | exact HK.out | apply Kept.alloc | apply Kept.drewN | apply Kept.drew) | exact HK.out)⟩, ⟨hB_⟩⟩
   ·have c3b0 := dF_ c3;clear c3;obtain ⟨rfl, rfl⟩ := pi_ H;obtain ⟨Ao16, co16, eo16⟩ := Kd.R_slice HO_0.out;subst eo16;go_wp2
    go_ret
    exact ⟨e1_, kQ_ HO_0.out, hB_, by repeat (first | (with_reducible first | exact HK.out | apply Kept.alloc | apply Kept.drewN | apply Kept.drew) | exact HK.out)⟩
theorem R36_ok {w : World} {base : Nat} {ok ok' : Nat → Prop} {v : Value} {xs : List S36} (h : k36.R 36 w base ok v xs) (hok : ∀ k, v.ownBlock = some k → ok' k) : k36.R 36 w base ok' v xs := by
 obtain ⟨h0, inner, ho, h1, h2⟩ := h;refine ⟨hok, inner, ho, h1, fun j p hp => ?_⟩;have := h2 j p hp;obtain e := k36_openM this;rw [e];exact k36_mkM _ _ _ p
theorem R_each2 {w : World} {base : Nat} {ok ok' : Nat → Prop} {v : Value} {xs : List G43} (h : kG.R 43 w base ok v xs) (h0 : ∀ k, v.ownBlock = some k → ok' k) (hm : ∀ x ∈ xs, ∀ cs, kG.M w base (fun k => ok k ∧ some k ≠ v.ownBlock) x cs → kG.M w base (fun k => ok' k ∧ some k ≠ v.ownBlock) x cs) : kG.R 43 w base ok' v xs := by
 obtain ⟨g0, inner, ho, h1, h2⟩ := h;exact ⟨h0, inner, ho, h1, fun j p hp => hm p (List.mem_of_getElem? hp) _ (h2 j p hp)⟩
mutual
/-- an element's rows are those that its ghost tells -/
theorem M_tb : ∀ (x : G43) {w : World} {base : Nat} {ok ok' : Nat → Prop} {cs : List Value}, kG.M w base ok x cs → (∀ b ∈ tb x, ok b → ok' b) → kG.M w base ok' x cs
 | ⟨a, b, c, d, f, ks, b3, b5⟩, w, base, ok, ok', cs, h, hok => by
  obtain ⟨v3, v5, rfl, g3, g5, h3, h5⟩ := kG_openM h;rw [tb] at hok;refine kG_mkM w base ok' ⟨a, b, c, d, f, ks, b3, b5⟩ (R36_ok g3 (fun k hk => hok k (List.mem_append_left _ (Option.mem_toList.2 ((show v3 = b3 from h3) ▸ hk))) (g3.1 k hk))) (R_each2 g5 (fun k hk => hok k (List.mem_append_right _ (List.mem_append_left _ (Option.mem_toList.2 ((show v5 = b5 from h5) ▸ hk)))) (g5.1 k hk)) (Rp_tb ks (fun k hk hk2 => ⟨hok k (List.mem_append_right _ (List.mem_append_right _ hk)) hk2.1, hk2.2⟩))) h3 h5
theorem Rp_tb : ∀ (xs : List G43) {w : World} {base : Nat} {ok ok' : Nat → Prop}, (∀ b ∈ tbL xs, ok b → ok' b) → ∀ x ∈ xs, ∀ cs, kG.M w base ok x cs → kG.M w base ok' x cs
 | [], _, _, _, _, _, x, hx, _, _ => by cases hx
 | y :: ys, w, base, ok, ok', hok, x, hx, cs, h => by
  rw [tbL] at hok;rcases List.mem_cons.1 hx with e | hx
  ·rw [e] at h ⊢;exact M_tb y h (fun b hb => hok b (List.mem_append_left _ hb))
  ·exact Rp_tb ys (fun b hb => hok b (List.mem_append_right _ hb)) x hx cs h
end
theorem R_tb (xs : List G43) {w : World} {base : Nat} {ok ok' : Nat → Prop} {v : Value} (h : kG.R 43 w base ok v xs) (h0 : ∀ k, v.ownBlock = some k → ok' k) (hok : ∀ b ∈ tbL xs, ok b → ok' b) : kG.R 43 w base ok' v xs :=
 R_each2 h h0 (Rp_tb xs (fun b hb hk => ⟨hok b hb hk.1, hk.2⟩))
theorem tb_mem : ∀ (xs : List G43) (x : G43), x ∈ xs → ∀ b ∈ tb x, b ∈ tbL xs
 | [], x, hx, b, hb => by cases hx
 | y :: ys, x, hx, b, hb => by
  rw [tbL];rcases List.mem_cons.1 hx with e | hx
  ·rw [e] at hb; exact List.mem_append_left _ hb
  ·exact List.mem_append_right _ (tb_mem ys x hx b hb)
theorem tb_apart : ∀ (xs : List G43), (tbL xs).Nodup → ∀ (i j : Nat) (x y : G43), xs[i]? = some x → xs[j]? = some y → i ≠ j → ∀ b ∈ tb x, b ∉ tb y
 | [], _, i, j, x, y, hx, _, _ => by simp at hx
 | z :: zs, h, i, j, x, y, hx, hy, hij => by
  rw [tbL] at h;obtain ⟨h1, h2, h3⟩ := List.nodup_append.1 h;intro b hb hb2;cases i with
  | zero =>
   cases j with
   | zero => exact hij rfl
   | succ j =>
    rw [List.getElem?_cons_zero] at hx;rw [List.getElem?_cons_succ] at hy;obtain rfl := sI_ hx;exact h3 b hb b (tb_mem zs y (List.mem_of_getElem? hy) b hb2) rfl
  | succ i =>
   rw [List.getElem?_cons_succ] at hx;cases j with
   | zero =>
    rw [List.getElem?_cons_zero] at hy;obtain rfl := sI_ hy;exact h3 b hb2 b (tb_mem zs x (List.mem_of_getElem? hx) b hb) rfl
   | succ j =>
    rw [List.getElem?_cons_succ] at hy;exact tb_apart zs h2 i j x y hx hy (fun e => hij (by rw [e])) b hb hb2
theorem row_sub {w w' : World} {base : Nat} {ok : Nat → Prop} {v : Value} {xs : List G43} (h : kG.R 43 w base ok v xs) (hn : (tbL xs).Nodup) {j : Nat} {x x' : G43} (hx : xs[j]? = some x) (hv : ∀ k, v.ownBlock = some k → w'.heap[k]? = w.heap[k]?)
  (hk : ∀ k, k ∉ tb x → k ∈ tbL xs → w'.heap[k]? = w.heap[k]?) (hm : ∀ cs, kG.M w base (fun k => ok k ∧ some k ≠ v.ownBlock) x cs → kG.M w' base (fun k => ok k ∧ some k ≠ v.ownBlock) x' cs) : kG.R 43 w' base ok v (xs.set j x') := by
 obtain ⟨h0, inner, ho, h1, h2⟩ := h;refine ⟨h0, inner, ?_, ?_, ?_⟩
 ·rw [List.length_set]; exact own_move ho hv
 ·rw [List.length_set]; exact h1
 ·intro i p hp;rw [List.getElem?_set] at hp;by_cases hij : j = i
  ·rw [if_pos hij] at hp;split at hp
   ·obtain rfl := sI_ hp;rw [← hij];exact hm _ (h2 j x hx)
   ·cases hp
  ·rw [if_neg hij] at hp;have h3 := M_tb p (h2 i p hp) (ok' := fun k => (ok k ∧ some k ≠ v.ownBlock) ∧ k ∈ tb p) (fun b hb hk => ⟨hk, hb⟩);refine kG.M_mono (fun k hk => hk.1) (kG.M_move (fun k hk2 => hk k (fun hb => tb_apart xs hn j i x p hx hp hij k hb hk2.2) (tb_mem xs p (List.mem_of_getElem? hp) k hk2.2)) h3)
mutual
def mkE (k : Nat) : G43 → Int → Option (Int × G43)
 | ⟨_, _, _, at_, _, ks, b3, b5⟩, n => (laws_markText.f k (wrap64 (wrap64 (n + 1) + 1))).bind fun t2 => (laws_markAttrS.f k at_ (wrap64 (wrap64 (wrap64 (n + 1) + 1) + 1))).bind fun q => (laws_markText.f k q.1).bind fun t4 => (mkL k ks (wrap64 (q.1 + 1))).bind fun r => some (r.1, ⟨n, wrap64 (n + 1), t2, q.2, t4, r.2, b3, b5⟩)
def mkL (k : Nat) : List G43 → Int → Option (Int × List G43)
 | [], n => some (n, [])
 | x :: xs, n => (mkE k x n).bind fun p => (mkL k xs p.1).bind fun q => some (q.1, p.2 :: q.2)
end
mutual
theorem mkE_tb (k : Nat) : ∀ (x : G43) (n : Int) (r : Int × G43), mkE k x n = some r → tb r.2 = tb x
 | ⟨a, b, c, d, f, ks, b3, b5⟩, n, r, h => by
  rw [mkE] at h;obtain ⟨t2, _, h⟩ := oB_ h;obtain ⟨q, _, h⟩ := oB_ h;obtain ⟨t4, _, h⟩ := oB_ h;obtain ⟨s, hs, h⟩ := oB_ h;obtain rfl := sI_ h;rw [tb, tb, (mkL_tb k ks _ s hs).1]
theorem mkL_tb (k : Nat) : ∀ (xs : List G43) (n : Int) (r : Int × List G43), mkL k xs n = some r → tbL r.2 = tbL xs ∧ r.2.length = xs.length
 | [], n, r, h => by
  rw [mkL] at h;obtain rfl := sI_ h;exact ⟨rfl, rfl⟩
 | x :: xs, n, r, h => by
  rw [mkL] at h;obtain ⟨p, hp, h⟩ := oB_ h;obtain ⟨q, hq, h⟩ := oB_ h;obtain rfl := sI_ h;obtain ⟨h1, h2⟩ := mkL_tb k xs _ q hq;rw [tbL, tbL, mkE_tb k x n p hp, h1, List.length_cons, List.length_cons, h2];exact ⟨rfl, rfl⟩
end
structure Mk (w0 w W : World) (g n c : Nat) (P S : Nat → Prop) (ys : List G43) : Prop where
 rr : kG.R 43 W w0.heap.size P (.slice (some ⟨g, 0, none⟩) n c) ys
 kp : Kept w W S
 bl : Below w0.heap.size w0 W
 gs : S g
 g0 : w0.heap.size ≤ g
theorem Mk.below {w0 w W W' : World} {g n c : Nat} {P S : Nat → Prop} {ys : List G43} (h : Mk w0 w W g n c P S ys) (hb : Below W.heap.size W W') : Mk w0 w W' g n c P S ys :=
 ⟨Kd.R_below h.rr hb, h.kp.below hb, below_step h.bl hb, h.gs, h.g0⟩
theorem set_mid {α : Type} (a : List α) (x y : α) (b : List α) : (a ++ x :: b).set a.length y = a ++ y :: b := by simp [List.set_append]
theorem getD_mid {α : Type} (a : List α) (x z : α) (b : List α) : (a ++ x :: b).getD a.length z = x := by simp [List.getD_eq_getElem?_getD]
theorem Mk.lt {w0 w W : World} {g n c : Nat} {P S : Nat → Prop} {a b : List G43} {x : G43} (h : Mk w0 w W g n c P S (a ++ x :: b)) : a.length < n := by
 have := (Kd.R_reads' h.rr).1;rw [List.length_append, List.length_cons] at this;omega
theorem Mk.cells {w0 w W : World} {g n c : Nat} {P S : Nat → Prop} {a b : List G43} {x : G43} (h : Mk w0 w W g n c P S (a ++ x :: b)) {j : Int} (hj : j = (a.length : Int)) :
  k36.R 36 W w0.heap.size (fun k => P k ∧ k ≠ g) x.b3 x.f3 ∧ kG.R 43 W w0.heap.size (fun k => P k ∧ k ≠ g) x.b5 x.f5 ∧
  W.cell? ⟨g, j.toNat * 6, none⟩ = some (.int .i64 x.f0) ∧ W.cell? ⟨g, j.toNat * 6 + 1, none⟩ = some (.int .i64 x.f1) ∧ W.cell? ⟨g, j.toNat * 6 + 2, none⟩ = some (.string x.f2) ∧ W.cell? ⟨g, j.toNat * 6 + 3, none⟩ = some x.b3 ∧ W.cell? ⟨g, j.toNat * 6 + 4, none⟩ = some (.string x.f4) ∧ W.cell? ⟨g, j.toNat * 6 + 5, none⟩ = some x.b5 ∧
  W.frozen? ⟨g, j.toNat * 6, none⟩ = false ∧ W.frozen? ⟨g, j.toNat * 6 + 1, none⟩ = false ∧ W.frozen? ⟨g, j.toNat * 6 + 2, none⟩ = false ∧ W.frozen? ⟨g, j.toNat * 6 + 4, none⟩ = false := by
 have hlt := h.lt;obtain ⟨cs, _, hM, hcc, hfr⟩ := Kd.R_elem h.rr zG j om_ om_;have hjn : j.toNat = a.length := om_;rw [hjn, getD_mid] at hM;obtain ⟨v3, v5, rfl, g3, g5, rfl, rfl⟩ := kG_openM hM;exact ⟨g3, g5, hcc 0 _ rfl, hcc 1 _ rfl, hcc 2 _ rfl, hcc 3 _ rfl, hcc 4 _ rfl, hcc 5 _ rfl, hfr 0, hfr 1, hfr 2, hfr 4⟩
theorem Mk.seg {w0 w W : World} {g n c : Nat} {P S : Nat → Prop} {a b : List G43} {x x' : G43} (h : Mk w0 w W g n c P S (a ++ x :: b)) {j : Int} (hj : j = (a.length : Int)) (i : Nat) (hi : i < 6) (u : Value) (h3 : x'.b3 = x.b3) (h5 : x'.b5 = x.b5) (f3 : x'.f3 = x.f3) (f5 : x'.f5 = x.f5)
  (hc : [.int .i64 x'.f0, .int .i64 x'.f1, .string x'.f2, x.b3, .string x'.f4, x.b5] = ([.int .i64 x.f0, .int .i64 x.f1, .string x.f2, x.b3, .string x.f4, x.b5] : List Value).take i ++ [u] ++ ([.int .i64 x.f0, .int .i64 x.f1, .string x.f2, x.b3, .string x.f4, x.b5] : List Value).drop (i + 1)) : Mk w0 w (W.setCell ⟨g, j.toNat * 6 + i, none⟩ u) g n c P S (a ++ x' :: b) := by
 have hlt := h.lt;obtain ⟨cs, hcl, hM, hcc, hfr⟩ := Kd.R_elem h.rr zG j om_ om_;have hjn : j.toNat = a.length := om_;rw [hjn, getD_mid] at hM;obtain ⟨v3, v5, rfl, g3, g5, rfl, rfl⟩ := kG_openM hM;have hM' := kG_mkM W w0.heap.size (fun k => P k ∧ k ≠ g) x' (f3.symm ▸ g3) (f5.symm ▸ g5) h3.symm h5.symm;rw [hc] at hM';obtain ⟨hR, hg⟩ := Kd.R_seg h.rr j om_ om_ hcl hcc (j := i) (seg := [u]) (by show i + 1 ≤ 6; omega) (x' := x') hM' (fun k hk => hk);rw [hjn, set_mid] at hR;rw [← hjn] at hR;exact ⟨hR, h.kp.setCell (p := ⟨g, j.toNat * 6 + i, none⟩) (.inl h.gs) u, below_set h.bl h.g0, h.gs, h.g0⟩
theorem Mk.st0 {w0 w W : World} {g n c : Nat} {P S : Nat → Prop} {a b : List G43} {x : G43} (h : Mk w0 w W g n c P S (a ++ x :: b)) {j : Int} (hj : j = (a.length : Int)) (u : Int) : Mk w0 w (W.setCell ⟨g, j.toNat * 6, none⟩ (.int .i64 u)) g n c P S (a ++ ⟨u, x.f1, x.f2, x.f3, x.f4, x.f5, x.b3, x.b5⟩ :: b) := h.seg hj 0 de_ (.int .i64 u) rfl rfl rfl rfl rfl
theorem Mk.st1 {w0 w W : World} {g n c : Nat} {P S : Nat → Prop} {a b : List G43} {x : G43} (h : Mk w0 w W g n c P S (a ++ x :: b)) {j : Int} (hj : j = (a.length : Int)) (u : Int) : Mk w0 w (W.setCell ⟨g, j.toNat * 6 + 1, none⟩ (.int .i64 u)) g n c P S (a ++ ⟨x.f0, u, x.f2, x.f3, x.f4, x.f5, x.b3, x.b5⟩ :: b) := h.seg hj 1 de_ (.int .i64 u) rfl rfl rfl rfl rfl
theorem Mk.st2 {w0 w W : World} {g n c : Nat} {P S : Nat → Prop} {a b : List G43} {x : G43} (h : Mk w0 w W g n c P S (a ++ x :: b)) {j : Int} (hj : j = (a.length : Int)) (u : BA) : Mk w0 w (W.setCell ⟨g, j.toNat * 6 + 2, none⟩ (.string u)) g n c P S (a ++ ⟨x.f0, x.f1, u, x.f3, x.f4, x.f5, x.b3, x.b5⟩ :: b) := h.seg hj 2 de_ (.string u) rfl rfl rfl rfl rfl
theorem Mk.st4 {w0 w W : World} {g n c : Nat} {P S : Nat → Prop} {a b : List G43} {x : G43} (h : Mk w0 w W g n c P S (a ++ x :: b)) {j : Int} (hj : j = (a.length : Int)) (u : BA) : Mk w0 w (W.setCell ⟨g, j.toNat * 6 + 4, none⟩ (.string u)) g n c P S (a ++ ⟨x.f0, x.f1, x.f2, x.f3, u, x.f5, x.b3, x.b5⟩ :: b) := h.seg hj 4 de_ (.string u) rfl rfl rfl rfl rfl
theorem Mk.sub {w0 w W W' : World} {g n c : Nat} {P S D : Nat → Prop} {a b : List G43} {x x' : G43} (h : Mk w0 w W g n c P S (a ++ x :: b)) (hn : (tbL (a ++ x :: b)).Nodup) (hb : Below w0.heap.size w0 W') (hk : Kept W W' D) (hD : ∀ k, D k → k ∈ tb x) (hS : ∀ k ∈ tb x, S k) (hm : ∀ cs, kG.M W w0.heap.size (fun k => P k ∧ some k ≠ (Value.slice (some ⟨g, 0, none⟩) n c).ownBlock) x cs → kG.M W' w0.heap.size (fun k => P k ∧ some k ≠ (Value.slice (some ⟨g, 0, none⟩) n c).ownBlock) x' cs) : Mk w0 w W' g n c P S (a ++ x' :: b) := by
 have hin := tbL_ok (a ++ x :: b) (R_each (Kd.R_bound h.rr));have hx : x ∈ a ++ x :: b := by simp
 have hg : ∀ k, (Value.slice (some ⟨g, 0, none⟩) n c).ownBlock = some k → W'.heap[k]? = W.heap[k]? := fun k e => hk.2 k (Kd.R_lt h.rr k e) (fun hd => (hin k (tb_mem _ x hx k (hD k hd))).2 e.symm)
 have hR := row_sub h.rr hn (j := a.length) (x := x) (x' := x') si_ hg (fun k hk1 hk2 => hk.2 k (hin k hk2).1.2.2.1 (fun hd => hk1 (hD k hd))) hm;rw [set_mid] at hR;exact ⟨hR, h.kp.then_ hk (fun k hd => .inl (hS k (hD k hd))), hb, h.gs, h.g0⟩
theorem nd_mem : ∀ (xs : List G43) (x : G43), x ∈ xs → (tbL xs).Nodup → (tb x).Nodup
 | [], x, hx, _ => by cases hx
 | y :: ys, x, hx, h => by
  rw [tbL] at h;obtain ⟨h1, h2, _⟩ := List.nodup_append.1 h;rcases List.mem_cons.1 hx with e | hx
  ·rw [e]; exact h1
  ·exact nd_mem ys x hx h2
theorem tb_eq (x : G43) : tb x = x.b3.ownBlock.toList ++ (x.b5.ownBlock.toList ++ tbL x.f5) := by
 obtain ⟨f0, f1, f2, f3, f4, f5, b3, b5⟩ := x;rw [tb]
theorem Mk.attrs {w0 w W W' : World} {g n c : Nat} {P S : Nat → Prop} {a b : List G43} {x : G43} (h : Mk w0 w W g n c P S (a ++ x :: b)) (hn : (tbL (a ++ x :: b)).Nodup) (hb : Below w0.heap.size w0 W') (hk : Kept W W' (fun k => x.b3.ownBlock = some k)) (hS : ∀ k ∈ tb x, S k) {Q : Nat → Prop} {at_ : List S36} (hr : k36.R 36 W' w0.heap.size Q x.b3 at_) : Mk w0 w W' g n c P S (a ++ ⟨x.f0, x.f1, x.f2, at_, x.f4, x.f5, x.b3, x.b5⟩ :: b) := by
 have hx : x ∈ a ++ x :: b := by simp
 have hnd := nd_mem _ x hx hn;rw [tb_eq] at hnd;obtain ⟨_, _, hne⟩ := List.nodup_append.1 hnd;refine h.sub hn hb hk (fun k e => by rw [tb_eq]; exact List.mem_append_left _ (Option.mem_toList.2 e)) hS (fun cs hm => ?_);obtain ⟨v3, v5, rfl, g3, g5, rfl, rfl⟩ := kG_openM hm;have g5' := R_tb x.f5 g5 (ok' := fun k => (P k ∧ some k ≠ (Value.slice (some ⟨g, 0, none⟩) n c).ownBlock) ∧ ¬ x.b3.ownBlock = some k)
  (fun k e => ⟨g5.1 k e, fun e3 => hne k (Option.mem_toList.2 e3) k (List.mem_append_left _ (Option.mem_toList.2 e)) rfl⟩)
  (fun k hk ho => ⟨ho, fun e3 => hne k (Option.mem_toList.2 e3) k (List.mem_append_right _ hk) rfl⟩)
 exact kG_mkM W' _ _ ⟨x.f0, x.f1, x.f2, at_, x.f4, x.f5, x.b3, x.b5⟩ (R36_ok hr g3.1) (Kd.R_mono (Kd.R_kept g5' hk (fun k ho => ho.2)) (fun k ho => ho.1)) rfl rfl
theorem Mk.kids {w0 w W W' : World} {g n c : Nat} {P S : Nat → Prop} {a b : List G43} {x : G43} (h : Mk w0 w W g n c P S (a ++ x :: b)) (hn : (tbL (a ++ x :: b)).Nodup) (hb : Below w0.heap.size w0 W') (hk : Kept W W' (fun k => x.b5.ownBlock = some k ∨ k ∈ tbL x.f5)) (hS : ∀ k ∈ tb x, S k) {Q : Nat → Prop} {ks : List G43} (ht : tbL ks = tbL x.f5) (hr : kG.R 43 W' w0.heap.size Q x.b5 ks) : Mk w0 w W' g n c P S (a ++ ⟨x.f0, x.f1, x.f2, x.f3, x.f4, ks, x.b3, x.b5⟩ :: b) := by
 have hx : x ∈ a ++ x :: b := by simp
 have hnd := nd_mem _ x hx hn;rw [tb_eq] at hnd;obtain ⟨_, _, hne⟩ := List.nodup_append.1 hnd;refine h.sub hn hb hk (fun k e => by
  rw [tb_eq];rcases e with e | e
  ·exact List.mem_append_right _ (List.mem_append_left _ (Option.mem_toList.2 e))
  ·exact List.mem_append_right _ (List.mem_append_right _ e)) hS (fun cs hm => ?_)
 obtain ⟨v3, v5, rfl, g3, g5, rfl, rfl⟩ := kG_openM hm;have h5 := tbL_ok x.f5 (R_each g5);have g3' := R36_ok g3 (ok' := fun k => (P k ∧ some k ≠ (Value.slice (some ⟨g, 0, none⟩) n c).ownBlock) ∧ ¬ (x.b5.ownBlock = some k ∨ k ∈ tbL x.f5)) (fun k e => ⟨g3.1 k e, fun e5 => by
  rcases e5 with e5 | e5
  ·exact hne k (Option.mem_toList.2 e) k (List.mem_append_left _ (Option.mem_toList.2 e5)) rfl
  ·exact hne k (Option.mem_toList.2 e) k (List.mem_append_right _ e5) rfl⟩)
 exact kG_mkM W' _ _ ⟨x.f0, x.f1, x.f2, x.f3, x.f4, ks, x.b3, x.b5⟩ (Kd.R_mono (Kd.R_kept g3' hk (fun k ho => ho.2)) (fun k ho => ho.1)) (R_tb ks hr g5.1 (fun k hk2 _ => (h5 k (ht ▸ hk2)).1)) rfl rfl
theorem tb_same (x y : G43) (h3 : y.b3 = x.b3) (h5 : y.b5 = x.b5) (f5 : y.f5 = x.f5) : tb y = tb x := by rw [tb_eq, tb_eq, h3, h5, f5]
theorem tbL_mid (a b : List G43) (x : G43) : tbL (a ++ x :: b) = tbL a ++ (tb x ++ tbL b) := by rw [tbL_append, tbL]
theorem markElS_G : ∀ (m k : Nat) (xs : List G43) (n r1 : Int) (r2 : List G43) (P : Nat → Prop) (v : Value) (w0 w : World), SizeOf.sizeOf xs < m → Below w0.heap.size w0 w → kG.R 43 w w0.heap.size P v xs → (tbL xs).Nodup → mkL k xs n = some (r1, r2) →
  Calls Tryz.prog 41 #[v, .int .i64 n] w fun e w' => e = .returned (.int .i64 r1) ∧ kG.R 43 w' w0.heap.size P v r2 ∧ Below w0.heap.size w0 w' ∧ Kept w w' (fun b => v.ownBlock = some b ∨ b ∈ tbL xs) := by
 intro m;induction m with
 | zero => intro k xs n r1 r2 P v w0 w hm; omega
 | succ m ih =>
 intro k xs n r1 r2 P v w0 w hm hB hR hn h;obtain ⟨A0, c0, rfl⟩ := Kd.R_slice hR;have hml : xs.length ≤ 9223372036854775807 := by
  obtain ⟨inner, ho⟩ := Kd.R_own hR;exact (by have := (Kd.C_max (Kd.R_reads' hR).2.2); omega)
 have HML := A_ hml;have HND := A_ hn;have HSZ := A_ hm;have H := A_ h;have HR := A_ hR;have HB := A_ hB;have HK := A_ (Kept.refl w (fun b => (Value.slice A0 xs.length c0).ownBlock = some b ∨ b ∈ tbL xs));clear hm hB hR hn h hml;go_enter Tryz.func41, Tryz.ntmps41
 go_wp2
 go_loopg [1, 5] xs.length (fun kq v1 v5 wr => ∃ (done rest : List G43) (nj j : Int) (R : List G43), v1 = .int .i64 nj ∧ v5 = .int .i64 j ∧ As9 (kq = rest.length) ∧ As9 (j = (done.length : Int)) ∧ As9 (mkL k rest nj = some (r1, R)) ∧ As9 (r2 = done ++ R) ∧ As9 (tbL (done ++ rest) = tbL xs) ∧ As9 (done.length + rest.length = xs.length) ∧ As9 (SizeOf.sizeOf rest ≤ SizeOf.sizeOf xs) ∧ As9 (kG.R 43 wr w0.heap.size P (.slice A0 xs.length c0) (done ++ rest)) ∧ As9 (Kept w wr (fun b => (Value.slice A0 xs.length c0).ownBlock = some b ∨ b ∈ tbL xs)) ∧ As9 (Below w0.heap.size w0 wr))
 case atStart => exact ⟨[], xs, n, 0, r2, rfl, rfl, ⟨rfl⟩, ⟨rfl⟩, H, ⟨rfl⟩, ⟨rfl⟩, ⟨by simp⟩, ⟨Nat.le_refl _⟩, HR, HK, HB⟩
 case round =>
  clear H HR HK HB;obtain ⟨done, rest, nj, j, R, rfl, rfl, HEQ, HJ, HM, HR2, HT, HLN, HSR, HR, HK, HB⟩ := hrel;cases rest with
  | nil =>
   have hlt : ¬ (j < (xs.length : Int)) := by
    have h1 := HJ.out;have h2 := HLN.out;rw [List.length_nil] at h2;omega
   have q7 := eq_false hlt;have h := HM.out;rw [mkL] at h;obtain ⟨rfl, rfl⟩ := Prod.mk.inj (sI_ h);clear h HM;go_wp2
   go_ret
   exact ⟨rfl, HR2.out ▸ HR.out, HB.out, HK.out⟩
  | cons x rest =>
   have hlt : j < (xs.length : Int) := by
    have h1 := HJ.out;have h2 := HLN.out;rw [List.length_cons] at h2;omega
   have q7 := eq_true hlt;have p7 := eq_true (show 0 ≤ j by have := HJ.out; omega);have hwr : wrap64 (j + 1) = j + 1 := by have := HML.out; have := HJ.out; unfold wrap64; omega
   have h := HM.out;rw [mkL] at h;obtain ⟨⟨n5, x5⟩, hx5, h⟩ := oB_ h;obtain ⟨⟨n6, R6⟩, hR6, h⟩ := oB_ h;obtain ⟨e1, rfl⟩ := Prod.mk.inj (sI_ h);dsimp only at hR6 e1;have HR6 := A_ (e1 ▸ hR6);have hxs := tb_eq x;obtain ⟨f0, f1, f2, f3, f4, f5, b3, b5⟩ := x;rw [mkE] at hx5;obtain ⟨t2, h2, hx5⟩ := oB_ hx5;obtain ⟨⟨n3, at_⟩, h3, hx5⟩ := oB_ hx5;obtain ⟨t4, h4, hx5⟩ := oB_ hx5;obtain ⟨⟨n4, ks⟩, h5, hx5⟩ := oB_ hx5;obtain ⟨rfl, rfl⟩ := Prod.mk.inj (sI_ hx5);dsimp only at h4 h5;have A2 := A_ h2;have A3 := A_ h3;have A4 := A_ h4;have A5 := A_ h5;have HS5 : As9 (SizeOf.sizeOf f5 < m) := ⟨by have h1 := HSZ.out; have h2 := HSR.out; simp at h2; omega⟩;obtain ⟨g, cap, hv, hg0, -, -⟩ := Kd.R_form HR.out (by rw [List.length_append, List.length_cons]; omega);injection hv with hv1 hv2 hv3
   subst hv1 hv3;have HN : As9 (∀ y : G43, y.b3 = b3 → y.b5 = b5 → y.f5 = f5 → (tbL (done ++ y :: rest)).Nodup) := ⟨fun y h3 h5 hf => by
    have := HND.out;rw [← HT.out, tbL_mid] at this;rw [tbL_mid, tb_same ⟨f0, f1, f2, f3, f4, f5, b3, b5⟩ y h3 h5 hf];exact this⟩
   have HSS : As9 (∀ y : G43, y.b3 = b3 → y.b5 = b5 → y.f5 = f5 → ∀ k ∈ tb y, (Value.slice (some ⟨g, 0, none⟩) xs.length c0).ownBlock = some k ∨ k ∈ tbL xs) := ⟨fun y h3 h5 hf k hk => .inr (by
    rw [← HT.out, tbL_mid, ← tb_same ⟨f0, f1, f2, f3, f4, f5, b3, b5⟩ y h3 h5 hf];exact List.mem_append_right _ (List.mem_append_left _ hk))⟩
   have HNK : As9 ((tbL f5).Nodup) := ⟨by
    have h1 := nd_mem (done ++ (⟨f0, f1, f2, f3, f4, f5, b3, b5⟩ : G43) :: rest) ⟨f0, f1, f2, f3, f4, f5, b3, b5⟩ (List.mem_append_right _ List.mem_cons_self) (HN.out ⟨f0, f1, f2, f3, f4, f5, b3, b5⟩ rfl rfl rfl);rw [tb_eq] at h1;exact (List.nodup_append.1 (List.nodup_append.1 h1).2.1).2.1⟩
   have M0 : As9 (Mk w0 w wr g xs.length c0 P (fun b => (Value.slice (some ⟨g, 0, none⟩) xs.length c0).ownBlock = some b ∨ b ∈ tbL xs) (done ++ ⟨f0, f1, f2, f3, f4, f5, b3, b5⟩ :: rest)) := ⟨⟨HR.out, HK.out, HB.out, .inl rfl, hg0⟩⟩;clear h hx5 h2 h3 h4 h5 hR6 e1 hxs hv2 hg0 HR HK HB HM;obtain ⟨-, -, hx0, hx1, hx2, hx3, hx4, hx5, hf0, hf1, hf2, hf4⟩ := M0.out.cells HJ.out; dsimp only at hx0 hx1 hx2 hx3 hx4 hx5;go_wp2_with (first | (go_at_call 98; (with_reducible refine (laws_markText.calls k _ t2 _ A2.out).mono ?_); rintro e w4 ⟨rfl, hb⟩; have M4 := A_ (((M0.out.st0 HJ.out nj).st1 HJ.out (wrap64 (nj + 1))).below hb); clear hb M0 A2; clear hx0 hx1 hx2 hx3 hx4 hx5 hf0 hf1 hf2 hf4; obtain ⟨-, -, hx0, hx1, hx2, hx3, hx4, hx5, hf0, hf1, hf2, hf4⟩ := M4.out.cells HJ.out; dsimp only at hx0 hx1 hx2 hx3 hx4 hx5) | (go_at_call 89; have M5 := A_ (M4.out.st2 HJ.out t2); (with_reducible refine (laws_markAttrS.calls k (fun k_ => b3.ownBlock = some k_) b3 f3 _ n3 at_ w0 _ M5.out.bl (R36_ok (M5.out.cells HJ.out).1 (fun _ e_ => e_)) A3.out).mono ?_); rintro e w6 ⟨rfl, hr, hb, hk⟩; have M6 := A_ (M5.out.attrs (HN.out _ rfl rfl rfl) hb hk (HSS.out _ rfl rfl rfl) hr); clear hr hb hk M5 M4 A3; clear hx0 hx1 hx2 hx3 hx4 hx5 hf0 hf1 hf2 hf4; obtain ⟨-, -, hx0, hx1, hx2, hx3, hx4, hx5, hf0, hf1, hf2, hf4⟩ := M6.out.cells HJ.out; dsimp only at hx0 hx1 hx2 hx3 hx4 hx5) | (go_at_call 98; (with_reducible refine (laws_markText.calls k _ t4 _ A4.out).mono ?_); rintro e w7 ⟨rfl, hb⟩; have M7 := A_ (M6.out.below hb); clear hb M6 A4; clear hx0 hx1 hx2 hx3 hx4 hx5 hf0 hf1 hf2 hf4; obtain ⟨-, -, hx0, hx1, hx2, hx3, hx4, hx5, hf0, hf1, hf2, hf4⟩ := M7.out.cells HJ.out; dsimp only at hx0 hx1 hx2 hx3 hx4 hx5) | (go_at_call 41; have M8 := A_ (M7.out.st4 HJ.out t4); (with_reducible refine (ih k f5 _ n4 ks (fun k_ => P k_ ∧ k_ ≠ g) b5 w0 _ HS5.out M8.out.bl (M8.out.cells HJ.out).2.1 HNK.out A5.out).mono ?_); rintro e w9 ⟨rfl, hr, hb, hk⟩; have M9 := A_ (M8.out.kids (HN.out _ rfl rfl rfl) hb hk (HSS.out _ rfl rfl rfl) (mkL_tb k f5 _ _ A5.out).1 hr); clear hr hb hk M8 M7; clear hx0 hx1 hx2 hx3 hx4 hx5 hf0 hf1 hf2 hf4))
   go_roundg rest.length
   case measure => have := HEQ.out; rw [List.length_cons] at this; omega
   case rel => exact ⟨done ++ [⟨nj, wrap64 (nj + 1), t2, at_, t4, ks, b3, b5⟩], rest, n4, j + 1, R6, rfl, by rw [hwr], ⟨rfl⟩, ⟨by have := HJ.out; rw [List.length_append, List.length_singleton]; omega⟩, HR6, ⟨by rw [HR2.out, List.append_assoc]; rfl⟩, ⟨by rw [← HT.out, List.append_assoc, List.singleton_append, tbL_mid, tbL_mid, tb_eq, tb_eq]; dsimp only; rw [(mkL_tb k f5 _ _ A5.out).1]⟩, ⟨by have := HLN.out; simp at this ⊢; omega⟩, ⟨by have := HSR.out; simp at this; omega⟩, ⟨by rw [List.append_assoc]; exact M9.out.rr⟩, ⟨M9.out.kp⟩, ⟨M9.out.bl⟩⟩
def laws_heldAttrS.l0 : Nat → List (S36) → Int → Int → Option (Int)
 | 0, _, _, _ => none
 | k + 1, x0, x1, x5 => if x5 < (x0.length : Int) then (if 0 ≤ x5 then ((laws_markText.f k x1).bind fun t635 => (if ((rd_T36 x0 x5).f0).toList = t635.toList then ((laws_markText.f k (wrap64 (x1 + 1))).bind fun t637 => (if ((rd_T36 x0 x5).f1).toList = t637.toList then (laws_heldAttrS.l0 k x0 (wrap64 ((wrap64 (x1 + 1)) + 1)) (wrap64 (x5 + 1))) else (some (-1)))) else (some (-1)))) else (none)) else (some x1)
def laws_heldAttrS.f (k : Nat) (l0 : List (S36)) (a1 : Int) : Option (Int) := laws_heldAttrS.l0 k l0 a1 0
theorem laws_heldAttrS.mono_l : ∀ k, (∀ y0 y1 y2, LeO (laws_heldAttrS.l0 k y0 y1 y2) (laws_heldAttrS.l0 (k + 1) y0 y1 y2))
 | 0 => fun _ _ _ r h => by simp [laws_heldAttrS.l0] at h
 | k + 1 => by
  have ih0 := laws_heldAttrS.mono_l k
  ·intro y0 y1 y2;unfold laws_heldAttrS.l0;with_reducible repeat' first | exact ih0 _ _ _ | exact laws_markText.mono _ _ | apply LeO.refl | apply LeO.none | apply LeO.ite | apply LeO.bind | intro
theorem laws_heldAttrS.mono : ∀ a0 a1 k, LeO (laws_heldAttrS.f k a0 a1) (laws_heldAttrS.f (k + 1) a0 a1) := by
 intro a0 a1 k;have ih0 := laws_heldAttrS.mono_l k;unfold laws_heldAttrS.f;with_reducible repeat' first | exact ih0 _ _ _ | exact laws_markText.mono _ _ | apply LeO.refl | apply LeO.none | apply LeO.ite | apply LeO.bind | intro
def laws_heldAttrS.T4 : Bool × List (List Nat × List Nat) := (true, [([], []), ([], []), ([0, 1], [0, 1]), ([2], [2]), ([3], [3]), ([], []), ([5], [5]), ([4, 6], [4, 6])])
def laws_heldAttrS.B4 : List Nat := [0, 0, 3, 7, 15, 0, 32, 127]
theorem laws_heldAttrS.tab4 : rtab .any (opsOf Tryz.f90 4) = laws_heldAttrS.T4 := by kernel_rfl
theorem laws_heldAttrS.bits4 : waitsOk laws_heldAttrS.T4.2 laws_heldAttrS.B4 = true := by kernel_rfl
def laws_heldAttrS.T7 : Bool × List (List Nat × List Nat) := (true, [([], []), ([], []), ([0, 1], [0, 1]), ([2], [2]), ([3], [3]), ([], []), ([5], [5]), ([4, 6], [4, 6])])
def laws_heldAttrS.B7 : List Nat := [0, 0, 3, 7, 15, 0, 32, 127]
theorem laws_heldAttrS.tab7 : rtab .any (opsOf Tryz.f90 7) = laws_heldAttrS.T7 := by kernel_rfl
theorem laws_heldAttrS.bits7 : waitsOk laws_heldAttrS.T7.2 laws_heldAttrS.B7 = true := by kernel_rfl
theorem laws_heldAttrS.calls (k : Nat) (A0 : Option Addr) (c0 : Nat) (l0 : List (S36)) (a1 : Int) (r : Int) (w : World) (hr0 : Kd.C k36 w A0 l0.length l0) (hc0 : l0.length ≤ c0) (h : laws_heldAttrS.f k l0 a1 = some r) :
  Calls Tryz.prog 90 #[.slice A0 l0.length c0, .int .i64 a1] w fun e w' => e = .returned (.int .i64 r) ∧ Below w.heap.size w w' := by
 have HR0 := A_ hr0;have HC0 := A_ hc0;clear hr0 hc0;have HB := A_ (Below.refl w.heap.size w);have H : (laws_heldAttrS.l0 k l0 a1 0) = some r := h;clear h;have H' := A_ H;clear H;go_enter Tryz.func90, Tryz.ntmps90
 go_wp2
 go_loopg [1, 5] k (fun kq v1 v5 w' => ∃ (x1_1 : Int) (x5_1 : Int), v1 = .int .i64 x1_1 ∧ v5 = .int .i64 x5_1 ∧ As9 (laws_heldAttrS.l0 kq l0 x1_1 x5_1 = some r) ∧ As9 (kq ≤ k) ∧ As9 (Below w.heap.size w w'))
 case atStart => exact ⟨(a1), (0), e2_, e2_, H', ⟨Nat.le_refl _⟩, ⟨hB_⟩⟩
 case round =>
  clear H';try clear p2
  obtain ⟨x1_1, x5_1, rfl, rfl, HA, HK1, HB⟩ := hrel;cases gk with
  | zero => exact absurd HA.out (by simp [laws_heldAttrS.l0])
  | succ k1 =>
   have H := HA.out;clear HA;simp only [laws_heldAttrS.l0] at H;rcases ic_ H with ⟨c3, H⟩ | ⟨c3, H⟩
   ·have c3b0 := dE_ c3;clear c3;obtain ⟨c4, H⟩ := ifn_ H;have c4b0 := dE_ c4;clear c4;obtain ⟨t635, A5, H⟩ := ob_ H;rcases ic_ H with ⟨c6, H⟩ | ⟨c6, H⟩
    ·obtain ⟨c6b0, c6b1⟩ := be_ c6;clear c6;obtain ⟨t637, A7, H⟩ := ob_ H;rcases ic_ H with ⟨c8, H⟩ | ⟨c8, H⟩
     ·obtain ⟨c8b0, c8b1⟩ := be_ c8;clear c8;have H' := A_ H;clear H;try go_wp2
      replace HB := A_ (bD9 HB.out);obtain ⟨p634, q634, ad634, e634, hw634_0, hw634_1, hx634_0, hx634_1⟩ := aW36_ HB.out HR0.out x5_1;cases e634;refine start_ (n := 8) (S := fun w' => w'.cell? (ad634.add ((x5_1).toNat * 2)) = some (.string ((rd_T36 l0 x5_1).f0)) ∧ w'.cell? ⟨(ad634.add ((x5_1).toNat * 2)).block, (ad634.add ((x5_1).toNat * 2)).off + 1, none⟩ = some (.string ((rd_T36 l0 x5_1).f1))) (ds := []) (tS 8 0) (by kernel_rfl) rfl rfl ⟨(cB_ HB.out hw634_0), (cB_ HB.out hw634_1)⟩ (fun hHeld => ?_); refine with_tabW laws_heldAttrS.tab4 laws_heldAttrS.bits4 (fun HT_ HW_ => ?_);generalize wr.drew = w9 at HB hx634_0 hx634_1 hHeld ⊢;iterate 4 refine pqT_ ?_
      refine pgT_ 5 (tB 8 47) ?_;refine tgT_ 4 (tS 8 6) rfl (by rintro w' ⟨s0, s1⟩; go_simp; with_reducible rfl) ?_;refine n1T_ 6 (tS 8 7) rfl fun K hK => ?_
      refine gS_ Tryz.func98 #[.int .i64 x1_1] ?_;with_reducible refine (laws_markText.calls k1 x1_1 t635 _ A5.out).mono ?_
      rintro e w10 ⟨rfl, hb⟩;refine ⟨_, rfl, ?_⟩;replace HB := bS_ hb;clear hb;refine hK.out _ _ ⟨(cB_ HB.out hw634_0), (cB_ HB.out hw634_1)⟩ (fun hHeld => ?_);clear hK K;refine nm_ ?_;refine pqT_ ?_;refine done_ (done_of HT_.out (by kernel_rfl)) ?_;try go_wp2
      replace HB := A_ (bD9 HB.out);obtain ⟨p636, q636, ad636, e636, hw636_0, hw636_1, hx636_0, hx636_1⟩ := aW36_ HB.out HR0.out x5_1;obtain rfl : ad634 = ad636 := (by injection e636);refine start_ (n := 8) (S := fun w' => w'.cell? (ad634.add ((x5_1).toNat * 2)) = some (.string ((rd_T36 l0 x5_1).f0)) ∧ w'.cell? ⟨(ad634.add ((x5_1).toNat * 2)).block, (ad634.add ((x5_1).toNat * 2)).off + 1, none⟩ = some (.string ((rd_T36 l0 x5_1).f1))) (ds := []) (tS 8 0) (by kernel_rfl) rfl rfl ⟨(cB_ HB.out hw636_0), (cB_ HB.out hw636_1)⟩ (fun hHeld => ?_); refine with_tabW laws_heldAttrS.tab7 laws_heldAttrS.bits7 (fun HT_ HW_ => ?_);generalize w10.drew = w11 at HB hx636_0 hx636_1 hHeld ⊢;iterate 4 refine pqT_ ?_
      refine pgT_ 5 (tB 8 47) ?_;refine tgT_ 4 (tS 8 6) rfl (by rintro w' ⟨s0, s1⟩; go_simp; with_reducible rfl) ?_;refine n1T_ 6 (tS 8 7) rfl fun K hK => ?_
      refine gS_ Tryz.func98 #[.int .i64 (wrap64 (x1_1 + 1))] ?_;with_reducible refine (laws_markText.calls k1 (wrap64 (x1_1 + 1)) t637 _ A7.out).mono ?_
      rintro e w12 ⟨rfl, hb⟩;refine ⟨_, rfl, ?_⟩;replace HB := bS_ hb;clear hb;refine hK.out _ _ ⟨(cB_ HB.out hw636_0), (cB_ HB.out hw636_1)⟩ (fun hHeld => ?_);clear hK K;refine nm_ ?_;refine pqT_ ?_;refine done_ (done_of HT_.out (by kernel_rfl)) ?_;try go_wp2
      go_roundg k1
      case measure => have := HK1.out; omega
      case rel => exact ⟨(wrap64 ((wrap64 (x1_1 + 1)) + 1)), (wrap64 (x5_1 + 1)), e2_, e2_, H', ⟨by have := HK1.out; omega⟩, ⟨hB_⟩⟩
     ·obtain ⟨c8b0, c8b1⟩ := bn_ c8;obtain rfl := sI_ H;try go_wp2
      replace HB := A_ (bD9 HB.out);obtain ⟨p634, q634, ad634, e634, hw634_0, hw634_1, hx634_0, hx634_1⟩ := aW36_ HB.out HR0.out x5_1;cases e634;refine start_ (n := 8) (S := fun w' => w'.cell? (ad634.add ((x5_1).toNat * 2)) = some (.string ((rd_T36 l0 x5_1).f0)) ∧ w'.cell? ⟨(ad634.add ((x5_1).toNat * 2)).block, (ad634.add ((x5_1).toNat * 2)).off + 1, none⟩ = some (.string ((rd_T36 l0 x5_1).f1))) (ds := []) (tS 8 0) (by kernel_rfl) rfl rfl ⟨(cB_ HB.out hw634_0), (cB_ HB.out hw634_1)⟩ (fun hHeld => ?_); refine with_tabW laws_heldAttrS.tab4 laws_heldAttrS.bits4 (fun HT_ HW_ => ?_);generalize wr.drew = w13 at HB hx634_0 hx634_1 hHeld ⊢;iterate 4 refine pqT_ ?_
      refine pgT_ 5 (tB 8 47) ?_;refine tgT_ 4 (tS 8 6) rfl (by rintro w' ⟨s0, s1⟩; go_simp; with_reducible rfl) ?_;refine n1T_ 6 (tS 8 7) rfl fun K hK => ?_
      refine gS_ Tryz.func98 #[.int .i64 x1_1] ?_;with_reducible refine (laws_markText.calls k1 x1_1 t635 _ A5.out).mono ?_
      rintro e w14 ⟨rfl, hb⟩;refine ⟨_, rfl, ?_⟩;replace HB := bS_ hb;clear hb;refine hK.out _ _ ⟨(cB_ HB.out hw634_0), (cB_ HB.out hw634_1)⟩ (fun hHeld => ?_);clear hK K;refine nm_ ?_;refine pqT_ ?_;refine done_ (done_of HT_.out (by kernel_rfl)) ?_;try go_wp2
      replace HB := A_ (bD9 HB.out);obtain ⟨p636, q636, ad636, e636, hw636_0, hw636_1, hx636_0, hx636_1⟩ := aW36_ HB.out HR0.out x5_1;obtain rfl : ad634 = ad636 := (by injection e636);refine start_ (n := 8) (S := fun w' => w'.cell? (ad634.add ((x5_1).toNat * 2)) = some (.string ((rd_T36 l0 x5_1).f0)) ∧ w'.cell? ⟨(ad634.add ((x5_1).toNat * 2)).block, (ad634.add ((x5_1).toNat * 2)).off + 1, none⟩ = some (.string ((rd_T36 l0 x5_1).f1))) (ds := []) (tS 8 0) (by kernel_rfl) rfl rfl ⟨(cB_ HB.out hw636_0), (cB_ HB.out hw636_1)⟩ (fun hHeld => ?_); refine with_tabW laws_heldAttrS.tab7 laws_heldAttrS.bits7 (fun HT_ HW_ => ?_);generalize w14.drew = w15 at HB hx636_0 hx636_1 hHeld ⊢;iterate 4 refine pqT_ ?_
      refine pgT_ 5 (tB 8 47) ?_;refine tgT_ 4 (tS 8 6) rfl (by rintro w' ⟨s0, s1⟩; go_simp; with_reducible rfl) ?_;refine n1T_ 6 (tS 8 7) rfl fun K hK => ?_
      refine gS_ Tryz.func98 #[.int .i64 (wrap64 (x1_1 + 1))] ?_;with_reducible refine (laws_markText.calls k1 (wrap64 (x1_1 + 1)) t637 _ A7.out).mono ?_
      rintro e w16 ⟨rfl, hb⟩;refine ⟨_, rfl, ?_⟩;replace HB := bS_ hb;clear hb;refine hK.out _ _ ⟨(cB_ HB.out hw636_0), (cB_ HB.out hw636_1)⟩ (fun hHeld => ?_);clear hK K;refine nm_ ?_;refine pqT_ ?_;refine done_ (done_of HT_.out (by kernel_rfl)) ?_;try go_wp2
      go_ret
      exact ⟨e1_, hB_⟩
    ·obtain ⟨c6b0, c6b1⟩ := bn_ c6;obtain rfl := sI_ H;try go_wp2
     replace HB := A_ (bD9 HB.out);obtain ⟨p634, q634, ad634, e634, hw634_0, hw634_1, hx634_0, hx634_1⟩ := aW36_ HB.out HR0.out x5_1;cases e634;refine start_ (n := 8) (S := fun w' => w'.cell? (ad634.add ((x5_1).toNat * 2)) = some (.string ((rd_T36 l0 x5_1).f0)) ∧ w'.cell? ⟨(ad634.add ((x5_1).toNat * 2)).block, (ad634.add ((x5_1).toNat * 2)).off + 1, none⟩ = some (.string ((rd_T36 l0 x5_1).f1))) (ds := []) (tS 8 0) (by kernel_rfl) rfl rfl ⟨(cB_ HB.out hw634_0), (cB_ HB.out hw634_1)⟩ (fun hHeld => ?_); refine with_tabW laws_heldAttrS.tab4 laws_heldAttrS.bits4 (fun HT_ HW_ => ?_);generalize wr.drew = w17 at HB hx634_0 hx634_1 hHeld ⊢;iterate 4 refine pqT_ ?_
     refine pgT_ 5 (tB 8 47) ?_;refine tgT_ 4 (tS 8 6) rfl (by rintro w' ⟨s0, s1⟩; go_simp; with_reducible rfl) ?_;refine n1T_ 6 (tS 8 7) rfl fun K hK => ?_
     refine gS_ Tryz.func98 #[.int .i64 x1_1] ?_;with_reducible refine (laws_markText.calls k1 x1_1 t635 _ A5.out).mono ?_
     rintro e w18 ⟨rfl, hb⟩;refine ⟨_, rfl, ?_⟩;replace HB := bS_ hb;clear hb;refine hK.out _ _ ⟨(cB_ HB.out hw634_0), (cB_ HB.out hw634_1)⟩ (fun hHeld => ?_);clear hK K;refine nm_ ?_;refine pqT_ ?_;refine done_ (done_of HT_.out (by kernel_rfl)) ?_;try go_wp2
     go_ret
     exact ⟨e1_, hB_⟩
   ·have c3b0 := dF_ c3;clear c3;obtain rfl := sI_ H;go_wp2
    go_ret
    exact ⟨e1_, hB_⟩
mutual
def heldE (k : Nat) : S43 → Int → Option Int
 | ⟨kd, sp, nm, at_, tx, ks⟩, n => if kd = n then (if sp = wrap64 (n + 1) then (laws_markText.f k (wrap64 (wrap64 (n + 1) + 1))).bind fun t2 => (if nm = t2 then (laws_heldAttrS.f k at_ (wrap64 (wrap64 (wrap64 (n + 1) + 1) + 1))).bind fun q => (if 0 ≤ q then (laws_markText.f k q).bind fun t4 => (if tx = t4 then (heldL k ks (wrap64 (q + 1))).bind fun r => (if 0 ≤ r then some r else none) else none) else none) else none) else none) else none
def heldL (k : Nat) : List S43 → Int → Option Int
 | [], n => some n
 | x :: xs, n => (heldE k x n).bind fun r => heldL k xs r
end
theorem drop_hE (l : List S43) (j : Int) (h0 : 0 ≤ j) (h1 : j < (l.length : Int)) : l.drop j.toNat = rd_T43 l j :: l.drop (j + 1).toNat := by
 have hlt : j.toNat < l.length := om_;rw [List.drop_eq_getElem_cons hlt, show (j + 1).toNat = j.toNat + 1 by omega];unfold rd_T43;rw [List.getD_eq_getElem?_getD, List.getElem?_eq_getElem hlt, Option.getD_some]
theorem rd_hE (l : List S43) (j : Int) (h0 : 0 ≤ j) (h1 : j < (l.length : Int)) : SizeOf.sizeOf (rd_T43 l j) < SizeOf.sizeOf l := by
 have hlt : j.toNat < l.length := om_;have : rd_T43 l j = l[j.toNat] := by unfold rd_T43; rw [List.getD_eq_getElem?_getD, List.getElem?_eq_getElem hlt, Option.getD_some]
 rw [this];exact List.sizeOf_lt_of_mem (List.getElem_mem hlt)
theorem iteE {α : Type} {p : Prop} [Decidable p] {a : Option α} {r : α} (h : (if p then a else none) = some r) : p ∧ a = some r := by
 by_cases c : p
 ·rw [if_pos c] at h; exact ⟨c, h⟩
 ·rw [if_neg c] at h; cases h
theorem heldElS_H : ∀ (m k : Nat) (xs : List S43) (n r : Int) (A : Option Addr) (c : Nat) (w0 w : World), SizeOf.sizeOf xs < m → Kd.C k43 w0 A xs.length xs → Below w0.heap.size w0 w → heldL k xs n = some r →
  Calls Tryz.prog 42 #[.slice A xs.length c, .int .i64 n] w fun e w' => e = .returned (.int .i64 r) ∧ Below w0.heap.size w0 w' := by
 intro m;induction m with
 | zero => intro k xs n r A c w0 w hm; omega
 | succ m ih =>
 intro k xs n r A c w0 w hm hR hB h;have HSZ := A_ hm;have HR := A_ hR;have HML := A_ (Kd.C_max hR);have H := A_ h;have HB := A_ hB;clear hm hR hB h;go_enter Tryz.func42, Tryz.ntmps42
 go_wp2
 go_loopg [1, 5] xs.length (fun kq v1 v5 wr => ∃ (nj j : Int), v1 = .int .i64 nj ∧ v5 = .int .i64 j ∧ 0 ≤ j ∧ j ≤ (xs.length : Int) ∧ As9 (kq = xs.length - j.toNat) ∧ As9 (heldL k (xs.drop j.toNat) nj = some r) ∧ As9 (Below w0.heap.size w0 wr))
 case atStart => exact ⟨n, 0, rfl, rfl, Int.le_refl _, om_, ⟨rfl⟩, H, HB⟩
 case round =>
  clear H HB;obtain ⟨nj, j, rfl, rfl, j0, hj, HEQ, HA, HB⟩ := hrel;by_cases hlt : j < (xs.length : Int)
  ·have h := HA.out;rw [drop_hE xs j j0 hlt, heldL] at h;obtain ⟨n5, hx5, h⟩ := oB_ h;have HN := A_ h;have hsz := rd_hE xs j j0 hlt;obtain ⟨ad, A3', c3', A5', c5', eA, y0, y1, y2, y3, y4, y5, l3, g3, l5, g5⟩ := at_T43 HR.out j j0 hlt;subst eA;generalize rd_T43 xs j = x at hx5 hsz y0 y1 y2 y3 y4 y5 l3 g3 l5 g5;obtain ⟨kd, sp, nm, at_, tx, ks⟩ := x;dsimp only at y0 y1 y2 y3 y4 y5 l3 g3 l5 g5;rw [heldE] at hx5;obtain ⟨e1, z1⟩ := iteE hx5;subst e1;obtain ⟨e2, z2⟩ := iteE z1;subst e2;obtain ⟨t2, h2, z3⟩ := oB_ z2;obtain ⟨e3, z4⟩ := iteE z3;subst e3;obtain ⟨q, h3, z5⟩ := oB_ z4;obtain ⟨q0, z6⟩ := iteE z5;obtain ⟨t4, h4, z7⟩ := oB_ z6;obtain ⟨e4, z8⟩ := iteE z7;subst e4;obtain ⟨n6, h5, z9⟩ := oB_ z8;obtain ⟨r0, z10⟩ := iteE z9;obtain rfl := sI_ z10;have HS5 : As9 (SizeOf.sizeOf ks < m) := ⟨by have h1 := HSZ.out; simp at hsz; omega⟩;have A2 := A_ h2;have A3 := A_ h3;have A4 := A_ h4;have A5 := A_ h5;have G3 := A_ g3;have G5 := A_ g5;have L3 := A_ l3;have p7 := eq_true j0;have q7 := eq_true hlt;have q8 : decide (q < 0) = false := dF_ om_;have q9 : decide (n6 < 0) = false := dF_ om_;have q8' := eq_false (show ¬ q < 0 by omega);have q9' := eq_false (show ¬ n6 < 0 by omega);have hwr : wrap64 (j + 1) = j + 1 := by have := HML.out; unfold wrap64; omega
   have x0 := y0;have x1 := y1;have x2 := y2;have x3 := y3;have x4 := y4;have x5 := y5;replace x0 := (HB.out.cell (World.block_lt_of_cell? w0 _ y0)).trans y0;replace x1 := (HB.out.cell (World.block_lt_of_cell? w0 _ y1)).trans y1;replace x2 := (HB.out.cell (World.block_lt_of_cell? w0 _ y2)).trans y2;replace x3 := (HB.out.cell (World.block_lt_of_cell? w0 _ y3)).trans y3;replace x4 := (HB.out.cell (World.block_lt_of_cell? w0 _ y4)).trans y4;replace x5 := (HB.out.cell (World.block_lt_of_cell? w0 _ y5)).trans y5;clear h hx5 z1 z2 z3 z4 z5 z6 z7 z8 z9 z10 h2 h3 h4 h5 g3 g5 l3 l5 hsz q0 r0;go_upto_region 10 with fail
   have HB1 := A_ (bD9 HB.out);have HC1 := A_ ((HB1.out.cell (World.block_lt_of_cell? w0 _ y2)).trans y2);refine start_ (n := 8) (S := fun w' => w'.cell? ⟨(ad.add (j.toNat * 6)).block, (ad.add (j.toNat * 6)).off + 2, none⟩ = some (.string nm)) (ds := []) (tS 8 0) (by kernel_rfl) rfl rfl HC1.out (fun hHeld => ?_);generalize World.drew _ = wq0 at HB1 HC1 hHeld ⊢;iterate 4 refine pq_ ?_
   refine tq_ rfl (by rintro w' s0; go_simp; with_reducible rfl) ?_;refine pq_ ?_;refine n1_ 6 (tS 8 7) rfl fun K hK => ?_
   refine gS_ Tryz.func98 #[.int .i64 (wrap64 (wrap64 (kd + 1) + 1))] ?_;with_reducible refine (laws_markText.calls k _ nm _ A2.out).mono ?_
   rintro e wq6 ⟨rfl, hb⟩;refine ⟨_, rfl, ?_⟩;have HB4 := A_ (below_step HB1.out hb);clear hb HB1 HC1;refine hK.out _ _ ((HB4.out.cell (World.block_lt_of_cell? w0 _ y2)).trans y2) (fun hHeld => ?_);clear hK K;refine nm_ ?_;refine pq_ ?_;refine done_ (by kernel_rfl) ?_;replace x0 := (HB4.out.cell (World.block_lt_of_cell? w0 _ y0)).trans y0;replace x1 := (HB4.out.cell (World.block_lt_of_cell? w0 _ y1)).trans y1;replace x2 := (HB4.out.cell (World.block_lt_of_cell? w0 _ y2)).trans y2;replace x3 := (HB4.out.cell (World.block_lt_of_cell? w0 _ y3)).trans y3;replace x4 := (HB4.out.cell (World.block_lt_of_cell? w0 _ y4)).trans y4;replace x5 := (HB4.out.cell (World.block_lt_of_cell? w0 _ y5)).trans y5;go_upto_region 16 with (first | (go_at_call 90; (with_reducible refine (laws_heldAttrS.calls k A3' c3' at_ _ q _ (Kd.C_below G3.out HB4.out) L3.out A3.out).mono ?_); rintro e w5 ⟨rfl, hb⟩; have HB5 := A_ (below_step HB4.out hb); clear hb HB4 A3))
   have HB6 := A_ (bD9 HB5.out);have HC6 := A_ ((HB6.out.cell (World.block_lt_of_cell? w0 _ y4)).trans y4);refine start_ (n := 8) (S := fun w' => w'.cell? ⟨(ad.add (j.toNat * 6)).block, (ad.add (j.toNat * 6)).off + 4, none⟩ = some (.string tx)) (ds := []) (tS 8 0) (by kernel_rfl) rfl rfl HC6.out (fun hHeld => ?_);generalize World.drew _ = wu0 at HB6 HC6 hHeld ⊢;iterate 4 refine pq_ ?_
   refine tq_ rfl (by rintro w' s0; go_simp; with_reducible rfl) ?_;refine pq_ ?_;refine n1_ 6 (tS 8 7) rfl fun K hK => ?_
   refine gS_ Tryz.func98 #[.int .i64 q] ?_;with_reducible refine (laws_markText.calls k _ tx _ A4.out).mono ?_
   rintro e wu6 ⟨rfl, hb⟩;refine ⟨_, rfl, ?_⟩;have HB7 := A_ (below_step HB6.out hb);clear hb HB6 HC6;refine hK.out _ _ ((HB7.out.cell (World.block_lt_of_cell? w0 _ y4)).trans y4) (fun hHeld => ?_);clear hK K;refine nm_ ?_;refine pq_ ?_;refine done_ (by kernel_rfl) ?_;replace x0 := (HB7.out.cell (World.block_lt_of_cell? w0 _ y0)).trans y0;replace x1 := (HB7.out.cell (World.block_lt_of_cell? w0 _ y1)).trans y1;replace x2 := (HB7.out.cell (World.block_lt_of_cell? w0 _ y2)).trans y2;replace x3 := (HB7.out.cell (World.block_lt_of_cell? w0 _ y3)).trans y3;replace x4 := (HB7.out.cell (World.block_lt_of_cell? w0 _ y4)).trans y4;replace x5 := (HB7.out.cell (World.block_lt_of_cell? w0 _ y5)).trans y5;go_wp2_with (first | (go_at_call 42; (with_reducible refine (ih k ks _ n6 A5' c5' w0 _ HS5.out G5.out HB7.out A5.out).mono ?_); rintro e w8 ⟨rfl, hb⟩; have HB8 := A_ hb; clear hb HB7 A5))
   go_roundg (xs.length - (j + 1).toNat)
   case measure => have := HEQ.out; omega
   case rel => exact ⟨n6, j + 1, rfl, by rw [hwr], om_, om_, ⟨rfl⟩, HN, HB8⟩
  ·have h := HA.out;rw [List.drop_eq_nil_of_le om_, heldL] at h;obtain rfl := sI_ h;clear h HA HEQ;have q7 := eq_false hlt;go_wp2
   go_ret
   exact ⟨rfl, HB.out⟩
theorem eqElS_H (k : Nat) (xs : List S43) (A B : Option Addr) (c d : Nat) (w : World) (he : eqL k xs) (hA : Kd.C k43 w A xs.length xs) (hB : Kd.C k43 w B xs.length xs) :
  Calls Tryz.prog 40 #[.slice A xs.length c, .slice B xs.length d] w fun e w' => e = .returned (.bool true) ∧ Below w.heap.size w w' :=
 (eqs_all k (SizeOf.sizeOf xs + 1)).1 xs A B c d w w (Nat.lt_succ_self _) he hA hB (Below.refl _ _)
theorem heldElS_N (k : Nat) (xs : List S43) (n r : Int) (A : Option Addr) (c n0 : Nat) (w0 w : World) (e : n0 = xs.length) (hR : Kd.C k43 w0 A xs.length xs) (hB : Below w0.heap.size w0 w) (h : heldL k xs n = some r) :
  Calls Tryz.prog 42 #[.slice A n0 c, .int .i64 n] w fun e w' => e = .returned (.int .i64 r) ∧ Below w0.heap.size w0 w' := by
 subst e;exact heldElS_H (SizeOf.sizeOf xs + 1) k xs n r A c w0 w (Nat.lt_succ_self _) hR hB h
def LwR (k : Nat) (a0 : BA) : Prop := 1048576 < (a0.size : Int) ∨ (¬ 1048576 < (a0.size : Int) ∧ ∃ (q : List S43) (b : Bool), spec_Read.f k a0 = some (q, b) ∧ impl_Read.f k a0 = some (q, b) ∧ eqL k q ∧ ∀ gl : List G43, erL gl = q → ∃ (m : Int) (gl2 : List G43), mkL k gl 1 = some (m, gl2) ∧ heldL k (erL gl2) 1 = some m ∧ 0 ≤ m)
theorem laws_FnExactRead.calls (k : Nat) (a0 : BA) (w : World) (hL : LibOk w) (hE : LibErr w) (h : LwR k a0) :
  Calls Tryz.prog 6 #[.string a0] w fun e w' => e = .returned (.bool true) ∧ Below w.heap.size w w' := by
 have hu := Tryz.underlying43;rcases h with h | ⟨hn, q, b, hs, hi, he, hmk⟩
 ·have b0 : decide (1048576 < (a0.size : Int)) = true := dE_ h;have b1 : decide (1048576 < a0.size) = true := dE_ om_;go_enter Tryz.func6, Tryz.ntmps6
  go_wp2
  go_ret
  exact ⟨rfl, Below.refl _ _⟩
 have b0 : decide (1048576 < (a0.size : Int)) = false := dF_ hn;have b1 : decide (1048576 < a0.size) = false := dF_ om_;have HLL := A_ hL;have HEE := A_ hE;have HS := A_ hs;have HI := A_ hi;have HQ := A_ he;have HMK := A_ hmk;clear hL hE hn hs hi he hmk;go_enter Tryz.func6, Tryz.ntmps6
 go_upto_region 5 with (first | (go_at_call 38; (with_reducible refine (spec_Read.calls k a0 q b _ HS.out).mono ?_); rintro e w1 ⟨v0, rfl, hr, hb⟩; obtain ⟨A, c, rfl⟩ := Kd.R_slice hr; have SC := A_ (Kd.R_reads' hr).2.2; have HB1 := A_ hb; clear hr hb) | (go_at_call 39; (with_reducible refine (impl_Read.callsG k a0 q b _ (LibOk.below HLL.out HB1.out) (LibErr.below HEE.out HB1.out) HI.out).mono ?_); rintro e w2 ⟨v1, gl, rfl, hq, hnd, hr, hb⟩; subst hq; obtain ⟨B, d, rfl⟩ := Kd.R_slice (kG_erR hr); have GR2 := A_ hr; have HND := A_ hnd; have HB2 := A_ hb; have SC2 := A_ (Kd.C_below SC.out hb); have GC2 := A_ (Kd.R_reads' (kG_erR hr)).2.2; clear hr hnd hb))
 obtain ⟨m, gl2, hmk, hhd, m0⟩ := HMK.out gl rfl;have HO := A_ hmk;have HD := A_ hhd;have q8 : decide (m < 0) = false := dF_ om_;have q8' := eq_false (show ¬ m < 0 by omega);clear hmk hhd m0 HMK;go_upto_region 15 with (first | (go_at_call 40; (with_reducible refine (eqElS_H k (erL gl) B A d c _ HQ.out GC2.out SC2.out).mono ?_); rintro e w3 ⟨rfl, hb⟩; have GR3 := A_ (Kd.R_below GR2.out hb); have HB3 := A_ (below_step HB2.out hb); clear hb GR2 HB2 SC2 GC2) | (go_at_call 41; (with_reducible refine (markElS_G (SizeOf.sizeOf gl + 1) k gl 1 m gl2 (fun _ => True) _ w1 _ (Nat.lt_succ_self _) HB3.out GR3.out HND.out HO.out).mono ?_); rintro e w4 ⟨rfl, hr, hb, -⟩; have GR4 := A_ (Kd.R_reads' (kG_erR hr)); have HB4 := A_ hb; clear hr hb GR3 HB3) | (go_at_call 42; (with_reducible refine (heldElS_N k (erL gl2) 1 m B d _ w4 _ GR4.out.1 GR4.out.2.2 (Below.refl _ _) HD.out).mono ?_); rintro e w5 ⟨rfl, hb⟩; have HB5 := A_ (below_step HB4.out hb); have HB45 := A_ hb; clear hb))
 have HBw := A_ (below_step HB1.out HB5.out);go_wp2_with (first | (go_at_call 39; (with_reducible refine (impl_Read.callsG k a0 (erL gl) b _ (LibOk.below HLL.out HBw.out) (LibErr.below HEE.out HBw.out) HI.out).mono ?_); rintro e w6 ⟨v1, gm, rfl, hq, -, hr, hb⟩; have hr' := kG_erR hr; rw [hq] at hr'; obtain ⟨D, d2, rfl⟩ := Kd.R_slice hr'; have GC6 := A_ (Kd.R_reads' hr').2.2; have SC6 := A_ (Kd.C_below SC.out (below_step HB5.out hb)); have HB46 := A_ (below_step HB45.out hb); clear hr hr' hb hq HB5 HB45) | (go_at_call 40; (with_reducible refine (eqElS_H k (erL gl) D A d2 c _ HQ.out GC6.out SC6.out).mono ?_); rintro e w7 ⟨rfl, hb⟩; have HB47 := A_ (below_step HB46.out hb); clear hb GC6 SC6 HB46) | (go_at_call 42; (with_reducible refine (heldElS_N k (erL gl2) 1 m B d _ w4 _ GR4.out.1 GR4.out.2.2 HB47.out HD.out).mono ?_); rintro e w8 ⟨rfl, hb⟩; have HB8 := A_ (below_step (below_step HB1.out HB4.out) hb); clear hb))
 go_ret
 exact ⟨rfl, HB8.out⟩
def laws_FnExactRead.Pure : Prop := ∀ (a0 : BA), a0.size ≤ 140737488351232 → ∃ k, LwR k a0
theorem laws_FnExactRead.walk (P : laws_FnExactRead.Pure) (a0 : BA) (w : World) (w0 : a0.size ≤ 140737488351232) (hL : LibOk w) (hE : LibErr w) :
  Calls Tryz.prog 6 #[.string a0] w fun e w' => e = .returned (.bool true) ∧ Below w.heap.size w w' := by
 obtain ⟨k, h⟩ := P a0 w0;exact laws_FnExactRead.calls k a0 w hL hE h
theorem eqA36 (d : Nat) (w : World) (x0 y0 : BA) (x1 y1 : BA) :
  (Op.equalIn (d + 2) 36 (.agg #[.string x0, .string x1]) (.agg #[.string y0, .string y1])).run Tryz.prog w = .ok (x0.toList == y0.toList && (x1.toList == y1.toList)) w := by
 refine eqA_of Tryz.underlying36 (by kernel_rfl) ?_;refine eqf_cons (by rfl) (by go_simp; rfl) (by go_simp; rfl) (by go_simp) ?_;exact eqf_last (by rfl) (by go_simp; rfl) (by go_simp; rfl) (by go_simp)
attribute [local go_sem high] eqA36
end Go.Proofs.YtkmmoheeoblmnaaGreatDoor.A
