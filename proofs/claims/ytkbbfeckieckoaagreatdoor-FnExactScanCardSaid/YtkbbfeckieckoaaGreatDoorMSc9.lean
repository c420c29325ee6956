-- joined by wip/tools/shake.py
import Derived.Test.YtkbbfeckieckoaaGreatDoorVScW9
import Derived.Test.YtkbbfeckieckoaaGreatDoorMSc0
import Derived.Test.YtkbbfeckieckoaaGreatDoorMSc8
import Derived.Test.YtkbbfeckieckoaaGreatDoorMSc4
import Derived.Test.YtkbbfeckieckoaaGreatDoorMSc1
set_option maxHeartbeats 16000000
set_option maxRecDepth 100000
namespace Go.Proofs.YtkbbfeckieckoaaGreatDoor.A
open Go.RowKit Go.Proofs.YtkbbfeckieckoaaGreatDoorW.PrintWords Go.Proofs.YtkbbfeckieckoaaGreatDoorW.PrintLast Go.Proofs.YtkbbfeckieckoaaGreatDoorW.PrintMore
attribute [local go_sem] max2_int min2_int max_two min_two max_three min_three max_four min_four
set_option linter.unusedVariables false
set_option linter.unusedSimpArgs false
def heldT (k : Nat) : S43 → Int → Option Int
 | ⟨kd, nm, at_, tx, sf⟩, n => if kd = n then (laws_markText.f k (wrap64 (n + 1))).bind fun t1 => (if nm = t1 then (laws_heldAttrS.f k at_ (wrap64 (wrap64 (n + 1) + 1))).bind fun q => (if 0 ≤ q then (laws_markText.f k q).bind fun t3 => (if tx = t3 then (if sf = decide (Int.tmod (wrap64 (q + 1)) 3 = 0) then some (wrap64 (wrap64 (q + 1) + 1)) else none) else none) else none) else none) else none
def heldTL (k : Nat) : List S43 → Int → Option Int
 | [], n => some n
 | x :: xs, n => (heldT k x n).bind fun r => heldTL k xs r
def laws_heldTokenS.f (k : Nat) (xs : List S43) (n : Int) : Option Int := heldTL k xs n
theorem drop_hT (l : List S43) (j : Int) (h0 : 0 ≤ j) (h1 : j < (l.length : Int)) : l.drop j.toNat = rd_T43 l j :: l.drop (j + 1).toNat := by
 have hlt : j.toNat < l.length := om_;rw [List.drop_eq_getElem_cons hlt, show (j + 1).toNat = j.toNat + 1 by omega];unfold rd_T43;rw [List.getD_eq_getElem?_getD, List.getElem?_eq_getElem hlt, Option.getD_some]
theorem iteT {α : Type} {p : Prop} [Decidable p] {a : Option α} {r : α} (h : (if p then a else none) = some r) : p ∧ a = some r := by
 by_cases c : p
 ·rw [if_pos c] at h; exact ⟨c, h⟩
 ·rw [if_neg c] at h; cases h
theorem laws_heldTokenS.calls (k : Nat) (A : Option Addr) (c : Nat) (xs : List S43) (n r : Int) (w : World) (hR : Kd.C k43 w A xs.length xs) (hc : xs.length ≤ c) (h : laws_heldTokenS.f k xs n = some r) :
  Calls Tryz.prog 9 #[.slice A xs.length c, .int .i64 n] w fun e w' => e = .returned (.int .i64 r) ∧ Below w.heap.size w w' := by
 unfold laws_heldTokenS.f at h;have HR := A_ hR;have HML := A_ (Kd.C_max hR);have H := A_ h;have HB := A_ (Below.refl w.heap.size w);clear hR hc h;go_enter Tryz.func9, Tryz.ntmps9
 go_wp2
 go_loopg [1, 5] xs.length (fun kq v1 v5 wr => ∃ (nj j : Int), v1 = .int .i64 nj ∧ v5 = .int .i64 j ∧ 0 ≤ j ∧ j ≤ (xs.length : Int) ∧ As9 (kq = xs.length - j.toNat) ∧ As9 (heldTL k (xs.drop j.toNat) nj = some r) ∧ As9 (Below w.heap.size w wr))
 case atStart => exact ⟨n, 0, rfl, rfl, Int.le_refl _, om_, ⟨rfl⟩, H, HB⟩
 case round =>
  clear H HB;obtain ⟨nj, j, rfl, rfl, j0, hj, HEQ, HA, HB⟩ := hrel;by_cases hlt : j < (xs.length : Int)
  ·have h := HA.out;rw [drop_hT xs j j0 hlt, heldTL] at h;obtain ⟨n5, hx5, h⟩ := oB_ h;have HN := A_ h;obtain ⟨ad, A2', c2', eA, y0, y1, y2, y3, y4, l2, g2⟩ := at_T43 HR.out j j0 hlt;subst eA;generalize rd_T43 xs j = x at hx5 y0 y1 y2 y3 y4 l2 g2;obtain ⟨kd, nm, at_, tx, sf⟩ := x;dsimp only at y0 y1 y2 y3 y4 l2 g2;rw [heldT] at hx5;obtain ⟨e1, z1⟩ := iteT hx5;subst e1;obtain ⟨t1, h1, z2⟩ := oB_ z1;obtain ⟨e2, z3⟩ := iteT z2;subst e2;obtain ⟨q, h2, z4⟩ := oB_ z3;obtain ⟨q0, z5⟩ := iteT z4;obtain ⟨t3, h3, z6⟩ := oB_ z5;obtain ⟨e3, z7⟩ := iteT z6;subst e3;obtain ⟨e4, z8⟩ := iteT z7;have e5 := sI_ z8;have A1 := A_ h1;have A2 := A_ h2;have A3 := A_ h3;have G2 := A_ g2;have L2 := A_ l2;have E4 := A_ e4;have E5 := A_ e5;have p7 := eq_true j0;have q7 := eq_true hlt;have q8 : decide (q < 0) = false := dF_ om_;have q8' := eq_false (show ¬ q < 0 by omega);have hwr : wrap64 (j + 1) = j + 1 := by have := HML.out; unfold wrap64; omega
   have x0 := y0;have x1 := y1;have x2 := y2;have x3 := y3;have x4 := y4;replace x0 := cB_ HB.out y0;replace x1 := cB_ HB.out y1;replace x2 := cB_ HB.out y2;replace x3 := cB_ HB.out y3;replace x4 := cB_ HB.out y4;clear h hx5 z1 z2 z3 z4 z5 z6 z7 z8 h1 h2 h3 g2 l2 q0 e4 e5;go_upto_region 7 with fail
   have HB1 := A_ (bD9 HB.out);have HC1 := A_ (cB_ HB1.out y1);refine start_ (n := 8) (S := fun w' => w'.cell? ⟨(ad.add (j.toNat * 5)).block, (ad.add (j.toNat * 5)).off + 1, none⟩ = some (.string nm)) (ds := []) (tS 8 0) (by kernel_rfl) rfl rfl HC1.out (fun hHeld => ?_);generalize World.drew _ = wq0 at HB1 HC1 hHeld ⊢;iterate 4 refine pq_ ?_
   refine tq_ rfl (by rintro w' s0; go_simp; with_reducible rfl) ?_;refine pq_ ?_;refine n1_ 6 (tS 8 7) rfl fun K hK => ?_
   refine gS_ Tryz.func25 #[.int .i64 (wrap64 (kd + 1))] ?_;with_reducible refine (laws_markText.calls k _ nm _ A1.out).mono ?_
   rintro e wq6 ⟨rfl, hb⟩;refine ⟨_, rfl, ?_⟩;have HB4 := A_ (below_step HB1.out hb);clear hb HB1 HC1;refine hK.out _ _ (cB_ HB4.out y1) (fun hHeld => ?_);clear hK K;refine nm_ ?_;refine pq_ ?_;refine done_ (by kernel_rfl) ?_;replace x0 := cB_ HB4.out y0;replace x1 := cB_ HB4.out y1;replace x2 := cB_ HB4.out y2;replace x3 := cB_ HB4.out y3;replace x4 := cB_ HB4.out y4;go_upto_region 13 with (first | (go_at_call 27; (with_reducible refine (laws_heldAttrS.calls k A2' c2' at_ _ q _ (Kd.C_below G2.out HB4.out) L2.out A2.out).mono ?_); rintro e w5 ⟨rfl, hb⟩; have HB5 := A_ (below_step HB4.out hb); clear hb HB4 A2))
   have HB6 := A_ (bD9 HB5.out);have HC6 := A_ (cB_ HB6.out y3);refine start_ (n := 8) (S := fun w' => w'.cell? ⟨(ad.add (j.toNat * 5)).block, (ad.add (j.toNat * 5)).off + 3, none⟩ = some (.string tx)) (ds := []) (tS 8 0) (by kernel_rfl) rfl rfl HC6.out (fun hHeld => ?_);generalize World.drew _ = wu0 at HB6 HC6 hHeld ⊢;iterate 4 refine pq_ ?_
   refine tq_ rfl (by rintro w' s0; go_simp; with_reducible rfl) ?_;refine pq_ ?_;refine n1_ 6 (tS 8 7) rfl fun K hK => ?_
   refine gS_ Tryz.func25 #[.int .i64 q] ?_;with_reducible refine (laws_markText.calls k _ tx _ A3.out).mono ?_
   rintro e wu6 ⟨rfl, hb⟩;refine ⟨_, rfl, ?_⟩;have HB7 := A_ (below_step HB6.out hb);clear hb HB6 HC6;refine hK.out _ _ (cB_ HB7.out y3) (fun hHeld => ?_);clear hK K;refine nm_ ?_;refine pq_ ?_;refine done_ (by kernel_rfl) ?_;replace x0 := cB_ HB7.out y0;replace x1 := cB_ HB7.out y1;replace x2 := cB_ HB7.out y2;replace x3 := cB_ HB7.out y3;replace x4 := cB_ HB7.out y4;by_cases hz : Int.tmod (wrap64 (q + 1)) 3 = 0
   case pos =>
    obtain rfl : sf = true := E4.out.trans (dE_ hz);have hz1 := eq_true hz;have hz2 : (Int.tmod (wrap64 (q + 1)) 3 == 0) = true := bQ_ hz;go_wp2
    go_roundg (xs.length - (j + 1).toNat)
    case measure => have := HEQ.out; omega
    case rel => exact ⟨n5, j + 1, by rw [← E5.out], by rw [hwr], om_, om_, ⟨rfl⟩, HN, HB7⟩
   case neg =>
    obtain rfl : sf = false := E4.out.trans (dF_ hz);have hz1 := eq_false hz;have hz2 : (Int.tmod (wrap64 (q + 1)) 3 == 0) = false := bN_ hz;go_wp2
    go_roundg (xs.length - (j + 1).toNat)
    case measure => have := HEQ.out; omega
    case rel => exact ⟨n5, j + 1, by rw [← E5.out], by rw [hwr], om_, om_, ⟨rfl⟩, HN, HB7⟩
  ·have h := HA.out;rw [List.drop_eq_nil_of_le om_, heldTL] at h;obtain rfl := sI_ h;clear h HA HEQ;have q7 := eq_false hlt;go_wp2
   go_ret
   exact ⟨rfl, HB.out⟩
theorem eqTokenS_H (k : Nat) (xs : List S43) (A B : Option Addr) (c d n0 : Nat) (w : World) (e : n0 = xs.length) (he : laws_eqTokenS.f k xs xs = some true) (hA : Kd.C k43 w A xs.length xs) (hB : Kd.C k43 w B xs.length xs) (hc : xs.length ≤ c) (hd : xs.length ≤ d) :
  Calls Tryz.prog 7 #[.slice A n0 c, .slice B n0 d] w fun e w' => e = .returned (.bool true) ∧ Below w.heap.size w w' := by
 subst e;exact laws_eqTokenS.calls k A c xs B d xs true w hA hc hB hd he
theorem heldTokenS_N (k : Nat) (xs : List S43) (n r : Int) (A : Option Addr) (c n0 : Nat) (w0 w : World) (e : n0 = xs.length) (hR : Kd.C k43 w0 A xs.length xs) (hc : xs.length ≤ c) (hB : Below w0.heap.size w0 w) (h : laws_heldTokenS.f k xs n = some r) :
  Calls Tryz.prog 9 #[.slice A n0 c, .int .i64 n] w fun e w' => e = .returned (.int .i64 r) ∧ Below w0.heap.size w0 w' := by
 subst e;exact (laws_heldTokenS.calls k A c xs n r w (Kd.C_below hR hB) hc h).mono (fun _ _ h => ⟨h.1, below_step hB h.2⟩)
def LwT (k : Nat) (a0 : BA) : Prop := 1048576 < (a0.size : Int) ∨ (¬ 1048576 < (a0.size : Int) ∧ ∃ (q : List S43), spec_Scan.f k a0 = some q ∧ impl_Scan.f k a0 = some q ∧ laws_eqTokenS.f k q q = some true ∧ ∀ gl : List GT, gl.map erT = q → ∃ (m : Int) (gl2 : List GT), mkTL k gl 1 = some (m, gl2) ∧ laws_heldTokenS.f k (gl2.map erT) 1 = some m ∧ 0 ≤ m)
theorem laws_FnExactScan.calls (k : Nat) (a0 : BA) (w : World) (hL : LibOk w) (h : LwT k a0) :
  Calls Tryz.prog 3 #[.string a0] w fun e w' => e = .returned (.bool true) ∧ Below w.heap.size w w' := by
 have hu := Tryz.underlying43;rcases h with h | ⟨hn, q, hs, hi, he, hmk⟩
 ·have b0 : decide (1048576 < (a0.size : Int)) = true := dE_ h;have b1 : decide (1048576 < a0.size) = true := dE_ om_;go_enter Tryz.func3, Tryz.ntmps3
  go_wp2
  go_ret
  exact ⟨rfl, Below.refl _ _⟩
 have b0 : decide (1048576 < (a0.size : Int)) = false := dF_ hn;have b1 : decide (1048576 < a0.size) = false := dF_ om_;have HLL := A_ hL;have HS := A_ hs;have HI := A_ hi;have HQ := A_ he;have HMK := A_ hmk;clear hL hn hs hi he hmk;go_enter Tryz.func3, Tryz.ntmps3
 go_upto_region 5 with (first | (go_at_call 5; (with_reducible refine (spec_Scan.calls k a0 q _ HS.out).mono ?_); rintro e w1 ⟨v0, rfl, hr, hb⟩; obtain ⟨A, c, rfl⟩ := Kd.R_slice hr; have SC := A_ (Kd.R_reads' hr).2.2; have KC := A_ (Kd.R_reads' hr).2.1; have HB1 := A_ hb; clear hr hb) | (go_at_call 6; (with_reducible refine (impl_Scan.callsG k a0 q _ (LibOk.below HLL.out HB1.out) HI.out).mono ?_); rintro e w2 ⟨v1, gl, rfl, hq, hnd, hr, hb⟩; subst hq; obtain ⟨B, d, rfl⟩ := Kd.R_slice hr; have G15 := A_ hr; have HND := A_ hnd; have HB2 := A_ hb; have SC2 := A_ (Kd.C_below SC.out hb); have GC2 := A_ (Kd.R_reads' (kGT_er hr)).2.2; have KD : As9 ((gl.map erT).length ≤ d) := ⟨by have h1_ := (Kd.R_reads' hr).2.1; rw [List.length_map]; exact h1_⟩; clear hr hnd hb))
 obtain ⟨m, gl2, hmk, hhd, m0⟩ := HMK.out gl rfl;have HO := A_ hmk;have HD := A_ hhd;have q8 : decide (m < 0) = false := dF_ om_;have q8' := eq_false (show ¬ m < 0 by omega);clear hmk hhd m0 HMK;go_upto_region 15 with (first | (go_at_call 7; (with_reducible refine (eqTokenS_H k (gl.map erT) B A d c _ _ (by rw [List.length_map]) HQ.out GC2.out SC2.out KD.out KC.out).mono ?_); rintro e w3 ⟨rfl, hb⟩; have GR3 := A_ (Kd.R_below G15.out hb); have HB3 := A_ (below_step HB2.out hb); clear hb G15 HB2 SC2 GC2) | (go_at_call 8; (with_reducible refine (markTokenS_G k gl 1 m gl2 (fun _ => True) _ w1 _ HB3.out GR3.out HND.out HO.out).mono ?_); rintro e w4 ⟨rfl, hr, hb⟩; have GR4 := A_ (Kd.R_reads' (kGT_er hr)); have HB4 := A_ hb; clear hr hb GR3 HB3) | (go_at_call 9; (with_reducible refine (heldTokenS_N k (gl2.map erT) 1 m B d _ w4 _ GR4.out.1 GR4.out.2.2 (by have h1_ := GR4.out.1; have h2_ := GR4.out.2.1; omega) (Below.refl _ _) HD.out).mono ?_); rintro e w5 ⟨rfl, hb⟩; have HB5 := A_ (below_step HB4.out hb); have HB45 := A_ hb; clear hb))
 have HBw := A_ (below_step HB1.out HB5.out);go_wp2_with (first | (go_at_call 6; (with_reducible refine (impl_Scan.callsG k a0 (gl.map erT) _ (LibOk.below HLL.out HBw.out) HI.out).mono ?_); rintro e w6 ⟨v1, gm, rfl, hq, -, hr, hb⟩; have hr' := kGT_er hr; rw [hq] at hr'; obtain ⟨D, d2, rfl⟩ := Kd.R_slice hr'; have GC6 := A_ (Kd.R_reads' hr').2.2; have KD6 := A_ (Kd.R_reads' hr').2.1; have SC6 := A_ (Kd.C_below SC.out (below_step HB5.out hb)); have HB46 := A_ (below_step HB45.out hb); clear hr hr' hb hq HB5 HB45) | (go_at_call 7; (with_reducible refine (eqTokenS_H k (gl.map erT) D A d2 c _ _ (by rw [List.length_map]) HQ.out GC6.out SC6.out KD6.out KC.out).mono ?_); rintro e w7 ⟨rfl, hb⟩; have HB47 := A_ (below_step HB46.out hb); clear hb GC6 SC6 HB46) | (go_at_call 9; (with_reducible refine (heldTokenS_N k (gl2.map erT) 1 m B d _ w4 _ GR4.out.1 GR4.out.2.2 (by have h1_ := GR4.out.1; have h2_ := GR4.out.2.1; omega) HB47.out HD.out).mono ?_); rintro e w8 ⟨rfl, hb⟩; have HB8 := A_ (below_step (below_step HB1.out HB4.out) hb); clear hb))
 go_ret
 exact ⟨rfl, HB8.out⟩
def laws_FnExactScan.Pure : Prop := ∀ (a0 : BA), a0.size ≤ 140737488351232 → ∃ k, LwT k a0
theorem laws_FnExactScan.walk (P : laws_FnExactScan.Pure) (a0 : BA) (w : World) (w0 : a0.size ≤ 140737488351232) (hL : LibOk w) :
  Calls Tryz.prog 3 #[.string a0] w fun e w' => e = .returned (.bool true) ∧ Below w.heap.size w w' := by
 obtain ⟨k, h⟩ := P a0 w0;exact laws_FnExactScan.calls k a0 w hL h
end Go.Proofs.YtkbbfeckieckoaaGreatDoor.A
