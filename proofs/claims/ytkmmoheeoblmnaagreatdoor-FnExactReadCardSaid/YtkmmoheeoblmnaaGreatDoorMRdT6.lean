-- joined by wip/tools/shake.py
import Derived.Test.YtkmmoheeoblmnaaGreatDoorVRdTW9
import Derived.Test.YtkmmoheeoblmnaaGreatDoorMRdT0
import Derived.Test.YtkmmoheeoblmnaaGreatDoorMRdT5
import Derived.Test.YtkmmoheeoblmnaaGreatDoorMRdT1
import Derived.Test.YtkmmoheeoblmnaaGreatDoorMRdT3
set_option maxHeartbeats 16000000
set_option maxRecDepth 100000
namespace Go.Proofs.YtkmmoheeoblmnaaGreatDoor.A
open Go.RowKit Go.Proofs.YtkmmoheeoblmnaaGreatDoorW.PrintWords Go.Proofs.YtkmmoheeoblmnaaGreatDoorW.PrintLast Go.Proofs.YtkmmoheeoblmnaaGreatDoorW.PrintMore
attribute [local go_sem] max2_int min2_int max_two min_two max_three min_three max_four min_four
set_option linter.unusedVariables false
set_option linter.unusedSimpArgs false
mutual
def spec_l15El.l0 : Nat → Int → Int → Int → ByteArray → List (S36) → ByteArray → List (S43) → Option (Bool)
 | 0, _, _, _, _, _, _, _ => none
 | k + 1, x3, x534000, x534001, x534002, x534003, x534004, x534005 => if x3 < (x534005.length : Int) then (if 0 ≤ x3 then ((spec_l15El.f k ((rd_T43 x534005 x3).f0) ((rd_T43 x534005 x3).f1) ((rd_T43 x534005 x3).f2) ((rd_T43 x534005 x3).f3) ((rd_T43 x534005 x3).f4) ((rd_T43 x534005 x3).f5)).bind fun t535 => (if t535 = true then (if x3 > 0 then (if ((rd_T43 x534005 x3).f0) = 2 then (if 0 ≤ (wrap64 (x3 - 1)) then (if (wrap64 (x3 - 1)) < (x534005.length : Int) then (if ((rd_T43 x534005 (wrap64 (x3 - 1))).f0) = 2 then (some false) else (spec_l15El.l0 k (wrap64 (x3 + 1)) x534000 x534001 x534002 x534003 x534004 x534005)) else (none)) else (none)) else (spec_l15El.l0 k (wrap64 (x3 + 1)) x534000 x534001 x534002 x534003 x534004 x534005)) else (spec_l15El.l0 k (wrap64 (x3 + 1)) x534000 x534001 x534002 x534003 x534004 x534005)) else (some false))) else (none)) else (if x534001 = 0 then (if x534002.toList = ([] : List UInt8) then (if (x534003.length : Int) = 0 then (spec_l15El.j1 k ((x534005.length : Int) == 0) x534000 x534001 x534002 x534003 x534004 x534005) else (spec_l15El.j1 k false x534000 x534001 x534002 x534003 x534004 x534005)) else (spec_l15El.j1 k false x534000 x534001 x534002 x534003 x534004 x534005)) else (spec_l15El.j1 k false x534000 x534001 x534002 x534003 x534004 x534005))
def spec_l15El.j1 : Nat → Bool → Int → Int → ByteArray → List (S36) → ByteArray → List (S43) → Option (Bool)
 | 0, _, _, _, _, _, _, _ => none
 | k + 1, x4, x534000, x534001, x534002, x534003, x534004, x534005 => if x534000 = 1 then ((spec_l1In.f x534001 0 2).bind fun t538 => (if t538 = true then ((spec_NameOk.f k x534002).bind fun t539 => (if t539 = true then ((spec_l15Attrs.f k x534003).bind fun t540 => (if t540 = true then (some (x534004.toList == ([] : List UInt8))) else (some false))) else (some false))) else (some false))) else (if x534000 = 2 then (if x4 = true then (if x534004.toList = ([] : List UInt8) then (some false) else ((spec_TextOk.f k x534004).bind fun t541 => (some t541))) else (some false)) else (if x534000 = 3 then (if x4 = true then ((spec_NoteOk.f k x534004).bind fun t542 => (some t542)) else (some false)) else (some false)))
def spec_l15El.f : Nat → Int → Int → ByteArray → List (S36) → ByteArray → List (S43) → Option (Bool)
 | 0, _, _, _, _, _, _ => none
 | k + 1, a0_0, a0_1, a0_2, l0_3, a0_4, l0_5 => spec_l15El.l0 k 0 a0_0 a0_1 a0_2 l0_3 a0_4 l0_5
end
theorem spec_l15El.mono_l : ∀ k, (∀ y0 y1 y2 y3 y4 y5, LeO (spec_l15El.f k y0 y1 y2 y3 y4 y5) (spec_l15El.f (k + 1) y0 y1 y2 y3 y4 y5)) ∧ (∀ y0 y1 y2 y3 y4 y5 y6, LeO (spec_l15El.l0 k y0 y1 y2 y3 y4 y5 y6) (spec_l15El.l0 (k + 1) y0 y1 y2 y3 y4 y5 y6)) ∧ (∀ y0 y1 y2 y3 y4 y5 y6, LeO (spec_l15El.j1 k y0 y1 y2 y3 y4 y5 y6) (spec_l15El.j1 (k + 1) y0 y1 y2 y3 y4 y5 y6))
 | 0 => ⟨fun _ _ _ _ _ _ r h => by simp [spec_l15El.f] at h, fun _ _ _ _ _ _ _ r h => by simp [spec_l15El.l0] at h, fun _ _ _ _ _ _ _ r h => by simp [spec_l15El.j1] at h⟩
 | k + 1 => by
  obtain ⟨ih0, ih1, ih2⟩ := spec_l15El.mono_l k;refine ⟨?_, ?_, ?_⟩
  ·intro y0 y1 y2 y3 y4 y5;unfold spec_l15El.f;with_reducible repeat' first | exact ih0 _ _ _ _ _ _ | exact ih1 _ _ _ _ _ _ _ | exact ih2 _ _ _ _ _ _ _ | exact spec_NameOk.mono _ _ | exact spec_NoteOk.mono _ _ | exact spec_TextOk.mono _ _ | exact spec_l15Attrs.mono _ _ | apply LeO.refl | apply LeO.none | apply LeO.ite | apply LeO.bind | intro
  ·intro y0 y1 y2 y3 y4 y5 y6;unfold spec_l15El.l0;with_reducible repeat' first | exact ih0 _ _ _ _ _ _ | exact ih1 _ _ _ _ _ _ _ | exact ih2 _ _ _ _ _ _ _ | exact spec_NameOk.mono _ _ | exact spec_NoteOk.mono _ _ | exact spec_TextOk.mono _ _ | exact spec_l15Attrs.mono _ _ | apply LeO.refl | apply LeO.none | apply LeO.ite | apply LeO.bind | intro
  ·intro y0 y1 y2 y3 y4 y5 y6;unfold spec_l15El.j1;with_reducible repeat' first | exact ih0 _ _ _ _ _ _ | exact ih1 _ _ _ _ _ _ _ | exact ih2 _ _ _ _ _ _ _ | exact spec_NameOk.mono _ _ | exact spec_NoteOk.mono _ _ | exact spec_TextOk.mono _ _ | exact spec_l15Attrs.mono _ _ | apply LeO.refl | apply LeO.none | apply LeO.ite | apply LeO.bind | intro
theorem spec_l15El.mono : ∀ a0 a1 a2 a3 a4 a5 k, LeO (spec_l15El.f k a0 a1 a2 a3 a4 a5) (spec_l15El.f (k + 1) a0 a1 a2 a3 a4 a5) := by
 intro a0 a1 a2 a3 a4 a5 k;obtain ⟨ih0, ih1, ih2⟩ := spec_l15El.mono_l k;exact ih0 a0 a1 a2 a3 a4 a5
theorem spec_l15El.calls (k : Nat) : ∀ (a0_0 : Int) (a0_1 : Int) (a0_2 : BA) (A0_3 : Option Addr) (c0_3 : Nat) (l0_3 : List (S36)) (a0_4 : BA) (A0_5 : Option Addr) (c0_5 : Nat) (l0_5 : List (S43)) (r : Bool) (w : World) (hr0_3 : Kd.C k36 w A0_3 l0_3.length l0_3) (hc0_3 : l0_3.length ≤ c0_3) (hr0_5 : Kd.C k43 w A0_5 l0_5.length l0_5) (hc0_5 : l0_5.length ≤ c0_5) (h : spec_l15El.f k a0_0 a0_1 a0_2 l0_3 a0_4 l0_5 = some r),
  Calls Tryz.prog 134 #[.agg #[.int .i64 a0_0, .int .i64 a0_1, .string a0_2, .slice A0_3 l0_3.length c0_3, .string a0_4, .slice A0_5 l0_5.length c0_5]] w fun e w' => e = .returned (.bool r) ∧ Below w.heap.size w w' := by
 induction k using Nat.strongRecOn with
 | _ k ih =>
 intro a0_0 a0_1 a0_2 A0_3 c0_3 l0_3 a0_4 A0_5 c0_5 l0_5 r w hr0_3 hc0_3 hr0_5 hc0_5 h;cases k with
 | zero => exact absurd h (by simp [spec_l15El.f])
 | succ k =>
 simp only [spec_l15El.f] at h;have hu43 := Tryz.underlying43;have HR0_3 := A_ hr0_3;have HC0_3 := A_ hc0_3;clear hr0_3 hc0_3;have HR0_5 := A_ hr0_5;have HC0_5 := A_ hc0_5;clear hr0_5 hc0_5;have HB := A_ (Below.refl w.heap.size w);have H : (spec_l15El.l0 k 0 a0_0 a0_1 a0_2 l0_3 a0_4 l0_5) = some r := h;clear h;have H' := A_ H;clear H;go_enter Tryz.func134, Tryz.ntmps134
 go_wp2_with (first | ((with_reducible refine gate_dst (N := 1) rfl ?_); (try (refine gate_guard (by rfl) ?_; dsimp only)); refine bE_ #[.int .i64 a0_0, .int .i64 a0_1, .string a0_2, .slice A0_3 l0_3.length c0_3, .string a0_4, .slice A0_5 l0_5.length c0_5] 43 ?_; intro gb533 hg w2 hbox hb; have BK533 := A_ (hbox); have GW533 := hs_ hg; have GE533 := hs_ hg; replace HB := bS_ hb; clear hb hbox hg))
 go_loopg [3] k (fun kq v3 w' => ∃ (x3_1 : Int), v3 = .int .i64 x3_1 ∧ As9 (spec_l15El.l0 kq x3_1 a0_0 a0_1 a0_2 l0_3 a0_4 l0_5 = some r) ∧ As9 (kq ≤ k) ∧ As9 (w'.heap[gb533]? = some (.cells #[.int .i64 a0_0, .int .i64 a0_1, .string a0_2, (.slice A0_3 l0_3.length c0_3), .string a0_4, (.slice A0_5 l0_5.length c0_5)] 43 (0, 0))) ∧ As9 (Below w.heap.size w w'))
 case atStart => exact ⟨(0), e2_, H', ⟨Nat.le_refl _⟩, ⟨blk_below BK533.out hR_⟩, ⟨hB_⟩⟩
 case round =>
  clear H';try clear c1
  try clear p2
  obtain ⟨x3_1, rfl, HA, HK1, BK533, HB⟩ := hrel;cases gk with
  | zero => exact absurd HA.out (by simp [spec_l15El.l0])
  | succ k1 =>
   have H := HA.out;clear HA;simp only [spec_l15El.l0] at H;rcases ic_ H with ⟨c3, H⟩ | ⟨c3, H⟩
   ·have c3b0 := dE_ c3;clear c3;obtain ⟨c4, H⟩ := ifn_ H;have c4b0 := dE_ c4;clear c4;obtain ⟨t535, A5, H⟩ := ob_ H;(try dsimp only at H)
    by_cases c6 : t535 = true
    ·subst c6;rw [if_pos rfl] at H;rcases ic_ H with ⟨c7, H⟩ | ⟨c7, H⟩
     ·have c7b0 : decide (0 < x3_1) = true := dE_ c7;clear c7;rcases ic_ H with ⟨c8, H⟩ | ⟨c8, H⟩
      ·obtain ⟨c8b0, c8b1⟩ := be_ c8;clear c8;obtain ⟨ji9, hji9⟩ : ∃ j_ : Int, (wrap64 (x3_1 - 1)) = j_ := ⟨_, rfl⟩;replace H : (if 0 ≤ (ji9) then (if (ji9) < (l0_5.length : Int) then (if ((rd_T43 l0_5 (ji9)).f0) = 2 then (some false) else (spec_l15El.l0 k1 (wrap64 (x3_1 + 1)) a0_0 a0_1 a0_2 l0_3 a0_4 l0_5)) else (none)) else (none)) = some r := by first | (rw [hji9] at H; exact H) | (simp only [hji9] at H ⊢; exact H)
       (try rw [hji9] at A5)
       have hji9w : (IntKind.i64.wrap (x3_1 - 1)) = ji9 := (i64_w _).trans hji9;obtain ⟨c10, H⟩ := ifn_ H;have c10b0 := dE_ c10;clear c10;obtain ⟨c11, H⟩ := ifn_ H;have c11b0 := dE_ c11;clear c11;rcases ic_ H with ⟨c12, H⟩ | ⟨c12, H⟩
       ·obtain ⟨c12b0, c12b1⟩ := be_ c12;clear c12;obtain rfl := sI_ H;obtain ⟨hcz13_0, hcz13_1, hcz13_2, hcz13_3, hcz13_4, hcz13_5, hfz13_0, hfz13_1, hfz13_2, hfz13_3, hfz13_4, hfz13_5⟩ := bk6_ BK533.out;obtain ⟨p534, q534, ad534, A534_3, c534_3, A534_5, c534_5, e534, hx534_0, hx534_1, hx534_2, hx534_3, hx534_4, hx534_5, HC534_3, HR534_3, HC534_5, HR534_5⟩ := aB43_ HB.out HR0_5.out x3_1;cases e534;go_wp2_with (first | ((with_reducible refine gC_ 134 ?_); refine gL_ 17 Tryz.func134 #[.agg #[.int .i64 ((rd_T43 l0_5 x3_1).f0), .int .i64 ((rd_T43 l0_5 x3_1).f1), .string ((rd_T43 l0_5 x3_1).f2), .slice A534_3 ((rd_T43 l0_5 x3_1).f3).length c534_3, .string ((rd_T43 l0_5 x3_1).f4), .slice A534_5 ((rd_T43 l0_5 x3_1).f5).length c534_5]] ?_; (with_reducible refine (ih k1 (by have := HK1.out; omega) ((rd_T43 l0_5 x3_1).f0) ((rd_T43 l0_5 x3_1).f1) ((rd_T43 l0_5 x3_1).f2) _ _ ((rd_T43 l0_5 x3_1).f3) ((rd_T43 l0_5 x3_1).f4) _ _ ((rd_T43 l0_5 x3_1).f5) true _ ?side1 ?side2 ?side3 ?side4 A5.out).mono ?_); (case side1 => exact Kd.C_below HR534_3.out hB_); (case side2 => exact HC534_3.out); (case side3 => exact Kd.C_below HR534_5.out hB_); (case side4 => exact HC534_5.out); rintro e w14 ⟨rfl, hb⟩; refine ⟨_, rfl, ?_⟩; replace BK533 := A_ (blk_below (g := gb533) (o := .cells #[.int .i64 a0_0, .int .i64 a0_1, .string a0_2, .slice A0_3 l0_3.length c0_3, .string a0_4, .slice (some ad534) l0_5.length c0_5] 43 (0, 0)) (blk_below BK533.out hR_) hb); replace HB := bS_ hb; clear hb; obtain ⟨hcz15_0, hcz15_1, hcz15_2, hcz15_3, hcz15_4, hcz15_5, hfz15_0, hfz15_1, hfz15_2, hfz15_3, hfz15_4, hfz15_5⟩ := bk6_ BK533.out; obtain ⟨p536, q536, ad536, A536_3, c536_3, A536_5, c536_5, e536, hx536_0, hx536_1, hx536_2, hx536_3, hx536_4, hx536_5, HC536_3, HR536_3, HC536_5, HR536_5⟩ := aB43_ HB.out HR0_5.out x3_1; obtain rfl : ad534 = ad536 := (by injection e536); obtain ⟨p537, q537, ad537, A537_3, c537_3, A537_5, c537_5, e537, hx537_0, hx537_1, hx537_2, hx537_3, hx537_4, hx537_5, HC537_3, HR537_3, HC537_5, HR537_5⟩ := aB43_ HB.out HR0_5.out (ji9); obtain rfl : ad534 = ad537 := (by injection e537)))
        go_ret
        exact ⟨by first | rfl | (simp [errW_none, errW_some] <;> rfl) | (simp only [← hji9]; first | rfl | (simp [errW_none, errW_some] <;> rfl)) | (simp [*, errW_none, errW_some] <;> rfl), hB_⟩
       ·obtain ⟨c12b0, c12b1⟩ := bn_ c12;have H' := A_ H;clear H;obtain ⟨hcz16_0, hcz16_1, hcz16_2, hcz16_3, hcz16_4, hcz16_5, hfz16_0, hfz16_1, hfz16_2, hfz16_3, hfz16_4, hfz16_5⟩ := bk6_ BK533.out;obtain ⟨p534, q534, ad534, A534_3, c534_3, A534_5, c534_5, e534, hx534_0, hx534_1, hx534_2, hx534_3, hx534_4, hx534_5, HC534_3, HR534_3, HC534_5, HR534_5⟩ := aB43_ HB.out HR0_5.out x3_1;cases e534;go_wp2_with (first | ((with_reducible refine gC_ 134 ?_); refine gL_ 17 Tryz.func134 #[.agg #[.int .i64 ((rd_T43 l0_5 x3_1).f0), .int .i64 ((rd_T43 l0_5 x3_1).f1), .string ((rd_T43 l0_5 x3_1).f2), .slice A534_3 ((rd_T43 l0_5 x3_1).f3).length c534_3, .string ((rd_T43 l0_5 x3_1).f4), .slice A534_5 ((rd_T43 l0_5 x3_1).f5).length c534_5]] ?_; (with_reducible refine (ih k1 (by have := HK1.out; omega) ((rd_T43 l0_5 x3_1).f0) ((rd_T43 l0_5 x3_1).f1) ((rd_T43 l0_5 x3_1).f2) _ _ ((rd_T43 l0_5 x3_1).f3) ((rd_T43 l0_5 x3_1).f4) _ _ ((rd_T43 l0_5 x3_1).f5) true _ ?side1 ?side2 ?side3 ?side4 A5.out).mono ?_); (case side1 => exact Kd.C_below HR534_3.out hB_); (case side2 => exact HC534_3.out); (case side3 => exact Kd.C_below HR534_5.out hB_); (case side4 => exact HC534_5.out); rintro e w17 ⟨rfl, hb⟩; refine ⟨_, rfl, ?_⟩; replace BK533 := A_ (blk_below (g := gb533) (o := .cells #[.int .i64 a0_0, .int .i64 a0_1, .string a0_2, .slice A0_3 l0_3.length c0_3, .string a0_4, .slice (some ad534) l0_5.length c0_5] 43 (0, 0)) (blk_below BK533.out hR_) hb); replace HB := bS_ hb; clear hb; obtain ⟨hcz18_0, hcz18_1, hcz18_2, hcz18_3, hcz18_4, hcz18_5, hfz18_0, hfz18_1, hfz18_2, hfz18_3, hfz18_4, hfz18_5⟩ := bk6_ BK533.out; obtain ⟨p536, q536, ad536, A536_3, c536_3, A536_5, c536_5, e536, hx536_0, hx536_1, hx536_2, hx536_3, hx536_4, hx536_5, HC536_3, HR536_3, HC536_5, HR536_5⟩ := aB43_ HB.out HR0_5.out x3_1; obtain rfl : ad534 = ad536 := (by injection e536); obtain ⟨p537, q537, ad537, A537_3, c537_3, A537_5, c537_5, e537, hx537_0, hx537_1, hx537_2, hx537_3, hx537_4, hx537_5, HC537_3, HR537_3, HC537_5, HR537_5⟩ := aB43_ HB.out HR0_5.out (ji9); obtain rfl : ad534 = ad537 := (by injection e537)))
        go_roundg k1
        case measure => have := HK1.out; omega
        case rel => exact ⟨(wrap64 (x3_1 + 1)), e2_, H', ⟨by have := HK1.out; omega⟩, ⟨blk_below BK533.out hR_⟩, ⟨hB_⟩⟩
      ·obtain ⟨c8b0, c8b1⟩ := bn_ c8;have H' := A_ H;clear H;obtain ⟨hcz19_0, hcz19_1, hcz19_2, hcz19_3, hcz19_4, hcz19_5, hfz19_0, hfz19_1, hfz19_2, hfz19_3, hfz19_4, hfz19_5⟩ := bk6_ BK533.out;obtain ⟨p534, q534, ad534, A534_3, c534_3, A534_5, c534_5, e534, hx534_0, hx534_1, hx534_2, hx534_3, hx534_4, hx534_5, HC534_3, HR534_3, HC534_5, HR534_5⟩ := aB43_ HB.out HR0_5.out x3_1;cases e534;go_wp2_with (first | ((with_reducible refine gC_ 134 ?_); refine gL_ 17 Tryz.func134 #[.agg #[.int .i64 ((rd_T43 l0_5 x3_1).f0), .int .i64 ((rd_T43 l0_5 x3_1).f1), .string ((rd_T43 l0_5 x3_1).f2), .slice A534_3 ((rd_T43 l0_5 x3_1).f3).length c534_3, .string ((rd_T43 l0_5 x3_1).f4), .slice A534_5 ((rd_T43 l0_5 x3_1).f5).length c534_5]] ?_; (with_reducible refine (ih k1 (by have := HK1.out; omega) ((rd_T43 l0_5 x3_1).f0) ((rd_T43 l0_5 x3_1).f1) ((rd_T43 l0_5 x3_1).f2) _ _ ((rd_T43 l0_5 x3_1).f3) ((rd_T43 l0_5 x3_1).f4) _ _ ((rd_T43 l0_5 x3_1).f5) true _ ?side1 ?side2 ?side3 ?side4 A5.out).mono ?_); (case side1 => exact Kd.C_below HR534_3.out hB_); (case side2 => exact HC534_3.out); (case side3 => exact Kd.C_below HR534_5.out hB_); (case side4 => exact HC534_5.out); rintro e w20 ⟨rfl, hb⟩; refine ⟨_, rfl, ?_⟩; replace BK533 := A_ (blk_below (g := gb533) (o := .cells #[.int .i64 a0_0, .int .i64 a0_1, .string a0_2, .slice A0_3 l0_3.length c0_3, .string a0_4, .slice (some ad534) l0_5.length c0_5] 43 (0, 0)) (blk_below BK533.out hR_) hb); replace HB := bS_ hb; clear hb; obtain ⟨hcz21_0, hcz21_1, hcz21_2, hcz21_3, hcz21_4, hcz21_5, hfz21_0, hfz21_1, hfz21_2, hfz21_3, hfz21_4, hfz21_5⟩ := bk6_ BK533.out; obtain ⟨p536, q536, ad536, A536_3, c536_3, A536_5, c536_5, e536, hx536_0, hx536_1, hx536_2, hx536_3, hx536_4, hx536_5, HC536_3, HR536_3, HC536_5, HR536_5⟩ := aB43_ HB.out HR0_5.out x3_1; obtain rfl : ad534 = ad536 := (by injection e536)))
       go_roundg k1
       case measure => have := HK1.out; omega
       case rel => exact ⟨(wrap64 (x3_1 + 1)), e2_, H', ⟨by have := HK1.out; omega⟩, ⟨blk_below BK533.out hR_⟩, ⟨hB_⟩⟩
     ·have c7b0 : decide (0 < x3_1) = false := dF_ c7;clear c7;have H' := A_ H;clear H;obtain ⟨hcz22_0, hcz22_1, hcz22_2, hcz22_3, hcz22_4, hcz22_5, hfz22_0, hfz22_1, hfz22_2, hfz22_3, hfz22_4, hfz22_5⟩ := bk6_ BK533.out;obtain ⟨p534, q534, ad534, A534_3, c534_3, A534_5, c534_5, e534, hx534_0, hx534_1, hx534_2, hx534_3, hx534_4, hx534_5, HC534_3, HR534_3, HC534_5, HR534_5⟩ := aB43_ HB.out HR0_5.out x3_1;cases e534;go_wp2_with (first | ((with_reducible refine gC_ 134 ?_); refine gL_ 17 Tryz.func134 #[.agg #[.int .i64 ((rd_T43 l0_5 x3_1).f0), .int .i64 ((rd_T43 l0_5 x3_1).f1), .string ((rd_T43 l0_5 x3_1).f2), .slice A534_3 ((rd_T43 l0_5 x3_1).f3).length c534_3, .string ((rd_T43 l0_5 x3_1).f4), .slice A534_5 ((rd_T43 l0_5 x3_1).f5).length c534_5]] ?_; (with_reducible refine (ih k1 (by have := HK1.out; omega) ((rd_T43 l0_5 x3_1).f0) ((rd_T43 l0_5 x3_1).f1) ((rd_T43 l0_5 x3_1).f2) _ _ ((rd_T43 l0_5 x3_1).f3) ((rd_T43 l0_5 x3_1).f4) _ _ ((rd_T43 l0_5 x3_1).f5) true _ ?side1 ?side2 ?side3 ?side4 A5.out).mono ?_); (case side1 => exact Kd.C_below HR534_3.out hB_); (case side2 => exact HC534_3.out); (case side3 => exact Kd.C_below HR534_5.out hB_); (case side4 => exact HC534_5.out); rintro e w23 ⟨rfl, hb⟩; refine ⟨_, rfl, ?_⟩; replace BK533 := A_ (blk_below (g := gb533) (o := .cells #[.int .i64 a0_0, .int .i64 a0_1, .string a0_2, .slice A0_3 l0_3.length c0_3, .string a0_4, .slice (some ad534) l0_5.length c0_5] 43 (0, 0)) (blk_below BK533.out hR_) hb); replace HB := bS_ hb; clear hb))
      go_roundg k1
      case measure => have := HK1.out; omega
      case rel => exact ⟨(wrap64 (x3_1 + 1)), e2_, H', ⟨by have := HK1.out; omega⟩, ⟨blk_below BK533.out hR_⟩, ⟨hB_⟩⟩
    ·replace c6 := bF_ c6;subst c6;rw [if_neg nF_] at H;obtain rfl := sI_ H;obtain ⟨hcz24_0, hcz24_1, hcz24_2, hcz24_3, hcz24_4, hcz24_5, hfz24_0, hfz24_1, hfz24_2, hfz24_3, hfz24_4, hfz24_5⟩ := bk6_ BK533.out;obtain ⟨p534, q534, ad534, A534_3, c534_3, A534_5, c534_5, e534, hx534_0, hx534_1, hx534_2, hx534_3, hx534_4, hx534_5, HC534_3, HR534_3, HC534_5, HR534_5⟩ := aB43_ HB.out HR0_5.out x3_1;cases e534;go_wp2_with (first | ((with_reducible refine gC_ 134 ?_); refine gL_ 17 Tryz.func134 #[.agg #[.int .i64 ((rd_T43 l0_5 x3_1).f0), .int .i64 ((rd_T43 l0_5 x3_1).f1), .string ((rd_T43 l0_5 x3_1).f2), .slice A534_3 ((rd_T43 l0_5 x3_1).f3).length c534_3, .string ((rd_T43 l0_5 x3_1).f4), .slice A534_5 ((rd_T43 l0_5 x3_1).f5).length c534_5]] ?_; (with_reducible refine (ih k1 (by have := HK1.out; omega) ((rd_T43 l0_5 x3_1).f0) ((rd_T43 l0_5 x3_1).f1) ((rd_T43 l0_5 x3_1).f2) _ _ ((rd_T43 l0_5 x3_1).f3) ((rd_T43 l0_5 x3_1).f4) _ _ ((rd_T43 l0_5 x3_1).f5) false _ ?side1 ?side2 ?side3 ?side4 A5.out).mono ?_); (case side1 => exact Kd.C_below HR534_3.out hB_); (case side2 => exact HC534_3.out); (case side3 => exact Kd.C_below HR534_5.out hB_); (case side4 => exact HC534_5.out); rintro e w25 ⟨rfl, hb⟩; refine ⟨_, rfl, ?_⟩; replace BK533 := A_ (blk_below (g := gb533) (o := .cells #[.int .i64 a0_0, .int .i64 a0_1, .string a0_2, .slice A0_3 l0_3.length c0_3, .string a0_4, .slice (some ad534) l0_5.length c0_5] 43 (0, 0)) (blk_below BK533.out hR_) hb); replace HB := bS_ hb; clear hb))
     go_ret
     exact ⟨e1_, hB_⟩
   ·have c3b0 := dF_ c3;clear c3;have HC26 := A_ H;clear H;obtain ⟨hcz27_0, hcz27_1, hcz27_2, hcz27_3, hcz27_4, hcz27_5, hfz27_0, hfz27_1, hfz27_2, hfz27_3, hfz27_4, hfz27_5⟩ := bk6_ BK533.out;go_upto_region 6 with (fail)
    go_cut [4] (fun v4 wc => ∃ (kq : Nat) (x4_25 : Bool), v4 = .bool x4_25 ∧ As9 (spec_l15El.j1 kq x4_25 a0_0 a0_1 a0_2 l0_3 a0_4 l0_5 = some r) ∧ As9 (kq ≤ k1) ∧ As9 (wc.heap[gb533]? = some (.cells #[.int .i64 a0_0, .int .i64 a0_1, .string a0_2, (.slice A0_3 l0_3.length c0_3), .string a0_4, (.slice A0_5 l0_5.length c0_5)] 43 (0, 0))) ∧ As9 (Below w.heap.size w wc))
    case first =>
     have H := HC26.out;clear HC26;rcases ic_ H with ⟨c28, H⟩ | ⟨c28, H⟩
     ·obtain ⟨c28b0, c28b1⟩ := be_ c28;clear c28;(first | rw [c28b0] | (simp only [i64_w, i32_w]; rw [c28b0]) | skip)
      rcases ic_ H with ⟨c29, H⟩ | ⟨c29, H⟩
      ·obtain ⟨c29b0, c29b1⟩ := be_ c29;clear c29;rcases ic_ H with ⟨c30, H⟩ | ⟨c30, H⟩
       ·obtain ⟨c30b0, c30b1⟩ := be_ c30;clear c30;have H' := A_ H;clear H;obtain ⟨hcz31_0, hcz31_1, hcz31_2, hcz31_3, hcz31_4, hcz31_5, hfz31_0, hfz31_1, hfz31_2, hfz31_3, hfz31_4, hfz31_5⟩ := bk6_ BK533.out;go_wp2
        go_meet
        case rel => exact ⟨_, (((l0_5.length : Int) == 0)), e2_, H', ⟨by have := HK1.out; first | omega | exact Nat.le_refl _⟩, ⟨blk_below BK533.out hR_⟩, ⟨hB_⟩⟩
       ·obtain ⟨c30b0, c30b1⟩ := bn_ c30;have c30b2 : ¬ (l0_3 = []) := fun h_ => c30 (by rw [h_]; rfl)
        have H' := A_ H;clear H;obtain ⟨hcz32_0, hcz32_1, hcz32_2, hcz32_3, hcz32_4, hcz32_5, hfz32_0, hfz32_1, hfz32_2, hfz32_3, hfz32_4, hfz32_5⟩ := bk6_ BK533.out;go_wp2
        go_meet
        case rel => exact ⟨_, (false), e2_, H', ⟨by have := HK1.out; first | omega | exact Nat.le_refl _⟩, ⟨blk_below BK533.out hR_⟩, ⟨hB_⟩⟩
      ·obtain ⟨c29b0, c29b1⟩ := bn_ c29;have H' := A_ H;clear H;obtain ⟨hcz33_0, hcz33_1, hcz33_2, hcz33_3, hcz33_4, hcz33_5, hfz33_0, hfz33_1, hfz33_2, hfz33_3, hfz33_4, hfz33_5⟩ := bk6_ BK533.out;go_wp2
       go_meet
       case rel => exact ⟨_, (false), e2_, H', ⟨by have := HK1.out; first | omega | exact Nat.le_refl _⟩, ⟨blk_below BK533.out hR_⟩, ⟨hB_⟩⟩
     ·obtain ⟨c28b0, c28b1⟩ := bn_ c28;(first | rw [c28b0] | (simp only [i64_w, i32_w]; rw [c28b0]) | skip)
      have H' := A_ H;clear H;obtain ⟨hcz34_0, hcz34_1, hcz34_2, hcz34_3, hcz34_4, hcz34_5, hfz34_0, hfz34_1, hfz34_2, hfz34_3, hfz34_4, hfz34_5⟩ := bk6_ BK533.out;go_wp2
      go_meet
      case rel => exact ⟨_, (false), e2_, H', ⟨by have := HK1.out; first | omega | exact Nat.le_refl _⟩, ⟨blk_below BK533.out hR_⟩, ⟨hB_⟩⟩
    case rest =>
     clear HC26;try clear c1
     try clear c2
     try clear p2
     try clear c3
     try clear c3b0
     try clear c4
     try clear c4b0
     try clear c5
     try clear p5
     try clear q5
     try clear hx5
     try clear c6
     try clear p6
     try clear c7
     try clear c7b0
     try clear c8
     try clear c8b0
     try clear c8b1
     try clear c10
     try clear c10b0
     try clear c11
     try clear c11b0
     try clear c12
     try clear c12b0
     try clear c12b1
     try clear c13
     try clear c28
     try clear c28b0
     try clear c28b1
     try clear c29
     try clear c29b0
     try clear c29b1
     try clear c30
     try clear c30b0
     try clear c30b1
     try clear c30b2
     try clear hcz13_0
     try clear hcz13_1
     try clear hcz13_2
     try clear hcz13_3
     try clear hcz13_4
     try clear hcz13_5
     try clear hcz15_0
     try clear hcz15_1
     try clear hcz15_2
     try clear hcz15_3
     try clear hcz15_4
     try clear hcz15_5
     try clear hcz16_0
     try clear hcz16_1
     try clear hcz16_2
     try clear hcz16_3
     try clear hcz16_4
     try clear hcz16_5
     try clear hcz18_0
     try clear hcz18_1
     try clear hcz18_2
     try clear hcz18_3
     try clear hcz18_4
     try clear hcz18_5
     try clear hcz19_0
     try clear hcz19_1
     try clear hcz19_2
     try clear hcz19_3
     try clear hcz19_4
     try clear hcz19_5
     try clear hcz21_0
     try clear hcz21_1
     try clear hcz21_2
     try clear hcz21_3
     try clear hcz21_4
     try clear hcz21_5
     try clear hcz22_0
     try clear hcz22_1
     try clear hcz22_2
     try clear hcz22_3
     try clear hcz22_4
     try clear hcz22_5
     try clear hcz24_0
     try clear hcz24_1
     try clear hcz24_2
     try clear hcz24_3
     try clear hcz24_4
     try clear hcz24_5
     try clear hcz27_0
     try clear hcz27_1
     try clear hcz27_2
     try clear hcz27_3
     try clear hcz27_4
     try clear hcz27_5
     try clear hcz31_0
     try clear hcz31_1
     try clear hcz31_2
     try clear hcz31_3
     try clear hcz31_4
     try clear hcz31_5
     try clear hcz32_0
     try clear hcz32_1
     try clear hcz32_2
     try clear hcz32_3
     try clear hcz32_4
     try clear hcz32_5
     try clear hcz33_0
     try clear hcz33_1
     try clear hcz33_2
     try clear hcz33_3
     try clear hcz33_4
     try clear hcz33_5
     try clear hcz34_0
     try clear hcz34_1
     try clear hcz34_2
     try clear hcz34_3
     try clear hcz34_4
     try clear hcz34_5
     try clear hfz13_0
     try clear hfz13_1
     try clear hfz13_2
     try clear hfz13_3
     try clear hfz13_4
     try clear hfz13_5
     try clear hfz15_0
     try clear hfz15_1
     try clear hfz15_2
     try clear hfz15_3
     try clear hfz15_4
     try clear hfz15_5
     try clear hfz16_0
     try clear hfz16_1
     try clear hfz16_2
     try clear hfz16_3
     try clear hfz16_4
     try clear hfz16_5
     try clear hfz18_0
     try clear hfz18_1
     try clear hfz18_2
     try clear hfz18_3
     try clear hfz18_4
     try clear hfz18_5
     try clear hfz19_0
     try clear hfz19_1
     try clear hfz19_2
     try clear hfz19_3
     try clear hfz19_4
     try clear hfz19_5
     try clear hfz21_0
     try clear hfz21_1
     try clear hfz21_2
     try clear hfz21_3
     try clear hfz21_4
     try clear hfz21_5
     try clear hfz22_0
     try clear hfz22_1
     try clear hfz22_2
     try clear hfz22_3
     try clear hfz22_4
     try clear hfz22_5
     try clear hfz24_0
     try clear hfz24_1
     try clear hfz24_2
     try clear hfz24_3
     try clear hfz24_4
     try clear hfz24_5
     try clear hfz27_0
     try clear hfz27_1
     try clear hfz27_2
     try clear hfz27_3
     try clear hfz27_4
     try clear hfz27_5
     try clear hfz31_0
     try clear hfz31_1
     try clear hfz31_2
     try clear hfz31_3
     try clear hfz31_4
     try clear hfz31_5
     try clear hfz32_0
     try clear hfz32_1
     try clear hfz32_2
     try clear hfz32_3
     try clear hfz32_4
     try clear hfz32_5
     try clear hfz33_0
     try clear hfz33_1
     try clear hfz33_2
     try clear hfz33_3
     try clear hfz33_4
     try clear hfz33_5
     try clear hfz34_0
     try clear hfz34_1
     try clear hfz34_2
     try clear hfz34_3
     try clear hfz34_4
     try clear hfz34_5
     try clear hx534_0
     try clear hx534_1
     try clear hx534_2
     try clear hx534_3
     try clear hx534_4
     try clear hx534_5
     try clear hx536_0
     try clear hx536_1
     try clear hx536_2
     try clear hx536_3
     try clear hx536_4
     try clear hx536_5
     try clear hx537_0
     try clear hx537_1
     try clear hx537_2
     try clear hx537_3
     try clear hx537_4
     try clear hx537_5
     try clear p2
     try clear p534
     try clear p536
     try clear p537
     try clear q534
     try clear q536
     try clear q537
     obtain ⟨kq, x4_25, rfl, HA, HJ25, BK533, HB⟩ := hcut;cases kq with
     | zero => exact absurd HA.out (by simp [spec_l15El.j1])
     | succ kj25 =>
      have H := HA.out;clear HA;simp only [spec_l15El.j1] at H;rcases ic_ H with ⟨c35, H⟩ | ⟨c35, H⟩
      ·obtain ⟨c35b0, c35b1⟩ := be_ c35;clear c35;obtain ⟨t538, A36, H⟩ := ob_ H;(try dsimp only at H)
       by_cases c37 : t538 = true
       ·subst c37;rw [if_pos rfl] at H;obtain ⟨t539, A38, H⟩ := ob_ H;(try dsimp only at H)
        by_cases c39 : t539 = true
        ·subst c39;rw [if_pos rfl] at H;obtain ⟨t540, A40, H⟩ := ob_ H;(try dsimp only at H)
         by_cases c41 : t540 = true
         ·subst c41;rw [if_pos rfl] at H;obtain rfl := sI_ H;obtain ⟨hcz42_0, hcz42_1, hcz42_2, hcz42_3, hcz42_4, hcz42_5, hfz42_0, hfz42_1, hfz42_2, hfz42_3, hfz42_4, hfz42_5⟩ := bk6_ BK533.out;go_wp2_with (first | ((with_reducible refine gC_ 111 ?_); refine gL_ 68 Tryz.func111 #[.int .i64 a0_1, .int .i64 0, .int .i64 2] ?_; refine dm_ (spec_l1In.calls a0_1 0 2 true _ A36.out) fun nd => ?_) | (go_at_call 170; (with_reducible refine (spec_NameOk.calls kj25 a0_2 true _ A38.out).mono ?_); rintro e w43 ⟨rfl, hb⟩; replace BK533 := A_ (blk_below (g := gb533) (o := .cells #[.int .i64 a0_0, .int .i64 a0_1, .string a0_2, .slice A0_3 l0_3.length c0_3, .string a0_4, .slice A0_5 l0_5.length c0_5] 43 (0, 0)) (blk_below BK533.out hR_) hb); replace HB := bS_ hb; clear hb; obtain ⟨hcz44_0, hcz44_1, hcz44_2, hcz44_3, hcz44_4, hcz44_5, hfz44_0, hfz44_1, hfz44_2, hfz44_3, hfz44_4, hfz44_5⟩ := bk6_ BK533.out) | (go_at_call 171; (with_reducible refine (spec_l15Attrs.calls kj25 _ _ l0_3 true _ ?side1 ?side2 A40.out).mono ?_); (case side1 => exact Kd.C_below HR0_3.out hB_); (case side2 => exact HC0_3.out); rintro e w45 ⟨rfl, hb⟩; replace BK533 := A_ (blk_below (g := gb533) (o := .cells #[.int .i64 a0_0, .int .i64 a0_1, .string a0_2, .slice A0_3 l0_3.length c0_3, .string a0_4, .slice A0_5 l0_5.length c0_5] 43 (0, 0)) (blk_below BK533.out hR_) hb); replace HB := bS_ hb; clear hb; obtain ⟨hcz46_0, hcz46_1, hcz46_2, hcz46_3, hcz46_4, hcz46_5, hfz46_0, hfz46_1, hfz46_2, hfz46_3, hfz46_4, hfz46_5⟩ := bk6_ BK533.out))
          go_ret
          exact ⟨e1_, hB_⟩
         ·replace c41 := bF_ c41;subst c41;rw [if_neg nF_] at H;obtain rfl := sI_ H;obtain ⟨hcz47_0, hcz47_1, hcz47_2, hcz47_3, hcz47_4, hcz47_5, hfz47_0, hfz47_1, hfz47_2, hfz47_3, hfz47_4, hfz47_5⟩ := bk6_ BK533.out;go_wp2_with (first | ((with_reducible refine gC_ 111 ?_); refine gL_ 68 Tryz.func111 #[.int .i64 a0_1, .int .i64 0, .int .i64 2] ?_; refine dm_ (spec_l1In.calls a0_1 0 2 true _ A36.out) fun nd => ?_) | (go_at_call 170; (with_reducible refine (spec_NameOk.calls kj25 a0_2 true _ A38.out).mono ?_); rintro e w48 ⟨rfl, hb⟩; replace BK533 := A_ (blk_below (g := gb533) (o := .cells #[.int .i64 a0_0, .int .i64 a0_1, .string a0_2, .slice A0_3 l0_3.length c0_3, .string a0_4, .slice A0_5 l0_5.length c0_5] 43 (0, 0)) (blk_below BK533.out hR_) hb); replace HB := bS_ hb; clear hb; obtain ⟨hcz49_0, hcz49_1, hcz49_2, hcz49_3, hcz49_4, hcz49_5, hfz49_0, hfz49_1, hfz49_2, hfz49_3, hfz49_4, hfz49_5⟩ := bk6_ BK533.out) | (go_at_call 171; (with_reducible refine (spec_l15Attrs.calls kj25 _ _ l0_3 false _ ?side1 ?side2 A40.out).mono ?_); (case side1 => exact Kd.C_below HR0_3.out hB_); (case side2 => exact HC0_3.out); rintro e w50 ⟨rfl, hb⟩; replace BK533 := A_ (blk_below (g := gb533) (o := .cells #[.int .i64 a0_0, .int .i64 a0_1, .string a0_2, .slice A0_3 l0_3.length c0_3, .string a0_4, .slice A0_5 l0_5.length c0_5] 43 (0, 0)) (blk_below BK533.out hR_) hb); replace HB := bS_ hb; clear hb))
          go_ret
          exact ⟨e1_, hB_⟩
        ·replace c39 := bF_ c39;subst c39;rw [if_neg nF_] at H;obtain rfl := sI_ H;obtain ⟨hcz51_0, hcz51_1, hcz51_2, hcz51_3, hcz51_4, hcz51_5, hfz51_0, hfz51_1, hfz51_2, hfz51_3, hfz51_4, hfz51_5⟩ := bk6_ BK533.out;go_wp2_with (first | ((with_reducible refine gC_ 111 ?_); refine gL_ 68 Tryz.func111 #[.int .i64 a0_1, .int .i64 0, .int .i64 2] ?_; refine dm_ (spec_l1In.calls a0_1 0 2 true _ A36.out) fun nd => ?_) | (go_at_call 170; (with_reducible refine (spec_NameOk.calls kj25 a0_2 false _ A38.out).mono ?_); rintro e w52 ⟨rfl, hb⟩; replace BK533 := A_ (blk_below (g := gb533) (o := .cells #[.int .i64 a0_0, .int .i64 a0_1, .string a0_2, .slice A0_3 l0_3.length c0_3, .string a0_4, .slice A0_5 l0_5.length c0_5] 43 (0, 0)) (blk_below BK533.out hR_) hb); replace HB := bS_ hb; clear hb))
         go_ret
         exact ⟨e1_, hB_⟩
       ·replace c37 := bF_ c37;subst c37;rw [if_neg nF_] at H;obtain rfl := sI_ H;obtain ⟨hcz53_0, hcz53_1, hcz53_2, hcz53_3, hcz53_4, hcz53_5, hfz53_0, hfz53_1, hfz53_2, hfz53_3, hfz53_4, hfz53_5⟩ := bk6_ BK533.out;go_wp2_with (first | ((with_reducible refine gC_ 111 ?_); refine gL_ 68 Tryz.func111 #[.int .i64 a0_1, .int .i64 0, .int .i64 2] ?_; refine dm_ (spec_l1In.calls a0_1 0 2 false _ A36.out) fun nd => ?_))
        go_ret
        exact ⟨e1_, hB_⟩
      ·obtain ⟨c35b0, c35b1⟩ := bn_ c35;rcases ic_ H with ⟨c54, H⟩ | ⟨c54, H⟩
       ·obtain ⟨c54b0, c54b1⟩ := be_ c54;clear c54;by_cases c55 : x4_25 = true
        ·subst c55;rw [if_pos rfl] at H;rcases ic_ H with ⟨c56, H⟩ | ⟨c56, H⟩
         ·obtain ⟨c56b0, c56b1⟩ := be_ c56;clear c56;obtain rfl := sI_ H;obtain ⟨hcz57_0, hcz57_1, hcz57_2, hcz57_3, hcz57_4, hcz57_5, hfz57_0, hfz57_1, hfz57_2, hfz57_3, hfz57_4, hfz57_5⟩ := bk6_ BK533.out;go_wp2
          go_ret
          exact ⟨e1_, hB_⟩
         ·obtain ⟨c56b0, c56b1⟩ := bn_ c56;obtain ⟨t541, A58, H⟩ := ob_ H;obtain rfl := sI_ H;obtain ⟨hcz59_0, hcz59_1, hcz59_2, hcz59_3, hcz59_4, hcz59_5, hfz59_0, hfz59_1, hfz59_2, hfz59_3, hfz59_4, hfz59_5⟩ := bk6_ BK533.out;go_wp2_with (first | (go_at_call 129; (with_reducible refine (spec_TextOk.calls kj25 a0_4 t541 _ A58.out).mono ?_); rintro e w60 ⟨rfl, hb⟩; replace BK533 := A_ (blk_below (g := gb533) (o := .cells #[.int .i64 a0_0, .int .i64 a0_1, .string a0_2, .slice A0_3 l0_3.length c0_3, .string a0_4, .slice A0_5 l0_5.length c0_5] 43 (0, 0)) (blk_below BK533.out hR_) hb); replace HB := bS_ hb; clear hb))
          go_ret
          exact ⟨e1_, hB_⟩
        ·replace c55 := bF_ c55;subst c55;rw [if_neg nF_] at H;obtain rfl := sI_ H;obtain ⟨hcz61_0, hcz61_1, hcz61_2, hcz61_3, hcz61_4, hcz61_5, hfz61_0, hfz61_1, hfz61_2, hfz61_3, hfz61_4, hfz61_5⟩ := bk6_ BK533.out;go_wp2
         go_ret
         exact ⟨e1_, hB_⟩
       ·obtain ⟨c54b0, c54b1⟩ := bn_ c54;rcases ic_ H with ⟨c62, H⟩ | ⟨c62, H⟩
        ·obtain ⟨c62b0, c62b1⟩ := be_ c62;clear c62;by_cases c63 : x4_25 = true
         ·subst c63;rw [if_pos rfl] at H;obtain ⟨t542, A64, H⟩ := ob_ H;obtain rfl := sI_ H;obtain ⟨hcz65_0, hcz65_1, hcz65_2, hcz65_3, hcz65_4, hcz65_5, hfz65_0, hfz65_1, hfz65_2, hfz65_3, hfz65_4, hfz65_5⟩ := bk6_ BK533.out;go_wp2_with (first | (go_at_call 81; (with_reducible refine (spec_NoteOk.calls kj25 a0_4 t542 _ A64.out).mono ?_); rintro e w66 ⟨rfl, hb⟩; replace BK533 := A_ (blk_below (g := gb533) (o := .cells #[.int .i64 a0_0, .int .i64 a0_1, .string a0_2, .slice A0_3 l0_3.length c0_3, .string a0_4, .slice A0_5 l0_5.length c0_5] 43 (0, 0)) (blk_below BK533.out hR_) hb); replace HB := bS_ hb; clear hb))
          go_ret
          exact ⟨e1_, hB_⟩
         ·replace c63 := bF_ c63;subst c63;rw [if_neg nF_] at H;obtain rfl := sI_ H;obtain ⟨hcz67_0, hcz67_1, hcz67_2, hcz67_3, hcz67_4, hcz67_5, hfz67_0, hfz67_1, hfz67_2, hfz67_3, hfz67_4, hfz67_5⟩ := bk6_ BK533.out;go_wp2
          go_ret
          exact ⟨e1_, hB_⟩
        ·obtain ⟨c62b0, c62b1⟩ := bn_ c62;obtain rfl := sI_ H;obtain ⟨hcz68_0, hcz68_1, hcz68_2, hcz68_3, hcz68_4, hcz68_5, hfz68_0, hfz68_1, hfz68_2, hfz68_3, hfz68_4, hfz68_5⟩ := bk6_ BK533.out;go_wp2
         go_ret
         exact ⟨e1_, hB_⟩
def spec_ElOk.f (k : Nat) (a0_0 : Int) (a0_1 : Int) (a0_2 : BA) (l0_3 : List (S36)) (a0_4 : BA) (l0_5 : List (S43)) : Option (Bool) := (spec_ElDeep.f k a0_0 a0_1 a0_2 l0_3 a0_4 l0_5).bind fun t544 => (if t544 ≤ 60 then ((spec_l15El.f k a0_0 a0_1 a0_2 l0_3 a0_4 l0_5).bind fun t545 => (some t545)) else (some false))
theorem spec_ElOk.mono : ∀ a0 a1 a2 a3 a4 a5 k, LeO (spec_ElOk.f k a0 a1 a2 a3 a4 a5) (spec_ElOk.f (k + 1) a0 a1 a2 a3 a4 a5) := by
 intro a0 a1 a2 a3 a4 a5 k;unfold spec_ElOk.f;with_reducible repeat' first | exact spec_ElDeep.mono _ _ _ _ _ _ _ | exact spec_l15El.mono _ _ _ _ _ _ _ | apply LeO.refl | apply LeO.none | apply LeO.ite | apply LeO.bind | intro
theorem spec_ElOk.calls (k : Nat) (a0_0 : Int) (a0_1 : Int) (a0_2 : BA) (A0_3 : Option Addr) (c0_3 : Nat) (l0_3 : List (S36)) (a0_4 : BA) (A0_5 : Option Addr) (c0_5 : Nat) (l0_5 : List (S43)) (r : Bool) (w : World) (hr0_3 : Kd.C k36 w A0_3 l0_3.length l0_3) (hc0_3 : l0_3.length ≤ c0_3) (hr0_5 : Kd.C k43 w A0_5 l0_5.length l0_5) (hc0_5 : l0_5.length ≤ c0_5) (h : spec_ElOk.f k a0_0 a0_1 a0_2 l0_3 a0_4 l0_5 = some r) :
  Calls Tryz.prog 85 #[.agg #[.int .i64 a0_0, .int .i64 a0_1, .string a0_2, .slice A0_3 l0_3.length c0_3, .string a0_4, .slice A0_5 l0_5.length c0_5]] w fun e w' => e = .returned (.bool r) ∧ Below w.heap.size w w' := by
 have hu43 := Tryz.underlying43;have HR0_3 := A_ hr0_3;have HC0_3 := A_ hc0_3;clear hr0_3 hc0_3;have HR0_5 := A_ hr0_5;have HC0_5 := A_ hc0_5;clear hr0_5 hc0_5;have HB := A_ (Below.refl w.heap.size w);have H : ((spec_ElDeep.f k a0_0 a0_1 a0_2 l0_3 a0_4 l0_5).bind fun t544 => (if t544 ≤ 60 then ((spec_l15El.f k a0_0 a0_1 a0_2 l0_3 a0_4 l0_5).bind fun t545 => (some t545)) else (some false))) = some r := h;clear h;obtain ⟨t544, A2, H⟩ := ob_ H;rcases ic_ H with ⟨c3, H⟩ | ⟨c3, H⟩
 ·have c3b0 := dE_ c3;clear c3;obtain ⟨t545, A4, H⟩ := ob_ H;obtain rfl := sI_ H;go_enter Tryz.func85, Tryz.ntmps85
  go_wp2_with (first | ((with_reducible refine gate_dst (N := 1) rfl ?_); refine bE_ #[.int .i64 a0_0, .int .i64 a0_1, .string a0_2, .slice A0_3 l0_3.length c0_3, .string a0_4, .slice A0_5 l0_5.length c0_5] 43 ?_; intro gb543 hg w5 hbox hb; have BK543 := A_ (hbox); have GW543 := hs_ hg; have GE543 := hs_ hg; replace HB := bS_ hb; clear hb hbox hg; obtain ⟨hcz6_0, hcz6_1, hcz6_2, hcz6_3, hcz6_4, hcz6_5, hfz6_0, hfz6_1, hfz6_2, hfz6_3, hfz6_4, hfz6_5⟩ := bk6_ BK543.out) | ((with_reducible refine gC_ 133 ?_); refine gL_ 4 Tryz.func133 #[.agg #[.int .i64 a0_0, .int .i64 a0_1, .string a0_2, .slice A0_3 l0_3.length c0_3, .string a0_4, .slice A0_5 l0_5.length c0_5]] ?_; (with_reducible refine (spec_ElDeep.calls k a0_0 a0_1 a0_2 _ _ l0_3 a0_4 _ _ l0_5 t544 _ ?side1 ?side2 ?side3 ?side4 A2.out).mono ?_); (case side1 => exact Kd.C_below HR0_3.out hB_); (case side2 => exact HC0_3.out); (case side3 => exact Kd.C_below HR0_5.out hB_); (case side4 => exact HC0_5.out); rintro e w7 ⟨rfl, hb⟩; refine ⟨_, rfl, ?_⟩; replace BK543 := A_ (blk_below (g := gb543) (o := .cells #[.int .i64 a0_0, .int .i64 a0_1, .string a0_2, .slice A0_3 l0_3.length c0_3, .string a0_4, .slice A0_5 l0_5.length c0_5] 43 (0, 0)) (blk_below BK543.out hR_) hb); replace HB := bS_ hb; clear hb; obtain ⟨hcz8_0, hcz8_1, hcz8_2, hcz8_3, hcz8_4, hcz8_5, hfz8_0, hfz8_1, hfz8_2, hfz8_3, hfz8_4, hfz8_5⟩ := bk6_ BK543.out) | (go_at_call 134; (with_reducible refine (spec_l15El.calls k a0_0 a0_1 a0_2 _ _ l0_3 a0_4 _ _ l0_5 t545 _ ?side1 ?side2 ?side3 ?side4 A4.out).mono ?_); (case side1 => exact Kd.C_below HR0_3.out hB_); (case side2 => exact HC0_3.out); (case side3 => exact Kd.C_below HR0_5.out hB_); (case side4 => exact HC0_5.out); rintro e w9 ⟨rfl, hb⟩; replace BK543 := A_ (blk_below (g := gb543) (o := .cells #[.int .i64 a0_0, .int .i64 a0_1, .string a0_2, .slice A0_3 l0_3.length c0_3, .string a0_4, .slice A0_5 l0_5.length c0_5] 43 (0, 0)) (blk_below BK543.out hR_) hb); replace HB := bS_ hb; clear hb))
  go_ret
  exact ⟨e1_, hB_⟩
 ·have c3b0 := dF_ c3;clear c3;obtain rfl := sI_ H;go_enter Tryz.func85, Tryz.ntmps85
  go_wp2_with (first | ((with_reducible refine gate_dst (N := 1) rfl ?_); refine bE_ #[.int .i64 a0_0, .int .i64 a0_1, .string a0_2, .slice A0_3 l0_3.length c0_3, .string a0_4, .slice A0_5 l0_5.length c0_5] 43 ?_; intro gb543 hg w10 hbox hb; have BK543 := A_ (hbox); have GW543 := hs_ hg; have GE543 := hs_ hg; replace HB := bS_ hb; clear hb hbox hg; obtain ⟨hcz11_0, hcz11_1, hcz11_2, hcz11_3, hcz11_4, hcz11_5, hfz11_0, hfz11_1, hfz11_2, hfz11_3, hfz11_4, hfz11_5⟩ := bk6_ BK543.out) | ((with_reducible refine gC_ 133 ?_); refine gL_ 4 Tryz.func133 #[.agg #[.int .i64 a0_0, .int .i64 a0_1, .string a0_2, .slice A0_3 l0_3.length c0_3, .string a0_4, .slice A0_5 l0_5.length c0_5]] ?_; (with_reducible refine (spec_ElDeep.calls k a0_0 a0_1 a0_2 _ _ l0_3 a0_4 _ _ l0_5 t544 _ ?side1 ?side2 ?side3 ?side4 A2.out).mono ?_); (case side1 => exact Kd.C_below HR0_3.out hB_); (case side2 => exact HC0_3.out); (case side3 => exact Kd.C_below HR0_5.out hB_); (case side4 => exact HC0_5.out); rintro e w12 ⟨rfl, hb⟩; refine ⟨_, rfl, ?_⟩; replace BK543 := A_ (blk_below (g := gb543) (o := .cells #[.int .i64 a0_0, .int .i64 a0_1, .string a0_2, .slice A0_3 l0_3.length c0_3, .string a0_4, .slice A0_5 l0_5.length c0_5] 43 (0, 0)) (blk_below BK543.out hR_) hb); replace HB := bS_ hb; clear hb))
  go_ret
  exact ⟨e1_, hB_⟩
def spec_l1Bit.f (a0 : Bool) : Option (Int) := if a0 = true then (some 1) else (some 0)
theorem spec_l1Bit.calls (a0 : Bool) (r : Int) (w : World) (h : spec_l1Bit.f a0 = some r) :
  Calls Tryz.prog 140 #[.bool a0] w fun e w' => e = .returned (.int .i64 r) ∧ Drawn0 w w' := by
 have H : (if a0 = true then (some 1) else (some 0)) = some r := h;clear h;by_cases c2 : a0 = true
 ·subst c2;rw [if_pos rfl] at H;obtain rfl := sI_ H;go_enter Tryz.func140, Tryz.ntmps140
  go_wp2
  go_ret
  exact ⟨e2_, d0_⟩
 ·replace c2 := bF_ c2;subst c2;rw [if_neg nF_] at H;obtain rfl := sI_ H;go_enter Tryz.func140, Tryz.ntmps140
  go_wp2
  go_ret
  exact ⟨e2_, d0_⟩
mutual
def spec_ElSize.l0 : Nat → Int → Int → Int → Int → ByteArray → List (S36) → ByteArray → List (S43) → Option (Int)
 | 0, _, _, _, _, _, _, _, _ => none
 | k + 1, x3, x4, x547000, x547001, x547002, x547003, x547004, x547005 => if x4 < (x547005.length : Int) then (if 0 ≤ x4 then ((spec_ElSize.f k ((rd_T43 x547005 x4).f0) ((rd_T43 x547005 x4).f1) ((rd_T43 x547005 x4).f2) ((rd_T43 x547005 x4).f3) ((rd_T43 x547005 x4).f4) ((rd_T43 x547005 x4).f5)).bind fun t548 => (spec_ElSize.l0 k (wrap64 (x3 + t548)) (wrap64 (x4 + 1)) x547000 x547001 x547002 x547003 x547004 x547005)) else (none)) else (some x3)
def spec_ElSize.f : Nat → Int → Int → ByteArray → List (S36) → ByteArray → List (S43) → Option (Int)
 | 0, _, _, _, _, _, _ => none
 | k + 1, a0_0, a0_1, a0_2, l0_3, a0_4, l0_5 => spec_ElSize.l0 k 1 0 a0_0 a0_1 a0_2 l0_3 a0_4 l0_5
end
theorem spec_ElSize.mono_l : ∀ k, (∀ y0 y1 y2 y3 y4 y5, LeO (spec_ElSize.f k y0 y1 y2 y3 y4 y5) (spec_ElSize.f (k + 1) y0 y1 y2 y3 y4 y5)) ∧ (∀ y0 y1 y2 y3 y4 y5 y6 y7, LeO (spec_ElSize.l0 k y0 y1 y2 y3 y4 y5 y6 y7) (spec_ElSize.l0 (k + 1) y0 y1 y2 y3 y4 y5 y6 y7))
 | 0 => ⟨fun _ _ _ _ _ _ r h => by simp [spec_ElSize.f] at h, fun _ _ _ _ _ _ _ _ r h => by simp [spec_ElSize.l0] at h⟩
 | k + 1 => by
  obtain ⟨ih0, ih1⟩ := spec_ElSize.mono_l k;refine ⟨?_, ?_⟩
  ·intro y0 y1 y2 y3 y4 y5;unfold spec_ElSize.f;with_reducible repeat' first | exact ih0 _ _ _ _ _ _ | exact ih1 _ _ _ _ _ _ _ _ | apply LeO.refl | apply LeO.none | apply LeO.ite | apply LeO.bind | intro
  ·intro y0 y1 y2 y3 y4 y5 y6 y7;unfold spec_ElSize.l0;with_reducible repeat' first | exact ih0 _ _ _ _ _ _ | exact ih1 _ _ _ _ _ _ _ _ | apply LeO.refl | apply LeO.none | apply LeO.ite | apply LeO.bind | intro
theorem spec_ElSize.mono : ∀ a0 a1 a2 a3 a4 a5 k, LeO (spec_ElSize.f k a0 a1 a2 a3 a4 a5) (spec_ElSize.f (k + 1) a0 a1 a2 a3 a4 a5) := by
 intro a0 a1 a2 a3 a4 a5 k;obtain ⟨ih0, ih1⟩ := spec_ElSize.mono_l k;exact ih0 a0 a1 a2 a3 a4 a5
theorem spec_ElSize.calls (k : Nat) : ∀ (a0_0 : Int) (a0_1 : Int) (a0_2 : BA) (A0_3 : Option Addr) (c0_3 : Nat) (l0_3 : List (S36)) (a0_4 : BA) (A0_5 : Option Addr) (c0_5 : Nat) (l0_5 : List (S43)) (r : Int) (w : World) (hr0_3 : Kd.C k36 w A0_3 l0_3.length l0_3) (hc0_3 : l0_3.length ≤ c0_3) (hr0_5 : Kd.C k43 w A0_5 l0_5.length l0_5) (hc0_5 : l0_5.length ≤ c0_5) (h : spec_ElSize.f k a0_0 a0_1 a0_2 l0_3 a0_4 l0_5 = some r),
  Calls Tryz.prog 141 #[.agg #[.int .i64 a0_0, .int .i64 a0_1, .string a0_2, .slice A0_3 l0_3.length c0_3, .string a0_4, .slice A0_5 l0_5.length c0_5]] w fun e w' => e = .returned (.int .i64 r) ∧ Below w.heap.size w w' := by
 induction k using Nat.strongRecOn with
 | _ k ih =>
 intro a0_0 a0_1 a0_2 A0_3 c0_3 l0_3 a0_4 A0_5 c0_5 l0_5 r w hr0_3 hc0_3 hr0_5 hc0_5 h;cases k with
 | zero => exact absurd h (by simp [spec_ElSize.f])
 | succ k =>
 simp only [spec_ElSize.f] at h;have hu43 := Tryz.underlying43;have HR0_3 := A_ hr0_3;have HC0_3 := A_ hc0_3;clear hr0_3 hc0_3;have HR0_5 := A_ hr0_5;have HC0_5 := A_ hc0_5;clear hr0_5 hc0_5;have HB := A_ (Below.refl w.heap.size w);have H : (spec_ElSize.l0 k 1 0 a0_0 a0_1 a0_2 l0_3 a0_4 l0_5) = some r := h;clear h;have H' := A_ H;clear H;go_enter Tryz.func141, Tryz.ntmps141
 go_wp2_with (first | ((with_reducible refine gate_dst (N := 1) rfl ?_); refine bE_ #[.int .i64 a0_0, .int .i64 a0_1, .string a0_2, .slice A0_3 l0_3.length c0_3, .string a0_4, .slice A0_5 l0_5.length c0_5] 43 ?_; intro gb546 hg w2 hbox hb; have BK546 := A_ (hbox); have GW546 := hs_ hg; have GE546 := hs_ hg; replace HB := bS_ hb; clear hb hbox hg))
 go_loopg [3, 4] k (fun kq v3 v4 w' => ∃ (x3_1 : Int) (x4_1 : Int), v3 = .int .i64 x3_1 ∧ v4 = .int .i64 x4_1 ∧ As9 (spec_ElSize.l0 kq x3_1 x4_1 a0_0 a0_1 a0_2 l0_3 a0_4 l0_5 = some r) ∧ As9 (kq ≤ k) ∧ As9 (w'.heap[gb546]? = some (.cells #[.int .i64 a0_0, .int .i64 a0_1, .string a0_2, (.slice A0_3 l0_3.length c0_3), .string a0_4, (.slice A0_5 l0_5.length c0_5)] 43 (0, 0))) ∧ As9 (Below w.heap.size w w'))
 case atStart => exact ⟨(1), (0), e2_, e2_, H', ⟨Nat.le_refl _⟩, ⟨blk_below BK546.out hR_⟩, ⟨hB_⟩⟩
 case round =>
  clear H';try clear c1
  try clear p2
  obtain ⟨x3_1, x4_1, rfl, rfl, HA, HK1, BK546, HB⟩ := hrel;cases gk with
  | zero => exact absurd HA.out (by simp [spec_ElSize.l0])
  | succ k1 =>
   have H := HA.out;clear HA;simp only [spec_ElSize.l0] at H;rcases ic_ H with ⟨c3, H⟩ | ⟨c3, H⟩
   ·have c3b0 := dE_ c3;clear c3;obtain ⟨c4, H⟩ := ifn_ H;have c4b0 := dE_ c4;clear c4;obtain ⟨t548, A5, H⟩ := ob_ H;(try dsimp only at H)
    have H' := A_ H;clear H;obtain ⟨hcz6_0, hcz6_1, hcz6_2, hcz6_3, hcz6_4, hcz6_5, hfz6_0, hfz6_1, hfz6_2, hfz6_3, hfz6_4, hfz6_5⟩ := bk6_ BK546.out;obtain ⟨p547, q547, ad547, A547_3, c547_3, A547_5, c547_5, e547, hx547_0, hx547_1, hx547_2, hx547_3, hx547_4, hx547_5, HC547_3, HR547_3, HC547_5, HR547_5⟩ := aB43_ HB.out HR0_5.out x4_1;cases e547;go_wp2_with (first | ((with_reducible refine gC_ 141 ?_); refine gL_ 18 Tryz.func141 #[.agg #[.int .i64 ((rd_T43 l0_5 x4_1).f0), .int .i64 ((rd_T43 l0_5 x4_1).f1), .string ((rd_T43 l0_5 x4_1).f2), .slice A547_3 ((rd_T43 l0_5 x4_1).f3).length c547_3, .string ((rd_T43 l0_5 x4_1).f4), .slice A547_5 ((rd_T43 l0_5 x4_1).f5).length c547_5]] ?_; (with_reducible refine (ih k1 (by have := HK1.out; omega) ((rd_T43 l0_5 x4_1).f0) ((rd_T43 l0_5 x4_1).f1) ((rd_T43 l0_5 x4_1).f2) _ _ ((rd_T43 l0_5 x4_1).f3) ((rd_T43 l0_5 x4_1).f4) _ _ ((rd_T43 l0_5 x4_1).f5) t548 _ ?side1 ?side2 ?side3 ?side4 A5.out).mono ?_); (case side1 => exact Kd.C_below HR547_3.out hB_); (case side2 => exact HC547_3.out); (case side3 => exact Kd.C_below HR547_5.out hB_); (case side4 => exact HC547_5.out); rintro e w7 ⟨rfl, hb⟩; refine ⟨_, rfl, ?_⟩; replace BK546 := A_ (blk_below (g := gb546) (o := .cells #[.int .i64 a0_0, .int .i64 a0_1, .string a0_2, .slice A0_3 l0_3.length c0_3, .string a0_4, .slice (some ad547) l0_5.length c0_5] 43 (0, 0)) (blk_below BK546.out hR_) hb); replace HB := bS_ hb; clear hb))
    go_roundg k1
    case measure => have := HK1.out; omega
    case rel => exact ⟨(wrap64 (x3_1 + t548)), (wrap64 (x4_1 + 1)), e2_, e2_, H', ⟨by have := HK1.out; omega⟩, ⟨blk_below BK546.out hR_⟩, ⟨hB_⟩⟩
   ·have c3b0 := dF_ c3;clear c3;obtain rfl := sI_ H;obtain ⟨hcz8_0, hcz8_1, hcz8_2, hcz8_3, hcz8_4, hcz8_5, hfz8_0, hfz8_1, hfz8_2, hfz8_3, hfz8_4, hfz8_5⟩ := bk6_ BK546.out;go_wp2
    go_ret
    exact ⟨e1_, hB_⟩
mutual
def spec_DocOk.l0 : Nat → List (S43) → Int → Int → Int → Option (Bool)
 | 0, _, _, _, _ => none
 | k + 1, x0, x3, x4, x5 => if x5 < (x0.length : Int) then (if 0 ≤ x5 then ((spec_ElOk.f k ((rd_T43 x0 x5).f0) ((rd_T43 x0 x5).f1) ((rd_T43 x0 x5).f2) ((rd_T43 x0 x5).f3) ((rd_T43 x0 x5).f4) ((rd_T43 x0 x5).f5)).bind fun t550 => (if t550 = true then (spec_DocOk.j1 k x0 x3 x4 x5 (((rd_T43 x0 x5).f0) == 2)) else (spec_DocOk.j1 k x0 x3 x4 x5 true))) else (none)) else (if x3 = 1 then (some (decide (x4 ≤ 3000))) else (some false))
def spec_DocOk.j1 : Nat → List (S43) → Int → Int → Int → Bool → Option (Bool)
 | 0, _, _, _, _, _ => none
 | k + 1, x0, x3, x4, x5, x25 => if x25 = true then (some false) else (if 0 ≤ x5 then (if x5 < (x0.length : Int) then ((spec_l1Bit.f (((rd_T43 x0 x5).f0) == 1)).bind fun t553 => ((spec_ElSize.f k ((rd_T43 x0 x5).f0) ((rd_T43 x0 x5).f1) ((rd_T43 x0 x5).f2) ((rd_T43 x0 x5).f3) ((rd_T43 x0 x5).f4) ((rd_T43 x0 x5).f5)).bind fun t555 => (spec_DocOk.l0 k x0 (wrap64 (x3 + t553)) (wrap64 (x4 + t555)) (wrap64 (x5 + 1))))) else (none)) else (none))
end
def spec_DocOk.f (k : Nat) (l0 : List (S43)) : Option (Bool) := spec_DocOk.l0 k l0 0 0 0
theorem spec_DocOk.mono_l : ∀ k, (∀ y0 y1 y2 y3, LeO (spec_DocOk.l0 k y0 y1 y2 y3) (spec_DocOk.l0 (k + 1) y0 y1 y2 y3)) ∧ (∀ y0 y1 y2 y3 y4, LeO (spec_DocOk.j1 k y0 y1 y2 y3 y4) (spec_DocOk.j1 (k + 1) y0 y1 y2 y3 y4))
 | 0 => ⟨fun _ _ _ _ r h => by simp [spec_DocOk.l0] at h, fun _ _ _ _ _ r h => by simp [spec_DocOk.j1] at h⟩
 | k + 1 => by
  obtain ⟨ih0, ih1⟩ := spec_DocOk.mono_l k;refine ⟨?_, ?_⟩
  ·intro y0 y1 y2 y3;unfold spec_DocOk.l0;with_reducible repeat' first | exact ih0 _ _ _ _ | exact ih1 _ _ _ _ _ | exact spec_ElOk.mono _ _ _ _ _ _ _ | exact spec_ElSize.mono _ _ _ _ _ _ _ | apply LeO.refl | apply LeO.none | apply LeO.ite | apply LeO.bind | intro
  ·intro y0 y1 y2 y3 y4;unfold spec_DocOk.j1;with_reducible repeat' first | exact ih0 _ _ _ _ | exact ih1 _ _ _ _ _ | exact spec_ElOk.mono _ _ _ _ _ _ _ | exact spec_ElSize.mono _ _ _ _ _ _ _ | apply LeO.refl | apply LeO.none | apply LeO.ite | apply LeO.bind | intro
theorem spec_DocOk.mono : ∀ a0 k, LeO (spec_DocOk.f k a0) (spec_DocOk.f (k + 1) a0) := by
 intro a0 k;obtain ⟨ih0, ih1⟩ := spec_DocOk.mono_l k;unfold spec_DocOk.f;with_reducible repeat' first | exact ih0 _ _ _ _ | exact ih1 _ _ _ _ _ | exact spec_ElOk.mono _ _ _ _ _ _ _ | exact spec_ElSize.mono _ _ _ _ _ _ _ | apply LeO.refl | apply LeO.none | apply LeO.ite | apply LeO.bind | intro
theorem spec_DocOk.calls (k : Nat) (A0 : Option Addr) (c0 : Nat) (l0 : List (S43)) (r : Bool) (w : World) (hr0 : Kd.C k43 w A0 l0.length l0) (hc0 : l0.length ≤ c0) (h : spec_DocOk.f k l0 = some r) :
  Calls Tryz.prog 93 #[.slice A0 l0.length c0] w fun e w' => e = .returned (.bool r) ∧ Below w.heap.size w w' := by
 have hu43 := Tryz.underlying43;have HR0 := A_ hr0;have HC0 := A_ hc0;clear hr0 hc0;have HB := A_ (Below.refl w.heap.size w);have H : (spec_DocOk.l0 k l0 0 0 0) = some r := h;clear h;have H' := A_ H;clear H;go_enter Tryz.func93, Tryz.ntmps93
 go_wp2
 go_loopg [3, 4, 5] k (fun kq v3 v4 v5 w' => ∃ (x3_1 : Int) (x4_1 : Int) (x5_1 : Int), v3 = .int .i64 x3_1 ∧ v4 = .int .i64 x4_1 ∧ v5 = .int .i64 x5_1 ∧ As9 (spec_DocOk.l0 kq l0 x3_1 x4_1 x5_1 = some r) ∧ As9 (kq ≤ k) ∧ As9 (Below w.heap.size w w'))
 case atStart => exact ⟨(0), (0), (0), e2_, e2_, e2_, H', ⟨Nat.le_refl _⟩, ⟨hB_⟩⟩
 case round =>
  clear H';obtain ⟨x3_1, x4_1, x5_1, rfl, rfl, rfl, HA, HK1, HB⟩ := hrel;cases gk with
  | zero => exact absurd HA.out (by simp [spec_DocOk.l0])
  | succ k1 =>
   have H := HA.out;clear HA;simp only [spec_DocOk.l0] at H;rcases ic_ H with ⟨c2, H⟩ | ⟨c2, H⟩
   ·have c2b0 := dE_ c2;clear c2;have HC3 := A_ H;clear H;go_upto_region 5 with (fail)
    go_cut [25] (fun v25 wc => ∃ (kq : Nat) (x25_2 : Bool), v25 = .bool x25_2 ∧ As9 (spec_DocOk.j1 kq l0 x3_1 x4_1 x5_1 x25_2 = some r) ∧ As9 (kq ≤ k1) ∧ As9 (Below w.heap.size w wc))
    case first =>
     have H := HC3.out;clear HC3;obtain ⟨c4, H⟩ := ifn_ H;have c4b0 := dE_ c4;clear c4;(first | rw [c4b0] | (simp only [i64_w, i32_w]; rw [c4b0]) | skip)
     obtain ⟨t550, A5, H⟩ := ob_ H;(try dsimp only at H)
     by_cases c6 : t550 = true
     ·subst c6;rw [if_pos rfl] at H;have H' := A_ H;clear H;obtain ⟨p549, q549, ad549, A549_3, c549_3, A549_5, c549_5, e549, hx549_0, hx549_1, hx549_2, hx549_3, hx549_4, hx549_5, HC549_3, HR549_3, HC549_5, HR549_5⟩ := aB43_ HB.out HR0.out x5_1;cases e549;go_wp2_with (first | ((with_reducible refine gC_ 85 ?_); refine gL_ 16 Tryz.func85 #[.agg #[.int .i64 ((rd_T43 l0 x5_1).f0), .int .i64 ((rd_T43 l0 x5_1).f1), .string ((rd_T43 l0 x5_1).f2), .slice A549_3 ((rd_T43 l0 x5_1).f3).length c549_3, .string ((rd_T43 l0 x5_1).f4), .slice A549_5 ((rd_T43 l0 x5_1).f5).length c549_5]] ?_; (with_reducible refine (spec_ElOk.calls k1 ((rd_T43 l0 x5_1).f0) ((rd_T43 l0 x5_1).f1) ((rd_T43 l0 x5_1).f2) _ _ ((rd_T43 l0 x5_1).f3) ((rd_T43 l0 x5_1).f4) _ _ ((rd_T43 l0 x5_1).f5) true _ ?side1 ?side2 ?side3 ?side4 A5.out).mono ?_); (case side1 => exact Kd.C_below HR549_3.out hB_); (case side2 => exact HC549_3.out); (case side3 => exact Kd.C_below HR549_5.out hB_); (case side4 => exact HC549_5.out); rintro e w7 ⟨rfl, hb⟩; refine ⟨_, rfl, ?_⟩; replace HB := bS_ hb; clear hb; obtain ⟨p551, q551, ad551, A551_3, c551_3, A551_5, c551_5, e551, hx551_0, hx551_1, hx551_2, hx551_3, hx551_4, hx551_5, HC551_3, HR551_3, HC551_5, HR551_5⟩ := aB43_ HB.out HR0.out x5_1; obtain rfl : ad549 = ad551 := (by injection e551)))
      go_meet
      case rel => exact ⟨_, ((((rd_T43 l0 x5_1).f0) == 2)), e2_, H', ⟨by have := HK1.out; first | omega | exact Nat.le_refl _⟩, ⟨hB_⟩⟩
     ·replace c6 := bF_ c6;subst c6;rw [if_neg nF_] at H;have H' := A_ H;clear H;obtain ⟨p549, q549, ad549, A549_3, c549_3, A549_5, c549_5, e549, hx549_0, hx549_1, hx549_2, hx549_3, hx549_4, hx549_5, HC549_3, HR549_3, HC549_5, HR549_5⟩ := aB43_ HB.out HR0.out x5_1;cases e549;go_wp2_with (first | ((with_reducible refine gC_ 85 ?_); refine gL_ 16 Tryz.func85 #[.agg #[.int .i64 ((rd_T43 l0 x5_1).f0), .int .i64 ((rd_T43 l0 x5_1).f1), .string ((rd_T43 l0 x5_1).f2), .slice A549_3 ((rd_T43 l0 x5_1).f3).length c549_3, .string ((rd_T43 l0 x5_1).f4), .slice A549_5 ((rd_T43 l0 x5_1).f5).length c549_5]] ?_; (with_reducible refine (spec_ElOk.calls k1 ((rd_T43 l0 x5_1).f0) ((rd_T43 l0 x5_1).f1) ((rd_T43 l0 x5_1).f2) _ _ ((rd_T43 l0 x5_1).f3) ((rd_T43 l0 x5_1).f4) _ _ ((rd_T43 l0 x5_1).f5) false _ ?side1 ?side2 ?side3 ?side4 A5.out).mono ?_); (case side1 => exact Kd.C_below HR549_3.out hB_); (case side2 => exact HC549_3.out); (case side3 => exact Kd.C_below HR549_5.out hB_); (case side4 => exact HC549_5.out); rintro e w8 ⟨rfl, hb⟩; refine ⟨_, rfl, ?_⟩; replace HB := bS_ hb; clear hb))
      go_meet
      case rel => exact ⟨_, (true), e2_, H', ⟨by have := HK1.out; first | omega | exact Nat.le_refl _⟩, ⟨hB_⟩⟩
    case rest =>
     clear HC3;try clear c2
     try clear c2b0
     try clear p2
     try clear c4
     try clear c4b0
     try clear c5
     try clear p5
     try clear q5
     try clear hx5
     try clear c6
     try clear c8
     try clear hx549_0
     try clear hx549_1
     try clear hx549_2
     try clear hx549_3
     try clear hx549_4
     try clear hx549_5
     try clear hx551_0
     try clear hx551_1
     try clear hx551_2
     try clear hx551_3
     try clear hx551_4
     try clear hx551_5
     try clear p549
     try clear p551
     try clear q549
     try clear q551
     obtain ⟨kq, x25_2, rfl, HA, HJ2, HB⟩ := hcut;cases kq with
     | zero => exact absurd HA.out (by simp [spec_DocOk.j1])
     | succ kj2 =>
      have H := HA.out;clear HA;simp only [spec_DocOk.j1] at H;by_cases c9 : x25_2 = true
      ·subst c9;rw [if_pos rfl] at H;obtain rfl := sI_ H;go_wp2
       go_ret
       exact ⟨e1_, hB_⟩
      ·replace c9 := bF_ c9;subst c9;rw [if_neg nF_] at H;obtain ⟨c10, H⟩ := ifn_ H;have c10b0 := dE_ c10;clear c10;obtain ⟨c11, H⟩ := ifn_ H;have c11b0 := dE_ c11;clear c11;obtain ⟨t553, A12, H⟩ := ob_ H;obtain ⟨t555, A13, H⟩ := ob_ H;(try dsimp only at H)
       have H' := A_ H;clear H;obtain ⟨p552, q552, ad552, A552_3, c552_3, A552_5, c552_5, e552, hx552_0, hx552_1, hx552_2, hx552_3, hx552_4, hx552_5, HC552_3, HR552_3, HC552_5, HR552_5⟩ := aB43_ HB.out HR0.out x5_1;cases e552;go_wp2_with (first | ((with_reducible refine gC_ 140 ?_); refine gL_ 33 Tryz.func140 #[.bool (((rd_T43 l0 x5_1).f0) == 1)] ?_; (with_reducible refine (spec_l1Bit.calls (((rd_T43 l0 x5_1).f0) == 1) t553 _ A12.out).mono ?_); rintro e w' ⟨rfl, ⟨nd, rfl⟩⟩; refine ⟨_, rfl, ?_⟩; obtain ⟨p554, q554, ad554, A554_3, c554_3, A554_5, c554_5, e554, hx554_0, hx554_1, hx554_2, hx554_3, hx554_4, hx554_5, HC554_3, HR554_3, HC554_5, HR554_5⟩ := aB43_ HB.out HR0.out x5_1; obtain rfl : ad552 = ad554 := (by injection e554); have ea_ := sI_ (hx552_3.symm.trans hx554_3); injection ea_ with ea_ en_ ec_; subst ea_; subst ec_; clear en_; have ea_ := sI_ (hx552_5.symm.trans hx554_5); injection ea_ with ea_ en_ ec_; subst ea_; subst ec_; clear en_) | ((with_reducible refine gC_ 141 ?_); refine gL_ 40 Tryz.func141 #[.agg #[.int .i64 ((rd_T43 l0 x5_1).f0), .int .i64 ((rd_T43 l0 x5_1).f1), .string ((rd_T43 l0 x5_1).f2), .slice A552_3 ((rd_T43 l0 x5_1).f3).length c552_3, .string ((rd_T43 l0 x5_1).f4), .slice A552_5 ((rd_T43 l0 x5_1).f5).length c552_5]] ?_; (with_reducible refine (spec_ElSize.calls kj2 ((rd_T43 l0 x5_1).f0) ((rd_T43 l0 x5_1).f1) ((rd_T43 l0 x5_1).f2) _ _ ((rd_T43 l0 x5_1).f3) ((rd_T43 l0 x5_1).f4) _ _ ((rd_T43 l0 x5_1).f5) t555 _ ?side1 ?side2 ?side3 ?side4 A13.out).mono ?_); (case side1 => repeat (first | exact (Kd.C_below HR554_3.out hB_) | (with_reducible refine Kd.C_alloc ?_ _) | (with_reducible refine Kd.C_drewN ?_ _) | (with_reducible refine Kd.C_drew ?_))); (case side2 => exact HC554_3.out); (case side3 => repeat (first | exact (Kd.C_below HR554_5.out hB_) | (with_reducible refine Kd.C_alloc ?_ _) | (with_reducible refine Kd.C_drewN ?_ _) | (with_reducible refine Kd.C_drew ?_))); (case side4 => exact HC554_5.out); rintro e w14 ⟨rfl, hb⟩; refine ⟨_, rfl, ?_⟩; replace HB := bS_ hb; clear hb))
       go_roundg kj2
       case measure => have := HK1.out; have := HJ2.out; omega
       case rel => exact ⟨(wrap64 (x3_1 + t553)), (wrap64 (x4_1 + t555)), (wrap64 (x5_1 + 1)), e2_, e2_, e2_, H', ⟨by have := HK1.out; have := HJ2.out; omega⟩, ⟨hB_⟩⟩
   ·have c2b0 := dF_ c2;clear c2;rcases ic_ H with ⟨c15, H⟩ | ⟨c15, H⟩
    ·obtain ⟨c15b0, c15b1⟩ := be_ c15;clear c15;obtain rfl := sI_ H;go_wp2
     go_ret
     exact ⟨e1_, hB_⟩
    ·obtain ⟨c15b0, c15b1⟩ := bn_ c15;obtain rfl := sI_ H;go_wp2
     go_ret
     exact ⟨e1_, hB_⟩
structure Rds (w W : World) (g : Nat) (s : BA) (p : Int) (b : Bool) (v : Value) (out : List S43) : Prop where
 st : IsS89 w W g s p b
 nr : k43.R 43 W w.heap.size (fun k_ => k_ ≠ g) v out
 bl : Below w.heap.size w W
theorem Rds.state {w W W' : World} {g : Nat} {s s' : BA} {p p' : Int} {b b' : Bool} {v : Value} {out : List S43} (h : Rds w W g s p b v out) (hi : IsS89 w W' g s' p' b') (hb : Below w.heap.size w W') (hk : KeepBut W W' g none) : Rds w W' g s' p' b' v out := ⟨hi, Kd.R_keep h.nr hk (fun k hk => hk), hb⟩
theorem Rds.below {w W W' : World} {g : Nat} {s : BA} {p : Int} {b : Bool} {v : Value} {out : List S43} (h : Rds w W g s p b v out) (hb : Below W.heap.size W W') : Rds w W' g s p b v out := h.state (h.st.below hb) (below_step h.bl hb) (KeepBut.of_below hb g none)
theorem Rds.ok_ {w W : World} {g : Nat} {s : BA} {p : Int} {b : Bool} {v : Value} {out : List S43} (h : Rds w W g s p b v out) (x : Bool) : Rds w (W.setCell ⟨g, 2, none⟩ (.bool x)) g s p x v out := h.state (h.st.set_2 x) (below_set h.bl h.st.2) ((KeepBut.refl W g none).set_ 2 _)
theorem Rds.at_ {w W : World} {g : Nat} {s : BA} {p : Int} {b : Bool} {v : Value} {out : List S43} (h : Rds w W g s p b v out) (x : Int) : Rds w (W.setCell ⟨g, 1, none⟩ (.int .i64 x)) g s x b v out := h.state (h.st.set_1 x) (below_set h.bl h.st.2) ((KeepBut.refl W g none).set_ 1 _)
theorem Rds.app {w W W' : World} {g : Nat} {s : BA} {p : Int} {b : Bool} {v v' : Value} {out : List S43} (h : Rds w W g s p b v out) {x : S43} (ho : k43.R 43 W' w.heap.size (fun k_ => k_ ≠ g) v' (out ++ [x])) (hb : Below w.heap.size w W') (hg : W.grownBy W' v.ownBlock) : Rds w W' g s p b v' (out ++ [x]) := ⟨h.st.grown hg (h.st.own_ne h.nr de_), ho, hb⟩
def sNext (n : Nat) (s : BA) (p : Int) : Option (S43 × ByteArray × Int × Bool) := (spec_l5Stands.f s p ⟨#[60, 33, 45, 45]⟩).bind fun z =>
 if z = true then (spec_XmlNote.f n s p).bind fun q => (spec_l1Max.f q.2 0).bind fun m => some (⟨3, 0, ⟨#[]⟩, [], q.1, []⟩, s, m, decide (q.2 ≥ 0)) else spec_l19El.f n s p true (-1) 60
def sReadL : Nat → ByteArray → ByteArray → Int → Bool → List S43 → Option (List S43 × ByteArray × Int × Bool)
 | 0, _, _, _, _, _ => none
 | n + 1, a0, s, p, b, out => if b = true then (if p < (a0.size : Int) then (if s = a0 then (if out.length < 1000000000000 then (sNext n a0 p).bind fun e => (spec_l19Take.f e.2.1 e.2.2.1 e.2.2.2 ⟨#[10]⟩).bind fun t => sReadL n a0 t.1 t.2.1 t.2.2 (out ++ [e.1]) else none) else none) else some (out, s, p, true)) else some (out, s, p, false)
theorem sReadL_mono : ∀ k y0 y1 y2 y3 y4, LeO (sReadL k y0 y1 y2 y3 y4) (sReadL (k + 1) y0 y1 y2 y3 y4)
 | 0 => fun _ _ _ _ _ r h => by simp [sReadL] at h
 | k + 1 => by
  have ih := sReadL_mono k;intro y0 y1 y2 y3 y4;rw [sReadL, sReadL];exact LeO.ite (LeO.ite (LeO.ite (LeO.ite (LeO.bind (LeO.bind (LeO.refl _) fun z => LeO.ite (LeO.bind (spec_XmlNote.mono _ _ _) fun q => LeO.refl _) (spec_l19El.mono _ _ _ _ _ _)) fun e => LeO.bind (LeO.refl _) fun t => ih _ _ _ _ _) (LeO.refl _)) (LeO.refl _)) (LeO.refl _)) (LeO.refl _)
def spec_Read.f (k : Nat) (a0 : BA) : Option (List S43 × Bool) := if (a0.size : Int) > 200000 then some ([], false) else
 (spec_l19Take.f a0 0 true ⟨#[60, 63, 120, 109, 108, 32, 118, 101, 114, 115, 105, 111, 110, 61, 34, 49, 46, 48, 34, 63, 62, 10]⟩).bind fun t => (sReadL k a0 t.1 t.2.1 t.2.2 []).bind fun r => if r.2.2.2 = true then (spec_DocOk.f k r.1).bind fun d => (if d = true then some (r.1, true) else some ([], false)) else some ([], false)
theorem spec_Read.mono : ∀ a0 k, LeO (spec_Read.f k a0) (spec_Read.f (k + 1) a0) := fun _ k => LeO.ite (LeO.refl _) (LeO.bind (LeO.refl _) fun t => LeO.bind (sReadL_mono k _ _ _ _ _) fun r => LeO.ite (LeO.bind (spec_DocOk.mono _ _) fun d => LeO.refl _) (LeO.refl _))
theorem spec_Read.calls (k : Nat) (a0 : BA) (r1 : List S43) (r2 : Bool) (w : World) (h : spec_Read.f k a0 = some (r1, r2)) :
  Calls Tryz.prog 38 #[.string a0] w fun e w' => ∃ v0_ : Value, e = .returned (.tuple #[v0_, .bool r2]) ∧ Kd.R k43 43 w' w.heap.size (fun _ => True) v0_ r1 ∧ Below w.heap.size w w' := by
 have hu := Tryz.underlying89;have hu2 := Tryz.underlying43;unfold spec_Read.f at h;go_enter Tryz.func38, Tryz.ntmps38
 by_cases d1 : (a0.size : Int) > 200000
 ·rw [if_pos d1] at h;simp only [Option.some.injEq, Prod.mk.injEq] at h;obtain ⟨rfl, rfl⟩ := h;go_wp2_with (((with_reducible refine gate_dst (N := 8) rfl ?_); refine Kd.R_lit (w0 := w) k43 w.heap.size 43 ?hg (N := 8) ?hd (xs := ([] : List S43)) (inner := []) (ok := fun k_ => w.heap.size ≤ k_ ∧ k_ ≤ w.heap.size) (okp := fun _ => False) ?hr ?hp (fun _ hk => hk.elim) ⟨Nat.le_refl _, Nat.le_refl _⟩ (Below.refl _ _) (Nat.le_refl _) si_ ?_; (case hd => rfl); (case hg => rfl); (case hr => first | (go_simp; done) | (go_simp; rfl)); (case hp => exact (Reps.none _ _)); intro v8 w2 ho hb hg_ hnew_; have HO := A_ ho; have HB := A_ hb; obtain ⟨A8, c8, rfl⟩ := Kd.R_slice ho; clear ho hb hg_ hnew_))
  go_ret2
  exact ⟨_, rfl, Kd.R_mono HO.out (fun _ _ => trivial), HB.out⟩
 ·rw [if_neg d1] at h;obtain ⟨⟨s1, p1, b1⟩, ht1, h⟩ := oB_ h;obtain ⟨⟨rs, s2, p2, b2⟩, hrs, h⟩ := oB_ h;dsimp only at hrs h;have Ht1 := A_ ht1;have Hrs := A_ hrs;have HD := A_ h;clear ht1 hrs h;go_wp2_with (first | ((with_reducible refine gate_dst (N := 8) rfl ?_); refine Kd.R_lit (w0 := w) k43 w.heap.size 43 ?hg (N := 8) ?hd (xs := ([] : List S43)) (inner := []) (ok := fun k_ => w.heap.size ≤ k_ ∧ k_ ≤ w.heap.size) (okp := fun _ => False) ?hr ?hp (fun _ hk => hk.elim) ⟨Nat.le_refl _, Nat.le_refl _⟩ (Below.refl _ _) (Nat.le_refl _) si_ ?_; (case hd => rfl); (case hg => rfl); (case hr => first | (go_simp; done) | (go_simp; rfl)); (case hp => exact (Reps.none _ _)); intro v8 w2 ho hb hg_ hnew_; have HO := A_ ho; have HB := A_ hb; obtain ⟨A8, c8, rfl⟩ := Kd.R_slice ho; clear ho hb hg_ hnew_) | ((with_reducible refine gate_dst (N := 15) rfl ?_); refine bE_ #[.string a0, .int .i64 0, .bool true] 89 ?_; intro g hg_ w3 hbox hb; have HT0 := A_ (show Rds w w3 g a0 0 true (.slice A8 ([] : List S43).length c8) [] from ⟨⟨hbox, by rw [hg_]; exact HB.out.size⟩, Kd.R_mono (Kd.R_below (Kd.R_bound HO.out) hb) (fun k hk => by have := hk.2.2.1; omega), below_step HB.out hb⟩); clear hg_ hbox hb HO HB) | (go_at_call 91; (with_reducible refine (spec_l19Take.calls g a0 0 true ⟨#[60, 63, 120, 109, 108, 32, 118, 101, 114, 115, 105, 111, 110, 61, 34, 49, 46, 48, 34, 63, 62, 10]⟩ s1 p1 b1 w _ HT0.out.st HT0.out.bl Ht1.out).mono ?_); rintro e w4 ⟨rfl, hi, hb, hk⟩; have HT := A_ (HT0.out.state hi hb hk); clear hi hb hk HT0))
  go_loopg [4] k (fun kq v4 wr => ∃ (out : List S43) (s : BA) (p : Int) (b : Bool), As9 (sReadL kq a0 s p b out = some (rs, s2, p2, b2)) ∧ As9 (Rds w wr g s p b v4 out) ∧ As9 (kq ≤ k))
  case atStart => exact ⟨[], s1, p1, b1, Hrs, HT, ⟨Nat.le_refl _⟩⟩
  case round =>
   clear Hrs HT;obtain ⟨out, s, p, b, HA, HT, HN⟩ := hrel;cases gk with
   | zero => exact absurd HA.out (by simp [sReadL])
   | succ n =>
   have H := HA.out;clear HA;simp only [sReadL] at H;obtain ⟨An, cn, rfl⟩ := Kd.R_slice HT.out.nr;have hc0 := cellS89_0 HT.out.st.1;have hc1 := cellS89_1 HT.out.st.1;have hc2 := cellS89_2 HT.out.st.1;cases b with
   | false =>
    rw [if_neg si_] at H;simp only [Option.some.injEq, Prod.mk.injEq] at H;obtain ⟨rfl, rfl, rfl, rfl⟩ := H;have H := HD.out;rw [if_neg si_] at H;obtain ⟨rfl, rfl⟩ := pi_ H;go_wp2_with (((with_reducible refine gate_dst (N := 78) rfl ?_); refine Kd.R_lit (w0 := w) k43 w.heap.size 43 ?hg (N := 78) ?hd (xs := ([] : List S43)) (inner := []) (ok := fun _ => True) (okp := fun _ => False) ?hr ?hp (fun _ hk => hk.elim) trivial HT.out.bl HT.out.bl.size si_ ?_; (case hd => rfl); (case hg => rfl); (case hr => first | (go_simp; done) | (go_simp; rfl)); (case hp => exact (Reps.none _ _)); intro v78 w9 ho hb hg_ hnew_; have HO := A_ ho; have HB := A_ hb; clear ho hb hg_ hnew_))
    go_ret2
    exact ⟨_, rfl, HO.out, HB.out⟩
   | true =>
    rw [if_pos rfl] at H;by_cases hlt : p < (a0.size : Int)
    case neg =>
     rw [if_neg hlt] at H;have q7 := eq_false hlt;have q8 : decide (p < (a0.size : Int)) = false := dF_ hlt;simp only [Option.some.injEq, Prod.mk.injEq] at H;obtain ⟨rfl, rfl, rfl, rfl⟩ := H;have H := HD.out;rw [if_pos rfl] at H;obtain ⟨d, hd, H⟩ := oB_ H;have Hd := A_ hd;clear hd;cases d with
     | true =>
      rw [if_pos rfl] at H;obtain ⟨rfl, rfl⟩ := pi_ H;go_wp2_with ((go_at_call 93; (with_reducible refine (spec_DocOk.calls k An cn out _ _ (Kd.R_reads' HT.out.nr).2.2 (Kd.R_reads' HT.out.nr).2.1 Hd.out).mono ?_); rintro e w8 ⟨rfl, hb⟩; have HTi := A_ (HT.out.below hb); clear hb HT hc0 hc1 hc2))
      go_ret2
      exact ⟨_, rfl, Kd.R_mono HTi.out.nr (fun _ _ => trivial), HTi.out.bl⟩
     | false =>
      rw [if_neg si_] at H;obtain ⟨rfl, rfl⟩ := pi_ H;go_wp2_with (first | (go_at_call 93; (with_reducible refine (spec_DocOk.calls k An cn out _ _ (Kd.R_reads' HT.out.nr).2.2 (Kd.R_reads' HT.out.nr).2.1 Hd.out).mono ?_); rintro e w8 ⟨rfl, hb⟩; have HTi := A_ (HT.out.below hb); clear hb HT hc0 hc1 hc2) | ((with_reducible refine gate_dst (N := 78) rfl ?_); refine Kd.R_lit (w0 := w) k43 w.heap.size 43 ?hg (N := 78) ?hd (xs := ([] : List S43)) (inner := []) (ok := fun _ => True) (okp := fun _ => False) ?hr ?hp (fun _ hk => hk.elim) trivial HTi.out.bl HTi.out.bl.size si_ ?_; (case hd => rfl); (case hg => rfl); (case hr => first | (go_simp; done) | (go_simp; rfl)); (case hp => exact (Reps.none _ _)); intro v78 w9 ho hb hg_ hnew_; have HO := A_ ho; have HB := A_ hb; clear ho hb hg_ hnew_))
      go_ret2
      exact ⟨_, rfl, HO.out, HB.out⟩
    case pos =>
     rw [if_pos hlt] at H;split at H
     case isFalse => cases H
     case isTrue hs =>
     subst hs;split at H
     case isFalse => cases H
     case isTrue hl =>
     obtain ⟨⟨kd, s9, p9, b9⟩, he, H⟩ := oB_ H;obtain ⟨⟨s10, p10, b10⟩, ht, H⟩ := oB_ H;dsimp only at ht H;have HL := A_ hl;have Ht := A_ ht;have HH := A_ H;clear hl ht H;unfold sNext at he;obtain ⟨z, hz, he⟩ := oB_ he;have Hz := A_ hz;clear hz;cases z with
     | true =>
      rw [if_pos rfl] at he;obtain ⟨⟨qt, qx⟩, hq, he⟩ := oB_ he;obtain ⟨m, hm, he⟩ := oB_ he;simp only [Option.some.injEq, Prod.mk.injEq] at he;obtain ⟨rfl, rfl, rfl, rfl⟩ := he;have Hq := A_ hq;have Hm := A_ hm;clear hq hm;go_wp2_with (first | (go_at_call 69; (with_reducible refine (spec_l5Stands.calls _ p ⟨#[60, 33, 45, 45]⟩ _ _ Hz.out).mono ?_); rintro e w5 ⟨rfl, hd⟩; have HTa := A_ (HT.out.below hd.below); clear hd HT hc0 hc1 hc2; have hc0 := cellS89_0 HTa.out.st.1; have hc1 := cellS89_1 HTa.out.st.1; have hc2 := cellS89_2 HTa.out.st.1) | (go_at_call 29; (with_reducible refine (spec_XmlNote.calls n _ p qt qx _ Hq.out).mono ?_); rintro e w5 ⟨rfl, hb⟩; have HTb := A_ (HTa.out.below hb); clear hb HTa hc0 hc1 hc2; have hc0 := cellS89_0 HTb.out.st.1; have hc1 := cellS89_1 HTb.out.st.1; have hc2 := cellS89_2 HTb.out.st.1; have hf2 := blk_frozen HTb.out.st.1 2) | (go_at_call 92; have HTc := A_ (HTb.out.ok_ (decide (qx ≥ 0))); (with_reducible refine (spec_l1Max.calls qx 0 m _ Hm.out).mono ?_); rintro e w6 ⟨rfl, hd⟩; have HTd := A_ (HTc.out.below hd.below); clear hd HTb HTc hc0 hc1 hc2 hf2; have hc1 := cellS89_1 HTd.out.st.1; have hf1 := blk_frozen HTd.out.st.1 1; have HTe := A_ (HTd.out.at_ m)) | ((with_reducible refine gate_builtin (b := .append) (xs := #[.tmp 56, .tmp 59]) rfl ?_); at_builtin; go_loud (refine Kd.R_append k43 (w0 := w) w.heap.size rfl (.tmp 56) (.tmp 59) 41 43 (.agg #[.int .i64 0, .int .i64 0, .string ⟨#[]⟩, .slice none 0 0, .string ⟨#[]⟩, .slice none 0 0]) 96 rfl Tryz.underlying41 (by kernel_rfl) rfl de_ om_ (.slice An out.length cn) out (⟨3, 0, ⟨#[]⟩, [], qt, []⟩ : S43) [.int .i64 3, .int .i64 0, .string ⟨#[]⟩, .slice none 0 0, .string qt, .slice none 0 0] (fun k_ => k_ ≠ g) (fun _ => False) rfl ?aX ?aP (fun _ hk => hk.elim) ?aF ?aO ?aB ?aS ?aL ?_); (case aX => first | rfl | (go_simp; done) | (go_simp; rfl) | (simp; done) | (simp; rfl)); (case aP => exact k43_mkM _ _ _ (⟨3, 0, ⟨#[]⟩, [], qt, []⟩ : S43) (Kd.R_nil _ _ _ _ _) (Kd.R_nil _ _ _ _ _)); (case aF => exact fun k hk => by have := HTe.out.st.lt; omega); (case aO => exact HTe.out.nr); (case aB => exact HTe.out.bl); (case aS => exact HTe.out.bl.size); (case aL => have := HL.out; omega); intro v4 w7 ho hb hg hat; have HTg := A_ (HTe.out.app ho hb hg); clear ho hb hg hat HTe) | (go_at_call 91; (with_reducible refine (spec_l19Take.calls g _ _ _ ⟨#[10]⟩ s10 p10 b10 w _ HTg.out.st HTg.out.bl Ht.out).mono ?_); rintro e w8 ⟨rfl, hi, hb, hk⟩; have HTh := A_ (HTg.out.state hi hb hk); clear hi hb hk HTg))
      go_roundg n
      case measure => omega
      case rel => exact ⟨_, _, _, _, HH, HTh, ⟨by have := HN.out; omega⟩⟩
     | false =>
      rw [if_neg si_] at he;have Hkd := A_ he;clear he;go_wp2_with (first | (go_at_call 69; (with_reducible refine (spec_l5Stands.calls _ p ⟨#[60, 33, 45, 45]⟩ _ _ Hz.out).mono ?_); rintro e w5 ⟨rfl, hd⟩; have HTa := A_ (HT.out.below hd.below); clear hd HT hc0 hc1 hc2; have hc0 := cellS89_0 HTa.out.st.1; have hc1 := cellS89_1 HTa.out.st.1; have hc2 := cellS89_2 HTa.out.st.1) | (go_at_call 84; (with_reducible refine (spec_l19El.calls n g (-1) 60 _ p true kd s9 p9 b9 w _ HTa.out.st HTa.out.bl Hkd.out).mono ?_); rintro e w11 ⟨cs, rfl, hm, hi, hb, hk⟩; have HM := A_ (k43.M_mono (ok' := fun k_ => k_ ≠ g ∧ some k_ ≠ (Value.slice An out.length cn).ownBlock) (fun k_ hk_ => ⟨by have := HTa.out.st.lt; omega, fun e_ => by have := Kd.R_lt HTa.out.nr k_ e_.symm; omega⟩) hm); have HTe := A_ (HTa.out.state hi hb hk); obtain ⟨u3, u5, hcs, g3, g5⟩ := k43_openM hm; obtain rfl : cs = #[.int .i64 kd.f0, .int .i64 kd.f1, .string kd.f2, u3, .string kd.f4, u5] := Array.ext' hcs; obtain ⟨A3', c3', rfl⟩ := Kd.R_slice g3; obtain ⟨A5', c5', rfl⟩ := Kd.R_slice g5; clear hm hcs g3 g5 hi hb hk HTa hc0 hc1 hc2) | ((with_reducible refine gate_builtin (b := .append) (xs := #[.tmp 61, .tmp 64]) rfl ?_); at_builtin; go_loud (refine Kd.R_append k43 (w0 := w) w.heap.size rfl (.tmp 61) (.tmp 64) 41 43 (.agg #[.int .i64 0, .int .i64 0, .string ⟨#[]⟩, .slice none 0 0, .string ⟨#[]⟩, .slice none 0 0]) 96 rfl Tryz.underlying41 (by kernel_rfl) rfl de_ om_ (.slice An out.length cn) out (kd) [.int .i64 kd.f0, .int .i64 kd.f1, .string kd.f2, .slice A3' kd.f3.length c3', .string kd.f4, .slice A5' kd.f5.length c5'] (fun k_ => k_ ≠ g) (fun k_ => k_ ≠ g ∧ some k_ ≠ (Value.slice An out.length cn).ownBlock) rfl ?aX ?aP (fun _ hk => hk) ?aF ?aO ?aB ?aS ?aL ?_); (case aX => first | rfl | (go_simp; done) | (go_simp; rfl) | (simp; done) | (simp; rfl)); (case aP => exact HM.out); (case aF => exact fun k hk => by have := HTe.out.st.lt; omega); (case aO => exact HTe.out.nr); (case aB => exact HTe.out.bl); (case aS => exact HTe.out.bl.size); (case aL => have := HL.out; omega); intro v4 w7 ho hb hg hat; have HTg := A_ (HTe.out.app ho hb hg); clear ho hb hg hat HTe) | (go_at_call 91; (with_reducible refine (spec_l19Take.calls g _ _ _ ⟨#[10]⟩ s10 p10 b10 w _ HTg.out.st HTg.out.bl Ht.out).mono ?_); rintro e w8 ⟨rfl, hi, hb, hk⟩; have HTh := A_ (HTg.out.state hi hb hk); clear hi hb hk HTg))
      go_roundg n
      case measure => omega
      case rel => exact ⟨_, _, _, _, HH, HTh, ⟨by have := HN.out; omega⟩⟩
def impl_reader_take.f (s0_0 : BA) (s0_1 : Int) (s0_2 : Bool) (a1 : BA) : Option (ByteArray × Int × Bool) := (impl_reader_is.f s0_0 s0_1 s0_2 a1).bind fun bt561 => (if bt561.1 = true then (some (bt561.2.1, wrap64 (bt561.2.2.1 + (a1.size : Int)), bt561.2.2.2)) else (some (bt561.2.1, bt561.2.2.1, true)))
theorem impl_reader_take.calls (g : Nat) (s0_0 : BA) (s0_1 : Int) (s0_2 : Bool) (a1 : BA) (r1 : BA) (r2 : Int) (r3 : Bool) (w0 w : World) (hI : IsS93 w0 w g s0_0 s0_1 s0_2) (hB : Below w0.heap.size w0 w) (h : impl_reader_take.f s0_0 s0_1 s0_2 a1 = some (r1, r2, r3)) :
  Calls Tryz.prog 94 #[.pointer (some ⟨g, 0, none⟩), .string a1] w fun e w' => e = .returned (.tuple #[]) ∧ IsS93 w0 w' g r1 r2 r3 ∧ Below w0.heap.size w0 w' ∧ KeepBut w w' g none := by
 have HI0 := A_ hI;have HK := A_ (KeepBut.refl w g none);have HL := A_ hB.size;clear hI;have HW0 := A_ hB.size;have HB := A_ hB;clear hB;have H : ((impl_reader_is.f s0_0 s0_1 s0_2 a1).bind fun bt561 => (if bt561.1 = true then (some (bt561.2.1, wrap64 (bt561.2.2.1 + (a1.size : Int)), bt561.2.2.2)) else (some (bt561.2.1, bt561.2.2.1, true)))) = some (r1, r2, r3) := h;clear h;obtain ⟨⟨t561, t562, t563, t564⟩, A3, H⟩ := ob_ H;(try dsimp only at H)
 by_cases c4 : t561 = true
 ·subst c4;rw [if_pos rfl] at H;obtain ⟨rfl, rfl, rfl⟩ := pj_ H;go_enter Tryz.func94, Tryz.ntmps94
  go_wp2_with (first | ((with_reducible refine gC_ 95 ?_); refine gL_ 6 Tryz.func95 #[.pointer (some ⟨g, 0, none⟩), .string a1] ?_; (with_reducible refine (impl_reader_is.calls g s0_0 s0_1 s0_2 a1 true t562 t563 t564 w0 _ ?side1 ?side2 A3.out).mono ?_); (case side1 => repeat (first | (with_reducible first | exact HI0.out | apply IsS93.alloc | apply IsS93.drewN | apply IsS93.drew | apply IsS93.set_0 | apply IsS93.set_1 | apply IsS93.set_2) | exact HI0.out)); (case side2 => repeat (first | (with_reducible first | exact HB.out | apply bA9 | apply bN9 | apply bD9 | refine below_set ?_ (IsS93.ge HI0.out)) | exact HB.out)); rintro e w5 ⟨rfl, hi, hb, hk⟩; refine ⟨_, rfl, ?_⟩; replace HK := A_ (KeepBut.trans (by repeat (first | (with_reducible first | exact HK.out | apply KeepBut.set_ | apply keep_drewN | apply keep_drew | apply keep_alloc) | exact HK.out)) hk (.inl rfl)); replace HB := A_ (hb); replace HI0 := A_ (hi); clear hb hk hi; obtain ⟨HGz6, hgz6⟩ := HI0.out; have hcz6_0 := cellS93_0 HGz6; have hcz6_1 := cellS93_1 HGz6; have hcz6_2 := cellS93_2 HGz6; have hfz6_0 := blk_frozen HGz6 0; have hfz6_1 := blk_frozen HGz6 1; have hfz6_2 := blk_frozen HGz6 2; clear HGz6 hgz6))
  first | go_end0 | ((try simp only [Exit.inBlock, Exit.then]); refine bodyPost_ret (results_none rfl _ _ _) rfl ?_)
  exact ⟨e1_, by repeat (first | (with_reducible first | exact HI0.out | apply IsS93.alloc | apply IsS93.drewN | apply IsS93.drew | apply IsS93.set_0 | apply IsS93.set_1 | apply IsS93.set_2) | exact HI0.out), by repeat (first | (with_reducible first | exact HB.out | apply bA9 | apply bN9 | apply bD9 | refine below_set ?_ (IsS93.ge HI0.out)) | exact HB.out), by repeat (first | (with_reducible first | exact HK.out | apply KeepBut.set_ | apply keep_drewN | apply keep_drew | apply keep_alloc) | exact HK.out)⟩
 ·replace c4 := bF_ c4;subst c4;rw [if_neg nF_] at H;obtain ⟨rfl, rfl, rfl⟩ := pj_ H;go_enter Tryz.func94, Tryz.ntmps94
  go_wp2_with (first | ((with_reducible refine gC_ 95 ?_); refine gL_ 6 Tryz.func95 #[.pointer (some ⟨g, 0, none⟩), .string a1] ?_; (with_reducible refine (impl_reader_is.calls g s0_0 s0_1 s0_2 a1 false t562 t563 t564 w0 _ ?side1 ?side2 A3.out).mono ?_); (case side1 => repeat (first | (with_reducible first | exact HI0.out | apply IsS93.alloc | apply IsS93.drewN | apply IsS93.drew | apply IsS93.set_0 | apply IsS93.set_1 | apply IsS93.set_2) | exact HI0.out)); (case side2 => repeat (first | (with_reducible first | exact HB.out | apply bA9 | apply bN9 | apply bD9 | refine below_set ?_ (IsS93.ge HI0.out)) | exact HB.out)); rintro e w7 ⟨rfl, hi, hb, hk⟩; refine ⟨_, rfl, ?_⟩; replace HK := A_ (KeepBut.trans (by repeat (first | (with_reducible first | exact HK.out | apply KeepBut.set_ | apply keep_drewN | apply keep_drew | apply keep_alloc) | exact HK.out)) hk (.inl rfl)); replace HB := A_ (hb); replace HI0 := A_ (hi); clear hb hk hi; obtain ⟨HGz8, hgz8⟩ := HI0.out; have hcz8_0 := cellS93_0 HGz8; have hcz8_1 := cellS93_1 HGz8; have hcz8_2 := cellS93_2 HGz8; have hfz8_0 := blk_frozen HGz8 0; have hfz8_1 := blk_frozen HGz8 1; have hfz8_2 := blk_frozen HGz8 2; clear HGz8 hgz8))
  first | go_end0 | ((try simp only [Exit.inBlock, Exit.then]); refine bodyPost_ret (results_none rfl _ _ _) rfl ?_)
  exact ⟨e1_, by repeat (first | (with_reducible first | exact HI0.out | apply IsS93.alloc | apply IsS93.drewN | apply IsS93.drew | apply IsS93.set_0 | apply IsS93.set_1 | apply IsS93.set_2) | exact HI0.out), by repeat (first | (with_reducible first | exact HB.out | apply bA9 | apply bN9 | apply bD9 | refine below_set ?_ (IsS93.ge HI0.out)) | exact HB.out), by repeat (first | (with_reducible first | exact HK.out | apply KeepBut.set_ | apply keep_drewN | apply keep_drew | apply keep_alloc) | exact HK.out)⟩
def impl_reader_name.f (k : Nat) (s : BA) (p : Int) (b : Bool) : Option (ByteArray × ByteArray × Int × Bool) :=
 if b = true then some (⟨#[]⟩, s, p, true) else (impl_XmlName.f k s p).bind fun q => some (q.1, s, q.2, q.1.toList.isEmpty)
theorem impl_reader_name.mono : ∀ s p b k, LeO (impl_reader_name.f k s p b) (impl_reader_name.f (k + 1) s p b) := fun s p b k => LeO.ite (LeO.refl _) (LeO.bind (impl_XmlName.mono _ _ _) (fun _ => LeO.refl _))
theorem impl_reader_name.calls (k : Nat) (g : Nat) (s : BA) (p : Int) (b : Bool) (r1 r2 : BA) (r3 : Int) (r4 : Bool) (w0 w : World) (hI : IsS93 w0 w g s p b) (hB : Below w0.heap.size w0 w) (h : impl_reader_name.f k s p b = some (r1, r2, r3, r4)) :
  Calls Tryz.prog 135 #[.pointer (some ⟨g, 0, none⟩)] w fun e w' => e = .returned (.string r1) ∧ IsS93 w0 w' g r2 r3 r4 ∧ Below w0.heap.size w0 w' ∧ KeepBut w w' g none := by
 unfold impl_reader_name.f at h;have HI := A_ hI;have HB := A_ hB;have HK := A_ (KeepBut.refl w g none);obtain ⟨HG, hge⟩ := hI;have hc0 := cellS93_0 HG;have hc1 := cellS93_1 HG;have hc2 := cellS93_2 HG;have hf1 := blk_frozen HG 1;have hf2 := blk_frozen HG 2;clear HG hge hB;cases b with
 | true =>
  rw [if_pos rfl] at h;simp only [Option.some.injEq, Prod.mk.injEq] at h;obtain ⟨rfl, rfl, rfl, rfl⟩ := h;go_enter Tryz.func135, Tryz.ntmps135
  go_wp2
  go_ret
  exact ⟨rfl, HI.out, HB.out, HK.out⟩
 | false =>
  rw [if_neg si_] at h;obtain ⟨q, hq, h⟩ := oB_ h;simp only [Option.some.injEq, Prod.mk.injEq] at h;obtain ⟨rfl, rfl, rfl, rfl⟩ := h;have HQ := A_ hq;clear hq;have HI1 : As9 (IsS93 w0 w.drew g s p false) := ⟨HI.out.drew⟩;have HB1 : As9 (Below w0.heap.size w0 w.drew) := ⟨below_drew HB.out⟩;have HK1 : As9 (KeepBut w w.drew g none) := ⟨keep_drew HK.out⟩;go_enter Tryz.func135, Tryz.ntmps135
  go_wp2
  clear HI HB HK hf1 hf2 hc2;refine start_ (n := 14) (S := fun w' => w'.cell? ⟨g, 0, none⟩ = some (.string s) ∧ w'.cell? ⟨g, 1, none⟩ = some (.int .i64 p)) (ds := [8]) (tS 14 0) (by kernel_rfl) rfl rfl ⟨hc0, hc1⟩ (fun hHeld => ?_);generalize World.drew _ = wr0 at HI1 HB1 HK1 hHeld ⊢;iterate 3 refine pq_ ?_
  refine pg_ 4 (tB 14 23) ?_;refine pg_ 5 (tB 14 55) ?_;refine pg_ 6 (tB 14 119) ?_;refine tg_ 3 (tS 14 7) rfl (by rintro w' ⟨s0, s1⟩; go_simp; with_reducible rfl) ?_;refine tq_ rfl (by rintro w' ⟨s0, s1⟩; go_simp; with_reducible rfl) ?_;refine last_ (i := 8) (N := some 18) (tS 14 9) rfl rfl (by kernel_rfl) de_ (fun K hK => ?_);refine gS_ Tryz.func16 #[.string s, .int .i64 p] ?_;with_reducible refine (impl_XmlName.calls k s p q.1 q.2 _ HQ.out).mono ?_
  rintro e wr8 ⟨rfl, hb⟩;refine ⟨_, rfl, ?_⟩;have HI2 := A_ (HI1.out.below hb);have HB2 := A_ (below_step HB1.out hb);have HK2 := A_ (HK1.out.trans (KeepBut.of_below hb g none) (.inl rfl));clear hb HI1 HB1 HK1;refine hK.out _ _ ?_;clear hK K;refine nm_ ?_;iterate 5 refine pq_ ?_
  refine done_ (by kernel_rfl) ?_;obtain ⟨HG, hge⟩ := HI2.out;have hc0' := cellS93_0 HG;have hc1' := cellS93_1 HG;have hc2' := cellS93_2 HG;have hf1 := blk_frozen HG 1;have hf2 := blk_frozen HG 2;clear HG hge;go_wp2
  go_ret
  exact ⟨rfl, (HI2.out.set_2 _).set_1 _, below_set (below_set HB2.out HI2.out.2) HI2.out.2, (HK2.out.set_ _ _).set_ _ _⟩
theorem hasAttr_1 (a b n : BA) (h : Nat) (w : World) (hc : w.cell? ⟨h, 0, none⟩ = some (.string n)) :
  Calls Tryz.prog 193 #[.agg #[.string a, .string b], .pointer (some ⟨h, 0, none⟩)] w fun e w' => e = .returned (.bool (a.toList == n.toList)) ∧ Below w.heap.size w w' := by
 have hl := World.block_lt_of_cell? w _ hc;go_enter Tryz.func193, Tryz.ntmps193
 go_wp2
 go_ret
 exact ⟨rfl, bA9 (Below.refl _ _) _⟩
def hasP (n : BA) (x : S36) : Bool := x.f0.toList == n.toList
def IxPost (b : Bool) (w : World) (e : Ending) (w' : World) : Prop := ∃ r : Int, e = .returned (.int .i64 r) ∧ decide (0 ≤ r) = b ∧ Below w.heap.size w w'
theorem take_any {α : Type} (l : List α) (p : α → Bool) (j : Nat) (h : j < l.length) (h0 : (l.take j).any p = false) (h1 : p (l[j]'h) = false) : (l.take (j + 1)).any p = false := by
 rw [List.take_succ_eq_append_getElem h, List.any_append, h0]; simp [h1]
theorem indexFunc_any (A0 : Option Addr) (c0 : Nat) (l0 : List (S36)) (n : BA) (h : Nat) (w : World) (hr0 : Kd.C k36 w A0 l0.length l0) (hc0 : l0.length ≤ c0) (hl : l0.length ≤ 140737488355328) (hc : w.cell? ⟨h, 0, none⟩ = some (.string n)) :
  Calls Tryz.prog 203 #[.slice A0 l0.length c0, .func (Fn.func 193) #[] #[.pointer (some ⟨h, 0, none⟩)]] w (IxPost (l0.any (hasP n)) w) := by
 have HR := A_ hr0;have HC := A_ hc;clear hr0 hc;go_enter Tryz.func203, Tryz.ntmps203
 go_wp2
 go_loopg [8] l0.length (fun kq v wr => ∃ j : Int, v = .int .i64 j ∧ 0 ≤ j ∧ j ≤ l0.length ∧ As9 (kq = l0.length - j.toNat) ∧ As9 ((l0.take j.toNat).any (hasP n) = false) ∧ As9 (Below w.heap.size w wr))
 case atStart => exact ⟨0, rfl, Int.le_refl _, om_, ⟨rfl⟩, ⟨by simp⟩, ⟨Below.refl _ _⟩⟩
 case round =>
  obtain ⟨j, rfl, j0, hj, HM, HE, HB⟩ := hrel;have hlm : (l0.length : Int) ≤ 140737488355328 := om_;by_cases hlt : j < l0.length
  ·have hjn : j.toNat < l0.length := om_;have hel : rd_T36 l0 j = l0[j.toNat] := by
    unfold rd_T36; first | (rw [List.getD_eq_getElem?_getD, List.getElem?_eq_getElem hjn]; rfl) | (simp [rdOf, List.getD_eq_getElem?_getD, List.getElem?_eq_getElem hjn])
   have Hel := A_ hel;clear hel;obtain ⟨ad, ea, hx0, hx1⟩ := at_T36 (Kd.C_below HR.out HB.out) j j0 hlt;cases ea;have hcn := pw_cell_below HB.out HC.out;have p7 := eq_true j0;have q7 := eq_true hlt;cases hp : hasP n (rd_T36 l0 j) with
   | true =>
    have HP := A_ hp;clear hp;go_wp2_with ((go_at_call 193; (with_reducible refine (hasAttr_1 _ _ n h _ hcn).mono ?_); rintro r w2 ⟨rfl, hb⟩; rw [show ((rd_T36 l0 j).f0.toList == n.toList) = true from HP.out]))
    go_ret
    exact ⟨j, rfl, by rw [dE_ j0]; symm; rw [List.any_eq_true]; exact ⟨l0[j.toNat], List.getElem_mem _, by rw [← Hel.out]; exact HP.out⟩, below_step HB.out hb⟩
   | false =>
    have HP := A_ hp;clear hp;go_wp2_with ((go_at_call 193; (with_reducible refine (hasAttr_1 _ _ n h _ hcn).mono ?_); rintro r w2 ⟨rfl, hb⟩; rw [show ((rd_T36 l0 j).f0.toList == n.toList) = false from HP.out]))
    go_roundg (l0.length - (j + 1).toNat)
    case measure => have := HM.out; omega
    case rel => exact ⟨j + 1, rfl, om_, om_, ⟨rfl⟩, ⟨by rw [show (j + 1).toNat = j.toNat + 1 by omega]; exact take_any _ _ _ hjn HE.out (by rw [← Hel.out]; exact HP.out)⟩, ⟨below_step HB.out hb⟩⟩
  ·go_wp2
   go_ret
   have he := HE.out;rw [List.take_of_length_le om_] at he;exact ⟨-1, rfl, by rw [he]; rfl, HB.out⟩
theorem containsFunc_any (A0 : Option Addr) (c0 : Nat) (l0 : List (S36)) (n : BA) (h : Nat) (w : World) (hr0 : Kd.C k36 w A0 l0.length l0) (hc0 : l0.length ≤ c0) (hl : l0.length ≤ 140737488355328) (hc : w.cell? ⟨h, 0, none⟩ = some (.string n)) :
  Calls Tryz.prog 192 #[.slice A0 l0.length c0, .func (Fn.func 193) #[] #[.pointer (some ⟨h, 0, none⟩)]] w fun e w' => e = .returned (.bool (l0.any (hasP n))) ∧ Below w.heap.size w w' := by
 go_enter Tryz.func192, Tryz.ntmps192
 go_wp2_with ((go_at_call 203; (with_reducible refine (indexFunc_any A0 c0 l0 n h _ hr0 hc0 hl hc).mono ?_); rintro r w2 ⟨i, rfl, hi, hb⟩))
 go_ret
 exact ⟨by rw [← hi]; rfl, hb⟩
def impl_hasAttr.f (l0 : List (S36)) (a1 : BA) : Option Bool :=
 if l0.length ≤ 140737488355328 then some (l0.any fun x => x.f0.toList == a1.toList) else none
theorem impl_hasAttr.calls (A0 : Option Addr) (c0 : Nat) (l0 : List (S36)) (a1 : BA) (r : Bool) (w : World) (hr0 : Kd.C k36 w A0 l0.length l0) (hc0 : l0.length ≤ c0) (h : impl_hasAttr.f l0 a1 = some r) :
  Calls Tryz.prog 173 #[.slice A0 l0.length c0, .string a1] w fun e w' => e = .returned (.bool r) ∧ Below w.heap.size w w' := by
 unfold impl_hasAttr.f at h;split at h
 case isFalse => cases h
 case isTrue hl =>
 obtain rfl := sI_ h;have hr1 := A_ (Kd.C_alloc hr0 (.cells #[.string a1] 9));have hc1 : As9 ((w.alloc (.cells #[.string a1] 9)).cell? ⟨w.heap.size, 0, none⟩ = some (.string a1)) := ⟨(blk_cell (heap_alloc_new w _) 0).trans rfl⟩;clear hr0 h;go_enter Tryz.func173, Tryz.ntmps173
 go_wp2_with ((go_at_call 192; (refine (containsFunc_any A0 c0 l0 a1 w.heap.size _ hr1.out hc0 hl hc1.out).mono ?_); rintro r w2 ⟨rfl, hb⟩))
 go_ret
 exact ⟨rfl, below_step (bA9 (Below.refl _ _) _) hb⟩
abbrev spN0 : ByteArray := ⟨#[104, 116, 116, 112, 58, 47, 47, 119, 119, 119, 46, 119, 51, 46, 111, 114, 103, 47, 49, 57, 57, 57, 47, 120, 104, 116, 109, 108]⟩
abbrev spN1 : ByteArray := ⟨#[104, 116, 116, 112, 58, 47, 47, 119, 119, 119, 46, 119, 51, 46, 111, 114, 103, 47, 50, 48, 48, 48, 47, 115, 118, 103]⟩
abbrev spN2 : ByteArray := ⟨#[104, 116, 116, 112, 58, 47, 47, 119, 119, 119, 46, 119, 51, 46, 111, 114, 103, 47, 49, 57, 57, 56, 47, 77, 97, 116, 104, 47, 77, 97, 116, 104, 77, 76]⟩
def spNF (a0 : Int) : ByteArray := if a0 = 0 then spN0 else if a0 = 1 then spN1 else if a0 = 2 then spN2 else ⟨#[]⟩
theorem sp_at (i : Int) (h0 : 0 ≤ i) (h1 : i ≤ 2) (w : World) : (Instr.index 65 (.agg #[.string spN0, .string spN1, .string spN2]) (.int .i64 i)).run Tryz.prog w = .ok (.string (spNF i)) w := by
 rcases (show i = 0 ∨ i = 1 ∨ i = 2 by omega) with rfl | rfl | rfl <;> (clear h0 h1; show _ = _; kernel_rfl)
def impl_SpaceName.f (a0 : Int) : Option ByteArray := some (spNF a0)
theorem impl_SpaceName.calls (a0 : Int) (r : BA) (w : World) (h : impl_SpaceName.f a0 = some r) :
  Calls Tryz.prog 13 #[.int .i64 a0] w fun e w' => e = .returned (.string r) ∧ Drawn0 w w' := by
 obtain rfl := sI_ h;clear h;have hu := Tryz.underlying65;by_cases hc : 0 ≤ a0 ∧ a0 ≤ 2
 ·have hin : impl_inRange.f a0 0 2 = some true := by unfold impl_inRange.f; rw [if_pos hc.1, dE_ hc.2]
  have Hin := A_ hin;clear hin;rcases (show a0 = 0 ∨ a0 = 1 ∨ a0 = 2 by omega) with rfl | rfl | rfl
  ·have hix := sp_at 0 om_ om_;clear hc;go_enter Tryz.func13, Tryz.ntmps13
   go_wp2_with ((go_at_call 53; (with_reducible refine (impl_inRange.calls 0 0 2 true _ Hin.out).mono ?_); rintro r w' ⟨rfl, ⟨nd, rfl⟩⟩))
   go_ret
   exact ⟨rfl, ⟨_, rfl⟩⟩
  ·have hix := sp_at 1 om_ om_;clear hc;go_enter Tryz.func13, Tryz.ntmps13
   go_wp2_with ((go_at_call 53; (with_reducible refine (impl_inRange.calls 1 0 2 true _ Hin.out).mono ?_); rintro r w' ⟨rfl, ⟨nd, rfl⟩⟩))
   go_ret
   exact ⟨rfl, ⟨_, rfl⟩⟩
  ·have hix := sp_at 2 om_ om_;clear hc;go_enter Tryz.func13, Tryz.ntmps13
   go_wp2_with ((go_at_call 53; (with_reducible refine (impl_inRange.calls 2 0 2 true _ Hin.out).mono ?_); rintro r w' ⟨rfl, ⟨nd, rfl⟩⟩))
   go_ret
   exact ⟨rfl, ⟨_, rfl⟩⟩
 ·have hin : impl_inRange.f a0 0 2 = some false := by
   unfold impl_inRange.f;by_cases h1 : a0 ≥ 0
   ·rw [if_pos h1, dF_ om_]
   ·rw [if_neg h1]
  have Hin := A_ hin;have hs : spNF a0 = ⟨#[]⟩ := by unfold spNF; rw [if_neg om_, if_neg om_, if_neg om_]
  have HS := A_ hs;clear hin hc hs;go_enter Tryz.func13, Tryz.ntmps13
  go_wp2_with ((go_at_call 53; (with_reducible refine (impl_inRange.calls a0 0 2 false _ Hin.out).mono ?_); rintro r w' ⟨rfl, ⟨nd, rfl⟩⟩))
  go_ret
  exact ⟨by rw [HS.out]; rfl, ⟨_, rfl⟩⟩
def impl_spaceOf.l0 : Nat → ByteArray → Int → Option (Int)
 | 0, _, _ => none
 | k + 1, x0, x4 => if x4 < 3 then ((impl_SpaceName.f x4).bind fun t565 => (if t565.toList = x0.toList then (some x4) else (impl_spaceOf.l0 k x0 (wrap64 (x4 + 1))))) else (some (-1))
def impl_spaceOf.f (k : Nat) (a0 : BA) : Option (Int) := impl_spaceOf.l0 k a0 0
theorem impl_spaceOf.mono_l : ∀ k, (∀ y0 y1, LeO (impl_spaceOf.l0 k y0 y1) (impl_spaceOf.l0 (k + 1) y0 y1))
 | 0 => fun _ _ r h => by simp [impl_spaceOf.l0] at h
 | k + 1 => by
  have ih0 := impl_spaceOf.mono_l k
  ·intro y0 y1;unfold impl_spaceOf.l0;with_reducible repeat' first | exact ih0 _ _ | apply LeO.refl | apply LeO.none | apply LeO.ite | apply LeO.bind | intro
theorem impl_spaceOf.mono : ∀ a0 k, LeO (impl_spaceOf.f k a0) (impl_spaceOf.f (k + 1) a0) := by
 intro a0 k;have ih0 := impl_spaceOf.mono_l k;unfold impl_spaceOf.f;with_reducible repeat' first | exact ih0 _ _ | apply LeO.refl | apply LeO.none | apply LeO.ite | apply LeO.bind | intro
theorem impl_spaceOf.calls (k : Nat) (a0 : BA) (r : Int) (w : World) (h : impl_spaceOf.f k a0 = some r) :
  Calls Tryz.prog 174 #[.string a0] w fun e w' => e = .returned (.int .i64 r) ∧ Drawn0 w w' := by
 have H : (impl_spaceOf.l0 k a0 0) = some r := h;clear h;have H' := A_ H;clear H;go_enter Tryz.func174, Tryz.ntmps174
 go_wp2
 go_loopg [4] k (fun kq v4 w' => ∃ (x4_1 : Int), v4 = .int .i64 x4_1 ∧ As9 (impl_spaceOf.l0 kq a0 x4_1 = some r) ∧ As9 (kq ≤ k) ∧ Drawn0 w w')
 case atStart => exact ⟨(0), e2_, H', ⟨Nat.le_refl _⟩, d0_⟩
 case round =>
  clear H';try clear c1
  obtain ⟨x4_1, rfl, HA, HK1, ⟨m1, rfl⟩⟩ := hrel;cases gk with
  | zero => exact absurd HA.out (by simp [impl_spaceOf.l0])
  | succ k1 =>
   have H := HA.out;clear HA;simp only [impl_spaceOf.l0] at H;rcases ic_ H with ⟨c2, H⟩ | ⟨c2, H⟩
   ·have c2b0 := dE_ c2;clear c2;obtain ⟨t565, A3, H⟩ := ob_ H;rcases ic_ H with ⟨c4, H⟩ | ⟨c4, H⟩
    ·obtain ⟨c4b0, c4b1⟩ := be_ c4;clear c4;obtain rfl := sI_ H;go_wp2_with (first | ((with_reducible refine gC_ 13 ?_); refine gL_ 8 Tryz.func13 #[.int .i64 x4_1] ?_; refine dm_ (impl_SpaceName.calls x4_1 t565 _ A3.out) fun nd => ?_))
     go_ret
     exact ⟨e2_, d0_⟩
    ·obtain ⟨c4b0, c4b1⟩ := bn_ c4;have H' := A_ H;clear H;go_wp2_with (first | ((with_reducible refine gC_ 13 ?_); refine gL_ 8 Tryz.func13 #[.int .i64 x4_1] ?_; refine dm_ (impl_SpaceName.calls x4_1 t565 _ A3.out) fun nd => ?_))
     go_roundg k1
     case measure => have := HK1.out; omega
     case rel => exact ⟨(wrap64 (x4_1 + 1)), e2_, H', ⟨by have := HK1.out; omega⟩, d0_⟩
   ·have c2b0 := dF_ c2;clear c2;obtain rfl := sI_ H;go_wp2
    go_ret
    exact ⟨e2_, d0_⟩
end Go.Proofs.YtkmmoheeoblmnaaGreatDoor.A
