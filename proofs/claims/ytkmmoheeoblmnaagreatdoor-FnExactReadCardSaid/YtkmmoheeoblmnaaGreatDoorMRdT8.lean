-- joined by wip/tools/shake.py
import Derived.Test.YtkmmoheeoblmnaaGreatDoorVRdTW9
import Derived.Test.YtkmmoheeoblmnaaGreatDoorMRdT0
import Derived.Test.YtkmmoheeoblmnaaGreatDoorMRdT4
import Derived.Test.YtkmmoheeoblmnaaGreatDoorMRdT6
import Derived.Test.YtkmmoheeoblmnaaGreatDoorMRdT7
import Derived.Test.YtkmmoheeoblmnaaGreatDoorMRdT3
set_option maxHeartbeats 16000000
set_option maxRecDepth 100000
namespace Go.Proofs.YtkmmoheeoblmnaaGreatDoor.A
open Go.RowKit Go.Proofs.YtkmmoheeoblmnaaGreatDoorW.PrintWords Go.Proofs.YtkmmoheeoblmnaaGreatDoorW.PrintLast Go.Proofs.YtkmmoheeoblmnaaGreatDoorW.PrintMore
attribute [local go_sem] max2_int min2_int max_two min_two max_three min_three max_four min_four
set_option linter.unusedVariables false
set_option linter.unusedSimpArgs false
def impl_strictAttrs.l0 : Nat → List (S36) → List (S36) → Int → Int → Option (Bool)
 | 0, _, _, _, _ => none
 | k + 1, x0, x5, x6, x7 => if x7 < x6 then (if 0 ≤ x7 then (if x7 < (x5.length : Int) then ((impl_NameOk.f k ((rd_T36 x5 x7).f0)).bind fun t598 => (if t598 = true then (if ((rd_T36 x5 x7).f0).toList = ([120, 109, 108, 110, 115] : List UInt8) then (some false) else (if x7 ≤ (x0.length : Int) then ((impl_hasAttr.f (x0.take (x7 : Int).toNat) ((rd_T36 x5 x7).f0)).bind fun t603 => (if t603 = true then (some false) else ((impl_TextOk.f k ((rd_T36 x5 x7).f1)).bind fun t604 => (if t604 = true then (impl_strictAttrs.l0 k x0 x5 x6 (wrap64 (x7 + 1))) else (some false))))) else (none))) else (some false))) else (none)) else (none)) else (some true)
def impl_strictAttrs.f (k : Nat) (l0 : List (S36)) : Option (Bool) := impl_strictAttrs.l0 k l0 l0 (l0.length : Int) 0
theorem impl_strictAttrs.mono_l : ∀ k, (∀ y0 y1 y2 y3, LeO (impl_strictAttrs.l0 k y0 y1 y2 y3) (impl_strictAttrs.l0 (k + 1) y0 y1 y2 y3))
 | 0 => fun _ _ _ _ r h => by simp [impl_strictAttrs.l0] at h
 | k + 1 => by
  have ih0 := impl_strictAttrs.mono_l k
  ·intro y0 y1 y2 y3;unfold impl_strictAttrs.l0;with_reducible repeat' first | exact ih0 _ _ _ _ | exact impl_NameOk.mono _ _ | exact impl_TextOk.mono _ _ | apply LeO.refl | apply LeO.none | apply LeO.ite | apply LeO.bind | intro
theorem impl_strictAttrs.mono : ∀ a0 k, LeO (impl_strictAttrs.f k a0) (impl_strictAttrs.f (k + 1) a0) := by
 intro a0 k;have ih0 := impl_strictAttrs.mono_l k;unfold impl_strictAttrs.f;with_reducible repeat' first | exact ih0 _ _ _ _ | exact impl_NameOk.mono _ _ | exact impl_TextOk.mono _ _ | apply LeO.refl | apply LeO.none | apply LeO.ite | apply LeO.bind | intro
def impl_strictAttrs.T4 : Bool × List (List Nat × List Nat) := (true, [([], []), ([0], [0]), ([1], [1]), ([2], [2]), ([3, 2], [3]), ([4], [4]), ([5, 4], [4, 5]), ([6, 4], [4, 6]), ([4, 7], [4, 7]), ([8, 4], [8]), ([9], [9]), ([9], [9]), ([10, 11, 9], [9, 10, 11]), ([9], [9]), ([13, 9], [9, 13]), ([12, 14, 9, 9], [9, 12, 14]), ([9, 15], [9, 15]), ([16, 15], [16]), ([17], [17]), ([18, 17], [17, 18]), ([19, 17, 17], [17, 19]), ([20, 17], [17, 20]), ([17, 21], [17, 21])])
def impl_strictAttrs.B4 : List Nat := [0, 1, 3, 7, 15, 31, 63, 127, 255, 511, 1023, 1023, 4095, 1023, 9215, 32767, 65535, 131071, 262143, 524287, 1048575, 2097151, 4194303]
theorem impl_strictAttrs.tab4 : rtab .any (opsOf Tryz.f177 4) = impl_strictAttrs.T4 := by kernel_rfl
theorem impl_strictAttrs.bits4 : waitsOk impl_strictAttrs.T4.2 impl_strictAttrs.B4 = true := by kernel_rfl
theorem impl_strictAttrs.calls (k : Nat) (A0 : Option Addr) (c0 : Nat) (l0 : List (S36)) (r : Bool) (w : World) (hr0 : Kd.C k36 w A0 l0.length l0) (hc0 : l0.length ≤ c0) (h : impl_strictAttrs.f k l0 = some r) :
  Calls Tryz.prog 177 #[.slice A0 l0.length c0] w fun e w' => e = .returned (.bool r) ∧ Below w.heap.size w w' := by
 have hu36 := Tryz.underlying36;have HR0 := A_ hr0;have HC0 := A_ hc0;clear hr0 hc0;have HB := A_ (Below.refl w.heap.size w);have H : (impl_strictAttrs.l0 k l0 l0 (l0.length : Int) 0) = some r := h;clear h;have H' := A_ H;clear H;go_enter Tryz.func177, Tryz.ntmps177
 go_wp2
 go_loopg [7] k (fun kq v7 w' => ∃ (x7_1 : Int), v7 = .int .i64 x7_1 ∧ As9 (impl_strictAttrs.l0 kq l0 l0 (l0.length : Int) x7_1 = some r) ∧ As9 (kq ≤ k) ∧ As9 (Below w.heap.size w w'))
 case atStart => exact ⟨(0), e2_, H', ⟨Nat.le_refl _⟩, ⟨hB_⟩⟩
 case round =>
  clear H';try clear c1
  obtain ⟨x7_1, rfl, HA, HK1, HB⟩ := hrel;cases gk with
  | zero => exact absurd HA.out (by simp [impl_strictAttrs.l0])
  | succ k1 =>
   have H := HA.out;clear HA;simp only [impl_strictAttrs.l0] at H;rcases ic_ H with ⟨c2, H⟩ | ⟨c2, H⟩
   ·have c2b0 := dE_ c2;clear c2;obtain ⟨c3, H⟩ := ifn_ H;have c3b0 := dE_ c3;clear c3;obtain ⟨c4, H⟩ := ifn_ H;have c4b0 := dE_ c4;clear c4;obtain ⟨t598, A5, H⟩ := ob_ H;(try dsimp only at H)
    by_cases c6 : t598 = true
    ·subst c6;rw [if_pos rfl] at H;rcases ic_ H with ⟨c7, H⟩ | ⟨c7, H⟩
     ·obtain ⟨c7b0, c7b1⟩ := be_ c7;clear c7;obtain rfl := sI_ H;obtain ⟨p596, q596, ad596, e596, hx596_0, hx596_1⟩ := aB36_ HB.out HR0.out x7_1;cases e596;try go_wp2_with (first | ((with_reducible refine gate_dst (N := 4) rfl ?_); refine bE_ #[.string (⟨#[]⟩ : BA), .string (⟨#[]⟩ : BA)] 36 ?_; intro gb597 hg w8 hbox hb; have BK597 := A_ (hbox); have GW597 := hs_ hg; have GE597 := hs_ hg; replace HB := bS_ hb; clear hb hbox hg; obtain ⟨hcz9_0, hcz9_1, hfz9_0, hfz9_1⟩ := bk2_ BK597.out))
      have n0_ : As9 (((w8.setCell ⟨gb597, 0, none⟩ (.string ((rd_T36 l0 x7_1).f0))).setCell ⟨gb597, 1, none⟩ (.string ((rd_T36 l0 x7_1).f1))).heap[gb597]? = some (.cells #[.string ((rd_T36 l0 x7_1).f0), .string ((rd_T36 l0 x7_1).f1)] 36 (0, 0))) := ⟨by refine kB_ ?_; refine blk_put (cs := #[.string ((rd_T36 l0 x7_1).f0), .string (⟨#[]⟩ : BA)]) ?_ 1 _ rfl; refine kB_ ?_; refine blk_put (cs := #[.string (⟨#[]⟩ : BA), .string (⟨#[]⟩ : BA)]) ?_ 0 _ rfl; refine kB_ ?_; exact BK597.out⟩;have n1_ : As9 (Below w.heap.size w ((w8.setCell ⟨gb597, 0, none⟩ (.string ((rd_T36 l0 x7_1).f0))).setCell ⟨gb597, 1, none⟩ (.string ((rd_T36 l0 x7_1).f1)))) := ⟨hB_⟩;(try clear BK597)
      (try clear HB)
      generalize ((w8.setCell ⟨gb597, 0, none⟩ (.string ((rd_T36 l0 x7_1).f0))).setCell ⟨gb597, 1, none⟩ (.string ((rd_T36 l0 x7_1).f1))) = w10 at n0_ n1_ ⊢;have BK597 := n0_;have HB := n1_;clear n0_ n1_;replace BK597 := A_ (blk_drew BK597.out);replace HB := A_ (bD9 HB.out);refine start_ (n := 23) (S := fun w' => w'.cell? ⟨gb597, 0, none⟩ = some (.string ((rd_T36 l0 x7_1).f0)) ∧ w'.cell? ⟨gb597, 1, none⟩ = some (.string ((rd_T36 l0 x7_1).f1))) (ds := []) (tS 23 0) (by kernel_rfl) rfl rfl ⟨(blk_cell BK597.out 0).trans rfl, (blk_cell BK597.out 1).trans rfl⟩ (fun hHeld => ?_); refine with_tabW impl_strictAttrs.tab4 impl_strictAttrs.bits4 (fun HT_ HW_ => ?_);generalize w10.drew = w11 at BK597 HB hHeld ⊢;refine pqT_ ?_;refine tqT_ rfl (by rintro w' ⟨s0, s1⟩; go_simp; with_reducible rfl) ?_;refine n1T_ 2 (tS 23 3) rfl fun K hK => ?_
      refine gS_ Tryz.func176 #[.string ((rd_T36 l0 x7_1).f0)] ?_;with_reducible refine (impl_NameOk.calls k1 ((rd_T36 l0 x7_1).f0) true _ A5.out).mono ?_
      rintro e w12 ⟨rfl, hb⟩;refine ⟨_, rfl, ?_⟩;replace BK597 := A_ (blk_below (g := gb597) (o := .cells #[.string ((rd_T36 l0 x7_1).f0), .string ((rd_T36 l0 x7_1).f1)] 36 (0, 0)) (blk_below BK597.out hR_) hb);replace HB := bS_ hb;clear hb;refine hK.out _ _ ⟨(blk_cell BK597.out 0).trans rfl, (blk_cell BK597.out 1).trans rfl⟩ (fun hHeld => ?_);clear hK K;refine nm_ ?_;iterate 3 refine pqT_ ?_
      refine tqT_ rfl (by rintro w' ⟨s0, s1⟩; go_simp; with_reducible rfl) ?_;iterate 3 refine pqT_ ?_
      iterate 6 refine oqT_ ?_
      refine pqT_ ?_;refine pqT_ ?_;iterate 4 refine oqT_ ?_
      refine pqT_ ?_;refine done_ (done_of HT_.out (by kernel_rfl)) ?_;try go_wp2
      go_ret
      exact ⟨e1_, hB_⟩
     ·obtain ⟨c7b0, c7b1⟩ := bn_ c7;have c13b0 := eq_true (dT_ : 0 ≤ x7_1);obtain ⟨c14, H⟩ := ifn_ H;have c14b0 := eq_true c14;have c14b1 := dE_ c14;clear c14;obtain ⟨y599, hy599⟩ : ∃ y_ : List (S36), y_ = (l0.take (x7_1 : Int).toNat) := ⟨_, rfl⟩;replace H : ((impl_hasAttr.f y599 ((rd_T36 l0 x7_1).f0)).bind fun t603 => (if t603 = true then (some false) else ((impl_TextOk.f k1 ((rd_T36 l0 x7_1).f1)).bind fun t604 => (if t604 = true then (impl_strictAttrs.l0 k1 l0 l0 (l0.length : Int) (wrap64 (x7_1 + 1))) else (some false))))) = some r := by first | (rw [hy599]; with_reducible exact H) | (have H2_ := (Option.bind_some _ _).symm.trans H; rw [hy599]; with_reducible exact H2_) | (have H2_ := (Option.bind_some _ _).symm.trans H; with_reducible exact H2_) | with_reducible exact H | (rw [hy599]; exact H) | exact H
      have Ny599 := A_ hy599;clear hy599;obtain ⟨t603, A15, H⟩ := ob_ H;(try dsimp only at H)
      by_cases c16 : t603 = true
      ·subst c16;rw [if_pos rfl] at H;obtain rfl := sI_ H;obtain ⟨p596, q596, ad596, e596, hx596_0, hx596_1⟩ := aB36_ HB.out HR0.out x7_1;cases e596;try go_wp2_with (first | ((with_reducible refine gate_dst (N := 4) rfl ?_); refine bE_ #[.string (⟨#[]⟩ : BA), .string (⟨#[]⟩ : BA)] 36 ?_; intro gb597 hg w17 hbox hb; have BK597 := A_ (hbox); have GW597 := hs_ hg; have GE597 := hs_ hg; replace HB := bS_ hb; clear hb hbox hg; obtain ⟨hcz18_0, hcz18_1, hfz18_0, hfz18_1⟩ := bk2_ BK597.out))
       have n0_ : As9 (((w17.setCell ⟨gb597, 0, none⟩ (.string ((rd_T36 l0 x7_1).f0))).setCell ⟨gb597, 1, none⟩ (.string ((rd_T36 l0 x7_1).f1))).heap[gb597]? = some (.cells #[.string ((rd_T36 l0 x7_1).f0), .string ((rd_T36 l0 x7_1).f1)] 36 (0, 0))) := ⟨by refine kB_ ?_; refine blk_put (cs := #[.string ((rd_T36 l0 x7_1).f0), .string (⟨#[]⟩ : BA)]) ?_ 1 _ rfl; refine kB_ ?_; refine blk_put (cs := #[.string (⟨#[]⟩ : BA), .string (⟨#[]⟩ : BA)]) ?_ 0 _ rfl; refine kB_ ?_; exact BK597.out⟩;have n1_ : As9 (Below w.heap.size w ((w17.setCell ⟨gb597, 0, none⟩ (.string ((rd_T36 l0 x7_1).f0))).setCell ⟨gb597, 1, none⟩ (.string ((rd_T36 l0 x7_1).f1)))) := ⟨hB_⟩;(try clear BK597)
       (try clear HB)
       generalize ((w17.setCell ⟨gb597, 0, none⟩ (.string ((rd_T36 l0 x7_1).f0))).setCell ⟨gb597, 1, none⟩ (.string ((rd_T36 l0 x7_1).f1))) = w19 at n0_ n1_ ⊢;have BK597 := n0_;have HB := n1_;clear n0_ n1_;replace BK597 := A_ (blk_drew BK597.out);replace HB := A_ (bD9 HB.out);refine start_ (n := 23) (S := fun w' => w'.cell? ⟨gb597, 0, none⟩ = some (.string ((rd_T36 l0 x7_1).f0)) ∧ w'.cell? ⟨gb597, 1, none⟩ = some (.string ((rd_T36 l0 x7_1).f1))) (ds := []) (tS 23 0) (by kernel_rfl) rfl rfl ⟨(blk_cell BK597.out 0).trans rfl, (blk_cell BK597.out 1).trans rfl⟩ (fun hHeld => ?_); refine with_tabW impl_strictAttrs.tab4 impl_strictAttrs.bits4 (fun HT_ HW_ => ?_);generalize w19.drew = w20 at BK597 HB hHeld ⊢;refine pqT_ ?_;refine tqT_ rfl (by rintro w' ⟨s0, s1⟩; go_simp; with_reducible rfl) ?_;refine n1T_ 2 (tS 23 3) rfl fun K hK => ?_
       refine gS_ Tryz.func176 #[.string ((rd_T36 l0 x7_1).f0)] ?_;with_reducible refine (impl_NameOk.calls k1 ((rd_T36 l0 x7_1).f0) true _ A5.out).mono ?_
       rintro e w21 ⟨rfl, hb⟩;refine ⟨_, rfl, ?_⟩;replace BK597 := A_ (blk_below (g := gb597) (o := .cells #[.string ((rd_T36 l0 x7_1).f0), .string ((rd_T36 l0 x7_1).f1)] 36 (0, 0)) (blk_below BK597.out hR_) hb);replace HB := bS_ hb;clear hb;have q22 : (x7_1 : Int) ≤ ((l0.length : Int) : Int) := dT_;obtain ⟨i022, hi022, _, hsz22, _⟩ := info_parts info36;have hroom22 : l0.length ≤ c0 := HC0.out;have hC22 : Kd.C k36 _ (some ad596) l0.length l0 := HR0.out;have hcut22 := cut_to (P := Tryz.prog) 40 36 .i64 Tryz.underlying40 hi022 (some ad596) l0.length c0 x7_1 (dT_) q22 hroom22;have hr22 := Kd.C_take (m := (x7_1 : Int).toNat) hC22 om_;have hy22 : y599.length = (x7_1 : Int).toNat := (by rw [Ny599.out, List.length_take]; omega);rw [← Ny599.out] at hr22;rw [← hy22] at hcut22;have HR602 := A_ hr22;have HC602 := A_ (show y599.length ≤ c0 from by omega);clear hr22 hC22 hroom22 hi022 hsz22;have KY22 := A_ hy22;clear hy22;replace q22 := eq_true q22;refine hK.out _ _ ⟨(blk_cell BK597.out 0).trans rfl, (blk_cell BK597.out 1).trans rfl⟩ (fun hHeld => ?_);clear hK K;refine nm_ ?_;iterate 3 refine pqT_ ?_
       refine tqT_ rfl (by rintro w' ⟨s0, s1⟩; go_simp; with_reducible rfl) ?_;iterate 7 refine pqT_ ?_
       refine tqT_ rfl (by rintro w' ⟨s0, s1⟩; go_simp; with_reducible rfl) ?_;refine n1T_ 15 (tS 23 16) rfl fun K hK => ?_
       refine gS_ Tryz.func173 #[.slice (some ad596) y599.length c0, .string ((rd_T36 l0 x7_1).f0)] ?_;with_reducible refine (impl_hasAttr.calls _ _ y599 ((rd_T36 l0 x7_1).f0) true _ ?side1 ?side2 A15.out).mono ?_
       (case side1 => exact Kd.C_below HR602.out hB_)
       (case side2 => exact HC602.out)
       rintro e w23 ⟨rfl, hb⟩;refine ⟨_, rfl, ?_⟩;replace BK597 := A_ (blk_below (g := gb597) (o := .cells #[.string ((rd_T36 l0 x7_1).f0), .string ((rd_T36 l0 x7_1).f1)] 36 (0, 0)) (blk_below BK597.out hR_) hb);replace HB := bS_ hb;clear hb;refine hK.out _ _ ⟨(blk_cell BK597.out 0).trans rfl, (blk_cell BK597.out 1).trans rfl⟩ (fun hHeld => ?_);clear hK K;refine nm_ ?_;refine pqT_ ?_;refine pqT_ ?_;iterate 4 refine oqT_ ?_
       refine pqT_ ?_;refine done_ (done_of HT_.out (by kernel_rfl)) ?_;try go_wp2
       go_ret
       exact ⟨e1_, hB_⟩
      ·replace c16 := bF_ c16;subst c16;rw [if_neg nF_] at H;obtain ⟨t604, A24, H⟩ := ob_ H;(try dsimp only at H)
       by_cases c25 : t604 = true
       ·subst c25;rw [if_pos rfl] at H;have H' := A_ H;clear H;obtain ⟨p596, q596, ad596, e596, hx596_0, hx596_1⟩ := aB36_ HB.out HR0.out x7_1;cases e596;try go_wp2_with (first | ((with_reducible refine gate_dst (N := 4) rfl ?_); refine bE_ #[.string (⟨#[]⟩ : BA), .string (⟨#[]⟩ : BA)] 36 ?_; intro gb597 hg w26 hbox hb; have BK597 := A_ (hbox); have GW597 := hs_ hg; have GE597 := hs_ hg; replace HB := bS_ hb; clear hb hbox hg; obtain ⟨hcz27_0, hcz27_1, hfz27_0, hfz27_1⟩ := bk2_ BK597.out))
        have n0_ : As9 (((w26.setCell ⟨gb597, 0, none⟩ (.string ((rd_T36 l0 x7_1).f0))).setCell ⟨gb597, 1, none⟩ (.string ((rd_T36 l0 x7_1).f1))).heap[gb597]? = some (.cells #[.string ((rd_T36 l0 x7_1).f0), .string ((rd_T36 l0 x7_1).f1)] 36 (0, 0))) := ⟨by refine kB_ ?_; refine blk_put (cs := #[.string ((rd_T36 l0 x7_1).f0), .string (⟨#[]⟩ : BA)]) ?_ 1 _ rfl; refine kB_ ?_; refine blk_put (cs := #[.string (⟨#[]⟩ : BA), .string (⟨#[]⟩ : BA)]) ?_ 0 _ rfl; refine kB_ ?_; exact BK597.out⟩;have n1_ : As9 (Below w.heap.size w ((w26.setCell ⟨gb597, 0, none⟩ (.string ((rd_T36 l0 x7_1).f0))).setCell ⟨gb597, 1, none⟩ (.string ((rd_T36 l0 x7_1).f1)))) := ⟨hB_⟩;(try clear BK597)
        (try clear HB)
        generalize ((w26.setCell ⟨gb597, 0, none⟩ (.string ((rd_T36 l0 x7_1).f0))).setCell ⟨gb597, 1, none⟩ (.string ((rd_T36 l0 x7_1).f1))) = w28 at n0_ n1_ ⊢;have BK597 := n0_;have HB := n1_;clear n0_ n1_;replace BK597 := A_ (blk_drew BK597.out);replace HB := A_ (bD9 HB.out);refine start_ (n := 23) (S := fun w' => w'.cell? ⟨gb597, 0, none⟩ = some (.string ((rd_T36 l0 x7_1).f0)) ∧ w'.cell? ⟨gb597, 1, none⟩ = some (.string ((rd_T36 l0 x7_1).f1))) (ds := []) (tS 23 0) (by kernel_rfl) rfl rfl ⟨(blk_cell BK597.out 0).trans rfl, (blk_cell BK597.out 1).trans rfl⟩ (fun hHeld => ?_); refine with_tabW impl_strictAttrs.tab4 impl_strictAttrs.bits4 (fun HT_ HW_ => ?_);generalize w28.drew = w29 at BK597 HB hHeld ⊢;refine pqT_ ?_;refine tqT_ rfl (by rintro w' ⟨s0, s1⟩; go_simp; with_reducible rfl) ?_;refine n1T_ 2 (tS 23 3) rfl fun K hK => ?_
        refine gS_ Tryz.func176 #[.string ((rd_T36 l0 x7_1).f0)] ?_;with_reducible refine (impl_NameOk.calls k1 ((rd_T36 l0 x7_1).f0) true _ A5.out).mono ?_
        rintro e w30 ⟨rfl, hb⟩;refine ⟨_, rfl, ?_⟩;replace BK597 := A_ (blk_below (g := gb597) (o := .cells #[.string ((rd_T36 l0 x7_1).f0), .string ((rd_T36 l0 x7_1).f1)] 36 (0, 0)) (blk_below BK597.out hR_) hb);replace HB := bS_ hb;clear hb;have q31 : (x7_1 : Int) ≤ ((l0.length : Int) : Int) := dT_;obtain ⟨i031, hi031, _, hsz31, _⟩ := info_parts info36;have hroom31 : l0.length ≤ c0 := HC0.out;have hC31 : Kd.C k36 _ (some ad596) l0.length l0 := HR0.out;have hcut31 := cut_to (P := Tryz.prog) 40 36 .i64 Tryz.underlying40 hi031 (some ad596) l0.length c0 x7_1 (dT_) q31 hroom31;have hr31 := Kd.C_take (m := (x7_1 : Int).toNat) hC31 om_;have hy31 : y599.length = (x7_1 : Int).toNat := (by rw [Ny599.out, List.length_take]; omega);rw [← Ny599.out] at hr31;rw [← hy31] at hcut31;have HR602 := A_ hr31;have HC602 := A_ (show y599.length ≤ c0 from by omega);clear hr31 hC31 hroom31 hi031 hsz31;have KY31 := A_ hy31;clear hy31;replace q31 := eq_true q31;refine hK.out _ _ ⟨(blk_cell BK597.out 0).trans rfl, (blk_cell BK597.out 1).trans rfl⟩ (fun hHeld => ?_);clear hK K;refine nm_ ?_;iterate 3 refine pqT_ ?_
        refine tqT_ rfl (by rintro w' ⟨s0, s1⟩; go_simp; with_reducible rfl) ?_;iterate 7 refine pqT_ ?_
        refine tqT_ rfl (by rintro w' ⟨s0, s1⟩; go_simp; with_reducible rfl) ?_;refine n1T_ 15 (tS 23 16) rfl fun K hK => ?_
        refine gS_ Tryz.func173 #[.slice (some ad596) y599.length c0, .string ((rd_T36 l0 x7_1).f0)] ?_;with_reducible refine (impl_hasAttr.calls _ _ y599 ((rd_T36 l0 x7_1).f0) false _ ?side1 ?side2 A15.out).mono ?_
        (case side1 => exact Kd.C_below HR602.out hB_)
        (case side2 => exact HC602.out)
        rintro e w32 ⟨rfl, hb⟩;refine ⟨_, rfl, ?_⟩;replace BK597 := A_ (blk_below (g := gb597) (o := .cells #[.string ((rd_T36 l0 x7_1).f0), .string ((rd_T36 l0 x7_1).f1)] 36 (0, 0)) (blk_below BK597.out hR_) hb);replace HB := bS_ hb;clear hb;refine hK.out _ _ ⟨(blk_cell BK597.out 0).trans rfl, (blk_cell BK597.out 1).trans rfl⟩ (fun hHeld => ?_);clear hK K;refine nm_ ?_;iterate 3 refine pqT_ ?_
        refine tqT_ rfl (by rintro w' ⟨s0, s1⟩; go_simp; with_reducible rfl) ?_;refine n1T_ 20 (tS 23 21) rfl fun K hK => ?_
        refine gS_ Tryz.func30 #[.string ((rd_T36 l0 x7_1).f1)] ?_;with_reducible refine (impl_TextOk.calls k1 ((rd_T36 l0 x7_1).f1) true _ A24.out).mono ?_
        rintro e w33 ⟨rfl, hb⟩;refine ⟨_, rfl, ?_⟩;replace BK597 := A_ (blk_below (g := gb597) (o := .cells #[.string ((rd_T36 l0 x7_1).f0), .string ((rd_T36 l0 x7_1).f1)] 36 (0, 0)) (blk_below BK597.out hR_) hb);replace HB := bS_ hb;clear hb;refine hK.out _ _ ⟨(blk_cell BK597.out 0).trans rfl, (blk_cell BK597.out 1).trans rfl⟩ (fun hHeld => ?_);clear hK K;refine nm_ ?_;refine pqT_ ?_;refine pqT_ ?_;refine done_ (done_of HT_.out (by kernel_rfl)) ?_;try go_wp2
        go_roundg k1
        case measure => have := HK1.out; omega
        case rel => exact ⟨(wrap64 (x7_1 + 1)), e2_, H', ⟨by have := HK1.out; omega⟩, ⟨hB_⟩⟩
       ·replace c25 := bF_ c25;subst c25;rw [if_neg nF_] at H;obtain rfl := sI_ H;obtain ⟨p596, q596, ad596, e596, hx596_0, hx596_1⟩ := aB36_ HB.out HR0.out x7_1;cases e596;try go_wp2_with (first | ((with_reducible refine gate_dst (N := 4) rfl ?_); refine bE_ #[.string (⟨#[]⟩ : BA), .string (⟨#[]⟩ : BA)] 36 ?_; intro gb597 hg w34 hbox hb; have BK597 := A_ (hbox); have GW597 := hs_ hg; have GE597 := hs_ hg; replace HB := bS_ hb; clear hb hbox hg; obtain ⟨hcz35_0, hcz35_1, hfz35_0, hfz35_1⟩ := bk2_ BK597.out))
        have n0_ : As9 (((w34.setCell ⟨gb597, 0, none⟩ (.string ((rd_T36 l0 x7_1).f0))).setCell ⟨gb597, 1, none⟩ (.string ((rd_T36 l0 x7_1).f1))).heap[gb597]? = some (.cells #[.string ((rd_T36 l0 x7_1).f0), .string ((rd_T36 l0 x7_1).f1)] 36 (0, 0))) := ⟨by refine kB_ ?_; refine blk_put (cs := #[.string ((rd_T36 l0 x7_1).f0), .string (⟨#[]⟩ : BA)]) ?_ 1 _ rfl; refine kB_ ?_; refine blk_put (cs := #[.string (⟨#[]⟩ : BA), .string (⟨#[]⟩ : BA)]) ?_ 0 _ rfl; refine kB_ ?_; exact BK597.out⟩;have n1_ : As9 (Below w.heap.size w ((w34.setCell ⟨gb597, 0, none⟩ (.string ((rd_T36 l0 x7_1).f0))).setCell ⟨gb597, 1, none⟩ (.string ((rd_T36 l0 x7_1).f1)))) := ⟨hB_⟩;(try clear BK597)
        (try clear HB)
        generalize ((w34.setCell ⟨gb597, 0, none⟩ (.string ((rd_T36 l0 x7_1).f0))).setCell ⟨gb597, 1, none⟩ (.string ((rd_T36 l0 x7_1).f1))) = w36 at n0_ n1_ ⊢;have BK597 := n0_;have HB := n1_;clear n0_ n1_;replace BK597 := A_ (blk_drew BK597.out);replace HB := A_ (bD9 HB.out);refine start_ (n := 23) (S := fun w' => w'.cell? ⟨gb597, 0, none⟩ = some (.string ((rd_T36 l0 x7_1).f0)) ∧ w'.cell? ⟨gb597, 1, none⟩ = some (.string ((rd_T36 l0 x7_1).f1))) (ds := []) (tS 23 0) (by kernel_rfl) rfl rfl ⟨(blk_cell BK597.out 0).trans rfl, (blk_cell BK597.out 1).trans rfl⟩ (fun hHeld => ?_); refine with_tabW impl_strictAttrs.tab4 impl_strictAttrs.bits4 (fun HT_ HW_ => ?_);generalize w36.drew = w37 at BK597 HB hHeld ⊢;refine pqT_ ?_;refine tqT_ rfl (by rintro w' ⟨s0, s1⟩; go_simp; with_reducible rfl) ?_;refine n1T_ 2 (tS 23 3) rfl fun K hK => ?_
        refine gS_ Tryz.func176 #[.string ((rd_T36 l0 x7_1).f0)] ?_;with_reducible refine (impl_NameOk.calls k1 ((rd_T36 l0 x7_1).f0) true _ A5.out).mono ?_
        rintro e w38 ⟨rfl, hb⟩;refine ⟨_, rfl, ?_⟩;replace BK597 := A_ (blk_below (g := gb597) (o := .cells #[.string ((rd_T36 l0 x7_1).f0), .string ((rd_T36 l0 x7_1).f1)] 36 (0, 0)) (blk_below BK597.out hR_) hb);replace HB := bS_ hb;clear hb;have q39 : (x7_1 : Int) ≤ ((l0.length : Int) : Int) := dT_;obtain ⟨i039, hi039, _, hsz39, _⟩ := info_parts info36;have hroom39 : l0.length ≤ c0 := HC0.out;have hC39 : Kd.C k36 _ (some ad596) l0.length l0 := HR0.out;have hcut39 := cut_to (P := Tryz.prog) 40 36 .i64 Tryz.underlying40 hi039 (some ad596) l0.length c0 x7_1 (dT_) q39 hroom39;have hr39 := Kd.C_take (m := (x7_1 : Int).toNat) hC39 om_;have hy39 : y599.length = (x7_1 : Int).toNat := (by rw [Ny599.out, List.length_take]; omega);rw [← Ny599.out] at hr39;rw [← hy39] at hcut39;have HR602 := A_ hr39;have HC602 := A_ (show y599.length ≤ c0 from by omega);clear hr39 hC39 hroom39 hi039 hsz39;have KY39 := A_ hy39;clear hy39;replace q39 := eq_true q39;refine hK.out _ _ ⟨(blk_cell BK597.out 0).trans rfl, (blk_cell BK597.out 1).trans rfl⟩ (fun hHeld => ?_);clear hK K;refine nm_ ?_;iterate 3 refine pqT_ ?_
        refine tqT_ rfl (by rintro w' ⟨s0, s1⟩; go_simp; with_reducible rfl) ?_;iterate 7 refine pqT_ ?_
        refine tqT_ rfl (by rintro w' ⟨s0, s1⟩; go_simp; with_reducible rfl) ?_;refine n1T_ 15 (tS 23 16) rfl fun K hK => ?_
        refine gS_ Tryz.func173 #[.slice (some ad596) y599.length c0, .string ((rd_T36 l0 x7_1).f0)] ?_;with_reducible refine (impl_hasAttr.calls _ _ y599 ((rd_T36 l0 x7_1).f0) false _ ?side1 ?side2 A15.out).mono ?_
        (case side1 => exact Kd.C_below HR602.out hB_)
        (case side2 => exact HC602.out)
        rintro e w40 ⟨rfl, hb⟩;refine ⟨_, rfl, ?_⟩;replace BK597 := A_ (blk_below (g := gb597) (o := .cells #[.string ((rd_T36 l0 x7_1).f0), .string ((rd_T36 l0 x7_1).f1)] 36 (0, 0)) (blk_below BK597.out hR_) hb);replace HB := bS_ hb;clear hb;refine hK.out _ _ ⟨(blk_cell BK597.out 0).trans rfl, (blk_cell BK597.out 1).trans rfl⟩ (fun hHeld => ?_);clear hK K;refine nm_ ?_;iterate 3 refine pqT_ ?_
        refine tqT_ rfl (by rintro w' ⟨s0, s1⟩; go_simp; with_reducible rfl) ?_;refine n1T_ 20 (tS 23 21) rfl fun K hK => ?_
        refine gS_ Tryz.func30 #[.string ((rd_T36 l0 x7_1).f1)] ?_;with_reducible refine (impl_TextOk.calls k1 ((rd_T36 l0 x7_1).f1) false _ A24.out).mono ?_
        rintro e w41 ⟨rfl, hb⟩;refine ⟨_, rfl, ?_⟩;replace BK597 := A_ (blk_below (g := gb597) (o := .cells #[.string ((rd_T36 l0 x7_1).f0), .string ((rd_T36 l0 x7_1).f1)] 36 (0, 0)) (blk_below BK597.out hR_) hb);replace HB := bS_ hb;clear hb;refine hK.out _ _ ⟨(blk_cell BK597.out 0).trans rfl, (blk_cell BK597.out 1).trans rfl⟩ (fun hHeld => ?_);clear hK K;refine nm_ ?_;refine pqT_ ?_;refine pqT_ ?_;refine done_ (done_of HT_.out (by kernel_rfl)) ?_;try go_wp2
        go_ret
        exact ⟨e1_, hB_⟩
    ·replace c6 := bF_ c6;subst c6;rw [if_neg nF_] at H;obtain rfl := sI_ H;obtain ⟨p596, q596, ad596, e596, hx596_0, hx596_1⟩ := aB36_ HB.out HR0.out x7_1;cases e596;try go_wp2_with (first | ((with_reducible refine gate_dst (N := 4) rfl ?_); refine bE_ #[.string (⟨#[]⟩ : BA), .string (⟨#[]⟩ : BA)] 36 ?_; intro gb597 hg w42 hbox hb; have BK597 := A_ (hbox); have GW597 := hs_ hg; have GE597 := hs_ hg; replace HB := bS_ hb; clear hb hbox hg; obtain ⟨hcz43_0, hcz43_1, hfz43_0, hfz43_1⟩ := bk2_ BK597.out))
     have n0_ : As9 (((w42.setCell ⟨gb597, 0, none⟩ (.string ((rd_T36 l0 x7_1).f0))).setCell ⟨gb597, 1, none⟩ (.string ((rd_T36 l0 x7_1).f1))).heap[gb597]? = some (.cells #[.string ((rd_T36 l0 x7_1).f0), .string ((rd_T36 l0 x7_1).f1)] 36 (0, 0))) := ⟨by refine kB_ ?_; refine blk_put (cs := #[.string ((rd_T36 l0 x7_1).f0), .string (⟨#[]⟩ : BA)]) ?_ 1 _ rfl; refine kB_ ?_; refine blk_put (cs := #[.string (⟨#[]⟩ : BA), .string (⟨#[]⟩ : BA)]) ?_ 0 _ rfl; refine kB_ ?_; exact BK597.out⟩;have n1_ : As9 (Below w.heap.size w ((w42.setCell ⟨gb597, 0, none⟩ (.string ((rd_T36 l0 x7_1).f0))).setCell ⟨gb597, 1, none⟩ (.string ((rd_T36 l0 x7_1).f1)))) := ⟨hB_⟩;(try clear BK597)
     (try clear HB)
     generalize ((w42.setCell ⟨gb597, 0, none⟩ (.string ((rd_T36 l0 x7_1).f0))).setCell ⟨gb597, 1, none⟩ (.string ((rd_T36 l0 x7_1).f1))) = w44 at n0_ n1_ ⊢;have BK597 := n0_;have HB := n1_;clear n0_ n1_;replace BK597 := A_ (blk_drew BK597.out);replace HB := A_ (bD9 HB.out);refine start_ (n := 23) (S := fun w' => w'.cell? ⟨gb597, 0, none⟩ = some (.string ((rd_T36 l0 x7_1).f0)) ∧ w'.cell? ⟨gb597, 1, none⟩ = some (.string ((rd_T36 l0 x7_1).f1))) (ds := []) (tS 23 0) (by kernel_rfl) rfl rfl ⟨(blk_cell BK597.out 0).trans rfl, (blk_cell BK597.out 1).trans rfl⟩ (fun hHeld => ?_); refine with_tabW impl_strictAttrs.tab4 impl_strictAttrs.bits4 (fun HT_ HW_ => ?_);generalize w44.drew = w45 at BK597 HB hHeld ⊢;refine pqT_ ?_;refine tqT_ rfl (by rintro w' ⟨s0, s1⟩; go_simp; with_reducible rfl) ?_;refine n1T_ 2 (tS 23 3) rfl fun K hK => ?_
     refine gS_ Tryz.func176 #[.string ((rd_T36 l0 x7_1).f0)] ?_;with_reducible refine (impl_NameOk.calls k1 ((rd_T36 l0 x7_1).f0) false _ A5.out).mono ?_
     rintro e w46 ⟨rfl, hb⟩;refine ⟨_, rfl, ?_⟩;replace BK597 := A_ (blk_below (g := gb597) (o := .cells #[.string ((rd_T36 l0 x7_1).f0), .string ((rd_T36 l0 x7_1).f1)] 36 (0, 0)) (blk_below BK597.out hR_) hb);replace HB := bS_ hb;clear hb;refine hK.out _ _ ⟨(blk_cell BK597.out 0).trans rfl, (blk_cell BK597.out 1).trans rfl⟩ (fun hHeld => ?_);clear hK K;refine nm_ ?_;refine pqT_ ?_;refine pqT_ ?_;iterate 3 refine oqT_ ?_
     refine pqT_ ?_;refine pqT_ ?_;iterate 6 refine oqT_ ?_
     refine pqT_ ?_;refine pqT_ ?_;iterate 4 refine oqT_ ?_
     refine pqT_ ?_;refine done_ (done_of HT_.out (by kernel_rfl)) ?_;try go_wp2
     go_ret
     exact ⟨e1_, hB_⟩
   ·have c2b0 := dF_ c2;clear c2;obtain rfl := sI_ H;go_wp2
    go_ret
    exact ⟨e1_, hB_⟩
mutual
def impl_elOk.f : Nat → Int → Int → ByteArray → List S36 → ByteArray → List S43 → Int → Option Bool
 | 0, _, _, _, _, _, _, _ => none
 | k + 1, f0, f1, f2, l3, f4, l5, deep => if deep < 1 then some false else
  if f0 = 1 then (impl_inRange.f f1 0 2).bind fun a => if a = true then (impl_NameOk.f k f2).bind fun b => if b = true then (impl_strictAttrs.f k l3).bind fun c => if c = true then (if f4.toList = [] then elOkL k deep l5 0 else some false) else some false else some false else some false
  else if f1 = 0 then (if f2.toList = [] then (if l3 = [] then (if l5 = [] then (if f0 = 2 then (if f4.toList = [] then some false else impl_TextOk.f k f4) else if f0 = 3 then impl_NoteOk.f k f4 else some false) else some false) else some false) else some false) else some false
def elOkL : Nat → Int → List S43 → Int → Option Bool
 | 0, _, _, _ => none
 | k + 1, deep, l, j => if j < (l.length : Int) then (if 0 ≤ j then (impl_elOk.f k (rd_T43 l j).f0 (rd_T43 l j).f1 (rd_T43 l j).f2 (rd_T43 l j).f3 (rd_T43 l j).f4 (rd_T43 l j).f5 (wrap64 (deep - 1))).bind fun t => if t = true then (if 0 < j ∧ (rd_T43 l j).f0 = 2 ∧ (rd_T43 l (j - 1)).f0 = 2 then some false else elOkL k deep l (j + 1)) else some false else none) else some true
end
theorem elOk_mono_all : ∀ k, (∀ y0 y1 y2 y3 y4 y5 y6, LeO (impl_elOk.f k y0 y1 y2 y3 y4 y5 y6) (impl_elOk.f (k + 1) y0 y1 y2 y3 y4 y5 y6)) ∧ (∀ y0 y1 y2, LeO (elOkL k y0 y1 y2) (elOkL (k + 1) y0 y1 y2))
 | 0 => ⟨fun _ _ _ _ _ _ _ r h => by simp [impl_elOk.f] at h, fun _ _ _ r h => by simp [elOkL] at h⟩
 | k + 1 => by
  obtain ⟨i1, i2⟩ := elOk_mono_all k;refine ⟨fun y0 y1 y2 y3 y4 y5 y6 => ?_, fun y0 y1 y2 => ?_⟩
  ·rw [impl_elOk.f, impl_elOk.f];exact LeO.ite (LeO.refl _) (LeO.ite (LeO.bind (LeO.refl _) fun a => LeO.ite (LeO.bind (impl_NameOk.mono _ _) fun b => LeO.ite (LeO.bind (impl_strictAttrs.mono _ _) fun c => LeO.ite (LeO.ite (i2 _ _ _) (LeO.refl _)) (LeO.refl _)) (LeO.refl _)) (LeO.refl _)) (LeO.ite (LeO.ite (LeO.ite (LeO.ite (LeO.ite (LeO.ite (LeO.refl _) (impl_TextOk.mono _ _)) (LeO.ite (impl_NoteOk.mono _ _) (LeO.refl _))) (LeO.refl _)) (LeO.refl _)) (LeO.refl _)) (LeO.refl _)))
  ·rw [elOkL, elOkL];exact LeO.ite (LeO.ite (LeO.bind (i1 _ _ _ _ _ _ _) fun t => LeO.ite (LeO.ite (LeO.refl _) (i2 _ _ _)) (LeO.refl _)) (LeO.refl _)) (LeO.refl _)
theorem impl_elOk.mono : ∀ y0 y1 y2 y3 y4 y5 y6 k, LeO (impl_elOk.f k y0 y1 y2 y3 y4 y5 y6) (impl_elOk.f (k + 1) y0 y1 y2 y3 y4 y5 y6) := fun _ _ _ _ _ _ _ k => (elOk_mono_all k).1 _ _ _ _ _ _ _
theorem impl_elOk.calls (k : Nat) : ∀ (a0_0 : Int) (a0_1 : Int) (a0_2 : BA) (A0_3 : Option Addr) (c0_3 : Nat) (l0_3 : List S36) (a0_4 : BA) (A0_5 : Option Addr) (c0_5 : Nat) (l0_5 : List S43) (a1 : Int) (r : Bool) (w : World) (hr0_3 : Kd.C k36 w A0_3 l0_3.length l0_3) (hc0_3 : l0_3.length ≤ c0_3) (hr0_5 : Kd.C k43 w A0_5 l0_5.length l0_5) (hc0_5 : l0_5.length ≤ c0_5) (hL : LibOk w) (h : impl_elOk.f k a0_0 a0_1 a0_2 l0_3 a0_4 l0_5 a1 = some r),
  Calls Tryz.prog 138 #[.agg #[.int .i64 a0_0, .int .i64 a0_1, .string a0_2, .slice A0_3 l0_3.length c0_3, .string a0_4, .slice A0_5 l0_5.length c0_5], .int .i64 a1] w fun e w' => e = .returned (.bool r) ∧ Below w.heap.size w w' := by
 induction k using Nat.strongRecOn with
 | _ k ih =>
 intro f0 f1 f2 A3 c3 l3 f4 A5 c5 l5 deep r w hr3 hc3 hr5 hc5 hL h;cases k with
 | zero => simp [impl_elOk.f] at h
 | succ n =>
 have hu := Tryz.underlying43;have HR3 := A_ hr3;have HR5 := A_ hr5;have HC3 := A_ hc3;have HC5 := A_ hc5;have HLL := A_ hL;have hm5 := Kd.C_max hr5;rw [impl_elOk.f] at h;clear hr3 hc3 hr5 hc5 hL;go_enter Tryz.func138, Tryz.ntmps138
 by_cases d1 : deep < 1
 ·rw [if_pos d1] at h;obtain rfl := sI_ h;go_wp2_with (((with_reducible refine gate_dst (N := 2) rfl ?_); refine bE_ #[.int .i64 f0, .int .i64 f1, .string f2, .slice A3 l3.length c3, .string f4, .slice A5 l5.length c5] 43 ?_; intro gb hg w2 hbox hb; have HXz := A_ hbox; have HBz := A_ hb; clear hg hbox hb; obtain ⟨hz0, hz1, hz2, hz3, hz4, hz5⟩ := bc6_ HXz.out))
  go_ret
  exact ⟨rfl, HBz.out⟩
 rw [if_neg d1] at h;by_cases k1 : f0 = 1
 case neg =>
  rw [if_neg k1] at h;have k1b : (f0 == 1) = false := bN_ k1;have k1d : (!(f0 == 1)) = true := by rw [k1b]; rfl
  by_cases e1 : f1 = 0
  case neg =>
   rw [if_neg e1] at h;have e1b : (f1 == 0) = false := bN_ e1;have e1d : (!(f1 == 0)) = true := by rw [e1b]; rfl
   obtain rfl := sI_ h;go_wp2_with (((with_reducible refine gate_dst (N := 2) rfl ?_); refine bE_ #[.int .i64 f0, .int .i64 f1, .string f2, .slice A3 l3.length c3, .string f4, .slice A5 l5.length c5] 43 ?_; intro gb hg w2 hbox hb; have HXz := A_ hbox; have HBz := A_ hb; clear hg hbox hb; obtain ⟨hz0, hz1, hz2, hz3, hz4, hz5⟩ := bc6_ HXz.out))
   go_ret
   exact ⟨rfl, HBz.out⟩
  rw [if_pos e1] at h;have e1b : (f1 == 0) = true := bQ_ e1;have e1d : (!(f1 == 0)) = false := by rw [e1b]; rfl
  by_cases e2 : f2.toList = []
  case neg =>
   rw [if_neg e2] at h;have e2b : (f2.toList == ([] : List UInt8)) = false := bN_ e2;have e2c : f2.toList.isEmpty = false := by cases h9 : f2.toList with | nil => exact absurd h9 e2 | cons _ _ => rfl
   have e2d : (!f2.toList.isEmpty) = true := by rw [e2c]; rfl
   obtain rfl := sI_ h;go_wp2_with (((with_reducible refine gate_dst (N := 2) rfl ?_); refine bE_ #[.int .i64 f0, .int .i64 f1, .string f2, .slice A3 l3.length c3, .string f4, .slice A5 l5.length c5] 43 ?_; intro gb hg w2 hbox hb; have HXz := A_ hbox; have HBz := A_ hb; clear hg hbox hb; obtain ⟨hz0, hz1, hz2, hz3, hz4, hz5⟩ := bc6_ HXz.out))
   go_ret
   exact ⟨rfl, HBz.out⟩
  rw [if_pos e2] at h;have e2b : (f2.toList == ([] : List UInt8)) = true := by rw [e2]; rfl
  have e2c : f2.toList.isEmpty = true := by rw [e2]; rfl
  have e2d : (!f2.toList.isEmpty) = false := by rw [e2c]; rfl
  by_cases e3 : l3 = []
  case neg =>
   rw [if_neg e3] at h;have e3b : decide ((l3.length : Int) > 0) = true := dE_ (by cases l3 with | nil => exact absurd rfl e3 | cons a b => simp);have e3c : (0 < (l3.length : Int)) = True := eq_true (of_decide_eq_true e3b);have e3n : (0 < l3.length) = True := eq_true (by have := of_decide_eq_true e3b; omega);obtain rfl := sI_ h;go_wp2_with (((with_reducible refine gate_dst (N := 2) rfl ?_); refine bE_ #[.int .i64 f0, .int .i64 f1, .string f2, .slice A3 l3.length c3, .string f4, .slice A5 l5.length c5] 43 ?_; intro gb hg w2 hbox hb; have HXz := A_ hbox; have HBz := A_ hb; clear hg hbox hb; obtain ⟨hz0, hz1, hz2, hz3, hz4, hz5⟩ := bc6_ HXz.out))
   go_ret
   exact ⟨rfl, HBz.out⟩
  rw [if_pos e3] at h;have e3b : decide ((l3.length : Int) > 0) = false := by rw [e3]; rfl
  have e3c : (0 < (l3.length : Int)) = False := eq_false (of_decide_eq_false e3b);have e3n : (0 < l3.length) = False := eq_false (by have := of_decide_eq_false e3b; omega);by_cases e5 : l5 = []
  case neg =>
   rw [if_neg e5] at h;have e5b : decide ((l5.length : Int) > 0) = true := dE_ (by cases l5 with | nil => exact absurd rfl e5 | cons a b => simp);have e5c : (0 < (l5.length : Int)) = True := eq_true (of_decide_eq_true e5b);have e5n : (0 < l5.length) = True := eq_true (by have := of_decide_eq_true e5b; omega);obtain rfl := sI_ h;go_wp2_with (((with_reducible refine gate_dst (N := 2) rfl ?_); refine bE_ #[.int .i64 f0, .int .i64 f1, .string f2, .slice A3 l3.length c3, .string f4, .slice A5 l5.length c5] 43 ?_; intro gb hg w2 hbox hb; have HXz := A_ hbox; have HBz := A_ hb; clear hg hbox hb; obtain ⟨hz0, hz1, hz2, hz3, hz4, hz5⟩ := bc6_ HXz.out))
   go_ret
   exact ⟨rfl, HBz.out⟩
  rw [if_pos e5] at h;have e5b : decide ((l5.length : Int) > 0) = false := by rw [e5]; rfl
  have e5c : (0 < (l5.length : Int)) = False := eq_false (of_decide_eq_false e5b);have e5n : (0 < l5.length) = False := eq_false (by have := of_decide_eq_false e5b; omega);by_cases k2 : f0 = 2
  case pos =>
   rw [if_pos k2] at h;have k2b : (f0 == 2) = true := bQ_ k2;have k2c : (f0 == 3) = false := by rw [k2]; rfl
   by_cases e4 : f4.toList = []
   case pos =>
    rw [if_pos e4] at h;have e4b : (f4.toList == ([] : List UInt8)) = true := by rw [e4]; rfl
    have e4c : f4.toList.isEmpty = true := by rw [e4]; rfl
    have e4d : (!f4.toList.isEmpty) = false := by rw [e4c]; rfl
    obtain rfl := sI_ h;go_wp2_with (((with_reducible refine gate_dst (N := 2) rfl ?_); refine bE_ #[.int .i64 f0, .int .i64 f1, .string f2, .slice A3 l3.length c3, .string f4, .slice A5 l5.length c5] 43 ?_; intro gb hg w2 hbox hb; have HXz := A_ hbox; have HBz := A_ hb; clear hg hbox hb; obtain ⟨hz0, hz1, hz2, hz3, hz4, hz5⟩ := bc6_ HXz.out))
    go_ret
    exact ⟨rfl, HBz.out⟩
   rw [if_neg e4] at h;have e4b : (f4.toList == ([] : List UInt8)) = false := bN_ e4;have e4c : f4.toList.isEmpty = false := by cases h9 : f4.toList with | nil => exact absurd h9 e4 | cons _ _ => rfl
   have e4d : (!f4.toList.isEmpty) = true := by rw [e4c]; rfl
   have HT := A_ h;clear h;cases r with
   | true =>
    go_wp2_with (first | ((with_reducible refine gate_dst (N := 2) rfl ?_); refine bE_ #[.int .i64 f0, .int .i64 f1, .string f2, .slice A3 l3.length c3, .string f4, .slice A5 l5.length c5] 43 ?_; intro gb hg w2 hbox hb; have HXz := A_ hbox; have HBz := A_ hb; clear hg hbox hb; obtain ⟨hz0, hz1, hz2, hz3, hz4, hz5⟩ := bc6_ HXz.out) | (go_at_call 30; (with_reducible refine (impl_TextOk.calls n f4 _ _ HT.out).mono ?_); rintro e w3 ⟨rfl, hb⟩; have n1_ := A_ (blk_below HXz.out hb); have n2_ := A_ (below_step HBz.out hb); clear hb HXz HBz hz0 hz1 hz2 hz3 hz4 hz5; have HXz := n1_; have HBz := n2_; clear n1_ n2_; obtain ⟨hz0, hz1, hz2, hz3, hz4, hz5⟩ := bc6_ HXz.out))
    go_ret
    exact ⟨rfl, HBz.out⟩
   | false =>
    go_wp2_with (first | ((with_reducible refine gate_dst (N := 2) rfl ?_); refine bE_ #[.int .i64 f0, .int .i64 f1, .string f2, .slice A3 l3.length c3, .string f4, .slice A5 l5.length c5] 43 ?_; intro gb hg w2 hbox hb; have HXz := A_ hbox; have HBz := A_ hb; clear hg hbox hb; obtain ⟨hz0, hz1, hz2, hz3, hz4, hz5⟩ := bc6_ HXz.out) | (go_at_call 30; (with_reducible refine (impl_TextOk.calls n f4 _ _ HT.out).mono ?_); rintro e w3 ⟨rfl, hb⟩; have n1_ := A_ (blk_below HXz.out hb); have n2_ := A_ (below_step HBz.out hb); clear hb HXz HBz hz0 hz1 hz2 hz3 hz4 hz5; have HXz := n1_; have HBz := n2_; clear n1_ n2_; obtain ⟨hz0, hz1, hz2, hz3, hz4, hz5⟩ := bc6_ HXz.out))
    go_ret
    exact ⟨rfl, HBz.out⟩
  rw [if_neg k2] at h;have k2b : (f0 == 2) = false := bN_ k2;by_cases k3 : f0 = 3
  case pos =>
   rw [if_pos k3] at h;have k3b : (f0 == 3) = true := bQ_ k3;have HT := A_ h;clear h;go_wp2_with (first | ((with_reducible refine gate_dst (N := 2) rfl ?_); refine bE_ #[.int .i64 f0, .int .i64 f1, .string f2, .slice A3 l3.length c3, .string f4, .slice A5 l5.length c5] 43 ?_; intro gb hg w2 hbox hb; have HXz := A_ hbox; have HBz := A_ hb; clear hg hbox hb; obtain ⟨hz0, hz1, hz2, hz3, hz4, hz5⟩ := bc6_ HXz.out) | (go_at_call 79; (with_reducible refine (impl_NoteOk.calls n f4 _ _ (HLL.out.below HBz.out) HT.out).mono ?_); rintro e w3 ⟨rfl, hb⟩; have n1_ := A_ (blk_below HXz.out hb); have n2_ := A_ (below_step HBz.out hb); clear hb HXz HBz hz0 hz1 hz2 hz3 hz4 hz5; have HXz := n1_; have HBz := n2_; clear n1_ n2_; obtain ⟨hz0, hz1, hz2, hz3, hz4, hz5⟩ := bc6_ HXz.out))
   go_ret
   exact ⟨rfl, HBz.out⟩
  rw [if_neg k3] at h;have k3b : (f0 == 3) = false := bN_ k3;obtain rfl := sI_ h;go_wp2_with (((with_reducible refine gate_dst (N := 2) rfl ?_); refine bE_ #[.int .i64 f0, .int .i64 f1, .string f2, .slice A3 l3.length c3, .string f4, .slice A5 l5.length c5] 43 ?_; intro gb hg w2 hbox hb; have HXz := A_ hbox; have HBz := A_ hb; clear hg hbox hb; obtain ⟨hz0, hz1, hz2, hz3, hz4, hz5⟩ := bc6_ HXz.out))
  go_ret
  exact ⟨rfl, HBz.out⟩
 rw [if_pos k1] at h;have k1b : (f0 == 1) = true := bQ_ k1;have k1d : (!(f0 == 1)) = false := by rw [k1b]; rfl
 obtain ⟨a, ha, h⟩ := oB_ h;have Ha := A_ ha;clear ha;cases a with
 | false =>
  rw [if_neg si_] at h;obtain rfl := sI_ h;go_wp2_with (first | ((with_reducible refine gate_dst (N := 2) rfl ?_); refine bE_ #[.int .i64 f0, .int .i64 f1, .string f2, .slice A3 l3.length c3, .string f4, .slice A5 l5.length c5] 43 ?_; intro gb hg w2 hbox hb; have HXz := A_ hbox; have HBz := A_ hb; clear hg hbox hb; obtain ⟨hz0, hz1, hz2, hz3, hz4, hz5⟩ := bc6_ HXz.out) | (go_at_call 53; (with_reducible refine (impl_inRange.calls f1 0 2 _ _ Ha.out).mono ?_); rintro e w3 ⟨rfl, hb⟩; have n1_ := A_ (blk_below HXz.out hb.below); have n2_ := A_ (below_step HBz.out hb.below); clear hb HXz HBz hz0 hz1 hz2 hz3 hz4 hz5; have HXz := n1_; have HBz := n2_; clear n1_ n2_; obtain ⟨hz0, hz1, hz2, hz3, hz4, hz5⟩ := bc6_ HXz.out))
  go_ret
  exact ⟨rfl, HBz.out⟩
 | true =>
 rw [if_pos rfl] at h;obtain ⟨b, hb, h⟩ := oB_ h;have Hb := A_ hb;clear hb;cases b with
 | false =>
  rw [if_neg si_] at h;obtain rfl := sI_ h;go_wp2_with (first | ((with_reducible refine gate_dst (N := 2) rfl ?_); refine bE_ #[.int .i64 f0, .int .i64 f1, .string f2, .slice A3 l3.length c3, .string f4, .slice A5 l5.length c5] 43 ?_; intro gb hg w2 hbox hb; have HXz := A_ hbox; have HBz := A_ hb; clear hg hbox hb; obtain ⟨hz0, hz1, hz2, hz3, hz4, hz5⟩ := bc6_ HXz.out) | (go_at_call 53; (with_reducible refine (impl_inRange.calls f1 0 2 _ _ Ha.out).mono ?_); rintro e w3 ⟨rfl, hb⟩; have n1_ := A_ (blk_below HXz.out hb.below); have n2_ := A_ (below_step HBz.out hb.below); clear hb HXz HBz hz0 hz1 hz2 hz3 hz4 hz5; have HXz := n1_; have HBz := n2_; clear n1_ n2_; obtain ⟨hz0, hz1, hz2, hz3, hz4, hz5⟩ := bc6_ HXz.out) | (go_at_call 176; (with_reducible refine (impl_NameOk.calls n f2 _ _ Hb.out).mono ?_); rintro e w3 ⟨rfl, hb⟩; have n1_ := A_ (blk_below HXz.out hb); have n2_ := A_ (below_step HBz.out hb); clear hb HXz HBz hz0 hz1 hz2 hz3 hz4 hz5; have HXz := n1_; have HBz := n2_; clear n1_ n2_; obtain ⟨hz0, hz1, hz2, hz3, hz4, hz5⟩ := bc6_ HXz.out))
  go_ret
  exact ⟨rfl, HBz.out⟩
 | true =>
 rw [if_pos rfl] at h;obtain ⟨c, hc, h⟩ := oB_ h;have Hc := A_ hc;clear hc;cases c with
 | false =>
  rw [if_neg si_] at h;obtain rfl := sI_ h;go_wp2_with (first | ((with_reducible refine gate_dst (N := 2) rfl ?_); refine bE_ #[.int .i64 f0, .int .i64 f1, .string f2, .slice A3 l3.length c3, .string f4, .slice A5 l5.length c5] 43 ?_; intro gb hg w2 hbox hb; have HXz := A_ hbox; have HBz := A_ hb; clear hg hbox hb; obtain ⟨hz0, hz1, hz2, hz3, hz4, hz5⟩ := bc6_ HXz.out) | (go_at_call 53; (with_reducible refine (impl_inRange.calls f1 0 2 _ _ Ha.out).mono ?_); rintro e w3 ⟨rfl, hb⟩; have n1_ := A_ (blk_below HXz.out hb.below); have n2_ := A_ (below_step HBz.out hb.below); clear hb HXz HBz hz0 hz1 hz2 hz3 hz4 hz5; have HXz := n1_; have HBz := n2_; clear n1_ n2_; obtain ⟨hz0, hz1, hz2, hz3, hz4, hz5⟩ := bc6_ HXz.out) | (go_at_call 176; (with_reducible refine (impl_NameOk.calls n f2 _ _ Hb.out).mono ?_); rintro e w3 ⟨rfl, hb⟩; have n1_ := A_ (blk_below HXz.out hb); have n2_ := A_ (below_step HBz.out hb); clear hb HXz HBz hz0 hz1 hz2 hz3 hz4 hz5; have HXz := n1_; have HBz := n2_; clear n1_ n2_; obtain ⟨hz0, hz1, hz2, hz3, hz4, hz5⟩ := bc6_ HXz.out) | (go_at_call 177; (with_reducible refine (impl_strictAttrs.calls n A3 c3 l3 _ _ (Kd.C_below HR3.out HBz.out) HC3.out Hc.out).mono ?_); rintro e w3 ⟨rfl, hb⟩; have n1_ := A_ (blk_below HXz.out hb); have n2_ := A_ (below_step HBz.out hb); clear hb HXz HBz hz0 hz1 hz2 hz3 hz4 hz5; have HXz := n1_; have HBz := n2_; clear n1_ n2_; obtain ⟨hz0, hz1, hz2, hz3, hz4, hz5⟩ := bc6_ HXz.out))
  go_ret
  exact ⟨rfl, HBz.out⟩
 | true =>
 rw [if_pos rfl] at h;by_cases e4 : f4.toList = []
 case neg =>
  rw [if_neg e4] at h;have e4b : (f4.toList == ([] : List UInt8)) = false := bN_ e4;have e4c : f4.toList.isEmpty = false := by cases h9 : f4.toList with | nil => exact absurd h9 e4 | cons _ _ => rfl
  have e4d : (!f4.toList.isEmpty) = true := by rw [e4c]; rfl
  obtain rfl := sI_ h;go_wp2_with (first | ((with_reducible refine gate_dst (N := 2) rfl ?_); refine bE_ #[.int .i64 f0, .int .i64 f1, .string f2, .slice A3 l3.length c3, .string f4, .slice A5 l5.length c5] 43 ?_; intro gb hg w2 hbox hb; have HXz := A_ hbox; have HBz := A_ hb; clear hg hbox hb; obtain ⟨hz0, hz1, hz2, hz3, hz4, hz5⟩ := bc6_ HXz.out) | (go_at_call 53; (with_reducible refine (impl_inRange.calls f1 0 2 _ _ Ha.out).mono ?_); rintro e w3 ⟨rfl, hb⟩; have n1_ := A_ (blk_below HXz.out hb.below); have n2_ := A_ (below_step HBz.out hb.below); clear hb HXz HBz hz0 hz1 hz2 hz3 hz4 hz5; have HXz := n1_; have HBz := n2_; clear n1_ n2_; obtain ⟨hz0, hz1, hz2, hz3, hz4, hz5⟩ := bc6_ HXz.out) | (go_at_call 176; (with_reducible refine (impl_NameOk.calls n f2 _ _ Hb.out).mono ?_); rintro e w3 ⟨rfl, hb⟩; have n1_ := A_ (blk_below HXz.out hb); have n2_ := A_ (below_step HBz.out hb); clear hb HXz HBz hz0 hz1 hz2 hz3 hz4 hz5; have HXz := n1_; have HBz := n2_; clear n1_ n2_; obtain ⟨hz0, hz1, hz2, hz3, hz4, hz5⟩ := bc6_ HXz.out) | (go_at_call 177; (with_reducible refine (impl_strictAttrs.calls n A3 c3 l3 _ _ (Kd.C_below HR3.out HBz.out) HC3.out Hc.out).mono ?_); rintro e w3 ⟨rfl, hb⟩; have n1_ := A_ (blk_below HXz.out hb); have n2_ := A_ (below_step HBz.out hb); clear hb HXz HBz hz0 hz1 hz2 hz3 hz4 hz5; have HXz := n1_; have HBz := n2_; clear n1_ n2_; obtain ⟨hz0, hz1, hz2, hz3, hz4, hz5⟩ := bc6_ HXz.out))
  go_ret
  exact ⟨rfl, HBz.out⟩
 rw [if_pos e4] at h;have e4b : (f4.toList == ([] : List UInt8)) = true := by rw [e4]; rfl
 have e4c : f4.toList.isEmpty = true := by rw [e4]; rfl
 have e4d : (!f4.toList.isEmpty) = false := by rw [e4c]; rfl
 have HF := A_ h;clear h;go_wp2_with (first | ((with_reducible refine gate_dst (N := 2) rfl ?_); refine bE_ #[.int .i64 f0, .int .i64 f1, .string f2, .slice A3 l3.length c3, .string f4, .slice A5 l5.length c5] 43 ?_; intro gb hg w2 hbox hb; have HXz := A_ hbox; have HBz := A_ hb; clear hg hbox hb; obtain ⟨hz0, hz1, hz2, hz3, hz4, hz5⟩ := bc6_ HXz.out) | (go_at_call 53; (with_reducible refine (impl_inRange.calls f1 0 2 _ _ Ha.out).mono ?_); rintro e w3 ⟨rfl, hb⟩; have n1_ := A_ (blk_below HXz.out hb.below); have n2_ := A_ (below_step HBz.out hb.below); clear hb HXz HBz hz0 hz1 hz2 hz3 hz4 hz5; have HXz := n1_; have HBz := n2_; clear n1_ n2_; obtain ⟨hz0, hz1, hz2, hz3, hz4, hz5⟩ := bc6_ HXz.out) | (go_at_call 176; (with_reducible refine (impl_NameOk.calls n f2 _ _ Hb.out).mono ?_); rintro e w3 ⟨rfl, hb⟩; have n1_ := A_ (blk_below HXz.out hb); have n2_ := A_ (below_step HBz.out hb); clear hb HXz HBz hz0 hz1 hz2 hz3 hz4 hz5; have HXz := n1_; have HBz := n2_; clear n1_ n2_; obtain ⟨hz0, hz1, hz2, hz3, hz4, hz5⟩ := bc6_ HXz.out) | (go_at_call 177; (with_reducible refine (impl_strictAttrs.calls n A3 c3 l3 _ _ (Kd.C_below HR3.out HBz.out) HC3.out Hc.out).mono ?_); rintro e w3 ⟨rfl, hb⟩; have n1_ := A_ (blk_below HXz.out hb); have n2_ := A_ (below_step HBz.out hb); clear hb HXz HBz hz0 hz1 hz2 hz3 hz4 hz5; have HXz := n1_; have HBz := n2_; clear n1_ n2_; obtain ⟨hz0, hz1, hz2, hz3, hz4, hz5⟩ := bc6_ HXz.out))
 clear e4 e4b e4c e4d d1;go_loopg [79] n (fun kq v79 wr => ∃ j : Int, v79 = .int .i64 j ∧ 0 ≤ j ∧ j ≤ (l5.length : Int) ∧ As9 (elOkL kq deep l5 j = some r) ∧ As9 (kq ≤ n) ∧ As9 (Below w.heap.size w wr) ∧ As9 (wr.heap[gb]? = some (.cells #[.int .i64 f0, .int .i64 f1, .string f2, .slice A3 l3.length c3, .string f4, .slice A5 l5.length c5] 43 (0, 0))))
 case atStart => exact ⟨0, rfl, Int.le_refl _, om_, HF, ⟨Nat.le_refl _⟩, HBz, HXz⟩
 case round =>
  clear HF HBz HXz hz0 hz1 hz2 hz3 hz4 hz5;obtain ⟨j, rfl, j0, jl, HA, HN, HB, HX⟩ := hrel;cases gk with
  | zero => exact absurd HA.out (by simp [elOkL])
  | succ m =>
  have H := HA.out;clear HA;rw [elOkL] at H;by_cases hlt : j < (l5.length : Int)
  case neg =>
   rw [if_neg hlt] at H;obtain rfl := sI_ H;go_wp2
   go_ret
   exact ⟨rfl, HB.out⟩
  rw [if_pos hlt, if_pos j0] at H;obtain ⟨t, ht, H⟩ := oB_ H;have Ht := A_ ht;clear ht;have hw5 := Kd.C_below HR5.out HB.out;obtain ⟨ad, A3', c3', A5', c5', eA, x0, x1, x2, x3, x4, x5, l3', g3, l5', g5⟩ := at_T43 hw5 j j0 hlt;subst eA;have HG3 := A_ g3;have HG5 := A_ g5;have HW5 := A_ hw5;have HL3 := A_ l3';have HL5 := A_ l5';have p7 := eq_true j0;have q7 := eq_true hlt;have hwj : wrap64 (j + 1) = j + 1 := by unfold wrap64; omega
  have hz5 := (blk_cell HX.out 5).trans rfl;clear g3 g5 hw5 l3' l5';have hjm : wrap64 (j - 1) = j - 1 := by unfold wrap64; omega
  cases t with
  | false =>
   rw [if_neg si_] at H;obtain rfl := sI_ H;go_wp2_with (first | ((with_reducible refine gate_dst (N := 6) rfl ?_); refine bZ_ 43 ?_; intro gk hg w6 hbox hb; have HGK := A_ hg; have HBX := A_ hb; have HXK := A_ hbox; obtain ⟨hk0, hk1, hk2, hk3, hk4, hk5, hj0, hj1, hj2, hj3, hj4, hj5⟩ := bk6_ hbox; clear hg hb hbox) | (go_at_call 138; have hb6 := A_ (set6 HBX.out (Nat.le_of_eq HGK.out.symm) (.int .i64 (rd_T43 l5 j).f0) (.int .i64 (rd_T43 l5 j).f1) (.string (rd_T43 l5 j).f2) (.slice A3' (rd_T43 l5 j).f3.length c3') (.string (rd_T43 l5 j).f4) (.slice A5' (rd_T43 l5 j).f5.length c5')); have hx6 := A_ (blk_six HXK.out (.int .i64 (rd_T43 l5 j).f0) (.int .i64 (rd_T43 l5 j).f1) (.string (rd_T43 l5 j).f2) (.slice A3' (rd_T43 l5 j).f3.length c3') (.string (rd_T43 l5 j).f4) (.slice A5' (rd_T43 l5 j).f5.length c5')); have HBe := A_ (below_step HB.out hb6.out); have HXe := A_ (blk_below HX.out hb6.out); clear HBX HXK hk0 hj0 hk1 hj1 hk2 hj2 hk3 hj3 hk4 hj4 hk5 hj5; (with_reducible refine (ih m (by have := HN.out; omega) (rd_T43 l5 j).f0 (rd_T43 l5 j).f1 (rd_T43 l5 j).f2 A3' c3' (rd_T43 l5 j).f3 (rd_T43 l5 j).f4 A5' c5' (rd_T43 l5 j).f5 (wrap64 (deep - 1)) _ _ (Kd.C_below HG3.out hb6.out) HL3.out (Kd.C_below HG5.out hb6.out) HL5.out (HLL.out.below HBe.out) Ht.out).mono ?_); rintro e w7 ⟨rfl, hb⟩; have HBf := A_ (below_step HBe.out hb); have HXf := A_ (blk_below HXe.out hb); have hxf := A_ (blk_below hx6.out hb); clear hb hb6 hx6 HBe HXe hz5 x0 x1 x2 x3 x4 x5; have hz5 := (blk_cell HXf.out 5).trans rfl; have hk0 := (blk_cell hxf.out 0).trans rfl))
   go_ret
   exact ⟨rfl, HBf.out⟩
  | true =>
  rw [if_pos rfl] at H;by_cases j1 : 0 < j
  case neg =>
   rw [if_neg (fun hh => j1 hh.1)] at H;have j1b : decide (j > 0) = false := dF_ j1;have j1c : (0 < j) = False := eq_false j1;have HH := A_ H;clear H;go_wp2_with (first | ((with_reducible refine gate_dst (N := 6) rfl ?_); refine bZ_ 43 ?_; intro gk hg w6 hbox hb; have HGK := A_ hg; have HBX := A_ hb; have HXK := A_ hbox; obtain ⟨hk0, hk1, hk2, hk3, hk4, hk5, hj0, hj1, hj2, hj3, hj4, hj5⟩ := bk6_ hbox; clear hg hb hbox) | (go_at_call 138; have hb6 := A_ (set6 HBX.out (Nat.le_of_eq HGK.out.symm) (.int .i64 (rd_T43 l5 j).f0) (.int .i64 (rd_T43 l5 j).f1) (.string (rd_T43 l5 j).f2) (.slice A3' (rd_T43 l5 j).f3.length c3') (.string (rd_T43 l5 j).f4) (.slice A5' (rd_T43 l5 j).f5.length c5')); have hx6 := A_ (blk_six HXK.out (.int .i64 (rd_T43 l5 j).f0) (.int .i64 (rd_T43 l5 j).f1) (.string (rd_T43 l5 j).f2) (.slice A3' (rd_T43 l5 j).f3.length c3') (.string (rd_T43 l5 j).f4) (.slice A5' (rd_T43 l5 j).f5.length c5')); have HBe := A_ (below_step HB.out hb6.out); have HXe := A_ (blk_below HX.out hb6.out); clear HBX HXK hk0 hj0 hk1 hj1 hk2 hj2 hk3 hj3 hk4 hj4 hk5 hj5; (with_reducible refine (ih m (by have := HN.out; omega) (rd_T43 l5 j).f0 (rd_T43 l5 j).f1 (rd_T43 l5 j).f2 A3' c3' (rd_T43 l5 j).f3 (rd_T43 l5 j).f4 A5' c5' (rd_T43 l5 j).f5 (wrap64 (deep - 1)) _ _ (Kd.C_below HG3.out hb6.out) HL3.out (Kd.C_below HG5.out hb6.out) HL5.out (HLL.out.below HBe.out) Ht.out).mono ?_); rintro e w7 ⟨rfl, hb⟩; have HBf := A_ (below_step HBe.out hb); have HXf := A_ (blk_below HXe.out hb); have hxf := A_ (blk_below hx6.out hb); clear hb hb6 hx6 HBe HXe hz5 x0 x1 x2 x3 x4 x5; have hz5 := (blk_cell HXf.out 5).trans rfl; have hk0 := (blk_cell hxf.out 0).trans rfl))
   go_roundg m
   case measure => omega
   case rel => exact ⟨j + 1, (by first | rfl | rw [hwj]), om_, om_, HH, ⟨by have := HN.out; omega⟩, HBf, HXf⟩
  have j1b : decide (j > 0) = true := dE_ j1;have j1c : (0 < j) = True := eq_true j1;by_cases m1 : (rd_T43 l5 j).f0 = 2
  case neg =>
   rw [if_neg (fun hh => m1 hh.2.1)] at H;have m1b : ((rd_T43 l5 j).f0 == 2) = false := bN_ m1;have HH := A_ H;clear H m1;go_wp2_with (first | ((with_reducible refine gate_dst (N := 6) rfl ?_); refine bZ_ 43 ?_; intro gk hg w6 hbox hb; have HGK := A_ hg; have HBX := A_ hb; have HXK := A_ hbox; obtain ⟨hk0, hk1, hk2, hk3, hk4, hk5, hj0, hj1, hj2, hj3, hj4, hj5⟩ := bk6_ hbox; clear hg hb hbox) | (go_at_call 138; have hb6 := A_ (set6 HBX.out (Nat.le_of_eq HGK.out.symm) (.int .i64 (rd_T43 l5 j).f0) (.int .i64 (rd_T43 l5 j).f1) (.string (rd_T43 l5 j).f2) (.slice A3' (rd_T43 l5 j).f3.length c3') (.string (rd_T43 l5 j).f4) (.slice A5' (rd_T43 l5 j).f5.length c5')); have hx6 := A_ (blk_six HXK.out (.int .i64 (rd_T43 l5 j).f0) (.int .i64 (rd_T43 l5 j).f1) (.string (rd_T43 l5 j).f2) (.slice A3' (rd_T43 l5 j).f3.length c3') (.string (rd_T43 l5 j).f4) (.slice A5' (rd_T43 l5 j).f5.length c5')); have HBe := A_ (below_step HB.out hb6.out); have HXe := A_ (blk_below HX.out hb6.out); clear HBX HXK hk0 hj0 hk1 hj1 hk2 hj2 hk3 hj3 hk4 hj4 hk5 hj5; (with_reducible refine (ih m (by have := HN.out; omega) (rd_T43 l5 j).f0 (rd_T43 l5 j).f1 (rd_T43 l5 j).f2 A3' c3' (rd_T43 l5 j).f3 (rd_T43 l5 j).f4 A5' c5' (rd_T43 l5 j).f5 (wrap64 (deep - 1)) _ _ (Kd.C_below HG3.out hb6.out) HL3.out (Kd.C_below HG5.out hb6.out) HL5.out (HLL.out.below HBe.out) Ht.out).mono ?_); rintro e w7 ⟨rfl, hb⟩; have HBf := A_ (below_step HBe.out hb); have HXf := A_ (blk_below HXe.out hb); have hxf := A_ (blk_below hx6.out hb); clear hb hb6 hx6 HBe HXe hz5 x0 x1 x2 x3 x4 x5; have hz5 := (blk_cell HXf.out 5).trans rfl; have hk0 := (blk_cell hxf.out 0).trans rfl))
   go_roundg m
   case measure => omega
   case rel => exact ⟨j + 1, (by first | rfl | rw [hwj]), om_, om_, HH, ⟨by have := HN.out; omega⟩, HBf, HXf⟩
  have m1b : ((rd_T43 l5 j).f0 == 2) = true := bQ_ m1;obtain ⟨ad2, _, _, _, _, eA2, y0, _, _, _, _, _, _, _, _, _⟩ := at_T43 HW5.out (j - 1) om_ om_;obtain rfl := sI_ eA2;rw [show (j - 1).toNat = j.toNat - 1 by omega] at y0;have p8 := eq_true (show 0 ≤ j - 1 by omega);have q8 := eq_true (show j - 1 < (l5.length : Int) by omega);by_cases m2 : (rd_T43 l5 (j - 1)).f0 = 2
  case neg =>
   rw [if_neg (fun hh => m2 hh.2.2)] at H;have m2b : ((rd_T43 l5 (j - 1)).f0 == 2) = false := bN_ m2;have HH := A_ H;clear H m1 m2;go_wp2_with (first | ((with_reducible refine gate_dst (N := 6) rfl ?_); refine bZ_ 43 ?_; intro gk hg w6 hbox hb; have HGK := A_ hg; have HBX := A_ hb; have HXK := A_ hbox; obtain ⟨hk0, hk1, hk2, hk3, hk4, hk5, hj0, hj1, hj2, hj3, hj4, hj5⟩ := bk6_ hbox; clear hg hb hbox) | (go_at_call 138; have hb6 := A_ (set6 HBX.out (Nat.le_of_eq HGK.out.symm) (.int .i64 (rd_T43 l5 j).f0) (.int .i64 (rd_T43 l5 j).f1) (.string (rd_T43 l5 j).f2) (.slice A3' (rd_T43 l5 j).f3.length c3') (.string (rd_T43 l5 j).f4) (.slice A5' (rd_T43 l5 j).f5.length c5')); have hx6 := A_ (blk_six HXK.out (.int .i64 (rd_T43 l5 j).f0) (.int .i64 (rd_T43 l5 j).f1) (.string (rd_T43 l5 j).f2) (.slice A3' (rd_T43 l5 j).f3.length c3') (.string (rd_T43 l5 j).f4) (.slice A5' (rd_T43 l5 j).f5.length c5')); have HBe := A_ (below_step HB.out hb6.out); have HXe := A_ (blk_below HX.out hb6.out); clear HBX HXK hk0 hj0 hk1 hj1 hk2 hj2 hk3 hj3 hk4 hj4 hk5 hj5; (with_reducible refine (ih m (by have := HN.out; omega) (rd_T43 l5 j).f0 (rd_T43 l5 j).f1 (rd_T43 l5 j).f2 A3' c3' (rd_T43 l5 j).f3 (rd_T43 l5 j).f4 A5' c5' (rd_T43 l5 j).f5 (wrap64 (deep - 1)) _ _ (Kd.C_below HG3.out hb6.out) HL3.out (Kd.C_below HG5.out hb6.out) HL5.out (HLL.out.below HBe.out) Ht.out).mono ?_); rintro e w7 ⟨rfl, hb⟩; have HBf := A_ (below_step HBe.out hb); have HXf := A_ (blk_below HXe.out hb); have hxf := A_ (blk_below hx6.out hb); have y0' := ((below_step hb6.out hb).cell (World.block_lt_of_cell? _ _ y0)).trans y0; clear hb hb6 hx6 HBe HXe hz5 x0 x1 x2 x3 x4 x5; have hz5 := (blk_cell HXf.out 5).trans rfl; have hk0 := (blk_cell hxf.out 0).trans rfl))
   go_roundg m
   case measure => omega
   case rel => exact ⟨j + 1, (by first | rfl | rw [hwj]), om_, om_, HH, ⟨by have := HN.out; omega⟩, HBf, HXf⟩
  rw [if_pos ⟨j1, m1, m2⟩] at H;obtain rfl := sI_ H;have m2b : ((rd_T43 l5 (j - 1)).f0 == 2) = true := bQ_ m2;clear m1 m2;go_wp2_with (first | ((with_reducible refine gate_dst (N := 6) rfl ?_); refine bZ_ 43 ?_; intro gk hg w6 hbox hb; have HGK := A_ hg; have HBX := A_ hb; have HXK := A_ hbox; obtain ⟨hk0, hk1, hk2, hk3, hk4, hk5, hj0, hj1, hj2, hj3, hj4, hj5⟩ := bk6_ hbox; clear hg hb hbox) | (go_at_call 138; have hb6 := A_ (set6 HBX.out (Nat.le_of_eq HGK.out.symm) (.int .i64 (rd_T43 l5 j).f0) (.int .i64 (rd_T43 l5 j).f1) (.string (rd_T43 l5 j).f2) (.slice A3' (rd_T43 l5 j).f3.length c3') (.string (rd_T43 l5 j).f4) (.slice A5' (rd_T43 l5 j).f5.length c5')); have hx6 := A_ (blk_six HXK.out (.int .i64 (rd_T43 l5 j).f0) (.int .i64 (rd_T43 l5 j).f1) (.string (rd_T43 l5 j).f2) (.slice A3' (rd_T43 l5 j).f3.length c3') (.string (rd_T43 l5 j).f4) (.slice A5' (rd_T43 l5 j).f5.length c5')); have HBe := A_ (below_step HB.out hb6.out); have HXe := A_ (blk_below HX.out hb6.out); clear HBX HXK hk0 hj0 hk1 hj1 hk2 hj2 hk3 hj3 hk4 hj4 hk5 hj5; (with_reducible refine (ih m (by have := HN.out; omega) (rd_T43 l5 j).f0 (rd_T43 l5 j).f1 (rd_T43 l5 j).f2 A3' c3' (rd_T43 l5 j).f3 (rd_T43 l5 j).f4 A5' c5' (rd_T43 l5 j).f5 (wrap64 (deep - 1)) _ _ (Kd.C_below HG3.out hb6.out) HL3.out (Kd.C_below HG5.out hb6.out) HL5.out (HLL.out.below HBe.out) Ht.out).mono ?_); rintro e w7 ⟨rfl, hb⟩; have HBf := A_ (below_step HBe.out hb); have HXf := A_ (blk_below HXe.out hb); have hxf := A_ (blk_below hx6.out hb); have y0' := ((below_step hb6.out hb).cell (World.block_lt_of_cell? _ _ y0)).trans y0; clear hb hb6 hx6 HBe HXe hz5 x0 x1 x2 x3 x4 x5; have hz5 := (blk_cell HXf.out 5).trans rfl; have hk0 := (blk_cell hxf.out 0).trans rfl))
  go_ret
  exact ⟨rfl, HBf.out⟩
def impl_ElOk.f (k : Nat) (a0_0 : Int) (a0_1 : Int) (a0_2 : BA) (l0_3 : List (S36)) (a0_4 : BA) (l0_5 : List (S43)) : Option (Bool) := (impl_elOk.f k a0_0 a0_1 a0_2 l0_3 a0_4 l0_5 60).bind fun t606 => (some t606)
theorem impl_ElOk.mono : ∀ a0 a1 a2 a3 a4 a5 k, LeO (impl_ElOk.f k a0 a1 a2 a3 a4 a5) (impl_ElOk.f (k + 1) a0 a1 a2 a3 a4 a5) := by
 intro a0 a1 a2 a3 a4 a5 k;unfold impl_ElOk.f;with_reducible repeat' first | exact impl_elOk.mono _ _ _ _ _ _ _ _ | apply LeO.refl | apply LeO.none | apply LeO.ite | apply LeO.bind | intro
theorem impl_ElOk.calls (k : Nat) (a0_0 : Int) (a0_1 : Int) (a0_2 : BA) (A0_3 : Option Addr) (c0_3 : Nat) (l0_3 : List (S36)) (a0_4 : BA) (A0_5 : Option Addr) (c0_5 : Nat) (l0_5 : List (S43)) (r : Bool) (w : World) (hr0_3 : Kd.C k36 w A0_3 l0_3.length l0_3) (hc0_3 : l0_3.length ≤ c0_3) (hr0_5 : Kd.C k43 w A0_5 l0_5.length l0_5) (hc0_5 : l0_5.length ≤ c0_5) (hL : LibOk w) (h : impl_ElOk.f k a0_0 a0_1 a0_2 l0_3 a0_4 l0_5 = some r) :
  Calls Tryz.prog 87 #[.agg #[.int .i64 a0_0, .int .i64 a0_1, .string a0_2, .slice A0_3 l0_3.length c0_3, .string a0_4, .slice A0_5 l0_5.length c0_5]] w fun e w' => e = .returned (.bool r) ∧ Below w.heap.size w w' := by
 have hu43 := Tryz.underlying43;have HR0_3 := A_ hr0_3;have HC0_3 := A_ hc0_3;clear hr0_3 hc0_3;have HR0_5 := A_ hr0_5;have HC0_5 := A_ hc0_5;clear hr0_5 hc0_5;have HB := A_ (Below.refl w.heap.size w);have H : ((impl_elOk.f k a0_0 a0_1 a0_2 l0_3 a0_4 l0_5 60).bind fun t606 => (some t606)) = some r := h;clear h;obtain ⟨t606, A2, H⟩ := ob_ H;obtain rfl := sI_ H;go_enter Tryz.func87, Tryz.ntmps87
 go_wp2_with (first | ((with_reducible refine gate_dst (N := 1) rfl ?_); refine bE_ #[.int .i64 a0_0, .int .i64 a0_1, .string a0_2, .slice A0_3 l0_3.length c0_3, .string a0_4, .slice A0_5 l0_5.length c0_5] 43 ?_; intro gb605 hg w3 hbox hb; have BK605 := A_ (hbox); have GW605 := hs_ hg; have GE605 := hs_ hg; replace HB := bS_ hb; clear hb hbox hg; obtain ⟨hcz4_0, hcz4_1, hcz4_2, hcz4_3, hcz4_4, hcz4_5, hfz4_0, hfz4_1, hfz4_2, hfz4_3, hfz4_4, hfz4_5⟩ := bk6_ BK605.out) | ((with_reducible refine gC_ 138 ?_); refine gL_ 4 Tryz.func138 #[.agg #[.int .i64 a0_0, .int .i64 a0_1, .string a0_2, .slice A0_3 l0_3.length c0_3, .string a0_4, .slice A0_5 l0_5.length c0_5], .int .i64 60] ?_; (with_reducible refine (impl_elOk.calls k a0_0 a0_1 a0_2 _ _ l0_3 a0_4 _ _ l0_5 60 t606 _ ?side1 ?side2 ?side3 ?side4 ?side5 A2.out).mono ?_); (case side1 => exact Kd.C_below HR0_3.out hB_); (case side2 => exact HC0_3.out); (case side3 => exact Kd.C_below HR0_5.out hB_); (case side4 => exact HC0_5.out); (case side5 => first | exact hL | exact LibOk.below hL hB_); rintro e w5 ⟨rfl, hb⟩; refine ⟨_, rfl, ?_⟩; replace BK605 := A_ (blk_below (g := gb605) (o := .cells #[.int .i64 a0_0, .int .i64 a0_1, .string a0_2, .slice A0_3 l0_3.length c0_3, .string a0_4, .slice A0_5 l0_5.length c0_5] 43 (0, 0)) (blk_below BK605.out hR_) hb); replace HB := bS_ hb; clear hb))
 go_ret
 exact ⟨e1_, hB_⟩
mutual
def impl_ElSize.l0 : Nat → Int → List (S43) → Int → Int → Option (Int)
 | 0, _, _, _, _ => none
 | k + 1, x3, x7, x8, x9 => if x9 < x8 then (if 0 ≤ x9 then (if x9 < (x7.length : Int) then ((impl_ElSize.f k ((rd_T43 x7 x9).f0) ((rd_T43 x7 x9).f1) ((rd_T43 x7 x9).f2) ((rd_T43 x7 x9).f3) ((rd_T43 x7 x9).f4) ((rd_T43 x7 x9).f5)).bind fun t610 => (impl_ElSize.l0 k (wrap64 (x3 + t610)) x7 x8 (wrap64 (x9 + 1)))) else (none)) else (none)) else (some x3)
def impl_ElSize.f : Nat → Int → Int → ByteArray → List (S36) → ByteArray → List (S43) → Option (Int)
 | 0, _, _, _, _, _, _ => none
 | k + 1, a0_0, a0_1, a0_2, l0_3, a0_4, l0_5 => impl_ElSize.l0 k 1 l0_5 (l0_5.length : Int) 0
end
theorem impl_ElSize.mono_l : ∀ k, (∀ y0 y1 y2 y3 y4 y5, LeO (impl_ElSize.f k y0 y1 y2 y3 y4 y5) (impl_ElSize.f (k + 1) y0 y1 y2 y3 y4 y5)) ∧ (∀ y0 y1 y2 y3, LeO (impl_ElSize.l0 k y0 y1 y2 y3) (impl_ElSize.l0 (k + 1) y0 y1 y2 y3))
 | 0 => ⟨fun _ _ _ _ _ _ r h => by simp [impl_ElSize.f] at h, fun _ _ _ _ r h => by simp [impl_ElSize.l0] at h⟩
 | k + 1 => by
  obtain ⟨ih0, ih1⟩ := impl_ElSize.mono_l k;refine ⟨?_, ?_⟩
  ·intro y0 y1 y2 y3 y4 y5;unfold impl_ElSize.f;with_reducible repeat' first | exact ih0 _ _ _ _ _ _ | exact ih1 _ _ _ _ | apply LeO.refl | apply LeO.none | apply LeO.ite | apply LeO.bind | intro
  ·intro y0 y1 y2 y3;unfold impl_ElSize.l0;with_reducible repeat' first | exact ih0 _ _ _ _ _ _ | exact ih1 _ _ _ _ | apply LeO.refl | apply LeO.none | apply LeO.ite | apply LeO.bind | intro
theorem impl_ElSize.mono : ∀ a0 a1 a2 a3 a4 a5 k, LeO (impl_ElSize.f k a0 a1 a2 a3 a4 a5) (impl_ElSize.f (k + 1) a0 a1 a2 a3 a4 a5) := by
 intro a0 a1 a2 a3 a4 a5 k;obtain ⟨ih0, ih1⟩ := impl_ElSize.mono_l k;exact ih0 a0 a1 a2 a3 a4 a5
theorem impl_ElSize.calls (k : Nat) : ∀ (a0_0 : Int) (a0_1 : Int) (a0_2 : BA) (A0_3 : Option Addr) (c0_3 : Nat) (l0_3 : List (S36)) (a0_4 : BA) (A0_5 : Option Addr) (c0_5 : Nat) (l0_5 : List (S43)) (r : Int) (w : World) (hr0_3 : Kd.C k36 w A0_3 l0_3.length l0_3) (hc0_3 : l0_3.length ≤ c0_3) (hr0_5 : Kd.C k43 w A0_5 l0_5.length l0_5) (hc0_5 : l0_5.length ≤ c0_5) (h : impl_ElSize.f k a0_0 a0_1 a0_2 l0_3 a0_4 l0_5 = some r),
  Calls Tryz.prog 142 #[.agg #[.int .i64 a0_0, .int .i64 a0_1, .string a0_2, .slice A0_3 l0_3.length c0_3, .string a0_4, .slice A0_5 l0_5.length c0_5]] w fun e w' => e = .returned (.int .i64 r) ∧ Below w.heap.size w w' := by
 induction k using Nat.strongRecOn with
 | _ k ih =>
 intro a0_0 a0_1 a0_2 A0_3 c0_3 l0_3 a0_4 A0_5 c0_5 l0_5 r w hr0_3 hc0_3 hr0_5 hc0_5 h;cases k with
 | zero => exact absurd h (by simp [impl_ElSize.f])
 | succ k =>
 simp only [impl_ElSize.f] at h;have hu43 := Tryz.underlying43;have HR0_3 := A_ hr0_3;have HC0_3 := A_ hc0_3;clear hr0_3 hc0_3;have HR0_5 := A_ hr0_5;have HC0_5 := A_ hc0_5;clear hr0_5 hc0_5;have HB := A_ (Below.refl w.heap.size w);have H : (impl_ElSize.l0 k 1 l0_5 (l0_5.length : Int) 0) = some r := h;clear h;have H' := A_ H;clear H;go_enter Tryz.func142, Tryz.ntmps142
 go_wp2_with (first | ((with_reducible refine gate_dst (N := 1) rfl ?_); refine bE_ #[.int .i64 a0_0, .int .i64 a0_1, .string a0_2, .slice A0_3 l0_3.length c0_3, .string a0_4, .slice A0_5 l0_5.length c0_5] 43 ?_; intro gb607 hg w2 hbox hb; have BK607 := A_ (hbox); have GW607 := hs_ hg; have GE607 := hs_ hg; replace HB := bS_ hb; clear hb hbox hg; obtain ⟨hcz3_0, hcz3_1, hcz3_2, hcz3_3, hcz3_4, hcz3_5, hfz3_0, hfz3_1, hfz3_2, hfz3_3, hfz3_4, hfz3_5⟩ := bk6_ BK607.out))
 go_loopg [3, 9] k (fun kq v3 v9 w' => ∃ (x3_1 : Int) (x9_1 : Int), v3 = .int .i64 x3_1 ∧ v9 = .int .i64 x9_1 ∧ As9 (impl_ElSize.l0 kq x3_1 l0_5 (l0_5.length : Int) x9_1 = some r) ∧ As9 (kq ≤ k) ∧ As9 (w'.heap[gb607]? = some (.cells #[.int .i64 a0_0, .int .i64 a0_1, .string a0_2, (.slice A0_3 l0_3.length c0_3), .string a0_4, (.slice A0_5 l0_5.length c0_5)] 43 (0, 0))) ∧ As9 (Below w.heap.size w w'))
 case atStart => exact ⟨(1), (0), e2_, e2_, H', ⟨Nat.le_refl _⟩, ⟨blk_below BK607.out hR_⟩, ⟨hB_⟩⟩
 case round =>
  clear H';try clear c1
  try clear p2
  try clear hcz3_0
  try clear hcz3_1
  try clear hcz3_2
  try clear hcz3_3
  try clear hcz3_4
  try clear hcz3_5
  try clear hfz3_0
  try clear hfz3_1
  try clear hfz3_2
  try clear hfz3_3
  try clear hfz3_4
  try clear hfz3_5
  obtain ⟨x3_1, x9_1, rfl, rfl, HA, HK1, BK607, HB⟩ := hrel;cases gk with
  | zero => exact absurd HA.out (by simp [impl_ElSize.l0])
  | succ k1 =>
   have H := HA.out;clear HA;simp only [impl_ElSize.l0] at H;rcases ic_ H with ⟨c4, H⟩ | ⟨c4, H⟩
   ·have c4b0 := dE_ c4;clear c4;obtain ⟨c5, H⟩ := ifn_ H;have c5b0 := dE_ c5;clear c5;obtain ⟨c6, H⟩ := ifn_ H;have c6b0 := dE_ c6;clear c6;obtain ⟨t610, A7, H⟩ := ob_ H;(try dsimp only at H)
    have H' := A_ H;clear H;obtain ⟨p608, q608, ad608, A608_3, c608_3, A608_5, c608_5, e608, hx608_0, hx608_1, hx608_2, hx608_3, hx608_4, hx608_5, HC608_3, HR608_3, HC608_5, HR608_5⟩ := aB43_ HB.out HR0_5.out x9_1;cases e608;go_wp2_with (first | ((with_reducible refine gate_dst (N := 5) rfl ?_); refine bE_ #[.int .i64 0, .int .i64 0, .string (⟨#[]⟩ : BA), .slice none 0 0, .string (⟨#[]⟩ : BA), .slice none 0 0] 43 ?_; intro gb609 hg w8 hbox hb; have BK609 := A_ (hbox); have GW609 := hs_ hg; have GE609 := hs_ hg; replace HB := bS_ hb; have NB607_609 := A_ ((by rw [hg]; exact Nat.ne_of_lt (blk_lt (g := gb607) (o := .cells #[.int .i64 a0_0, .int .i64 a0_1, .string a0_2, .slice A0_3 l0_3.length c0_3, .string a0_4, .slice (some ad608) l0_5.length c0_5] 43 (0, 0)) (blk_below BK607.out hR_)) : gb607 ≠ gb609)); have NB609_607 := A_ ((by rw [hg]; exact Nat.ne_of_gt (blk_lt (g := gb607) (o := .cells #[.int .i64 a0_0, .int .i64 a0_1, .string a0_2, .slice A0_3 l0_3.length c0_3, .string a0_4, .slice (some ad608) l0_5.length c0_5] 43 (0, 0)) (blk_below BK607.out hR_)) : gb609 ≠ gb607)); replace BK607 := A_ (blk_below (g := gb607) (o := .cells #[.int .i64 a0_0, .int .i64 a0_1, .string a0_2, .slice A0_3 l0_3.length c0_3, .string a0_4, .slice (some ad608) l0_5.length c0_5] 43 (0, 0)) (blk_below BK607.out hR_) hb); clear hb hbox hg; have hnb9 := NB609_607.out; have hnc9 := NB607_609.out; obtain ⟨hcz10_0, hcz10_1, hcz10_2, hcz10_3, hcz10_4, hcz10_5, hfz10_0, hfz10_1, hfz10_2, hfz10_3, hfz10_4, hfz10_5⟩ := bk6_ BK609.out) | ((with_reducible refine gC_ 142 ?_); refine gL_ 15 Tryz.func142 #[.agg #[.int .i64 ((rd_T43 l0_5 x9_1).f0), .int .i64 ((rd_T43 l0_5 x9_1).f1), .string ((rd_T43 l0_5 x9_1).f2), .slice A608_3 ((rd_T43 l0_5 x9_1).f3).length c608_3, .string ((rd_T43 l0_5 x9_1).f4), .slice A608_5 ((rd_T43 l0_5 x9_1).f5).length c608_5]] ?_; (with_reducible refine (ih k1 (by have := HK1.out; omega) ((rd_T43 l0_5 x9_1).f0) ((rd_T43 l0_5 x9_1).f1) ((rd_T43 l0_5 x9_1).f2) _ _ ((rd_T43 l0_5 x9_1).f3) ((rd_T43 l0_5 x9_1).f4) _ _ ((rd_T43 l0_5 x9_1).f5) t610 _ ?side1 ?side2 ?side3 ?side4 A7.out).mono ?_); (case side1 => exact Kd.C_below HR608_3.out hB_); (case side2 => exact HC608_3.out); (case side3 => exact Kd.C_below HR608_5.out hB_); (case side4 => exact HC608_5.out); rintro e w11 ⟨rfl, hb⟩; refine ⟨_, rfl, ?_⟩; replace BK607 := A_ (blk_below (g := gb607) (o := .cells #[.int .i64 a0_0, .int .i64 a0_1, .string a0_2, .slice A0_3 l0_3.length c0_3, .string a0_4, .slice (some ad608) l0_5.length c0_5] 43 (0, 0)) (by refine kB_ ?_; refine blk_far ?_ NB607_609.out _; refine kB_ ?_; refine blk_far ?_ NB607_609.out _; refine kB_ ?_; refine blk_far ?_ NB607_609.out _; refine kB_ ?_; refine blk_far ?_ NB607_609.out _; refine kB_ ?_; refine blk_far ?_ NB607_609.out _; refine kB_ ?_; refine blk_far ?_ NB607_609.out _; refine kB_ ?_; exact BK607.out) hb); replace BK609 := A_ (blk_below (g := gb609) (o := .cells #[.int .i64 ((rd_T43 l0_5 x9_1).f0), .int .i64 ((rd_T43 l0_5 x9_1).f1), .string ((rd_T43 l0_5 x9_1).f2), .slice A608_3 ((rd_T43 l0_5 x9_1).f3).length c608_3, .string ((rd_T43 l0_5 x9_1).f4), .slice A608_5 ((rd_T43 l0_5 x9_1).f5).length c608_5] 43 (0, 0)) (by refine kB_ ?_; refine blk_put (cs := #[.int .i64 ((rd_T43 l0_5 x9_1).f0), .int .i64 ((rd_T43 l0_5 x9_1).f1), .string ((rd_T43 l0_5 x9_1).f2), .slice A608_3 ((rd_T43 l0_5 x9_1).f3).length c608_3, .string ((rd_T43 l0_5 x9_1).f4), .slice none 0 0]) ?_ 5 _ rfl; refine kB_ ?_; refine blk_put (cs := #[.int .i64 ((rd_T43 l0_5 x9_1).f0), .int .i64 ((rd_T43 l0_5 x9_1).f1), .string ((rd_T43 l0_5 x9_1).f2), .slice A608_3 ((rd_T43 l0_5 x9_1).f3).length c608_3, .string (⟨#[]⟩ : BA), .slice none 0 0]) ?_ 4 _ rfl; refine kB_ ?_; refine blk_put (cs := #[.int .i64 ((rd_T43 l0_5 x9_1).f0), .int .i64 ((rd_T43 l0_5 x9_1).f1), .string ((rd_T43 l0_5 x9_1).f2), .slice none 0 0, .string (⟨#[]⟩ : BA), .slice none 0 0]) ?_ 3 _ rfl; refine kB_ ?_; refine blk_put (cs := #[.int .i64 ((rd_T43 l0_5 x9_1).f0), .int .i64 ((rd_T43 l0_5 x9_1).f1), .string (⟨#[]⟩ : BA), .slice none 0 0, .string (⟨#[]⟩ : BA), .slice none 0 0]) ?_ 2 _ rfl; refine kB_ ?_; refine blk_put (cs := #[.int .i64 ((rd_T43 l0_5 x9_1).f0), .int .i64 0, .string (⟨#[]⟩ : BA), .slice none 0 0, .string (⟨#[]⟩ : BA), .slice none 0 0]) ?_ 1 _ rfl; refine kB_ ?_; refine blk_put (cs := #[.int .i64 0, .int .i64 0, .string (⟨#[]⟩ : BA), .slice none 0 0, .string (⟨#[]⟩ : BA), .slice none 0 0]) ?_ 0 _ rfl; refine kB_ ?_; exact BK609.out) hb); replace HB := bS_ hb; clear hb))
    go_roundg k1
    case measure => have := HK1.out; omega
    case rel => exact ⟨(wrap64 (x3_1 + t610)), (wrap64 (x9_1 + 1)), e2_, e2_, H', ⟨by have := HK1.out; omega⟩, ⟨blk_below BK607.out hR_⟩, ⟨hB_⟩⟩
   ·have c4b0 := dF_ c4;clear c4;obtain rfl := sI_ H;go_wp2
    go_ret
    exact ⟨e1_, hB_⟩
mutual
def impl_DocOk.l0 : Nat → Int → Int → List (S43) → Int → Int → Option (Bool)
 | 0, _, _, _, _, _ => none
 | k + 1, x3, x4, x7, x8, x9 => if x9 < x8 then (if 0 ≤ x9 then (if x9 < (x7.length : Int) then ((impl_ElOk.f k ((rd_T43 x7 x9).f0) ((rd_T43 x7 x9).f1) ((rd_T43 x7 x9).f2) ((rd_T43 x7 x9).f3) ((rd_T43 x7 x9).f4) ((rd_T43 x7 x9).f5)).bind fun t613 => (if t613 = true then (impl_DocOk.j1 k x3 x4 x7 x8 x9 (((rd_T43 x7 x9).f0) == 2) ((rd_T43 x7 x9).f0) ((rd_T43 x7 x9).f1) ((rd_T43 x7 x9).f2) ((rd_T43 x7 x9).f3) ((rd_T43 x7 x9).f4) ((rd_T43 x7 x9).f5)) else (impl_DocOk.j1 k x3 x4 x7 x8 x9 true ((rd_T43 x7 x9).f0) ((rd_T43 x7 x9).f1) ((rd_T43 x7 x9).f2) ((rd_T43 x7 x9).f3) ((rd_T43 x7 x9).f4) ((rd_T43 x7 x9).f5)))) else (none)) else (none)) else (if x3 = 1 then (some (decide (x4 ≤ 3000))) else (some false))
def impl_DocOk.j1 : Nat → Int → Int → List (S43) → Int → Int → Bool → Int → Int → ByteArray → List (S36) → ByteArray → List (S43) → Option (Bool)
 | 0, _, _, _, _, _, _, _, _, _, _, _, _ => none
 | k + 1, x3, x4, x7, x8, x9, x20, x613000, x613001, x613002, x613003, x613004, x613005 => if x20 = true then (some false) else (if x613000 = 1 then ((impl_ElSize.f k x613000 x613001 x613002 x613003 x613004 x613005).bind fun t614 => (impl_DocOk.l0 k (wrap64 (x3 + 1)) (wrap64 (x4 + t614)) x7 x8 (wrap64 (x9 + 1)))) else ((impl_ElSize.f k x613000 x613001 x613002 x613003 x613004 x613005).bind fun t615 => (impl_DocOk.l0 k x3 (wrap64 (x4 + t615)) x7 x8 (wrap64 (x9 + 1)))))
end
def impl_DocOk.f (k : Nat) (l0 : List (S43)) : Option (Bool) := impl_DocOk.l0 k 0 0 l0 (l0.length : Int) 0
theorem impl_DocOk.mono_l : ∀ k, (∀ y0 y1 y2 y3 y4, LeO (impl_DocOk.l0 k y0 y1 y2 y3 y4) (impl_DocOk.l0 (k + 1) y0 y1 y2 y3 y4)) ∧ (∀ y0 y1 y2 y3 y4 y5 y6 y7 y8 y9 y10 y11, LeO (impl_DocOk.j1 k y0 y1 y2 y3 y4 y5 y6 y7 y8 y9 y10 y11) (impl_DocOk.j1 (k + 1) y0 y1 y2 y3 y4 y5 y6 y7 y8 y9 y10 y11))
 | 0 => ⟨fun _ _ _ _ _ r h => by simp [impl_DocOk.l0] at h, fun _ _ _ _ _ _ _ _ _ _ _ _ r h => by simp [impl_DocOk.j1] at h⟩
 | k + 1 => by
  obtain ⟨ih0, ih1⟩ := impl_DocOk.mono_l k;refine ⟨?_, ?_⟩
  ·intro y0 y1 y2 y3 y4;unfold impl_DocOk.l0;with_reducible repeat' first | exact ih0 _ _ _ _ _ | exact ih1 _ _ _ _ _ _ _ _ _ _ _ _ | exact impl_ElOk.mono _ _ _ _ _ _ _ | exact impl_ElSize.mono _ _ _ _ _ _ _ | apply LeO.refl | apply LeO.none | apply LeO.ite | apply LeO.bind | intro
  ·intro y0 y1 y2 y3 y4 y5 y6 y7 y8 y9 y10 y11;unfold impl_DocOk.j1;with_reducible repeat' first | exact ih0 _ _ _ _ _ | exact ih1 _ _ _ _ _ _ _ _ _ _ _ _ | exact impl_ElOk.mono _ _ _ _ _ _ _ | exact impl_ElSize.mono _ _ _ _ _ _ _ | apply LeO.refl | apply LeO.none | apply LeO.ite | apply LeO.bind | intro
theorem impl_DocOk.mono : ∀ a0 k, LeO (impl_DocOk.f k a0) (impl_DocOk.f (k + 1) a0) := by
 intro a0 k;obtain ⟨ih0, ih1⟩ := impl_DocOk.mono_l k;unfold impl_DocOk.f;with_reducible repeat' first | exact ih0 _ _ _ _ _ | exact ih1 _ _ _ _ _ _ _ _ _ _ _ _ | exact impl_ElOk.mono _ _ _ _ _ _ _ | exact impl_ElSize.mono _ _ _ _ _ _ _ | apply LeO.refl | apply LeO.none | apply LeO.ite | apply LeO.bind | intro
theorem impl_DocOk.calls (k : Nat) (A0 : Option Addr) (c0 : Nat) (l0 : List (S43)) (r : Bool) (w : World) (hr0 : Kd.C k43 w A0 l0.length l0) (hc0 : l0.length ≤ c0) (hL : LibOk w) (h : impl_DocOk.f k l0 = some r) :
  Calls Tryz.prog 97 #[.slice A0 l0.length c0] w fun e w' => e = .returned (.bool r) ∧ Below w.heap.size w w' := by
 have hu43 := Tryz.underlying43;have HR0 := A_ hr0;have HC0 := A_ hc0;clear hr0 hc0;have HB := A_ (Below.refl w.heap.size w);have H : (impl_DocOk.l0 k 0 0 l0 (l0.length : Int) 0) = some r := h;clear h;have H' := A_ H;clear H;go_enter Tryz.func97, Tryz.ntmps97
 go_wp2
 go_loopg [3, 4, 9] k (fun kq v3 v4 v9 w' => ∃ (x3_1 : Int) (x4_1 : Int) (x9_1 : Int), v3 = .int .i64 x3_1 ∧ v4 = .int .i64 x4_1 ∧ v9 = .int .i64 x9_1 ∧ As9 (impl_DocOk.l0 kq x3_1 x4_1 l0 (l0.length : Int) x9_1 = some r) ∧ As9 (kq ≤ k) ∧ As9 (Below w.heap.size w w'))
 case atStart => exact ⟨(0), (0), (0), e2_, e2_, e2_, H', ⟨Nat.le_refl _⟩, ⟨hB_⟩⟩
 case round =>
  clear H';obtain ⟨x3_1, x4_1, x9_1, rfl, rfl, rfl, HA, HK1, HB⟩ := hrel;cases gk with
  | zero => exact absurd HA.out (by simp [impl_DocOk.l0])
  | succ k1 =>
   have H := HA.out;clear HA;simp only [impl_DocOk.l0] at H;rcases ic_ H with ⟨c2, H⟩ | ⟨c2, H⟩
   ·have c2b0 := dE_ c2;clear c2;obtain ⟨c3, H⟩ := ifn_ H;have c3b0 := dE_ c3;clear c3;obtain ⟨c4, H⟩ := ifn_ H;have c4b0 := dE_ c4;clear c4;have HC5 := A_ H;clear H;obtain ⟨p611, q611, ad611, A611_3, c611_3, A611_5, c611_5, e611, hx611_0, hx611_1, hx611_2, hx611_3, hx611_4, hx611_5, HC611_3, HR611_3, HC611_5, HR611_5⟩ := aB43_ HB.out HR0.out x9_1;cases e611;go_upto_region 5 with (first | ((with_reducible refine gate_dst (N := 6) rfl ?_); refine bE_ #[.int .i64 0, .int .i64 0, .string (⟨#[]⟩ : BA), .slice none 0 0, .string (⟨#[]⟩ : BA), .slice none 0 0] 43 ?_; intro gb612 hg w6 hbox hb; have BK612 := A_ (hbox); have GW612 := hs_ hg; have GE612 := hs_ hg; replace HB := bS_ hb; clear hb hbox hg; obtain ⟨hcz7_0, hcz7_1, hcz7_2, hcz7_3, hcz7_4, hcz7_5, hfz7_0, hfz7_1, hfz7_2, hfz7_3, hfz7_4, hfz7_5⟩ := bk6_ BK612.out))
    (try simp only [Act.put, List.setIfInBounds_toArray, List.set_cons_zero, List.set_cons_succ])
    go_cut [20] (fun v20 wc => ∃ (kq : Nat) (x20_4 : Bool), v20 = .bool x20_4 ∧ As9 (impl_DocOk.j1 kq x3_1 x4_1 l0 (l0.length : Int) x9_1 x20_4 ((rd_T43 l0 x9_1).f0) ((rd_T43 l0 x9_1).f1) ((rd_T43 l0 x9_1).f2) ((rd_T43 l0 x9_1).f3) ((rd_T43 l0 x9_1).f4) ((rd_T43 l0 x9_1).f5) = some r) ∧ As9 (kq ≤ k1) ∧ As9 (wc.heap[gb612]? = some (.cells #[.int .i64 ((rd_T43 l0 x9_1).f0), .int .i64 ((rd_T43 l0 x9_1).f1), .string ((rd_T43 l0 x9_1).f2), (.slice A611_3 ((rd_T43 l0 x9_1).f3).length c611_3), .string ((rd_T43 l0 x9_1).f4), (.slice A611_5 ((rd_T43 l0 x9_1).f5).length c611_5)] 43 (0, 0))) ∧ As9 (Below w.heap.size w wc))
    case first =>
     have H := HC5.out;clear HC5;obtain ⟨t613, A8, H⟩ := ob_ H;(try dsimp only at H)
     by_cases c9 : t613 = true
     ·subst c9;rw [if_pos rfl] at H;have H' := A_ H;clear H;obtain ⟨hcz10_0, hcz10_1, hcz10_2, hcz10_3, hcz10_4, hcz10_5, hfz10_0, hfz10_1, hfz10_2, hfz10_3, hfz10_4, hfz10_5⟩ := bk6_ BK612.out;go_wp2_with (first | ((with_reducible refine gC_ 87 ?_); refine gL_ 14 Tryz.func87 #[.agg #[.int .i64 ((rd_T43 l0 x9_1).f0), .int .i64 ((rd_T43 l0 x9_1).f1), .string ((rd_T43 l0 x9_1).f2), .slice A611_3 ((rd_T43 l0 x9_1).f3).length c611_3, .string ((rd_T43 l0 x9_1).f4), .slice A611_5 ((rd_T43 l0 x9_1).f5).length c611_5]] ?_; (with_reducible refine (impl_ElOk.calls k1 ((rd_T43 l0 x9_1).f0) ((rd_T43 l0 x9_1).f1) ((rd_T43 l0 x9_1).f2) _ _ ((rd_T43 l0 x9_1).f3) ((rd_T43 l0 x9_1).f4) _ _ ((rd_T43 l0 x9_1).f5) true _ ?side1 ?side2 ?side3 ?side4 ?side5 A8.out).mono ?_); (case side1 => exact Kd.C_below HR611_3.out hB_); (case side2 => exact HC611_3.out); (case side3 => exact Kd.C_below HR611_5.out hB_); (case side4 => exact HC611_5.out); (case side5 => first | exact hL | exact LibOk.below hL hB_); rintro e w11 ⟨rfl, hb⟩; refine ⟨_, rfl, ?_⟩; replace BK612 := A_ (blk_below (g := gb612) (o := .cells #[.int .i64 ((rd_T43 l0 x9_1).f0), .int .i64 ((rd_T43 l0 x9_1).f1), .string ((rd_T43 l0 x9_1).f2), .slice A611_3 ((rd_T43 l0 x9_1).f3).length c611_3, .string ((rd_T43 l0 x9_1).f4), .slice A611_5 ((rd_T43 l0 x9_1).f5).length c611_5] 43 (0, 0)) (by refine kB_ ?_; refine blk_put (cs := #[.int .i64 ((rd_T43 l0 x9_1).f0), .int .i64 ((rd_T43 l0 x9_1).f1), .string ((rd_T43 l0 x9_1).f2), .slice A611_3 ((rd_T43 l0 x9_1).f3).length c611_3, .string ((rd_T43 l0 x9_1).f4), .slice none 0 0]) ?_ 5 _ rfl; refine kB_ ?_; refine blk_put (cs := #[.int .i64 ((rd_T43 l0 x9_1).f0), .int .i64 ((rd_T43 l0 x9_1).f1), .string ((rd_T43 l0 x9_1).f2), .slice A611_3 ((rd_T43 l0 x9_1).f3).length c611_3, .string (⟨#[]⟩ : BA), .slice none 0 0]) ?_ 4 _ rfl; refine kB_ ?_; refine blk_put (cs := #[.int .i64 ((rd_T43 l0 x9_1).f0), .int .i64 ((rd_T43 l0 x9_1).f1), .string ((rd_T43 l0 x9_1).f2), .slice none 0 0, .string (⟨#[]⟩ : BA), .slice none 0 0]) ?_ 3 _ rfl; refine kB_ ?_; refine blk_put (cs := #[.int .i64 ((rd_T43 l0 x9_1).f0), .int .i64 ((rd_T43 l0 x9_1).f1), .string (⟨#[]⟩ : BA), .slice none 0 0, .string (⟨#[]⟩ : BA), .slice none 0 0]) ?_ 2 _ rfl; refine kB_ ?_; refine blk_put (cs := #[.int .i64 ((rd_T43 l0 x9_1).f0), .int .i64 0, .string (⟨#[]⟩ : BA), .slice none 0 0, .string (⟨#[]⟩ : BA), .slice none 0 0]) ?_ 1 _ rfl; refine kB_ ?_; refine blk_put (cs := #[.int .i64 0, .int .i64 0, .string (⟨#[]⟩ : BA), .slice none 0 0, .string (⟨#[]⟩ : BA), .slice none 0 0]) ?_ 0 _ rfl; refine kB_ ?_; exact BK612.out) hb); replace HB := bS_ hb; clear hb; obtain ⟨hcz12_0, hcz12_1, hcz12_2, hcz12_3, hcz12_4, hcz12_5, hfz12_0, hfz12_1, hfz12_2, hfz12_3, hfz12_4, hfz12_5⟩ := bk6_ BK612.out))
      go_meet
      case rel => exact ⟨_, ((((rd_T43 l0 x9_1).f0) == 2)), e2_, H', ⟨by have := HK1.out; first | omega | exact Nat.le_refl _⟩, ⟨blk_below BK612.out hR_⟩, ⟨hB_⟩⟩
     ·replace c9 := bF_ c9;subst c9;rw [if_neg nF_] at H;have H' := A_ H;clear H;obtain ⟨hcz13_0, hcz13_1, hcz13_2, hcz13_3, hcz13_4, hcz13_5, hfz13_0, hfz13_1, hfz13_2, hfz13_3, hfz13_4, hfz13_5⟩ := bk6_ BK612.out;go_wp2_with (first | ((with_reducible refine gC_ 87 ?_); refine gL_ 14 Tryz.func87 #[.agg #[.int .i64 ((rd_T43 l0 x9_1).f0), .int .i64 ((rd_T43 l0 x9_1).f1), .string ((rd_T43 l0 x9_1).f2), .slice A611_3 ((rd_T43 l0 x9_1).f3).length c611_3, .string ((rd_T43 l0 x9_1).f4), .slice A611_5 ((rd_T43 l0 x9_1).f5).length c611_5]] ?_; (with_reducible refine (impl_ElOk.calls k1 ((rd_T43 l0 x9_1).f0) ((rd_T43 l0 x9_1).f1) ((rd_T43 l0 x9_1).f2) _ _ ((rd_T43 l0 x9_1).f3) ((rd_T43 l0 x9_1).f4) _ _ ((rd_T43 l0 x9_1).f5) false _ ?side1 ?side2 ?side3 ?side4 ?side5 A8.out).mono ?_); (case side1 => exact Kd.C_below HR611_3.out hB_); (case side2 => exact HC611_3.out); (case side3 => exact Kd.C_below HR611_5.out hB_); (case side4 => exact HC611_5.out); (case side5 => first | exact hL | exact LibOk.below hL hB_); rintro e w14 ⟨rfl, hb⟩; refine ⟨_, rfl, ?_⟩; replace BK612 := A_ (blk_below (g := gb612) (o := .cells #[.int .i64 ((rd_T43 l0 x9_1).f0), .int .i64 ((rd_T43 l0 x9_1).f1), .string ((rd_T43 l0 x9_1).f2), .slice A611_3 ((rd_T43 l0 x9_1).f3).length c611_3, .string ((rd_T43 l0 x9_1).f4), .slice A611_5 ((rd_T43 l0 x9_1).f5).length c611_5] 43 (0, 0)) (by refine kB_ ?_; refine blk_put (cs := #[.int .i64 ((rd_T43 l0 x9_1).f0), .int .i64 ((rd_T43 l0 x9_1).f1), .string ((rd_T43 l0 x9_1).f2), .slice A611_3 ((rd_T43 l0 x9_1).f3).length c611_3, .string ((rd_T43 l0 x9_1).f4), .slice none 0 0]) ?_ 5 _ rfl; refine kB_ ?_; refine blk_put (cs := #[.int .i64 ((rd_T43 l0 x9_1).f0), .int .i64 ((rd_T43 l0 x9_1).f1), .string ((rd_T43 l0 x9_1).f2), .slice A611_3 ((rd_T43 l0 x9_1).f3).length c611_3, .string (⟨#[]⟩ : BA), .slice none 0 0]) ?_ 4 _ rfl; refine kB_ ?_; refine blk_put (cs := #[.int .i64 ((rd_T43 l0 x9_1).f0), .int .i64 ((rd_T43 l0 x9_1).f1), .string ((rd_T43 l0 x9_1).f2), .slice none 0 0, .string (⟨#[]⟩ : BA), .slice none 0 0]) ?_ 3 _ rfl; refine kB_ ?_; refine blk_put (cs := #[.int .i64 ((rd_T43 l0 x9_1).f0), .int .i64 ((rd_T43 l0 x9_1).f1), .string (⟨#[]⟩ : BA), .slice none 0 0, .string (⟨#[]⟩ : BA), .slice none 0 0]) ?_ 2 _ rfl; refine kB_ ?_; refine blk_put (cs := #[.int .i64 ((rd_T43 l0 x9_1).f0), .int .i64 0, .string (⟨#[]⟩ : BA), .slice none 0 0, .string (⟨#[]⟩ : BA), .slice none 0 0]) ?_ 1 _ rfl; refine kB_ ?_; refine blk_put (cs := #[.int .i64 0, .int .i64 0, .string (⟨#[]⟩ : BA), .slice none 0 0, .string (⟨#[]⟩ : BA), .slice none 0 0]) ?_ 0 _ rfl; refine kB_ ?_; exact BK612.out) hb); replace HB := bS_ hb; clear hb))
      go_meet
      case rel => exact ⟨_, (true), e2_, H', ⟨by have := HK1.out; first | omega | exact Nat.le_refl _⟩, ⟨blk_below BK612.out hR_⟩, ⟨hB_⟩⟩
    case rest =>
     clear HC5;try clear c2
     try clear c2b0
     try clear p2
     try clear c3
     try clear c3b0
     try clear c4
     try clear c4b0
     try clear c6
     try clear p6
     try clear q6
     try clear hx6
     try clear c8
     try clear c9
     try clear hcz10_0
     try clear hcz10_1
     try clear hcz10_2
     try clear hcz10_3
     try clear hcz10_4
     try clear hcz10_5
     try clear hcz12_0
     try clear hcz12_1
     try clear hcz12_2
     try clear hcz12_3
     try clear hcz12_4
     try clear hcz12_5
     try clear hcz13_0
     try clear hcz13_1
     try clear hcz13_2
     try clear hcz13_3
     try clear hcz13_4
     try clear hcz13_5
     try clear hcz7_0
     try clear hcz7_1
     try clear hcz7_2
     try clear hcz7_3
     try clear hcz7_4
     try clear hcz7_5
     try clear hfz10_0
     try clear hfz10_1
     try clear hfz10_2
     try clear hfz10_3
     try clear hfz10_4
     try clear hfz10_5
     try clear hfz12_0
     try clear hfz12_1
     try clear hfz12_2
     try clear hfz12_3
     try clear hfz12_4
     try clear hfz12_5
     try clear hfz13_0
     try clear hfz13_1
     try clear hfz13_2
     try clear hfz13_3
     try clear hfz13_4
     try clear hfz13_5
     try clear hfz7_0
     try clear hfz7_1
     try clear hfz7_2
     try clear hfz7_3
     try clear hfz7_4
     try clear hfz7_5
     try clear hx611_0
     try clear hx611_1
     try clear hx611_2
     try clear hx611_3
     try clear hx611_4
     try clear hx611_5
     try clear p611
     try clear q611
     obtain ⟨kq, x20_4, rfl, HA, HJ4, BK612, HB⟩ := hcut;cases kq with
     | zero => exact absurd HA.out (by simp [impl_DocOk.j1])
     | succ kj4 =>
      have H := HA.out;clear HA;simp only [impl_DocOk.j1] at H;by_cases c15 : x20_4 = true
      ·subst c15;rw [if_pos rfl] at H;obtain rfl := sI_ H;go_wp2
       go_ret
       exact ⟨e1_, hB_⟩
      ·replace c15 := bF_ c15;subst c15;rw [if_neg nF_] at H;rcases ic_ H with ⟨c16, H⟩ | ⟨c16, H⟩
       ·obtain ⟨c16b0, c16b1⟩ := be_ c16;clear c16;obtain ⟨t614, A17, H⟩ := ob_ H;(try dsimp only at H)
        have H' := A_ H;clear H;obtain ⟨hcz18_0, hcz18_1, hcz18_2, hcz18_3, hcz18_4, hcz18_5, hfz18_0, hfz18_1, hfz18_2, hfz18_3, hfz18_4, hfz18_5⟩ := bk6_ BK612.out;go_wp2_with (first | ((with_reducible refine gC_ 142 ?_); refine gL_ 28 Tryz.func142 #[.agg #[.int .i64 ((rd_T43 l0 x9_1).f0), .int .i64 ((rd_T43 l0 x9_1).f1), .string ((rd_T43 l0 x9_1).f2), .slice A611_3 ((rd_T43 l0 x9_1).f3).length c611_3, .string ((rd_T43 l0 x9_1).f4), .slice A611_5 ((rd_T43 l0 x9_1).f5).length c611_5]] ?_; (with_reducible refine (impl_ElSize.calls kj4 ((rd_T43 l0 x9_1).f0) ((rd_T43 l0 x9_1).f1) ((rd_T43 l0 x9_1).f2) _ _ ((rd_T43 l0 x9_1).f3) ((rd_T43 l0 x9_1).f4) _ _ ((rd_T43 l0 x9_1).f5) t614 _ ?side1 ?side2 ?side3 ?side4 A17.out).mono ?_); (case side1 => exact Kd.C_below HR611_3.out hB_); (case side2 => exact HC611_3.out); (case side3 => exact Kd.C_below HR611_5.out hB_); (case side4 => exact HC611_5.out); rintro e w19 ⟨rfl, hb⟩; refine ⟨_, rfl, ?_⟩; replace BK612 := A_ (blk_below (g := gb612) (o := .cells #[.int .i64 ((rd_T43 l0 x9_1).f0), .int .i64 ((rd_T43 l0 x9_1).f1), .string ((rd_T43 l0 x9_1).f2), .slice A611_3 ((rd_T43 l0 x9_1).f3).length c611_3, .string ((rd_T43 l0 x9_1).f4), .slice A611_5 ((rd_T43 l0 x9_1).f5).length c611_5] 43 (0, 0)) (blk_below BK612.out hR_) hb); replace HB := bS_ hb; clear hb))
        go_roundg kj4
        case measure => have := HK1.out; have := HJ4.out; omega
        case rel => exact ⟨(wrap64 (x3_1 + 1)), (wrap64 (x4_1 + t614)), (wrap64 (x9_1 + 1)), e2_, e2_, e2_, H', ⟨by have := HK1.out; have := HJ4.out; omega⟩, ⟨hB_⟩⟩
       ·obtain ⟨c16b0, c16b1⟩ := bn_ c16;obtain ⟨t615, A20, H⟩ := ob_ H;(try dsimp only at H)
        have H' := A_ H;clear H;obtain ⟨hcz21_0, hcz21_1, hcz21_2, hcz21_3, hcz21_4, hcz21_5, hfz21_0, hfz21_1, hfz21_2, hfz21_3, hfz21_4, hfz21_5⟩ := bk6_ BK612.out;go_wp2_with (first | ((with_reducible refine gC_ 142 ?_); refine gL_ 28 Tryz.func142 #[.agg #[.int .i64 ((rd_T43 l0 x9_1).f0), .int .i64 ((rd_T43 l0 x9_1).f1), .string ((rd_T43 l0 x9_1).f2), .slice A611_3 ((rd_T43 l0 x9_1).f3).length c611_3, .string ((rd_T43 l0 x9_1).f4), .slice A611_5 ((rd_T43 l0 x9_1).f5).length c611_5]] ?_; (with_reducible refine (impl_ElSize.calls kj4 ((rd_T43 l0 x9_1).f0) ((rd_T43 l0 x9_1).f1) ((rd_T43 l0 x9_1).f2) _ _ ((rd_T43 l0 x9_1).f3) ((rd_T43 l0 x9_1).f4) _ _ ((rd_T43 l0 x9_1).f5) t615 _ ?side1 ?side2 ?side3 ?side4 A20.out).mono ?_); (case side1 => exact Kd.C_below HR611_3.out hB_); (case side2 => exact HC611_3.out); (case side3 => exact Kd.C_below HR611_5.out hB_); (case side4 => exact HC611_5.out); rintro e w22 ⟨rfl, hb⟩; refine ⟨_, rfl, ?_⟩; replace BK612 := A_ (blk_below (g := gb612) (o := .cells #[.int .i64 ((rd_T43 l0 x9_1).f0), .int .i64 ((rd_T43 l0 x9_1).f1), .string ((rd_T43 l0 x9_1).f2), .slice A611_3 ((rd_T43 l0 x9_1).f3).length c611_3, .string ((rd_T43 l0 x9_1).f4), .slice A611_5 ((rd_T43 l0 x9_1).f5).length c611_5] 43 (0, 0)) (blk_below BK612.out hR_) hb); replace HB := bS_ hb; clear hb))
        go_roundg kj4
        case measure => have := HK1.out; have := HJ4.out; omega
        case rel => exact ⟨(x3_1), (wrap64 (x4_1 + t615)), (wrap64 (x9_1 + 1)), e2_, e2_, e2_, H', ⟨by have := HK1.out; have := HJ4.out; omega⟩, ⟨hB_⟩⟩
   ·have c2b0 := dF_ c2;clear c2;rcases ic_ H with ⟨c23, H⟩ | ⟨c23, H⟩
    ·obtain ⟨c23b0, c23b1⟩ := be_ c23;clear c23;obtain rfl := sI_ H;go_wp2
     go_ret
     exact ⟨e1_, hB_⟩
    ·obtain ⟨c23b0, c23b1⟩ := bn_ c23;obtain rfl := sI_ H;go_wp2
     go_ret
     exact ⟨e1_, hB_⟩
theorem ap_add {W : World} {b5 : Nat} {o5 : Nat → Prop} {v5 : Value} {kids : List G43} (h5 : kG.R 43 W b5 o5 v5 kids) (hap : (tbL kids).Nodup) {x : G43} (hx : (tb x).Nodup) {w1 : World} {b1 : Nat} {cs : List Value} (hm : kG.M w1 b1 (fun k => W.heap.size ≤ k) x cs) : (tbL (kids ++ [x])).Nodup := by
 have hk := tbL_ok kids (R_each (Kd.R_bound h5));have hy := tb_ok x hm;rw [tbL_append, tbL_one];refine List.nodup_append.2 ⟨hap, hx, ?_⟩;rintro p hp q hq rfl;have h1 := (hk p hp).1.2.2.1;have h2 := hy p hq;omega
structure Rdi (w W : World) (g : Nat) (s : BA) (p : Int) (b : Bool) (v : Value) (out : List G43) : Prop where
 st : IsS93 w W g s p b
 nr : kG.R 43 W w.heap.size (fun k_ => k_ ≠ g) v out
 bl : Below w.heap.size w W
 ap : (tbL out).Nodup
theorem Rdi.state {w W W' : World} {g : Nat} {s s' : BA} {p p' : Int} {b b' : Bool} {v : Value} {out : List G43} (h : Rdi w W g s p b v out) (hi : IsS93 w W' g s' p' b') (hb : Below w.heap.size w W') (hk : KeepBut W W' g none) : Rdi w W' g s' p' b' v out := ⟨hi, Kd.R_keep h.nr hk (fun k hk => hk), hb, h.ap⟩
theorem Rdi.below {w W W' : World} {g : Nat} {s : BA} {p : Int} {b : Bool} {v : Value} {out : List G43} (h : Rdi w W g s p b v out) (hb : Below W.heap.size W W') : Rdi w W' g s p b v out := h.state (h.st.below hb) (below_step h.bl hb) (KeepBut.of_below hb g none)
theorem Rdi.ok_ {w W : World} {g : Nat} {s : BA} {p : Int} {b : Bool} {v : Value} {out : List G43} (h : Rdi w W g s p b v out) (x : Bool) : Rdi w (W.setCell ⟨g, 2, none⟩ (.bool x)) g s p x v out := h.state (h.st.set_2 x) (below_set h.bl h.st.2) ((KeepBut.refl W g none).set_ 2 _)
theorem Rdi.at_ {w W : World} {g : Nat} {s : BA} {p : Int} {b : Bool} {v : Value} {out : List G43} (h : Rdi w W g s p b v out) (x : Int) : Rdi w (W.setCell ⟨g, 1, none⟩ (.int .i64 x)) g s x b v out := h.state (h.st.set_1 x) (below_set h.bl h.st.2) ((KeepBut.refl W g none).set_ 1 _)
theorem Rdi.app {w W W' : World} {g : Nat} {s : BA} {p : Int} {b : Bool} {v v' : Value} {out : List G43} (h : Rdi w W g s p b v out) {x : G43} (ho : kG.R 43 W' w.heap.size (fun k_ => k_ ≠ g) v' (out ++ [x])) (hb : Below w.heap.size w W') (hg : W.grownBy W' v.ownBlock) (hap : (tbL (out ++ [x])).Nodup) : Rdi w W' g s p b v' (out ++ [x]) := ⟨h.st.grown hg (h.st.own_ne h.nr de_), ho, hb, hap⟩
structure Rdk (w W : World) (g gk : Nat) (s : BA) (p : Int) (b : Bool) (v : Value) (out : List G43) (c0 c1 c2 c3 c4 c5 : Value) : Prop where
 st : IsS93 w W g s p b
 nr : kG.R 43 W w.heap.size (fun k_ => k_ ≠ g ∧ k_ ≠ gk) v out
 bl : Below w.heap.size w W
 xk : W.heap[gk]? = some (.cells #[c0, c1, c2, c3, c4, c5] 43 (0, 0))
 gk0 : w.heap.size ≤ gk
 ne : gk ≠ g
 ap : (tbL out).Nodup
theorem Rdk.start {w W W2 : World} {g gk : Nat} {s : BA} {p : Int} {b : Bool} {v : Value} {out : List G43} {c0 c1 c2 c3 c4 c5 : Value} (h : Rdi w W g s p b v out) (hgk : gk = W.heap.size) (hbox : W2.heap[gk]? = some (.cells #[c0, c1, c2, c3, c4, c5] 43 (0, 0))) (hb : Below W.heap.size W W2) : Rdk w W2 g gk s p b v out c0 c1 c2 c3 c4 c5 :=
 ⟨h.st.below hb, Kd.R_mono (Kd.R_below (Kd.R_bound h.nr) hb) (fun k hk => ⟨hk.1, by have := hk.2.2.1; omega⟩), below_step h.bl hb, hbox, by rw [hgk]; exact h.bl.size, by have := h.st.lt; omega, h.ap⟩
theorem Rdk.state {w W W' : World} {g gk : Nat} {s s' : BA} {p p' : Int} {b b' : Bool} {v : Value} {out : List G43} {c0 c1 c2 c3 c4 c5 : Value} (h : Rdk w W g gk s p b v out c0 c1 c2 c3 c4 c5) (hi : IsS93 w W' g s' p' b') (hb : Below w.heap.size w W') (hk : KeepBut W W' g none) : Rdk w W' g gk s' p' b' v out c0 c1 c2 c3 c4 c5 := ⟨hi, Kd.R_keep h.nr hk (fun k hk => hk.1), hb, hk.blk h.xk h.ne si_, h.gk0, h.ne, h.ap⟩
theorem Rdk.keep6 (W : World) (gk : Nat) (u0 u1 u2 u3 u4 u5 : Value) : KeepBut W ((((((W.setCell ⟨gk, 0, none⟩ u0).setCell ⟨gk, 1, none⟩ u1).setCell ⟨gk, 2, none⟩ u2).setCell ⟨gk, 3, none⟩ u3).setCell ⟨gk, 4, none⟩ u4).setCell ⟨gk, 5, none⟩ u5) gk none := ((((((KeepBut.refl W gk none).set_ 0 _).set_ 1 _).set_ 2 _).set_ 3 _).set_ 4 _).set_ 5 _
theorem Rdk.six {w W : World} {g gk : Nat} {s : BA} {p : Int} {b : Bool} {v : Value} {out : List G43} {c0 c1 c2 c3 c4 c5 : Value} (h : Rdk w W g gk s p b v out c0 c1 c2 c3 c4 c5) (u0 u1 u2 u3 u4 u5 : Value) : Rdk w ((((((W.setCell ⟨gk, 0, none⟩ u0).setCell ⟨gk, 1, none⟩ u1).setCell ⟨gk, 2, none⟩ u2).setCell ⟨gk, 3, none⟩ u3).setCell ⟨gk, 4, none⟩ u4).setCell ⟨gk, 5, none⟩ u5) g gk s p b v out u0 u1 u2 u3 u4 u5 :=
 ⟨st_six h.st (Ne.symm h.ne) _ _ _ _ _ _, Kd.R_keep h.nr (Rdk.keep6 W gk u0 u1 u2 u3 u4 u5) (fun k hk => hk.2), below_six h.bl h.gk0 _ _ _ _ _ _, blk_six h.xk _ _ _ _ _ _, h.gk0, h.ne, h.ap⟩
theorem Rdk.app {w W W' : World} {g gk : Nat} {s : BA} {p : Int} {b : Bool} {v v' : Value} {out : List G43} {c0 c1 c2 c3 c4 c5 : Value} (h : Rdk w W g gk s p b v out c0 c1 c2 c3 c4 c5) {x : G43} (ho : kG.R 43 W' w.heap.size (fun k_ => k_ ≠ g ∧ k_ ≠ gk) v' (out ++ [x])) (hb : Below w.heap.size w W') (hg : W.grownBy W' v.ownBlock) (hap : (tbL (out ++ [x])).Nodup) : Rdi w W' g s p b v' (out ++ [x]) := ⟨h.st.grown hg (h.st.own_ne h.nr de_), Kd.R_mono ho (fun k hk => hk.1), hb, hap⟩
def rNext (n : Nat) (s : BA) (p : Int) (b : Bool) : Option (S43 × ByteArray × Int × Bool) := (impl_reader_is.f s p b ⟨#[60, 33, 45, 45]⟩).bind fun z =>
 if z.1 = true then (impl_reader_note.f n z.2.1 z.2.2.1 z.2.2.2).bind fun q => some (⟨q.1, 0, ⟨#[]⟩, [], q.2.1, []⟩, q.2.2.1, q.2.2.2.1, q.2.2.2.2) else impl_reader_element.f n z.2.1 z.2.2.1 z.2.2.2 (-1) 60
def rReadL : Nat → ByteArray → ByteArray → Int → Bool → List S43 → Option (List S43 × ByteArray × Int × Bool)
 | 0, _, _, _, _, _ => none
 | n + 1, a0, s, p, b, out => if b = true then some (out, s, p, true) else (if p < (a0.size : Int) then (if out.length < 1000000000000 then (rNext n s p false).bind fun e => (impl_reader_take.f e.2.1 e.2.2.1 e.2.2.2 ⟨#[10]⟩).bind fun t => rReadL n a0 t.1 t.2.1 t.2.2 (out ++ [e.1]) else none) else some (out, s, p, false))
theorem rReadL_mono : ∀ k y0 y1 y2 y3 y4, LeO (rReadL k y0 y1 y2 y3 y4) (rReadL (k + 1) y0 y1 y2 y3 y4)
 | 0 => fun _ _ _ _ _ r h => by simp [rReadL] at h
 | k + 1 => by
  have ih := rReadL_mono k;intro y0 y1 y2 y3 y4;rw [rReadL, rReadL];exact LeO.ite (LeO.refl _) (LeO.ite (LeO.ite (LeO.bind (LeO.bind (LeO.refl _) fun z => LeO.ite (LeO.bind (impl_reader_note.mono _ _ _ _) fun q => LeO.refl _) (impl_reader_element.mono _ _ _ _ _ _)) fun e => LeO.bind (LeO.refl _) fun t => ih _ _ _ _ _) (LeO.refl _)) (LeO.refl _))
def impl_Read.f (k : Nat) (a0 : BA) : Option (List S43 × Bool) := if (a0.size : Int) > 200000 then some ([], false) else
 (impl_reader_take.f a0 0 false ⟨#[60, 63, 120, 109, 108, 32, 118, 101, 114, 115, 105, 111, 110, 61, 34, 49, 46, 48, 34, 63, 62, 10]⟩).bind fun t => (rReadL k a0 t.1 t.2.1 t.2.2 []).bind fun r => if r.2.2.2 = true then some ([], false) else (impl_DocOk.f k r.1).bind fun d => (if d = true then some (r.1, true) else some ([], false))
theorem impl_Read.mono : ∀ a0 k, LeO (impl_Read.f k a0) (impl_Read.f (k + 1) a0) := fun _ k => LeO.ite (LeO.refl _) (LeO.bind (LeO.refl _) fun t => LeO.bind (rReadL_mono k _ _ _ _ _) fun r => LeO.ite (LeO.refl _) (LeO.bind (impl_DocOk.mono _ _) fun d => LeO.refl _))
theorem impl_Read.callsG (k : Nat) (a0 : BA) (r1 : List S43) (r2 : Bool) (w : World) (hL : LibOk w) (hE : LibErr w) (h : impl_Read.f k a0 = some (r1, r2)) :
  Calls Tryz.prog 39 #[.string a0] w fun e w' => ∃ (v0_ : Value) (gl : List G43), e = .returned (.tuple #[v0_, .bool r2]) ∧ erL gl = r1 ∧ (tbL gl).Nodup ∧ Kd.R kG 43 w' w.heap.size (fun _ => True) v0_ gl ∧ Below w.heap.size w w' := by
 have hu := Tryz.underlying93;have hu2 := Tryz.underlying43;have HLL := A_ hL;have HEE := A_ hE;clear hL hE;unfold impl_Read.f at h;go_enter Tryz.func39, Tryz.ntmps39
 by_cases d1 : (a0.size : Int) > 200000
 ·rw [if_pos d1] at h;simp only [Option.some.injEq, Prod.mk.injEq] at h;obtain ⟨rfl, rfl⟩ := h;go_wp2
  go_ret2
  exact ⟨_, [], rfl, by rw [erL], by rw [tbL]; exact List.nodup_nil, Kd.R_nil _ _ _ _ _, Below.refl _ _⟩
 ·rw [if_neg d1] at h;obtain ⟨⟨s1, p1, b1⟩, ht1, h⟩ := oB_ h;obtain ⟨⟨rs, s2, p2, b2⟩, hrs, h⟩ := oB_ h;dsimp only at hrs h;have Ht1 := A_ ht1;have Hrs := A_ hrs;have HD := A_ h;clear ht1 hrs h;go_wp2_with (first | ((with_reducible refine gate_dst (N := 4) rfl ?_); refine bE_ #[.string ⟨#[]⟩, .int .i64 0, .bool false] 93 ?_; intro g hg_ w3 hbox hb; have HGG := A_ (show w.heap.size ≤ g by rw [hg_]; exact Nat.le_refl _); have HBX := A_ hb; have HXX := A_ hbox; have he0 := (blk_cell hbox 0).trans rfl; have he1 := (blk_cell hbox 1).trans rfl; have he2 := (blk_cell hbox 2).trans rfl; have hf0 := blk_frozen hbox 0; have hf1 := blk_frozen hbox 1; have hf2 := blk_frozen hbox 2; clear hg_ hbox hb) | (go_at_call 94; have HT0 : As9 (Rdi w (((w3.setCell ⟨g, 0, none⟩ (.string a0)).setCell ⟨g, 1, none⟩ (.int .i64 0)).setCell ⟨g, 2, none⟩ (.bool false)) g a0 0 false (.slice none 0 0) []) := ⟨⟨⟨blk_put (blk_put (blk_put HXX.out 0 _ rfl) 1 _ rfl) 2 _ rfl, HGG.out⟩, Kd.R_nil _ _ _ _ _, below_set (below_set (below_set HBX.out HGG.out) HGG.out) HGG.out, by rw [tbL]; exact List.nodup_nil⟩⟩; clear HXX HBX he0 he1 he2 hf0 hf1 hf2; (with_reducible refine (impl_reader_take.calls g a0 0 false ⟨#[60, 63, 120, 109, 108, 32, 118, 101, 114, 115, 105, 111, 110, 61, 34, 49, 46, 48, 34, 63, 62, 10]⟩ s1 p1 b1 w _ HT0.out.st HT0.out.bl Ht1.out).mono ?_); rintro e w4 ⟨rfl, hi, hb, hk⟩; have HT := A_ (HT0.out.state hi hb hk); clear hi hb hk HT0))
  go_loopg [5] k (fun kq v5 wr => ∃ (out : List G43) (s : BA) (p : Int) (b : Bool), As9 (rReadL kq a0 s p b (erL out) = some (rs, s2, p2, b2)) ∧ As9 (Rdi w wr g s p b v5 out) ∧ As9 (kq ≤ k))
  case atStart => exact ⟨[], s1, p1, b1, ⟨by rw [erL]; exact Hrs.out⟩, HT, ⟨Nat.le_refl _⟩⟩
  case round =>
   clear Hrs HT;obtain ⟨out, s, p, b, HA, HT, HN⟩ := hrel;cases gk with
   | zero => exact absurd HA.out (by simp [rReadL])
   | succ n =>
   have H := HA.out;clear HA;simp only [rReadL] at H;obtain ⟨An, cn, rfl⟩ := Kd.R_slice (kG_erR HT.out.nr);have hc0 := cellS93_0 HT.out.st.1;have hc1 := cellS93_1 HT.out.st.1;have hc2 := cellS93_2 HT.out.st.1;cases b with
   | true =>
    rw [if_pos rfl] at H;simp only [Option.some.injEq, Prod.mk.injEq] at H;obtain ⟨rfl, rfl, rfl, rfl⟩ := H;have H := HD.out;rw [if_pos rfl] at H;obtain ⟨rfl, rfl⟩ := pi_ H;go_wp2
    go_ret2
    exact ⟨_, rfl, [], by rw [erL], by rw [tbL]; exact List.nodup_nil, Kd.R_nil _ _ _ _ _, HT.out.bl⟩
   | false =>
    rw [if_neg si_] at H;by_cases hlt : p < (a0.size : Int)
    case neg =>
     rw [if_neg hlt] at H;have q7 := eq_false hlt;have q8 : decide (p < (a0.size : Int)) = false := dF_ hlt;simp only [Option.some.injEq, Prod.mk.injEq] at H;obtain ⟨rfl, rfl, rfl, rfl⟩ := H;have H := HD.out;rw [if_neg si_] at H;obtain ⟨d, hd, H⟩ := oB_ H;have Hd := A_ hd;clear hd;cases d with
     | true =>
      rw [if_pos rfl] at H;obtain ⟨rfl, rfl⟩ := pi_ H;go_wp2_with ((go_at_call 97; (with_reducible refine (impl_DocOk.calls k An cn (erL out) _ _ (Kd.R_reads' (kG_erR HT.out.nr)).2.2 (Kd.R_reads' (kG_erR HT.out.nr)).2.1 (HLL.out.below HT.out.bl) Hd.out).mono ?_); rintro e w8 ⟨rfl, hb⟩; have HTi := A_ (HT.out.below hb); clear hb HT hc0 hc1 hc2))
      go_ret2
      exact ⟨_, out, rfl, rfl, HTi.out.ap, Kd.R_mono HTi.out.nr (fun _ _ => trivial), HTi.out.bl⟩
     | false =>
      rw [if_neg si_] at H;obtain ⟨rfl, rfl⟩ := pi_ H;go_wp2_with ((go_at_call 97; (with_reducible refine (impl_DocOk.calls k An cn (erL out) _ _ (Kd.R_reads' (kG_erR HT.out.nr)).2.2 (Kd.R_reads' (kG_erR HT.out.nr)).2.1 (HLL.out.below HT.out.bl) Hd.out).mono ?_); rintro e w8 ⟨rfl, hb⟩; have HTi := A_ (HT.out.below hb); clear hb HT hc0 hc1 hc2))
      go_ret2
      exact ⟨_, [], rfl, by rw [erL], by rw [tbL]; exact List.nodup_nil, Kd.R_nil _ _ _ _ _, HTi.out.bl⟩
    case pos =>
     rw [if_pos hlt] at H;split at H
     case isFalse => cases H
     case isTrue hl =>
     obtain ⟨⟨kd, s9, p9, b9⟩, he, H⟩ := oB_ H;obtain ⟨⟨s10, p10, b10⟩, ht, H⟩ := oB_ H;dsimp only at ht H;have HL := A_ hl;have Ht := A_ ht;have HH := A_ H;clear hl ht H;unfold rNext at he;obtain ⟨⟨z, s3, p3, b3⟩, hz, he⟩ := oB_ he;have Hz := A_ hz;clear hz;cases z with
     | true =>
      rw [if_pos rfl] at he;obtain ⟨⟨q0, qt, s4, p4, b4⟩, hq, he⟩ := oB_ he;simp only [Option.some.injEq, Prod.mk.injEq] at he;obtain ⟨rfl, rfl, rfl, rfl⟩ := he;have Hq := A_ hq;clear hq;go_wp2_with (first | ((with_reducible refine gate_dst (N := 6) rfl ?_); refine bZ_ 43 ?_; intro gk hg_ w5 hbox hb; have HOW := A_ (show ∀ k, (Value.slice An (erL out).length cn).ownBlock = some k → k < gk from fun k hk => by have := Kd.R_lt HT.out.nr k hk; omega); have HK1 := A_ (Rdk.start HT.out hg_ hbox hb); clear hg_ hbox hb HT hc0 hc1 hc2) | (go_at_call 95; (with_reducible refine (impl_reader_is.calls g s p false ⟨#[60, 33, 45, 45]⟩ _ s3 p3 b3 w _ HK1.out.st HK1.out.bl Hz.out).mono ?_); rintro e w6 ⟨rfl, hi, hb, hk⟩; have HK2 := A_ (HK1.out.state hi hb hk); clear hi hb hk HK1) | (go_at_call 96; (with_reducible refine (impl_reader_note.calls n g s3 p3 b3 q0 qt _ _ _ w _ HK2.out.st HK2.out.bl HLL.out Hq.out).mono ?_); rintro e w7 ⟨rfl, hi, hb, hk⟩; have HK3 := A_ (HK2.out.state hi hb hk); clear hi hb hk HK2; obtain ⟨he0, he1, he2, he3, he4, he5, hf0, hf1, hf2, hf3, hf4, hf5⟩ := bk6_ HK3.out.xk) | (go_at_call 94; have HK4 := A_ (HK3.out.six (.int .i64 q0) (.int .i64 0) (.string ⟨#[]⟩) (.slice none 0 0) (.string qt) (.slice none 0 0)); clear he0 hf0 he1 hf1 he2 hf2 he3 hf3 he4 hf4 he5 hf5; (with_reducible refine (impl_reader_take.calls g _ _ _ ⟨#[10]⟩ s10 p10 b10 w _ HK4.out.st HK4.out.bl Ht.out).mono ?_); rintro e w8 ⟨rfl, hi, hb, hk⟩; have HK5 := A_ (HK4.out.state hi hb hk); clear hi hb hk HK3 HK4; obtain ⟨he0, he1, he2, he3, he4, he5, hf0, hf1, hf2, hf3, hf4, hf5⟩ := bk6_ HK5.out.xk) | ((with_reducible refine gate_builtin (b := .append) (xs := #[.tmp 27, .tmp 29]) rfl ?_); at_builtin; go_loud (refine Kd.R_append kG (w0 := w) w.heap.size rfl (.tmp 27) (.tmp 29) 41 43 (.agg #[.int .i64 0, .int .i64 0, .string ⟨#[]⟩, .slice none 0 0, .string ⟨#[]⟩, .slice none 0 0]) 96 rfl Tryz.underlying41 (by kernel_rfl) rfl de_ om_ (.slice An (erL out).length cn) out (⟨q0, 0, ⟨#[]⟩, [], qt, [], .slice none 0 0, .slice none 0 0⟩ : G43) [.int .i64 q0, .int .i64 0, .string ⟨#[]⟩, .slice none 0 0, .string qt, .slice none 0 0] (fun k_ => k_ ≠ g ∧ k_ ≠ gk) (fun _ => False) rfl ?aX ?aP (fun _ hk => hk.elim) ?aF ?aO ?aB ?aS ?aL ?_); (case aX => first | rfl | (go_simp; done) | (go_simp; rfl) | (simp; done) | (simp; rfl)); (case aP => exact kG_mkM _ _ _ (⟨q0, 0, ⟨#[]⟩, [], qt, [], .slice none 0 0, .slice none 0 0⟩ : G43) (Kd.R_nil _ _ _ _ _) (Kd.R_nil _ _ _ _ _) rfl rfl); (case aF => exact fun k hk => by have := HK5.out.st.lt; have := blk_lt HK5.out.xk; omega); (case aO => exact HK5.out.nr); (case aB => exact HK5.out.bl); (case aS => exact HK5.out.bl.size); (case aL => have := HL.out; rw [erL_len] at this; omega); intro v5' w9 ho hb hg hat; have HTg := A_ (HK5.out.app ho hb hg (by rw [tbL_append, tbL_one, tb, tbL]; simpa [Value.ownBlock] using HK5.out.ap)); clear ho hb hg hat HK5))
      go_roundg n
      case measure => omega
      case rel => exact ⟨_, _, _, _, ⟨by rw [erL_append, erL_one, er, erL]; exact HH.out⟩, HTg, ⟨by have := HN.out; omega⟩⟩
     | false =>
      rw [if_neg si_] at he;have Hkd := A_ he;clear he;go_wp2_with (first | ((with_reducible refine gate_dst (N := 6) rfl ?_); refine bZ_ 43 ?_; intro gk hg_ w5 hbox hb; have HOW := A_ (show ∀ k, (Value.slice An (erL out).length cn).ownBlock = some k → k < gk from fun k hk => by have := Kd.R_lt HT.out.nr k hk; omega); have HK1 := A_ (Rdk.start HT.out hg_ hbox hb); clear hg_ hbox hb HT hc0 hc1 hc2) | (go_at_call 95; (with_reducible refine (impl_reader_is.calls g s p false ⟨#[60, 33, 45, 45]⟩ _ s3 p3 b3 w _ HK1.out.st HK1.out.bl Hz.out).mono ?_); rintro e w6 ⟨rfl, hi, hb, hk⟩; have HK2 := A_ (HK1.out.state hi hb hk); clear hi hb hk HK1) | (go_at_call 86; (with_reducible refine (impl_reader_element.calls n g (-1) 60 s3 p3 b3 kd s9 p9 b9 w _ HK2.out.st HK2.out.bl HLL.out HEE.out Hkd.out).mono ?_); rintro e w7 ⟨cs, xg, rfl, hx, hap, hm, hi, hb, hk⟩; have HER := A_ hx; have HAP := A_ (ap_add HK2.out.nr HK2.out.ap hap hm); clear hx hap; have HM := A_ (kG.M_mono (ok' := fun k_ => (k_ ≠ g ∧ k_ ≠ gk) ∧ some k_ ≠ (Value.slice An (erL out).length cn).ownBlock) (fun k_ hk_ => ⟨⟨by have := HK2.out.st.lt; omega, by have := blk_lt HK2.out.xk; omega⟩, fun e_ => by have := HOW.out k_ e_.symm; have := blk_lt HK2.out.xk; omega⟩) hm); have HK3 := A_ (HK2.out.state hi hb hk); obtain ⟨u3, u5, hcs, g3, g5, -, -⟩ := kG_openM hm; obtain rfl : cs = #[.int .i64 xg.f0, .int .i64 xg.f1, .string xg.f2, u3, .string xg.f4, u5] := Array.ext' hcs; obtain ⟨A3', c3', rfl⟩ := Kd.R_slice g3; obtain ⟨A5', c5', rfl⟩ := Kd.R_slice g5; clear hm hcs g3 g5 hi hb hk HK2; obtain ⟨he0, he1, he2, he3, he4, he5, hf0, hf1, hf2, hf3, hf4, hf5⟩ := bk6_ HK3.out.xk) | (go_at_call 94; have HK4 := A_ (HK3.out.six (.int .i64 xg.f0) (.int .i64 xg.f1) (.string xg.f2) (.slice A3' xg.f3.length c3') (.string xg.f4) (.slice A5' xg.f5.length c5')); have HM4 := A_ (Kd.M_keep HM.out (Rdk.keep6 _ gk (.int .i64 xg.f0) (.int .i64 xg.f1) (.string xg.f2) (.slice A3' xg.f3.length c3') (.string xg.f4) (.slice A5' xg.f5.length c5')) (fun k hk => hk.1.2)); clear HM; clear he0 hf0 he1 hf1 he2 hf2 he3 hf3 he4 hf4 he5 hf5; (with_reducible refine (impl_reader_take.calls g _ _ _ ⟨#[10]⟩ s10 p10 b10 w _ HK4.out.st HK4.out.bl Ht.out).mono ?_); rintro e w8 ⟨rfl, hi, hb, hk⟩; have HK5 := A_ (HK4.out.state hi hb hk); have HM5 := A_ (Kd.M_keep HM4.out hk (fun k hk => hk.1.1)); clear HM4; clear hi hb hk HK3 HK4; obtain ⟨he0, he1, he2, he3, he4, he5, hf0, hf1, hf2, hf3, hf4, hf5⟩ := bk6_ HK5.out.xk) | ((with_reducible refine gate_builtin (b := .append) (xs := #[.tmp 27, .tmp 29]) rfl ?_); at_builtin; go_loud (refine Kd.R_append kG (w0 := w) w.heap.size rfl (.tmp 27) (.tmp 29) 41 43 (.agg #[.int .i64 0, .int .i64 0, .string ⟨#[]⟩, .slice none 0 0, .string ⟨#[]⟩, .slice none 0 0]) 96 rfl Tryz.underlying41 (by kernel_rfl) rfl de_ om_ (.slice An (erL out).length cn) out (xg) [.int .i64 xg.f0, .int .i64 xg.f1, .string xg.f2, .slice A3' xg.f3.length c3', .string xg.f4, .slice A5' xg.f5.length c5'] (fun k_ => k_ ≠ g ∧ k_ ≠ gk) (fun k_ => (k_ ≠ g ∧ k_ ≠ gk) ∧ some k_ ≠ (Value.slice An (erL out).length cn).ownBlock) rfl ?aX ?aP (fun _ hk => hk) ?aF ?aO ?aB ?aS ?aL ?_); (case aX => first | rfl | (go_simp; done) | (go_simp; rfl) | (simp; done) | (simp; rfl)); (case aP => exact HM5.out); (case aF => exact fun k hk => by have := HK5.out.st.lt; have := blk_lt HK5.out.xk; omega); (case aO => exact HK5.out.nr); (case aB => exact HK5.out.bl); (case aS => exact HK5.out.bl.size); (case aL => have := HL.out; rw [erL_len] at this; omega); intro v5' w9 ho hb hg hat; have HTg := A_ (HK5.out.app ho hb hg HAP.out); clear ho hb hg hat HK5))
      go_roundg n
      case measure => omega
      case rel => exact ⟨_, _, _, _, ⟨by rw [erL_append, erL_one, HER.out]; exact HH.out⟩, HTg, ⟨by have := HN.out; omega⟩⟩
theorem impl_Read.calls (k : Nat) (a0 : BA) (r1 : List S43) (r2 : Bool) (w : World) (hL : LibOk w) (hE : LibErr w) (h : impl_Read.f k a0 = some (r1, r2)) :
  Calls Tryz.prog 39 #[.string a0] w fun e w' => ∃ v0_ : Value, e = .returned (.tuple #[v0_, .bool r2]) ∧ Kd.R k43 43 w' w.heap.size (fun _ => True) v0_ r1 ∧ Below w.heap.size w w' :=
 (impl_Read.callsG k a0 r1 r2 w hL hE h).mono (by
  rintro e w' ⟨v, gl, rfl, rfl, _, hr, hb⟩;exact ⟨v, rfl, kG_erR hr, hb⟩)
def laws_eqAttr.f (a0_0 : BA) (a0_1 : BA) (a1_0 : BA) (a1_1 : BA) : Option (Bool) := if a0_0.toList = a1_0.toList then (if a0_1.toList = a1_1.toList then (some true) else (some false)) else (some false)
theorem laws_eqAttr.calls (a0_0 : BA) (a0_1 : BA) (a1_0 : BA) (a1_1 : BA) (r : Bool) (w : World) (h : laws_eqAttr.f a0_0 a0_1 a1_0 a1_1 = some r) :
  Calls Tryz.prog 139 #[.agg #[.string a0_0, .string a0_1], .agg #[.string a1_0, .string a1_1]] w fun e w' => e = .returned (.bool r) ∧ Below w.heap.size w w' := by
 have hu36 := Tryz.underlying36;have HB := A_ (Below.refl w.heap.size w);have H : (if a0_0.toList = a1_0.toList then (if a0_1.toList = a1_1.toList then (some true) else (some false)) else (some false)) = some r := h;clear h;rcases ic_ H with ⟨c3, H⟩ | ⟨c3, H⟩
 ·obtain ⟨c3b0, c3b1⟩ := be_ c3;clear c3;rcases ic_ H with ⟨c4, H⟩ | ⟨c4, H⟩
  ·obtain ⟨c4b0, c4b1⟩ := be_ c4;clear c4;obtain rfl := sI_ H;go_enter Tryz.func139, Tryz.ntmps139
   go_wp2_with (first | ((with_reducible refine gate_dst (N := 2) rfl ?_); refine bE_ #[.string a0_0, .string a0_1] 36 ?_; intro gb622 hg w5 hbox hb; have BK622 := A_ (hbox); have GW622 := hs_ hg; have GE622 := hs_ hg; replace HB := bS_ hb; clear hb hbox hg) | ((with_reducible refine gate_dst (N := 3) rfl ?_); refine bE_ #[.string a1_0, .string a1_1] 36 ?_; intro gb623 hg w6 hbox hb; have BK623 := A_ (hbox); have GW623 := hs_ hg; have GE623 := hs_ hg; replace HB := bS_ hb; have NB622_623 := A_ ((by rw [hg]; exact Nat.ne_of_lt (blk_lt (g := gb622) (o := .cells #[.string a0_0, .string a0_1] 36 (0, 0)) (blk_below BK622.out hR_)) : gb622 ≠ gb623)); have NB623_622 := A_ ((by rw [hg]; exact Nat.ne_of_gt (blk_lt (g := gb622) (o := .cells #[.string a0_0, .string a0_1] 36 (0, 0)) (blk_below BK622.out hR_)) : gb623 ≠ gb622)); replace BK622 := A_ (blk_below (g := gb622) (o := .cells #[.string a0_0, .string a0_1] 36 (0, 0)) (blk_below BK622.out hR_) hb); clear hb hbox hg; have hnb7 := NB622_623.out; have hnc7 := NB623_622.out; obtain ⟨hcz8_0, hcz8_1, hfz8_0, hfz8_1⟩ := bk2_ BK622.out; obtain ⟨hcz9_0, hcz9_1, hfz9_0, hfz9_1⟩ := bk2_ BK623.out))
   go_ret
   exact ⟨e1_, hB_⟩
  ·obtain ⟨c4b0, c4b1⟩ := bn_ c4;obtain rfl := sI_ H;go_enter Tryz.func139, Tryz.ntmps139
   go_wp2_with (first | ((with_reducible refine gate_dst (N := 2) rfl ?_); refine bE_ #[.string a0_0, .string a0_1] 36 ?_; intro gb622 hg w10 hbox hb; have BK622 := A_ (hbox); have GW622 := hs_ hg; have GE622 := hs_ hg; replace HB := bS_ hb; clear hb hbox hg) | ((with_reducible refine gate_dst (N := 3) rfl ?_); refine bE_ #[.string a1_0, .string a1_1] 36 ?_; intro gb623 hg w11 hbox hb; have BK623 := A_ (hbox); have GW623 := hs_ hg; have GE623 := hs_ hg; replace HB := bS_ hb; have NB622_623 := A_ ((by rw [hg]; exact Nat.ne_of_lt (blk_lt (g := gb622) (o := .cells #[.string a0_0, .string a0_1] 36 (0, 0)) (blk_below BK622.out hR_)) : gb622 ≠ gb623)); have NB623_622 := A_ ((by rw [hg]; exact Nat.ne_of_gt (blk_lt (g := gb622) (o := .cells #[.string a0_0, .string a0_1] 36 (0, 0)) (blk_below BK622.out hR_)) : gb623 ≠ gb622)); replace BK622 := A_ (blk_below (g := gb622) (o := .cells #[.string a0_0, .string a0_1] 36 (0, 0)) (blk_below BK622.out hR_) hb); clear hb hbox hg; have hnb12 := NB622_623.out; have hnc12 := NB623_622.out; obtain ⟨hcz13_0, hcz13_1, hfz13_0, hfz13_1⟩ := bk2_ BK622.out; obtain ⟨hcz14_0, hcz14_1, hfz14_0, hfz14_1⟩ := bk2_ BK623.out))
   go_ret
   exact ⟨e1_, hB_⟩
 ·obtain ⟨c3b0, c3b1⟩ := bn_ c3;obtain rfl := sI_ H;go_enter Tryz.func139, Tryz.ntmps139
  go_wp2_with (first | ((with_reducible refine gate_dst (N := 2) rfl ?_); refine bE_ #[.string a0_0, .string a0_1] 36 ?_; intro gb622 hg w15 hbox hb; have BK622 := A_ (hbox); have GW622 := hs_ hg; have GE622 := hs_ hg; replace HB := bS_ hb; clear hb hbox hg) | ((with_reducible refine gate_dst (N := 3) rfl ?_); refine bE_ #[.string a1_0, .string a1_1] 36 ?_; intro gb623 hg w16 hbox hb; have BK623 := A_ (hbox); have GW623 := hs_ hg; have GE623 := hs_ hg; replace HB := bS_ hb; have NB622_623 := A_ ((by rw [hg]; exact Nat.ne_of_lt (blk_lt (g := gb622) (o := .cells #[.string a0_0, .string a0_1] 36 (0, 0)) (blk_below BK622.out hR_)) : gb622 ≠ gb623)); have NB623_622 := A_ ((by rw [hg]; exact Nat.ne_of_gt (blk_lt (g := gb622) (o := .cells #[.string a0_0, .string a0_1] 36 (0, 0)) (blk_below BK622.out hR_)) : gb623 ≠ gb622)); replace BK622 := A_ (blk_below (g := gb622) (o := .cells #[.string a0_0, .string a0_1] 36 (0, 0)) (blk_below BK622.out hR_) hb); clear hb hbox hg; have hnb17 := NB622_623.out; have hnc17 := NB623_622.out; obtain ⟨hcz18_0, hcz18_1, hfz18_0, hfz18_1⟩ := bk2_ BK622.out; obtain ⟨hcz19_0, hcz19_1, hfz19_0, hfz19_1⟩ := bk2_ BK623.out))
  go_ret
  exact ⟨e1_, hB_⟩
end Go.Proofs.YtkmmoheeoblmnaaGreatDoor.A
