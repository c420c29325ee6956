-- joined by wip/tools/shake.py
import Derived.Test.YtlocaaebgghkbaaMTEnds0
namespace Go.Proofs.Ytlocaaebgghkbaa.A
open Go.RowKit Go.Proofs.YtlocaaebgghkbaaW.PrintWords Go.Proofs.YtlocaaebgghkbaaW.PrintLast Go.Proofs.YtlocaaebgghkbaaW.PrintMore
attribute [local go_sem] max2_int min2_int max_two min_two max_three min_three max_four min_four   -- for this text's walks alone
set_option linter.unusedVariables false
set_option linter.unusedSimpArgs false
def impl_tagger_name.l0 : Nat → Int → ByteArray → Int → Bool → Bool → Option (ByteArray × ByteArray × Int × Bool × Bool)
 | 0, _, _, _, _, _ => none
 | k + 1, x3, x1000, x1001, x1002, x1003 => (impl_tagger_isOver.f x1000 x1001 x1002 x1003).bind fun bt117 => (if bt117.1 = true then (if 0 ≤ x3 then (if x3 ≤ bt117.2.2.1 then (if bt117.2.2.1 ≤ (bt117.2.1.size : Int) then (some (bt117.2.1.extract (x3 : Int).toNat (bt117.2.2.1 : Int).toNat, bt117.2.1, bt117.2.2.1, bt117.2.2.2.1, bt117.2.2.2.2)) else (none)) else (none)) else (none)) else (if 0 ≤ bt117.2.2.1 then (if bt117.2.2.1 < (bt117.2.1.size : Int) then ((impl_isBlankByte.f (bt bt117.2.1 bt117.2.2.1)).bind fun t122 => (if t122 = true then (if 0 ≤ x3 then (if x3 ≤ bt117.2.2.1 then (if bt117.2.2.1 ≤ (bt117.2.1.size : Int) then (some (bt117.2.1.extract (x3 : Int).toNat (bt117.2.2.1 : Int).toNat, bt117.2.1, bt117.2.2.1, bt117.2.2.2.1, bt117.2.2.2.2)) else (none)) else (none)) else (none)) else (if (bt bt117.2.1 bt117.2.2.1) = 47 then (if 0 ≤ x3 then (if x3 ≤ bt117.2.2.1 then (if bt117.2.2.1 ≤ (bt117.2.1.size : Int) then (some (bt117.2.1.extract (x3 : Int).toNat (bt117.2.2.1 : Int).toNat, bt117.2.1, bt117.2.2.1, bt117.2.2.2.1, bt117.2.2.2.2)) else (none)) else (none)) else (none)) else (if (bt bt117.2.1 bt117.2.2.1) = 61 then (if bt117.2.2.1 > x3 then (if 0 ≤ x3 then (if x3 ≤ bt117.2.2.1 then (if bt117.2.2.1 ≤ (bt117.2.1.size : Int) then (some (bt117.2.1.extract (x3 : Int).toNat (bt117.2.2.1 : Int).toNat, bt117.2.1, bt117.2.2.1, bt117.2.2.2.1, bt117.2.2.2.2)) else (none)) else (none)) else (none)) else (impl_tagger_name.l0 k x3 bt117.2.1 (wrap64 (bt117.2.2.1 + 1)) bt117.2.2.2.1 bt117.2.2.2.2)) else (impl_tagger_name.l0 k x3 bt117.2.1 (wrap64 (bt117.2.2.1 + 1)) bt117.2.2.2.1 bt117.2.2.2.2))))) else (none)) else (none)))
def impl_tagger_name.f (k : Nat) (s0_0 : ByteArray) (s0_1 : Int) (s0_2 : Bool) (s0_3 : Bool) : Option (ByteArray × ByteArray × Int × Bool × Bool) := impl_tagger_name.l0 k s0_1 s0_0 s0_1 s0_2 s0_3
theorem impl_tagger_name.mono_l : ∀ k, (∀ y0 y1 y2 y3 y4, LeO (impl_tagger_name.l0 k y0 y1 y2 y3 y4) (impl_tagger_name.l0 (k + 1) y0 y1 y2 y3 y4))
 | 0 => fun _ _ _ _ _ r h => by simp [impl_tagger_name.l0] at h
 | k + 1 => by
  have ih0 := impl_tagger_name.mono_l k
  ·intro y0 y1 y2 y3 y4
   unfold impl_tagger_name.l0
   repeat' first
   | (with_reducible exact ih0 _ _ _ _ _)
   | (with_reducible exact LeO.refl _)
   | (with_reducible exact LeO.none _)
   | (with_reducible refine LeO.ite ?_ ?_)
   | (with_reducible refine LeO.bind ?_ (fun _ => ?_))
   | exact ih0 _ _ _ _ _
   | exact LeO.none _
   | refine LeO.ite ?_ ?_
   | refine LeO.bind ?_ (fun _ => ?_)
theorem impl_tagger_name.mono : ∀ a0 a1 a2 a3 k, LeO (impl_tagger_name.f k a0 a1 a2 a3) (impl_tagger_name.f (k + 1) a0 a1 a2 a3) := by
 intro a0 a1 a2 a3 k
 have ih0 := impl_tagger_name.mono_l k
 unfold impl_tagger_name.f
 repeat' first
   | (with_reducible exact ih0 _ _ _ _ _)
   | (with_reducible exact LeO.refl _)
   | (with_reducible exact LeO.none _)
   | (with_reducible refine LeO.ite ?_ ?_)
   | (with_reducible refine LeO.bind ?_ (fun _ => ?_))
   | exact ih0 _ _ _ _ _
   | exact LeO.none _
   | refine LeO.ite ?_ ?_
   | refine LeO.bind ?_ (fun _ => ?_)
set_option maxHeartbeats 8000000 in
set_option maxRecDepth 100000 in
theorem impl_tagger_name.calls (k : Nat) (g : Nat) (s0_0 : ByteArray) (s0_1 : Int) (s0_2 : Bool) (s0_3 : Bool) (r1 : ByteArray) (r2 : ByteArray) (r3 : Int) (r4 : Bool) (r5 : Bool) (w0 w : World) (hI : IsS58 w0 w g s0_0 s0_1 s0_2 s0_3) (hB : Below w0.heap.size w0 w) (h : impl_tagger_name.f k s0_0 s0_1 s0_2 s0_3 = some (r1, r2, r3, r4, r5)) :
  Calls Try.prog 52 #[.pointer (some ⟨g, 0, none⟩)] w fun e w' => e = .returned (.string r1) ∧ IsS58 w0 w' g r2 r3 r4 r5 ∧ Below w0.heap.size w0 w' ∧ KeepBut w w' g none := by
 have HI0 := Aside0.mk hI
 have HK := Aside0.mk (KeepBut.refl w g none)
 have HL := Aside0.mk hB.size
 clear hI
 have HW0 := Aside0.mk hB.size
 have HB := Aside0.mk hB
 clear hB
 have H : (impl_tagger_name.l0 k s0_1 s0_0 s0_1 s0_2 s0_3) = some (r1, r2, r3, r4, r5) := h
 clear h
 have H' := Aside0.mk H
 clear H
 obtain ⟨HGz2, hgz2⟩ := HI0.out
 have hcz2_0 := cellS58_0 HGz2
 have hcz2_1 := cellS58_1 HGz2
 have hcz2_2 := cellS58_2 HGz2
 have hcz2_3 := cellS58_3 HGz2
 have hfz2_0 := blk_frozen HGz2 0
 have hfz2_1 := blk_frozen HGz2 1
 have hfz2_2 := blk_frozen HGz2 2
 have hfz2_3 := blk_frozen HGz2 3
 clear HGz2 hgz2
 go_enter Try.func52, Try.ntmps52
 go_wp2
 repeat (go_quiet (fail); try go_wp2)
 go_loopg [] k (fun kq w' => ∃ (x1000_1 : ByteArray) (x1001_1 : Int) (x1002_1 : Bool) (x1003_1 : Bool), Aside0 (impl_tagger_name.l0 kq s0_1 x1000_1 x1001_1 x1002_1 x1003_1 = some (r1, r2, r3, r4, r5)) ∧ Aside0 (kq ≤ k) ∧ Aside0 (IsS58 w0 w' g x1000_1 x1001_1 x1002_1 x1003_1) ∧ Aside0 (KeepBut w w' g none) ∧ Aside0 (Below w0.heap.size w0 w'))
 case atStart => exact ⟨(s0_0), (s0_1), (s0_2), (s0_3), H', ⟨Nat.le_refl _⟩, ⟨by repeat (first | (with_reducible first | exact HI0.out | apply IsS58.alloc | apply IsS58.drewN | apply IsS58.drew | apply IsS58.set_0 | apply IsS58.set_1 | apply IsS58.set_2 | apply IsS58.set_3) | exact HI0.out)⟩, ⟨by repeat (first | (with_reducible first | exact HK.out | apply KeepBut.set_ | apply keep_drewN | apply keep_drew | apply keep_alloc) | exact HK.out)⟩, ⟨by repeat (first | (with_reducible first | exact HB.out | apply below_alloc | apply pw_below_drewN | apply below_drew1 | refine below_set ?_ (IsS58.ge HI0.out)) | exact HB.out)⟩⟩
 case round =>
  clear H'
  try clear p2
  try clear hcz2_0
  try clear hcz2_1
  try clear hcz2_2
  try clear hcz2_3
  try clear hfz2_0
  try clear hfz2_1
  try clear hfz2_2
  try clear hfz2_3
  obtain ⟨x1000_1, x1001_1, x1002_1, x1003_1, HA, HK1, HI0, HK, HB⟩ := hrel
  cases gk with
  | zero => exact absurd HA.out (by simp [impl_tagger_name.l0])
  | succ k1 =>
   have H := HA.out
   clear HA
   simp only [impl_tagger_name.l0] at H
   replace H := Option.bind_eq_some_iff.mp H
   obtain ⟨⟨t117, t118, t119, t120, t121⟩, A30, H⟩ := H
   replace H : (if t117 = true then (if 0 ≤ s0_1 then (if s0_1 ≤ t119 then (if t119 ≤ (t118.size : Int) then (some (t118.extract (s0_1 : Int).toNat (t119 : Int).toNat, t118, t119, t120, t121)) else (none)) else (none)) else (none)) else (if 0 ≤ t119 then (if t119 < (t118.size : Int) then ((impl_isBlankByte.f (bt t118 t119)).bind fun t122 => (if t122 = true then (if 0 ≤ s0_1 then (if s0_1 ≤ t119 then (if t119 ≤ (t118.size : Int) then (some (t118.extract (s0_1 : Int).toNat (t119 : Int).toNat, t118, t119, t120, t121)) else (none)) else (none)) else (none)) else (if (bt t118 t119) = 47 then (if 0 ≤ s0_1 then (if s0_1 ≤ t119 then (if t119 ≤ (t118.size : Int) then (some (t118.extract (s0_1 : Int).toNat (t119 : Int).toNat, t118, t119, t120, t121)) else (none)) else (none)) else (none)) else (if (bt t118 t119) = 61 then (if t119 > s0_1 then (if 0 ≤ s0_1 then (if s0_1 ≤ t119 then (if t119 ≤ (t118.size : Int) then (some (t118.extract (s0_1 : Int).toNat (t119 : Int).toNat, t118, t119, t120, t121)) else (none)) else (none)) else (none)) else (impl_tagger_name.l0 k1 s0_1 t118 (wrap64 (t119 + 1)) t120 t121)) else (impl_tagger_name.l0 k1 s0_1 t118 (wrap64 (t119 + 1)) t120 t121))))) else (none)) else (none))) = some (r1, r2, r3, r4, r5) := H
   have A3 := Aside0.mk A30
   clear A30
   by_cases c4 : t117 = true
   ·subst c4
    have H1 : (if 0 ≤ s0_1 then (if s0_1 ≤ t119 then (if t119 ≤ (t118.size : Int) then (some (t118.extract (s0_1 : Int).toNat (t119 : Int).toNat, t118, t119, t120, t121)) else (none)) else (none)) else (none)) = some (r1, r2, r3, r4, r5) := by rw [if_pos rfl] at H; exact H
    clear H
    have H := H1
    clear H1
    by_cases c5 : 0 ≤ s0_1
    ·rw [if_pos c5] at H
     have c5b0 := eq_true c5
     have c5b1 : decide (0 ≤ s0_1) = true := decide_eq_true c5
     clear c5
     by_cases c6 : s0_1 ≤ t119
     ·rw [if_pos c6] at H
      have c6b0 := eq_true c6
      have c6b1 : decide (s0_1 ≤ t119) = true := decide_eq_true c6
      clear c6
      by_cases c7 : t119 ≤ (t118.size : Int)
      ·rw [if_pos c7] at H
       have c7b0 := eq_true c7
       have c7b1 : decide (t119 ≤ (t118.size : Int)) = true := decide_eq_true c7
       clear c7
       simp only [Option.some.injEq, Prod.mk.injEq] at H
       obtain ⟨rfl, rfl, rfl, rfl, rfl⟩ := H
       go_wp2_with (first | (go_at_call 51; (with_reducible refine (impl_tagger_isOver.calls g x1000_1 x1001_1 x1002_1 x1003_1 true t118 t119 t120 t121 w0 _ ?side1 ?side2 A3.out).mono ?_); (case side1 => repeat (first | (with_reducible first | exact HI0.out | apply IsS58.alloc | apply IsS58.drewN | apply IsS58.drew | apply IsS58.set_0 | apply IsS58.set_1 | apply IsS58.set_2 | apply IsS58.set_3) | exact HI0.out)); (case side2 => repeat (first | (with_reducible first | exact HB.out | apply below_alloc | apply pw_below_drewN | apply below_drew1 | refine below_set ?_ (IsS58.ge HI0.out)) | exact HB.out)); rintro e w8 ⟨rfl, hi, hb, hk⟩; have n0_ := Aside0.mk (KeepBut.trans (by repeat (first | (with_reducible first | exact HK.out | apply KeepBut.set_ | apply keep_drewN | apply keep_drew | apply keep_alloc) | exact HK.out)) hk (.inl rfl)); have n1_ := Aside0.mk (hb); have n2_ := Aside0.mk (hi); clear HK; clear HB; clear HI0; have HK := n0_; have HB := n1_; have HI0 := n2_; clear n0_ n1_ n2_; (try clear hb); (try clear hb2); (try clear hk); (try clear hi); obtain ⟨HGz9, hgz9⟩ := HI0.out; have hcz9_0 := cellS58_0 HGz9; have hcz9_1 := cellS58_1 HGz9; have hcz9_2 := cellS58_2 HGz9; have hcz9_3 := cellS58_3 HGz9; have hfz9_0 := blk_frozen HGz9 0; have hfz9_1 := blk_frozen HGz9 1; have hfz9_2 := blk_frozen HGz9 2; have hfz9_3 := blk_frozen HGz9 3; clear HGz9 hgz9))
       repeat (go_quiet (first | (go_at_call 51; (with_reducible refine (impl_tagger_isOver.calls g x1000_1 x1001_1 x1002_1 x1003_1 true t118 t119 t120 t121 w0 _ ?side1 ?side2 A3.out).mono ?_); (case side1 => repeat (first | (with_reducible first | exact HI0.out | apply IsS58.alloc | apply IsS58.drewN | apply IsS58.drew | apply IsS58.set_0 | apply IsS58.set_1 | apply IsS58.set_2 | apply IsS58.set_3) | exact HI0.out)); (case side2 => repeat (first | (with_reducible first | exact HB.out | apply below_alloc | apply pw_below_drewN | apply below_drew1 | refine below_set ?_ (IsS58.ge HI0.out)) | exact HB.out)); rintro e w8 ⟨rfl, hi, hb, hk⟩; have n0_ := Aside0.mk (KeepBut.trans (by repeat (first | (with_reducible first | exact HK.out | apply KeepBut.set_ | apply keep_drewN | apply keep_drew | apply keep_alloc) | exact HK.out)) hk (.inl rfl)); have n1_ := Aside0.mk (hb); have n2_ := Aside0.mk (hi); clear HK; clear HB; clear HI0; have HK := n0_; have HB := n1_; have HI0 := n2_; clear n0_ n1_ n2_; (try clear hb); (try clear hb2); (try clear hk); (try clear hi); obtain ⟨HGz9, hgz9⟩ := HI0.out; have hcz9_0 := cellS58_0 HGz9; have hcz9_1 := cellS58_1 HGz9; have hcz9_2 := cellS58_2 HGz9; have hcz9_3 := cellS58_3 HGz9; have hfz9_0 := blk_frozen HGz9 0; have hfz9_1 := blk_frozen HGz9 1; have hfz9_2 := blk_frozen HGz9 2; have hfz9_3 := blk_frozen HGz9 3; clear HGz9 hgz9)); try go_wp2_with (first | (go_at_call 51; (with_reducible refine (impl_tagger_isOver.calls g x1000_1 x1001_1 x1002_1 x1003_1 true t118 t119 t120 t121 w0 _ ?side1 ?side2 A3.out).mono ?_); (case side1 => repeat (first | (with_reducible first | exact HI0.out | apply IsS58.alloc | apply IsS58.drewN | apply IsS58.drew | apply IsS58.set_0 | apply IsS58.set_1 | apply IsS58.set_2 | apply IsS58.set_3) | exact HI0.out)); (case side2 => repeat (first | (with_reducible first | exact HB.out | apply below_alloc | apply pw_below_drewN | apply below_drew1 | refine below_set ?_ (IsS58.ge HI0.out)) | exact HB.out)); rintro e w8 ⟨rfl, hi, hb, hk⟩; have n0_ := Aside0.mk (KeepBut.trans (by repeat (first | (with_reducible first | exact HK.out | apply KeepBut.set_ | apply keep_drewN | apply keep_drew | apply keep_alloc) | exact HK.out)) hk (.inl rfl)); have n1_ := Aside0.mk (hb); have n2_ := Aside0.mk (hi); clear HK; clear HB; clear HI0; have HK := n0_; have HB := n1_; have HI0 := n2_; clear n0_ n1_ n2_; (try clear hb); (try clear hb2); (try clear hk); (try clear hi); obtain ⟨HGz9, hgz9⟩ := HI0.out; have hcz9_0 := cellS58_0 HGz9; have hcz9_1 := cellS58_1 HGz9; have hcz9_2 := cellS58_2 HGz9; have hcz9_3 := cellS58_3 HGz9; have hfz9_0 := blk_frozen HGz9 0; have hfz9_1 := blk_frozen HGz9 1; have hfz9_2 := blk_frozen HGz9 2; have hfz9_3 := blk_frozen HGz9 3; clear HGz9 hgz9)))
       go_ret
       exact ⟨by first | rfl | (simp [errW_none, errW_some] <;> rfl) | (simp [*, errW_none, errW_some] <;> rfl), by repeat (first | (with_reducible first | exact HI0.out | apply IsS58.alloc | apply IsS58.drewN | apply IsS58.drew | apply IsS58.set_0 | apply IsS58.set_1 | apply IsS58.set_2 | apply IsS58.set_3) | exact HI0.out), by repeat (first | (with_reducible first | exact HB.out | apply below_alloc | apply pw_below_drewN | apply below_drew1 | refine below_set ?_ (IsS58.ge HI0.out)) | exact HB.out), by repeat (first | (with_reducible first | exact HK.out | apply KeepBut.set_ | apply keep_drewN | apply keep_drew | apply keep_alloc) | exact HK.out)⟩
      ·rw [if_neg c7] at H
       exact absurd H (by simp)
     ·rw [if_neg c6] at H
      exact absurd H (by simp)
    ·rw [if_neg c5] at H
     exact absurd H (by simp)
   ·replace c4 := Bool.eq_false_iff.mpr c4
    subst c4
    have H1 : (if 0 ≤ t119 then (if t119 < (t118.size : Int) then ((impl_isBlankByte.f (bt t118 t119)).bind fun t122 => (if t122 = true then (if 0 ≤ s0_1 then (if s0_1 ≤ t119 then (if t119 ≤ (t118.size : Int) then (some (t118.extract (s0_1 : Int).toNat (t119 : Int).toNat, t118, t119, t120, t121)) else (none)) else (none)) else (none)) else (if (bt t118 t119) = 47 then (if 0 ≤ s0_1 then (if s0_1 ≤ t119 then (if t119 ≤ (t118.size : Int) then (some (t118.extract (s0_1 : Int).toNat (t119 : Int).toNat, t118, t119, t120, t121)) else (none)) else (none)) else (none)) else (if (bt t118 t119) = 61 then (if t119 > s0_1 then (if 0 ≤ s0_1 then (if s0_1 ≤ t119 then (if t119 ≤ (t118.size : Int) then (some (t118.extract (s0_1 : Int).toNat (t119 : Int).toNat, t118, t119, t120, t121)) else (none)) else (none)) else (none)) else (impl_tagger_name.l0 k1 s0_1 t118 (wrap64 (t119 + 1)) t120 t121)) else (impl_tagger_name.l0 k1 s0_1 t118 (wrap64 (t119 + 1)) t120 t121))))) else (none)) else (none)) = some (r1, r2, r3, r4, r5) := by rw [if_neg (show ¬ (false = true) by decide)] at H; exact H
    clear H
    have H := H1
    clear H1
    by_cases c10 : 0 ≤ t119
    ·rw [if_pos c10] at H
     have c10b0 : decide (0 ≤ t119) = true := decide_eq_true c10
     clear c10
     by_cases c11 : t119 < (t118.size : Int)
     ·rw [if_pos c11] at H
      have c11b0 : decide (t119 < (t118.size : Int)) = true := decide_eq_true c11
      clear c11
      replace H := Option.bind_eq_some_iff.mp H
      obtain ⟨t122, A130, H⟩ := H
      replace H : (if t122 = true then (if 0 ≤ s0_1 then (if s0_1 ≤ t119 then (if t119 ≤ (t118.size : Int) then (some (t118.extract (s0_1 : Int).toNat (t119 : Int).toNat, t118, t119, t120, t121)) else (none)) else (none)) else (none)) else (if (bt t118 t119) = 47 then (if 0 ≤ s0_1 then (if s0_1 ≤ t119 then (if t119 ≤ (t118.size : Int) then (some (t118.extract (s0_1 : Int).toNat (t119 : Int).toNat, t118, t119, t120, t121)) else (none)) else (none)) else (none)) else (if (bt t118 t119) = 61 then (if t119 > s0_1 then (if 0 ≤ s0_1 then (if s0_1 ≤ t119 then (if t119 ≤ (t118.size : Int) then (some (t118.extract (s0_1 : Int).toNat (t119 : Int).toNat, t118, t119, t120, t121)) else (none)) else (none)) else (none)) else (impl_tagger_name.l0 k1 s0_1 t118 (wrap64 (t119 + 1)) t120 t121)) else (impl_tagger_name.l0 k1 s0_1 t118 (wrap64 (t119 + 1)) t120 t121)))) = some (r1, r2, r3, r4, r5) := H
      have A13 := Aside0.mk A130
      clear A130
      by_cases c14 : t122 = true
      ·subst c14
       have H1 : (if 0 ≤ s0_1 then (if s0_1 ≤ t119 then (if t119 ≤ (t118.size : Int) then (some (t118.extract (s0_1 : Int).toNat (t119 : Int).toNat, t118, t119, t120, t121)) else (none)) else (none)) else (none)) = some (r1, r2, r3, r4, r5) := by rw [if_pos rfl] at H; exact H
       clear H
       have H := H1
       clear H1
       by_cases c15 : 0 ≤ s0_1
       ·rw [if_pos c15] at H
        have c15b0 := eq_true c15
        have c15b1 : decide (0 ≤ s0_1) = true := decide_eq_true c15
        clear c15
        by_cases c16 : s0_1 ≤ t119
        ·rw [if_pos c16] at H
         have c16b0 := eq_true c16
         have c16b1 : decide (s0_1 ≤ t119) = true := decide_eq_true c16
         clear c16
         by_cases c17 : t119 ≤ (t118.size : Int)
         ·rw [if_pos c17] at H
          have c17b0 := eq_true c17
          have c17b1 : decide (t119 ≤ (t118.size : Int)) = true := decide_eq_true c17
          clear c17
          simp only [Option.some.injEq, Prod.mk.injEq] at H
          obtain ⟨rfl, rfl, rfl, rfl, rfl⟩ := H
          go_wp2_with (first | (go_at_call 51; (with_reducible refine (impl_tagger_isOver.calls g x1000_1 x1001_1 x1002_1 x1003_1 false t118 t119 t120 t121 w0 _ ?side1 ?side2 A3.out).mono ?_); (case side1 => repeat (first | (with_reducible first | exact HI0.out | apply IsS58.alloc | apply IsS58.drewN | apply IsS58.drew | apply IsS58.set_0 | apply IsS58.set_1 | apply IsS58.set_2 | apply IsS58.set_3) | exact HI0.out)); (case side2 => repeat (first | (with_reducible first | exact HB.out | apply below_alloc | apply pw_below_drewN | apply below_drew1 | refine below_set ?_ (IsS58.ge HI0.out)) | exact HB.out)); rintro e w18 ⟨rfl, hi, hb, hk⟩; have n0_ := Aside0.mk (KeepBut.trans (by repeat (first | (with_reducible first | exact HK.out | apply KeepBut.set_ | apply keep_drewN | apply keep_drew | apply keep_alloc) | exact HK.out)) hk (.inl rfl)); have n1_ := Aside0.mk (hb); have n2_ := Aside0.mk (hi); clear HK; clear HB; clear HI0; have HK := n0_; have HB := n1_; have HI0 := n2_; clear n0_ n1_ n2_; (try clear hb); (try clear hb2); (try clear hk); (try clear hi); obtain ⟨HGz19, hgz19⟩ := HI0.out; have hcz19_0 := cellS58_0 HGz19; have hcz19_1 := cellS58_1 HGz19; have hcz19_2 := cellS58_2 HGz19; have hcz19_3 := cellS58_3 HGz19; have hfz19_0 := blk_frozen HGz19 0; have hfz19_1 := blk_frozen HGz19 1; have hfz19_2 := blk_frozen HGz19 2; have hfz19_3 := blk_frozen HGz19 3; clear HGz19 hgz19; have p12 : 0 ≤ (t119 : Int) := of_decide_eq_true (by first | (with_reducible assumption) | assumption); have q12 : t119 < (t118.size : Int) := of_decide_eq_true (by first | (with_reducible assumption) | assumption); have hx12 := bt_at t118 t119; replace p12 := eq_true p12; replace q12 := eq_true q12) | (go_at_call 93; (with_reducible refine (impl_isBlankByte.calls (bt t118 t119) true _ A13.out).mono ?_); rintro e w' ⟨rfl, ⟨nd, rfl⟩⟩; (try first | exact ⟨rfl, _, World.drewN_drewN _ _ _⟩ | exact ⟨rfl, _, Eq.trans (World.drewN_drewN _ _ _) (congrArg (World.drewN _) (Nat.add_assoc _ _ _))⟩)))
          repeat (go_quiet (first | (go_at_call 51; (with_reducible refine (impl_tagger_isOver.calls g x1000_1 x1001_1 x1002_1 x1003_1 false t118 t119 t120 t121 w0 _ ?side1 ?side2 A3.out).mono ?_); (case side1 => repeat (first | (with_reducible first | exact HI0.out | apply IsS58.alloc | apply IsS58.drewN | apply IsS58.drew | apply IsS58.set_0 | apply IsS58.set_1 | apply IsS58.set_2 | apply IsS58.set_3) | exact HI0.out)); (case side2 => repeat (first | (with_reducible first | exact HB.out | apply below_alloc | apply pw_below_drewN | apply below_drew1 | refine below_set ?_ (IsS58.ge HI0.out)) | exact HB.out)); rintro e w18 ⟨rfl, hi, hb, hk⟩; have n0_ := Aside0.mk (KeepBut.trans (by repeat (first | (with_reducible first | exact HK.out | apply KeepBut.set_ | apply keep_drewN | apply keep_drew | apply keep_alloc) | exact HK.out)) hk (.inl rfl)); have n1_ := Aside0.mk (hb); have n2_ := Aside0.mk (hi); clear HK; clear HB; clear HI0; have HK := n0_; have HB := n1_; have HI0 := n2_; clear n0_ n1_ n2_; (try clear hb); (try clear hb2); (try clear hk); (try clear hi); obtain ⟨HGz19, hgz19⟩ := HI0.out; have hcz19_0 := cellS58_0 HGz19; have hcz19_1 := cellS58_1 HGz19; have hcz19_2 := cellS58_2 HGz19; have hcz19_3 := cellS58_3 HGz19; have hfz19_0 := blk_frozen HGz19 0; have hfz19_1 := blk_frozen HGz19 1; have hfz19_2 := blk_frozen HGz19 2; have hfz19_3 := blk_frozen HGz19 3; clear HGz19 hgz19; have p12 : 0 ≤ (t119 : Int) := of_decide_eq_true (by first | (with_reducible assumption) | assumption); have q12 : t119 < (t118.size : Int) := of_decide_eq_true (by first | (with_reducible assumption) | assumption); have hx12 := bt_at t118 t119; replace p12 := eq_true p12; replace q12 := eq_true q12) | (go_at_call 93; (with_reducible refine (impl_isBlankByte.calls (bt t118 t119) true _ A13.out).mono ?_); rintro e w' ⟨rfl, ⟨nd, rfl⟩⟩; (try first | exact ⟨rfl, _, World.drewN_drewN _ _ _⟩ | exact ⟨rfl, _, Eq.trans (World.drewN_drewN _ _ _) (congrArg (World.drewN _) (Nat.add_assoc _ _ _))⟩))); try go_wp2_with (first | (go_at_call 51; (with_reducible refine (impl_tagger_isOver.calls g x1000_1 x1001_1 x1002_1 x1003_1 false t118 t119 t120 t121 w0 _ ?side1 ?side2 A3.out).mono ?_); (case side1 => repeat (first | (with_reducible first | exact HI0.out | apply IsS58.alloc | apply IsS58.drewN | apply IsS58.drew | apply IsS58.set_0 | apply IsS58.set_1 | apply IsS58.set_2 | apply IsS58.set_3) | exact HI0.out)); (case side2 => repeat (first | (with_reducible first | exact HB.out | apply below_alloc | apply pw_below_drewN | apply below_drew1 | refine below_set ?_ (IsS58.ge HI0.out)) | exact HB.out)); rintro e w18 ⟨rfl, hi, hb, hk⟩; have n0_ := Aside0.mk (KeepBut.trans (by repeat (first | (with_reducible first | exact HK.out | apply KeepBut.set_ | apply keep_drewN | apply keep_drew | apply keep_alloc) | exact HK.out)) hk (.inl rfl)); have n1_ := Aside0.mk (hb); have n2_ := Aside0.mk (hi); clear HK; clear HB; clear HI0; have HK := n0_; have HB := n1_; have HI0 := n2_; clear n0_ n1_ n2_; (try clear hb); (try clear hb2); (try clear hk); (try clear hi); obtain ⟨HGz19, hgz19⟩ := HI0.out; have hcz19_0 := cellS58_0 HGz19; have hcz19_1 := cellS58_1 HGz19; have hcz19_2 := cellS58_2 HGz19; have hcz19_3 := cellS58_3 HGz19; have hfz19_0 := blk_frozen HGz19 0; have hfz19_1 := blk_frozen HGz19 1; have hfz19_2 := blk_frozen HGz19 2; have hfz19_3 := blk_frozen HGz19 3; clear HGz19 hgz19; have p12 : 0 ≤ (t119 : Int) := of_decide_eq_true (by first | (with_reducible assumption) | assumption); have q12 : t119 < (t118.size : Int) := of_decide_eq_true (by first | (with_reducible assumption) | assumption); have hx12 := bt_at t118 t119; replace p12 := eq_true p12; replace q12 := eq_true q12) | (go_at_call 93; (with_reducible refine (impl_isBlankByte.calls (bt t118 t119) true _ A13.out).mono ?_); rintro e w' ⟨rfl, ⟨nd, rfl⟩⟩; (try first | exact ⟨rfl, _, World.drewN_drewN _ _ _⟩ | exact ⟨rfl, _, Eq.trans (World.drewN_drewN _ _ _) (congrArg (World.drewN _) (Nat.add_assoc _ _ _))⟩))))
          go_ret
          exact ⟨by first | rfl | (simp [errW_none, errW_some] <;> rfl) | (simp [*, errW_none, errW_some] <;> rfl), by repeat (first | (with_reducible first | exact HI0.out | apply IsS58.alloc | apply IsS58.drewN | apply IsS58.drew | apply IsS58.set_0 | apply IsS58.set_1 | apply IsS58.set_2 | apply IsS58.set_3) | exact HI0.out), by repeat (first | (with_reducible first | exact HB.out | apply below_alloc | apply pw_below_drewN | apply below_drew1 | refine below_set ?_ (IsS58.ge HI0.out)) | exact HB.out), by repeat (first | (with_reducible first | exact HK.out | apply KeepBut.set_ | apply keep_drewN | apply keep_drew | apply keep_alloc) | exact HK.out)⟩
         ·rw [if_neg c17] at H
          exact absurd H (by simp)
        ·rw [if_neg c16] at H
         exact absurd H (by simp)
       ·rw [if_neg c15] at H
        exact absurd H (by simp)
      ·replace c14 := Bool.eq_false_iff.mpr c14
       subst c14
       have H1 : (if (bt t118 t119) = 47 then (if 0 ≤ s0_1 then (if s0_1 ≤ t119 then (if t119 ≤ (t118.size : Int) then (some (t118.extract (s0_1 : Int).toNat (t119 : Int).toNat, t118, t119, t120, t121)) else (none)) else (none)) else (none)) else (if (bt t118 t119) = 61 then (if t119 > s0_1 then (if 0 ≤ s0_1 then (if s0_1 ≤ t119 then (if t119 ≤ (t118.size : Int) then (some (t118.extract (s0_1 : Int).toNat (t119 : Int).toNat, t118, t119, t120, t121)) else (none)) else (none)) else (none)) else (impl_tagger_name.l0 k1 s0_1 t118 (wrap64 (t119 + 1)) t120 t121)) else (impl_tagger_name.l0 k1 s0_1 t118 (wrap64 (t119 + 1)) t120 t121))) = some (r1, r2, r3, r4, r5) := by rw [if_neg (show ¬ (false = true) by decide)] at H; exact H
       clear H
       have H := H1
       clear H1
       by_cases c20 : (bt t118 t119) = 47
       ·rw [if_pos c20] at H
        have c20b0 : ((bt t118 t119) == 47) = true := beq_iff_eq.mpr c20
        have c20b1 : ((bt t118 t119) != 47) = false := bne_eq_false_iff_eq.mpr c20
        clear c20
        by_cases c21 : 0 ≤ s0_1
        ·rw [if_pos c21] at H
         have c21b0 := eq_true c21
         have c21b1 : decide (0 ≤ s0_1) = true := decide_eq_true c21
         clear c21
         by_cases c22 : s0_1 ≤ t119
         ·rw [if_pos c22] at H
          have c22b0 := eq_true c22
          have c22b1 : decide (s0_1 ≤ t119) = true := decide_eq_true c22
          clear c22
          by_cases c23 : t119 ≤ (t118.size : Int)
          ·rw [if_pos c23] at H
           have c23b0 := eq_true c23
           have c23b1 : decide (t119 ≤ (t118.size : Int)) = true := decide_eq_true c23
           clear c23
           simp only [Option.some.injEq, Prod.mk.injEq] at H
           obtain ⟨rfl, rfl, rfl, rfl, rfl⟩ := H
           go_wp2_with (first | (go_at_call 51; (with_reducible refine (impl_tagger_isOver.calls g x1000_1 x1001_1 x1002_1 x1003_1 false t118 t119 t120 t121 w0 _ ?side1 ?side2 A3.out).mono ?_); (case side1 => repeat (first | (with_reducible first | exact HI0.out | apply IsS58.alloc | apply IsS58.drewN | apply IsS58.drew | apply IsS58.set_0 | apply IsS58.set_1 | apply IsS58.set_2 | apply IsS58.set_3) | exact HI0.out)); (case side2 => repeat (first | (with_reducible first | exact HB.out | apply below_alloc | apply pw_below_drewN | apply below_drew1 | refine below_set ?_ (IsS58.ge HI0.out)) | exact HB.out)); rintro e w24 ⟨rfl, hi, hb, hk⟩; have n0_ := Aside0.mk (KeepBut.trans (by repeat (first | (with_reducible first | exact HK.out | apply KeepBut.set_ | apply keep_drewN | apply keep_drew | apply keep_alloc) | exact HK.out)) hk (.inl rfl)); have n1_ := Aside0.mk (hb); have n2_ := Aside0.mk (hi); clear HK; clear HB; clear HI0; have HK := n0_; have HB := n1_; have HI0 := n2_; clear n0_ n1_ n2_; (try clear hb); (try clear hb2); (try clear hk); (try clear hi); obtain ⟨HGz25, hgz25⟩ := HI0.out; have hcz25_0 := cellS58_0 HGz25; have hcz25_1 := cellS58_1 HGz25; have hcz25_2 := cellS58_2 HGz25; have hcz25_3 := cellS58_3 HGz25; have hfz25_0 := blk_frozen HGz25 0; have hfz25_1 := blk_frozen HGz25 1; have hfz25_2 := blk_frozen HGz25 2; have hfz25_3 := blk_frozen HGz25 3; clear HGz25 hgz25; have p12 : 0 ≤ (t119 : Int) := of_decide_eq_true (by first | (with_reducible assumption) | assumption); have q12 : t119 < (t118.size : Int) := of_decide_eq_true (by first | (with_reducible assumption) | assumption); have hx12 := bt_at t118 t119; replace p12 := eq_true p12; replace q12 := eq_true q12) | (go_at_call 93; (with_reducible refine (impl_isBlankByte.calls (bt t118 t119) false _ A13.out).mono ?_); rintro e w' ⟨rfl, ⟨nd, rfl⟩⟩; (try first | exact ⟨rfl, _, World.drewN_drewN _ _ _⟩ | exact ⟨rfl, _, Eq.trans (World.drewN_drewN _ _ _) (congrArg (World.drewN _) (Nat.add_assoc _ _ _))⟩)))
           repeat (go_quiet (first | (go_at_call 51; (with_reducible refine (impl_tagger_isOver.calls g x1000_1 x1001_1 x1002_1 x1003_1 false t118 t119 t120 t121 w0 _ ?side1 ?side2 A3.out).mono ?_); (case side1 => repeat (first | (with_reducible first | exact HI0.out | apply IsS58.alloc | apply IsS58.drewN | apply IsS58.drew | apply IsS58.set_0 | apply IsS58.set_1 | apply IsS58.set_2 | apply IsS58.set_3) | exact HI0.out)); (case side2 => repeat (first | (with_reducible first | exact HB.out | apply below_alloc | apply pw_below_drewN | apply below_drew1 | refine below_set ?_ (IsS58.ge HI0.out)) | exact HB.out)); rintro e w24 ⟨rfl, hi, hb, hk⟩; have n0_ := Aside0.mk (KeepBut.trans (by repeat (first | (with_reducible first | exact HK.out | apply KeepBut.set_ | apply keep_drewN | apply keep_drew | apply keep_alloc) | exact HK.out)) hk (.inl rfl)); have n1_ := Aside0.mk (hb); have n2_ := Aside0.mk (hi); clear HK; clear HB; clear HI0; have HK := n0_; have HB := n1_; have HI0 := n2_; clear n0_ n1_ n2_; (try clear hb); (try clear hb2); (try clear hk); (try clear hi); obtain ⟨HGz25, hgz25⟩ := HI0.out; have hcz25_0 := cellS58_0 HGz25; have hcz25_1 := cellS58_1 HGz25; have hcz25_2 := cellS58_2 HGz25; have hcz25_3 := cellS58_3 HGz25; have hfz25_0 := blk_frozen HGz25 0; have hfz25_1 := blk_frozen HGz25 1; have hfz25_2 := blk_frozen HGz25 2; have hfz25_3 := blk_frozen HGz25 3; clear HGz25 hgz25; have p12 : 0 ≤ (t119 : Int) := of_decide_eq_true (by first | (with_reducible assumption) | assumption); have q12 : t119 < (t118.size : Int) := of_decide_eq_true (by first | (with_reducible assumption) | assumption); have hx12 := bt_at t118 t119; replace p12 := eq_true p12; replace q12 := eq_true q12) | (go_at_call 93; (with_reducible refine (impl_isBlankByte.calls (bt t118 t119) false _ A13.out).mono ?_); rintro e w' ⟨rfl, ⟨nd, rfl⟩⟩; (try first | exact ⟨rfl, _, World.drewN_drewN _ _ _⟩ | exact ⟨rfl, _, Eq.trans (World.drewN_drewN _ _ _) (congrArg (World.drewN _) (Nat.add_assoc _ _ _))⟩))); try go_wp2_with (first | (go_at_call 51; (with_reducible refine (impl_tagger_isOver.calls g x1000_1 x1001_1 x1002_1 x1003_1 false t118 t119 t120 t121 w0 _ ?side1 ?side2 A3.out).mono ?_); (case side1 => repeat (first | (with_reducible first | exact HI0.out | apply IsS58.alloc | apply IsS58.drewN | apply IsS58.drew | apply IsS58.set_0 | apply IsS58.set_1 | apply IsS58.set_2 | apply IsS58.set_3) | exact HI0.out)); (case side2 => repeat (first | (with_reducible first | exact HB.out | apply below_alloc | apply pw_below_drewN | apply below_drew1 | refine below_set ?_ (IsS58.ge HI0.out)) | exact HB.out)); rintro e w24 ⟨rfl, hi, hb, hk⟩; have n0_ := Aside0.mk (KeepBut.trans (by repeat (first | (with_reducible first | exact HK.out | apply KeepBut.set_ | apply keep_drewN | apply keep_drew | apply keep_alloc) | exact HK.out)) hk (.inl rfl)); have n1_ := Aside0.mk (hb); have n2_ := Aside0.mk (hi); clear HK; clear HB; clear HI0; have HK := n0_; have HB := n1_; have HI0 := n2_; clear n0_ n1_ n2_; (try clear hb); (try clear hb2); (try clear hk); (try clear hi); obtain ⟨HGz25, hgz25⟩ := HI0.out; have hcz25_0 := cellS58_0 HGz25; have hcz25_1 := cellS58_1 HGz25; have hcz25_2 := cellS58_2 HGz25; have hcz25_3 := cellS58_3 HGz25; have hfz25_0 := blk_frozen HGz25 0; have hfz25_1 := blk_frozen HGz25 1; have hfz25_2 := blk_frozen HGz25 2; have hfz25_3 := blk_frozen HGz25 3; clear HGz25 hgz25; have p12 : 0 ≤ (t119 : Int) := of_decide_eq_true (by first | (with_reducible assumption) | assumption); have q12 : t119 < (t118.size : Int) := of_decide_eq_true (by first | (with_reducible assumption) | assumption); have hx12 := bt_at t118 t119; replace p12 := eq_true p12; replace q12 := eq_true q12) | (go_at_call 93; (with_reducible refine (impl_isBlankByte.calls (bt t118 t119) false _ A13.out).mono ?_); rintro e w' ⟨rfl, ⟨nd, rfl⟩⟩; (try first | exact ⟨rfl, _, World.drewN_drewN _ _ _⟩ | exact ⟨rfl, _, Eq.trans (World.drewN_drewN _ _ _) (congrArg (World.drewN _) (Nat.add_assoc _ _ _))⟩))))
           go_ret
           exact ⟨by first | rfl | (simp [errW_none, errW_some] <;> rfl) | (simp [*, errW_none, errW_some] <;> rfl), by repeat (first | (with_reducible first | exact HI0.out | apply IsS58.alloc | apply IsS58.drewN | apply IsS58.drew | apply IsS58.set_0 | apply IsS58.set_1 | apply IsS58.set_2 | apply IsS58.set_3) | exact HI0.out), by repeat (first | (with_reducible first | exact HB.out | apply below_alloc | apply pw_below_drewN | apply below_drew1 | refine below_set ?_ (IsS58.ge HI0.out)) | exact HB.out), by repeat (first | (with_reducible first | exact HK.out | apply KeepBut.set_ | apply keep_drewN | apply keep_drew | apply keep_alloc) | exact HK.out)⟩
          ·rw [if_neg c23] at H
           exact absurd H (by simp)
         ·rw [if_neg c22] at H
          exact absurd H (by simp)
        ·rw [if_neg c21] at H
         exact absurd H (by simp)
       ·rw [if_neg c20] at H
        have c20b0 : ((bt t118 t119) == 47) = false := beq_eq_false_iff_ne.mpr c20
        have c20b1 : ((bt t118 t119) != 47) = true := bne_iff_ne.mpr c20
        by_cases c26 : (bt t118 t119) = 61
        ·rw [if_pos c26] at H
         have c26b0 : ((bt t118 t119) == 61) = true := beq_iff_eq.mpr c26
         have c26b1 : ((bt t118 t119) != 61) = false := bne_eq_false_iff_eq.mpr c26
         clear c26
         by_cases c27 : t119 > s0_1
         ·rw [if_pos c27] at H
          have c27b0 : decide (s0_1 < t119) = true := decide_eq_true c27
          clear c27
          by_cases c28 : 0 ≤ s0_1
          ·rw [if_pos c28] at H
           have c28b0 := eq_true c28
           have c28b1 : decide (0 ≤ s0_1) = true := decide_eq_true c28
           clear c28
           by_cases c29 : s0_1 ≤ t119
           ·rw [if_pos c29] at H
            have c29b0 := eq_true c29
            have c29b1 : decide (s0_1 ≤ t119) = true := decide_eq_true c29
            clear c29
            by_cases c30 : t119 ≤ (t118.size : Int)
            ·rw [if_pos c30] at H
             have c30b0 := eq_true c30
             have c30b1 : decide (t119 ≤ (t118.size : Int)) = true := decide_eq_true c30
             clear c30
             simp only [Option.some.injEq, Prod.mk.injEq] at H
             obtain ⟨rfl, rfl, rfl, rfl, rfl⟩ := H
             go_wp2_with (first | (go_at_call 51; (with_reducible refine (impl_tagger_isOver.calls g x1000_1 x1001_1 x1002_1 x1003_1 false t118 t119 t120 t121 w0 _ ?side1 ?side2 A3.out).mono ?_); (case side1 => repeat (first | (with_reducible first | exact HI0.out | apply IsS58.alloc | apply IsS58.drewN | apply IsS58.drew | apply IsS58.set_0 | apply IsS58.set_1 | apply IsS58.set_2 | apply IsS58.set_3) | exact HI0.out)); (case side2 => repeat (first | (with_reducible first | exact HB.out | apply below_alloc | apply pw_below_drewN | apply below_drew1 | refine below_set ?_ (IsS58.ge HI0.out)) | exact HB.out)); rintro e w31 ⟨rfl, hi, hb, hk⟩; have n0_ := Aside0.mk (KeepBut.trans (by repeat (first | (with_reducible first | exact HK.out | apply KeepBut.set_ | apply keep_drewN | apply keep_drew | apply keep_alloc) | exact HK.out)) hk (.inl rfl)); have n1_ := Aside0.mk (hb); have n2_ := Aside0.mk (hi); clear HK; clear HB; clear HI0; have HK := n0_; have HB := n1_; have HI0 := n2_; clear n0_ n1_ n2_; (try clear hb); (try clear hb2); (try clear hk); (try clear hi); obtain ⟨HGz32, hgz32⟩ := HI0.out; have hcz32_0 := cellS58_0 HGz32; have hcz32_1 := cellS58_1 HGz32; have hcz32_2 := cellS58_2 HGz32; have hcz32_3 := cellS58_3 HGz32; have hfz32_0 := blk_frozen HGz32 0; have hfz32_1 := blk_frozen HGz32 1; have hfz32_2 := blk_frozen HGz32 2; have hfz32_3 := blk_frozen HGz32 3; clear HGz32 hgz32; have p12 : 0 ≤ (t119 : Int) := of_decide_eq_true (by first | (with_reducible assumption) | assumption); have q12 : t119 < (t118.size : Int) := of_decide_eq_true (by first | (with_reducible assumption) | assumption); have hx12 := bt_at t118 t119; replace p12 := eq_true p12; replace q12 := eq_true q12) | (go_at_call 93; (with_reducible refine (impl_isBlankByte.calls (bt t118 t119) false _ A13.out).mono ?_); rintro e w' ⟨rfl, ⟨nd, rfl⟩⟩; (try first | exact ⟨rfl, _, World.drewN_drewN _ _ _⟩ | exact ⟨rfl, _, Eq.trans (World.drewN_drewN _ _ _) (congrArg (World.drewN _) (Nat.add_assoc _ _ _))⟩)))
             repeat (go_quiet (first | (go_at_call 51; (with_reducible refine (impl_tagger_isOver.calls g x1000_1 x1001_1 x1002_1 x1003_1 false t118 t119 t120 t121 w0 _ ?side1 ?side2 A3.out).mono ?_); (case side1 => repeat (first | (with_reducible first | exact HI0.out | apply IsS58.alloc | apply IsS58.drewN | apply IsS58.drew | apply IsS58.set_0 | apply IsS58.set_1 | apply IsS58.set_2 | apply IsS58.set_3) | exact HI0.out)); (case side2 => repeat (first | (with_reducible first | exact HB.out | apply below_alloc | apply pw_below_drewN | apply below_drew1 | refine below_set ?_ (IsS58.ge HI0.out)) | exact HB.out)); rintro e w31 ⟨rfl, hi, hb, hk⟩; have n0_ := Aside0.mk (KeepBut.trans (by repeat (first | (with_reducible first | exact HK.out | apply KeepBut.set_ | apply keep_drewN | apply keep_drew | apply keep_alloc) | exact HK.out)) hk (.inl rfl)); have n1_ := Aside0.mk (hb); have n2_ := Aside0.mk (hi); clear HK; clear HB; clear HI0; have HK := n0_; have HB := n1_; have HI0 := n2_; clear n0_ n1_ n2_; (try clear hb); (try clear hb2); (try clear hk); (try clear hi); obtain ⟨HGz32, hgz32⟩ := HI0.out; have hcz32_0 := cellS58_0 HGz32; have hcz32_1 := cellS58_1 HGz32; have hcz32_2 := cellS58_2 HGz32; have hcz32_3 := cellS58_3 HGz32; have hfz32_0 := blk_frozen HGz32 0; have hfz32_1 := blk_frozen HGz32 1; have hfz32_2 := blk_frozen HGz32 2; have hfz32_3 := blk_frozen HGz32 3; clear HGz32 hgz32; have p12 : 0 ≤ (t119 : Int) := of_decide_eq_true (by first | (with_reducible assumption) | assumption); have q12 : t119 < (t118.size : Int) := of_decide_eq_true (by first | (with_reducible assumption) | assumption); have hx12 := bt_at t118 t119; replace p12 := eq_true p12; replace q12 := eq_true q12) | (go_at_call 93; (with_reducible refine (impl_isBlankByte.calls (bt t118 t119) false _ A13.out).mono ?_); rintro e w' ⟨rfl, ⟨nd, rfl⟩⟩; (try first | exact ⟨rfl, _, World.drewN_drewN _ _ _⟩ | exact ⟨rfl, _, Eq.trans (World.drewN_drewN _ _ _) (congrArg (World.drewN _) (Nat.add_assoc _ _ _))⟩))); try go_wp2_with (first | (go_at_call 51; (with_reducible refine (impl_tagger_isOver.calls g x1000_1 x1001_1 x1002_1 x1003_1 false t118 t119 t120 t121 w0 _ ?side1 ?side2 A3.out).mono ?_); (case side1 => repeat (first | (with_reducible first | exact HI0.out | apply IsS58.alloc | apply IsS58.drewN | apply IsS58.drew | apply IsS58.set_0 | apply IsS58.set_1 | apply IsS58.set_2 | apply IsS58.set_3) | exact HI0.out)); (case side2 => repeat (first | (with_reducible first | exact HB.out | apply below_alloc | apply pw_below_drewN | apply below_drew1 | refine below_set ?_ (IsS58.ge HI0.out)) | exact HB.out)); rintro e w31 ⟨rfl, hi, hb, hk⟩; have n0_ := Aside0.mk (KeepBut.trans (by repeat (first | (with_reducible first | exact HK.out | apply KeepBut.set_ | apply keep_drewN | apply keep_drew | apply keep_alloc) | exact HK.out)) hk (.inl rfl)); have n1_ := Aside0.mk (hb); have n2_ := Aside0.mk (hi); clear HK; clear HB; clear HI0; have HK := n0_; have HB := n1_; have HI0 := n2_; clear n0_ n1_ n2_; (try clear hb); (try clear hb2); (try clear hk); (try clear hi); obtain ⟨HGz32, hgz32⟩ := HI0.out; have hcz32_0 := cellS58_0 HGz32; have hcz32_1 := cellS58_1 HGz32; have hcz32_2 := cellS58_2 HGz32; have hcz32_3 := cellS58_3 HGz32; have hfz32_0 := blk_frozen HGz32 0; have hfz32_1 := blk_frozen HGz32 1; have hfz32_2 := blk_frozen HGz32 2; have hfz32_3 := blk_frozen HGz32 3; clear HGz32 hgz32; have p12 : 0 ≤ (t119 : Int) := of_decide_eq_true (by first | (with_reducible assumption) | assumption); have q12 : t119 < (t118.size : Int) := of_decide_eq_true (by first | (with_reducible assumption) | assumption); have hx12 := bt_at t118 t119; replace p12 := eq_true p12; replace q12 := eq_true q12) | (go_at_call 93; (with_reducible refine (impl_isBlankByte.calls (bt t118 t119) false _ A13.out).mono ?_); rintro e w' ⟨rfl, ⟨nd, rfl⟩⟩; (try first | exact ⟨rfl, _, World.drewN_drewN _ _ _⟩ | exact ⟨rfl, _, Eq.trans (World.drewN_drewN _ _ _) (congrArg (World.drewN _) (Nat.add_assoc _ _ _))⟩))))
             go_ret
             exact ⟨by first | rfl | (simp [errW_none, errW_some] <;> rfl) | (simp [*, errW_none, errW_some] <;> rfl), by repeat (first | (with_reducible first | exact HI0.out | apply IsS58.alloc | apply IsS58.drewN | apply IsS58.drew | apply IsS58.set_0 | apply IsS58.set_1 | apply IsS58.set_2 | apply IsS58.set_3) | exact HI0.out), by repeat (first | (with_reducible first | exact HB.out | apply below_alloc | apply pw_below_drewN | apply below_drew1 | refine below_set ?_ (IsS58.ge HI0.out)) | exact HB.out), by repeat (first | (with_reducible first | exact HK.out | apply KeepBut.set_ | apply keep_drewN | apply keep_drew | apply keep_alloc) | exact HK.out)⟩
            ·rw [if_neg c30] at H
             exact absurd H (by simp)
           ·rw [if_neg c29] at H
            exact absurd H (by simp)
          ·rw [if_neg c28] at H
           exact absurd H (by simp)
         ·rw [if_neg c27] at H
          have c27b0 : decide (s0_1 < t119) = false := decide_eq_false c27
          clear c27
          have H' := Aside0.mk H
          clear H
          go_wp2_with (first | (go_at_call 51; (with_reducible refine (impl_tagger_isOver.calls g x1000_1 x1001_1 x1002_1 x1003_1 false t118 t119 t120 t121 w0 _ ?side1 ?side2 A3.out).mono ?_); (case side1 => repeat (first | (with_reducible first | exact HI0.out | apply IsS58.alloc | apply IsS58.drewN | apply IsS58.drew | apply IsS58.set_0 | apply IsS58.set_1 | apply IsS58.set_2 | apply IsS58.set_3) | exact HI0.out)); (case side2 => repeat (first | (with_reducible first | exact HB.out | apply below_alloc | apply pw_below_drewN | apply below_drew1 | refine below_set ?_ (IsS58.ge HI0.out)) | exact HB.out)); rintro e w33 ⟨rfl, hi, hb, hk⟩; have n0_ := Aside0.mk (KeepBut.trans (by repeat (first | (with_reducible first | exact HK.out | apply KeepBut.set_ | apply keep_drewN | apply keep_drew | apply keep_alloc) | exact HK.out)) hk (.inl rfl)); have n1_ := Aside0.mk (hb); have n2_ := Aside0.mk (hi); clear HK; clear HB; clear HI0; have HK := n0_; have HB := n1_; have HI0 := n2_; clear n0_ n1_ n2_; (try clear hb); (try clear hb2); (try clear hk); (try clear hi); obtain ⟨HGz34, hgz34⟩ := HI0.out; have hcz34_0 := cellS58_0 HGz34; have hcz34_1 := cellS58_1 HGz34; have hcz34_2 := cellS58_2 HGz34; have hcz34_3 := cellS58_3 HGz34; have hfz34_0 := blk_frozen HGz34 0; have hfz34_1 := blk_frozen HGz34 1; have hfz34_2 := blk_frozen HGz34 2; have hfz34_3 := blk_frozen HGz34 3; clear HGz34 hgz34; have p12 : 0 ≤ (t119 : Int) := of_decide_eq_true (by first | (with_reducible assumption) | assumption); have q12 : t119 < (t118.size : Int) := of_decide_eq_true (by first | (with_reducible assumption) | assumption); have hx12 := bt_at t118 t119; replace p12 := eq_true p12; replace q12 := eq_true q12) | (go_at_call 93; (with_reducible refine (impl_isBlankByte.calls (bt t118 t119) false _ A13.out).mono ?_); rintro e w' ⟨rfl, ⟨nd, rfl⟩⟩; (try first | exact ⟨rfl, _, World.drewN_drewN _ _ _⟩ | exact ⟨rfl, _, Eq.trans (World.drewN_drewN _ _ _) (congrArg (World.drewN _) (Nat.add_assoc _ _ _))⟩)))
          repeat (go_quiet (first | (go_at_call 51; (with_reducible refine (impl_tagger_isOver.calls g x1000_1 x1001_1 x1002_1 x1003_1 false t118 t119 t120 t121 w0 _ ?side1 ?side2 A3.out).mono ?_); (case side1 => repeat (first | (with_reducible first | exact HI0.out | apply IsS58.alloc | apply IsS58.drewN | apply IsS58.drew | apply IsS58.set_0 | apply IsS58.set_1 | apply IsS58.set_2 | apply IsS58.set_3) | exact HI0.out)); (case side2 => repeat (first | (with_reducible first | exact HB.out | apply below_alloc | apply pw_below_drewN | apply below_drew1 | refine below_set ?_ (IsS58.ge HI0.out)) | exact HB.out)); rintro e w33 ⟨rfl, hi, hb, hk⟩; have n0_ := Aside0.mk (KeepBut.trans (by repeat (first | (with_reducible first | exact HK.out | apply KeepBut.set_ | apply keep_drewN | apply keep_drew | apply keep_alloc) | exact HK.out)) hk (.inl rfl)); have n1_ := Aside0.mk (hb); have n2_ := Aside0.mk (hi); clear HK; clear HB; clear HI0; have HK := n0_; have HB := n1_; have HI0 := n2_; clear n0_ n1_ n2_; (try clear hb); (try clear hb2); (try clear hk); (try clear hi); obtain ⟨HGz34, hgz34⟩ := HI0.out; have hcz34_0 := cellS58_0 HGz34; have hcz34_1 := cellS58_1 HGz34; have hcz34_2 := cellS58_2 HGz34; have hcz34_3 := cellS58_3 HGz34; have hfz34_0 := blk_frozen HGz34 0; have hfz34_1 := blk_frozen HGz34 1; have hfz34_2 := blk_frozen HGz34 2; have hfz34_3 := blk_frozen HGz34 3; clear HGz34 hgz34; have p12 : 0 ≤ (t119 : Int) := of_decide_eq_true (by first | (with_reducible assumption) | assumption); have q12 : t119 < (t118.size : Int) := of_decide_eq_true (by first | (with_reducible assumption) | assumption); have hx12 := bt_at t118 t119; replace p12 := eq_true p12; replace q12 := eq_true q12) | (go_at_call 93; (with_reducible refine (impl_isBlankByte.calls (bt t118 t119) false _ A13.out).mono ?_); rintro e w' ⟨rfl, ⟨nd, rfl⟩⟩; (try first | exact ⟨rfl, _, World.drewN_drewN _ _ _⟩ | exact ⟨rfl, _, Eq.trans (World.drewN_drewN _ _ _) (congrArg (World.drewN _) (Nat.add_assoc _ _ _))⟩))); try go_wp2_with (first | (go_at_call 51; (with_reducible refine (impl_tagger_isOver.calls g x1000_1 x1001_1 x1002_1 x1003_1 false t118 t119 t120 t121 w0 _ ?side1 ?side2 A3.out).mono ?_); (case side1 => repeat (first | (with_reducible first | exact HI0.out | apply IsS58.alloc | apply IsS58.drewN | apply IsS58.drew | apply IsS58.set_0 | apply IsS58.set_1 | apply IsS58.set_2 | apply IsS58.set_3) | exact HI0.out)); (case side2 => repeat (first | (with_reducible first | exact HB.out | apply below_alloc | apply pw_below_drewN | apply below_drew1 | refine below_set ?_ (IsS58.ge HI0.out)) | exact HB.out)); rintro e w33 ⟨rfl, hi, hb, hk⟩; have n0_ := Aside0.mk (KeepBut.trans (by repeat (first | (with_reducible first | exact HK.out | apply KeepBut.set_ | apply keep_drewN | apply keep_drew | apply keep_alloc) | exact HK.out)) hk (.inl rfl)); have n1_ := Aside0.mk (hb); have n2_ := Aside0.mk (hi); clear HK; clear HB; clear HI0; have HK := n0_; have HB := n1_; have HI0 := n2_; clear n0_ n1_ n2_; (try clear hb); (try clear hb2); (try clear hk); (try clear hi); obtain ⟨HGz34, hgz34⟩ := HI0.out; have hcz34_0 := cellS58_0 HGz34; have hcz34_1 := cellS58_1 HGz34; have hcz34_2 := cellS58_2 HGz34; have hcz34_3 := cellS58_3 HGz34; have hfz34_0 := blk_frozen HGz34 0; have hfz34_1 := blk_frozen HGz34 1; have hfz34_2 := blk_frozen HGz34 2; have hfz34_3 := blk_frozen HGz34 3; clear HGz34 hgz34; have p12 : 0 ≤ (t119 : Int) := of_decide_eq_true (by first | (with_reducible assumption) | assumption); have q12 : t119 < (t118.size : Int) := of_decide_eq_true (by first | (with_reducible assumption) | assumption); have hx12 := bt_at t118 t119; replace p12 := eq_true p12; replace q12 := eq_true q12) | (go_at_call 93; (with_reducible refine (impl_isBlankByte.calls (bt t118 t119) false _ A13.out).mono ?_); rintro e w' ⟨rfl, ⟨nd, rfl⟩⟩; (try first | exact ⟨rfl, _, World.drewN_drewN _ _ _⟩ | exact ⟨rfl, _, Eq.trans (World.drewN_drewN _ _ _) (congrArg (World.drewN _) (Nat.add_assoc _ _ _))⟩))))
          go_roundg k1
          case measure => have := HK1.out; omega
          case rel => exact ⟨(t118), (wrap64 (t119 + 1)), (t120), (t121), H', ⟨by have := HK1.out; omega⟩, ⟨by repeat (first | (with_reducible first | exact HI0.out | apply IsS58.alloc | apply IsS58.drewN | apply IsS58.drew | apply IsS58.set_0 | apply IsS58.set_1 | apply IsS58.set_2 | apply IsS58.set_3) | exact HI0.out)⟩, ⟨by repeat (first | (with_reducible first | exact HK.out | apply KeepBut.set_ | apply keep_drewN | apply keep_drew | apply keep_alloc) | exact HK.out)⟩, ⟨by repeat (first | (with_reducible first | exact HB.out | apply below_alloc | apply pw_below_drewN | apply below_drew1 | refine below_set ?_ (IsS58.ge HI0.out)) | exact HB.out)⟩⟩
        ·rw [if_neg c26] at H
         have c26b0 : ((bt t118 t119) == 61) = false := beq_eq_false_iff_ne.mpr c26
         have c26b1 : ((bt t118 t119) != 61) = true := bne_iff_ne.mpr c26
         have H' := Aside0.mk H
         clear H
         go_wp2_with (first | (go_at_call 51; (with_reducible refine (impl_tagger_isOver.calls g x1000_1 x1001_1 x1002_1 x1003_1 false t118 t119 t120 t121 w0 _ ?side1 ?side2 A3.out).mono ?_); (case side1 => repeat (first | (with_reducible first | exact HI0.out | apply IsS58.alloc | apply IsS58.drewN | apply IsS58.drew | apply IsS58.set_0 | apply IsS58.set_1 | apply IsS58.set_2 | apply IsS58.set_3) | exact HI0.out)); (case side2 => repeat (first | (with_reducible first | exact HB.out | apply below_alloc | apply pw_below_drewN | apply below_drew1 | refine below_set ?_ (IsS58.ge HI0.out)) | exact HB.out)); rintro e w35 ⟨rfl, hi, hb, hk⟩; have n0_ := Aside0.mk (KeepBut.trans (by repeat (first | (with_reducible first | exact HK.out | apply KeepBut.set_ | apply keep_drewN | apply keep_drew | apply keep_alloc) | exact HK.out)) hk (.inl rfl)); have n1_ := Aside0.mk (hb); have n2_ := Aside0.mk (hi); clear HK; clear HB; clear HI0; have HK := n0_; have HB := n1_; have HI0 := n2_; clear n0_ n1_ n2_; (try clear hb); (try clear hb2); (try clear hk); (try clear hi); obtain ⟨HGz36, hgz36⟩ := HI0.out; have hcz36_0 := cellS58_0 HGz36; have hcz36_1 := cellS58_1 HGz36; have hcz36_2 := cellS58_2 HGz36; have hcz36_3 := cellS58_3 HGz36; have hfz36_0 := blk_frozen HGz36 0; have hfz36_1 := blk_frozen HGz36 1; have hfz36_2 := blk_frozen HGz36 2; have hfz36_3 := blk_frozen HGz36 3; clear HGz36 hgz36; have p12 : 0 ≤ (t119 : Int) := of_decide_eq_true (by first | (with_reducible assumption) | assumption); have q12 : t119 < (t118.size : Int) := of_decide_eq_true (by first | (with_reducible assumption) | assumption); have hx12 := bt_at t118 t119; replace p12 := eq_true p12; replace q12 := eq_true q12) | (go_at_call 93; (with_reducible refine (impl_isBlankByte.calls (bt t118 t119) false _ A13.out).mono ?_); rintro e w' ⟨rfl, ⟨nd, rfl⟩⟩; (try first | exact ⟨rfl, _, World.drewN_drewN _ _ _⟩ | exact ⟨rfl, _, Eq.trans (World.drewN_drewN _ _ _) (congrArg (World.drewN _) (Nat.add_assoc _ _ _))⟩)))
         repeat (go_quiet (first | (go_at_call 51; (with_reducible refine (impl_tagger_isOver.calls g x1000_1 x1001_1 x1002_1 x1003_1 false t118 t119 t120 t121 w0 _ ?side1 ?side2 A3.out).mono ?_); (case side1 => repeat (first | (with_reducible first | exact HI0.out | apply IsS58.alloc | apply IsS58.drewN | apply IsS58.drew | apply IsS58.set_0 | apply IsS58.set_1 | apply IsS58.set_2 | apply IsS58.set_3) | exact HI0.out)); (case side2 => repeat (first | (with_reducible first | exact HB.out | apply below_alloc | apply pw_below_drewN | apply below_drew1 | refine below_set ?_ (IsS58.ge HI0.out)) | exact HB.out)); rintro e w35 ⟨rfl, hi, hb, hk⟩; have n0_ := Aside0.mk (KeepBut.trans (by repeat (first | (with_reducible first | exact HK.out | apply KeepBut.set_ | apply keep_drewN | apply keep_drew | apply keep_alloc) | exact HK.out)) hk (.inl rfl)); have n1_ := Aside0.mk (hb); have n2_ := Aside0.mk (hi); clear HK; clear HB; clear HI0; have HK := n0_; have HB := n1_; have HI0 := n2_; clear n0_ n1_ n2_; (try clear hb); (try clear hb2); (try clear hk); (try clear hi); obtain ⟨HGz36, hgz36⟩ := HI0.out; have hcz36_0 := cellS58_0 HGz36; have hcz36_1 := cellS58_1 HGz36; have hcz36_2 := cellS58_2 HGz36; have hcz36_3 := cellS58_3 HGz36; have hfz36_0 := blk_frozen HGz36 0; have hfz36_1 := blk_frozen HGz36 1; have hfz36_2 := blk_frozen HGz36 2; have hfz36_3 := blk_frozen HGz36 3; clear HGz36 hgz36; have p12 : 0 ≤ (t119 : Int) := of_decide_eq_true (by first | (with_reducible assumption) | assumption); have q12 : t119 < (t118.size : Int) := of_decide_eq_true (by first | (with_reducible assumption) | assumption); have hx12 := bt_at t118 t119; replace p12 := eq_true p12; replace q12 := eq_true q12) | (go_at_call 93; (with_reducible refine (impl_isBlankByte.calls (bt t118 t119) false _ A13.out).mono ?_); rintro e w' ⟨rfl, ⟨nd, rfl⟩⟩; (try first | exact ⟨rfl, _, World.drewN_drewN _ _ _⟩ | exact ⟨rfl, _, Eq.trans (World.drewN_drewN _ _ _) (congrArg (World.drewN _) (Nat.add_assoc _ _ _))⟩))); try go_wp2_with (first | (go_at_call 51; (with_reducible refine (impl_tagger_isOver.calls g x1000_1 x1001_1 x1002_1 x1003_1 false t118 t119 t120 t121 w0 _ ?side1 ?side2 A3.out).mono ?_); (case side1 => repeat (first | (with_reducible first | exact HI0.out | apply IsS58.alloc | apply IsS58.drewN | apply IsS58.drew | apply IsS58.set_0 | apply IsS58.set_1 | apply IsS58.set_2 | apply IsS58.set_3) | exact HI0.out)); (case side2 => repeat (first | (with_reducible first | exact HB.out | apply below_alloc | apply pw_below_drewN | apply below_drew1 | refine below_set ?_ (IsS58.ge HI0.out)) | exact HB.out)); rintro e w35 ⟨rfl, hi, hb, hk⟩; have n0_ := Aside0.mk (KeepBut.trans (by repeat (first | (with_reducible first | exact HK.out | apply KeepBut.set_ | apply keep_drewN | apply keep_drew | apply keep_alloc) | exact HK.out)) hk (.inl rfl)); have n1_ := Aside0.mk (hb); have n2_ := Aside0.mk (hi); clear HK; clear HB; clear HI0; have HK := n0_; have HB := n1_; have HI0 := n2_; clear n0_ n1_ n2_; (try clear hb); (try clear hb2); (try clear hk); (try clear hi); obtain ⟨HGz36, hgz36⟩ := HI0.out; have hcz36_0 := cellS58_0 HGz36; have hcz36_1 := cellS58_1 HGz36; have hcz36_2 := cellS58_2 HGz36; have hcz36_3 := cellS58_3 HGz36; have hfz36_0 := blk_frozen HGz36 0; have hfz36_1 := blk_frozen HGz36 1; have hfz36_2 := blk_frozen HGz36 2; have hfz36_3 := blk_frozen HGz36 3; clear HGz36 hgz36; have p12 : 0 ≤ (t119 : Int) := of_decide_eq_true (by first | (with_reducible assumption) | assumption); have q12 : t119 < (t118.size : Int) := of_decide_eq_true (by first | (with_reducible assumption) | assumption); have hx12 := bt_at t118 t119; replace p12 := eq_true p12; replace q12 := eq_true q12) | (go_at_call 93; (with_reducible refine (impl_isBlankByte.calls (bt t118 t119) false _ A13.out).mono ?_); rintro e w' ⟨rfl, ⟨nd, rfl⟩⟩; (try first | exact ⟨rfl, _, World.drewN_drewN _ _ _⟩ | exact ⟨rfl, _, Eq.trans (World.drewN_drewN _ _ _) (congrArg (World.drewN _) (Nat.add_assoc _ _ _))⟩))))
         go_roundg k1
         case measure => have := HK1.out; omega
         case rel => exact ⟨(t118), (wrap64 (t119 + 1)), (t120), (t121), H', ⟨by have := HK1.out; omega⟩, ⟨by repeat (first | (with_reducible first | exact HI0.out | apply IsS58.alloc | apply IsS58.drewN | apply IsS58.drew | apply IsS58.set_0 | apply IsS58.set_1 | apply IsS58.set_2 | apply IsS58.set_3) | exact HI0.out)⟩, ⟨by repeat (first | (with_reducible first | exact HK.out | apply KeepBut.set_ | apply keep_drewN | apply keep_drew | apply keep_alloc) | exact HK.out)⟩, ⟨by repeat (first | (with_reducible first | exact HB.out | apply below_alloc | apply pw_below_drewN | apply below_drew1 | refine below_set ?_ (IsS58.ge HI0.out)) | exact HB.out)⟩⟩
     ·rw [if_neg c11] at H
      exact absurd H (by simp)
    ·rw [if_neg c10] at H
     exact absurd H (by simp)
end Go.Proofs.Ytlocaaebgghkbaa.A
namespace Go.Proofs.Ytlocaaebgghkbaa.A
open Go.RowKit Go.Proofs.YtlocaaebgghkbaaW.PrintWords Go.Proofs.YtlocaaebgghkbaaW.PrintLast Go.Proofs.YtlocaaebgghkbaaW.PrintMore
attribute [local go_sem] max2_int min2_int max_two min_two max_three min_three max_four min_four   -- for this text's walks alone
set_option linter.unusedVariables false
set_option linter.unusedSimpArgs false
end Go.Proofs.Ytlocaaebgghkbaa.A
namespace Go.Proofs.Ytlocaaebgghkbaa.A
open Go.RowKit Go.Proofs.YtlocaaebgghkbaaW.PrintWords Go.Proofs.YtlocaaebgghkbaaW.PrintLast Go.Proofs.YtlocaaebgghkbaaW.PrintMore
attribute [local go_sem] max2_int min2_int max_two min_two max_three min_three max_four min_four   -- for this text's walks alone
set_option linter.unusedVariables false
set_option linter.unusedSimpArgs false
theorem isBlank_still (c : Int) (w : World) :
  Calls Try.prog 127 #[.int .i64 c] w fun e w' => e = .returned (.bool (blk c)) ∧ w' = w := by
 by_cases a1 : c = 9
 ·subst a1; go_enter Try.func127, Try.ntmps127; go_wp2; go_ret; exact ⟨rfl, rfl⟩
 by_cases a2 : c = 10
 ·subst a2; go_enter Try.func127, Try.ntmps127; go_wp2; go_ret; exact ⟨rfl, rfl⟩
 by_cases a3 : c = 12
 ·subst a3; go_enter Try.func127, Try.ntmps127; go_wp2; go_ret; exact ⟨rfl, rfl⟩
 by_cases a4 : c = 13
 ·subst a4; go_enter Try.func127, Try.ntmps127; go_wp2; go_ret; exact ⟨rfl, rfl⟩
 have b1 : (c == 9) = false := beq_eq_false_iff_ne.mpr a1
 have b2 : (c == 10) = false := beq_eq_false_iff_ne.mpr a2
 have b3 : (c == 12) = false := beq_eq_false_iff_ne.mpr a3
 have b4 : (c == 13) = false := beq_eq_false_iff_ne.mpr a4
 have e : blk c = (c == 32) := by simp [blk, b1, b2, b3, b4]
 rw [e]
 go_enter Try.func127, Try.ntmps127
 go_wp2
 go_ret
 exact ⟨by simp [b1, b2, b3, b4], rfl⟩
theorem isBlankByte_still (c : Int) (h0 : 0 ≤ c) (h1 : c ≤ 255) (w : World) :
  Calls Try.prog 93 #[.int .u8 c] w fun r w' => r = .returned (.bool (blk c)) ∧ w' = w := by
 go_enter Try.func93, Try.ntmps93
 go_wp2_with ((go_at_call 127; (refine (isBlank_still c _).mono ?_); rintro r w' ⟨rfl, rfl⟩))
 go_ret
 exact ⟨rfl, rfl⟩
set_option maxHeartbeats 1000000 in
theorem pastBlanks_still (s : ByteArray) (i : Int) (w : World) (h0 : 0 ≤ i) (h1 : i ≤ s.size) (hm : s.size ≤ 140737488351232) :
  Calls Try.prog 129 #[.string s, .int .i64 i] w fun e w' => e = .returned (.int .i64 (pastB s i)) ∧ w' = w := by
 go_enter Try.func129, Try.ntmps129
 go_wp2
 go_loopg [1] (((s.size : Int) - i).toNat) (fun kq v wr => ∃ j : Int, v = .int .i64 j ∧ 0 ≤ j ∧ j ≤ s.size ∧ Aside0 (kq = ((s.size : Int) - j).toNat) ∧ Aside0 (pastB s j = pastB s i) ∧ w = wr)
 case atStart => exact ⟨i, rfl, h0, h1, ⟨rfl⟩, ⟨rfl⟩, rfl⟩
 case round =>
  obtain ⟨j, rfl, j0, j1, HM, HE, rfl⟩ := hrel
  have hr := bt_range s j
  have hx := bt_at s j
  by_cases hlt : j < (s.size : Int)
  ·by_cases c2 : blk (bt s j) = true
   ·have C2 := Aside0.mk c2
    go_wp2_with ((go_at_call 93; (refine (isBlankByte_still (bt s j) hr.1 hr.2 _).mono ?_); rintro r w' ⟨rfl, rfl⟩; rw [C2.out]))
    go_roundg (((s.size : Int) - (j + 1)).toNat)
    case measure => have := HM.out; omega
    case rel => exact ⟨j + 1, rfl, by omega, by omega, ⟨rfl⟩, ⟨by rw [← HE.out, pastB_go hlt C2.out]⟩, rfl⟩
   ·replace c2 : blk (bt s j) = false := by simpa using c2
    have C2 := Aside0.mk c2
    go_wp2_with ((go_at_call 93; (refine (isBlankByte_still (bt s j) hr.1 hr.2 _).mono ?_); rintro r w' ⟨rfl, rfl⟩; rw [C2.out]))
    go_ret
    exact ⟨by rw [← HE.out, pastB_stop (.inr C2.out)]; rfl, rfl⟩
  ·go_wp2
   go_ret
   exact ⟨by rw [← HE.out, pastB_stop (.inl (by omega))]; rfl, rfl⟩
def impl_tagger_blanks.f (s : ByteArray) (k : Int) (e sl : Bool) : Option (ByteArray × Int × Bool × Bool) :=
 if 0 ≤ k ∧ k ≤ s.size ∧ s.size ≤ 140737488351232 then some (s, pastB s k, e, sl) else none
set_option maxHeartbeats 1000000 in
set_option maxRecDepth 100000 in
theorem impl_tagger_blanks.calls (g : Nat) (s : ByteArray) (k : Int) (e sl : Bool) (r1 : ByteArray) (r2 : Int) (r3 r4 : Bool) (w0 w : World) (hI : IsS58 w0 w g s k e sl) (hB : Below w0.heap.size w0 w) (hF : impl_tagger_blanks.f s k e sl = some (r1, r2, r3, r4)) :
  Calls Try.prog 96 #[.pointer (some ⟨g, 0, none⟩)] w fun r w' => r = .returned (.tuple #[]) ∧ IsS58 w0 w' g r1 r2 r3 r4 ∧ Below w0.heap.size w0 w' ∧ KeepBut w w' g none := by
 unfold impl_tagger_blanks.f at hF
 split at hF
 case isFalse => cases hF
 case isTrue hc =>
 obtain ⟨h0, hs, hm⟩ := hc
 simp only [Option.some.injEq, Prod.mk.injEq] at hF
 obtain ⟨rfl, rfl, rfl, rfl⟩ := hF
 have HT := Aside0.mk hI
 have HB := Aside0.mk hB
 have HK := Aside0.mk (KeepBut.refl w g none)
 obtain ⟨hc0, hc1, hc2, hc3, hf0, hf1, hf2, hf3⟩ := tagger_cells hI
 clear hI hB
 go_enter Try.func96, Try.ntmps96
 go_wp2
 refine wp_region_still_tail 10 (by kernel_rfl) (by kernel_rfl) ?_
 simp only [List.take_succ_cons, List.take_zero, List.drop_succ_cons, List.drop_zero]
 repeat still_step
 still_call (pastBlanks_still s k _ h0 hs hm)
 refine wpStill_nil ?_
 go_wp2
 go_end0
 exact ⟨rfl, HT.out.set_1 _, below_drew (below_set HB.out HT.out.2), HK.out.set_ _ _⟩
end Go.Proofs.Ytlocaaebgghkbaa.A
namespace Go.Proofs.Ytlocaaebgghkbaa.A
open Go.RowKit Go.Proofs.YtlocaaebgghkbaaW.PrintWords Go.Proofs.YtlocaaebgghkbaaW.PrintLast Go.Proofs.YtlocaaebgghkbaaW.PrintMore
attribute [local go_sem] max2_int min2_int max_two min_two max_three min_three max_four min_four   -- for this text's walks alone
set_option linter.unusedVariables false
set_option linter.unusedSimpArgs false
def strings_IndexByte.f (a0 : ByteArray) (a1 : Int) : Option Int := some (Lib.indexByte a0.data.toList a1.toNat.toUInt8)
theorem strings_IndexByte.calls (a0 : ByteArray) (a1 : Int) (r : Int) (w : World) (h : strings_IndexByte.f a0 a1 = some r) :
  Calls Try.prog 130 #[.string a0, .int .u8 a1] w fun e w' => e = .returned (.int .i64 r) ∧ Drawn0 w w' := by
 obtain rfl := Option.some.inj h
 exact (Try.strings_IndexByte a0 a1 w).mono fun e w' hh => ⟨hh.1, by rw [hh.2]; exact Drawn0.refl _⟩
end Go.Proofs.Ytlocaaebgghkbaa.A
namespace Go.Proofs.Ytlocaaebgghkbaa.A
open Go.RowKit Go.Proofs.YtlocaaebgghkbaaW.PrintWords Go.Proofs.YtlocaaebgghkbaaW.PrintLast Go.Proofs.YtlocaaebgghkbaaW.PrintMore
attribute [local go_sem] max2_int min2_int max_two min_two max_three min_three max_four min_four   -- for this text's walks alone
set_option linter.unusedVariables false
set_option linter.unusedSimpArgs false
def impl_tagger_quoted.f (s0_0 : ByteArray) (s0_1 : Int) (s0_2 : Bool) (s0_3 : Bool) : Option (ByteArray × Bool × ByteArray × Int × Bool × Bool) := if 0 ≤ s0_1 then (if s0_1 < (s0_0.size : Int) then (if 0 ≤ (wrap64 (s0_1 + 1)) then (if (wrap64 (s0_1 + 1)) ≤ (s0_0.size : Int) then ((strings_IndexByte.f (s0_0.extract ((wrap64 (s0_1 + 1)) : Int).toNat s0_0.size) (bt s0_0 s0_1)).bind fun t124 => (if t124 < 0 then (some (s0_0.extract ((wrap64 (s0_1 + 1)) : Int).toNat s0_0.size, false, s0_0, (s0_0.size : Int), s0_2, s0_3)) else (if (wrap64 (s0_1 + 1)) ≤ (wrap64 ((wrap64 (s0_1 + 1)) + t124)) then (if (wrap64 ((wrap64 (s0_1 + 1)) + t124)) ≤ (s0_0.size : Int) then (some (s0_0.extract ((wrap64 (s0_1 + 1)) : Int).toNat ((wrap64 ((wrap64 (s0_1 + 1)) + t124)) : Int).toNat, true, s0_0, wrap64 ((wrap64 ((wrap64 (s0_1 + 1)) + t124)) + 1), s0_2, s0_3)) else (none)) else (none)))) else (none)) else (none)) else (none)) else (none)
set_option maxHeartbeats 8000000 in
set_option maxRecDepth 100000 in
theorem impl_tagger_quoted.calls (g : Nat) (s0_0 : ByteArray) (s0_1 : Int) (s0_2 : Bool) (s0_3 : Bool) (r1 : ByteArray) (r2 : Bool) (r3 : ByteArray) (r4 : Int) (r5 : Bool) (r6 : Bool) (w0 w : World) (hI : IsS58 w0 w g s0_0 s0_1 s0_2 s0_3) (hB : Below w0.heap.size w0 w) (h : impl_tagger_quoted.f s0_0 s0_1 s0_2 s0_3 = some (r1, r2, r3, r4, r5, r6)) :
  Calls Try.prog 97 #[.pointer (some ⟨g, 0, none⟩)] w fun e w' => e = .returned (.tuple #[.string r1, .bool r2]) ∧ IsS58 w0 w' g r3 r4 r5 r6 ∧ Below w0.heap.size w0 w' ∧ KeepBut w w' g none := by
 have HI0 := Aside0.mk hI
 have HK := Aside0.mk (KeepBut.refl w g none)
 have HL := Aside0.mk hB.size
 clear hI
 have HW0 := Aside0.mk hB.size
 have HB := Aside0.mk hB
 clear hB
 have H : (if 0 ≤ s0_1 then (if s0_1 < (s0_0.size : Int) then (if 0 ≤ (wrap64 (s0_1 + 1)) then (if (wrap64 (s0_1 + 1)) ≤ (s0_0.size : Int) then ((strings_IndexByte.f (s0_0.extract ((wrap64 (s0_1 + 1)) : Int).toNat s0_0.size) (bt s0_0 s0_1)).bind fun t124 => (if t124 < 0 then (some (s0_0.extract ((wrap64 (s0_1 + 1)) : Int).toNat s0_0.size, false, s0_0, (s0_0.size : Int), s0_2, s0_3)) else (if (wrap64 (s0_1 + 1)) ≤ (wrap64 ((wrap64 (s0_1 + 1)) + t124)) then (if (wrap64 ((wrap64 (s0_1 + 1)) + t124)) ≤ (s0_0.size : Int) then (some (s0_0.extract ((wrap64 (s0_1 + 1)) : Int).toNat ((wrap64 ((wrap64 (s0_1 + 1)) + t124)) : Int).toNat, true, s0_0, wrap64 ((wrap64 ((wrap64 (s0_1 + 1)) + t124)) + 1), s0_2, s0_3)) else (none)) else (none)))) else (none)) else (none)) else (none)) else (none)) = some (r1, r2, r3, r4, r5, r6) := h
 clear h
 by_cases c2 : 0 ≤ s0_1
 ·rw [if_pos c2] at H
  have c2b0 : decide (0 ≤ s0_1) = true := decide_eq_true c2
  clear c2
  by_cases c3 : s0_1 < (s0_0.size : Int)
  ·rw [if_pos c3] at H
   have c3b0 : decide (s0_1 < (s0_0.size : Int)) = true := decide_eq_true c3
   clear c3
   obtain ⟨ji5, hji5⟩ : ∃ j_ : Int, (wrap64 (s0_1 + 1)) = j_ := ⟨_, rfl⟩
   replace H : (if 0 ≤ (ji5) then (if (ji5) ≤ (s0_0.size : Int) then ((strings_IndexByte.f (s0_0.extract ((ji5) : Int).toNat s0_0.size) (bt s0_0 s0_1)).bind fun t124 => (if t124 < 0 then (some (s0_0.extract ((ji5) : Int).toNat s0_0.size, false, s0_0, (s0_0.size : Int), s0_2, s0_3)) else (if (ji5) ≤ (wrap64 ((ji5) + t124)) then (if (wrap64 ((ji5) + t124)) ≤ (s0_0.size : Int) then (some (s0_0.extract ((ji5) : Int).toNat ((wrap64 ((ji5) + t124)) : Int).toNat, true, s0_0, wrap64 ((wrap64 ((ji5) + t124)) + 1), s0_2, s0_3)) else (none)) else (none)))) else (none)) else (none)) = some (r1, r2, r3, r4, r5, r6) := by first | (rw [hji5] at H; exact H) | (simp only [hji5] at H ⊢; exact H)
   have hji5w : (IntKind.i64.wrap (s0_1 + 1)) = ji5 := (i64_w _).trans hji5
   by_cases c6 : 0 ≤ (ji5)
   ·rw [if_pos c6] at H
    have c6b0 := eq_true c6
    have c6b1 : decide (0 ≤ (ji5)) = true := decide_eq_true c6
    clear c6
    by_cases c7 : (ji5) ≤ (s0_0.size : Int)
    ·rw [if_pos c7] at H
     have c7b0 := eq_true c7
     have c7b1 : decide ((ji5) ≤ (s0_0.size : Int)) = true := decide_eq_true c7
     clear c7
     replace H := Option.bind_eq_some_iff.mp H
     obtain ⟨t124, A80, H⟩ := H
     replace H : (if t124 < 0 then (some (s0_0.extract ((ji5) : Int).toNat s0_0.size, false, s0_0, (s0_0.size : Int), s0_2, s0_3)) else (if (ji5) ≤ (wrap64 ((ji5) + t124)) then (if (wrap64 ((ji5) + t124)) ≤ (s0_0.size : Int) then (some (s0_0.extract ((ji5) : Int).toNat ((wrap64 ((ji5) + t124)) : Int).toNat, true, s0_0, wrap64 ((wrap64 ((ji5) + t124)) + 1), s0_2, s0_3)) else (none)) else (none))) = some (r1, r2, r3, r4, r5, r6) := H
     have A8 := Aside0.mk A80
     clear A80
     by_cases c9 : t124 < 0
     ·rw [if_pos c9] at H
      have c9b0 : decide (t124 < 0) = true := decide_eq_true c9
      clear c9
      have c10b0 := eq_true (of_decide_eq_true (by first | (with_reducible assumption) | assumption) : 0 ≤ (ji5))
      have c11b0 := eq_true (of_decide_eq_true (by first | (with_reducible assumption) | assumption) : (ji5) ≤ (s0_0.size : Int))
      simp only [Option.some.injEq, Prod.mk.injEq] at H
      obtain ⟨rfl, rfl, rfl, rfl, rfl, rfl⟩ := H
      obtain ⟨HGz12, hgz12⟩ := HI0.out
      have hcz12_0 := cellS58_0 HGz12
      have hcz12_1 := cellS58_1 HGz12
      have hcz12_2 := cellS58_2 HGz12
      have hcz12_3 := cellS58_3 HGz12
      have hfz12_0 := blk_frozen HGz12 0
      have hfz12_1 := blk_frozen HGz12 1
      have hfz12_2 := blk_frozen HGz12 2
      have hfz12_3 := blk_frozen HGz12 3
      clear HGz12 hgz12
      have p4 : 0 ≤ (s0_1 : Int) := of_decide_eq_true (by first | (with_reducible assumption) | assumption)
      have q4 : s0_1 < (s0_0.size : Int) := of_decide_eq_true (by first | (with_reducible assumption) | assumption)
      have hx4 := bt_at s0_0 s0_1
      replace p4 := eq_true p4
      replace q4 := eq_true q4
      go_enter Try.func97, Try.ntmps97
      go_wp2_with (first | (go_at_call 130; (with_reducible refine (strings_IndexByte.calls (s0_0.extract ((ji5) : Int).toNat s0_0.size) (bt s0_0 s0_1) t124 _ A8.out).mono ?_); rintro e w' ⟨rfl, ⟨nd, rfl⟩⟩; (try first | exact ⟨rfl, _, World.drewN_drewN _ _ _⟩ | exact ⟨rfl, _, Eq.trans (World.drewN_drewN _ _ _) (congrArg (World.drewN _) (Nat.add_assoc _ _ _))⟩)))
      repeat (go_quiet (first | (go_at_call 130; (with_reducible refine (strings_IndexByte.calls (s0_0.extract ((ji5) : Int).toNat s0_0.size) (bt s0_0 s0_1) t124 _ A8.out).mono ?_); rintro e w' ⟨rfl, ⟨nd, rfl⟩⟩; (try first | exact ⟨rfl, _, World.drewN_drewN _ _ _⟩ | exact ⟨rfl, _, Eq.trans (World.drewN_drewN _ _ _) (congrArg (World.drewN _) (Nat.add_assoc _ _ _))⟩))); try go_wp2_with (first | (go_at_call 130; (with_reducible refine (strings_IndexByte.calls (s0_0.extract ((ji5) : Int).toNat s0_0.size) (bt s0_0 s0_1) t124 _ A8.out).mono ?_); rintro e w' ⟨rfl, ⟨nd, rfl⟩⟩; (try first | exact ⟨rfl, _, World.drewN_drewN _ _ _⟩ | exact ⟨rfl, _, Eq.trans (World.drewN_drewN _ _ _) (congrArg (World.drewN _) (Nat.add_assoc _ _ _))⟩))))
      go_ret2
      exact ⟨by first | rfl | (simp [errW_none, errW_some] <;> rfl) | (simp only [← hji5]; first | rfl | (simp [errW_none, errW_some] <;> rfl)) | (simp [*, errW_none, errW_some] <;> rfl), by repeat (first | (with_reducible first | exact HI0.out | apply IsS58.alloc | apply IsS58.drewN | apply IsS58.drew | apply IsS58.set_0 | apply IsS58.set_1 | apply IsS58.set_2 | apply IsS58.set_3) | exact HI0.out), by repeat (first | (with_reducible first | exact HB.out | apply below_alloc | apply pw_below_drewN | apply below_drew1 | refine below_set ?_ (IsS58.ge HI0.out)) | exact HB.out), by repeat (first | (with_reducible first | exact HK.out | apply KeepBut.set_ | apply keep_drewN | apply keep_drew | apply keep_alloc) | exact HK.out)⟩
     ·rw [if_neg c9] at H
      have c9b0 : decide (t124 < 0) = false := decide_eq_false c9
      clear c9
      have c13b0 := eq_true (of_decide_eq_true (by first | (with_reducible assumption) | assumption) : 0 ≤ (ji5))
      by_cases c14 : (ji5) ≤ (wrap64 ((ji5) + t124))
      ·rw [if_pos c14] at H
       have c14b0 := eq_true c14
       have c14b1 : decide ((ji5) ≤ (wrap64 ((ji5) + t124))) = true := decide_eq_true c14
       by_cases c15 : (wrap64 ((ji5) + t124)) ≤ (s0_0.size : Int)
       ·rw [if_pos c15] at H
        have c15b0 := eq_true c15
        have c15b1 : decide ((wrap64 ((ji5) + t124)) ≤ (s0_0.size : Int)) = true := decide_eq_true c15
        simp only [Option.some.injEq, Prod.mk.injEq] at H
        obtain ⟨rfl, rfl, rfl, rfl, rfl, rfl⟩ := H
        obtain ⟨HGz16, hgz16⟩ := HI0.out
        have hcz16_0 := cellS58_0 HGz16
        have hcz16_1 := cellS58_1 HGz16
        have hcz16_2 := cellS58_2 HGz16
        have hcz16_3 := cellS58_3 HGz16
        have hfz16_0 := blk_frozen HGz16 0
        have hfz16_1 := blk_frozen HGz16 1
        have hfz16_2 := blk_frozen HGz16 2
        have hfz16_3 := blk_frozen HGz16 3
        clear HGz16 hgz16
        have p4 : 0 ≤ (s0_1 : Int) := of_decide_eq_true (by first | (with_reducible assumption) | assumption)
        have q4 : s0_1 < (s0_0.size : Int) := of_decide_eq_true (by first | (with_reducible assumption) | assumption)
        have hx4 := bt_at s0_0 s0_1
        replace p4 := eq_true p4
        replace q4 := eq_true q4
        go_enter Try.func97, Try.ntmps97
        go_wp2_with (first | (go_at_call 130; (with_reducible refine (strings_IndexByte.calls (s0_0.extract ((ji5) : Int).toNat s0_0.size) (bt s0_0 s0_1) t124 _ A8.out).mono ?_); rintro e w' ⟨rfl, ⟨nd, rfl⟩⟩; (try first | exact ⟨rfl, _, World.drewN_drewN _ _ _⟩ | exact ⟨rfl, _, Eq.trans (World.drewN_drewN _ _ _) (congrArg (World.drewN _) (Nat.add_assoc _ _ _))⟩)))
        repeat (go_quiet (first | (go_at_call 130; (with_reducible refine (strings_IndexByte.calls (s0_0.extract ((ji5) : Int).toNat s0_0.size) (bt s0_0 s0_1) t124 _ A8.out).mono ?_); rintro e w' ⟨rfl, ⟨nd, rfl⟩⟩; (try first | exact ⟨rfl, _, World.drewN_drewN _ _ _⟩ | exact ⟨rfl, _, Eq.trans (World.drewN_drewN _ _ _) (congrArg (World.drewN _) (Nat.add_assoc _ _ _))⟩))); try go_wp2_with (first | (go_at_call 130; (with_reducible refine (strings_IndexByte.calls (s0_0.extract ((ji5) : Int).toNat s0_0.size) (bt s0_0 s0_1) t124 _ A8.out).mono ?_); rintro e w' ⟨rfl, ⟨nd, rfl⟩⟩; (try first | exact ⟨rfl, _, World.drewN_drewN _ _ _⟩ | exact ⟨rfl, _, Eq.trans (World.drewN_drewN _ _ _) (congrArg (World.drewN _) (Nat.add_assoc _ _ _))⟩))))
        go_ret2
        exact ⟨by first | rfl | (simp [errW_none, errW_some] <;> rfl) | (simp only [← hji5]; first | rfl | (simp [errW_none, errW_some] <;> rfl)) | (simp [*, errW_none, errW_some] <;> rfl), by repeat (first | (with_reducible first | exact HI0.out | apply IsS58.alloc | apply IsS58.drewN | apply IsS58.drew | apply IsS58.set_0 | apply IsS58.set_1 | apply IsS58.set_2 | apply IsS58.set_3) | exact HI0.out), by repeat (first | (with_reducible first | exact HB.out | apply below_alloc | apply pw_below_drewN | apply below_drew1 | refine below_set ?_ (IsS58.ge HI0.out)) | exact HB.out), by repeat (first | (with_reducible first | exact HK.out | apply KeepBut.set_ | apply keep_drewN | apply keep_drew | apply keep_alloc) | exact HK.out)⟩
       ·rw [if_neg c15] at H
        exact absurd H (by simp)
      ·rw [if_neg c14] at H
       exact absurd H (by simp)
    ·rw [if_neg c7] at H
     exact absurd H (by simp)
   ·rw [if_neg c6] at H
    exact absurd H (by simp)
  ·rw [if_neg c3] at H
   exact absurd H (by simp)
 ·rw [if_neg c2] at H
  exact absurd H (by simp)
end Go.Proofs.Ytlocaaebgghkbaa.A
namespace Go.Proofs.Ytlocaaebgghkbaa.A
open Go.RowKit Go.Proofs.YtlocaaebgghkbaaW.PrintWords Go.Proofs.YtlocaaebgghkbaaW.PrintLast Go.Proofs.YtlocaaebgghkbaaW.PrintMore
attribute [local go_sem] max2_int min2_int max_two min_two max_three min_three max_four min_four   -- for this text's walks alone
set_option linter.unusedVariables false
set_option linter.unusedSimpArgs false
theorem isOver_f (s : ByteArray) (k : Int) (e sl : Bool) (h0 : 0 ≤ k) : impl_tagger_isOver.f s k e sl = some (ovr s k e, s, k, e, sl) := by
 unfold impl_tagger_isOver.f ovr
 by_cases c : k ≥ (s.size : Int)
 ·rw [if_pos c]; simp [show (s.size : Int) ≤ k from c]
 ·rw [if_neg c]
  cases e
  ·rw [if_neg (by simp)]; simp; omega
  ·rw [if_pos rfl, if_pos h0, if_pos (by omega)]; simp; omega
theorem name_l (s : ByteArray) (from_ : Int) (e sl : Bool) (hf : 0 ≤ from_) (hm : s.size ≤ 140737488351232) (d : Nat) : ∀ (k : Nat) (i : Int), from_ ≤ i → i ≤ s.size → ((s.size : Int) - i).toNat = d → d < k →
  impl_tagger_name.l0 k from_ s i e sl = some (s.extract from_.toNat (nmF s e from_ i).toNat, s, nmF s e from_ i, e, sl) := by
 induction d with
 | zero =>
  intro k i h0 h1 hd hk
  obtain ⟨k, rfl⟩ : ∃ m, k = m + 1 := ⟨k - 1, by omega⟩
  have ho : ovr s i e = true := by simp [ovr, show (s.size : Int) ≤ i by omega]
  simp only [impl_tagger_name.l0]
  rw [isOver_f s i e sl (by omega), nmF_stop (.inr (by rw [ho]; simp))]
  simp only [Option.bind_some]
  rw [if_pos ho, if_pos hf, if_pos h0, if_pos h1]
 | succ d ih =>
  intro k i h0 h1 hd hk
  obtain ⟨k, rfl⟩ : ∃ m, k = m + 1 := ⟨k - 1, by omega⟩
  have hr := bt_range s i
  simp only [impl_tagger_name.l0]
  rw [isOver_f s i e sl (by omega)]
  simp only [Option.bind_some]
  by_cases ho : ovr s i e = true
  ·rw [if_pos ho, if_pos hf, if_pos h0, if_pos h1, nmF_stop (.inr (by rw [ho]; simp))]
  ·rw [if_neg ho, if_pos (by omega), if_pos (by omega), isBlankByte_f _ hr.1 hr.2]
   simp only [Option.bind_some]
   have hw : wrap64 (i + 1) = i + 1 := by unfold wrap64; omega
   have ho' : ovr s i e = false := by simpa using ho
   by_cases c1 : blk (bt s i) = true
   ·rw [if_pos c1, if_pos hf, if_pos h0, if_pos h1, nmF_stop (.inr (by simp [inNm, c1]))]
   ·rw [if_neg c1]
    have c1' : blk (bt s i) = false := by simpa using c1
    by_cases c2 : bt s i = 47
    ·rw [if_pos c2, if_pos hf, if_pos h0, if_pos h1, nmF_stop (.inr (by simp [inNm, c2]))]
    ·rw [if_neg c2]
     by_cases c3 : bt s i = 61
     ·rw [if_pos c3]
      by_cases c4 : i > from_
      ·rw [if_pos c4, if_pos hf, if_pos h0, if_pos h1, nmF_stop (.inr (by simp [inNm, c3]; omega))]
      ·have hi' : decide (from_ < i) = false := decide_eq_false c4
       rw [if_neg c4, hw, nmF_go (by omega) ho' (by simp only [inNm, c1', c3, hi']; rfl)]
       exact ih k (i + 1) (by omega) (by omega) (by omega) (by omega)
     ·rw [if_neg c3, hw, nmF_go (by omega) ho' (by simp [inNm, c1', c2, c3])]
      exact ih k (i + 1) (by omega) (by omega) (by omega) (by omega)
theorem name_f (s : ByteArray) (i : Int) (e sl : Bool) (h0 : 0 ≤ i) (h1 : i ≤ s.size) (hm : s.size ≤ 140737488351232) :
  impl_tagger_name.f (((s.size : Int) - i).toNat + 1) s i e sl = some (s.extract i.toNat (nmF s e i i).toNat, s, nmF s e i i, e, sl) := by
 unfold impl_tagger_name.f
 exact name_l s i e sl h0 hm _ _ i (Int.le_refl _) h1 rfl (Nat.lt_succ_self _)
def impl_tagger_value.f (s : ByteArray) (k : Int) (e sl : Bool) : Option (ByteArray × Bool × ByteArray × Int × Bool × Bool) :=
 if 0 ≤ k ∧ k ≤ s.size ∧ s.size ≤ 140737488351232 then
  if ovr s (pastB s k) e = false ∧ bt s (pastB s k) = 61 then
   if ovr s (pastB s (pastB s k + 1)) e = true then some (⟨#[]⟩, true, s, pastB s (pastB s k + 1), e, sl)
   else if bt s (pastB s (pastB s k + 1)) = 34 ∨ bt s (pastB s (pastB s k + 1)) = 39 then impl_tagger_quoted.f s (pastB s (pastB s k + 1)) e sl
   else some (s.extract (pastB s (pastB s k + 1)).toNat (plF s e (pastB s (pastB s k + 1))).toNat, true, s, plF s e (pastB s (pastB s k + 1)), e, sl)
  else some (⟨#[]⟩, true, s, pastB s k, e, sl)
 else none
set_option maxHeartbeats 2000000 in
set_option maxRecDepth 100000 in
theorem impl_tagger_value.calls (g : Nat) (s : ByteArray) (k : Int) (e sl : Bool) (r1 : ByteArray) (r2 : Bool) (r3 : ByteArray) (r4 : Int) (r5 r6 : Bool) (w0 w : World) (hI : IsS58 w0 w g s k e sl) (hB : Below w0.heap.size w0 w) (hF : impl_tagger_value.f s k e sl = some (r1, r2, r3, r4, r5, r6)) :
  Calls Try.prog 53 #[.pointer (some ⟨g, 0, none⟩)] w fun r w' => r = .returned (.tuple #[.string r1, .bool r2]) ∧ IsS58 w0 w' g r3 r4 r5 r6 ∧ Below w0.heap.size w0 w' ∧ KeepBut w w' g none := by
 unfold impl_tagger_value.f at hF
 split at hF
 case isFalse => cases hF
 case isTrue hc =>
 obtain ⟨h0, hs, hm⟩ := hc
 obtain ⟨b1, b2⟩ := pastB_le (s := s) _ k rfl hs
 have HF := Aside0.mk hF
 clear hF
 have HI := Aside0.mk hI
 have HK := Aside0.mk (KeepBut.refl w g none)
 have HB := Aside0.mk hB
 clear hI hB
 generalize hk1 : pastB s k = k1 at *
 have Hk1 := Aside0.mk hk1
 clear hk1
 have k10 : 0 ≤ k1 := by omega
 have hb1 : impl_tagger_blanks.f s k e sl = some (s, k1, e, sl) := by
  unfold impl_tagger_blanks.f; rw [if_pos ⟨h0, hs, hm⟩, Hk1.out]
 go_enter Try.func53, Try.ntmps53
 go_wp2_with ((go_at_call 96; (refine (impl_tagger_blanks.calls g s k e sl s k1 e sl w0 _ ?_ ?_ hb1).mono ?_); exact HI.out; exact HB.out; rintro r w1 ⟨rfl, hi, hb, hk⟩))
 have HI1 := Aside0.mk hi
 have HB1 := Aside0.mk hb
 have HK1 := Aside0.mk hk
 clear hi hb hk HI HB HK
 obtain ⟨hc0, hc1, hc2, hc3, hf0, hf1, hf2, hf3⟩ := tagger_cells HI1.out
 by_cases c1 : ovr s k1 e = true
 ·have hF2 := HF.out
  rw [if_neg (by rw [c1]; simp)] at hF2
  simp only [Option.some.injEq, Prod.mk.injEq] at hF2
  obtain ⟨rfl, rfl, rfl, rfl, rfl, rfl⟩ := hF2
  go_wp2
  go_quiet ((go_at_call 51; (refine (isOver_any g s k1 e sl w0 _ ?_ k10).mono ?_); exact HI1.out; rintro r w' ⟨rfl, ⟨nd, rfl⟩⟩; rw [c1]; exact ⟨rfl, _, World.drewN_drewN _ _ _⟩))
  go_wp2
  go_ret2
  exact ⟨rfl, HI1.out, pw_below_drewN HB1.out _, keep_drewN HK1.out _⟩
 replace c1 : ovr s k1 e = false := by simpa using c1
 have hlt := ovr_lt c1
 have p7 := eq_true k10
 have q7 := eq_true hlt
 have hx := bt_at s k1
 by_cases c2 : bt s k1 = 61
 case neg =>
  have c2b : (bt s k1 != 61) = true := bne_iff_ne.mpr c2
  have hF2 := HF.out
  rw [if_neg (fun h => c2 h.2)] at hF2
  simp only [Option.some.injEq, Prod.mk.injEq] at hF2
  obtain ⟨rfl, rfl, rfl, rfl, rfl, rfl⟩ := hF2
  clear c2
  go_wp2
  go_quiet ((go_at_call 51; (refine (isOver_any g s k1 e sl w0 _ ?_ k10).mono ?_); exact HI1.out; rintro r w' ⟨rfl, ⟨nd, rfl⟩⟩; rw [c1]; exact ⟨rfl, _, World.drewN_drewN _ _ _⟩))
  go_wp2
  go_ret2
  exact ⟨rfl, HI1.out, pw_below_drewN HB1.out _, keep_drewN HK1.out _⟩
 have c2b : (bt s k1 != 61) = false := by rw [c2]; rfl
 have HF1 : Aside0 _ := ⟨HF.out.symm.trans (if_pos ⟨c1, c2⟩)⟩
 clear HF
 have C2 := Aside0.mk c2
 clear c2
 go_wp2
 go_quiet ((go_at_call 51; (refine (isOver_any g s k1 e sl w0 _ ?_ k10).mono ?_); exact HI1.out; rintro r w' ⟨rfl, ⟨nd, rfl⟩⟩; rw [c1]; exact ⟨rfl, _, World.drewN_drewN _ _ _⟩))
 generalize hW : World.drewN w1 nq = w2
 have HI2 : Aside0 (IsS58 w0 w2 g s k1 e sl) := ⟨by rw [← hW]; exact HI1.out⟩
 have HB2 : Aside0 (Below w0.heap.size w0 w2) := ⟨by rw [← hW]; exact pw_below_drewN HB1.out _⟩
 have HK2 : Aside0 (KeepBut w w2 g none) := ⟨by rw [← hW]; exact keep_drewN HK1.out _⟩
 clear hW hc0 hc1 hc2 hc3 hf0 hf1 hf2 hf3
 obtain ⟨hc0, hc1, hc2, hc3, hf0, hf1, hf2, hf3⟩ := tagger_cells HI2.out
 obtain ⟨b3, b4⟩ := pastB_le (s := s) _ (k1 + 1) rfl (by omega)
 have hb2 : impl_tagger_blanks.f s (k1 + 1) e sl = some (s, pastB s (k1 + 1), e, sl) := by
  unfold impl_tagger_blanks.f; rw [if_pos ⟨by omega, by omega, hm⟩]
 have Hb2 := Aside0.mk hb2
 clear hb2
 go_wp2_with ((go_at_call 96; (refine (impl_tagger_blanks.calls g s (k1 + 1) e sl s (pastB s (k1 + 1)) e sl w0 _ ?_ ?_ Hb2.out).mono ?_); exact HI2.out.set_1 _; exact below_set HB2.out HI2.out.2; rintro r w3 ⟨rfl, hi, hb, hk⟩))
 generalize hk2 : pastB s (k1 + 1) = k2 at *
 have HF2 : Aside0 _ := HF1
 clear HF1 Hb2 hk2
 have HI3 := Aside0.mk hi
 have HB3 := Aside0.mk hb
 have HK3 := Aside0.mk ((HK2.out.set_ 1 _).trans hk (.inl rfl))
 clear hi hb hk HI1 HB1 HK1 HI2 HB2 HK2 hc0 hc1 hc2 hc3 hf0 hf1 hf2 hf3
 obtain ⟨hc0, hc1, hc2, hc3, hf0, hf1, hf2, hf3⟩ := tagger_cells HI3.out
 clear p7 q7 hx hlt
 have k20 : 0 ≤ k2 := by omega
 by_cases c3 : ovr s k2 e = true
 ·have hF2 := HF2.out.symm
  rw [if_pos c3] at hF2
  simp only [Option.some.injEq, Prod.mk.injEq] at hF2
  obtain ⟨rfl, rfl, rfl, rfl, rfl, rfl⟩ := hF2
  go_wp2_with ((go_at_call 51; (refine (isOver_any g s k2 e sl w0 _ ?_ k20).mono ?_); exact HI3.out; rintro r w' ⟨rfl, ⟨nd, rfl⟩⟩; rw [c3]))
  go_ret2
  exact ⟨rfl, HI3.out, pw_below_drewN HB3.out _, keep_drewN HK3.out _⟩
 replace c3 : ovr s k2 e = false := by simpa using c3
 have hlt := ovr_lt c3
 have p7 := eq_true k20
 have q7 := eq_true hlt
 have hx := bt_at s k2
 have HF3 : Aside0 _ := ⟨HF2.out.trans (if_neg (by rw [c3]; simp))⟩
 clear HF2
 go_wp2_with ((go_at_call 51; (refine (isOver_any g s k2 e sl w0 _ ?_ k20).mono ?_); exact HI3.out; rintro r w' ⟨rfl, ⟨nd, rfl⟩⟩; rw [c3]))
 generalize hW : World.drewN w3 nd = w4
 have HI4 : Aside0 (IsS58 w0 w4 g s k2 e sl) := ⟨by rw [← hW]; exact HI3.out⟩
 have HB4 : Aside0 (Below w0.heap.size w0 w4) := ⟨by rw [← hW]; exact pw_below_drewN HB3.out _⟩
 have HK4 : Aside0 (KeepBut w w4 g none) := ⟨by rw [← hW]; exact keep_drewN HK3.out _⟩
 clear hW hc0 hc1 hc2 hc3 hf0 hf1 hf2 hf3
 obtain ⟨hc0, hc1, hc2, hc3, hf0, hf1, hf2, hf3⟩ := tagger_cells HI4.out
 by_cases c4 : bt s k2 = 34 ∨ bt s k2 = 39
 ·have HF4 : Aside0 _ := ⟨HF3.out.trans (if_pos c4)⟩
  have hq := HF4.out.symm
  have Hq := Aside0.mk hq
  clear hq HF4 HF3
  by_cases c5 : bt s k2 = 34
  ·have c5b : (bt s k2 == 34) = true := beq_iff_eq.mpr c5
   clear c4 c5
   go_quiet (fail)
   generalize hW : World.drewN w4 nq = w5
   have HI5 : Aside0 (IsS58 w0 w5 g s k2 e sl) := ⟨by rw [← hW]; exact HI4.out⟩
   have HB5 : Aside0 (Below w0.heap.size w0 w5) := ⟨by rw [← hW]; exact pw_below_drewN HB4.out _⟩
   have HK5 : Aside0 (KeepBut w w5 g none) := ⟨by rw [← hW]; exact keep_drewN HK4.out _⟩
   clear hW hc0 hc1 hc2 hc3 hf0 hf1 hf2 hf3
   go_wp2_with ((go_at_call 97; (refine (impl_tagger_quoted.calls g s k2 e sl r1 r2 r3 r4 r5 r6 w0 _ HI5.out HB5.out Hq.out).mono ?_); rintro r w6 ⟨rfl, hi, hb, hk⟩))
   go_ret2
   exact ⟨rfl, hi, hb, HK5.out.trans hk (.inl rfl)⟩
  ·have c6 : bt s k2 = 39 := c4.resolve_left c5
   have c5b : (bt s k2 == 34) = false := beq_eq_false_iff_ne.mpr c5
   have c6b : (bt s k2 == 39) = true := beq_iff_eq.mpr c6
   clear c4 c5 c6
   go_quiet (fail)
   generalize hW : World.drewN w4 nq = w5
   have HI5 : Aside0 (IsS58 w0 w5 g s k2 e sl) := ⟨by rw [← hW]; exact HI4.out⟩
   have HB5 : Aside0 (Below w0.heap.size w0 w5) := ⟨by rw [← hW]; exact pw_below_drewN HB4.out _⟩
   have HK5 : Aside0 (KeepBut w w5 g none) := ⟨by rw [← hW]; exact keep_drewN HK4.out _⟩
   clear hW hc0 hc1 hc2 hc3 hf0 hf1 hf2 hf3
   go_wp2_with ((go_at_call 97; (refine (impl_tagger_quoted.calls g s k2 e sl r1 r2 r3 r4 r5 r6 w0 _ HI5.out HB5.out Hq.out).mono ?_); rintro r w6 ⟨rfl, hi, hb, hk⟩))
   go_ret2
   exact ⟨rfl, hi, hb, HK5.out.trans hk (.inl rfl)⟩
 have HF4 : Aside0 _ := ⟨HF3.out.trans (if_neg c4)⟩
 clear HF3
 have c5b : (bt s k2 == 34) = false := beq_eq_false_iff_ne.mpr (fun h => c4 (.inl h))
 have c6b : (bt s k2 == 39) = false := beq_eq_false_iff_ne.mpr (fun h => c4 (.inr h))
 clear c4
 go_quiet (fail)
 generalize hW : World.drewN w4 nq = w5
 have HI5 : Aside0 (IsS58 w0 w5 g s k2 e sl) := ⟨by rw [← hW]; exact HI4.out⟩
 have HB5 : Aside0 (Below w0.heap.size w0 w5) := ⟨by rw [← hW]; exact pw_below_drewN HB4.out _⟩
 have HK5 : Aside0 (KeepBut w w5 g none) := ⟨by rw [← hW]; exact keep_drewN HK4.out _⟩
 clear hW hc0 hc1 hc2 hc3 hf0 hf1 hf2 hf3
 obtain ⟨hc0, hc1, hc2, hc3, hf0, hf1, hf2, hf3⟩ := tagger_cells HI5.out
 go_wp2
 clear c5b c6b p7 q7 hx hlt c3
 have hF5 := HF4.out.symm
 simp only [Option.some.injEq, Prod.mk.injEq] at hF5
 obtain ⟨hr1, rfl, rfl, hr4, rfl, rfl⟩ := hF5
 have HR1 := Aside0.mk hr1
 have HR4 := Aside0.mk hr4
 clear hr1 hr4 HF4
 go_loopg [] (((s.size : Int) - k2).toNat) (fun kq wr => ∃ (j : Int), k2 ≤ j ∧ j ≤ s.size ∧ Aside0 (kq = ((s.size : Int) - j).toNat) ∧ Aside0 (IsS58 w0 wr g s j e sl) ∧ Aside0 (plF s e j = plF s e k2) ∧ Aside0 (KeepBut w wr g none) ∧ Aside0 (Below w0.heap.size w0 wr))
 case atStart => exact ⟨k2, Int.le_refl _, b4, ⟨rfl⟩, HI5, ⟨rfl⟩, HK5, HB5⟩
 case round =>
  clear HI5 HB5 HK5 HI4 HB4 HK4 HI3 HB3 HK3 hc0 hc1 hc2 hc3 hf0 hf1 hf2 hf3
  obtain ⟨j, j0, j1, HM, HT, HE, HK, HB⟩ := hrel
  obtain ⟨hc0, hc1, hc2, hc3, hf0, hf1, hf2, hf3⟩ := tagger_cells HT.out
  have jk : 0 ≤ j := by omega
  by_cases c1 : ovr s j e = true
  ·go_wp2
   go_quiet ((go_at_call 51; (refine (isOver_any g s j e sl w0 _ ?_ jk).mono ?_); exact HT.out; rintro r w' ⟨rfl, ⟨nd, rfl⟩⟩; rw [c1]; exact ⟨rfl, _, World.drewN_drewN _ _ _⟩))
   generalize hW : World.drewN wr nq = wx
   have HT2 : Aside0 (IsS58 w0 wx g s j e sl) := ⟨by rw [← hW]; exact HT.out⟩
   have HK2 : Aside0 (KeepBut w wx g none) := ⟨by rw [← hW]; exact HK.out⟩
   have HB2 : Aside0 (Below w0.heap.size w0 wx) := ⟨by rw [← hW]; exact pw_below_drewN HB.out _⟩
   clear hW hc0 hc1 hc2 hc3 hf0 hf1 hf2 hf3 HT HK HB
   obtain ⟨hc0, hc1, hc2, hc3, hf0, hf1, hf2, hf3⟩ := tagger_cells HT2.out
   go_wp2
   go_quiet (fail)
   go_wp2
   go_ret2
   exact ⟨by rw [← HR1.out, ← HE.out, plF_stop (by rw [c1]; simp)]; rfl, by rw [← HR4.out, ← HE.out, plF_stop (by rw [c1]; simp)]; exact HT2.out, pw_below_drewN HB2.out _, keep_drewN HK2.out _⟩
  ·replace c1 : ovr s j e = false := by simpa using c1
   have hlt := ovr_lt c1
   have p7 := eq_true jk
   have q7 := eq_true hlt
   have hx := bt_at s j
   have hr := bt_range s j
   by_cases c2 : blk (bt s j) = true
   ·go_wp2
    go_quiet (first | (go_at_call 51; (refine (isOver_any g s j e sl w0 _ ?_ jk).mono ?_); exact HT.out; rintro r w' ⟨rfl, ⟨nd, rfl⟩⟩; rw [c1]; exact ⟨rfl, _, World.drewN_drewN _ _ _⟩) | (go_at_call 93; (refine (isBlankByte_any (bt s j) hr.1 hr.2 _).mono ?_); rintro r w' ⟨rfl, ⟨nd, rfl⟩⟩; rw [c2]; exact ⟨rfl, _, World.drewN_drewN _ _ _⟩))
    clear p7 q7 hx hr hlt
    generalize hW : World.drewN wr nq = wx
    have HT2 : Aside0 (IsS58 w0 wx g s j e sl) := ⟨by rw [← hW]; exact HT.out⟩
    have HK2 : Aside0 (KeepBut w wx g none) := ⟨by rw [← hW]; exact HK.out⟩
    have HB2 : Aside0 (Below w0.heap.size w0 wx) := ⟨by rw [← hW]; exact pw_below_drewN HB.out _⟩
    clear hW hc0 hc1 hc2 hc3 hf0 hf1 hf2 hf3 HT HK HB
    obtain ⟨hc0, hc1, hc2, hc3, hf0, hf1, hf2, hf3⟩ := tagger_cells HT2.out
    go_wp2
    go_quiet (fail)
    go_wp2
    go_ret2
    exact ⟨by rw [← HR1.out, ← HE.out, plF_stop (by rw [c2]; simp)]; rfl, by rw [← HR4.out, ← HE.out, plF_stop (by rw [c2]; simp)]; exact HT2.out, pw_below_drewN HB2.out _, keep_drewN HK2.out _⟩
   ·replace c2 : blk (bt s j) = false := by simpa using c2
    go_wp2
    go_quiet (first | (go_at_call 51; (refine (isOver_any g s j e sl w0 _ ?_ jk).mono ?_); exact HT.out; rintro r w' ⟨rfl, ⟨nd, rfl⟩⟩; rw [c1]; exact ⟨rfl, _, World.drewN_drewN _ _ _⟩) | (go_at_call 93; (refine (isBlankByte_any (bt s j) hr.1 hr.2 _).mono ?_); rintro r w' ⟨rfl, ⟨nd, rfl⟩⟩; rw [c2]; exact ⟨rfl, _, World.drewN_drewN _ _ _⟩))
    generalize hW : World.drewN wr nq = wx
    have HT2 : Aside0 (IsS58 w0 wx g s j e sl) := ⟨by rw [← hW]; exact HT.out⟩
    have HK2 : Aside0 (KeepBut w wx g none) := ⟨by rw [← hW]; exact HK.out⟩
    have HB2 : Aside0 (Below w0.heap.size w0 wx) := ⟨by rw [← hW]; exact pw_below_drewN HB.out _⟩
    clear hW hc0 hc1 hc2 hc3 hf0 hf1 hf2 hf3 HT HK HB
    obtain ⟨hc0, hc1, hc2, hc3, hf0, hf1, hf2, hf3⟩ := tagger_cells HT2.out
    go_wp2
    go_roundg (((s.size : Int) - (j + 1)).toNat)
    case measure => have := HM.out; omega
    case rel => exact ⟨j + 1, by omega, by omega, ⟨rfl⟩, ⟨HT2.out.set_1 _⟩, ⟨by rw [← HE.out, plF_go hlt c1 c2]⟩, ⟨HK2.out.set_ _ _⟩, ⟨below_set HB2.out HT2.out.2⟩⟩
end Go.Proofs.Ytlocaaebgghkbaa.A
namespace Go.Proofs.Ytlocaaebgghkbaa.A
open Go.RowKit Go.Proofs.YtlocaaebgghkbaaW.PrintWords Go.Proofs.YtlocaaebgghkbaaW.PrintLast Go.Proofs.YtlocaaebgghkbaaW.PrintMore
attribute [local go_sem] max2_int min2_int max_two min_two max_three min_three max_four min_four   -- for this text's walks alone
set_option linter.unusedVariables false
set_option linter.unusedSimpArgs false
theorem nameEnd_l (s : ByteArray) (hm : s.size ≤ 140737488351232) (d : Nat) : ∀ (k : Nat) (i : Int), 0 ≤ i → i ≤ s.size → ((s.size : Int) - i).toNat = d → d < k → impl_nameEnd.l0 k s i = some (tnE s i) := by
 induction d with
 | zero =>
  intro k i h0 h1 hd hk
  obtain ⟨k, rfl⟩ : ∃ m, k = m + 1 := ⟨k - 1, by omega⟩
  simp only [impl_nameEnd.l0]
  rw [if_neg (by omega), tnE_stop (.inl (by omega))]
 | succ d ih =>
  intro k i h0 h1 hd hk
  obtain ⟨k, rfl⟩ : ∃ m, k = m + 1 := ⟨k - 1, by omega⟩
  have hr := bt_range s i
  simp only [impl_nameEnd.l0]
  rw [if_pos (by omega), if_pos h0, isBlankByte_f _ hr.1 hr.2]
  simp only [Option.bind_some]
  have hw : wrap64 (i + 1) = i + 1 := by unfold wrap64; omega
  by_cases c1 : blk (bt s i) = true
  ·rw [if_pos c1, tnE_stop (.inr (by simp [inTn, c1]))]
  rw [if_neg c1]
  have c1' : blk (bt s i) = false := by simpa using c1
  by_cases c2 : bt s i = 47
  ·rw [if_pos c2, tnE_stop (.inr (by simp [inTn, c2]))]
  rw [if_neg c2]
  by_cases c3 : bt s i = 62
  ·rw [if_pos c3, tnE_stop (.inr (by simp [inTn, c3]))]
  rw [if_neg c3, hw, tnE_go (by omega) (by simp [inTn, c1', c2, c3])]
  exact ih k (i + 1) (by omega) (by omega) (by omega) (by omega)
theorem nameEnd_f (s : ByteArray) (i : Int) (h0 : 0 ≤ i) (h1 : i ≤ s.size) (hm : s.size ≤ 140737488351232) :
  impl_nameEnd.f (((s.size : Int) - i).toNat + 1) s i = some (tnE s i) := by
 unfold impl_nameEnd.f
 exact nameEnd_l s hm _ _ i h0 h1 rfl (Nat.lt_succ_self _)
def tagL : Nat → ByteArray → Int → Bool → Option Int
 | 0, _, _, _ => none
 | n + 1, s, k, sl =>
  if 0 ≤ k ∧ k ≤ s.size ∧ s.size ≤ 140737488351232 then
   if ovr s (sepF s true k sl).1 true = true then (if (sepF s true k sl).1 ≥ s.size then some (-1) else some (sepF s true k sl).1)
   else (impl_tagger_value.f s (nmF s true (sepF s true k sl).1 (sepF s true k sl).1) true (sepF s true k sl).2).bind fun v =>
    if v.2.1 = true then (if v.2.2.1 = s ∧ v.2.2.2.2.1 = true then tagL n s v.2.2.2.1 v.2.2.2.2.2 else none) else some (-1)
  else none
def tagFrom (s : ByteArray) (k : Int) : Int := if k + 1 < (s.size : Int) ∧ bt s (k + 1) = 47 then k + 1 + 1 else k + 1
def impl_TagEnd.f (s : ByteArray) (k : Int) : Option Int :=
 if 0 ≤ k ∧ k < s.size ∧ bt s k = 60 ∧ s.size ≤ 140737488351232 then tagL (s.size + 1) s (tnE s (tagFrom s k)) false
 else if s.size ≤ 140737488351232 then some (-1) else none
set_option maxHeartbeats 2000000 in
set_option maxRecDepth 100000 in
theorem impl_TagEnd.calls (s : ByteArray) (k : Int) (r : Int) (w : World) (hF : impl_TagEnd.f s k = some r) :
  Calls Try.prog 11 #[.string s, .int .i64 k] w fun e w' => e = .returned (.int .i64 r) ∧ Below w.heap.size w w' := by
 have hm : s.size ≤ 140737488351232 := by
  unfold impl_TagEnd.f at hF
  split at hF
  ·rename_i h; exact h.2.2.2
  ·split at hF
   ·rename_i h; exact h
   ·cases hF
 have hu := Try.underlying58
 have hw1 : wrap64 ((s.size : Int) - 1) = (s.size : Int) - 1 := by unfold wrap64; omega
 by_cases h0 : 0 ≤ k ∧ k < s.size
 case neg =>
  have hr : r = -1 := by
   unfold impl_TagEnd.f at hF
   rw [if_neg (fun h => h0 ⟨h.1, h.2.1⟩), if_pos hm] at hF
   exact (Option.some.inj hF).symm
  subst hr
  have hin : impl_inRange.f k 0 ((s.size : Int) - 1) = some false := by
   unfold impl_inRange.f
   by_cases hk : k ≥ 0
   ·rw [if_pos hk, decide_eq_false (by omega)]
   ·rw [if_neg hk]
  go_enter Try.func11, Try.ntmps11
  go_wp2_with ((go_at_call 48; (with_reducible refine (impl_inRange.calls k 0 ((s.size : Int) - 1) false _ hin).mono ?_); rintro r w' ⟨rfl, ⟨nd, rfl⟩⟩))
  go_ret
  exact ⟨rfl, pw_below_drewN (Below.refl _ _) _⟩
 obtain ⟨k0, k1⟩ := h0
 have hin : impl_inRange.f k 0 ((s.size : Int) - 1) = some true := by
  unfold impl_inRange.f
  rw [if_pos (show k ≥ 0 from k0), decide_eq_true (by omega)]
 have p7 := eq_true k0
 have q7 := eq_true k1
 have hx := bt_at s k
 by_cases c1 : bt s k = 60
 case neg =>
  have hr : r = -1 := by
   unfold impl_TagEnd.f at hF
   rw [if_neg (fun h => c1 h.2.2.1), if_pos hm] at hF
   exact (Option.some.inj hF).symm
  subst hr
  have c1b : (bt s k != 60) = true := bne_iff_ne.mpr c1
  clear c1 hF
  go_enter Try.func11, Try.ntmps11
  go_wp2_with ((go_at_call 48; (with_reducible refine (impl_inRange.calls k 0 ((s.size : Int) - 1) true _ hin).mono ?_); rintro r w' ⟨rfl, ⟨nd, rfl⟩⟩))
  go_ret
  exact ⟨rfl, pw_below_drewN (Below.refl _ _) _⟩
 have c1b : (bt s k != 60) = false := by rw [c1]; rfl
 have HF : Aside0 (tagL (s.size + 1) s (tnE s (tagFrom s k)) false = some r) := ⟨by
  unfold impl_TagEnd.f at hF
  rw [if_pos ⟨k0, k1, c1, hm⟩] at hF
  exact hF⟩
 clear hF c1
 obtain ⟨f0, hf1, hf2⟩ : ∃ f0, tagFrom s k = f0 ∧ k + 1 ≤ f0 ∧ f0 ≤ s.size := by
  refine ⟨_, rfl, ?_⟩
  unfold tagFrom
  split <;> omega
 have hnE := nameEnd_f s f0 (by omega) hf2.2 hm
 have hlt1 := tnE_le (s := s) _ f0 rfl hf2.2
 rw [hf1] at HF
 generalize hn0 : tnE s f0 = n0 at *
 have HnE := Aside0.mk hnE
 have Hf1 := Aside0.mk hf1
 clear hnE hf1 hn0
 have hx1 := bt_at s (k + 1)
 by_cases c2 : k + 1 < (s.size : Int) ∧ bt s (k + 1) = 47
 ·have hf0 : f0 = k + 1 + 1 := by rw [← Hf1.out]; unfold tagFrom; rw [if_pos c2]
  obtain ⟨d1, d2⟩ := c2
  have d2b : (bt s (k + 1) == 47) = true := beq_iff_eq.mpr d2
  subst hf0
  clear d2
  have p8 : (0 ≤ k + 1) = True := eq_true (by omega)
  have q8 := eq_true d1
  go_enter Try.func11, Try.ntmps11
  go_wp2_with (first | (go_at_call 48; (with_reducible refine (impl_inRange.calls k 0 ((s.size : Int) - 1) true _ hin).mono ?_); rintro r w1 ⟨rfl, HD1⟩) | (go_at_call 49; (with_reducible refine (impl_nameEnd.calls _ s (k + 1 + 1) n0 _ HnE.out).mono ?_); rintro r w2 ⟨rfl, HD2⟩))
  clear p8 q8
  have hB2 : Below w.heap.size w w2 := by obtain ⟨n, rfl⟩ := HD2; exact pw_below_drewN HD1.below n
  have HS := Aside0.mk (IsS58.new w w2 s n0 true false hB2)
  have HBS := Aside0.mk (below_alloc hB2 (.cells #[.string s, .int .i64 n0, .bool true, .bool false] 58))
  clear hB2 HD1 HD2 p7 q7 hx hx1 c1b
  go_loopg [] (s.size + 1) (fun kq wr => ∃ (j : Int) (sl : Bool), Aside0 (tagL kq s j sl = some r) ∧ Aside0 (IsS58 w wr w2.heap.size s j true sl) ∧ Aside0 (Below w.heap.size w wr))
  case atStart => exact ⟨n0, false, HF, HS, HBS⟩
  case round =>
   clear HF HS HBS
   obtain ⟨j, sl, HA, HS, HBS⟩ := hrel
   cases gk with
   | zero => exact absurd HA.out (by simp [tagL])
   | succ n =>
   have H := HA.out
   clear HA
   simp only [tagL] at H
   split at H
   case isFalse => cases H
   case isTrue hg =>
   obtain ⟨j0, j1, _⟩ := hg
   obtain ⟨a1, a2⟩ := sepF_le (s := s) (e := true) _ j sl rfl j1
   have hsep : impl_tagger_separators.f s j true sl = some (s, (sepF s true j sl).1, true, (sepF s true j sl).2) := by
    unfold impl_tagger_separators.f; rw [if_pos ⟨j0, j1, hm⟩]
   generalize hja : (sepF s true j sl).1 = ja at *
   generalize hsa : (sepF s true j sl).2 = sa at *
   have Hsep := Aside0.mk hsep
   have HH := Aside0.mk H
   clear hsep hja hsa H
   have ja0 : 0 ≤ ja := by omega
   go_wp2_with ((go_at_call 50; (with_reducible refine (impl_tagger_separators.calls w2.heap.size s j true sl s ja true sa w _ HS.out HBS.out Hsep.out).mono ?_); rintro r w4 ⟨rfl, hi, hb, hk⟩))
   have HI4 := Aside0.mk hi
   have HB4 := Aside0.mk hb
   clear hi hb hk HS HBS
   by_cases co : ovr s ja true = true
   ·have H := HH.out
    rw [if_pos co] at H
    by_cases cz : ja ≥ (s.size : Int)
    ·rw [if_pos cz] at H
     obtain rfl := Option.some.inj H
     have cz' : decide ((s.size : Int) ≤ ja) = true := decide_eq_true cz
     clear cz H
     go_wp2_with ((go_at_call 51; (refine (isOver_any w2.heap.size s ja true sa w _ ?_ ja0).mono ?_); exact HI4.out; rintro r w5 ⟨rfl, HD5⟩; rw [co]; have HI5 : Aside0 (IsS58 w w5 w2.heap.size s ja true sa) := ⟨by obtain ⟨n, hn⟩ := HD5; rw [hn]; exact HI4.out.drewN n⟩; have HB5 : Aside0 (Below w.heap.size w w5) := ⟨by obtain ⟨n, hn⟩ := HD5; rw [hn]; exact pw_below_drewN HB4.out n⟩; clear HD5 HI4 HB4; obtain ⟨hc0, hc1, hc2, hc3, hf0, hf1, hf2, hf3⟩ := tagger_cells HI5.out))
     go_ret
     exact ⟨rfl, HB5.out⟩
    ·rw [if_neg cz] at H
     obtain rfl := Option.some.inj H
     have cz' : decide ((s.size : Int) ≤ ja) = false := decide_eq_false cz
     clear cz H
     go_wp2_with ((go_at_call 51; (refine (isOver_any w2.heap.size s ja true sa w _ ?_ ja0).mono ?_); exact HI4.out; rintro r w5 ⟨rfl, HD5⟩; rw [co]; have HI5 : Aside0 (IsS58 w w5 w2.heap.size s ja true sa) := ⟨by obtain ⟨n, hn⟩ := HD5; rw [hn]; exact HI4.out.drewN n⟩; have HB5 : Aside0 (Below w.heap.size w w5) := ⟨by obtain ⟨n, hn⟩ := HD5; rw [hn]; exact pw_below_drewN HB4.out n⟩; clear HD5 HI4 HB4; obtain ⟨hc0, hc1, hc2, hc3, hf0, hf1, hf2, hf3⟩ := tagger_cells HI5.out))
     go_ret
     exact ⟨rfl, HB5.out⟩
   ·replace co : ovr s ja true = false := by simpa using co
    have H := HH.out
    rw [if_neg (by rw [co]; simp)] at H
    obtain ⟨v, hv, H⟩ := Option.bind_eq_some_iff.mp H
    have Hv := Aside0.mk hv
    have HH2 := Aside0.mk H
    clear HH H hv
    obtain ⟨v1, ok, s', k', e', sl'⟩ := v
    have Hn := Aside0.mk (name_f s ja true sa ja0 a2 hm)
    generalize nmF s true ja ja = jn at *
    cases ok with
    | false =>
     have H := HH2.out
     rw [if_neg (by simp)] at H
     obtain rfl := Option.some.inj H
     clear HH2 H
     go_wp2_with (first | (go_at_call 51; (refine (isOver_any w2.heap.size s ja true sa w _ ?_ ja0).mono ?_); exact HI4.out; rintro r w5 ⟨rfl, ⟨n5, rfl⟩⟩; rw [co]) | (go_at_call 52; (refine (impl_tagger_name.calls _ w2.heap.size s ja true sa _ s jn true sa w _ ?_ ?_ Hn.out).mono ?_); exact HI4.out.drewN _; exact pw_below_drewN HB4.out _; rintro r w6 ⟨rfl, hi6, hb6, hk6⟩) | (go_at_call 53; (with_reducible refine (impl_tagger_value.calls w2.heap.size s jn true sa v1 false s' k' e' sl' w _ hi6 hb6 Hv.out).mono ?_); rintro r w7 ⟨rfl, hi7, hb7, hk7⟩))
     go_ret
     exact ⟨rfl, hb7⟩
    | true =>
     have H := HH2.out
     rw [if_pos rfl] at H
     split at H
     case isFalse => cases H
     case isTrue hg =>
     obtain ⟨hg1, hg2⟩ : s' = s ∧ e' = true := hg
     replace hg1 := hg1.symm
     replace hg2 := hg2.symm
     subst hg1 hg2
     have HH3 := Aside0.mk H
     clear HH2 H
     go_wp2_with (first | (go_at_call 51; (refine (isOver_any w2.heap.size s ja true sa w _ ?_ ja0).mono ?_); exact HI4.out; rintro r w5 ⟨rfl, ⟨n5, rfl⟩⟩; rw [co]) | (go_at_call 52; (refine (impl_tagger_name.calls _ w2.heap.size s ja true sa _ s jn true sa w _ ?_ ?_ Hn.out).mono ?_); exact HI4.out.drewN _; exact pw_below_drewN HB4.out _; rintro r w6 ⟨rfl, hi6, hb6, hk6⟩) | (go_at_call 53; (with_reducible refine (impl_tagger_value.calls w2.heap.size s jn true sa v1 true s k' true sl' w _ hi6 hb6 Hv.out).mono ?_); rintro r w7 ⟨rfl, hi7, hb7, hk7⟩))
     go_roundg n
     case measure => omega
     case rel => exact ⟨k', sl', HH3, ⟨hi7⟩, ⟨hb7⟩⟩
 have hf0 : f0 = k + 1 := by rw [← Hf1.out]; unfold tagFrom; rw [if_neg c2]
 subst hf0
 by_cases d1 : k + 1 < (s.size : Int)
 ·have d2 : ¬ bt s (k + 1) = 47 := fun h => c2 ⟨d1, h⟩
  have d2b : (bt s (k + 1) == 47) = false := beq_eq_false_iff_ne.mpr d2
  clear d2 c2
  have p8 : (0 ≤ k + 1) = True := eq_true (by omega)
  have q8 := eq_true d1
  go_enter Try.func11, Try.ntmps11
  go_wp2_with (first | (go_at_call 48; (with_reducible refine (impl_inRange.calls k 0 ((s.size : Int) - 1) true _ hin).mono ?_); rintro r w1 ⟨rfl, HD1⟩) | (go_at_call 49; (with_reducible refine (impl_nameEnd.calls _ s (k + 1) n0 _ HnE.out).mono ?_); rintro r w2 ⟨rfl, HD2⟩))
  clear p8 q8
  have hB2 : Below w.heap.size w w2 := by obtain ⟨n, rfl⟩ := HD2; exact pw_below_drewN HD1.below n
  have HS := Aside0.mk (IsS58.new w w2 s n0 true false hB2)
  have HBS := Aside0.mk (below_alloc hB2 (.cells #[.string s, .int .i64 n0, .bool true, .bool false] 58))
  clear hB2 HD1 HD2 p7 q7 hx hx1 c1b
  go_loopg [] (s.size + 1) (fun kq wr => ∃ (j : Int) (sl : Bool), Aside0 (tagL kq s j sl = some r) ∧ Aside0 (IsS58 w wr w2.heap.size s j true sl) ∧ Aside0 (Below w.heap.size w wr))
  case atStart => exact ⟨n0, false, HF, HS, HBS⟩
  case round =>
   clear HF HS HBS
   obtain ⟨j, sl, HA, HS, HBS⟩ := hrel
   cases gk with
   | zero => exact absurd HA.out (by simp [tagL])
   | succ n =>
   have H := HA.out
   clear HA
   simp only [tagL] at H
   split at H
   case isFalse => cases H
   case isTrue hg =>
   obtain ⟨j0, j1, _⟩ := hg
   obtain ⟨a1, a2⟩ := sepF_le (s := s) (e := true) _ j sl rfl j1
   have hsep : impl_tagger_separators.f s j true sl = some (s, (sepF s true j sl).1, true, (sepF s true j sl).2) := by
    unfold impl_tagger_separators.f; rw [if_pos ⟨j0, j1, hm⟩]
   generalize hja : (sepF s true j sl).1 = ja at *
   generalize hsa : (sepF s true j sl).2 = sa at *
   have Hsep := Aside0.mk hsep
   have HH := Aside0.mk H
   clear hsep hja hsa H
   have ja0 : 0 ≤ ja := by omega
   go_wp2_with ((go_at_call 50; (with_reducible refine (impl_tagger_separators.calls w2.heap.size s j true sl s ja true sa w _ HS.out HBS.out Hsep.out).mono ?_); rintro r w4 ⟨rfl, hi, hb, hk⟩))
   have HI4 := Aside0.mk hi
   have HB4 := Aside0.mk hb
   clear hi hb hk HS HBS
   by_cases co : ovr s ja true = true
   ·have H := HH.out
    rw [if_pos co] at H
    by_cases cz : ja ≥ (s.size : Int)
    ·rw [if_pos cz] at H
     obtain rfl := Option.some.inj H
     have cz' : decide ((s.size : Int) ≤ ja) = true := decide_eq_true cz
     clear cz H
     go_wp2_with ((go_at_call 51; (refine (isOver_any w2.heap.size s ja true sa w _ ?_ ja0).mono ?_); exact HI4.out; rintro r w5 ⟨rfl, HD5⟩; rw [co]; have HI5 : Aside0 (IsS58 w w5 w2.heap.size s ja true sa) := ⟨by obtain ⟨n, hn⟩ := HD5; rw [hn]; exact HI4.out.drewN n⟩; have HB5 : Aside0 (Below w.heap.size w w5) := ⟨by obtain ⟨n, hn⟩ := HD5; rw [hn]; exact pw_below_drewN HB4.out n⟩; clear HD5 HI4 HB4; obtain ⟨hc0, hc1, hc2, hc3, hf0, hf1, hf2, hf3⟩ := tagger_cells HI5.out))
     go_ret
     exact ⟨rfl, HB5.out⟩
    ·rw [if_neg cz] at H
     obtain rfl := Option.some.inj H
     have cz' : decide ((s.size : Int) ≤ ja) = false := decide_eq_false cz
     clear cz H
     go_wp2_with ((go_at_call 51; (refine (isOver_any w2.heap.size s ja true sa w _ ?_ ja0).mono ?_); exact HI4.out; rintro r w5 ⟨rfl, HD5⟩; rw [co]; have HI5 : Aside0 (IsS58 w w5 w2.heap.size s ja true sa) := ⟨by obtain ⟨n, hn⟩ := HD5; rw [hn]; exact HI4.out.drewN n⟩; have HB5 : Aside0 (Below w.heap.size w w5) := ⟨by obtain ⟨n, hn⟩ := HD5; rw [hn]; exact pw_below_drewN HB4.out n⟩; clear HD5 HI4 HB4; obtain ⟨hc0, hc1, hc2, hc3, hf0, hf1, hf2, hf3⟩ := tagger_cells HI5.out))
     go_ret
     exact ⟨rfl, HB5.out⟩
   ·replace co : ovr s ja true = false := by simpa using co
    have H := HH.out
    rw [if_neg (by rw [co]; simp)] at H
    obtain ⟨v, hv, H⟩ := Option.bind_eq_some_iff.mp H
    have Hv := Aside0.mk hv
    have HH2 := Aside0.mk H
    clear HH H hv
    obtain ⟨v1, ok, s', k', e', sl'⟩ := v
    have Hn := Aside0.mk (name_f s ja true sa ja0 a2 hm)
    generalize nmF s true ja ja = jn at *
    cases ok with
    | false =>
     have H := HH2.out
     rw [if_neg (by simp)] at H
     obtain rfl := Option.some.inj H
     clear HH2 H
     go_wp2_with (first | (go_at_call 51; (refine (isOver_any w2.heap.size s ja true sa w _ ?_ ja0).mono ?_); exact HI4.out; rintro r w5 ⟨rfl, ⟨n5, rfl⟩⟩; rw [co]) | (go_at_call 52; (refine (impl_tagger_name.calls _ w2.heap.size s ja true sa _ s jn true sa w _ ?_ ?_ Hn.out).mono ?_); exact HI4.out.drewN _; exact pw_below_drewN HB4.out _; rintro r w6 ⟨rfl, hi6, hb6, hk6⟩) | (go_at_call 53; (with_reducible refine (impl_tagger_value.calls w2.heap.size s jn true sa v1 false s' k' e' sl' w _ hi6 hb6 Hv.out).mono ?_); rintro r w7 ⟨rfl, hi7, hb7, hk7⟩))
     go_ret
     exact ⟨rfl, hb7⟩
    | true =>
     have H := HH2.out
     rw [if_pos rfl] at H
     split at H
     case isFalse => cases H
     case isTrue hg =>
     obtain ⟨hg1, hg2⟩ : s' = s ∧ e' = true := hg
     replace hg1 := hg1.symm
     replace hg2 := hg2.symm
     subst hg1 hg2
     have HH3 := Aside0.mk H
     clear HH2 H
     go_wp2_with (first | (go_at_call 51; (refine (isOver_any w2.heap.size s ja true sa w _ ?_ ja0).mono ?_); exact HI4.out; rintro r w5 ⟨rfl, ⟨n5, rfl⟩⟩; rw [co]) | (go_at_call 52; (refine (impl_tagger_name.calls _ w2.heap.size s ja true sa _ s jn true sa w _ ?_ ?_ Hn.out).mono ?_); exact HI4.out.drewN _; exact pw_below_drewN HB4.out _; rintro r w6 ⟨rfl, hi6, hb6, hk6⟩) | (go_at_call 53; (with_reducible refine (impl_tagger_value.calls w2.heap.size s jn true sa v1 true s k' true sl' w _ hi6 hb6 Hv.out).mono ?_); rintro r w7 ⟨rfl, hi7, hb7, hk7⟩))
     go_roundg n
     case measure => omega
     case rel => exact ⟨k', sl', HH3, ⟨hi7⟩, ⟨hb7⟩⟩
 ·clear c2
  have d1b : decide (k + 1 < (s.size : Int)) = false := decide_eq_false d1
  go_enter Try.func11, Try.ntmps11
  go_wp2_with (first | (go_at_call 48; (with_reducible refine (impl_inRange.calls k 0 ((s.size : Int) - 1) true _ hin).mono ?_); rintro r w1 ⟨rfl, HD1⟩) | (go_at_call 49; (with_reducible refine (impl_nameEnd.calls _ s (k + 1) n0 _ HnE.out).mono ?_); rintro r w2 ⟨rfl, HD2⟩))
  have hB2 : Below w.heap.size w w2 := by obtain ⟨n, rfl⟩ := HD2; exact pw_below_drewN HD1.below n
  have HS := Aside0.mk (IsS58.new w w2 s n0 true false hB2)
  have HBS := Aside0.mk (below_alloc hB2 (.cells #[.string s, .int .i64 n0, .bool true, .bool false] 58))
  clear hB2 HD1 HD2 p7 q7 hx hx1 c1b
  go_loopg [] (s.size + 1) (fun kq wr => ∃ (j : Int) (sl : Bool), Aside0 (tagL kq s j sl = some r) ∧ Aside0 (IsS58 w wr w2.heap.size s j true sl) ∧ Aside0 (Below w.heap.size w wr))
  case atStart => exact ⟨n0, false, HF, HS, HBS⟩
  case round =>
   clear HF HS HBS
   obtain ⟨j, sl, HA, HS, HBS⟩ := hrel
   cases gk with
   | zero => exact absurd HA.out (by simp [tagL])
   | succ n =>
   have H := HA.out
   clear HA
   simp only [tagL] at H
   split at H
   case isFalse => cases H
   case isTrue hg =>
   obtain ⟨j0, j1, _⟩ := hg
   obtain ⟨a1, a2⟩ := sepF_le (s := s) (e := true) _ j sl rfl j1
   have hsep : impl_tagger_separators.f s j true sl = some (s, (sepF s true j sl).1, true, (sepF s true j sl).2) := by
    unfold impl_tagger_separators.f; rw [if_pos ⟨j0, j1, hm⟩]
   generalize hja : (sepF s true j sl).1 = ja at *
   generalize hsa : (sepF s true j sl).2 = sa at *
   have Hsep := Aside0.mk hsep
   have HH := Aside0.mk H
   clear hsep hja hsa H
   have ja0 : 0 ≤ ja := by omega
   go_wp2_with ((go_at_call 50; (with_reducible refine (impl_tagger_separators.calls w2.heap.size s j true sl s ja true sa w _ HS.out HBS.out Hsep.out).mono ?_); rintro r w4 ⟨rfl, hi, hb, hk⟩))
   have HI4 := Aside0.mk hi
   have HB4 := Aside0.mk hb
   clear hi hb hk HS HBS
   by_cases co : ovr s ja true = true
   ·have H := HH.out
    rw [if_pos co] at H
    by_cases cz : ja ≥ (s.size : Int)
    ·rw [if_pos cz] at H
     obtain rfl := Option.some.inj H
     have cz' : decide ((s.size : Int) ≤ ja) = true := decide_eq_true cz
     clear cz H
     go_wp2_with ((go_at_call 51; (refine (isOver_any w2.heap.size s ja true sa w _ ?_ ja0).mono ?_); exact HI4.out; rintro r w5 ⟨rfl, HD5⟩; rw [co]; have HI5 : Aside0 (IsS58 w w5 w2.heap.size s ja true sa) := ⟨by obtain ⟨n, hn⟩ := HD5; rw [hn]; exact HI4.out.drewN n⟩; have HB5 : Aside0 (Below w.heap.size w w5) := ⟨by obtain ⟨n, hn⟩ := HD5; rw [hn]; exact pw_below_drewN HB4.out n⟩; clear HD5 HI4 HB4; obtain ⟨hc0, hc1, hc2, hc3, hf0, hf1, hf2, hf3⟩ := tagger_cells HI5.out))
     go_ret
     exact ⟨rfl, HB5.out⟩
    ·rw [if_neg cz] at H
     obtain rfl := Option.some.inj H
     have cz' : decide ((s.size : Int) ≤ ja) = false := decide_eq_false cz
     clear cz H
     go_wp2_with ((go_at_call 51; (refine (isOver_any w2.heap.size s ja true sa w _ ?_ ja0).mono ?_); exact HI4.out; rintro r w5 ⟨rfl, HD5⟩; rw [co]; have HI5 : Aside0 (IsS58 w w5 w2.heap.size s ja true sa) := ⟨by obtain ⟨n, hn⟩ := HD5; rw [hn]; exact HI4.out.drewN n⟩; have HB5 : Aside0 (Below w.heap.size w w5) := ⟨by obtain ⟨n, hn⟩ := HD5; rw [hn]; exact pw_below_drewN HB4.out n⟩; clear HD5 HI4 HB4; obtain ⟨hc0, hc1, hc2, hc3, hf0, hf1, hf2, hf3⟩ := tagger_cells HI5.out))
     go_ret
     exact ⟨rfl, HB5.out⟩
   ·replace co : ovr s ja true = false := by simpa using co
    have H := HH.out
    rw [if_neg (by rw [co]; simp)] at H
    obtain ⟨v, hv, H⟩ := Option.bind_eq_some_iff.mp H
    have Hv := Aside0.mk hv
    have HH2 := Aside0.mk H
    clear HH H hv
    obtain ⟨v1, ok, s', k', e', sl'⟩ := v
    have Hn := Aside0.mk (name_f s ja true sa ja0 a2 hm)
    generalize nmF s true ja ja = jn at *
    cases ok with
    | false =>
     have H := HH2.out
     rw [if_neg (by simp)] at H
     obtain rfl := Option.some.inj H
     clear HH2 H
     go_wp2_with (first | (go_at_call 51; (refine (isOver_any w2.heap.size s ja true sa w _ ?_ ja0).mono ?_); exact HI4.out; rintro r w5 ⟨rfl, ⟨n5, rfl⟩⟩; rw [co]) | (go_at_call 52; (refine (impl_tagger_name.calls _ w2.heap.size s ja true sa _ s jn true sa w _ ?_ ?_ Hn.out).mono ?_); exact HI4.out.drewN _; exact pw_below_drewN HB4.out _; rintro r w6 ⟨rfl, hi6, hb6, hk6⟩) | (go_at_call 53; (with_reducible refine (impl_tagger_value.calls w2.heap.size s jn true sa v1 false s' k' e' sl' w _ hi6 hb6 Hv.out).mono ?_); rintro r w7 ⟨rfl, hi7, hb7, hk7⟩))
     go_ret
     exact ⟨rfl, hb7⟩
    | true =>
     have H := HH2.out
     rw [if_pos rfl] at H
     split at H
     case isFalse => cases H
     case isTrue hg =>
     obtain ⟨hg1, hg2⟩ : s' = s ∧ e' = true := hg
     replace hg1 := hg1.symm
     replace hg2 := hg2.symm
     subst hg1 hg2
     have HH3 := Aside0.mk H
     clear HH2 H
     go_wp2_with (first | (go_at_call 51; (refine (isOver_any w2.heap.size s ja true sa w _ ?_ ja0).mono ?_); exact HI4.out; rintro r w5 ⟨rfl, ⟨n5, rfl⟩⟩; rw [co]) | (go_at_call 52; (refine (impl_tagger_name.calls _ w2.heap.size s ja true sa _ s jn true sa w _ ?_ ?_ Hn.out).mono ?_); exact HI4.out.drewN _; exact pw_below_drewN HB4.out _; rintro r w6 ⟨rfl, hi6, hb6, hk6⟩) | (go_at_call 53; (with_reducible refine (impl_tagger_value.calls w2.heap.size s jn true sa v1 true s k' true sl' w _ hi6 hb6 Hv.out).mono ?_); rintro r w7 ⟨rfl, hi7, hb7, hk7⟩))
     go_roundg n
     case measure => omega
     case rel => exact ⟨k', sl', HH3, ⟨hi7⟩, ⟨hb7⟩⟩
end Go.Proofs.Ytlocaaebgghkbaa.A
namespace Go.Proofs.Ytlocaaebgghkbaa.A
open Go.RowKit Go.Proofs.YtlocaaebgghkbaaW.PrintWords Go.Proofs.YtlocaaebgghkbaaW.PrintLast Go.Proofs.YtlocaaebgghkbaaW.PrintMore
attribute [local go_sem] max2_int min2_int max_two min_two max_three min_three max_four min_four   -- for this text's walks alone
set_option linter.unusedVariables false
set_option linter.unusedSimpArgs false
def TxtRow (w : World) (b : Nat) (L : List Int) : Prop := L.length ≤ 9223372036854775807 ∧ ∃ C : Array Value, w.heap[b]? = some (.cells C 5 (C.size, C.size + 1)) ∧ L.length ≤ C.size ∧ ∀ j, j < L.length → C[j]? = some (.int .u8 (L.getD j 0))
theorem TxtRow.new (w : World) (s : ByteArray) (hs : s.size ≤ 9223372036854775807) : TxtRow (Lib.bytesWorld w 5 s) w.heap.size (bytesOf s) := by
 refine ⟨by rw [bytesOf_length]; exact hs, Lib.bytesCells w 5 s, Lib.bytesWorld_at_new w _ s, ?_, fun j hj => ?_⟩
 ·rw [bytesOf_length]; simp [Lib.bytesCells]
 ·rw [bytesOf_length] at hj
  have h' : j < s.data.toList.length := by rw [data_length]; exact hj
  have h2 : j < s.data.size := hj
  unfold Lib.bytesCells
  rw [Array.getElem?_append_left (by simpa using h2)]
  simp only [bytesOf, List.getD_eq_getElem?_getD, List.getElem?_map, List.getElem?_eq_getElem h', Array.getElem?_map, Array.getElem?_eq_getElem h2, Option.map_some, Option.getD_some, Array.getElem_toList]
theorem TxtRow.cell {w : World} {b : Nat} {L : List Int} (h : TxtRow w b L) (i : Nat) (hi : i < L.length) : w.cell? ⟨b, i, none⟩ = some (.int .u8 (L.getD i 0)) := by
 obtain ⟨_, C, hC, _, h2⟩ := h
 simp [World.cell?, hC, h2 i hi]
theorem TxtRow.frozen {w : World} {b : Nat} {L : List Int} (h : TxtRow w b L) (i : Nat) (hi : i < L.length) : w.frozen? ⟨b, i, none⟩ = false := by
 obtain ⟨_, C, hC, h1, h2⟩ := h
 simp [World.frozen?, hC]
 omega
theorem TxtRow.set {w : World} {b : Nat} {L : List Int} (h : TxtRow w b L) (i : Nat) (hi : i < L.length) (x : Int) : TxtRow (w.setCell ⟨b, i, none⟩ (.int .u8 x)) b (L.set i x) := by
 obtain ⟨h0, C, hC, h1, h2⟩ := h
 refine ⟨by simpa using h0, C.setIfInBounds i (.int .u8 x), ?_, by simpa using h1, fun j hj => ?_⟩
 ·simp [World.setCell, Array.getElem?_modify, hC]
 ·rw [List.length_set] at hj
  rw [Array.getElem?_setIfInBounds, List.getD_eq_getElem?_getD, List.getElem?_set]
  by_cases hij : i = j
  ·subst hij
   have : i < C.size := by omega
   simp [hi, this]
  ·simp only [hij, if_false]
   rw [h2 j hj, List.getD_eq_getElem?_getD]
theorem TxtRow.reads {w : World} {b : Nat} {L : List Int} (h : TxtRow w b L) : ReadsInt w .u8 (some ⟨b, 0, none⟩) L.length L := by
 refine ⟨rfl, h.1, fun _ => ⟨_, rfl, fun j hj => ?_⟩⟩
 rw [add_plain, h.cell j hj]
theorem TxtRow.drew {w : World} {b : Nat} {L : List Int} (h : TxtRow w b L) (n : Nat) : TxtRow (w.drewN n) b L := h
def lowB (b : Int) : Int := if 65 ≤ b ∧ b ≤ 90 then b + 32 else b
def lowL (L : List Int) (i : Nat) : List Int := (L.take i).map lowB ++ L.drop i
theorem lowL_length (L : List Int) (i : Nat) : (lowL L i).length = L.length := by simp [lowL]; omega
theorem lowL_getD (L : List Int) (i : Nat) (h : i < L.length) : (lowL L i).getD i 0 = L.getD i 0 := by
 unfold lowL
 rw [List.getD_eq_getElem?_getD, List.getElem?_append_right (by simp; omega), List.getElem?_drop, List.getD_eq_getElem?_getD]
 congr 2
 simp; omega
theorem lowL_set (L : List Int) (i : Nat) (h : i < L.length) : (lowL L i).set i (lowB (L.getD i 0)) = lowL L (i + 1) := by
 unfold lowL
 rw [List.set_append, if_neg (by simp; omega)]
 rw [List.take_succ_eq_append_getElem h, List.map_append, List.append_assoc]
 congr 1
 rw [List.drop_eq_getElem_cons h, List.length_map, List.length_take, Nat.min_eq_left (Nat.le_of_lt h), Nat.sub_self, List.set_cons_zero]
 simp [Nat.min_eq_left (Nat.le_of_lt h), List.getD_eq_getElem?_getD, List.getElem?_eq_getElem h]
theorem lowL_same (L : List Int) (i : Nat) (h : i < L.length) (hb : ¬ (65 ≤ L.getD i 0 ∧ L.getD i 0 ≤ 90)) : lowL L i = lowL L (i + 1) := by
 rw [← lowL_set L i h]
 unfold lowB
 rw [if_neg hb, ← lowL_getD L i h]
 apply List.ext_getElem?
 intro j
 rw [List.getElem?_set]
 by_cases hij : i = j
 ·subst hij
  have : i < (lowL L i).length := by rw [lowL_length]; exact h
  simp [this, List.getD_eq_getElem?_getD]
 ·simp [hij]
theorem bytesOf_bound (s : ByteArray) (i : Nat) (h : i < (bytesOf s).length) : 0 ≤ (bytesOf s).getD i 0 ∧ (bytesOf s).getD i 0 ≤ 255 := by
 rw [List.getD_eq_getElem?_getD, List.getElem?_eq_getElem h]
 simp only [bytesOf, List.getElem_map, Option.getD_some]
 have := (s.data.toList[i]'(by rw [data_length]; rw [bytesOf_length] at h; exact h)).toNat_lt
 omega
theorem u8_wrap {x : Int} (h0 : 0 ≤ x) (h1 : x ≤ 255) : IntKind.u8.wrap x = x := by
 have e1 : (2 : Int) ^ IntKind.u8.bits = 256 := rfl
 have e2 : IntKind.u8.signed = false := rfl
 simp only [IntKind.wrap, e1, e2]
 simp
 omega
theorem txt_C {w : World} {b : Nat} {L : List Int} (h : TxtRow w b L) : Kd.C (Kd.int .u8) w (some ⟨b, 0, none⟩) L.length L := by
 refine ⟨rfl, h.1, fun _ => ⟨_, rfl, fun j x hx => ?_⟩⟩
 have hjl : j < L.length := (List.getElem?_eq_some_iff.1 hx).1
 have hc := h.cell j hjl
 rw [List.getD_eq_getElem?_getD, hx, Option.getD_some] at hc
 refine ⟨[.int .u8 x], rfl, rfl, fun i u hu => ?_⟩
 cases i with
 | zero =>
  obtain rfl := Option.some.inj hu
  rw [add_plain]
  simpa [Kd.int, Kd.scalar] using hc
 | succ i => simp at hu
def spec_Small.f (a0 : ByteArray) : Option ByteArray := if a0.size ≤ 140737488355328 then some (strOfNums ((bytesOf a0).map lowB)) else none
set_option maxHeartbeats 2000000 in
set_option maxRecDepth 100000 in
theorem spec_Small.calls (a0 : ByteArray) (r : ByteArray) (w : World) (h : spec_Small.f a0 = some r) :
  Calls Try.prog 61 #[.string a0] w fun e w' => e = .returned (.string r) ∧ Below w.heap.size w w' := by
 unfold spec_Small.f at h
 have hs : a0.size ≤ 140737488355328 := by
  by_cases hs : a0.size ≤ 140737488355328
  ·exact hs
  ·rw [if_neg hs] at h; cases h
 rw [if_pos hs] at h
 obtain rfl := Option.some.inj h
 clear h
 have hcv := print_bytes (P := Try.prog) 9 44 5 Try.underlying9 Try.underlying44 Try.underlying5 a0 w
 have HT := Aside0.mk (TxtRow.new w a0 (by omega))
 have HB := Aside0.mk (bytes_below (Below.refl _ _) (Nat.le_refl _) 5 a0 : Below w.heap.size w (Lib.bytesWorld w 5 a0))
 generalize Lib.bytesWorld w 5 a0 = w2 at hcv HT HB
 generalize grownCap w a0.size 0 5 = cp at hcv
 have HBN := Aside0.mk (bytesOf_bound a0)
 have HLN := Aside0.mk (bytesOf_length a0)
 go_enter Try.func61, Try.ntmps61
 go_wp2
 go_loopg [4] a0.size (fun kq v4 wr => ∃ j : Int, v4 = .int .i64 j ∧ 0 ≤ j ∧ j ≤ (a0.size : Int) ∧ Aside0 (kq = a0.size - j.toNat) ∧ Aside0 (TxtRow wr w.heap.size (lowL (bytesOf a0) j.toNat)) ∧ Aside0 (Below w.heap.size w wr))
 case atStart => exact ⟨0, rfl, Int.le_refl _, by omega, ⟨rfl⟩, ⟨by simpa [lowL] using HT.out⟩, HB⟩
 case round =>
  obtain ⟨j, rfl, j0, hj, HM, HX, HW⟩ := hrel
  clear HT HB
  by_cases hlt : j < (a0.size : Int)
  ·have hjn : j.toNat < (bytesOf a0).length := by rw [HLN.out]; omega
   have hjl : j.toNat < (lowL (bytesOf a0) j.toNat).length := by rw [lowL_length]; exact hjn
   have hcell := HX.out.cell j.toNat hjl
   rw [lowL_getD _ _ hjn] at hcell
   have hfz := HX.out.frozen j.toNat hjl
   have hbd := HBN.out j.toNat hjn
   have HS := Aside0.mk (lowL_set (bytesOf a0) j.toNat hjn)
   have HE := Aside0.mk (lowL_same (bytesOf a0) j.toNat hjn)
   have HXS := Aside0.mk (fun x => HX.out.set j.toNat hjl x)
   generalize hv : (bytesOf a0).getD j.toNat 0 = v at hcell hbd HS HE
   have Hv := Aside0.mk hv
   clear hv hjn hjl
   have p7 := eq_true j0
   have q7 := eq_true hlt
   by_cases h1 : v ≥ 65
   ·by_cases h2 : v ≤ 90
    ·have h1b := decide_eq_true h1
     have h2b := decide_eq_true h2
     have hw : IntKind.u8.wrap (v + 32) = v + 32 := u8_wrap (by omega) (by omega)
     go_wp2
     go_roundg (a0.size - (j + 1).toNat)
     case measure => have := HM.out; omega
     case rel => exact ⟨j + 1, rfl, by omega, by omega, ⟨rfl⟩, ⟨by rw [show (j + 1).toNat = j.toNat + 1 by omega, ← HS.out]; unfold lowB; rw [if_pos ⟨h1, h2⟩]; exact HXS.out _⟩, ⟨below_set HW.out (Nat.le_refl _)⟩⟩
    ·have h1b := decide_eq_true h1
     have h2b := decide_eq_false h2
     go_wp2
     go_roundg (a0.size - (j + 1).toNat)
     case measure => have := HM.out; omega
     case rel => exact ⟨j + 1, rfl, by omega, by omega, ⟨rfl⟩, ⟨by rw [show (j + 1).toNat = j.toNat + 1 by omega, ← HE.out (by omega)]; exact HX.out⟩, HW⟩
   ·have h1b := decide_eq_false h1
    go_wp2
    go_roundg (a0.size - (j + 1).toNat)
    case measure => have := HM.out; omega
    case rel => exact ⟨j + 1, rfl, by omega, by omega, ⟨rfl⟩, ⟨by rw [show (j + 1).toNat = j.toNat + 1 by omega, ← HE.out (by omega)]; exact HX.out⟩, HW⟩
  ·have hje : j.toNat = (bytesOf a0).length := by rw [HLN.out]; omega
   have hX2 := HX.out
   rw [hje] at hX2
   have hl2 : lowL (bytesOf a0) (bytesOf a0).length = (bytesOf a0).map lowB := by simp [lowL]
   rw [hl2] at hX2
   have hback := string_of_reads (P := Try.prog) (src := 44) (dst := 9) (c := cp) Try.underlying44 Try.underlying5 Try.underlying9 hX2.reads
   rw [List.length_map, HLN.out] at hback
   clear hX2 hje hl2
   go_wp2
   go_ret
   exact ⟨rfl, HW.out⟩
end Go.Proofs.Ytlocaaebgghkbaa.A
namespace Go.Proofs.Ytlocaaebgghkbaa.A
open Go.RowKit Go.Proofs.YtlocaaebgghkbaaW.PrintWords Go.Proofs.YtlocaaebgghkbaaW.PrintLast Go.Proofs.YtlocaaebgghkbaaW.PrintMore
attribute [local go_sem] max2_int min2_int max_two min_two max_three min_three max_four min_four   -- for this text's walks alone
set_option linter.unusedVariables false
set_option linter.unusedSimpArgs false
def spec_l4Value.j0 : Nat → ByteArray → Int → Bool → Option (ByteArray × Int)
 | 0, _, _, _ => none
 | k + 1, x0, x1, x23 => if x23 = true then (if 0 ≤ x1 then (if x1 < (x0.size : Int) then ((spec_l4Find.f k x0 (wrap64 (x1 + 1)) (bt x0 x1)).bind fun t264 => (if t264 ≥ 0 then (if 0 ≤ (wrap64 (x1 + 1)) then (if (wrap64 (x1 + 1)) ≤ t264 then (if t264 ≤ (x0.size : Int) then (some (x0.extract ((wrap64 (x1 + 1)) : Int).toNat (t264 : Int).toNat, wrap64 (t264 + 1))) else (none)) else (none)) else (none)) else (if 0 ≤ (wrap64 (x1 + 1)) then (if (wrap64 (x1 + 1)) ≤ (x0.size : Int) then (some (x0.extract ((wrap64 (x1 + 1)) : Int).toNat x0.size, (x0.size : Int))) else (none)) else (none)))) else (none)) else (none)) else ((spec_l4Plain.f k x0 x1 false).bind fun t265 => (if 0 ≤ x1 then (if x1 ≤ t265 then (if t265 ≤ (x0.size : Int) then (some (x0.extract (x1 : Int).toNat (t265 : Int).toNat, t265)) else (none)) else (none)) else (none)))
def spec_l4Value.f (k : Nat) (a0 : ByteArray) (a1 : Int) : Option (ByteArray × Int) := if a1 < (a0.size : Int) then (if 0 ≤ a1 then (if (bt a0 a1) = 34 then (spec_l4Value.j0 k a0 a1 true) else (spec_l4Value.j0 k a0 a1 ((bt a0 a1) == 39))) else (none)) else (spec_l4Value.j0 k a0 a1 false)
theorem spec_l4Value.mono_l : ∀ k, (∀ y0 y1 y2, LeO (spec_l4Value.j0 k y0 y1 y2) (spec_l4Value.j0 (k + 1) y0 y1 y2))
 | 0 => fun _ _ _ r h => by simp [spec_l4Value.j0] at h
 | k + 1 => by
  have ih0 := spec_l4Value.mono_l k
  ·intro y0 y1 y2
   unfold spec_l4Value.j0
   repeat' first
   | (with_reducible exact ih0 _ _ _)
   | (with_reducible exact spec_l4Find.mono _ _ _ _)
   | (with_reducible exact spec_l4Plain.mono _ _ _ _)
   | (with_reducible exact LeO.refl _)
   | (with_reducible exact LeO.none _)
   | (with_reducible refine LeO.ite ?_ ?_)
   | (with_reducible refine LeO.bind ?_ (fun _ => ?_))
   | exact ih0 _ _ _
   | exact spec_l4Find.mono _ _ _ _
   | exact spec_l4Plain.mono _ _ _ _
   | exact LeO.none _
   | refine LeO.ite ?_ ?_
   | refine LeO.bind ?_ (fun _ => ?_)
theorem spec_l4Value.mono : ∀ a0 a1 k, LeO (spec_l4Value.f k a0 a1) (spec_l4Value.f (k + 1) a0 a1) := by
 intro a0 a1 k
 have ih0 := spec_l4Value.mono_l k
 unfold spec_l4Value.f
 repeat' first
   | (with_reducible exact ih0 _ _ _)
   | (with_reducible exact spec_l4Find.mono _ _ _ _)
   | (with_reducible exact spec_l4Plain.mono _ _ _ _)
   | (with_reducible exact LeO.refl _)
   | (with_reducible exact LeO.none _)
   | (with_reducible refine LeO.ite ?_ ?_)
   | (with_reducible refine LeO.bind ?_ (fun _ => ?_))
   | exact ih0 _ _ _
   | exact spec_l4Find.mono _ _ _ _
   | exact spec_l4Plain.mono _ _ _ _
   | exact LeO.none _
   | refine LeO.ite ?_ ?_
   | refine LeO.bind ?_ (fun _ => ?_)
set_option maxHeartbeats 8000000 in
set_option maxRecDepth 100000 in
theorem spec_l4Value.calls (k : Nat) (a0 : ByteArray) (a1 : Int) (r1 : ByteArray) (r2 : Int) (w : World) (h : spec_l4Value.f k a0 a1 = some (r1, r2)) :
  Calls Try.prog 62 #[.string a0, .int .i64 a1] w fun e w' => e = .returned (.tuple #[.string r1, .int .i64 r2]) ∧ Drawn0 w w' := by
 have H : (if a1 < (a0.size : Int) then (if 0 ≤ a1 then (if (bt a0 a1) = 34 then (spec_l4Value.j0 k a0 a1 true) else (spec_l4Value.j0 k a0 a1 ((bt a0 a1) == 39))) else (none)) else (spec_l4Value.j0 k a0 a1 false)) = some (r1, r2) := h
 clear h
 have HC3 := Aside0.mk H
 clear H
 go_enter Try.func62, Try.ntmps62
 go_upto_region 1 with (fail)
 go_cut [23] (fun v23 wc => ∃ (kq : Nat) (x23_2 : Bool), v23 = .bool x23_2 ∧ Aside0 (spec_l4Value.j0 kq a0 a1 x23_2 = some (r1, r2)) ∧ Aside0 (kq ≤ k) ∧ Drawn0 w wc)
 case first =>
  have H := HC3.out
  clear HC3
  by_cases c4 : a1 < (a0.size : Int)
  ·rw [if_pos c4] at H
   have c4b0 : decide (a1 < (a0.size : Int)) = true := decide_eq_true c4
   clear c4
   (first | rw [c4b0] | (simp only [i64_w, i32_w]; rw [c4b0]) | skip)
   by_cases c5 : 0 ≤ a1
   ·rw [if_pos c5] at H
    have c5b0 : decide (0 ≤ a1) = true := decide_eq_true c5
    clear c5
    by_cases c7 : (bt a0 a1) = 34
    ·rw [if_pos c7] at H
     have c7b0 : ((bt a0 a1) == 34) = true := beq_iff_eq.mpr c7
     have c7b1 : ((bt a0 a1) != 34) = false := bne_eq_false_iff_eq.mpr c7
     clear c7
     have H' := Aside0.mk H
     clear H
     have p6 : 0 ≤ (a1 : Int) := of_decide_eq_true (by first | (with_reducible assumption) | assumption)
     have q6 : a1 < (a0.size : Int) := of_decide_eq_true (by first | (with_reducible assumption) | assumption)
     have hx6 := bt_at a0 a1
     replace p6 := eq_true p6
     replace q6 := eq_true q6
     go_wp2
     go_meet
     case rel => exact ⟨_, (true), (by first | rfl | (simp; done) | (simp [*]; done)), H', ⟨by first | omega | exact Nat.le_refl _⟩, by repeat (first | exact Drawn0.refl _ | apply Drawn0.step)⟩
    ·rw [if_neg c7] at H
     have c7b0 : ((bt a0 a1) == 34) = false := beq_eq_false_iff_ne.mpr c7
     have c7b1 : ((bt a0 a1) != 34) = true := bne_iff_ne.mpr c7
     have H' := Aside0.mk H
     clear H
     have p6 : 0 ≤ (a1 : Int) := of_decide_eq_true (by first | (with_reducible assumption) | assumption)
     have q6 : a1 < (a0.size : Int) := of_decide_eq_true (by first | (with_reducible assumption) | assumption)
     have hx6 := bt_at a0 a1
     replace p6 := eq_true p6
     replace q6 := eq_true q6
     have p8 : 0 ≤ (a1 : Int) := of_decide_eq_true (by first | (with_reducible assumption) | assumption)
     have q8 : a1 < (a0.size : Int) := of_decide_eq_true (by first | (with_reducible assumption) | assumption)
     have hx8 := bt_at a0 a1
     replace p8 := eq_true p8
     replace q8 := eq_true q8
     go_wp2
     go_meet
     case rel => exact ⟨_, (((bt a0 a1) == 39)), (by first | rfl | (simp; done) | (simp [*]; done)), H', ⟨by first | omega | exact Nat.le_refl _⟩, by repeat (first | exact Drawn0.refl _ | apply Drawn0.step)⟩
   ·rw [if_neg c5] at H
    exact absurd H (by simp)
  ·rw [if_neg c4] at H
   have c4b0 : decide (a1 < (a0.size : Int)) = false := decide_eq_false c4
   clear c4
   (first | rw [c4b0] | (simp only [i64_w, i32_w]; rw [c4b0]) | skip)
   have H' := Aside0.mk H
   clear H
   go_wp2
   go_meet
   case rel => exact ⟨_, (false), (by first | rfl | (simp; done) | (simp [*]; done)), H', ⟨by first | omega | exact Nat.le_refl _⟩, by repeat (first | exact Drawn0.refl _ | apply Drawn0.step)⟩
 case rest =>
  clear HC3
  try clear p2
  try clear c4
  try clear c4b0
  try clear c5
  try clear c5b0
  try clear c6
  try clear p6
  try clear q6
  try clear hx6
  try clear c7
  try clear c7b0
  try clear c7b1
  try clear p8
  try clear q8
  try clear hx8
  try clear p6
  try clear p8
  try clear q6
  try clear q8
  obtain ⟨kq, x23_2, rfl, HA, HJ2, ⟨mc2, rfl⟩⟩ := hcut
  cases kq with
  | zero => exact absurd HA.out (by simp [spec_l4Value.j0])
  | succ kj2 =>
   have H := HA.out
   clear HA
   simp only [spec_l4Value.j0] at H
   by_cases c9 : x23_2 = true
   ·subst c9
    have H1 : (if 0 ≤ a1 then (if a1 < (a0.size : Int) then ((spec_l4Find.f kj2 a0 (wrap64 (a1 + 1)) (bt a0 a1)).bind fun t264 => (if t264 ≥ 0 then (if 0 ≤ (wrap64 (a1 + 1)) then (if (wrap64 (a1 + 1)) ≤ t264 then (if t264 ≤ (a0.size : Int) then (some (a0.extract ((wrap64 (a1 + 1)) : Int).toNat (t264 : Int).toNat, wrap64 (t264 + 1))) else (none)) else (none)) else (none)) else (if 0 ≤ (wrap64 (a1 + 1)) then (if (wrap64 (a1 + 1)) ≤ (a0.size : Int) then (some (a0.extract ((wrap64 (a1 + 1)) : Int).toNat a0.size, (a0.size : Int))) else (none)) else (none)))) else (none)) else (none)) = some (r1, r2) := by rw [if_pos rfl] at H; exact H
    clear H
    have H := H1
    clear H1
    by_cases c10 : 0 ≤ a1
    ·rw [if_pos c10] at H
     have c10b0 : decide (0 ≤ a1) = true := decide_eq_true c10
     clear c10
     by_cases c11 : a1 < (a0.size : Int)
     ·rw [if_pos c11] at H
      have c11b0 : decide (a1 < (a0.size : Int)) = true := decide_eq_true c11
      clear c11
      replace H := Option.bind_eq_some_iff.mp H
      obtain ⟨t264, A130, H⟩ := H
      replace H : (if t264 ≥ 0 then (if 0 ≤ (wrap64 (a1 + 1)) then (if (wrap64 (a1 + 1)) ≤ t264 then (if t264 ≤ (a0.size : Int) then (some (a0.extract ((wrap64 (a1 + 1)) : Int).toNat (t264 : Int).toNat, wrap64 (t264 + 1))) else (none)) else (none)) else (none)) else (if 0 ≤ (wrap64 (a1 + 1)) then (if (wrap64 (a1 + 1)) ≤ (a0.size : Int) then (some (a0.extract ((wrap64 (a1 + 1)) : Int).toNat a0.size, (a0.size : Int))) else (none)) else (none))) = some (r1, r2) := H
      have A13 := Aside0.mk A130
      clear A130
      by_cases c14 : t264 ≥ 0
      ·rw [if_pos c14] at H
       have c14b0 : decide (0 ≤ t264) = true := decide_eq_true c14
       clear c14
       obtain ⟨ji15, hji15⟩ : ∃ j_ : Int, (wrap64 (a1 + 1)) = j_ := ⟨_, rfl⟩
       replace H : (if 0 ≤ (ji15) then (if (ji15) ≤ t264 then (if t264 ≤ (a0.size : Int) then (some (a0.extract ((ji15) : Int).toNat (t264 : Int).toNat, wrap64 (t264 + 1))) else (none)) else (none)) else (none)) = some (r1, r2) := by first | (rw [hji15] at H; exact H) | (simp only [hji15] at H ⊢; exact H)
       (try rw [hji15] at A13)
       have hji15w : (IntKind.i64.wrap (a1 + 1)) = ji15 := (i64_w _).trans hji15
       by_cases c16 : 0 ≤ (ji15)
       ·rw [if_pos c16] at H
        have c16b0 := eq_true c16
        have c16b1 : decide (0 ≤ (ji15)) = true := decide_eq_true c16
        clear c16
        by_cases c17 : (ji15) ≤ t264
        ·rw [if_pos c17] at H
         have c17b0 := eq_true c17
         have c17b1 : decide ((ji15) ≤ t264) = true := decide_eq_true c17
         clear c17
         by_cases c18 : t264 ≤ (a0.size : Int)
         ·rw [if_pos c18] at H
          have c18b0 := eq_true c18
          have c18b1 : decide (t264 ≤ (a0.size : Int)) = true := decide_eq_true c18
          clear c18
          simp only [Option.some.injEq, Prod.mk.injEq] at H
          obtain ⟨rfl, rfl⟩ := H
          have p12 : 0 ≤ (a1 : Int) := of_decide_eq_true (by first | (with_reducible assumption) | assumption)
          have q12 : a1 < (a0.size : Int) := of_decide_eq_true (by first | (with_reducible assumption) | assumption)
          have hx12 := bt_at a0 a1
          replace p12 := eq_true p12
          replace q12 := eq_true q12
          go_wp2_with (first | ((with_reducible refine gate_callee (f := 46) rfl ?_); refine goesL_ (some 30) rfl rfl Try.func46 (by kernel_rfl) rfl #[.string a0, .int .i64 ji15, .int .u8 (bt a0 a1)] rfl (by (try simp only [List.map_toArray, List.map_cons, List.map_nil]); first | done | (simp only [hji15]; rfl) | rfl | (simp only [List.length_drop, List.length_take]; rfl)) ?_; (with_reducible refine (spec_l4Find.calls kj2 a0 ji15 (bt a0 a1) t264 _ A13.out).mono ?_); rintro e w' ⟨rfl, ⟨nd, rfl⟩⟩; refine ⟨_, rfl, ?_⟩))
          go_ret2
          exact ⟨by first | rfl | (simp; done) | (simp only [← hji15] <;> (first | rfl | simp)) | (simp [*]; done), by repeat (first | exact Drawn0.refl _ | apply Drawn0.step)⟩
         ·rw [if_neg c18] at H
          exact absurd H (by simp)
        ·rw [if_neg c17] at H
         exact absurd H (by simp)
       ·rw [if_neg c16] at H
        exact absurd H (by simp)
      ·rw [if_neg c14] at H
       have c14b0 : decide (0 ≤ t264) = false := decide_eq_false c14
       clear c14
       obtain ⟨ji19, hji19⟩ : ∃ j_ : Int, (wrap64 (a1 + 1)) = j_ := ⟨_, rfl⟩
       replace H : (if 0 ≤ (ji19) then (if (ji19) ≤ (a0.size : Int) then (some (a0.extract ((ji19) : Int).toNat a0.size, (a0.size : Int))) else (none)) else (none)) = some (r1, r2) := by first | (rw [hji19] at H; exact H) | (simp only [hji19] at H ⊢; exact H)
       (try rw [hji19] at A13)
       have hji19w : (IntKind.i64.wrap (a1 + 1)) = ji19 := (i64_w _).trans hji19
       by_cases c20 : 0 ≤ (ji19)
       ·rw [if_pos c20] at H
        have c20b0 := eq_true c20
        have c20b1 : decide (0 ≤ (ji19)) = true := decide_eq_true c20
        clear c20
        by_cases c21 : (ji19) ≤ (a0.size : Int)
        ·rw [if_pos c21] at H
         have c21b0 := eq_true c21
         have c21b1 : decide ((ji19) ≤ (a0.size : Int)) = true := decide_eq_true c21
         clear c21
         simp only [Option.some.injEq, Prod.mk.injEq] at H
         obtain ⟨rfl, rfl⟩ := H
         have p12 : 0 ≤ (a1 : Int) := of_decide_eq_true (by first | (with_reducible assumption) | assumption)
         have q12 : a1 < (a0.size : Int) := of_decide_eq_true (by first | (with_reducible assumption) | assumption)
         have hx12 := bt_at a0 a1
         replace p12 := eq_true p12
         replace q12 := eq_true q12
         go_wp2_with (first | ((with_reducible refine gate_callee (f := 46) rfl ?_); refine goesL_ (some 30) rfl rfl Try.func46 (by kernel_rfl) rfl #[.string a0, .int .i64 ji19, .int .u8 (bt a0 a1)] rfl (by (try simp only [List.map_toArray, List.map_cons, List.map_nil]); first | done | (simp only [hji19]; rfl) | rfl | (simp only [List.length_drop, List.length_take]; rfl)) ?_; (with_reducible refine (spec_l4Find.calls kj2 a0 ji19 (bt a0 a1) t264 _ A13.out).mono ?_); rintro e w' ⟨rfl, ⟨nd, rfl⟩⟩; refine ⟨_, rfl, ?_⟩))
         go_ret2
         exact ⟨by first | rfl | (simp; done) | (simp only [← hji19] <;> (first | rfl | simp)) | (simp [*]; done), by repeat (first | exact Drawn0.refl _ | apply Drawn0.step)⟩
        ·rw [if_neg c21] at H
         exact absurd H (by simp)
       ·rw [if_neg c20] at H
        exact absurd H (by simp)
     ·rw [if_neg c11] at H
      exact absurd H (by simp)
    ·rw [if_neg c10] at H
     exact absurd H (by simp)
   ·replace c9 := Bool.eq_false_iff.mpr c9
    subst c9
    have H1 : ((spec_l4Plain.f kj2 a0 a1 false).bind fun t265 => (if 0 ≤ a1 then (if a1 ≤ t265 then (if t265 ≤ (a0.size : Int) then (some (a0.extract (a1 : Int).toNat (t265 : Int).toNat, t265)) else (none)) else (none)) else (none))) = some (r1, r2) := by rw [if_neg (show ¬ (false = true) by decide)] at H; exact H
    clear H
    have H := H1
    clear H1
    replace H := Option.bind_eq_some_iff.mp H
    obtain ⟨t265, A220, H⟩ := H
    replace H : (if 0 ≤ a1 then (if a1 ≤ t265 then (if t265 ≤ (a0.size : Int) then (some (a0.extract (a1 : Int).toNat (t265 : Int).toNat, t265)) else (none)) else (none)) else (none)) = some (r1, r2) := H
    have A22 := Aside0.mk A220
    clear A220
    by_cases c23 : 0 ≤ a1
    ·rw [if_pos c23] at H
     have c23b0 := eq_true c23
     have c23b1 : decide (0 ≤ a1) = true := decide_eq_true c23
     clear c23
     by_cases c24 : a1 ≤ t265
     ·rw [if_pos c24] at H
      have c24b0 := eq_true c24
      have c24b1 : decide (a1 ≤ t265) = true := decide_eq_true c24
      clear c24
      by_cases c25 : t265 ≤ (a0.size : Int)
      ·rw [if_pos c25] at H
       have c25b0 := eq_true c25
       have c25b1 : decide (t265 ≤ (a0.size : Int)) = true := decide_eq_true c25
       clear c25
       simp only [Option.some.injEq, Prod.mk.injEq] at H
       obtain ⟨rfl, rfl⟩ := H
       go_wp2_with (first | ((with_reducible refine gate_callee (f := 47) rfl ?_); refine goesL_ (some 48) rfl rfl Try.func47 (by kernel_rfl) rfl #[.string a0, .int .i64 a1, .bool false] rfl (by (try simp only [List.map_toArray, List.map_cons, List.map_nil]); first | done | rfl | (simp only [List.length_drop, List.length_take]; rfl)) ?_; (with_reducible refine (spec_l4Plain.calls kj2 a0 a1 false t265 _ A22.out).mono ?_); rintro e w' ⟨rfl, ⟨nd, rfl⟩⟩; refine ⟨_, rfl, ?_⟩))
       go_ret2
       exact ⟨by first | rfl | (simp; done) | (simp [*]; done), by repeat (first | exact Drawn0.refl _ | apply Drawn0.step)⟩
      ·rw [if_neg c25] at H
       exact absurd H (by simp)
     ·rw [if_neg c24] at H
      exact absurd H (by simp)
    ·rw [if_neg c23] at H
     exact absurd H (by simp)
end Go.Proofs.Ytlocaaebgghkbaa.A
namespace Go.Proofs.Ytlocaaebgghkbaa.A
open Go.RowKit Go.Proofs.YtlocaaebgghkbaaW.PrintWords Go.Proofs.YtlocaaebgghkbaaW.PrintLast Go.Proofs.YtlocaaebgghkbaaW.PrintMore
attribute [local go_sem] max2_int min2_int max_two min_two max_three min_three max_four min_four   -- for this text's walks alone
set_option linter.unusedVariables false
set_option linter.unusedSimpArgs false
def spec_l1In.f (a0 : Int) (a1 : Int) (a2 : Int) : Option (Bool) := if a0 ≥ a1 then (some (decide (a0 ≤ a2))) else (some false)
set_option maxHeartbeats 8000000 in
set_option maxRecDepth 100000 in
theorem spec_l1In.calls (a0 : Int) (a1 : Int) (a2 : Int) (r : Bool) (w : World) (h : spec_l1In.f a0 a1 a2 = some r) :
  Calls Try.prog 146 #[.int .i64 a0, .int .i64 a1, .int .i64 a2] w fun e w' => e = .returned (.bool r) ∧ Drawn0 w w' := by
 have H : (if a0 ≥ a1 then (some (decide (a0 ≤ a2))) else (some false)) = some r := h
 clear h
 by_cases c4 : a0 ≥ a1
 ·rw [if_pos c4] at H
  have c4b0 : decide (a1 ≤ a0) = true := decide_eq_true c4
  clear c4
  obtain rfl := Option.some.inj H
  go_enter Try.func146, Try.ntmps146
  go_wp2
  go_ret
  exact ⟨by first | rfl | (simp; done) | (simp [*]; done), by repeat (first | exact Drawn0.refl _ | apply Drawn0.step)⟩
 ·rw [if_neg c4] at H
  have c4b0 : decide (a1 ≤ a0) = false := decide_eq_false c4
  clear c4
  obtain rfl := Option.some.inj H
  go_enter Try.func146, Try.ntmps146
  go_wp2
  go_ret
  exact ⟨by first | rfl | (simp; done) | (simp [*]; done), by repeat (first | exact Drawn0.refl _ | apply Drawn0.step)⟩
end Go.Proofs.Ytlocaaebgghkbaa.A
namespace Go.Proofs.Ytlocaaebgghkbaa.A
open Go.RowKit Go.Proofs.YtlocaaebgghkbaaW.PrintWords Go.Proofs.YtlocaaebgghkbaaW.PrintLast Go.Proofs.YtlocaaebgghkbaaW.PrintMore
attribute [local go_sem] max2_int min2_int max_two min_two max_three min_three max_four min_four   -- for this text's walks alone
set_option linter.unusedVariables false
set_option linter.unusedSimpArgs false
def spec_SignOk.f (a0 : Int) : Option (Bool) := (spec_l1In.f a0 0 1114111).bind fun t266 => (if t266 = true then ((spec_l1In.f a0 55296 57343).bind fun t267 => (some (!t267))) else (some false))
set_option maxHeartbeats 8000000 in
set_option maxRecDepth 100000 in
theorem spec_SignOk.calls (a0 : Int) (r : Bool) (w : World) (h : spec_SignOk.f a0 = some r) :
  Calls Try.prog 156 #[.int .i64 a0] w fun e w' => e = .returned (.bool r) ∧ Drawn0 w w' := by
 have H : ((spec_l1In.f a0 0 1114111).bind fun t266 => (if t266 = true then ((spec_l1In.f a0 55296 57343).bind fun t267 => (some (!t267))) else (some false))) = some r := h
 clear h
 replace H := Option.bind_eq_some_iff.mp H
 obtain ⟨t266, A20, H⟩ := H
 replace H : (if t266 = true then ((spec_l1In.f a0 55296 57343).bind fun t267 => (some (!t267))) else (some false)) = some r := H
 have A2 := Aside0.mk A20
 clear A20
 by_cases c3 : t266 = true
 ·subst c3
  have H1 : ((spec_l1In.f a0 55296 57343).bind fun t267 => (some (!t267))) = some r := by rw [if_pos rfl] at H; exact H
  clear H
  have H := H1
  clear H1
  replace H := Option.bind_eq_some_iff.mp H
  obtain ⟨t267, A40, H⟩ := H
  replace H : (some (!t267)) = some r := H
  have A4 := Aside0.mk A40
  clear A40
  obtain rfl := Option.some.inj H
  go_enter Try.func156, Try.ntmps156
  go_wp2_with (first | ((with_reducible refine gate_callee (f := 146) rfl ?_); refine goesL_ (some 4) rfl rfl Try.func146 (by kernel_rfl) rfl #[.int .i64 a0, .int .i64 0, .int .i64 1114111] rfl (by (try simp only [List.map_toArray, List.map_cons, List.map_nil]); first | done | rfl | (simp only [List.length_drop, List.length_take]; rfl)) ?_; (with_reducible refine (spec_l1In.calls a0 0 1114111 true _ A2.out).mono ?_); rintro e w' ⟨rfl, ⟨nd, rfl⟩⟩; refine ⟨_, rfl, ?_⟩) | (go_at_call 146; (with_reducible refine (spec_l1In.calls a0 55296 57343 t267 _ A4.out).mono ?_); rintro e w' ⟨rfl, ⟨nd, rfl⟩⟩))
  go_ret
  exact ⟨by first | rfl | (simp; done) | (simp [*]; done), by repeat (first | exact Drawn0.refl _ | apply Drawn0.step)⟩
 ·replace c3 := Bool.eq_false_iff.mpr c3
  subst c3
  have H1 : (some false) = some r := by rw [if_neg (show ¬ (false = true) by decide)] at H; exact H
  clear H
  have H := H1
  clear H1
  obtain rfl := Option.some.inj H
  go_enter Try.func156, Try.ntmps156
  go_wp2_with (first | ((with_reducible refine gate_callee (f := 146) rfl ?_); refine goesL_ (some 4) rfl rfl Try.func146 (by kernel_rfl) rfl #[.int .i64 a0, .int .i64 0, .int .i64 1114111] rfl (by (try simp only [List.map_toArray, List.map_cons, List.map_nil]); first | done | rfl | (simp only [List.length_drop, List.length_take]; rfl)) ?_; (with_reducible refine (spec_l1In.calls a0 0 1114111 false _ A2.out).mono ?_); rintro e w' ⟨rfl, ⟨nd, rfl⟩⟩; refine ⟨_, rfl, ?_⟩))
  go_ret
  exact ⟨by first | rfl | (simp; done) | (simp [*]; done), by repeat (first | exact Drawn0.refl _ | apply Drawn0.step)⟩
end Go.Proofs.Ytlocaaebgghkbaa.A
namespace Go.Proofs.Ytlocaaebgghkbaa.A
open Go.RowKit Go.Proofs.YtlocaaebgghkbaaW.PrintWords Go.Proofs.YtlocaaebgghkbaaW.PrintLast Go.Proofs.YtlocaaebgghkbaaW.PrintMore
attribute [local go_sem] max2_int min2_int max_two min_two max_three min_three max_four min_four   -- for this text's walks alone
set_option linter.unusedVariables false
set_option linter.unusedSimpArgs false
def spec_PutSign.j0 : Nat → Int → Option (ByteArray)
 | 0, _ => none
 | k + 1, x0 => if x0 < 128 then (some (strOfNums (([(x0) % 256] : List Int)))) else (if x0 < 2048 then (some (strOfNums (([(wrap64 (192 + (x0 / 64))) % 256, (wrap64 (128 + (Go.bits .and .i64 x0 63))) % 256] : List Int)))) else (if x0 < 65536 then (some (strOfNums (([(wrap64 (224 + (x0 / 4096))) % 256, (wrap64 (128 + (Go.bits .and .i64 (x0 / 64) 63))) % 256, (wrap64 (128 + (Go.bits .and .i64 x0 63))) % 256] : List Int)))) else (some (strOfNums (([(wrap64 (240 + (x0 / 262144))) % 256, (wrap64 (128 + (Go.bits .and .i64 (x0 / 4096) 63))) % 256, (wrap64 (128 + (Go.bits .and .i64 (x0 / 64) 63))) % 256, (wrap64 (128 + (Go.bits .and .i64 x0 63))) % 256] : List Int))))))
def spec_PutSign.f (k : Nat) (a0 : Int) : Option (ByteArray) := (spec_SignOk.f a0).bind fun t268 => (if t268 = true then (spec_PutSign.j0 k a0) else (spec_PutSign.j0 k 65533))
theorem spec_PutSign.mono_l : ∀ k, (∀ y0, LeO (spec_PutSign.j0 k y0) (spec_PutSign.j0 (k + 1) y0))
 | 0 => fun _ r h => by simp [spec_PutSign.j0] at h
 | k + 1 => by
  have ih0 := spec_PutSign.mono_l k
  ·intro y0
   unfold spec_PutSign.j0
   repeat' first
   | (with_reducible exact ih0 _)
   | (with_reducible exact LeO.refl _)
   | (with_reducible exact LeO.none _)
   | (with_reducible refine LeO.ite ?_ ?_)
   | (with_reducible refine LeO.bind ?_ (fun _ => ?_))
   | exact ih0 _
   | exact LeO.none _
   | refine LeO.ite ?_ ?_
   | refine LeO.bind ?_ (fun _ => ?_)
theorem spec_PutSign.mono : ∀ a0 k, LeO (spec_PutSign.f k a0) (spec_PutSign.f (k + 1) a0) := by
 intro a0 k
 have ih0 := spec_PutSign.mono_l k
 unfold spec_PutSign.f
 repeat' first
   | (with_reducible exact ih0 _)
   | (with_reducible exact LeO.refl _)
   | (with_reducible exact LeO.none _)
   | (with_reducible refine LeO.ite ?_ ?_)
   | (with_reducible refine LeO.bind ?_ (fun _ => ?_))
   | exact ih0 _
   | exact LeO.none _
   | refine LeO.ite ?_ ?_
   | refine LeO.bind ?_ (fun _ => ?_)
set_option maxHeartbeats 8000000 in
set_option maxRecDepth 100000 in
theorem spec_PutSign.calls (k : Nat) (a0 : Int) (r : ByteArray) (w : World) (h : spec_PutSign.f k a0 = some r) :
  Calls Try.prog 135 #[.int .i64 a0] w fun e w' => e = .returned (.string r) ∧ Below w.heap.size w w' := by
 have HB := Aside0.mk (Below.refl w.heap.size w)
 have H : ((spec_SignOk.f a0).bind fun t268 => (if t268 = true then (spec_PutSign.j0 k a0) else (spec_PutSign.j0 k 65533))) = some r := h
 clear h
 replace H := Option.bind_eq_some_iff.mp H
 obtain ⟨t268, A20, H⟩ := H
 replace H : (if t268 = true then (spec_PutSign.j0 k a0) else (spec_PutSign.j0 k 65533)) = some r := H
 have A2 := Aside0.mk A20
 clear A20
 have HC3 := Aside0.mk H
 clear H
 go_enter Try.func135, Try.ntmps135
 go_upto_if 5 with (first | ((with_reducible refine gate_callee (f := 156) rfl ?_); refine goesL_ (some 4) rfl rfl Try.func156 (by kernel_rfl) rfl #[.int .i64 a0] rfl (by (try simp only [List.map_toArray, List.map_cons, List.map_nil]); first | done | rfl | (simp only [List.length_drop, List.length_take]; rfl)) ?_; (with_reducible refine (spec_SignOk.calls a0 t268 _ A2.out).mono ?_); rintro e w' ⟨rfl, ⟨nd, rfl⟩⟩; refine ⟨_, rfl, ?_⟩))
 (try simp only [Act.put, List.setIfInBounds_toArray, List.set_cons_zero, List.set_cons_succ])
 go_cut [0] (fun v0 wc => ∃ (kq : Nat) (x0_2 : Int), v0 = .int .i64 x0_2 ∧ Aside0 (spec_PutSign.j0 kq x0_2 = some r) ∧ Aside0 (kq ≤ k) ∧ Aside0 (Below w.heap.size w wc))
 case first =>
  have H := HC3.out
  clear HC3
  by_cases c4 : t268 = true
  ·subst c4
   have H1 : (spec_PutSign.j0 k a0) = some r := by rw [if_pos rfl] at H; exact H
   clear H
   have H := H1
   clear H1
   have H' := Aside0.mk H
   clear H
   go_wp2
   go_meet
   case rel => exact ⟨_, (a0), (by first | rfl | (simp; done) | (simp [*]; done)), H', ⟨by first | omega | exact Nat.le_refl _⟩, ⟨by repeat (first | (with_reducible first | exact HB.out | apply below_alloc | apply pw_below_drewN | apply below_drew1) | exact HB.out)⟩⟩
  ·replace c4 := Bool.eq_false_iff.mpr c4
   subst c4
   have H1 : (spec_PutSign.j0 k 65533) = some r := by rw [if_neg (show ¬ (false = true) by decide)] at H; exact H
   clear H
   have H := H1
   clear H1
   have H' := Aside0.mk H
   clear H
   go_wp2
   go_meet
   case rel => exact ⟨_, (65533), (by first | rfl | (simp; done) | (simp [*]; done)), H', ⟨by first | omega | exact Nat.le_refl _⟩, ⟨by repeat (first | (with_reducible first | exact HB.out | apply below_alloc | apply pw_below_drewN | apply below_drew1) | exact HB.out)⟩⟩
 case rest =>
  clear HC3
  try clear c1
  try clear p2
  try clear c4
  obtain ⟨kq, x0_2, rfl, HA, HJ2, HB⟩ := hcut
  cases kq with
  | zero => exact absurd HA.out (by simp [spec_PutSign.j0])
  | succ kj2 =>
   have H := HA.out
   clear HA
   simp only [spec_PutSign.j0] at H
   by_cases c5 : x0_2 < 128
   ·rw [if_pos c5] at H
    have c5b0 : decide (x0_2 < 128) = true := decide_eq_true c5
    clear c5
    obtain ⟨y269, hy269⟩ : ∃ y_ : List Int, y_ = (([(x0_2) % 256] : List Int)) := ⟨_, rfl⟩
    replace H : (some (strOfNums y269)) = some r := by first | (rw [hy269]; with_reducible exact H) | (have H2_ := (Option.bind_some _ _).symm.trans H; rw [hy269]; with_reducible exact H2_) | (have H2_ := (Option.bind_some _ _).symm.trans H; with_reducible exact H2_) | with_reducible exact H | (rw [hy269]; exact H) | exact H
    have Ny269 := Aside0.mk hy269
    clear hy269
    obtain rfl := Option.some.inj H
    go_wp2_with (first | ((with_reducible refine gate_dst (N := 11) rfl ?_); refine Kd.R_lit (Kd.int .u8) _ 5 ?hg (N := 11) ?hd (xs := ([(x0_2) % 256] : List Int)) (inner := [.int .u8 ((x0_2) % 256)]) (ok := fun _ => True) (okp := fun _ => True) ?hr ?hp (fun _ hk => hk) trivial (Below.refl _ _) (Nat.le_refl _) (by simp) ?_; (case hd => rfl); (case hg => rfl); (case hr => first | (go_simp; done) | (go_simp; rfl)); (case hp => exact (Reps.one (show Kd.M (Kd.int .u8) _ _ _ ((x0_2) % 256) [.int .u8 ((x0_2) % 256)] from rfl) (Reps.none _ _))); intro v270 w6 ho7 hb hg_ hnew_; clear hg_ hnew_; (first | rw [← Ny269.out] at ho7 | (simp only [Int.reduceToNat] at ho7; rw [← Ny269.out] at ho7)); have n0_ := Aside0.mk (Kd.R_lower ho7 (below_size (by repeat (first | (with_reducible first | exact HB.out | apply below_alloc | apply pw_below_drewN | apply below_drew1) | exact HB.out)))); have n1_ := Aside0.mk (below_step (by repeat (first | (with_reducible first | exact HB.out | apply below_alloc | apply pw_below_drewN | apply below_drew1) | exact HB.out)) hb); clear HB; have HO271 := n0_; have HB := n1_; clear n0_ n1_; clear hb ho7; have hcv8 := own_string (P := Try.prog) Try.underlying44 Try.underlying5 Try.underlying9 (Kd.own_of_R HO271.out)))
    go_ret
    exact ⟨by first | rfl | (simp [errW_none, errW_some] <;> rfl) | (simp [*, errW_none, errW_some] <;> rfl), by repeat (first | (with_reducible first | exact HB.out | apply below_alloc | apply pw_below_drewN | apply below_drew1) | exact HB.out)⟩
   ·rw [if_neg c5] at H
    have c5b0 : decide (x0_2 < 128) = false := decide_eq_false c5
    clear c5
    by_cases c9 : x0_2 < 2048
    ·rw [if_pos c9] at H
     have c9b0 : decide (x0_2 < 2048) = true := decide_eq_true c9
     clear c9
     obtain ⟨y272, hy272⟩ : ∃ y_ : List Int, y_ = (([(wrap64 (192 + (x0_2 / 64))) % 256, (wrap64 (128 + (Go.bits .and .i64 x0_2 63))) % 256] : List Int)) := ⟨_, rfl⟩
     replace H : (some (strOfNums y272)) = some r := by first | (rw [hy272]; with_reducible exact H) | (have H2_ := (Option.bind_some _ _).symm.trans H; rw [hy272]; with_reducible exact H2_) | (have H2_ := (Option.bind_some _ _).symm.trans H; with_reducible exact H2_) | with_reducible exact H | (rw [hy272]; exact H) | exact H
     have Ny272 := Aside0.mk hy272
     clear hy272
     obtain rfl := Option.some.inj H
     go_wp2_with (first | ((with_reducible refine gate_dst (N := 24) rfl ?_); refine Kd.R_lit (Kd.int .u8) _ 5 ?hg (N := 24) ?hd (xs := ([(wrap64 (192 + (x0_2 / 64))) % 256, (wrap64 (128 + (Go.bits .and .i64 x0_2 63))) % 256] : List Int)) (inner := [.int .u8 ((wrap64 (192 + (x0_2 / 64))) % 256), .int .u8 ((wrap64 (128 + (Go.bits .and .i64 x0_2 63))) % 256)]) (ok := fun _ => True) (okp := fun _ => True) ?hr ?hp (fun _ hk => hk) trivial (Below.refl _ _) (Nat.le_refl _) (by simp) ?_; (case hd => rfl); (case hg => rfl); (case hr => first | (go_simp; done) | (go_simp; rfl)); (case hp => exact (Reps.one (show Kd.M (Kd.int .u8) _ _ _ ((wrap64 (192 + (x0_2 / 64))) % 256) [.int .u8 ((wrap64 (192 + (x0_2 / 64))) % 256)] from rfl) (Reps.one (show Kd.M (Kd.int .u8) _ _ _ ((wrap64 (128 + (Go.bits .and .i64 x0_2 63))) % 256) [.int .u8 ((wrap64 (128 + (Go.bits .and .i64 x0_2 63))) % 256)] from rfl) (Reps.none _ _)))); intro v273 w10 ho11 hb hg_ hnew_; clear hg_ hnew_; (first | rw [← Ny272.out] at ho11 | (simp only [Int.reduceToNat] at ho11; rw [← Ny272.out] at ho11)); have n0_ := Aside0.mk (Kd.R_lower ho11 (below_size (by repeat (first | (with_reducible first | exact HB.out | apply below_alloc | apply pw_below_drewN | apply below_drew1) | exact HB.out)))); have n1_ := Aside0.mk (below_step (by repeat (first | (with_reducible first | exact HB.out | apply below_alloc | apply pw_below_drewN | apply below_drew1) | exact HB.out)) hb); clear HB; have HO274 := n0_; have HB := n1_; clear n0_ n1_; clear hb ho11; have hcv12 := own_string (P := Try.prog) Try.underlying44 Try.underlying5 Try.underlying9 (Kd.own_of_R HO274.out)))
     go_ret
     exact ⟨by first | rfl | (simp [errW_none, errW_some] <;> rfl) | (simp [*, errW_none, errW_some] <;> rfl), by repeat (first | (with_reducible first | exact HB.out | apply below_alloc | apply pw_below_drewN | apply below_drew1) | exact HB.out)⟩
    ·rw [if_neg c9] at H
     have c9b0 : decide (x0_2 < 2048) = false := decide_eq_false c9
     clear c9
     by_cases c13 : x0_2 < 65536
     ·rw [if_pos c13] at H
      have c13b0 : decide (x0_2 < 65536) = true := decide_eq_true c13
      clear c13
      obtain ⟨y275, hy275⟩ : ∃ y_ : List Int, y_ = (([(wrap64 (224 + (x0_2 / 4096))) % 256, (wrap64 (128 + (Go.bits .and .i64 (x0_2 / 64) 63))) % 256, (wrap64 (128 + (Go.bits .and .i64 x0_2 63))) % 256] : List Int)) := ⟨_, rfl⟩
      replace H : (some (strOfNums y275)) = some r := by first | (rw [hy275]; with_reducible exact H) | (have H2_ := (Option.bind_some _ _).symm.trans H; rw [hy275]; with_reducible exact H2_) | (have H2_ := (Option.bind_some _ _).symm.trans H; with_reducible exact H2_) | with_reducible exact H | (rw [hy275]; exact H) | exact H
      have Ny275 := Aside0.mk hy275
      clear hy275
      obtain rfl := Option.some.inj H
      go_wp2_with (first | ((with_reducible refine gate_dst (N := 42) rfl ?_); refine Kd.R_lit (Kd.int .u8) _ 5 ?hg (N := 42) ?hd (xs := ([(wrap64 (224 + (x0_2 / 4096))) % 256, (wrap64 (128 + (Go.bits .and .i64 (x0_2 / 64) 63))) % 256, (wrap64 (128 + (Go.bits .and .i64 x0_2 63))) % 256] : List Int)) (inner := [.int .u8 ((wrap64 (224 + (x0_2 / 4096))) % 256), .int .u8 ((wrap64 (128 + (Go.bits .and .i64 (x0_2 / 64) 63))) % 256), .int .u8 ((wrap64 (128 + (Go.bits .and .i64 x0_2 63))) % 256)]) (ok := fun _ => True) (okp := fun _ => True) ?hr ?hp (fun _ hk => hk) trivial (Below.refl _ _) (Nat.le_refl _) (by simp) ?_; (case hd => rfl); (case hg => rfl); (case hr => first | (go_simp; done) | (go_simp; rfl)); (case hp => exact (Reps.one (show Kd.M (Kd.int .u8) _ _ _ ((wrap64 (224 + (x0_2 / 4096))) % 256) [.int .u8 ((wrap64 (224 + (x0_2 / 4096))) % 256)] from rfl) (Reps.one (show Kd.M (Kd.int .u8) _ _ _ ((wrap64 (128 + (Go.bits .and .i64 (x0_2 / 64) 63))) % 256) [.int .u8 ((wrap64 (128 + (Go.bits .and .i64 (x0_2 / 64) 63))) % 256)] from rfl) (Reps.one (show Kd.M (Kd.int .u8) _ _ _ ((wrap64 (128 + (Go.bits .and .i64 x0_2 63))) % 256) [.int .u8 ((wrap64 (128 + (Go.bits .and .i64 x0_2 63))) % 256)] from rfl) (Reps.none _ _))))); intro v276 w14 ho15 hb hg_ hnew_; clear hg_ hnew_; (first | rw [← Ny275.out] at ho15 | (simp only [Int.reduceToNat] at ho15; rw [← Ny275.out] at ho15)); have n0_ := Aside0.mk (Kd.R_lower ho15 (below_size (by repeat (first | (with_reducible first | exact HB.out | apply below_alloc | apply pw_below_drewN | apply below_drew1) | exact HB.out)))); have n1_ := Aside0.mk (below_step (by repeat (first | (with_reducible first | exact HB.out | apply below_alloc | apply pw_below_drewN | apply below_drew1) | exact HB.out)) hb); clear HB; have HO277 := n0_; have HB := n1_; clear n0_ n1_; clear hb ho15; have hcv16 := own_string (P := Try.prog) Try.underlying44 Try.underlying5 Try.underlying9 (Kd.own_of_R HO277.out)))
      go_ret
      exact ⟨by first | rfl | (simp [errW_none, errW_some] <;> rfl) | (simp [*, errW_none, errW_some] <;> rfl), by repeat (first | (with_reducible first | exact HB.out | apply below_alloc | apply pw_below_drewN | apply below_drew1) | exact HB.out)⟩
     ·rw [if_neg c13] at H
      have c13b0 : decide (x0_2 < 65536) = false := decide_eq_false c13
      clear c13
      obtain ⟨y278, hy278⟩ : ∃ y_ : List Int, y_ = (([(wrap64 (240 + (x0_2 / 262144))) % 256, (wrap64 (128 + (Go.bits .and .i64 (x0_2 / 4096) 63))) % 256, (wrap64 (128 + (Go.bits .and .i64 (x0_2 / 64) 63))) % 256, (wrap64 (128 + (Go.bits .and .i64 x0_2 63))) % 256] : List Int)) := ⟨_, rfl⟩
      replace H : (some (strOfNums y278)) = some r := by first | (rw [hy278]; with_reducible exact H) | (have H2_ := (Option.bind_some _ _).symm.trans H; rw [hy278]; with_reducible exact H2_) | (have H2_ := (Option.bind_some _ _).symm.trans H; with_reducible exact H2_) | with_reducible exact H | (rw [hy278]; exact H) | exact H
      have Ny278 := Aside0.mk hy278
      clear hy278
      obtain rfl := Option.some.inj H
      go_wp2_with (first | ((with_reducible refine gate_dst (N := 62) rfl ?_); refine Kd.R_lit (Kd.int .u8) _ 5 ?hg (N := 62) ?hd (xs := ([(wrap64 (240 + (x0_2 / 262144))) % 256, (wrap64 (128 + (Go.bits .and .i64 (x0_2 / 4096) 63))) % 256, (wrap64 (128 + (Go.bits .and .i64 (x0_2 / 64) 63))) % 256, (wrap64 (128 + (Go.bits .and .i64 x0_2 63))) % 256] : List Int)) (inner := [.int .u8 ((wrap64 (240 + (x0_2 / 262144))) % 256), .int .u8 ((wrap64 (128 + (Go.bits .and .i64 (x0_2 / 4096) 63))) % 256), .int .u8 ((wrap64 (128 + (Go.bits .and .i64 (x0_2 / 64) 63))) % 256), .int .u8 ((wrap64 (128 + (Go.bits .and .i64 x0_2 63))) % 256)]) (ok := fun _ => True) (okp := fun _ => True) ?hr ?hp (fun _ hk => hk) trivial (Below.refl _ _) (Nat.le_refl _) (by simp) ?_; (case hd => rfl); (case hg => rfl); (case hr => first | (go_simp; done) | (go_simp; rfl)); (case hp => exact (Reps.one (show Kd.M (Kd.int .u8) _ _ _ ((wrap64 (240 + (x0_2 / 262144))) % 256) [.int .u8 ((wrap64 (240 + (x0_2 / 262144))) % 256)] from rfl) (Reps.one (show Kd.M (Kd.int .u8) _ _ _ ((wrap64 (128 + (Go.bits .and .i64 (x0_2 / 4096) 63))) % 256) [.int .u8 ((wrap64 (128 + (Go.bits .and .i64 (x0_2 / 4096) 63))) % 256)] from rfl) (Reps.one (show Kd.M (Kd.int .u8) _ _ _ ((wrap64 (128 + (Go.bits .and .i64 (x0_2 / 64) 63))) % 256) [.int .u8 ((wrap64 (128 + (Go.bits .and .i64 (x0_2 / 64) 63))) % 256)] from rfl) (Reps.one (show Kd.M (Kd.int .u8) _ _ _ ((wrap64 (128 + (Go.bits .and .i64 x0_2 63))) % 256) [.int .u8 ((wrap64 (128 + (Go.bits .and .i64 x0_2 63))) % 256)] from rfl) (Reps.none _ _)))))); intro v279 w17 ho18 hb hg_ hnew_; clear hg_ hnew_; (first | rw [← Ny278.out] at ho18 | (simp only [Int.reduceToNat] at ho18; rw [← Ny278.out] at ho18)); have n0_ := Aside0.mk (Kd.R_lower ho18 (below_size (by repeat (first | (with_reducible first | exact HB.out | apply below_alloc | apply pw_below_drewN | apply below_drew1) | exact HB.out)))); have n1_ := Aside0.mk (below_step (by repeat (first | (with_reducible first | exact HB.out | apply below_alloc | apply pw_below_drewN | apply below_drew1) | exact HB.out)) hb); clear HB; have HO280 := n0_; have HB := n1_; clear n0_ n1_; clear hb ho18; have hcv19 := own_string (P := Try.prog) Try.underlying44 Try.underlying5 Try.underlying9 (Kd.own_of_R HO280.out)))
      go_ret
      exact ⟨by first | rfl | (simp [errW_none, errW_some] <;> rfl) | (simp [*, errW_none, errW_some] <;> rfl), by repeat (first | (with_reducible first | exact HB.out | apply below_alloc | apply pw_below_drewN | apply below_drew1) | exact HB.out)⟩
end Go.Proofs.Ytlocaaebgghkbaa.A
