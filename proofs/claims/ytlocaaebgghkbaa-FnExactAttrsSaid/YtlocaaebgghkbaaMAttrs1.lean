-- joined by wip/tools/merge.py
import Derived.Test.YtlocaaebgghkbaaMAttrs0
namespace Go.Proofs.Ytlocaaebgghkbaa.A
open Go.RowKit Go.Proofs.YtlocaaebgghkbaaW.PrintWords Go.Proofs.YtlocaaebgghkbaaW.PrintLast Go.Proofs.YtlocaaebgghkbaaW.PrintMore
attribute [local go_sem] max2_int min2_int max_two min_two max_three min_three max_four min_four   -- for this text's walks alone
set_option linter.unusedVariables false
set_option linter.unusedSimpArgs false

/-! ### impl_tagger_name: function 52 -/
def impl_tagger_name.l0 : Nat → Int → ByteArray → Int → Bool → Bool → Option (ByteArray × ByteArray × Int × Bool × Bool)
 | 0, _, _, _, _, _ => none
 | k + 1, x3, x1000, x1001, x1002, x1003 => (impl_tagger_isOver.f x1000 x1001 x1002 x1003).bind fun bt117 => (if bt117.1 = true then (if 0 ≤ x3 then (if x3 ≤ bt117.2.2.1 then (if bt117.2.2.1 ≤ (bt117.2.1.size : Int) then (some (bt117.2.1.extract (x3 : Int).toNat (bt117.2.2.1 : Int).toNat, bt117.2.1, bt117.2.2.1, bt117.2.2.2.1, bt117.2.2.2.2)) else (none)) else (none)) else (none)) else (if 0 ≤ bt117.2.2.1 then (if bt117.2.2.1 < (bt117.2.1.size : Int) then ((impl_isBlankByte.f (bt bt117.2.1 bt117.2.2.1)).bind fun t122 => (if t122 = true then (if 0 ≤ x3 then (if x3 ≤ bt117.2.2.1 then (if bt117.2.2.1 ≤ (bt117.2.1.size : Int) then (some (bt117.2.1.extract (x3 : Int).toNat (bt117.2.2.1 : Int).toNat, bt117.2.1, bt117.2.2.1, bt117.2.2.2.1, bt117.2.2.2.2)) else (none)) else (none)) else (none)) else (if (bt bt117.2.1 bt117.2.2.1) = 47 then (if 0 ≤ x3 then (if x3 ≤ bt117.2.2.1 then (if bt117.2.2.1 ≤ (bt117.2.1.size : Int) then (some (bt117.2.1.extract (x3 : Int).toNat (bt117.2.2.1 : Int).toNat, bt117.2.1, bt117.2.2.1, bt117.2.2.2.1, bt117.2.2.2.2)) else (none)) else (none)) else (none)) else (if (bt bt117.2.1 bt117.2.2.1) = 61 then (if bt117.2.2.1 > x3 then (if 0 ≤ x3 then (if x3 ≤ bt117.2.2.1 then (if bt117.2.2.1 ≤ (bt117.2.1.size : Int) then (some (bt117.2.1.extract (x3 : Int).toNat (bt117.2.2.1 : Int).toNat, bt117.2.1, bt117.2.2.1, bt117.2.2.2.1, bt117.2.2.2.2)) else (none)) else (none)) else (none)) else (impl_tagger_name.l0 k x3 bt117.2.1 (wrap64 (bt117.2.2.1 + 1)) bt117.2.2.2.1 bt117.2.2.2.2)) else (impl_tagger_name.l0 k x3 bt117.2.1 (wrap64 (bt117.2.2.1 + 1)) bt117.2.2.2.1 bt117.2.2.2.2))))) else (none)) else (none)))
def impl_tagger_name.f (k : Nat) (s0_0 : ByteArray) (s0_1 : Int) (s0_2 : Bool) (s0_3 : Bool) : Option (ByteArray × ByteArray × Int × Bool × Bool) := impl_tagger_name.l0 k s0_1 s0_0 s0_1 s0_2 s0_3
theorem impl_tagger_name.mono_l : ∀ k, (∀ y0 y1 y2 y3 y4, LeO (impl_tagger_name.l0 k y0 y1 y2 y3 y4) (impl_tagger_name.l0 (k + 1) y0 y1 y2 y3 y4))
 | 0 => fun _ _ _ _ _ r h => by simp [impl_tagger_name.l0] at h
 | k + 1 => by
  have ih0 := impl_tagger_name.mono_l k
  ·intro y0 y1 y2 y3 y4
   unfold impl_tagger_name.l0
   repeat' first
   | (with_reducible exact ih0 _ _ _ _ _)
   | (with_reducible exact LeO.refl _)
   | (with_reducible exact LeO.none _)
   | (with_reducible refine LeO.ite ?_ ?_)
   | (with_reducible refine LeO.bind ?_ (fun _ => ?_))
   | exact ih0 _ _ _ _ _
   | exact LeO.none _
   | refine LeO.ite ?_ ?_
   | refine LeO.bind ?_ (fun _ => ?_)
theorem impl_tagger_name.mono : ∀ a0 a1 a2 a3 k, LeO (impl_tagger_name.f k a0 a1 a2 a3) (impl_tagger_name.f (k + 1) a0 a1 a2 a3) := by
 intro a0 a1 a2 a3 k
 have ih0 := impl_tagger_name.mono_l k
 unfold impl_tagger_name.f
 repeat' first
   | (with_reducible exact ih0 _ _ _ _ _)
   | (with_reducible exact LeO.refl _)
   | (with_reducible exact LeO.none _)
   | (with_reducible refine LeO.ite ?_ ?_)
   | (with_reducible refine LeO.bind ?_ (fun _ => ?_))
   | exact ih0 _ _ _ _ _
   | exact LeO.none _
   | refine LeO.ite ?_ ?_
   | refine LeO.bind ?_ (fun _ => ?_)
set_option maxHeartbeats 8000000 in
set_option maxRecDepth 100000 in
theorem impl_tagger_name.calls (k : Nat) (g : Nat) (s0_0 : ByteArray) (s0_1 : Int) (s0_2 : Bool) (s0_3 : Bool) (r1 : ByteArray) (r2 : ByteArray) (r3 : Int) (r4 : Bool) (r5 : Bool) (w0 w : World) (hI : IsS58 w0 w g s0_0 s0_1 s0_2 s0_3) (hB : Below w0.heap.size w0 w) (h : impl_tagger_name.f k s0_0 s0_1 s0_2 s0_3 = some (r1, r2, r3, r4, r5)) :
  Calls Try.prog 52 #[.pointer (some ⟨g, 0, none⟩)] w fun e w' => e = .returned (.string r1) ∧ IsS58 w0 w' g r2 r3 r4 r5 ∧ Below w0.heap.size w0 w' ∧ KeepBut w w' g none := by
 have HI0 := Aside0.mk hI
 have HK := Aside0.mk (KeepBut.refl w g none)
 have HL := Aside0.mk hB.size
 clear hI
 have HW0 := Aside0.mk hB.size
 have HB := Aside0.mk hB
 clear hB
 have H : (impl_tagger_name.l0 k s0_1 s0_0 s0_1 s0_2 s0_3) = some (r1, r2, r3, r4, r5) := h
 clear h
 have H' := Aside0.mk H
 clear H
 obtain ⟨HGz2, hgz2⟩ := HI0.out
 have hcz2_0 := cellS58_0 HGz2
 have hcz2_1 := cellS58_1 HGz2
 have hcz2_2 := cellS58_2 HGz2
 have hcz2_3 := cellS58_3 HGz2
 have hfz2_0 := blk_frozen HGz2 0
 have hfz2_1 := blk_frozen HGz2 1
 have hfz2_2 := blk_frozen HGz2 2
 have hfz2_3 := blk_frozen HGz2 3
 clear HGz2 hgz2
 go_enter Try.func52, Try.ntmps52
 go_wp2
 repeat (go_quiet (fail); try go_wp2)
 go_loopg [] k (fun kq w' => ∃ (x1000_1 : ByteArray) (x1001_1 : Int) (x1002_1 : Bool) (x1003_1 : Bool), Aside0 (impl_tagger_name.l0 kq s0_1 x1000_1 x1001_1 x1002_1 x1003_1 = some (r1, r2, r3, r4, r5)) ∧ Aside0 (kq ≤ k) ∧ Aside0 (IsS58 w0 w' g x1000_1 x1001_1 x1002_1 x1003_1) ∧ Aside0 (KeepBut w w' g none) ∧ Aside0 (Below w0.heap.size w0 w'))
 case atStart => exact ⟨(s0_0), (s0_1), (s0_2), (s0_3), H', ⟨Nat.le_refl _⟩, ⟨by repeat (first | (with_reducible first | exact HI0.out | apply IsS58.alloc | apply IsS58.drewN | apply IsS58.drew | apply IsS58.set_0 | apply IsS58.set_1 | apply IsS58.set_2 | apply IsS58.set_3) | exact HI0.out)⟩, ⟨by repeat (first | (with_reducible first | exact HK.out | apply KeepBut.set_ | apply keep_drewN | apply keep_drew | apply keep_alloc) | exact HK.out)⟩, ⟨by repeat (first | (with_reducible first | exact HB.out | apply below_alloc | apply pw_below_drewN | apply below_drew1 | refine below_set ?_ (IsS58.ge HI0.out)) | exact HB.out)⟩⟩
 case round =>
  clear H'
  try clear p2
  try clear hcz2_0
  try clear hcz2_1
  try clear hcz2_2
  try clear hcz2_3
  try clear hfz2_0
  try clear hfz2_1
  try clear hfz2_2
  try clear hfz2_3
  obtain ⟨x1000_1, x1001_1, x1002_1, x1003_1, HA, HK1, HI0, HK, HB⟩ := hrel
  cases gk with
  | zero => exact absurd HA.out (by simp [impl_tagger_name.l0])
  | succ k1 =>
   have H := HA.out
   clear HA
   simp only [impl_tagger_name.l0] at H
   replace H := Option.bind_eq_some_iff.mp H
   obtain ⟨⟨t117, t118, t119, t120, t121⟩, A30, H⟩ := H
   replace H : (if t117 = true then (if 0 ≤ s0_1 then (if s0_1 ≤ t119 then (if t119 ≤ (t118.size : Int) then (some (t118.extract (s0_1 : Int).toNat (t119 : Int).toNat, t118, t119, t120, t121)) else (none)) else (none)) else (none)) else (if 0 ≤ t119 then (if t119 < (t118.size : Int) then ((impl_isBlankByte.f (bt t118 t119)).bind fun t122 => (if t122 = true then (if 0 ≤ s0_1 then (if s0_1 ≤ t119 then (if t119 ≤ (t118.size : Int) then (some (t118.extract (s0_1 : Int).toNat (t119 : Int).toNat, t118, t119, t120, t121)) else (none)) else (none)) else (none)) else (if (bt t118 t119) = 47 then (if 0 ≤ s0_1 then (if s0_1 ≤ t119 then (if t119 ≤ (t118.size : Int) then (some (t118.extract (s0_1 : Int).toNat (t119 : Int).toNat, t118, t119, t120, t121)) else (none)) else (none)) else (none)) else (if (bt t118 t119) = 61 then (if t119 > s0_1 then (if 0 ≤ s0_1 then (if s0_1 ≤ t119 then (if t119 ≤ (t118.size : Int) then (some (t118.extract (s0_1 : Int).toNat (t119 : Int).toNat, t118, t119, t120, t121)) else (none)) else (none)) else (none)) else (impl_tagger_name.l0 k1 s0_1 t118 (wrap64 (t119 + 1)) t120 t121)) else (impl_tagger_name.l0 k1 s0_1 t118 (wrap64 (t119 + 1)) t120 t121))))) else (none)) else (none))) = some (r1, r2, r3, r4, r5) := H
   have A3 := Aside0.mk A30
   clear A30
   by_cases c4 : t117 = true
   ·subst c4
    have H1 : (if 0 ≤ s0_1 then (if s0_1 ≤ t119 then (if t119 ≤ (t118.size : Int) then (some (t118.extract (s0_1 : Int).toNat (t119 : Int).toNat, t118, t119, t120, t121)) else (none)) else (none)) else (none)) = some (r1, r2, r3, r4, r5) := by rw [if_pos rfl] at H; exact H
    clear H
    have H := H1
    clear H1
    by_cases c5 : 0 ≤ s0_1
    ·rw [if_pos c5] at H
     have c5b0 := eq_true c5
     have c5b1 : decide (0 ≤ s0_1) = true := decide_eq_true c5
     clear c5
     by_cases c6 : s0_1 ≤ t119
     ·rw [if_pos c6] at H
      have c6b0 := eq_true c6
      have c6b1 : decide (s0_1 ≤ t119) = true := decide_eq_true c6
      clear c6
      by_cases c7 : t119 ≤ (t118.size : Int)
      ·rw [if_pos c7] at H
       have c7b0 := eq_true c7
       have c7b1 : decide (t119 ≤ (t118.size : Int)) = true := decide_eq_true c7
       clear c7
       simp only [Option.some.injEq, Prod.mk.injEq] at H
       obtain ⟨rfl, rfl, rfl, rfl, rfl⟩ := H
       go_wp2_with (first | (go_at_call 51; (with_reducible refine (impl_tagger_isOver.calls g x1000_1 x1001_1 x1002_1 x1003_1 true t118 t119 t120 t121 w0 _ ?side1 ?side2 A3.out).mono ?_); (case side1 => repeat (first | (with_reducible first | exact HI0.out | apply IsS58.alloc | apply IsS58.drewN | apply IsS58.drew | apply IsS58.set_0 | apply IsS58.set_1 | apply IsS58.set_2 | apply IsS58.set_3) | exact HI0.out)); (case side2 => repeat (first | (with_reducible first | exact HB.out | apply below_alloc | apply pw_below_drewN | apply below_drew1 | refine below_set ?_ (IsS58.ge HI0.out)) | exact HB.out)); rintro e w8 ⟨rfl, hi, hb, hk⟩; have n0_ := Aside0.mk (KeepBut.trans (by repeat (first | (with_reducible first | exact HK.out | apply KeepBut.set_ | apply keep_drewN | apply keep_drew | apply keep_alloc) | exact HK.out)) hk (.inl rfl)); have n1_ := Aside0.mk (hb); have n2_ := Aside0.mk (hi); clear HK; clear HB; clear HI0; have HK := n0_; have HB := n1_; have HI0 := n2_; clear n0_ n1_ n2_; (try clear hb); (try clear hb2); (try clear hk); (try clear hi); obtain ⟨HGz9, hgz9⟩ := HI0.out; have hcz9_0 := cellS58_0 HGz9; have hcz9_1 := cellS58_1 HGz9; have hcz9_2 := cellS58_2 HGz9; have hcz9_3 := cellS58_3 HGz9; have hfz9_0 := blk_frozen HGz9 0; have hfz9_1 := blk_frozen HGz9 1; have hfz9_2 := blk_frozen HGz9 2; have hfz9_3 := blk_frozen HGz9 3; clear HGz9 hgz9))
       repeat (go_quiet (first | (go_at_call 51; (with_reducible refine (impl_tagger_isOver.calls g x1000_1 x1001_1 x1002_1 x1003_1 true t118 t119 t120 t121 w0 _ ?side1 ?side2 A3.out).mono ?_); (case side1 => repeat (first | (with_reducible first | exact HI0.out | apply IsS58.alloc | apply IsS58.drewN | apply IsS58.drew | apply IsS58.set_0 | apply IsS58.set_1 | apply IsS58.set_2 | apply IsS58.set_3) | exact HI0.out)); (case side2 => repeat (first | (with_reducible first | exact HB.out | apply below_alloc | apply pw_below_drewN | apply below_drew1 | refine below_set ?_ (IsS58.ge HI0.out)) | exact HB.out)); rintro e w8 ⟨rfl, hi, hb, hk⟩; have n0_ := Aside0.mk (KeepBut.trans (by repeat (first | (with_reducible first | exact HK.out | apply KeepBut.set_ | apply keep_drewN | apply keep_drew | apply keep_alloc) | exact HK.out)) hk (.inl rfl)); have n1_ := Aside0.mk (hb); have n2_ := Aside0.mk (hi); clear HK; clear HB; clear HI0; have HK := n0_; have HB := n1_; have HI0 := n2_; clear n0_ n1_ n2_; (try clear hb); (try clear hb2); (try clear hk); (try clear hi); obtain ⟨HGz9, hgz9⟩ := HI0.out; have hcz9_0 := cellS58_0 HGz9; have hcz9_1 := cellS58_1 HGz9; have hcz9_2 := cellS58_2 HGz9; have hcz9_3 := cellS58_3 HGz9; have hfz9_0 := blk_frozen HGz9 0; have hfz9_1 := blk_frozen HGz9 1; have hfz9_2 := blk_frozen HGz9 2; have hfz9_3 := blk_frozen HGz9 3; clear HGz9 hgz9)); try go_wp2_with (first | (go_at_call 51; (with_reducible refine (impl_tagger_isOver.calls g x1000_1 x1001_1 x1002_1 x1003_1 true t118 t119 t120 t121 w0 _ ?side1 ?side2 A3.out).mono ?_); (case side1 => repeat (first | (with_reducible first | exact HI0.out | apply IsS58.alloc | apply IsS58.drewN | apply IsS58.drew | apply IsS58.set_0 | apply IsS58.set_1 | apply IsS58.set_2 | apply IsS58.set_3) | exact HI0.out)); (case side2 => repeat (first | (with_reducible first | exact HB.out | apply below_alloc | apply pw_below_drewN | apply below_drew1 | refine below_set ?_ (IsS58.ge HI0.out)) | exact HB.out)); rintro e w8 ⟨rfl, hi, hb, hk⟩; have n0_ := Aside0.mk (KeepBut.trans (by repeat (first | (with_reducible first | exact HK.out | apply KeepBut.set_ | apply keep_drewN | apply keep_drew | apply keep_alloc) | exact HK.out)) hk (.inl rfl)); have n1_ := Aside0.mk (hb); have n2_ := Aside0.mk (hi); clear HK; clear HB; clear HI0; have HK := n0_; have HB := n1_; have HI0 := n2_; clear n0_ n1_ n2_; (try clear hb); (try clear hb2); (try clear hk); (try clear hi); obtain ⟨HGz9, hgz9⟩ := HI0.out; have hcz9_0 := cellS58_0 HGz9; have hcz9_1 := cellS58_1 HGz9; have hcz9_2 := cellS58_2 HGz9; have hcz9_3 := cellS58_3 HGz9; have hfz9_0 := blk_frozen HGz9 0; have hfz9_1 := blk_frozen HGz9 1; have hfz9_2 := blk_frozen HGz9 2; have hfz9_3 := blk_frozen HGz9 3; clear HGz9 hgz9)))
       go_ret
       exact ⟨by first | rfl | (simp [errW_none, errW_some] <;> rfl) | (simp [*, errW_none, errW_some] <;> rfl), by repeat (first | (with_reducible first | exact HI0.out | apply IsS58.alloc | apply IsS58.drewN | apply IsS58.drew | apply IsS58.set_0 | apply IsS58.set_1 | apply IsS58.set_2 | apply IsS58.set_3) | exact HI0.out), by repeat (first | (with_reducible first | exact HB.out | apply below_alloc | apply pw_below_drewN | apply below_drew1 | refine below_set ?_ (IsS58.ge HI0.out)) | exact HB.out), by repeat (first | (with_reducible first | exact HK.out | apply KeepBut.set_ | apply keep_drewN | apply keep_drew | apply keep_alloc) | exact HK.out)⟩
      ·rw [if_neg c7] at H
       exact absurd H (by simp)
     ·rw [if_neg c6] at H
      exact absurd H (by simp)
    ·rw [if_neg c5] at H
     exact absurd H (by simp)
   ·replace c4 := Bool.eq_false_iff.mpr c4
    subst c4
    have H1 : (if 0 ≤ t119 then (if t119 < (t118.size : Int) then ((impl_isBlankByte.f (bt t118 t119)).bind fun t122 => (if t122 = true then (if 0 ≤ s0_1 then (if s0_1 ≤ t119 then (if t119 ≤ (t118.size : Int) then (some (t118.extract (s0_1 : Int).toNat (t119 : Int).toNat, t118, t119, t120, t121)) else (none)) else (none)) else (none)) else (if (bt t118 t119) = 47 then (if 0 ≤ s0_1 then (if s0_1 ≤ t119 then (if t119 ≤ (t118.size : Int) then (some (t118.extract (s0_1 : Int).toNat (t119 : Int).toNat, t118, t119, t120, t121)) else (none)) else (none)) else (none)) else (if (bt t118 t119) = 61 then (if t119 > s0_1 then (if 0 ≤ s0_1 then (if s0_1 ≤ t119 then (if t119 ≤ (t118.size : Int) then (some (t118.extract (s0_1 : Int).toNat (t119 : Int).toNat, t118, t119, t120, t121)) else (none)) else (none)) else (none)) else (impl_tagger_name.l0 k1 s0_1 t118 (wrap64 (t119 + 1)) t120 t121)) else (impl_tagger_name.l0 k1 s0_1 t118 (wrap64 (t119 + 1)) t120 t121))))) else (none)) else (none)) = some (r1, r2, r3, r4, r5) := by rw [if_neg (show ¬ (false = true) by decide)] at H; exact H
    clear H
    have H := H1
    clear H1
    by_cases c10 : 0 ≤ t119
    ·rw [if_pos c10] at H
     have c10b0 : decide (0 ≤ t119) = true := decide_eq_true c10
     clear c10
     by_cases c11 : t119 < (t118.size : Int)
     ·rw [if_pos c11] at H
      have c11b0 : decide (t119 < (t118.size : Int)) = true := decide_eq_true c11
      clear c11
      replace H := Option.bind_eq_some_iff.mp H
      obtain ⟨t122, A130, H⟩ := H
      replace H : (if t122 = true then (if 0 ≤ s0_1 then (if s0_1 ≤ t119 then (if t119 ≤ (t118.size : Int) then (some (t118.extract (s0_1 : Int).toNat (t119 : Int).toNat, t118, t119, t120, t121)) else (none)) else (none)) else (none)) else (if (bt t118 t119) = 47 then (if 0 ≤ s0_1 then (if s0_1 ≤ t119 then (if t119 ≤ (t118.size : Int) then (some (t118.extract (s0_1 : Int).toNat (t119 : Int).toNat, t118, t119, t120, t121)) else (none)) else (none)) else (none)) else (if (bt t118 t119) = 61 then (if t119 > s0_1 then (if 0 ≤ s0_1 then (if s0_1 ≤ t119 then (if t119 ≤ (t118.size : Int) then (some (t118.extract (s0_1 : Int).toNat (t119 : Int).toNat, t118, t119, t120, t121)) else (none)) else (none)) else (none)) else (impl_tagger_name.l0 k1 s0_1 t118 (wrap64 (t119 + 1)) t120 t121)) else (impl_tagger_name.l0 k1 s0_1 t118 (wrap64 (t119 + 1)) t120 t121)))) = some (r1, r2, r3, r4, r5) := H
      have A13 := Aside0.mk A130
      clear A130
      by_cases c14 : t122 = true
      ·subst c14
       have H1 : (if 0 ≤ s0_1 then (if s0_1 ≤ t119 then (if t119 ≤ (t118.size : Int) then (some (t118.extract (s0_1 : Int).toNat (t119 : Int).toNat, t118, t119, t120, t121)) else (none)) else (none)) else (none)) = some (r1, r2, r3, r4, r5) := by rw [if_pos rfl] at H; exact H
       clear H
       have H := H1
       clear H1
       by_cases c15 : 0 ≤ s0_1
       ·rw [if_pos c15] at H
        have c15b0 := eq_true c15
        have c15b1 : decide (0 ≤ s0_1) = true := decide_eq_true c15
        clear c15
        by_cases c16 : s0_1 ≤ t119
        ·rw [if_pos c16] at H
         have c16b0 := eq_true c16
         have c16b1 : decide (s0_1 ≤ t119) = true := decide_eq_true c16
         clear c16
         by_cases c17 : t119 ≤ (t118.size : Int)
         ·rw [if_pos c17] at H
          have c17b0 := eq_true c17
          have c17b1 : decide (t119 ≤ (t118.size : Int)) = true := decide_eq_true c17
          clear c17
          simp only [Option.some.injEq, Prod.mk.injEq] at H
          obtain ⟨rfl, rfl, rfl, rfl, rfl⟩ := H
          go_wp2_with (first | (go_at_call 51; (with_reducible refine (impl_tagger_isOver.calls g x1000_1 x1001_1 x1002_1 x1003_1 false t118 t119 t120 t121 w0 _ ?side1 ?side2 A3.out).mono ?_); (case side1 => repeat (first | (with_reducible first | exact HI0.out | apply IsS58.alloc | apply IsS58.drewN | apply IsS58.drew | apply IsS58.set_0 | apply IsS58.set_1 | apply IsS58.set_2 | apply IsS58.set_3) | exact HI0.out)); (case side2 => repeat (first | (with_reducible first | exact HB.out | apply below_alloc | apply pw_below_drewN | apply below_drew1 | refine below_set ?_ (IsS58.ge HI0.out)) | exact HB.out)); rintro e w18 ⟨rfl, hi, hb, hk⟩; have n0_ := Aside0.mk (KeepBut.trans (by repeat (first | (with_reducible first | exact HK.out | apply KeepBut.set_ | apply keep_drewN | apply keep_drew | apply keep_alloc) | exact HK.out)) hk (.inl rfl)); have n1_ := Aside0.mk (hb); have n2_ := Aside0.mk (hi); clear HK; clear HB; clear HI0; have HK := n0_; have HB := n1_; have HI0 := n2_; clear n0_ n1_ n2_; (try clear hb); (try clear hb2); (try clear hk); (try clear hi); obtain ⟨HGz19, hgz19⟩ := HI0.out; have hcz19_0 := cellS58_0 HGz19; have hcz19_1 := cellS58_1 HGz19; have hcz19_2 := cellS58_2 HGz19; have hcz19_3 := cellS58_3 HGz19; have hfz19_0 := blk_frozen HGz19 0; have hfz19_1 := blk_frozen HGz19 1; have hfz19_2 := blk_frozen HGz19 2; have hfz19_3 := blk_frozen HGz19 3; clear HGz19 hgz19; have p12 : 0 ≤ (t119 : Int) := of_decide_eq_true (by first | (with_reducible assumption) | assumption); have q12 : t119 < (t118.size : Int) := of_decide_eq_true (by first | (with_reducible assumption) | assumption); have hx12 := bt_at t118 t119; replace p12 := eq_true p12; replace q12 := eq_true q12) | (go_at_call 93; (with_reducible refine (impl_isBlankByte.calls (bt t118 t119) true _ A13.out).mono ?_); rintro e w' ⟨rfl, ⟨nd, rfl⟩⟩; (try first | exact ⟨rfl, _, World.drewN_drewN _ _ _⟩ | exact ⟨rfl, _, Eq.trans (World.drewN_drewN _ _ _) (congrArg (World.drewN _) (Nat.add_assoc _ _ _))⟩)))
          repeat (go_quiet (first | (go_at_call 51; (with_reducible refine (impl_tagger_isOver.calls g x1000_1 x1001_1 x1002_1 x1003_1 false t118 t119 t120 t121 w0 _ ?side1 ?side2 A3.out).mono ?_); (case side1 => repeat (first | (with_reducible first | exact HI0.out | apply IsS58.alloc | apply IsS58.drewN | apply IsS58.drew | apply IsS58.set_0 | apply IsS58.set_1 | apply IsS58.set_2 | apply IsS58.set_3) | exact HI0.out)); (case side2 => repeat (first | (with_reducible first | exact HB.out | apply below_alloc | apply pw_below_drewN | apply below_drew1 | refine below_set ?_ (IsS58.ge HI0.out)) | exact HB.out)); rintro e w18 ⟨rfl, hi, hb, hk⟩; have n0_ := Aside0.mk (KeepBut.trans (by repeat (first | (with_reducible first | exact HK.out | apply KeepBut.set_ | apply keep_drewN | apply keep_drew | apply keep_alloc) | exact HK.out)) hk (.inl rfl)); have n1_ := Aside0.mk (hb); have n2_ := Aside0.mk (hi); clear HK; clear HB; clear HI0; have HK := n0_; have HB := n1_; have HI0 := n2_; clear n0_ n1_ n2_; (try clear hb); (try clear hb2); (try clear hk); (try clear hi); obtain ⟨HGz19, hgz19⟩ := HI0.out; have hcz19_0 := cellS58_0 HGz19; have hcz19_1 := cellS58_1 HGz19; have hcz19_2 := cellS58_2 HGz19; have hcz19_3 := cellS58_3 HGz19; have hfz19_0 := blk_frozen HGz19 0; have hfz19_1 := blk_frozen HGz19 1; have hfz19_2 := blk_frozen HGz19 2; have hfz19_3 := blk_frozen HGz19 3; clear HGz19 hgz19; have p12 : 0 ≤ (t119 : Int) := of_decide_eq_true (by first | (with_reducible assumption) | assumption); have q12 : t119 < (t118.size : Int) := of_decide_eq_true (by first | (with_reducible assumption) | assumption); have hx12 := bt_at t118 t119; replace p12 := eq_true p12; replace q12 := eq_true q12) | (go_at_call 93; (with_reducible refine (impl_isBlankByte.calls (bt t118 t119) true _ A13.out).mono ?_); rintro e w' ⟨rfl, ⟨nd, rfl⟩⟩; (try first | exact ⟨rfl, _, World.drewN_drewN _ _ _⟩ | exact ⟨rfl, _, Eq.trans (World.drewN_drewN _ _ _) (congrArg (World.drewN _) (Nat.add_assoc _ _ _))⟩))); try go_wp2_with (first | (go_at_call 51; (with_reducible refine (impl_tagger_isOver.calls g x1000_1 x1001_1 x1002_1 x1003_1 false t118 t119 t120 t121 w0 _ ?side1 ?side2 A3.out).mono ?_); (case side1 => repeat (first | (with_reducible first | exact HI0.out | apply IsS58.alloc | apply IsS58.drewN | apply IsS58.drew | apply IsS58.set_0 | apply IsS58.set_1 | apply IsS58.set_2 | apply IsS58.set_3) | exact HI0.out)); (case side2 => repeat (first | (with_reducible first | exact HB.out | apply below_alloc | apply pw_below_drewN | apply below_drew1 | refine below_set ?_ (IsS58.ge HI0.out)) | exact HB.out)); rintro e w18 ⟨rfl, hi, hb, hk⟩; have n0_ := Aside0.mk (KeepBut.trans (by repeat (first | (with_reducible first | exact HK.out | apply KeepBut.set_ | apply keep_drewN | apply keep_drew | apply keep_alloc) | exact HK.out)) hk (.inl rfl)); have n1_ := Aside0.mk (hb); have n2_ := Aside0.mk (hi); clear HK; clear HB; clear HI0; have HK := n0_; have HB := n1_; have HI0 := n2_; clear n0_ n1_ n2_; (try clear hb); (try clear hb2); (try clear hk); (try clear hi); obtain ⟨HGz19, hgz19⟩ := HI0.out; have hcz19_0 := cellS58_0 HGz19; have hcz19_1 := cellS58_1 HGz19; have hcz19_2 := cellS58_2 HGz19; have hcz19_3 := cellS58_3 HGz19; have hfz19_0 := blk_frozen HGz19 0; have hfz19_1 := blk_frozen HGz19 1; have hfz19_2 := blk_frozen HGz19 2; have hfz19_3 := blk_frozen HGz19 3; clear HGz19 hgz19; have p12 : 0 ≤ (t119 : Int) := of_decide_eq_true (by first | (with_reducible assumption) | assumption); have q12 : t119 < (t118.size : Int) := of_decide_eq_true (by first | (with_reducible assumption) | assumption); have hx12 := bt_at t118 t119; replace p12 := eq_true p12; replace q12 := eq_true q12) | (go_at_call 93; (with_reducible refine (impl_isBlankByte.calls (bt t118 t119) true _ A13.out).mono ?_); rintro e w' ⟨rfl, ⟨nd, rfl⟩⟩; (try first | exact ⟨rfl, _, World.drewN_drewN _ _ _⟩ | exact ⟨rfl, _, Eq.trans (World.drewN_drewN _ _ _) (congrArg (World.drewN _) (Nat.add_assoc _ _ _))⟩))))
          go_ret
          exact ⟨by first | rfl | (simp [errW_none, errW_some] <;> rfl) | (simp [*, errW_none, errW_some] <;> rfl), by repeat (first | (with_reducible first | exact HI0.out | apply IsS58.alloc | apply IsS58.drewN | apply IsS58.drew | apply IsS58.set_0 | apply IsS58.set_1 | apply IsS58.set_2 | apply IsS58.set_3) | exact HI0.out), by repeat (first | (with_reducible first | exact HB.out | apply below_alloc | apply pw_below_drewN | apply below_drew1 | refine below_set ?_ (IsS58.ge HI0.out)) | exact HB.out), by repeat (first | (with_reducible first | exact HK.out | apply KeepBut.set_ | apply keep_drewN | apply keep_drew | apply keep_alloc) | exact HK.out)⟩
         ·rw [if_neg c17] at H
          exact absurd H (by simp)
        ·rw [if_neg c16] at H
         exact absurd H (by simp)
       ·rw [if_neg c15] at H
        exact absurd H (by simp)
      ·replace c14 := Bool.eq_false_iff.mpr c14
       subst c14
       have H1 : (if (bt t118 t119) = 47 then (if 0 ≤ s0_1 then (if s0_1 ≤ t119 then (if t119 ≤ (t118.size : Int) then (some (t118.extract (s0_1 : Int).toNat (t119 : Int).toNat, t118, t119, t120, t121)) else (none)) else (none)) else (none)) else (if (bt t118 t119) = 61 then (if t119 > s0_1 then (if 0 ≤ s0_1 then (if s0_1 ≤ t119 then (if t119 ≤ (t118.size : Int) then (some (t118.extract (s0_1 : Int).toNat (t119 : Int).toNat, t118, t119, t120, t121)) else (none)) else (none)) else (none)) else (impl_tagger_name.l0 k1 s0_1 t118 (wrap64 (t119 + 1)) t120 t121)) else (impl_tagger_name.l0 k1 s0_1 t118 (wrap64 (t119 + 1)) t120 t121))) = some (r1, r2, r3, r4, r5) := by rw [if_neg (show ¬ (false = true) by decide)] at H; exact H
       clear H
       have H := H1
       clear H1
       by_cases c20 : (bt t118 t119) = 47
       ·rw [if_pos c20] at H
        have c20b0 : ((bt t118 t119) == 47) = true := beq_iff_eq.mpr c20
        have c20b1 : ((bt t118 t119) != 47) = false := bne_eq_false_iff_eq.mpr c20
        clear c20
        by_cases c21 : 0 ≤ s0_1
        ·rw [if_pos c21] at H
         have c21b0 := eq_true c21
         have c21b1 : decide (0 ≤ s0_1) = true := decide_eq_true c21
         clear c21
         by_cases c22 : s0_1 ≤ t119
         ·rw [if_pos c22] at H
          have c22b0 := eq_true c22
          have c22b1 : decide (s0_1 ≤ t119) = true := decide_eq_true c22
          clear c22
          by_cases c23 : t119 ≤ (t118.size : Int)
          ·rw [if_pos c23] at H
           have c23b0 := eq_true c23
           have c23b1 : decide (t119 ≤ (t118.size : Int)) = true := decide_eq_true c23
           clear c23
           simp only [Option.some.injEq, Prod.mk.injEq] at H
           obtain ⟨rfl, rfl, rfl, rfl, rfl⟩ := H
           go_wp2_with (first | (go_at_call 51; (with_reducible refine (impl_tagger_isOver.calls g x1000_1 x1001_1 x1002_1 x1003_1 false t118 t119 t120 t121 w0 _ ?side1 ?side2 A3.out).mono ?_); (case side1 => repeat (first | (with_reducible first | exact HI0.out | apply IsS58.alloc | apply IsS58.drewN | apply IsS58.drew | apply IsS58.set_0 | apply IsS58.set_1 | apply IsS58.set_2 | apply IsS58.set_3) | exact HI0.out)); (case side2 => repeat (first | (with_reducible first | exact HB.out | apply below_alloc | apply pw_below_drewN | apply below_drew1 | refine below_set ?_ (IsS58.ge HI0.out)) | exact HB.out)); rintro e w24 ⟨rfl, hi, hb, hk⟩; have n0_ := Aside0.mk (KeepBut.trans (by repeat (first | (with_reducible first | exact HK.out | apply KeepBut.set_ | apply keep_drewN | apply keep_drew | apply keep_alloc) | exact HK.out)) hk (.inl rfl)); have n1_ := Aside0.mk (hb); have n2_ := Aside0.mk (hi); clear HK; clear HB; clear HI0; have HK := n0_; have HB := n1_; have HI0 := n2_; clear n0_ n1_ n2_; (try clear hb); (try clear hb2); (try clear hk); (try clear hi); obtain ⟨HGz25, hgz25⟩ := HI0.out; have hcz25_0 := cellS58_0 HGz25; have hcz25_1 := cellS58_1 HGz25; have hcz25_2 := cellS58_2 HGz25; have hcz25_3 := cellS58_3 HGz25; have hfz25_0 := blk_frozen HGz25 0; have hfz25_1 := blk_frozen HGz25 1; have hfz25_2 := blk_frozen HGz25 2; have hfz25_3 := blk_frozen HGz25 3; clear HGz25 hgz25; have p12 : 0 ≤ (t119 : Int) := of_decide_eq_true (by first | (with_reducible assumption) | assumption); have q12 : t119 < (t118.size : Int) := of_decide_eq_true (by first | (with_reducible assumption) | assumption); have hx12 := bt_at t118 t119; replace p12 := eq_true p12; replace q12 := eq_true q12) | (go_at_call 93; (with_reducible refine (impl_isBlankByte.calls (bt t118 t119) false _ A13.out).mono ?_); rintro e w' ⟨rfl, ⟨nd, rfl⟩⟩; (try first | exact ⟨rfl, _, World.drewN_drewN _ _ _⟩ | exact ⟨rfl, _, Eq.trans (World.drewN_drewN _ _ _) (congrArg (World.drewN _) (Nat.add_assoc _ _ _))⟩)))
           repeat (go_quiet (first | (go_at_call 51; (with_reducible refine (impl_tagger_isOver.calls g x1000_1 x1001_1 x1002_1 x1003_1 false t118 t119 t120 t121 w0 _ ?side1 ?side2 A3.out).mono ?_); (case side1 => repeat (first | (with_reducible first | exact HI0.out | apply IsS58.alloc | apply IsS58.drewN | apply IsS58.drew | apply IsS58.set_0 | apply IsS58.set_1 | apply IsS58.set_2 | apply IsS58.set_3) | exact HI0.out)); (case side2 => repeat (first | (with_reducible first | exact HB.out | apply below_alloc | apply pw_below_drewN | apply below_drew1 | refine below_set ?_ (IsS58.ge HI0.out)) | exact HB.out)); rintro e w24 ⟨rfl, hi, hb, hk⟩; have n0_ := Aside0.mk (KeepBut.trans (by repeat (first | (with_reducible first | exact HK.out | apply KeepBut.set_ | apply keep_drewN | apply keep_drew | apply keep_alloc) | exact HK.out)) hk (.inl rfl)); have n1_ := Aside0.mk (hb); have n2_ := Aside0.mk (hi); clear HK; clear HB; clear HI0; have HK := n0_; have HB := n1_; have HI0 := n2_; clear n0_ n1_ n2_; (try clear hb); (try clear hb2); (try clear hk); (try clear hi); obtain ⟨HGz25, hgz25⟩ := HI0.out; have hcz25_0 := cellS58_0 HGz25; have hcz25_1 := cellS58_1 HGz25; have hcz25_2 := cellS58_2 HGz25; have hcz25_3 := cellS58_3 HGz25; have hfz25_0 := blk_frozen HGz25 0; have hfz25_1 := blk_frozen HGz25 1; have hfz25_2 := blk_frozen HGz25 2; have hfz25_3 := blk_frozen HGz25 3; clear HGz25 hgz25; have p12 : 0 ≤ (t119 : Int) := of_decide_eq_true (by first | (with_reducible assumption) | assumption); have q12 : t119 < (t118.size : Int) := of_decide_eq_true (by first | (with_reducible assumption) | assumption); have hx12 := bt_at t118 t119; replace p12 := eq_true p12; replace q12 := eq_true q12) | (go_at_call 93; (with_reducible refine (impl_isBlankByte.calls (bt t118 t119) false _ A13.out).mono ?_); rintro e w' ⟨rfl, ⟨nd, rfl⟩⟩; (try first | exact ⟨rfl, _, World.drewN_drewN _ _ _⟩ | exact ⟨rfl, _, Eq.trans (World.drewN_drewN _ _ _) (congrArg (World.drewN _) (Nat.add_assoc _ _ _))⟩))); try go_wp2_with (first | (go_at_call 51; (with_reducible refine (impl_tagger_isOver.calls g x1000_1 x1001_1 x1002_1 x1003_1 false t118 t119 t120 t121 w0 _ ?side1 ?side2 A3.out).mono ?_); (case side1 => repeat (first | (with_reducible first | exact HI0.out | apply IsS58.alloc | apply IsS58.drewN | apply IsS58.drew | apply IsS58.set_0 | apply IsS58.set_1 | apply IsS58.set_2 | apply IsS58.set_3) | exact HI0.out)); (case side2 => repeat (first | (with_reducible first | exact HB.out | apply below_alloc | apply pw_below_drewN | apply below_drew1 | refine below_set ?_ (IsS58.ge HI0.out)) | exact HB.out)); rintro e w24 ⟨rfl, hi, hb, hk⟩; have n0_ := Aside0.mk (KeepBut.trans (by repeat (first | (with_reducible first | exact HK.out | apply KeepBut.set_ | apply keep_drewN | apply keep_drew | apply keep_alloc) | exact HK.out)) hk (.inl rfl)); have n1_ := Aside0.mk (hb); have n2_ := Aside0.mk (hi); clear HK; clear HB; clear HI0; have HK := n0_; have HB := n1_; have HI0 := n2_; clear n0_ n1_ n2_; (try clear hb); (try clear hb2); (try clear hk); (try clear hi); obtain ⟨HGz25, hgz25⟩ := HI0.out; have hcz25_0 := cellS58_0 HGz25; have hcz25_1 := cellS58_1 HGz25; have hcz25_2 := cellS58_2 HGz25; have hcz25_3 := cellS58_3 HGz25; have hfz25_0 := blk_frozen HGz25 0; have hfz25_1 := blk_frozen HGz25 1; have hfz25_2 := blk_frozen HGz25 2; have hfz25_3 := blk_frozen HGz25 3; clear HGz25 hgz25; have p12 : 0 ≤ (t119 : Int) := of_decide_eq_true (by first | (with_reducible assumption) | assumption); have q12 : t119 < (t118.size : Int) := of_decide_eq_true (by first | (with_reducible assumption) | assumption); have hx12 := bt_at t118 t119; replace p12 := eq_true p12; replace q12 := eq_true q12) | (go_at_call 93; (with_reducible refine (impl_isBlankByte.calls (bt t118 t119) false _ A13.out).mono ?_); rintro e w' ⟨rfl, ⟨nd, rfl⟩⟩; (try first | exact ⟨rfl, _, World.drewN_drewN _ _ _⟩ | exact ⟨rfl, _, Eq.trans (World.drewN_drewN _ _ _) (congrArg (World.drewN _) (Nat.add_assoc _ _ _))⟩))))
           go_ret
           exact ⟨by first | rfl | (simp [errW_none, errW_some] <;> rfl) | (simp [*, errW_none, errW_some] <;> rfl), by repeat (first | (with_reducible first | exact HI0.out | apply IsS58.alloc | apply IsS58.drewN | apply IsS58.drew | apply IsS58.set_0 | apply IsS58.set_1 | apply IsS58.set_2 | apply IsS58.set_3) | exact HI0.out), by repeat (first | (with_reducible first | exact HB.out | apply below_alloc | apply pw_below_drewN | apply below_drew1 | refine below_set ?_ (IsS58.ge HI0.out)) | exact HB.out), by repeat (first | (with_reducible first | exact HK.out | apply KeepBut.set_ | apply keep_drewN | apply keep_drew | apply keep_alloc) | exact HK.out)⟩
          ·rw [if_neg c23] at H
           exact absurd H (by simp)
         ·rw [if_neg c22] at H
          exact absurd H (by simp)
        ·rw [if_neg c21] at H
         exact absurd H (by simp)
       ·rw [if_neg c20] at H
        have c20b0 : ((bt t118 t119) == 47) = false := beq_eq_false_iff_ne.mpr c20
        have c20b1 : ((bt t118 t119) != 47) = true := bne_iff_ne.mpr c20
        by_cases c26 : (bt t118 t119) = 61
        ·rw [if_pos c26] at H
         have c26b0 : ((bt t118 t119) == 61) = true := beq_iff_eq.mpr c26
         have c26b1 : ((bt t118 t119) != 61) = false := bne_eq_false_iff_eq.mpr c26
         clear c26
         by_cases c27 : t119 > s0_1
         ·rw [if_pos c27] at H
          have c27b0 : decide (s0_1 < t119) = true := decide_eq_true c27
          clear c27
          by_cases c28 : 0 ≤ s0_1
          ·rw [if_pos c28] at H
           have c28b0 := eq_true c28
           have c28b1 : decide (0 ≤ s0_1) = true := decide_eq_true c28
           clear c28
           by_cases c29 : s0_1 ≤ t119
           ·rw [if_pos c29] at H
            have c29b0 := eq_true c29
            have c29b1 : decide (s0_1 ≤ t119) = true := decide_eq_true c29
            clear c29
            by_cases c30 : t119 ≤ (t118.size : Int)
            ·rw [if_pos c30] at H
             have c30b0 := eq_true c30
             have c30b1 : decide (t119 ≤ (t118.size : Int)) = true := decide_eq_true c30
             clear c30
             simp only [Option.some.injEq, Prod.mk.injEq] at H
             obtain ⟨rfl, rfl, rfl, rfl, rfl⟩ := H
             go_wp2_with (first | (go_at_call 51; (with_reducible refine (impl_tagger_isOver.calls g x1000_1 x1001_1 x1002_1 x1003_1 false t118 t119 t120 t121 w0 _ ?side1 ?side2 A3.out).mono ?_); (case side1 => repeat (first | (with_reducible first | exact HI0.out | apply IsS58.alloc | apply IsS58.drewN | apply IsS58.drew | apply IsS58.set_0 | apply IsS58.set_1 | apply IsS58.set_2 | apply IsS58.set_3) | exact HI0.out)); (case side2 => repeat (first | (with_reducible first | exact HB.out | apply below_alloc | apply pw_below_drewN | apply below_drew1 | refine below_set ?_ (IsS58.ge HI0.out)) | exact HB.out)); rintro e w31 ⟨rfl, hi, hb, hk⟩; have n0_ := Aside0.mk (KeepBut.trans (by repeat (first | (with_reducible first | exact HK.out | apply KeepBut.set_ | apply keep_drewN | apply keep_drew | apply keep_alloc) | exact HK.out)) hk (.inl rfl)); have n1_ := Aside0.mk (hb); have n2_ := Aside0.mk (hi); clear HK; clear HB; clear HI0; have HK := n0_; have HB := n1_; have HI0 := n2_; clear n0_ n1_ n2_; (try clear hb); (try clear hb2); (try clear hk); (try clear hi); obtain ⟨HGz32, hgz32⟩ := HI0.out; have hcz32_0 := cellS58_0 HGz32; have hcz32_1 := cellS58_1 HGz32; have hcz32_2 := cellS58_2 HGz32; have hcz32_3 := cellS58_3 HGz32; have hfz32_0 := blk_frozen HGz32 0; have hfz32_1 := blk_frozen HGz32 1; have hfz32_2 := blk_frozen HGz32 2; have hfz32_3 := blk_frozen HGz32 3; clear HGz32 hgz32; have p12 : 0 ≤ (t119 : Int) := of_decide_eq_true (by first | (with_reducible assumption) | assumption); have q12 : t119 < (t118.size : Int) := of_decide_eq_true (by first | (with_reducible assumption) | assumption); have hx12 := bt_at t118 t119; replace p12 := eq_true p12; replace q12 := eq_true q12) | (go_at_call 93; (with_reducible refine (impl_isBlankByte.calls (bt t118 t119) false _ A13.out).mono ?_); rintro e w' ⟨rfl, ⟨nd, rfl⟩⟩; (try first | exact ⟨rfl, _, World.drewN_drewN _ _ _⟩ | exact ⟨rfl, _, Eq.trans (World.drewN_drewN _ _ _) (congrArg (World.drewN _) (Nat.add_assoc _ _ _))⟩)))
             repeat (go_quiet (first | (go_at_call 51; (with_reducible refine (impl_tagger_isOver.calls g x1000_1 x1001_1 x1002_1 x1003_1 false t118 t119 t120 t121 w0 _ ?side1 ?side2 A3.out).mono ?_); (case side1 => repeat (first | (with_reducible first | exact HI0.out | apply IsS58.alloc | apply IsS58.drewN | apply IsS58.drew | apply IsS58.set_0 | apply IsS58.set_1 | apply IsS58.set_2 | apply IsS58.set_3) | exact HI0.out)); (case side2 => repeat (first | (with_reducible first | exact HB.out | apply below_alloc | apply pw_below_drewN | apply below_drew1 | refine below_set ?_ (IsS58.ge HI0.out)) | exact HB.out)); rintro e w31 ⟨rfl, hi, hb, hk⟩; have n0_ := Aside0.mk (KeepBut.trans (by repeat (first | (with_reducible first | exact HK.out | apply KeepBut.set_ | apply keep_drewN | apply keep_drew | apply keep_alloc) | exact HK.out)) hk (.inl rfl)); have n1_ := Aside0.mk (hb); have n2_ := Aside0.mk (hi); clear HK; clear HB; clear HI0; have HK := n0_; have HB := n1_; have HI0 := n2_; clear n0_ n1_ n2_; (try clear hb); (try clear hb2); (try clear hk); (try clear hi); obtain ⟨HGz32, hgz32⟩ := HI0.out; have hcz32_0 := cellS58_0 HGz32; have hcz32_1 := cellS58_1 HGz32; have hcz32_2 := cellS58_2 HGz32; have hcz32_3 := cellS58_3 HGz32; have hfz32_0 := blk_frozen HGz32 0; have hfz32_1 := blk_frozen HGz32 1; have hfz32_2 := blk_frozen HGz32 2; have hfz32_3 := blk_frozen HGz32 3; clear HGz32 hgz32; have p12 : 0 ≤ (t119 : Int) := of_decide_eq_true (by first | (with_reducible assumption) | assumption); have q12 : t119 < (t118.size : Int) := of_decide_eq_true (by first | (with_reducible assumption) | assumption); have hx12 := bt_at t118 t119; replace p12 := eq_true p12; replace q12 := eq_true q12) | (go_at_call 93; (with_reducible refine (impl_isBlankByte.calls (bt t118 t119) false _ A13.out).mono ?_); rintro e w' ⟨rfl, ⟨nd, rfl⟩⟩; (try first | exact ⟨rfl, _, World.drewN_drewN _ _ _⟩ | exact ⟨rfl, _, Eq.trans (World.drewN_drewN _ _ _) (congrArg (World.drewN _) (Nat.add_assoc _ _ _))⟩))); try go_wp2_with (first | (go_at_call 51; (with_reducible refine (impl_tagger_isOver.calls g x1000_1 x1001_1 x1002_1 x1003_1 false t118 t119 t120 t121 w0 _ ?side1 ?side2 A3.out).mono ?_); (case side1 => repeat (first | (with_reducible first | exact HI0.out | apply IsS58.alloc | apply IsS58.drewN | apply IsS58.drew | apply IsS58.set_0 | apply IsS58.set_1 | apply IsS58.set_2 | apply IsS58.set_3) | exact HI0.out)); (case side2 => repeat (first | (with_reducible first | exact HB.out | apply below_alloc | apply pw_below_drewN | apply below_drew1 | refine below_set ?_ (IsS58.ge HI0.out)) | exact HB.out)); rintro e w31 ⟨rfl, hi, hb, hk⟩; have n0_ := Aside0.mk (KeepBut.trans (by repeat (first | (with_reducible first | exact HK.out | apply KeepBut.set_ | apply keep_drewN | apply keep_drew | apply keep_alloc) | exact HK.out)) hk (.inl rfl)); have n1_ := Aside0.mk (hb); have n2_ := Aside0.mk (hi); clear HK; clear HB; clear HI0; have HK := n0_; have HB := n1_; have HI0 := n2_; clear n0_ n1_ n2_; (try clear hb); (try clear hb2); (try clear hk); (try clear hi); obtain ⟨HGz32, hgz32⟩ := HI0.out; have hcz32_0 := cellS58_0 HGz32; have hcz32_1 := cellS58_1 HGz32; have hcz32_2 := cellS58_2 HGz32; have hcz32_3 := cellS58_3 HGz32; have hfz32_0 := blk_frozen HGz32 0; have hfz32_1 := blk_frozen HGz32 1; have hfz32_2 := blk_frozen HGz32 2; have hfz32_3 := blk_frozen HGz32 3; clear HGz32 hgz32; have p12 : 0 ≤ (t119 : Int) := of_decide_eq_true (by first | (with_reducible assumption) | assumption); have q12 : t119 < (t118.size : Int) := of_decide_eq_true (by first | (with_reducible assumption) | assumption); have hx12 := bt_at t118 t119; replace p12 := eq_true p12; replace q12 := eq_true q12) | (go_at_call 93; (with_reducible refine (impl_isBlankByte.calls (bt t118 t119) false _ A13.out).mono ?_); rintro e w' ⟨rfl, ⟨nd, rfl⟩⟩; (try first | exact ⟨rfl, _, World.drewN_drewN _ _ _⟩ | exact ⟨rfl, _, Eq.trans (World.drewN_drewN _ _ _) (congrArg (World.drewN _) (Nat.add_assoc _ _ _))⟩))))
             go_ret
             exact ⟨by first | rfl | (simp [errW_none, errW_some] <;> rfl) | (simp [*, errW_none, errW_some] <;> rfl), by repeat (first | (with_reducible first | exact HI0.out | apply IsS58.alloc | apply IsS58.drewN | apply IsS58.drew | apply IsS58.set_0 | apply IsS58.set_1 | apply IsS58.set_2 | apply IsS58.set_3) | exact HI0.out), by repeat (first | (with_reducible first | exact HB.out | apply below_alloc | apply pw_below_drewN | apply below_drew1 | refine below_set ?_ (IsS58.ge HI0.out)) | exact HB.out), by repeat (first | (with_reducible first | exact HK.out | apply KeepBut.set_ | apply keep_drewN | apply keep_drew | apply keep_alloc) | exact HK.out)⟩
            ·rw [if_neg c30] at H
             exact absurd H (by simp)
           ·rw [if_neg c29] at H
            exact absurd H (by simp)
          ·rw [if_neg c28] at H
           exact absurd H (by simp)
         ·rw [if_neg c27] at H
          have c27b0 : decide (s0_1 < t119) = false := decide_eq_false c27
          clear c27
          have H' := Aside0.mk H
          clear H
          go_wp2_with (first | (go_at_call 51; (with_reducible refine (impl_tagger_isOver.calls g x1000_1 x1001_1 x1002_1 x1003_1 false t118 t119 t120 t121 w0 _ ?side1 ?side2 A3.out).mono ?_); (case side1 => repeat (first | (with_reducible first | exact HI0.out | apply IsS58.alloc | apply IsS58.drewN | apply IsS58.drew | apply IsS58.set_0 | apply IsS58.set_1 | apply IsS58.set_2 | apply IsS58.set_3) | exact HI0.out)); (case side2 => repeat (first | (with_reducible first | exact HB.out | apply below_alloc | apply pw_below_drewN | apply below_drew1 | refine below_set ?_ (IsS58.ge HI0.out)) | exact HB.out)); rintro e w33 ⟨rfl, hi, hb, hk⟩; have n0_ := Aside0.mk (KeepBut.trans (by repeat (first | (with_reducible first | exact HK.out | apply KeepBut.set_ | apply keep_drewN | apply keep_drew | apply keep_alloc) | exact HK.out)) hk (.inl rfl)); have n1_ := Aside0.mk (hb); have n2_ := Aside0.mk (hi); clear HK; clear HB; clear HI0; have HK := n0_; have HB := n1_; have HI0 := n2_; clear n0_ n1_ n2_; (try clear hb); (try clear hb2); (try clear hk); (try clear hi); obtain ⟨HGz34, hgz34⟩ := HI0.out; have hcz34_0 := cellS58_0 HGz34; have hcz34_1 := cellS58_1 HGz34; have hcz34_2 := cellS58_2 HGz34; have hcz34_3 := cellS58_3 HGz34; have hfz34_0 := blk_frozen HGz34 0; have hfz34_1 := blk_frozen HGz34 1; have hfz34_2 := blk_frozen HGz34 2; have hfz34_3 := blk_frozen HGz34 3; clear HGz34 hgz34; have p12 : 0 ≤ (t119 : Int) := of_decide_eq_true (by first | (with_reducible assumption) | assumption); have q12 : t119 < (t118.size : Int) := of_decide_eq_true (by first | (with_reducible assumption) | assumption); have hx12 := bt_at t118 t119; replace p12 := eq_true p12; replace q12 := eq_true q12) | (go_at_call 93; (with_reducible refine (impl_isBlankByte.calls (bt t118 t119) false _ A13.out).mono ?_); rintro e w' ⟨rfl, ⟨nd, rfl⟩⟩; (try first | exact ⟨rfl, _, World.drewN_drewN _ _ _⟩ | exact ⟨rfl, _, Eq.trans (World.drewN_drewN _ _ _) (congrArg (World.drewN _) (Nat.add_assoc _ _ _))⟩)))
          repeat (go_quiet (first | (go_at_call 51; (with_reducible refine (impl_tagger_isOver.calls g x1000_1 x1001_1 x1002_1 x1003_1 false t118 t119 t120 t121 w0 _ ?side1 ?side2 A3.out).mono ?_); (case side1 => repeat (first | (with_reducible first | exact HI0.out | apply IsS58.alloc | apply IsS58.drewN | apply IsS58.drew | apply IsS58.set_0 | apply IsS58.set_1 | apply IsS58.set_2 | apply IsS58.set_3) | exact HI0.out)); (case side2 => repeat (first | (with_reducible first | exact HB.out | apply below_alloc | apply pw_below_drewN | apply below_drew1 | refine below_set ?_ (IsS58.ge HI0.out)) | exact HB.out)); rintro e w33 ⟨rfl, hi, hb, hk⟩; have n0_ := Aside0.mk (KeepBut.trans (by repeat (first | (with_reducible first | exact HK.out | apply KeepBut.set_ | apply keep_drewN | apply keep_drew | apply keep_alloc) | exact HK.out)) hk (.inl rfl)); have n1_ := Aside0.mk (hb); have n2_ := Aside0.mk (hi); clear HK; clear HB; clear HI0; have HK := n0_; have HB := n1_; have HI0 := n2_; clear n0_ n1_ n2_; (try clear hb); (try clear hb2); (try clear hk); (try clear hi); obtain ⟨HGz34, hgz34⟩ := HI0.out; have hcz34_0 := cellS58_0 HGz34; have hcz34_1 := cellS58_1 HGz34; have hcz34_2 := cellS58_2 HGz34; have hcz34_3 := cellS58_3 HGz34; have hfz34_0 := blk_frozen HGz34 0; have hfz34_1 := blk_frozen HGz34 1; have hfz34_2 := blk_frozen HGz34 2; have hfz34_3 := blk_frozen HGz34 3; clear HGz34 hgz34; have p12 : 0 ≤ (t119 : Int) := of_decide_eq_true (by first | (with_reducible assumption) | assumption); have q12 : t119 < (t118.size : Int) := of_decide_eq_true (by first | (with_reducible assumption) | assumption); have hx12 := bt_at t118 t119; replace p12 := eq_true p12; replace q12 := eq_true q12) | (go_at_call 93; (with_reducible refine (impl_isBlankByte.calls (bt t118 t119) false _ A13.out).mono ?_); rintro e w' ⟨rfl, ⟨nd, rfl⟩⟩; (try first | exact ⟨rfl, _, World.drewN_drewN _ _ _⟩ | exact ⟨rfl, _, Eq.trans (World.drewN_drewN _ _ _) (congrArg (World.drewN _) (Nat.add_assoc _ _ _))⟩))); try go_wp2_with (first | (go_at_call 51; (with_reducible refine (impl_tagger_isOver.calls g x1000_1 x1001_1 x1002_1 x1003_1 false t118 t119 t120 t121 w0 _ ?side1 ?side2 A3.out).mono ?_); (case side1 => repeat (first | (with_reducible first | exact HI0.out | apply IsS58.alloc | apply IsS58.drewN | apply IsS58.drew | apply IsS58.set_0 | apply IsS58.set_1 | apply IsS58.set_2 | apply IsS58.set_3) | exact HI0.out)); (case side2 => repeat (first | (with_reducible first | exact HB.out | apply below_alloc | apply pw_below_drewN | apply below_drew1 | refine below_set ?_ (IsS58.ge HI0.out)) | exact HB.out)); rintro e w33 ⟨rfl, hi, hb, hk⟩; have n0_ := Aside0.mk (KeepBut.trans (by repeat (first | (with_reducible first | exact HK.out | apply KeepBut.set_ | apply keep_drewN | apply keep_drew | apply keep_alloc) | exact HK.out)) hk (.inl rfl)); have n1_ := Aside0.mk (hb); have n2_ := Aside0.mk (hi); clear HK; clear HB; clear HI0; have HK := n0_; have HB := n1_; have HI0 := n2_; clear n0_ n1_ n2_; (try clear hb); (try clear hb2); (try clear hk); (try clear hi); obtain ⟨HGz34, hgz34⟩ := HI0.out; have hcz34_0 := cellS58_0 HGz34; have hcz34_1 := cellS58_1 HGz34; have hcz34_2 := cellS58_2 HGz34; have hcz34_3 := cellS58_3 HGz34; have hfz34_0 := blk_frozen HGz34 0; have hfz34_1 := blk_frozen HGz34 1; have hfz34_2 := blk_frozen HGz34 2; have hfz34_3 := blk_frozen HGz34 3; clear HGz34 hgz34; have p12 : 0 ≤ (t119 : Int) := of_decide_eq_true (by first | (with_reducible assumption) | assumption); have q12 : t119 < (t118.size : Int) := of_decide_eq_true (by first | (with_reducible assumption) | assumption); have hx12 := bt_at t118 t119; replace p12 := eq_true p12; replace q12 := eq_true q12) | (go_at_call 93; (with_reducible refine (impl_isBlankByte.calls (bt t118 t119) false _ A13.out).mono ?_); rintro e w' ⟨rfl, ⟨nd, rfl⟩⟩; (try first | exact ⟨rfl, _, World.drewN_drewN _ _ _⟩ | exact ⟨rfl, _, Eq.trans (World.drewN_drewN _ _ _) (congrArg (World.drewN _) (Nat.add_assoc _ _ _))⟩))))
          go_roundg k1
          case measure => have := HK1.out; omega
          case rel => exact ⟨(t118), (wrap64 (t119 + 1)), (t120), (t121), H', ⟨by have := HK1.out; omega⟩, ⟨by repeat (first | (with_reducible first | exact HI0.out | apply IsS58.alloc | apply IsS58.drewN | apply IsS58.drew | apply IsS58.set_0 | apply IsS58.set_1 | apply IsS58.set_2 | apply IsS58.set_3) | exact HI0.out)⟩, ⟨by repeat (first | (with_reducible first | exact HK.out | apply KeepBut.set_ | apply keep_drewN | apply keep_drew | apply keep_alloc) | exact HK.out)⟩, ⟨by repeat (first | (with_reducible first | exact HB.out | apply below_alloc | apply pw_below_drewN | apply below_drew1 | refine below_set ?_ (IsS58.ge HI0.out)) | exact HB.out)⟩⟩
        ·rw [if_neg c26] at H
         have c26b0 : ((bt t118 t119) == 61) = false := beq_eq_false_iff_ne.mpr c26
         have c26b1 : ((bt t118 t119) != 61) = true := bne_iff_ne.mpr c26
         have H' := Aside0.mk H
         clear H
         go_wp2_with (first | (go_at_call 51; (with_reducible refine (impl_tagger_isOver.calls g x1000_1 x1001_1 x1002_1 x1003_1 false t118 t119 t120 t121 w0 _ ?side1 ?side2 A3.out).mono ?_); (case side1 => repeat (first | (with_reducible first | exact HI0.out | apply IsS58.alloc | apply IsS58.drewN | apply IsS58.drew | apply IsS58.set_0 | apply IsS58.set_1 | apply IsS58.set_2 | apply IsS58.set_3) | exact HI0.out)); (case side2 => repeat (first | (with_reducible first | exact HB.out | apply below_alloc | apply pw_below_drewN | apply below_drew1 | refine below_set ?_ (IsS58.ge HI0.out)) | exact HB.out)); rintro e w35 ⟨rfl, hi, hb, hk⟩; have n0_ := Aside0.mk (KeepBut.trans (by repeat (first | (with_reducible first | exact HK.out | apply KeepBut.set_ | apply keep_drewN | apply keep_drew | apply keep_alloc) | exact HK.out)) hk (.inl rfl)); have n1_ := Aside0.mk (hb); have n2_ := Aside0.mk (hi); clear HK; clear HB; clear HI0; have HK := n0_; have HB := n1_; have HI0 := n2_; clear n0_ n1_ n2_; (try clear hb); (try clear hb2); (try clear hk); (try clear hi); obtain ⟨HGz36, hgz36⟩ := HI0.out; have hcz36_0 := cellS58_0 HGz36; have hcz36_1 := cellS58_1 HGz36; have hcz36_2 := cellS58_2 HGz36; have hcz36_3 := cellS58_3 HGz36; have hfz36_0 := blk_frozen HGz36 0; have hfz36_1 := blk_frozen HGz36 1; have hfz36_2 := blk_frozen HGz36 2; have hfz36_3 := blk_frozen HGz36 3; clear HGz36 hgz36; have p12 : 0 ≤ (t119 : Int) := of_decide_eq_true (by first | (with_reducible assumption) | assumption); have q12 : t119 < (t118.size : Int) := of_decide_eq_true (by first | (with_reducible assumption) | assumption); have hx12 := bt_at t118 t119; replace p12 := eq_true p12; replace q12 := eq_true q12) | (go_at_call 93; (with_reducible refine (impl_isBlankByte.calls (bt t118 t119) false _ A13.out).mono ?_); rintro e w' ⟨rfl, ⟨nd, rfl⟩⟩; (try first | exact ⟨rfl, _, World.drewN_drewN _ _ _⟩ | exact ⟨rfl, _, Eq.trans (World.drewN_drewN _ _ _) (congrArg (World.drewN _) (Nat.add_assoc _ _ _))⟩)))
         repeat (go_quiet (first | (go_at_call 51; (with_reducible refine (impl_tagger_isOver.calls g x1000_1 x1001_1 x1002_1 x1003_1 false t118 t119 t120 t121 w0 _ ?side1 ?side2 A3.out).mono ?_); (case side1 => repeat (first | (with_reducible first | exact HI0.out | apply IsS58.alloc | apply IsS58.drewN | apply IsS58.drew | apply IsS58.set_0 | apply IsS58.set_1 | apply IsS58.set_2 | apply IsS58.set_3) | exact HI0.out)); (case side2 => repeat (first | (with_reducible first | exact HB.out | apply below_alloc | apply pw_below_drewN | apply below_drew1 | refine below_set ?_ (IsS58.ge HI0.out)) | exact HB.out)); rintro e w35 ⟨rfl, hi, hb, hk⟩; have n0_ := Aside0.mk (KeepBut.trans (by repeat (first | (with_reducible first | exact HK.out | apply KeepBut.set_ | apply keep_drewN | apply keep_drew | apply keep_alloc) | exact HK.out)) hk (.inl rfl)); have n1_ := Aside0.mk (hb); have n2_ := Aside0.mk (hi); clear HK; clear HB; clear HI0; have HK := n0_; have HB := n1_; have HI0 := n2_; clear n0_ n1_ n2_; (try clear hb); (try clear hb2); (try clear hk); (try clear hi); obtain ⟨HGz36, hgz36⟩ := HI0.out; have hcz36_0 := cellS58_0 HGz36; have hcz36_1 := cellS58_1 HGz36; have hcz36_2 := cellS58_2 HGz36; have hcz36_3 := cellS58_3 HGz36; have hfz36_0 := blk_frozen HGz36 0; have hfz36_1 := blk_frozen HGz36 1; have hfz36_2 := blk_frozen HGz36 2; have hfz36_3 := blk_frozen HGz36 3; clear HGz36 hgz36; have p12 : 0 ≤ (t119 : Int) := of_decide_eq_true (by first | (with_reducible assumption) | assumption); have q12 : t119 < (t118.size : Int) := of_decide_eq_true (by first | (with_reducible assumption) | assumption); have hx12 := bt_at t118 t119; replace p12 := eq_true p12; replace q12 := eq_true q12) | (go_at_call 93; (with_reducible refine (impl_isBlankByte.calls (bt t118 t119) false _ A13.out).mono ?_); rintro e w' ⟨rfl, ⟨nd, rfl⟩⟩; (try first | exact ⟨rfl, _, World.drewN_drewN _ _ _⟩ | exact ⟨rfl, _, Eq.trans (World.drewN_drewN _ _ _) (congrArg (World.drewN _) (Nat.add_assoc _ _ _))⟩))); try go_wp2_with (first | (go_at_call 51; (with_reducible refine (impl_tagger_isOver.calls g x1000_1 x1001_1 x1002_1 x1003_1 false t118 t119 t120 t121 w0 _ ?side1 ?side2 A3.out).mono ?_); (case side1 => repeat (first | (with_reducible first | exact HI0.out | apply IsS58.alloc | apply IsS58.drewN | apply IsS58.drew | apply IsS58.set_0 | apply IsS58.set_1 | apply IsS58.set_2 | apply IsS58.set_3) | exact HI0.out)); (case side2 => repeat (first | (with_reducible first | exact HB.out | apply below_alloc | apply pw_below_drewN | apply below_drew1 | refine below_set ?_ (IsS58.ge HI0.out)) | exact HB.out)); rintro e w35 ⟨rfl, hi, hb, hk⟩; have n0_ := Aside0.mk (KeepBut.trans (by repeat (first | (with_reducible first | exact HK.out | apply KeepBut.set_ | apply keep_drewN | apply keep_drew | apply keep_alloc) | exact HK.out)) hk (.inl rfl)); have n1_ := Aside0.mk (hb); have n2_ := Aside0.mk (hi); clear HK; clear HB; clear HI0; have HK := n0_; have HB := n1_; have HI0 := n2_; clear n0_ n1_ n2_; (try clear hb); (try clear hb2); (try clear hk); (try clear hi); obtain ⟨HGz36, hgz36⟩ := HI0.out; have hcz36_0 := cellS58_0 HGz36; have hcz36_1 := cellS58_1 HGz36; have hcz36_2 := cellS58_2 HGz36; have hcz36_3 := cellS58_3 HGz36; have hfz36_0 := blk_frozen HGz36 0; have hfz36_1 := blk_frozen HGz36 1; have hfz36_2 := blk_frozen HGz36 2; have hfz36_3 := blk_frozen HGz36 3; clear HGz36 hgz36; have p12 : 0 ≤ (t119 : Int) := of_decide_eq_true (by first | (with_reducible assumption) | assumption); have q12 : t119 < (t118.size : Int) := of_decide_eq_true (by first | (with_reducible assumption) | assumption); have hx12 := bt_at t118 t119; replace p12 := eq_true p12; replace q12 := eq_true q12) | (go_at_call 93; (with_reducible refine (impl_isBlankByte.calls (bt t118 t119) false _ A13.out).mono ?_); rintro e w' ⟨rfl, ⟨nd, rfl⟩⟩; (try first | exact ⟨rfl, _, World.drewN_drewN _ _ _⟩ | exact ⟨rfl, _, Eq.trans (World.drewN_drewN _ _ _) (congrArg (World.drewN _) (Nat.add_assoc _ _ _))⟩))))
         go_roundg k1
         case measure => have := HK1.out; omega
         case rel => exact ⟨(t118), (wrap64 (t119 + 1)), (t120), (t121), H', ⟨by have := HK1.out; omega⟩, ⟨by repeat (first | (with_reducible first | exact HI0.out | apply IsS58.alloc | apply IsS58.drewN | apply IsS58.drew | apply IsS58.set_0 | apply IsS58.set_1 | apply IsS58.set_2 | apply IsS58.set_3) | exact HI0.out)⟩, ⟨by repeat (first | (with_reducible first | exact HK.out | apply KeepBut.set_ | apply keep_drewN | apply keep_drew | apply keep_alloc) | exact HK.out)⟩, ⟨by repeat (first | (with_reducible first | exact HB.out | apply below_alloc | apply pw_below_drewN | apply below_drew1 | refine below_set ?_ (IsS58.ge HI0.out)) | exact HB.out)⟩⟩
     ·rw [if_neg c11] at H
      exact absurd H (by simp)
    ·rw [if_neg c10] at H
     exact absurd H (by simp)

end Go.Proofs.Ytlocaaebgghkbaa.A

namespace Go.Proofs.Ytlocaaebgghkbaa.A
open Go.RowKit Go.Proofs.YtlocaaebgghkbaaW.PrintWords Go.Proofs.YtlocaaebgghkbaaW.PrintLast Go.Proofs.YtlocaaebgghkbaaW.PrintMore
attribute [local go_sem] max2_int min2_int max_two min_two max_three min_three max_four min_four   -- for this text's walks alone
set_option linter.unusedVariables false
set_option linter.unusedSimpArgs false

/-! ### impl_pastBlanks: function 129 -/
def impl_pastBlanks.l0 : Nat → ByteArray → Int → Option (Int)
 | 0, _, _ => none
 | k + 1, x0, x1 => if x1 < (x0.size : Int) then (if 0 ≤ x1 then ((impl_isBlankByte.f (bt x0 x1)).bind fun t123 => (if t123 = true then (impl_pastBlanks.l0 k x0 (wrap64 (x1 + 1))) else (some x1))) else (none)) else (some x1)
def impl_pastBlanks.f (k : Nat) (a0 : ByteArray) (a1 : Int) : Option (Int) := impl_pastBlanks.l0 k a0 a1
theorem impl_pastBlanks.mono_l : ∀ k, (∀ y0 y1, LeO (impl_pastBlanks.l0 k y0 y1) (impl_pastBlanks.l0 (k + 1) y0 y1))
 | 0 => fun _ _ r h => by simp [impl_pastBlanks.l0] at h
 | k + 1 => by
  have ih0 := impl_pastBlanks.mono_l k
  ·intro y0 y1
   unfold impl_pastBlanks.l0
   repeat' first
   | (with_reducible exact ih0 _ _)
   | (with_reducible exact LeO.refl _)
   | (with_reducible exact LeO.none _)
   | (with_reducible refine LeO.ite ?_ ?_)
   | (with_reducible refine LeO.bind ?_ (fun _ => ?_))
   | exact ih0 _ _
   | exact LeO.none _
   | refine LeO.ite ?_ ?_
   | refine LeO.bind ?_ (fun _ => ?_)
theorem impl_pastBlanks.mono : ∀ a0 a1 k, LeO (impl_pastBlanks.f k a0 a1) (impl_pastBlanks.f (k + 1) a0 a1) := by
 intro a0 a1 k
 have ih0 := impl_pastBlanks.mono_l k
 unfold impl_pastBlanks.f
 repeat' first
   | (with_reducible exact ih0 _ _)
   | (with_reducible exact LeO.refl _)
   | (with_reducible exact LeO.none _)
   | (with_reducible refine LeO.ite ?_ ?_)
   | (with_reducible refine LeO.bind ?_ (fun _ => ?_))
   | exact ih0 _ _
   | exact LeO.none _
   | refine LeO.ite ?_ ?_
   | refine LeO.bind ?_ (fun _ => ?_)
set_option maxHeartbeats 8000000 in
set_option maxRecDepth 100000 in
theorem impl_pastBlanks.calls (k : Nat) (a0 : ByteArray) (a1 : Int) (r : Int) (w : World) (h : impl_pastBlanks.f k a0 a1 = some r) :
  Calls Try.prog 129 #[.string a0, .int .i64 a1] w fun e w' => e = .returned (.int .i64 r) ∧ Drawn0 w w' := by
 have H : (impl_pastBlanks.l0 k a0 a1) = some r := h
 clear h
 have H' := Aside0.mk H
 clear H
 go_enter Try.func129, Try.ntmps129
 go_wp2
 go_loopg [1] k (fun kq v1 w' => ∃ (x1_1 : Int), v1 = .int .i64 x1_1 ∧ Aside0 (impl_pastBlanks.l0 kq a0 x1_1 = some r) ∧ Aside0 (kq ≤ k) ∧ Drawn0 w w')
 case atStart => exact ⟨(a1), (by first | rfl | (simp; done) | (simp [*]; done)), H', ⟨Nat.le_refl _⟩, by repeat (first | exact Drawn0.refl _ | apply Drawn0.step)⟩
 case round =>
  clear H'
  try clear c1
  try clear p2
  obtain ⟨x1_1, rfl, HA, HK1, ⟨m1, rfl⟩⟩ := hrel
  cases gk with
  | zero => exact absurd HA.out (by simp [impl_pastBlanks.l0])
  | succ k1 =>
   have H := HA.out
   clear HA
   simp only [impl_pastBlanks.l0] at H
   by_cases c3 : x1_1 < (a0.size : Int)
   ·rw [if_pos c3] at H
    have c3b0 : decide (x1_1 < (a0.size : Int)) = true := decide_eq_true c3
    clear c3
    by_cases c4 : 0 ≤ x1_1
    ·rw [if_pos c4] at H
     have c4b0 : decide (0 ≤ x1_1) = true := decide_eq_true c4
     clear c4
     replace H := Option.bind_eq_some_iff.mp H
     obtain ⟨t123, A60, H⟩ := H
     replace H : (if t123 = true then (impl_pastBlanks.l0 k1 a0 (wrap64 (x1_1 + 1))) else (some x1_1)) = some r := H
     have A6 := Aside0.mk A60
     clear A60
     by_cases c7 : t123 = true
     ·subst c7
      have H1 : (impl_pastBlanks.l0 k1 a0 (wrap64 (x1_1 + 1))) = some r := by rw [if_pos rfl] at H; exact H
      clear H
      have H := H1
      clear H1
      have H' := Aside0.mk H
      clear H
      have p5 : 0 ≤ (x1_1 : Int) := of_decide_eq_true (by first | (with_reducible assumption) | assumption)
      have q5 : x1_1 < (a0.size : Int) := of_decide_eq_true (by first | (with_reducible assumption) | assumption)
      have hx5 := bt_at a0 x1_1
      replace p5 := eq_true p5
      replace q5 := eq_true q5
      go_wp2_with (first | (go_at_call 93; (with_reducible refine (impl_isBlankByte.calls (bt a0 x1_1) true _ A6.out).mono ?_); rintro e w' ⟨rfl, ⟨nd, rfl⟩⟩))
      go_roundg k1
      case measure => have := HK1.out; omega
      case rel => exact ⟨(wrap64 (x1_1 + 1)), (by first | rfl | (simp; done) | (simp [*]; done)), H', ⟨by have := HK1.out; omega⟩, by repeat (first | exact Drawn0.refl _ | apply Drawn0.step)⟩
     ·replace c7 := Bool.eq_false_iff.mpr c7
      subst c7
      have H1 : (some x1_1) = some r := by rw [if_neg (show ¬ (false = true) by decide)] at H; exact H
      clear H
      have H := H1
      clear H1
      obtain rfl := Option.some.inj H
      have p5 : 0 ≤ (x1_1 : Int) := of_decide_eq_true (by first | (with_reducible assumption) | assumption)
      have q5 : x1_1 < (a0.size : Int) := of_decide_eq_true (by first | (with_reducible assumption) | assumption)
      have hx5 := bt_at a0 x1_1
      replace p5 := eq_true p5
      replace q5 := eq_true q5
      go_wp2_with (first | (go_at_call 93; (with_reducible refine (impl_isBlankByte.calls (bt a0 x1_1) false _ A6.out).mono ?_); rintro e w' ⟨rfl, ⟨nd, rfl⟩⟩))
      go_ret
      exact ⟨by first | rfl | (simp; done) | (simp [*]; done), by repeat (first | exact Drawn0.refl _ | apply Drawn0.step)⟩
    ·rw [if_neg c4] at H
     exact absurd H (by simp)
   ·rw [if_neg c3] at H
    have c3b0 : decide (x1_1 < (a0.size : Int)) = false := decide_eq_false c3
    clear c3
    obtain rfl := Option.some.inj H
    go_wp2
    go_ret
    exact ⟨by first | rfl | (simp; done) | (simp [*]; done), by repeat (first | exact Drawn0.refl _ | apply Drawn0.step)⟩

end Go.Proofs.Ytlocaaebgghkbaa.A

namespace Go.Proofs.Ytlocaaebgghkbaa.A
open Go.RowKit Go.Proofs.YtlocaaebgghkbaaW.PrintWords Go.Proofs.YtlocaaebgghkbaaW.PrintLast Go.Proofs.YtlocaaebgghkbaaW.PrintMore
attribute [local go_sem] max2_int min2_int max_two min_two max_three min_three max_four min_four   -- for this text's walks alone
set_option linter.unusedVariables false
set_option linter.unusedSimpArgs false

/-! ### impl_tagger_blanks: function 96 -/
theorem pastBlanks_l (s : ByteArray) (hm : s.size ≤ 140737488351232) (d : Nat) : ∀ (k : Nat) (i : Int), 0 ≤ i → i ≤ s.size → ((s.size : Int) - i).toNat = d → d < k → impl_pastBlanks.l0 k s i = some (pastB s i) := by
 induction d with
 | zero =>
  intro k i h0 h1 hd hk
  obtain ⟨k, rfl⟩ : ∃ m, k = m + 1 := ⟨k - 1, by omega⟩
  simp only [impl_pastBlanks.l0]
  rw [if_neg (by omega), pastB_stop (.inl (by omega))]
 | succ d ih =>
  intro k i h0 h1 hd hk
  obtain ⟨k, rfl⟩ : ∃ m, k = m + 1 := ⟨k - 1, by omega⟩
  simp only [impl_pastBlanks.l0]
  have hr := bt_range s i
  rw [if_pos (by omega), if_pos h0, isBlankByte_f _ hr.1 hr.2]
  simp only [Option.bind_some]
  by_cases hb : blk (bt s i) = true
  ·rw [if_pos hb, pastB_go (by omega) hb, show wrap64 (i + 1) = i + 1 by unfold wrap64; omega]
   exact ih k (i + 1) (by omega) (by omega) (by omega) (by omega)
  ·rw [if_neg hb, pastB_stop (.inr (by simpa using hb))]
theorem isBlank_still (c : Int) (w : World) :
  Calls Try.prog 127 #[.int .i64 c] w fun e w' => e = .returned (.bool (blk c)) ∧ w' = w := by
 by_cases a1 : c = 9
 ·subst a1; go_enter Try.func127, Try.ntmps127; go_wp2; go_ret; exact ⟨rfl, rfl⟩
 by_cases a2 : c = 10
 ·subst a2; go_enter Try.func127, Try.ntmps127; go_wp2; go_ret; exact ⟨rfl, rfl⟩
 by_cases a3 : c = 12
 ·subst a3; go_enter Try.func127, Try.ntmps127; go_wp2; go_ret; exact ⟨rfl, rfl⟩
 by_cases a4 : c = 13
 ·subst a4; go_enter Try.func127, Try.ntmps127; go_wp2; go_ret; exact ⟨rfl, rfl⟩
 have b1 : (c == 9) = false := beq_eq_false_iff_ne.mpr a1
 have b2 : (c == 10) = false := beq_eq_false_iff_ne.mpr a2
 have b3 : (c == 12) = false := beq_eq_false_iff_ne.mpr a3
 have b4 : (c == 13) = false := beq_eq_false_iff_ne.mpr a4
 have e : blk c = (c == 32) := by simp [blk, b1, b2, b3, b4]
 rw [e]
 go_enter Try.func127, Try.ntmps127
 go_wp2
 go_ret
 exact ⟨by simp [b1, b2, b3, b4], rfl⟩
theorem isBlankByte_still (c : Int) (h0 : 0 ≤ c) (h1 : c ≤ 255) (w : World) :
  Calls Try.prog 93 #[.int .u8 c] w fun r w' => r = .returned (.bool (blk c)) ∧ w' = w := by
 go_enter Try.func93, Try.ntmps93
 go_wp2_with ((go_at_call 127; (refine (isBlank_still c _).mono ?_); rintro r w' ⟨rfl, rfl⟩))
 go_ret
 exact ⟨rfl, rfl⟩
set_option maxHeartbeats 1000000 in
theorem pastBlanks_still (s : ByteArray) (i : Int) (w : World) (h0 : 0 ≤ i) (h1 : i ≤ s.size) (hm : s.size ≤ 140737488351232) :
  Calls Try.prog 129 #[.string s, .int .i64 i] w fun e w' => e = .returned (.int .i64 (pastB s i)) ∧ w' = w := by
 go_enter Try.func129, Try.ntmps129
 go_wp2
 go_loopg [1] (((s.size : Int) - i).toNat) (fun kq v wr => ∃ j : Int, v = .int .i64 j ∧ 0 ≤ j ∧ j ≤ s.size ∧ Aside0 (kq = ((s.size : Int) - j).toNat) ∧ Aside0 (pastB s j = pastB s i) ∧ w = wr)
 case atStart => exact ⟨i, rfl, h0, h1, ⟨rfl⟩, ⟨rfl⟩, rfl⟩
 case round =>
  obtain ⟨j, rfl, j0, j1, HM, HE, rfl⟩ := hrel
  have hr := bt_range s j
  have hx := bt_at s j
  by_cases hlt : j < (s.size : Int)
  ·by_cases c2 : blk (bt s j) = true
   ·have C2 := Aside0.mk c2
    go_wp2_with ((go_at_call 93; (refine (isBlankByte_still (bt s j) hr.1 hr.2 _).mono ?_); rintro r w' ⟨rfl, rfl⟩; rw [C2.out]))
    go_roundg (((s.size : Int) - (j + 1)).toNat)
    case measure => have := HM.out; omega
    case rel => exact ⟨j + 1, rfl, by omega, by omega, ⟨rfl⟩, ⟨by rw [← HE.out, pastB_go hlt C2.out]⟩, rfl⟩
   ·replace c2 : blk (bt s j) = false := by simpa using c2
    have C2 := Aside0.mk c2
    go_wp2_with ((go_at_call 93; (refine (isBlankByte_still (bt s j) hr.1 hr.2 _).mono ?_); rintro r w' ⟨rfl, rfl⟩; rw [C2.out]))
    go_ret
    exact ⟨by rw [← HE.out, pastB_stop (.inr C2.out)]; rfl, rfl⟩
  ·go_wp2
   go_ret
   exact ⟨by rw [← HE.out, pastB_stop (.inl (by omega))]; rfl, rfl⟩

def impl_tagger_blanks.f (s : ByteArray) (k : Int) (e sl : Bool) : Option (ByteArray × Int × Bool × Bool) :=
 if 0 ≤ k ∧ k ≤ s.size ∧ s.size ≤ 140737488351232 then some (s, pastB s k, e, sl) else none
set_option maxHeartbeats 1000000 in
set_option maxRecDepth 100000 in
theorem impl_tagger_blanks.calls (g : Nat) (s : ByteArray) (k : Int) (e sl : Bool) (r1 : ByteArray) (r2 : Int) (r3 r4 : Bool) (w0 w : World) (hI : IsS58 w0 w g s k e sl) (hB : Below w0.heap.size w0 w) (hF : impl_tagger_blanks.f s k e sl = some (r1, r2, r3, r4)) :
  Calls Try.prog 96 #[.pointer (some ⟨g, 0, none⟩)] w fun r w' => r = .returned (.tuple #[]) ∧ IsS58 w0 w' g r1 r2 r3 r4 ∧ Below w0.heap.size w0 w' ∧ KeepBut w w' g none := by
 unfold impl_tagger_blanks.f at hF
 split at hF
 case isFalse => cases hF
 case isTrue hc =>
 obtain ⟨h0, hs, hm⟩ := hc
 simp only [Option.some.injEq, Prod.mk.injEq] at hF
 obtain ⟨rfl, rfl, rfl, rfl⟩ := hF
 have HT := Aside0.mk hI
 have HB := Aside0.mk hB
 have HK := Aside0.mk (KeepBut.refl w g none)
 obtain ⟨hc0, hc1, hc2, hc3, hf0, hf1, hf2, hf3⟩ := tagger_cells hI
 clear hI hB
 go_enter Try.func96, Try.ntmps96
 go_wp2
 refine wp_region_still_tail 10 (by kernel_rfl) (by kernel_rfl) ?_
 simp only [List.take_succ_cons, List.take_zero, List.drop_succ_cons, List.drop_zero]
 repeat still_step
 still_call (pastBlanks_still s k _ h0 hs hm)
 refine wpStill_nil ?_
 go_wp2
 go_end0
 exact ⟨rfl, HT.out.set_1 _, below_drew (below_set HB.out HT.out.2), HK.out.set_ _ _⟩

end Go.Proofs.Ytlocaaebgghkbaa.A

namespace Go.Proofs.Ytlocaaebgghkbaa.A
open Go.RowKit Go.Proofs.YtlocaaebgghkbaaW.PrintWords Go.Proofs.YtlocaaebgghkbaaW.PrintLast Go.Proofs.YtlocaaebgghkbaaW.PrintMore
attribute [local go_sem] max2_int min2_int max_two min_two max_three min_three max_four min_four   -- for this text's walks alone
set_option linter.unusedVariables false
set_option linter.unusedSimpArgs false

/-! ### strings_IndexByte: function 130 -/
def strings_IndexByte.f (a0 : ByteArray) (a1 : Int) : Option Int := some (Lib.indexByte a0.data.toList a1.toNat.toUInt8)
theorem strings_IndexByte.calls (a0 : ByteArray) (a1 : Int) (r : Int) (w : World) (h : strings_IndexByte.f a0 a1 = some r) :
  Calls Try.prog 130 #[.string a0, .int .u8 a1] w fun e w' => e = .returned (.int .i64 r) ∧ Drawn0 w w' := by
 obtain rfl := Option.some.inj h
 exact (Try.strings_IndexByte a0 a1 w).mono fun e w' hh => ⟨hh.1, by rw [hh.2]; exact Drawn0.refl _⟩

end Go.Proofs.Ytlocaaebgghkbaa.A

namespace Go.Proofs.Ytlocaaebgghkbaa.A
open Go.RowKit Go.Proofs.YtlocaaebgghkbaaW.PrintWords Go.Proofs.YtlocaaebgghkbaaW.PrintLast Go.Proofs.YtlocaaebgghkbaaW.PrintMore
attribute [local go_sem] max2_int min2_int max_two min_two max_three min_three max_four min_four   -- for this text's walks alone
set_option linter.unusedVariables false
set_option linter.unusedSimpArgs false

/-! ### impl_tagger_quoted: function 97 -/
def impl_tagger_quoted.f (s0_0 : ByteArray) (s0_1 : Int) (s0_2 : Bool) (s0_3 : Bool) : Option (ByteArray × Bool × ByteArray × Int × Bool × Bool) := if 0 ≤ s0_1 then (if s0_1 < (s0_0.size : Int) then (if 0 ≤ (wrap64 (s0_1 + 1)) then (if (wrap64 (s0_1 + 1)) ≤ (s0_0.size : Int) then ((strings_IndexByte.f (s0_0.extract ((wrap64 (s0_1 + 1)) : Int).toNat s0_0.size) (bt s0_0 s0_1)).bind fun t124 => (if t124 < 0 then (some (s0_0.extract ((wrap64 (s0_1 + 1)) : Int).toNat s0_0.size, false, s0_0, (s0_0.size : Int), s0_2, s0_3)) else (if (wrap64 (s0_1 + 1)) ≤ (wrap64 ((wrap64 (s0_1 + 1)) + t124)) then (if (wrap64 ((wrap64 (s0_1 + 1)) + t124)) ≤ (s0_0.size : Int) then (some (s0_0.extract ((wrap64 (s0_1 + 1)) : Int).toNat ((wrap64 ((wrap64 (s0_1 + 1)) + t124)) : Int).toNat, true, s0_0, wrap64 ((wrap64 ((wrap64 (s0_1 + 1)) + t124)) + 1), s0_2, s0_3)) else (none)) else (none)))) else (none)) else (none)) else (none)) else (none)
set_option maxHeartbeats 8000000 in
set_option maxRecDepth 100000 in
theorem impl_tagger_quoted.calls (g : Nat) (s0_0 : ByteArray) (s0_1 : Int) (s0_2 : Bool) (s0_3 : Bool) (r1 : ByteArray) (r2 : Bool) (r3 : ByteArray) (r4 : Int) (r5 : Bool) (r6 : Bool) (w0 w : World) (hI : IsS58 w0 w g s0_0 s0_1 s0_2 s0_3) (hB : Below w0.heap.size w0 w) (h : impl_tagger_quoted.f s0_0 s0_1 s0_2 s0_3 = some (r1, r2, r3, r4, r5, r6)) :
  Calls Try.prog 97 #[.pointer (some ⟨g, 0, none⟩)] w fun e w' => e = .returned (.tuple #[.string r1, .bool r2]) ∧ IsS58 w0 w' g r3 r4 r5 r6 ∧ Below w0.heap.size w0 w' ∧ KeepBut w w' g none := by
 have HI0 := Aside0.mk hI
 have HK := Aside0.mk (KeepBut.refl w g none)
 have HL := Aside0.mk hB.size
 clear hI
 have HW0 := Aside0.mk hB.size
 have HB := Aside0.mk hB
 clear hB
 have H : (if 0 ≤ s0_1 then (if s0_1 < (s0_0.size : Int) then (if 0 ≤ (wrap64 (s0_1 + 1)) then (if (wrap64 (s0_1 + 1)) ≤ (s0_0.size : Int) then ((strings_IndexByte.f (s0_0.extract ((wrap64 (s0_1 + 1)) : Int).toNat s0_0.size) (bt s0_0 s0_1)).bind fun t124 => (if t124 < 0 then (some (s0_0.extract ((wrap64 (s0_1 + 1)) : Int).toNat s0_0.size, false, s0_0, (s0_0.size : Int), s0_2, s0_3)) else (if (wrap64 (s0_1 + 1)) ≤ (wrap64 ((wrap64 (s0_1 + 1)) + t124)) then (if (wrap64 ((wrap64 (s0_1 + 1)) + t124)) ≤ (s0_0.size : Int) then (some (s0_0.extract ((wrap64 (s0_1 + 1)) : Int).toNat ((wrap64 ((wrap64 (s0_1 + 1)) + t124)) : Int).toNat, true, s0_0, wrap64 ((wrap64 ((wrap64 (s0_1 + 1)) + t124)) + 1), s0_2, s0_3)) else (none)) else (none)))) else (none)) else (none)) else (none)) else (none)) = some (r1, r2, r3, r4, r5, r6) := h
 clear h
 by_cases c2 : 0 ≤ s0_1
 ·rw [if_pos c2] at H
  have c2b0 : decide (0 ≤ s0_1) = true := decide_eq_true c2
  clear c2
  by_cases c3 : s0_1 < (s0_0.size : Int)
  ·rw [if_pos c3] at H
   have c3b0 : decide (s0_1 < (s0_0.size : Int)) = true := decide_eq_true c3
   clear c3
   obtain ⟨ji5, hji5⟩ : ∃ j_ : Int, (wrap64 (s0_1 + 1)) = j_ := ⟨_, rfl⟩
   replace H : (if 0 ≤ (ji5) then (if (ji5) ≤ (s0_0.size : Int) then ((strings_IndexByte.f (s0_0.extract ((ji5) : Int).toNat s0_0.size) (bt s0_0 s0_1)).bind fun t124 => (if t124 < 0 then (some (s0_0.extract ((ji5) : Int).toNat s0_0.size, false, s0_0, (s0_0.size : Int), s0_2, s0_3)) else (if (ji5) ≤ (wrap64 ((ji5) + t124)) then (if (wrap64 ((ji5) + t124)) ≤ (s0_0.size : Int) then (some (s0_0.extract ((ji5) : Int).toNat ((wrap64 ((ji5) + t124)) : Int).toNat, true, s0_0, wrap64 ((wrap64 ((ji5) + t124)) + 1), s0_2, s0_3)) else (none)) else (none)))) else (none)) else (none)) = some (r1, r2, r3, r4, r5, r6) := by first | (rw [hji5] at H; exact H) | (simp only [hji5] at H ⊢; exact H)
   have hji5w : (IntKind.i64.wrap (s0_1 + 1)) = ji5 := (i64_w _).trans hji5
   by_cases c6 : 0 ≤ (ji5)
   ·rw [if_pos c6] at H
    have c6b0 := eq_true c6
    have c6b1 : decide (0 ≤ (ji5)) = true := decide_eq_true c6
    clear c6
    by_cases c7 : (ji5) ≤ (s0_0.size : Int)
    ·rw [if_pos c7] at H
     have c7b0 := eq_true c7
     have c7b1 : decide ((ji5) ≤ (s0_0.size : Int)) = true := decide_eq_true c7
     clear c7
     replace H := Option.bind_eq_some_iff.mp H
     obtain ⟨t124, A80, H⟩ := H
     replace H : (if t124 < 0 then (some (s0_0.extract ((ji5) : Int).toNat s0_0.size, false, s0_0, (s0_0.size : Int), s0_2, s0_3)) else (if (ji5) ≤ (wrap64 ((ji5) + t124)) then (if (wrap64 ((ji5) + t124)) ≤ (s0_0.size : Int) then (some (s0_0.extract ((ji5) : Int).toNat ((wrap64 ((ji5) + t124)) : Int).toNat, true, s0_0, wrap64 ((wrap64 ((ji5) + t124)) + 1), s0_2, s0_3)) else (none)) else (none))) = some (r1, r2, r3, r4, r5, r6) := H
     have A8 := Aside0.mk A80
     clear A80
     by_cases c9 : t124 < 0
     ·rw [if_pos c9] at H
      have c9b0 : decide (t124 < 0) = true := decide_eq_true c9
      clear c9
      have c10b0 := eq_true (of_decide_eq_true (by first | (with_reducible assumption) | assumption) : 0 ≤ (ji5))
      have c11b0 := eq_true (of_decide_eq_true (by first | (with_reducible assumption) | assumption) : (ji5) ≤ (s0_0.size : Int))
      simp only [Option.some.injEq, Prod.mk.injEq] at H
      obtain ⟨rfl, rfl, rfl, rfl, rfl, rfl⟩ := H
      obtain ⟨HGz12, hgz12⟩ := HI0.out
      have hcz12_0 := cellS58_0 HGz12
      have hcz12_1 := cellS58_1 HGz12
      have hcz12_2 := cellS58_2 HGz12
      have hcz12_3 := cellS58_3 HGz12
      have hfz12_0 := blk_frozen HGz12 0
      have hfz12_1 := blk_frozen HGz12 1
      have hfz12_2 := blk_frozen HGz12 2
      have hfz12_3 := blk_frozen HGz12 3
      clear HGz12 hgz12
      have p4 : 0 ≤ (s0_1 : Int) := of_decide_eq_true (by first | (with_reducible assumption) | assumption)
      have q4 : s0_1 < (s0_0.size : Int) := of_decide_eq_true (by first | (with_reducible assumption) | assumption)
      have hx4 := bt_at s0_0 s0_1
      replace p4 := eq_true p4
      replace q4 := eq_true q4
      go_enter Try.func97, Try.ntmps97
      go_wp2_with (first | (go_at_call 130; (with_reducible refine (strings_IndexByte.calls (s0_0.extract ((ji5) : Int).toNat s0_0.size) (bt s0_0 s0_1) t124 _ A8.out).mono ?_); rintro e w' ⟨rfl, ⟨nd, rfl⟩⟩; (try first | exact ⟨rfl, _, World.drewN_drewN _ _ _⟩ | exact ⟨rfl, _, Eq.trans (World.drewN_drewN _ _ _) (congrArg (World.drewN _) (Nat.add_assoc _ _ _))⟩)))
      repeat (go_quiet (first | (go_at_call 130; (with_reducible refine (strings_IndexByte.calls (s0_0.extract ((ji5) : Int).toNat s0_0.size) (bt s0_0 s0_1) t124 _ A8.out).mono ?_); rintro e w' ⟨rfl, ⟨nd, rfl⟩⟩; (try first | exact ⟨rfl, _, World.drewN_drewN _ _ _⟩ | exact ⟨rfl, _, Eq.trans (World.drewN_drewN _ _ _) (congrArg (World.drewN _) (Nat.add_assoc _ _ _))⟩))); try go_wp2_with (first | (go_at_call 130; (with_reducible refine (strings_IndexByte.calls (s0_0.extract ((ji5) : Int).toNat s0_0.size) (bt s0_0 s0_1) t124 _ A8.out).mono ?_); rintro e w' ⟨rfl, ⟨nd, rfl⟩⟩; (try first | exact ⟨rfl, _, World.drewN_drewN _ _ _⟩ | exact ⟨rfl, _, Eq.trans (World.drewN_drewN _ _ _) (congrArg (World.drewN _) (Nat.add_assoc _ _ _))⟩))))
      go_ret2
      exact ⟨by first | rfl | (simp [errW_none, errW_some] <;> rfl) | (simp only [← hji5]; first | rfl | (simp [errW_none, errW_some] <;> rfl)) | (simp [*, errW_none, errW_some] <;> rfl), by repeat (first | (with_reducible first | exact HI0.out | apply IsS58.alloc | apply IsS58.drewN | apply IsS58.drew | apply IsS58.set_0 | apply IsS58.set_1 | apply IsS58.set_2 | apply IsS58.set_3) | exact HI0.out), by repeat (first | (with_reducible first | exact HB.out | apply below_alloc | apply pw_below_drewN | apply below_drew1 | refine below_set ?_ (IsS58.ge HI0.out)) | exact HB.out), by repeat (first | (with_reducible first | exact HK.out | apply KeepBut.set_ | apply keep_drewN | apply keep_drew | apply keep_alloc) | exact HK.out)⟩
     ·rw [if_neg c9] at H
      have c9b0 : decide (t124 < 0) = false := decide_eq_false c9
      clear c9
      have c13b0 := eq_true (of_decide_eq_true (by first | (with_reducible assumption) | assumption) : 0 ≤ (ji5))
      by_cases c14 : (ji5) ≤ (wrap64 ((ji5) + t124))
      ·rw [if_pos c14] at H
       have c14b0 := eq_true c14
       have c14b1 : decide ((ji5) ≤ (wrap64 ((ji5) + t124))) = true := decide_eq_true c14
       by_cases c15 : (wrap64 ((ji5) + t124)) ≤ (s0_0.size : Int)
       ·rw [if_pos c15] at H
        have c15b0 := eq_true c15
        have c15b1 : decide ((wrap64 ((ji5) + t124)) ≤ (s0_0.size : Int)) = true := decide_eq_true c15
        simp only [Option.some.injEq, Prod.mk.injEq] at H
        obtain ⟨rfl, rfl, rfl, rfl, rfl, rfl⟩ := H
        obtain ⟨HGz16, hgz16⟩ := HI0.out
        have hcz16_0 := cellS58_0 HGz16
        have hcz16_1 := cellS58_1 HGz16
        have hcz16_2 := cellS58_2 HGz16
        have hcz16_3 := cellS58_3 HGz16
        have hfz16_0 := blk_frozen HGz16 0
        have hfz16_1 := blk_frozen HGz16 1
        have hfz16_2 := blk_frozen HGz16 2
        have hfz16_3 := blk_frozen HGz16 3
        clear HGz16 hgz16
        have p4 : 0 ≤ (s0_1 : Int) := of_decide_eq_true (by first | (with_reducible assumption) | assumption)
        have q4 : s0_1 < (s0_0.size : Int) := of_decide_eq_true (by first | (with_reducible assumption) | assumption)
        have hx4 := bt_at s0_0 s0_1
        replace p4 := eq_true p4
        replace q4 := eq_true q4
        go_enter Try.func97, Try.ntmps97
        go_wp2_with (first | (go_at_call 130; (with_reducible refine (strings_IndexByte.calls (s0_0.extract ((ji5) : Int).toNat s0_0.size) (bt s0_0 s0_1) t124 _ A8.out).mono ?_); rintro e w' ⟨rfl, ⟨nd, rfl⟩⟩; (try first | exact ⟨rfl, _, World.drewN_drewN _ _ _⟩ | exact ⟨rfl, _, Eq.trans (World.drewN_drewN _ _ _) (congrArg (World.drewN _) (Nat.add_assoc _ _ _))⟩)))
        repeat (go_quiet (first | (go_at_call 130; (with_reducible refine (strings_IndexByte.calls (s0_0.extract ((ji5) : Int).toNat s0_0.size) (bt s0_0 s0_1) t124 _ A8.out).mono ?_); rintro e w' ⟨rfl, ⟨nd, rfl⟩⟩; (try first | exact ⟨rfl, _, World.drewN_drewN _ _ _⟩ | exact ⟨rfl, _, Eq.trans (World.drewN_drewN _ _ _) (congrArg (World.drewN _) (Nat.add_assoc _ _ _))⟩))); try go_wp2_with (first | (go_at_call 130; (with_reducible refine (strings_IndexByte.calls (s0_0.extract ((ji5) : Int).toNat s0_0.size) (bt s0_0 s0_1) t124 _ A8.out).mono ?_); rintro e w' ⟨rfl, ⟨nd, rfl⟩⟩; (try first | exact ⟨rfl, _, World.drewN_drewN _ _ _⟩ | exact ⟨rfl, _, Eq.trans (World.drewN_drewN _ _ _) (congrArg (World.drewN _) (Nat.add_assoc _ _ _))⟩))))
        go_ret2
        exact ⟨by first | rfl | (simp [errW_none, errW_some] <;> rfl) | (simp only [← hji5]; first | rfl | (simp [errW_none, errW_some] <;> rfl)) | (simp [*, errW_none, errW_some] <;> rfl), by repeat (first | (with_reducible first | exact HI0.out | apply IsS58.alloc | apply IsS58.drewN | apply IsS58.drew | apply IsS58.set_0 | apply IsS58.set_1 | apply IsS58.set_2 | apply IsS58.set_3) | exact HI0.out), by repeat (first | (with_reducible first | exact HB.out | apply below_alloc | apply pw_below_drewN | apply below_drew1 | refine below_set ?_ (IsS58.ge HI0.out)) | exact HB.out), by repeat (first | (with_reducible first | exact HK.out | apply KeepBut.set_ | apply keep_drewN | apply keep_drew | apply keep_alloc) | exact HK.out)⟩
       ·rw [if_neg c15] at H
        exact absurd H (by simp)
      ·rw [if_neg c14] at H
       exact absurd H (by simp)
    ·rw [if_neg c7] at H
     exact absurd H (by simp)
   ·rw [if_neg c6] at H
    exact absurd H (by simp)
  ·rw [if_neg c3] at H
   exact absurd H (by simp)
 ·rw [if_neg c2] at H
  exact absurd H (by simp)

end Go.Proofs.Ytlocaaebgghkbaa.A

namespace Go.Proofs.Ytlocaaebgghkbaa.A
open Go.RowKit Go.Proofs.YtlocaaebgghkbaaW.PrintWords Go.Proofs.YtlocaaebgghkbaaW.PrintLast Go.Proofs.YtlocaaebgghkbaaW.PrintMore
attribute [local go_sem] max2_int min2_int max_two min_two max_three min_three max_four min_four   -- for this text's walks alone
set_option linter.unusedVariables false
set_option linter.unusedSimpArgs false

/-! ### impl_tagger_value: function 53 -/
theorem isOver_f (s : ByteArray) (k : Int) (e sl : Bool) (h0 : 0 ≤ k) : impl_tagger_isOver.f s k e sl = some (ovr s k e, s, k, e, sl) := by
 unfold impl_tagger_isOver.f ovr
 by_cases c : k ≥ (s.size : Int)
 ·rw [if_pos c]; simp [show (s.size : Int) ≤ k from c]
 ·rw [if_neg c]
  cases e
  ·rw [if_neg (by simp)]; simp; omega
  ·rw [if_pos rfl, if_pos h0, if_pos (by omega)]; simp; omega
theorem name_l (s : ByteArray) (from_ : Int) (e sl : Bool) (hf : 0 ≤ from_) (hm : s.size ≤ 140737488351232) (d : Nat) : ∀ (k : Nat) (i : Int), from_ ≤ i → i ≤ s.size → ((s.size : Int) - i).toNat = d → d < k →
  impl_tagger_name.l0 k from_ s i e sl = some (s.extract from_.toNat (nmF s e from_ i).toNat, s, nmF s e from_ i, e, sl) := by
 induction d with
 | zero =>
  intro k i h0 h1 hd hk
  obtain ⟨k, rfl⟩ : ∃ m, k = m + 1 := ⟨k - 1, by omega⟩
  have ho : ovr s i e = true := by simp [ovr, show (s.size : Int) ≤ i by omega]
  simp only [impl_tagger_name.l0]
  rw [isOver_f s i e sl (by omega), nmF_stop (.inr (by rw [ho]; simp))]
  simp only [Option.bind_some]
  rw [if_pos ho, if_pos hf, if_pos h0, if_pos h1]
 | succ d ih =>
  intro k i h0 h1 hd hk
  obtain ⟨k, rfl⟩ : ∃ m, k = m + 1 := ⟨k - 1, by omega⟩
  have hr := bt_range s i
  simp only [impl_tagger_name.l0]
  rw [isOver_f s i e sl (by omega)]
  simp only [Option.bind_some]
  by_cases ho : ovr s i e = true
  ·rw [if_pos ho, if_pos hf, if_pos h0, if_pos h1, nmF_stop (.inr (by rw [ho]; simp))]
  ·rw [if_neg ho, if_pos (by omega), if_pos (by omega), isBlankByte_f _ hr.1 hr.2]
   simp only [Option.bind_some]
   have hw : wrap64 (i + 1) = i + 1 := by unfold wrap64; omega
   have ho' : ovr s i e = false := by simpa using ho
   by_cases c1 : blk (bt s i) = true
   ·rw [if_pos c1, if_pos hf, if_pos h0, if_pos h1, nmF_stop (.inr (by simp [inNm, c1]))]
   ·rw [if_neg c1]
    have c1' : blk (bt s i) = false := by simpa using c1
    by_cases c2 : bt s i = 47
    ·rw [if_pos c2, if_pos hf, if_pos h0, if_pos h1, nmF_stop (.inr (by simp [inNm, c2]))]
    ·rw [if_neg c2]
     by_cases c3 : bt s i = 61
     ·rw [if_pos c3]
      by_cases c4 : i > from_
      ·rw [if_pos c4, if_pos hf, if_pos h0, if_pos h1, nmF_stop (.inr (by simp [inNm, c3]; omega))]
      ·have hi' : decide (from_ < i) = false := decide_eq_false c4
       rw [if_neg c4, hw, nmF_go (by omega) ho' (by simp only [inNm, c1', c3, hi']; rfl)]
       exact ih k (i + 1) (by omega) (by omega) (by omega) (by omega)
     ·rw [if_neg c3, hw, nmF_go (by omega) ho' (by simp [inNm, c1', c2, c3])]
      exact ih k (i + 1) (by omega) (by omega) (by omega) (by omega)
theorem name_f (s : ByteArray) (i : Int) (e sl : Bool) (h0 : 0 ≤ i) (h1 : i ≤ s.size) (hm : s.size ≤ 140737488351232) :
  impl_tagger_name.f (((s.size : Int) - i).toNat + 1) s i e sl = some (s.extract i.toNat (nmF s e i i).toNat, s, nmF s e i i, e, sl) := by
 unfold impl_tagger_name.f
 exact name_l s i e sl h0 hm _ _ i (Int.le_refl _) h1 rfl (Nat.lt_succ_self _)
def impl_tagger_value.f (s : ByteArray) (k : Int) (e sl : Bool) : Option (ByteArray × Bool × ByteArray × Int × Bool × Bool) :=
 if 0 ≤ k ∧ k ≤ s.size ∧ s.size ≤ 140737488351232 then
  if ovr s (pastB s k) e = false ∧ bt s (pastB s k) = 61 then
   if ovr s (pastB s (pastB s k + 1)) e = true then some (⟨#[]⟩, true, s, pastB s (pastB s k + 1), e, sl)
   else if bt s (pastB s (pastB s k + 1)) = 34 ∨ bt s (pastB s (pastB s k + 1)) = 39 then impl_tagger_quoted.f s (pastB s (pastB s k + 1)) e sl
   else some (s.extract (pastB s (pastB s k + 1)).toNat (plF s e (pastB s (pastB s k + 1))).toNat, true, s, plF s e (pastB s (pastB s k + 1)), e, sl)
  else some (⟨#[]⟩, true, s, pastB s k, e, sl)
 else none
set_option maxHeartbeats 2000000 in
set_option maxRecDepth 100000 in
theorem impl_tagger_value.calls (g : Nat) (s : ByteArray) (k : Int) (e sl : Bool) (r1 : ByteArray) (r2 : Bool) (r3 : ByteArray) (r4 : Int) (r5 r6 : Bool) (w0 w : World) (hI : IsS58 w0 w g s k e sl) (hB : Below w0.heap.size w0 w) (hF : impl_tagger_value.f s k e sl = some (r1, r2, r3, r4, r5, r6)) :
  Calls Try.prog 53 #[.pointer (some ⟨g, 0, none⟩)] w fun r w' => r = .returned (.tuple #[.string r1, .bool r2]) ∧ IsS58 w0 w' g r3 r4 r5 r6 ∧ Below w0.heap.size w0 w' ∧ KeepBut w w' g none := by
 unfold impl_tagger_value.f at hF
 split at hF
 case isFalse => cases hF
 case isTrue hc =>
 obtain ⟨h0, hs, hm⟩ := hc
 obtain ⟨b1, b2⟩ := pastB_le (s := s) _ k rfl hs
 have HF := Aside0.mk hF
 clear hF
 have HI := Aside0.mk hI
 have HK := Aside0.mk (KeepBut.refl w g none)
 have HB := Aside0.mk hB
 clear hI hB
 generalize hk1 : pastB s k = k1 at *
 have Hk1 := Aside0.mk hk1
 clear hk1
 have k10 : 0 ≤ k1 := by omega
 have hb1 : impl_tagger_blanks.f s k e sl = some (s, k1, e, sl) := by
  unfold impl_tagger_blanks.f; rw [if_pos ⟨h0, hs, hm⟩, Hk1.out]
 go_enter Try.func53, Try.ntmps53
 go_wp2_with ((go_at_call 96; (refine (impl_tagger_blanks.calls g s k e sl s k1 e sl w0 _ ?_ ?_ hb1).mono ?_); exact HI.out; exact HB.out; rintro r w1 ⟨rfl, hi, hb, hk⟩))
 have HI1 := Aside0.mk hi
 have HB1 := Aside0.mk hb
 have HK1 := Aside0.mk hk
 clear hi hb hk HI HB HK
 obtain ⟨hc0, hc1, hc2, hc3, hf0, hf1, hf2, hf3⟩ := tagger_cells HI1.out
 by_cases c1 : ovr s k1 e = true
 ·have hF2 := HF.out
  rw [if_neg (by rw [c1]; simp)] at hF2
  simp only [Option.some.injEq, Prod.mk.injEq] at hF2
  obtain ⟨rfl, rfl, rfl, rfl, rfl, rfl⟩ := hF2
  go_wp2
  go_quiet ((go_at_call 51; (refine (isOver_any g s k1 e sl w0 _ ?_ k10).mono ?_); exact HI1.out; rintro r w' ⟨rfl, ⟨nd, rfl⟩⟩; rw [c1]; exact ⟨rfl, _, World.drewN_drewN _ _ _⟩))
  go_wp2
  go_ret2
  exact ⟨rfl, HI1.out, pw_below_drewN HB1.out _, keep_drewN HK1.out _⟩
 replace c1 : ovr s k1 e = false := by simpa using c1
 have hlt := ovr_lt c1
 have p7 := eq_true k10
 have q7 := eq_true hlt
 have hx := bt_at s k1
 by_cases c2 : bt s k1 = 61
 case neg =>
  have c2b : (bt s k1 != 61) = true := bne_iff_ne.mpr c2
  have hF2 := HF.out
  rw [if_neg (fun h => c2 h.2)] at hF2
  simp only [Option.some.injEq, Prod.mk.injEq] at hF2
  obtain ⟨rfl, rfl, rfl, rfl, rfl, rfl⟩ := hF2
  clear c2
  go_wp2
  go_quiet ((go_at_call 51; (refine (isOver_any g s k1 e sl w0 _ ?_ k10).mono ?_); exact HI1.out; rintro r w' ⟨rfl, ⟨nd, rfl⟩⟩; rw [c1]; exact ⟨rfl, _, World.drewN_drewN _ _ _⟩))
  go_wp2
  go_ret2
  exact ⟨rfl, HI1.out, pw_below_drewN HB1.out _, keep_drewN HK1.out _⟩
 have c2b : (bt s k1 != 61) = false := by rw [c2]; rfl
 have HF1 : Aside0 _ := ⟨HF.out.symm.trans (if_pos ⟨c1, c2⟩)⟩
 clear HF
 have C2 := Aside0.mk c2
 clear c2
 go_wp2
 go_quiet ((go_at_call 51; (refine (isOver_any g s k1 e sl w0 _ ?_ k10).mono ?_); exact HI1.out; rintro r w' ⟨rfl, ⟨nd, rfl⟩⟩; rw [c1]; exact ⟨rfl, _, World.drewN_drewN _ _ _⟩))
 generalize hW : World.drewN w1 nq = w2
 have HI2 : Aside0 (IsS58 w0 w2 g s k1 e sl) := ⟨by rw [← hW]; exact HI1.out⟩
 have HB2 : Aside0 (Below w0.heap.size w0 w2) := ⟨by rw [← hW]; exact pw_below_drewN HB1.out _⟩
 have HK2 : Aside0 (KeepBut w w2 g none) := ⟨by rw [← hW]; exact keep_drewN HK1.out _⟩
 clear hW hc0 hc1 hc2 hc3 hf0 hf1 hf2 hf3
 obtain ⟨hc0, hc1, hc2, hc3, hf0, hf1, hf2, hf3⟩ := tagger_cells HI2.out
 obtain ⟨b3, b4⟩ := pastB_le (s := s) _ (k1 + 1) rfl (by omega)
 have hb2 : impl_tagger_blanks.f s (k1 + 1) e sl = some (s, pastB s (k1 + 1), e, sl) := by
  unfold impl_tagger_blanks.f; rw [if_pos ⟨by omega, by omega, hm⟩]
 have Hb2 := Aside0.mk hb2
 clear hb2
 go_wp2_with ((go_at_call 96; (refine (impl_tagger_blanks.calls g s (k1 + 1) e sl s (pastB s (k1 + 1)) e sl w0 _ ?_ ?_ Hb2.out).mono ?_); exact HI2.out.set_1 _; exact below_set HB2.out HI2.out.2; rintro r w3 ⟨rfl, hi, hb, hk⟩))
 generalize hk2 : pastB s (k1 + 1) = k2 at *
 have HF2 : Aside0 _ := HF1
 clear HF1 Hb2 hk2
 have HI3 := Aside0.mk hi
 have HB3 := Aside0.mk hb
 have HK3 := Aside0.mk ((HK2.out.set_ 1 _).trans hk (.inl rfl))
 clear hi hb hk HI1 HB1 HK1 HI2 HB2 HK2 hc0 hc1 hc2 hc3 hf0 hf1 hf2 hf3
 obtain ⟨hc0, hc1, hc2, hc3, hf0, hf1, hf2, hf3⟩ := tagger_cells HI3.out
 clear p7 q7 hx hlt
 have k20 : 0 ≤ k2 := by omega
 by_cases c3 : ovr s k2 e = true
 ·have hF2 := HF2.out.symm
  rw [if_pos c3] at hF2
  simp only [Option.some.injEq, Prod.mk.injEq] at hF2
  obtain ⟨rfl, rfl, rfl, rfl, rfl, rfl⟩ := hF2
  go_wp2_with ((go_at_call 51; (refine (isOver_any g s k2 e sl w0 _ ?_ k20).mono ?_); exact HI3.out; rintro r w' ⟨rfl, ⟨nd, rfl⟩⟩; rw [c3]))
  go_ret2
  exact ⟨rfl, HI3.out, pw_below_drewN HB3.out _, keep_drewN HK3.out _⟩
 replace c3 : ovr s k2 e = false := by simpa using c3
 have hlt := ovr_lt c3
 have p7 := eq_true k20
 have q7 := eq_true hlt
 have hx := bt_at s k2
 have HF3 : Aside0 _ := ⟨HF2.out.trans (if_neg (by rw [c3]; simp))⟩
 clear HF2
 go_wp2_with ((go_at_call 51; (refine (isOver_any g s k2 e sl w0 _ ?_ k20).mono ?_); exact HI3.out; rintro r w' ⟨rfl, ⟨nd, rfl⟩⟩; rw [c3]))
 generalize hW : World.drewN w3 nd = w4
 have HI4 : Aside0 (IsS58 w0 w4 g s k2 e sl) := ⟨by rw [← hW]; exact HI3.out⟩
 have HB4 : Aside0 (Below w0.heap.size w0 w4) := ⟨by rw [← hW]; exact pw_below_drewN HB3.out _⟩
 have HK4 : Aside0 (KeepBut w w4 g none) := ⟨by rw [← hW]; exact keep_drewN HK3.out _⟩
 clear hW hc0 hc1 hc2 hc3 hf0 hf1 hf2 hf3
 obtain ⟨hc0, hc1, hc2, hc3, hf0, hf1, hf2, hf3⟩ := tagger_cells HI4.out
 by_cases c4 : bt s k2 = 34 ∨ bt s k2 = 39
 ·have HF4 : Aside0 _ := ⟨HF3.out.trans (if_pos c4)⟩
  have hq := HF4.out.symm
  have Hq := Aside0.mk hq
  clear hq HF4 HF3
  by_cases c5 : bt s k2 = 34
  ·have c5b : (bt s k2 == 34) = true := beq_iff_eq.mpr c5
   clear c4 c5
   go_quiet (fail)
   generalize hW : World.drewN w4 nq = w5
   have HI5 : Aside0 (IsS58 w0 w5 g s k2 e sl) := ⟨by rw [← hW]; exact HI4.out⟩
   have HB5 : Aside0 (Below w0.heap.size w0 w5) := ⟨by rw [← hW]; exact pw_below_drewN HB4.out _⟩
   have HK5 : Aside0 (KeepBut w w5 g none) := ⟨by rw [← hW]; exact keep_drewN HK4.out _⟩
   clear hW hc0 hc1 hc2 hc3 hf0 hf1 hf2 hf3
   go_wp2_with ((go_at_call 97; (refine (impl_tagger_quoted.calls g s k2 e sl r1 r2 r3 r4 r5 r6 w0 _ HI5.out HB5.out Hq.out).mono ?_); rintro r w6 ⟨rfl, hi, hb, hk⟩))
   go_ret2
   exact ⟨rfl, hi, hb, HK5.out.trans hk (.inl rfl)⟩
  ·have c6 : bt s k2 = 39 := c4.resolve_left c5
   have c5b : (bt s k2 == 34) = false := beq_eq_false_iff_ne.mpr c5
   have c6b : (bt s k2 == 39) = true := beq_iff_eq.mpr c6
   clear c4 c5 c6
   go_quiet (fail)
   generalize hW : World.drewN w4 nq = w5
   have HI5 : Aside0 (IsS58 w0 w5 g s k2 e sl) := ⟨by rw [← hW]; exact HI4.out⟩
   have HB5 : Aside0 (Below w0.heap.size w0 w5) := ⟨by rw [← hW]; exact pw_below_drewN HB4.out _⟩
   have HK5 : Aside0 (KeepBut w w5 g none) := ⟨by rw [← hW]; exact keep_drewN HK4.out _⟩
   clear hW hc0 hc1 hc2 hc3 hf0 hf1 hf2 hf3
   go_wp2_with ((go_at_call 97; (refine (impl_tagger_quoted.calls g s k2 e sl r1 r2 r3 r4 r5 r6 w0 _ HI5.out HB5.out Hq.out).mono ?_); rintro r w6 ⟨rfl, hi, hb, hk⟩))
   go_ret2
   exact ⟨rfl, hi, hb, HK5.out.trans hk (.inl rfl)⟩
 have HF4 : Aside0 _ := ⟨HF3.out.trans (if_neg c4)⟩
 clear HF3
 have c5b : (bt s k2 == 34) = false := beq_eq_false_iff_ne.mpr (fun h => c4 (.inl h))
 have c6b : (bt s k2 == 39) = false := beq_eq_false_iff_ne.mpr (fun h => c4 (.inr h))
 clear c4
 go_quiet (fail)
 generalize hW : World.drewN w4 nq = w5
 have HI5 : Aside0 (IsS58 w0 w5 g s k2 e sl) := ⟨by rw [← hW]; exact HI4.out⟩
 have HB5 : Aside0 (Below w0.heap.size w0 w5) := ⟨by rw [← hW]; exact pw_below_drewN HB4.out _⟩
 have HK5 : Aside0 (KeepBut w w5 g none) := ⟨by rw [← hW]; exact keep_drewN HK4.out _⟩
 clear hW hc0 hc1 hc2 hc3 hf0 hf1 hf2 hf3
 obtain ⟨hc0, hc1, hc2, hc3, hf0, hf1, hf2, hf3⟩ := tagger_cells HI5.out
 go_wp2
 clear c5b c6b p7 q7 hx hlt c3
 have hF5 := HF4.out.symm
 simp only [Option.some.injEq, Prod.mk.injEq] at hF5
 obtain ⟨hr1, rfl, rfl, hr4, rfl, rfl⟩ := hF5
 have HR1 := Aside0.mk hr1
 have HR4 := Aside0.mk hr4
 clear hr1 hr4 HF4
 go_loopg [] (((s.size : Int) - k2).toNat) (fun kq wr => ∃ (j : Int), k2 ≤ j ∧ j ≤ s.size ∧ Aside0 (kq = ((s.size : Int) - j).toNat) ∧ Aside0 (IsS58 w0 wr g s j e sl) ∧ Aside0 (plF s e j = plF s e k2) ∧ Aside0 (KeepBut w wr g none) ∧ Aside0 (Below w0.heap.size w0 wr))
 case atStart => exact ⟨k2, Int.le_refl _, b4, ⟨rfl⟩, HI5, ⟨rfl⟩, HK5, HB5⟩
 case round =>
  clear HI5 HB5 HK5 HI4 HB4 HK4 HI3 HB3 HK3 hc0 hc1 hc2 hc3 hf0 hf1 hf2 hf3
  obtain ⟨j, j0, j1, HM, HT, HE, HK, HB⟩ := hrel
  obtain ⟨hc0, hc1, hc2, hc3, hf0, hf1, hf2, hf3⟩ := tagger_cells HT.out
  have jk : 0 ≤ j := by omega
  by_cases c1 : ovr s j e = true
  ·go_wp2
   go_quiet ((go_at_call 51; (refine (isOver_any g s j e sl w0 _ ?_ jk).mono ?_); exact HT.out; rintro r w' ⟨rfl, ⟨nd, rfl⟩⟩; rw [c1]; exact ⟨rfl, _, World.drewN_drewN _ _ _⟩))
   generalize hW : World.drewN wr nq = wx
   have HT2 : Aside0 (IsS58 w0 wx g s j e sl) := ⟨by rw [← hW]; exact HT.out⟩
   have HK2 : Aside0 (KeepBut w wx g none) := ⟨by rw [← hW]; exact HK.out⟩
   have HB2 : Aside0 (Below w0.heap.size w0 wx) := ⟨by rw [← hW]; exact pw_below_drewN HB.out _⟩
   clear hW hc0 hc1 hc2 hc3 hf0 hf1 hf2 hf3 HT HK HB
   obtain ⟨hc0, hc1, hc2, hc3, hf0, hf1, hf2, hf3⟩ := tagger_cells HT2.out
   go_wp2
   go_quiet (fail)
   go_wp2
   go_ret2
   exact ⟨by rw [← HR1.out, ← HE.out, plF_stop (by rw [c1]; simp)]; rfl, by rw [← HR4.out, ← HE.out, plF_stop (by rw [c1]; simp)]; exact HT2.out, pw_below_drewN HB2.out _, keep_drewN HK2.out _⟩
  ·replace c1 : ovr s j e = false := by simpa using c1
   have hlt := ovr_lt c1
   have p7 := eq_true jk
   have q7 := eq_true hlt
   have hx := bt_at s j
   have hr := bt_range s j
   by_cases c2 : blk (bt s j) = true
   ·go_wp2
    go_quiet (first | (go_at_call 51; (refine (isOver_any g s j e sl w0 _ ?_ jk).mono ?_); exact HT.out; rintro r w' ⟨rfl, ⟨nd, rfl⟩⟩; rw [c1]; exact ⟨rfl, _, World.drewN_drewN _ _ _⟩) | (go_at_call 93; (refine (isBlankByte_any (bt s j) hr.1 hr.2 _).mono ?_); rintro r w' ⟨rfl, ⟨nd, rfl⟩⟩; rw [c2]; exact ⟨rfl, _, World.drewN_drewN _ _ _⟩))
    clear p7 q7 hx hr hlt
    generalize hW : World.drewN wr nq = wx
    have HT2 : Aside0 (IsS58 w0 wx g s j e sl) := ⟨by rw [← hW]; exact HT.out⟩
    have HK2 : Aside0 (KeepBut w wx g none) := ⟨by rw [← hW]; exact HK.out⟩
    have HB2 : Aside0 (Below w0.heap.size w0 wx) := ⟨by rw [← hW]; exact pw_below_drewN HB.out _⟩
    clear hW hc0 hc1 hc2 hc3 hf0 hf1 hf2 hf3 HT HK HB
    obtain ⟨hc0, hc1, hc2, hc3, hf0, hf1, hf2, hf3⟩ := tagger_cells HT2.out
    go_wp2
    go_quiet (fail)
    go_wp2
    go_ret2
    exact ⟨by rw [← HR1.out, ← HE.out, plF_stop (by rw [c2]; simp)]; rfl, by rw [← HR4.out, ← HE.out, plF_stop (by rw [c2]; simp)]; exact HT2.out, pw_below_drewN HB2.out _, keep_drewN HK2.out _⟩
   ·replace c2 : blk (bt s j) = false := by simpa using c2
    go_wp2
    go_quiet (first | (go_at_call 51; (refine (isOver_any g s j e sl w0 _ ?_ jk).mono ?_); exact HT.out; rintro r w' ⟨rfl, ⟨nd, rfl⟩⟩; rw [c1]; exact ⟨rfl, _, World.drewN_drewN _ _ _⟩) | (go_at_call 93; (refine (isBlankByte_any (bt s j) hr.1 hr.2 _).mono ?_); rintro r w' ⟨rfl, ⟨nd, rfl⟩⟩; rw [c2]; exact ⟨rfl, _, World.drewN_drewN _ _ _⟩))
    generalize hW : World.drewN wr nq = wx
    have HT2 : Aside0 (IsS58 w0 wx g s j e sl) := ⟨by rw [← hW]; exact HT.out⟩
    have HK2 : Aside0 (KeepBut w wx g none) := ⟨by rw [← hW]; exact HK.out⟩
    have HB2 : Aside0 (Below w0.heap.size w0 wx) := ⟨by rw [← hW]; exact pw_below_drewN HB.out _⟩
    clear hW hc0 hc1 hc2 hc3 hf0 hf1 hf2 hf3 HT HK HB
    obtain ⟨hc0, hc1, hc2, hc3, hf0, hf1, hf2, hf3⟩ := tagger_cells HT2.out
    go_wp2
    go_roundg (((s.size : Int) - (j + 1)).toNat)
    case measure => have := HM.out; omega
    case rel => exact ⟨j + 1, by omega, by omega, ⟨rfl⟩, ⟨HT2.out.set_1 _⟩, ⟨by rw [← HE.out, plF_go hlt c1 c2]⟩, ⟨HK2.out.set_ _ _⟩, ⟨below_set HB2.out HT2.out.2⟩⟩

end Go.Proofs.Ytlocaaebgghkbaa.A

namespace Go.Proofs.Ytlocaaebgghkbaa.A
open Go.RowKit Go.Proofs.YtlocaaebgghkbaaW.PrintWords Go.Proofs.YtlocaaebgghkbaaW.PrintLast Go.Proofs.YtlocaaebgghkbaaW.PrintMore
attribute [local go_sem] max2_int min2_int max_two min_two max_three min_three max_four min_four   -- for this text's walks alone
set_option linter.unusedVariables false
set_option linter.unusedSimpArgs false

/-! ### laws_eqAttr: function 68 -/
def laws_eqAttr.f (a0_0 : ByteArray) (a0_1 : ByteArray) (a1_0 : ByteArray) (a1_1 : ByteArray) : Option (Bool) := if a0_0.toList = a1_0.toList then (if a0_1.toList = a1_1.toList then (some true) else (some false)) else (some false)
set_option maxHeartbeats 8000000 in
set_option maxRecDepth 100000 in
theorem laws_eqAttr.calls (a0_0 : ByteArray) (a0_1 : ByteArray) (a1_0 : ByteArray) (a1_1 : ByteArray) (r : Bool) (w : World) (h : laws_eqAttr.f a0_0 a0_1 a1_0 a1_1 = some r) :
  Calls Try.prog 68 #[.agg #[.string a0_0, .string a0_1], .agg #[.string a1_0, .string a1_1]] w fun e w' => e = .returned (.bool r) ∧ Below w.heap.size w w' := by
 have hu53 := Try.underlying53
 have HB := Aside0.mk (Below.refl w.heap.size w)
 have H : (if a0_0.toList = a1_0.toList then (if a0_1.toList = a1_1.toList then (some true) else (some false)) else (some false)) = some r := h
 clear h
 by_cases c3 : a0_0.toList = a1_0.toList
 ·rw [if_pos c3] at H
  have c3b0 : (a0_0.toList == a1_0.toList) = true := beq_iff_eq.mpr c3
  have c3b1 : (a0_0.toList != a1_0.toList) = false := bne_eq_false_iff_eq.mpr c3
  clear c3
  by_cases c4 : a0_1.toList = a1_1.toList
  ·rw [if_pos c4] at H
   have c4b0 : (a0_1.toList == a1_1.toList) = true := beq_iff_eq.mpr c4
   have c4b1 : (a0_1.toList != a1_1.toList) = false := bne_eq_false_iff_eq.mpr c4
   clear c4
   obtain rfl := Option.some.inj H
   go_enter Try.func68, Try.ntmps68
   go_wp2_with (first | ((with_reducible refine gate_dst (N := 2) rfl ?_); refine box_event ?hg (N := 2) ?hd (cs := #[.string a0_0, .string a0_1]) (t := 53) ?hr ?_; (case hd => rfl); (case hg => rfl); (case hr => first | (go_simp; done) | (go_simp; rfl)); intro gb159 hg w5 hbox hb; have n0_ := Aside0.mk (below_step (by repeat (first | (with_reducible first | exact HB.out | apply below_alloc | apply pw_below_drewN | apply below_drew1) | exact HB.out)) hb); have n1_ := Aside0.mk (hbox); have n2_ := Aside0.mk ((by rw [hg]; exact (below_size (by repeat (first | (with_reducible first | exact HB.out | apply below_alloc | apply pw_below_drewN | apply below_drew1) | exact HB.out))) : w.heap.size ≤ gb159)); have n3_ := Aside0.mk ((by rw [hg]; exact (below_size (by repeat (first | (with_reducible first | exact HB.out | apply below_alloc | apply pw_below_drewN | apply below_drew1) | exact HB.out))) : w.heap.size ≤ gb159)); clear HB; have HB := n0_; have BK159 := n1_; have GW159 := n2_; have GE159 := n3_; clear n0_ n1_ n2_ n3_; clear hb hbox hg) | ((with_reducible refine gate_dst (N := 3) rfl ?_); refine box_event ?hg (N := 3) ?hd (cs := #[.string a1_0, .string a1_1]) (t := 53) ?hr ?_; (case hd => rfl); (case hg => rfl); (case hr => first | (go_simp; done) | (go_simp; rfl)); intro gb160 hg w6 hbox hb; have n0_ := Aside0.mk (blk_below (g := gb159) (o := .cells #[.string a0_0, .string a0_1] 53 (0, 0)) (by (with_reducible repeat (first | refine blk_drewN ?_ _ | refine blk_drew ?_ | refine blk_alloc ?_ _)); exact BK159.out) hb); have n1_ := Aside0.mk (below_step (by repeat (first | (with_reducible first | exact HB.out | apply below_alloc | apply pw_below_drewN | apply below_drew1 | refine below_set ?_ GE159.out) | exact HB.out)) hb); have n2_ := Aside0.mk (hbox); have n3_ := Aside0.mk ((by rw [hg]; exact (below_size (by repeat (first | (with_reducible first | exact HB.out | apply below_alloc | apply pw_below_drewN | apply below_drew1 | refine below_set ?_ GE159.out) | exact HB.out))) : w.heap.size ≤ gb160)); have n4_ := Aside0.mk ((by rw [hg]; exact (below_size (by repeat (first | (with_reducible first | exact HB.out | apply below_alloc | apply pw_below_drewN | apply below_drew1 | refine below_set ?_ GE159.out) | exact HB.out))) : w.heap.size ≤ gb160)); have n5_ := Aside0.mk ((by rw [hg]; exact Nat.ne_of_lt (blk_lt (g := gb159) (o := .cells #[.string a0_0, .string a0_1] 53 (0, 0)) (by (with_reducible repeat (first | refine blk_drewN ?_ _ | refine blk_drew ?_ | refine blk_alloc ?_ _)); exact BK159.out)) : gb159 ≠ gb160)); have n6_ := Aside0.mk ((by rw [hg]; exact Nat.ne_of_gt (blk_lt (g := gb159) (o := .cells #[.string a0_0, .string a0_1] 53 (0, 0)) (by (with_reducible repeat (first | refine blk_drewN ?_ _ | refine blk_drew ?_ | refine blk_alloc ?_ _)); exact BK159.out)) : gb160 ≠ gb159)); clear BK159; clear HB; have BK159 := n0_; have HB := n1_; have BK160 := n2_; have GW160 := n3_; have GE160 := n4_; have NB159_160 := n5_; have NB160_159 := n6_; clear n0_ n1_ n2_ n3_ n4_ n5_ n6_; clear hb hbox hg; have hnb7 := NB159_160.out; have hnc7 := NB160_159.out; have hcz8_0 : w6.cell? ⟨gb159, 0, none⟩ = some (.string a0_0) := (blk_cell BK159.out 0).trans rfl; have hcz8_1 : w6.cell? ⟨gb159, 1, none⟩ = some (.string a0_1) := (blk_cell BK159.out 1).trans rfl; have hfz8_0 := blk_frozen BK159.out 0; have hfz8_1 := blk_frozen BK159.out 1; have hcz9_0 : w6.cell? ⟨gb160, 0, none⟩ = some (.string a1_0) := (blk_cell BK160.out 0).trans rfl; have hcz9_1 : w6.cell? ⟨gb160, 1, none⟩ = some (.string a1_1) := (blk_cell BK160.out 1).trans rfl; have hfz9_0 := blk_frozen BK160.out 0; have hfz9_1 := blk_frozen BK160.out 1))
   go_ret
   exact ⟨by first | rfl | (simp [errW_none, errW_some] <;> rfl) | (simp [*, errW_none, errW_some] <;> rfl), by repeat (first | (with_reducible first | exact HB.out | apply below_alloc | apply pw_below_drewN | apply below_drew1 | refine below_set ?_ GE159.out | refine below_set ?_ GE160.out) | exact HB.out)⟩
  ·rw [if_neg c4] at H
   have c4b0 : (a0_1.toList == a1_1.toList) = false := beq_eq_false_iff_ne.mpr c4
   have c4b1 : (a0_1.toList != a1_1.toList) = true := bne_iff_ne.mpr c4
   obtain rfl := Option.some.inj H
   go_enter Try.func68, Try.ntmps68
   go_wp2_with (first | ((with_reducible refine gate_dst (N := 2) rfl ?_); refine box_event ?hg (N := 2) ?hd (cs := #[.string a0_0, .string a0_1]) (t := 53) ?hr ?_; (case hd => rfl); (case hg => rfl); (case hr => first | (go_simp; done) | (go_simp; rfl)); intro gb159 hg w10 hbox hb; have n0_ := Aside0.mk (below_step (by repeat (first | (with_reducible first | exact HB.out | apply below_alloc | apply pw_below_drewN | apply below_drew1) | exact HB.out)) hb); have n1_ := Aside0.mk (hbox); have n2_ := Aside0.mk ((by rw [hg]; exact (below_size (by repeat (first | (with_reducible first | exact HB.out | apply below_alloc | apply pw_below_drewN | apply below_drew1) | exact HB.out))) : w.heap.size ≤ gb159)); have n3_ := Aside0.mk ((by rw [hg]; exact (below_size (by repeat (first | (with_reducible first | exact HB.out | apply below_alloc | apply pw_below_drewN | apply below_drew1) | exact HB.out))) : w.heap.size ≤ gb159)); clear HB; have HB := n0_; have BK159 := n1_; have GW159 := n2_; have GE159 := n3_; clear n0_ n1_ n2_ n3_; clear hb hbox hg) | ((with_reducible refine gate_dst (N := 3) rfl ?_); refine box_event ?hg (N := 3) ?hd (cs := #[.string a1_0, .string a1_1]) (t := 53) ?hr ?_; (case hd => rfl); (case hg => rfl); (case hr => first | (go_simp; done) | (go_simp; rfl)); intro gb160 hg w11 hbox hb; have n0_ := Aside0.mk (blk_below (g := gb159) (o := .cells #[.string a0_0, .string a0_1] 53 (0, 0)) (by (with_reducible repeat (first | refine blk_drewN ?_ _ | refine blk_drew ?_ | refine blk_alloc ?_ _)); exact BK159.out) hb); have n1_ := Aside0.mk (below_step (by repeat (first | (with_reducible first | exact HB.out | apply below_alloc | apply pw_below_drewN | apply below_drew1 | refine below_set ?_ GE159.out) | exact HB.out)) hb); have n2_ := Aside0.mk (hbox); have n3_ := Aside0.mk ((by rw [hg]; exact (below_size (by repeat (first | (with_reducible first | exact HB.out | apply below_alloc | apply pw_below_drewN | apply below_drew1 | refine below_set ?_ GE159.out) | exact HB.out))) : w.heap.size ≤ gb160)); have n4_ := Aside0.mk ((by rw [hg]; exact (below_size (by repeat (first | (with_reducible first | exact HB.out | apply below_alloc | apply pw_below_drewN | apply below_drew1 | refine below_set ?_ GE159.out) | exact HB.out))) : w.heap.size ≤ gb160)); have n5_ := Aside0.mk ((by rw [hg]; exact Nat.ne_of_lt (blk_lt (g := gb159) (o := .cells #[.string a0_0, .string a0_1] 53 (0, 0)) (by (with_reducible repeat (first | refine blk_drewN ?_ _ | refine blk_drew ?_ | refine blk_alloc ?_ _)); exact BK159.out)) : gb159 ≠ gb160)); have n6_ := Aside0.mk ((by rw [hg]; exact Nat.ne_of_gt (blk_lt (g := gb159) (o := .cells #[.string a0_0, .string a0_1] 53 (0, 0)) (by (with_reducible repeat (first | refine blk_drewN ?_ _ | refine blk_drew ?_ | refine blk_alloc ?_ _)); exact BK159.out)) : gb160 ≠ gb159)); clear BK159; clear HB; have BK159 := n0_; have HB := n1_; have BK160 := n2_; have GW160 := n3_; have GE160 := n4_; have NB159_160 := n5_; have NB160_159 := n6_; clear n0_ n1_ n2_ n3_ n4_ n5_ n6_; clear hb hbox hg; have hnb12 := NB159_160.out; have hnc12 := NB160_159.out; have hcz13_0 : w11.cell? ⟨gb159, 0, none⟩ = some (.string a0_0) := (blk_cell BK159.out 0).trans rfl; have hcz13_1 : w11.cell? ⟨gb159, 1, none⟩ = some (.string a0_1) := (blk_cell BK159.out 1).trans rfl; have hfz13_0 := blk_frozen BK159.out 0; have hfz13_1 := blk_frozen BK159.out 1; have hcz14_0 : w11.cell? ⟨gb160, 0, none⟩ = some (.string a1_0) := (blk_cell BK160.out 0).trans rfl; have hcz14_1 : w11.cell? ⟨gb160, 1, none⟩ = some (.string a1_1) := (blk_cell BK160.out 1).trans rfl; have hfz14_0 := blk_frozen BK160.out 0; have hfz14_1 := blk_frozen BK160.out 1))
   go_ret
   exact ⟨by first | rfl | (simp [errW_none, errW_some] <;> rfl) | (simp [*, errW_none, errW_some] <;> rfl), by repeat (first | (with_reducible first | exact HB.out | apply below_alloc | apply pw_below_drewN | apply below_drew1 | refine below_set ?_ GE159.out | refine below_set ?_ GE160.out) | exact HB.out)⟩
 ·rw [if_neg c3] at H
  have c3b0 : (a0_0.toList == a1_0.toList) = false := beq_eq_false_iff_ne.mpr c3
  have c3b1 : (a0_0.toList != a1_0.toList) = true := bne_iff_ne.mpr c3
  obtain rfl := Option.some.inj H
  go_enter Try.func68, Try.ntmps68
  go_wp2_with (first | ((with_reducible refine gate_dst (N := 2) rfl ?_); refine box_event ?hg (N := 2) ?hd (cs := #[.string a0_0, .string a0_1]) (t := 53) ?hr ?_; (case hd => rfl); (case hg => rfl); (case hr => first | (go_simp; done) | (go_simp; rfl)); intro gb159 hg w15 hbox hb; have n0_ := Aside0.mk (below_step (by repeat (first | (with_reducible first | exact HB.out | apply below_alloc | apply pw_below_drewN | apply below_drew1) | exact HB.out)) hb); have n1_ := Aside0.mk (hbox); have n2_ := Aside0.mk ((by rw [hg]; exact (below_size (by repeat (first | (with_reducible first | exact HB.out | apply below_alloc | apply pw_below_drewN | apply below_drew1) | exact HB.out))) : w.heap.size ≤ gb159)); have n3_ := Aside0.mk ((by rw [hg]; exact (below_size (by repeat (first | (with_reducible first | exact HB.out | apply below_alloc | apply pw_below_drewN | apply below_drew1) | exact HB.out))) : w.heap.size ≤ gb159)); clear HB; have HB := n0_; have BK159 := n1_; have GW159 := n2_; have GE159 := n3_; clear n0_ n1_ n2_ n3_; clear hb hbox hg) | ((with_reducible refine gate_dst (N := 3) rfl ?_); refine box_event ?hg (N := 3) ?hd (cs := #[.string a1_0, .string a1_1]) (t := 53) ?hr ?_; (case hd => rfl); (case hg => rfl); (case hr => first | (go_simp; done) | (go_simp; rfl)); intro gb160 hg w16 hbox hb; have n0_ := Aside0.mk (blk_below (g := gb159) (o := .cells #[.string a0_0, .string a0_1] 53 (0, 0)) (by (with_reducible repeat (first | refine blk_drewN ?_ _ | refine blk_drew ?_ | refine blk_alloc ?_ _)); exact BK159.out) hb); have n1_ := Aside0.mk (below_step (by repeat (first | (with_reducible first | exact HB.out | apply below_alloc | apply pw_below_drewN | apply below_drew1 | refine below_set ?_ GE159.out) | exact HB.out)) hb); have n2_ := Aside0.mk (hbox); have n3_ := Aside0.mk ((by rw [hg]; exact (below_size (by repeat (first | (with_reducible first | exact HB.out | apply below_alloc | apply pw_below_drewN | apply below_drew1 | refine below_set ?_ GE159.out) | exact HB.out))) : w.heap.size ≤ gb160)); have n4_ := Aside0.mk ((by rw [hg]; exact (below_size (by repeat (first | (with_reducible first | exact HB.out | apply below_alloc | apply pw_below_drewN | apply below_drew1 | refine below_set ?_ GE159.out) | exact HB.out))) : w.heap.size ≤ gb160)); have n5_ := Aside0.mk ((by rw [hg]; exact Nat.ne_of_lt (blk_lt (g := gb159) (o := .cells #[.string a0_0, .string a0_1] 53 (0, 0)) (by (with_reducible repeat (first | refine blk_drewN ?_ _ | refine blk_drew ?_ | refine blk_alloc ?_ _)); exact BK159.out)) : gb159 ≠ gb160)); have n6_ := Aside0.mk ((by rw [hg]; exact Nat.ne_of_gt (blk_lt (g := gb159) (o := .cells #[.string a0_0, .string a0_1] 53 (0, 0)) (by (with_reducible repeat (first | refine blk_drewN ?_ _ | refine blk_drew ?_ | refine blk_alloc ?_ _)); exact BK159.out)) : gb160 ≠ gb159)); clear BK159; clear HB; have BK159 := n0_; have HB := n1_; have BK160 := n2_; have GW160 := n3_; have GE160 := n4_; have NB159_160 := n5_; have NB160_159 := n6_; clear n0_ n1_ n2_ n3_ n4_ n5_ n6_; clear hb hbox hg; have hnb17 := NB159_160.out; have hnc17 := NB160_159.out; have hcz18_0 : w16.cell? ⟨gb159, 0, none⟩ = some (.string a0_0) := (blk_cell BK159.out 0).trans rfl; have hcz18_1 : w16.cell? ⟨gb159, 1, none⟩ = some (.string a0_1) := (blk_cell BK159.out 1).trans rfl; have hfz18_0 := blk_frozen BK159.out 0; have hfz18_1 := blk_frozen BK159.out 1; have hcz19_0 : w16.cell? ⟨gb160, 0, none⟩ = some (.string a1_0) := (blk_cell BK160.out 0).trans rfl; have hcz19_1 : w16.cell? ⟨gb160, 1, none⟩ = some (.string a1_1) := (blk_cell BK160.out 1).trans rfl; have hfz19_0 := blk_frozen BK160.out 0; have hfz19_1 := blk_frozen BK160.out 1))
  go_ret
  exact ⟨by first | rfl | (simp [errW_none, errW_some] <;> rfl) | (simp [*, errW_none, errW_some] <;> rfl), by repeat (first | (with_reducible first | exact HB.out | apply below_alloc | apply pw_below_drewN | apply below_drew1 | refine below_set ?_ GE159.out | refine below_set ?_ GE160.out) | exact HB.out)⟩

end Go.Proofs.Ytlocaaebgghkbaa.A

namespace Go.Proofs.Ytlocaaebgghkbaa.A
open Go.RowKit Go.Proofs.YtlocaaebgghkbaaW.PrintWords Go.Proofs.YtlocaaebgghkbaaW.PrintLast Go.Proofs.YtlocaaebgghkbaaW.PrintMore
attribute [local go_sem] max2_int min2_int max_two min_two max_three min_three max_four min_four   -- for this text's walks alone
set_option linter.unusedVariables false
set_option linter.unusedSimpArgs false

/-! ### laws_eqAttrS: function 21 -/
def laws_eqAttrS.l0 : Nat → List (S53) → List (S53) → Int → Option (Bool)
 | 0, _, _, _ => none
 | k + 1, x0, x1, x5 => if x5 < (x0.length : Int) then (if 0 ≤ x5 then (if x5 < (x1.length : Int) then ((laws_eqAttr.f ((rd_T53 x0 x5).f0) ((rd_T53 x0 x5).f1) ((rd_T53 x1 x5).f0) ((rd_T53 x1 x5).f1)).bind fun t163 => (if t163 = true then (laws_eqAttrS.l0 k x0 x1 (wrap64 (x5 + 1))) else (some false))) else (none)) else (none)) else (some true)
def laws_eqAttrS.f (k : Nat) (l0 : List (S53)) (l1 : List (S53)) : Option (Bool) := if (l0.length : Int) = (l1.length : Int) then (laws_eqAttrS.l0 k l0 l1 0) else (some false)
theorem laws_eqAttrS.mono_l : ∀ k, (∀ y0 y1 y2, LeO (laws_eqAttrS.l0 k y0 y1 y2) (laws_eqAttrS.l0 (k + 1) y0 y1 y2))
 | 0 => fun _ _ _ r h => by simp [laws_eqAttrS.l0] at h
 | k + 1 => by
  have ih0 := laws_eqAttrS.mono_l k
  ·intro y0 y1 y2
   unfold laws_eqAttrS.l0
   repeat' first
   | (with_reducible exact ih0 _ _ _)
   | (with_reducible exact LeO.refl _)
   | (with_reducible exact LeO.none _)
   | (with_reducible refine LeO.ite ?_ ?_)
   | (with_reducible refine LeO.bind ?_ (fun _ => ?_))
   | exact ih0 _ _ _
   | exact LeO.none _
   | refine LeO.ite ?_ ?_
   | refine LeO.bind ?_ (fun _ => ?_)
theorem laws_eqAttrS.mono : ∀ a0 a1 k, LeO (laws_eqAttrS.f k a0 a1) (laws_eqAttrS.f (k + 1) a0 a1) := by
 intro a0 a1 k
 have ih0 := laws_eqAttrS.mono_l k
 unfold laws_eqAttrS.f
 repeat' first
   | (with_reducible exact ih0 _ _ _)
   | (with_reducible exact LeO.refl _)
   | (with_reducible exact LeO.none _)
   | (with_reducible refine LeO.ite ?_ ?_)
   | (with_reducible refine LeO.bind ?_ (fun _ => ?_))
   | exact ih0 _ _ _
   | exact LeO.none _
   | refine LeO.ite ?_ ?_
   | refine LeO.bind ?_ (fun _ => ?_)
def laws_eqAttrS.T6 : Bool × List (List Nat × List Nat) := (true, [([], []), ([], []), ([0, 1], [0, 1]), ([2], [2]), ([], []), ([], []), ([4, 5], [4, 5]), ([6], [6]), ([3, 7], [3, 7]), ([8], [8])])
def laws_eqAttrS.B6 : List Nat := [0, 0, 3, 7, 0, 0, 48, 112, 255, 511]
theorem laws_eqAttrS.tab6 : rtab .any (opsOf Try.f21 6) = laws_eqAttrS.T6 := by kernel_rfl
theorem laws_eqAttrS.bits6 : waitsOk laws_eqAttrS.T6.2 laws_eqAttrS.B6 = true := by kernel_rfl
set_option maxHeartbeats 8000000 in
set_option maxRecDepth 100000 in
theorem laws_eqAttrS.calls (k : Nat) (A0 : Option Addr) (c0 : Nat) (l0 : List (S53)) (A1 : Option Addr) (c1 : Nat) (l1 : List (S53)) (r : Bool) (w : World) (hr0 : Kd.C k53 w A0 l0.length l0) (hc0 : l0.length ≤ c0) (hr1 : Kd.C k53 w A1 l1.length l1) (hc1 : l1.length ≤ c1) (h : laws_eqAttrS.f k l0 l1 = some r) :
  Calls Try.prog 21 #[.slice A0 l0.length c0, .slice A1 l1.length c1] w fun e w' => e = .returned (.bool r) ∧ Below w.heap.size w w' := by
 have hu53 := Try.underlying53
 have HR0 := Aside0.mk hr0
 have HC0 := Aside0.mk hc0
 clear hr0 hc0
 have HR1 := Aside0.mk hr1
 have HC1 := Aside0.mk hc1
 clear hr1 hc1
 have HB := Aside0.mk (Below.refl w.heap.size w)
 have H : (if (l0.length : Int) = (l1.length : Int) then (laws_eqAttrS.l0 k l0 l1 0) else (some false)) = some r := h
 clear h
 by_cases c3 : (l0.length : Int) = (l1.length : Int)
 ·rw [if_pos c3] at H
  have c3b0 : ((l0.length : Int) == (l1.length : Int)) = true := beq_iff_eq.mpr c3
  have c3b1 : ((l0.length : Int) != (l1.length : Int)) = false := bne_eq_false_iff_eq.mpr c3
  have c3b2 : (l0.length == l1.length) = true := by first | simpa using c3 | (simp at c3 ⊢; omega)
  clear c3
  have H' := Aside0.mk H
  clear H
  go_enter Try.func21, Try.ntmps21
  go_wp2
  go_loopg [5] k (fun kq v5 w' => ∃ (x5_1 : Int), v5 = .int .i64 x5_1 ∧ Aside0 (laws_eqAttrS.l0 kq l0 l1 x5_1 = some r) ∧ Aside0 (kq ≤ k) ∧ Aside0 (Below w.heap.size w w'))
  case atStart => exact ⟨(0), (by first | rfl | (simp; done) | (simp [*]; done)), H', ⟨Nat.le_refl _⟩, ⟨by repeat (first | (with_reducible first | exact HB.out | apply below_alloc | apply pw_below_drewN | apply below_drew1) | exact HB.out)⟩⟩
  case round =>
   clear H'
   try clear c1
   try clear c2
   try clear p2
   try clear c3
   try clear c3b0
   try clear c3b1
   try clear c3b2
   obtain ⟨x5_1, rfl, HA, HK1, HB⟩ := hrel
   cases gk with
   | zero => exact absurd HA.out (by simp [laws_eqAttrS.l0])
   | succ k1 =>
    have H := HA.out
    clear HA
    simp only [laws_eqAttrS.l0] at H
    by_cases c4 : x5_1 < (l0.length : Int)
    ·rw [if_pos c4] at H
     have c4b0 : decide (x5_1 < (l0.length : Int)) = true := decide_eq_true c4
     clear c4
     by_cases c5 : 0 ≤ x5_1
     ·rw [if_pos c5] at H
      have c5b0 : decide (0 ≤ x5_1) = true := decide_eq_true c5
      clear c5
      by_cases c6 : x5_1 < (l1.length : Int)
      ·rw [if_pos c6] at H
       have c6b0 : decide (x5_1 < (l1.length : Int)) = true := decide_eq_true c6
       clear c6
       replace H := Option.bind_eq_some_iff.mp H
       obtain ⟨t163, A70, H⟩ := H
       replace H : (if t163 = true then (laws_eqAttrS.l0 k1 l0 l1 (wrap64 (x5_1 + 1))) else (some false)) = some r := H
       have A7 := Aside0.mk A70
       clear A70
       by_cases c8 : t163 = true
       ·subst c8
        have H1 : (laws_eqAttrS.l0 k1 l0 l1 (wrap64 (x5_1 + 1))) = some r := by rw [if_pos rfl] at H; exact H
        clear H
        have H := H1
        clear H1
        have H' := Aside0.mk H
        clear H
        try go_wp2
        have n0_ := Aside0.mk (below_drew1 HB.out)
        clear HB
        have HB := n0_
        clear n0_
        have p161 : 0 ≤ (x5_1 : Int) := of_decide_eq_true (by first | (with_reducible assumption) | assumption)
        have q161 : x5_1 < (l0.length : Int) := of_decide_eq_true (by first | (with_reducible assumption) | assumption)
        obtain ⟨ad161, e161, hx161_0, hx161_1⟩ := at_T53 HR0.out x5_1 p161 q161
        have hw161_1 := hx161_1
        have hw161_0 := hx161_0
        cases e161
        replace hx161_0 := (HB.out.cell (World.block_lt_of_cell? w _ hx161_0)).trans hx161_0
        replace hx161_1 := (HB.out.cell (World.block_lt_of_cell? w _ hx161_1)).trans hx161_1
        replace p161 := eq_true p161
        replace q161 := eq_true q161
        have p162 : 0 ≤ (x5_1 : Int) := of_decide_eq_true (by first | (with_reducible assumption) | assumption)
        have q162 : x5_1 < (l1.length : Int) := of_decide_eq_true (by first | (with_reducible assumption) | assumption)
        obtain ⟨ad162, e162, hx162_0, hx162_1⟩ := at_T53 HR1.out x5_1 p162 q162
        have hw162_1 := hx162_1
        have hw162_0 := hx162_0
        cases e162
        replace hx162_0 := (HB.out.cell (World.block_lt_of_cell? w _ hx162_0)).trans hx162_0
        replace hx162_1 := (HB.out.cell (World.block_lt_of_cell? w _ hx162_1)).trans hx162_1
        replace p162 := eq_true p162
        replace q162 := eq_true q162
        refine start_ (n := 10) (S := fun w' => w'.cell? (ad161.add ((x5_1).toNat * 2)) = some (.string ((rd_T53 l0 x5_1).f0)) ∧ w'.cell? ⟨(ad161.add ((x5_1).toNat * 2)).block, (ad161.add ((x5_1).toNat * 2)).off + 1, none⟩ = some (.string ((rd_T53 l0 x5_1).f1)) ∧ w'.cell? (ad162.add ((x5_1).toNat * 2)) = some (.string ((rd_T53 l1 x5_1).f0)) ∧ w'.cell? ⟨(ad162.add ((x5_1).toNat * 2)).block, (ad162.add ((x5_1).toNat * 2)).off + 1, none⟩ = some (.string ((rd_T53 l1 x5_1).f1))) (ds := []) #[false, false, false, false, false, false, false, false, false, false] (by kernel_rfl) rfl rfl ⟨((HB.out.cell (World.block_lt_of_cell? w _ hw161_0)).trans hw161_0), ((HB.out.cell (World.block_lt_of_cell? w _ hw161_1)).trans hw161_1), ((HB.out.cell (World.block_lt_of_cell? w _ hw162_0)).trans hw162_0), ((HB.out.cell (World.block_lt_of_cell? w _ hw162_1)).trans hw162_1)⟩ (fun hHeld => ?_); refine with_tabW laws_eqAttrS.tab6 laws_eqAttrS.bits6 (fun HT_ HW_ => ?_)
        generalize wr.drew = w9 at HB hx161_0 hx161_1 hx162_0 hx162_1 hHeld ⊢
        refine pure_ (i := 0) (N := some 17) (v := ?_) (a' := ?_) #[true, false, false, false, false, false, false, false, false, false] rfl rfl (any_of HT_.out (by kernel_rfl)) (fun _ _ _ h => h) (Or.inl ⟨by rfl, ?_⟩) ?_ ?_
        rotate_left
        ·intro w'
         go_simp
         with_reducible rfl
        rotate_left
        ·simp only [Act.put, List.setIfInBounds_toArray, List.set_cons_zero, List.set_cons_succ, i64_w, i32_w]
         rfl
        refine pure_ (i := 1) (N := some 18) (v := ?_) (a' := ?_) #[true, true, false, false, false, false, false, false, false, false] rfl rfl (any_of HT_.out (by kernel_rfl)) (fun _ _ _ h => h) (Or.inl ⟨by rfl, ?_⟩) ?_ ?_
        rotate_left
        ·intro w'
         go_simp
         with_reducible rfl
        rotate_left
        ·simp only [Act.put, List.setIfInBounds_toArray, List.set_cons_zero, List.set_cons_succ, i64_w, i32_w]
         rfl
        refine pure_ (i := 2) (N := some 19) (v := ?_) (a' := ?_) #[true, true, true, false, false, false, false, false, false, false] rfl rfl (any_of HT_.out (by kernel_rfl)) (fun _ _ _ h => h) (Or.inl ⟨by rfl, ?_⟩) ?_ ?_
        rotate_left
        ·intro w'
         go_simp
         with_reducible rfl
        rotate_left
        ·simp only [Act.put, List.setIfInBounds_toArray, List.set_cons_zero, List.set_cons_succ, i64_w, i32_w]
         rfl
        refine pure_ (i := 4) (N := some 21) (v := ?_) (a' := ?_) #[true, true, true, false, true, false, false, false, false, false] rfl rfl (any_of HT_.out (by kernel_rfl)) (fun _ _ _ h => h) (Or.inl ⟨by rfl, ?_⟩) ?_ ?_
        rotate_left
        ·intro w'
         go_simp
         with_reducible rfl
        rotate_left
        ·simp only [Act.put, List.setIfInBounds_toArray, List.set_cons_zero, List.set_cons_succ, i64_w, i32_w]
         rfl
        refine pure_ (i := 5) (N := some 22) (v := ?_) (a' := ?_) #[true, true, true, false, true, true, false, false, false, false] rfl rfl (any_of HT_.out (by kernel_rfl)) (fun _ _ _ h => h) (Or.inl ⟨by rfl, ?_⟩) ?_ ?_
        rotate_left
        ·intro w'
         go_simp
         with_reducible rfl
        rotate_left
        ·simp only [Act.put, List.setIfInBounds_toArray, List.set_cons_zero, List.set_cons_succ, i64_w, i32_w]
         rfl
        refine pure_ (i := 6) (N := some 23) (v := ?_) (a' := ?_) #[true, true, true, false, true, true, true, false, false, false] rfl rfl (any_of HT_.out (by kernel_rfl)) (fun _ _ _ h => h) (Or.inl ⟨by rfl, ?_⟩) ?_ ?_
        rotate_left
        ·intro w'
         go_simp
         with_reducible rfl
        rotate_left
        ·simp only [Act.put, List.setIfInBounds_toArray, List.set_cons_zero, List.set_cons_succ, i64_w, i32_w]
         rfl
        refine take_ (i := 3) (N := some 20) (v := ?_) (a' := ?_) #[true, true, true, true, true, true, true, false, false, false] rfl rfl (take_ofW HT_.out HW_.out (by kernel_rfl)) (fun _ _ _ h => h) (Or.inl ⟨by rfl, ?_⟩) hHeld ?_ ?_
        rotate_left
        ·rintro w' ⟨s0, s1, s2, s3⟩
         go_simp
         with_reducible rfl
        rotate_left
        ·simp only [Act.put, List.setIfInBounds_toArray, List.set_cons_zero, List.set_cons_succ, i64_w, i32_w]
         rfl
        refine take_ (i := 7) (N := some 24) (v := ?_) (a' := ?_) #[true, true, true, true, true, true, true, true, false, false] rfl rfl (take_ofW HT_.out HW_.out (by kernel_rfl)) (fun _ _ _ h => h) (Or.inl ⟨by rfl, ?_⟩) hHeld ?_ ?_
        rotate_left
        ·rintro w' ⟨s0, s1, s2, s3⟩
         go_simp
         with_reducible rfl
        rotate_left
        ·simp only [Act.put, List.setIfInBounds_toArray, List.set_cons_zero, List.set_cons_succ, i64_w, i32_w]
         rfl
        refine one_ (i := 8) (N := some 25) #[true, true, true, true, true, true, true, true, true, false] rfl rfl (one_of HT_.out (by kernel_rfl)) (by decide) (fun K hK => ?_)
        refine goes_ Try.func68 (by kernel_rfl) rfl #[.agg #[.string ((rd_T53 l0 x5_1).f0), .string ((rd_T53 l0 x5_1).f1)], .agg #[.string ((rd_T53 l1 x5_1).f0), .string ((rd_T53 l1 x5_1).f1)]] (by rfl) rfl rfl (by (try simp only [List.map_toArray, List.map_cons, List.map_nil]); first | done | rfl | (simp only [List.length_drop, List.length_take]; rfl)) ?_
        with_reducible refine (laws_eqAttr.calls ((rd_T53 l0 x5_1).f0) ((rd_T53 l0 x5_1).f1) ((rd_T53 l1 x5_1).f0) ((rd_T53 l1 x5_1).f1) true _ A7.out).mono ?_
        rintro e w10 ⟨rfl, hb⟩
        refine ⟨_, rfl, ?_⟩
        have n0_ := Aside0.mk (below_step (by repeat (first | (with_reducible first | exact HB.out | apply below_alloc | apply pw_below_drewN | apply below_drew1) | exact HB.out)) hb)
        clear HB
        have HB := n0_
        clear n0_
        (try clear hb)
        (try clear hb2)
        (try clear hk)
        (try clear hi)
        refine hK.out _ _ ⟨((HB.out.cell (World.block_lt_of_cell? w _ hw161_0)).trans hw161_0), ((HB.out.cell (World.block_lt_of_cell? w _ hw161_1)).trans hw161_1), ((HB.out.cell (World.block_lt_of_cell? w _ hw162_0)).trans hw162_0), ((HB.out.cell (World.block_lt_of_cell? w _ hw162_1)).trans hw162_1)⟩ (fun hHeld => ?_)
        clear hK K
        refine norm_ (a' := ?_) ?_ ?_
        rotate_left
        ·show Act.put _ (some 25) _ = _
         simp only [Act.put, List.setIfInBounds_toArray, List.set_cons_zero, List.set_cons_succ, i64_w, i32_w]
         rfl
        refine pure_ (i := 9) (N := some 26) (v := ?_) (a' := ?_) #[true, true, true, true, true, true, true, true, true, true] rfl rfl (any_of HT_.out (by kernel_rfl)) (fun _ _ _ h => h) (Or.inl ⟨by rfl, ?_⟩) ?_ ?_
        rotate_left
        ·intro w'
         go_simp
         with_reducible rfl
        rotate_left
        ·simp only [Act.put, List.setIfInBounds_toArray, List.set_cons_zero, List.set_cons_succ, i64_w, i32_w]
         rfl
        refine done_ (done_of HT_.out (by kernel_rfl)) ?_
        try go_wp2
        go_roundg k1
        case measure => have := HK1.out; omega
        case rel => exact ⟨(wrap64 (x5_1 + 1)), (by first | rfl | (simp; done) | (simp [*]; done)), H', ⟨by have := HK1.out; omega⟩, ⟨by repeat (first | (with_reducible first | exact HB.out | apply below_alloc | apply pw_below_drewN | apply below_drew1) | exact HB.out)⟩⟩
       ·replace c8 := Bool.eq_false_iff.mpr c8
        subst c8
        have H1 : (some false) = some r := by rw [if_neg (show ¬ (false = true) by decide)] at H; exact H
        clear H
        have H := H1
        clear H1
        obtain rfl := Option.some.inj H
        try go_wp2
        have n0_ := Aside0.mk (below_drew1 HB.out)
        clear HB
        have HB := n0_
        clear n0_
        have p161 : 0 ≤ (x5_1 : Int) := of_decide_eq_true (by first | (with_reducible assumption) | assumption)
        have q161 : x5_1 < (l0.length : Int) := of_decide_eq_true (by first | (with_reducible assumption) | assumption)
        obtain ⟨ad161, e161, hx161_0, hx161_1⟩ := at_T53 HR0.out x5_1 p161 q161
        have hw161_1 := hx161_1
        have hw161_0 := hx161_0
        cases e161
        replace hx161_0 := (HB.out.cell (World.block_lt_of_cell? w _ hx161_0)).trans hx161_0
        replace hx161_1 := (HB.out.cell (World.block_lt_of_cell? w _ hx161_1)).trans hx161_1
        replace p161 := eq_true p161
        replace q161 := eq_true q161
        have p162 : 0 ≤ (x5_1 : Int) := of_decide_eq_true (by first | (with_reducible assumption) | assumption)
        have q162 : x5_1 < (l1.length : Int) := of_decide_eq_true (by first | (with_reducible assumption) | assumption)
        obtain ⟨ad162, e162, hx162_0, hx162_1⟩ := at_T53 HR1.out x5_1 p162 q162
        have hw162_1 := hx162_1
        have hw162_0 := hx162_0
        cases e162
        replace hx162_0 := (HB.out.cell (World.block_lt_of_cell? w _ hx162_0)).trans hx162_0
        replace hx162_1 := (HB.out.cell (World.block_lt_of_cell? w _ hx162_1)).trans hx162_1
        replace p162 := eq_true p162
        replace q162 := eq_true q162
        refine start_ (n := 10) (S := fun w' => w'.cell? (ad161.add ((x5_1).toNat * 2)) = some (.string ((rd_T53 l0 x5_1).f0)) ∧ w'.cell? ⟨(ad161.add ((x5_1).toNat * 2)).block, (ad161.add ((x5_1).toNat * 2)).off + 1, none⟩ = some (.string ((rd_T53 l0 x5_1).f1)) ∧ w'.cell? (ad162.add ((x5_1).toNat * 2)) = some (.string ((rd_T53 l1 x5_1).f0)) ∧ w'.cell? ⟨(ad162.add ((x5_1).toNat * 2)).block, (ad162.add ((x5_1).toNat * 2)).off + 1, none⟩ = some (.string ((rd_T53 l1 x5_1).f1))) (ds := []) #[false, false, false, false, false, false, false, false, false, false] (by kernel_rfl) rfl rfl ⟨((HB.out.cell (World.block_lt_of_cell? w _ hw161_0)).trans hw161_0), ((HB.out.cell (World.block_lt_of_cell? w _ hw161_1)).trans hw161_1), ((HB.out.cell (World.block_lt_of_cell? w _ hw162_0)).trans hw162_0), ((HB.out.cell (World.block_lt_of_cell? w _ hw162_1)).trans hw162_1)⟩ (fun hHeld => ?_); refine with_tabW laws_eqAttrS.tab6 laws_eqAttrS.bits6 (fun HT_ HW_ => ?_)
        generalize wr.drew = w11 at HB hx161_0 hx161_1 hx162_0 hx162_1 hHeld ⊢
        refine pure_ (i := 0) (N := some 17) (v := ?_) (a' := ?_) #[true, false, false, false, false, false, false, false, false, false] rfl rfl (any_of HT_.out (by kernel_rfl)) (fun _ _ _ h => h) (Or.inl ⟨by rfl, ?_⟩) ?_ ?_
        rotate_left
        ·intro w'
         go_simp
         with_reducible rfl
        rotate_left
        ·simp only [Act.put, List.setIfInBounds_toArray, List.set_cons_zero, List.set_cons_succ, i64_w, i32_w]
         rfl
        refine pure_ (i := 1) (N := some 18) (v := ?_) (a' := ?_) #[true, true, false, false, false, false, false, false, false, false] rfl rfl (any_of HT_.out (by kernel_rfl)) (fun _ _ _ h => h) (Or.inl ⟨by rfl, ?_⟩) ?_ ?_
        rotate_left
        ·intro w'
         go_simp
         with_reducible rfl
        rotate_left
        ·simp only [Act.put, List.setIfInBounds_toArray, List.set_cons_zero, List.set_cons_succ, i64_w, i32_w]
         rfl
        refine pure_ (i := 2) (N := some 19) (v := ?_) (a' := ?_) #[true, true, true, false, false, false, false, false, false, false] rfl rfl (any_of HT_.out (by kernel_rfl)) (fun _ _ _ h => h) (Or.inl ⟨by rfl, ?_⟩) ?_ ?_
        rotate_left
        ·intro w'
         go_simp
         with_reducible rfl
        rotate_left
        ·simp only [Act.put, List.setIfInBounds_toArray, List.set_cons_zero, List.set_cons_succ, i64_w, i32_w]
         rfl
        refine pure_ (i := 4) (N := some 21) (v := ?_) (a' := ?_) #[true, true, true, false, true, false, false, false, false, false] rfl rfl (any_of HT_.out (by kernel_rfl)) (fun _ _ _ h => h) (Or.inl ⟨by rfl, ?_⟩) ?_ ?_
        rotate_left
        ·intro w'
         go_simp
         with_reducible rfl
        rotate_left
        ·simp only [Act.put, List.setIfInBounds_toArray, List.set_cons_zero, List.set_cons_succ, i64_w, i32_w]
         rfl
        refine pure_ (i := 5) (N := some 22) (v := ?_) (a' := ?_) #[true, true, true, false, true, true, false, false, false, false] rfl rfl (any_of HT_.out (by kernel_rfl)) (fun _ _ _ h => h) (Or.inl ⟨by rfl, ?_⟩) ?_ ?_
        rotate_left
        ·intro w'
         go_simp
         with_reducible rfl
        rotate_left
        ·simp only [Act.put, List.setIfInBounds_toArray, List.set_cons_zero, List.set_cons_succ, i64_w, i32_w]
         rfl
        refine pure_ (i := 6) (N := some 23) (v := ?_) (a' := ?_) #[true, true, true, false, true, true, true, false, false, false] rfl rfl (any_of HT_.out (by kernel_rfl)) (fun _ _ _ h => h) (Or.inl ⟨by rfl, ?_⟩) ?_ ?_
        rotate_left
        ·intro w'
         go_simp
         with_reducible rfl
        rotate_left
        ·simp only [Act.put, List.setIfInBounds_toArray, List.set_cons_zero, List.set_cons_succ, i64_w, i32_w]
         rfl
        refine take_ (i := 3) (N := some 20) (v := ?_) (a' := ?_) #[true, true, true, true, true, true, true, false, false, false] rfl rfl (take_ofW HT_.out HW_.out (by kernel_rfl)) (fun _ _ _ h => h) (Or.inl ⟨by rfl, ?_⟩) hHeld ?_ ?_
        rotate_left
        ·rintro w' ⟨s0, s1, s2, s3⟩
         go_simp
         with_reducible rfl
        rotate_left
        ·simp only [Act.put, List.setIfInBounds_toArray, List.set_cons_zero, List.set_cons_succ, i64_w, i32_w]
         rfl
        refine take_ (i := 7) (N := some 24) (v := ?_) (a' := ?_) #[true, true, true, true, true, true, true, true, false, false] rfl rfl (take_ofW HT_.out HW_.out (by kernel_rfl)) (fun _ _ _ h => h) (Or.inl ⟨by rfl, ?_⟩) hHeld ?_ ?_
        rotate_left
        ·rintro w' ⟨s0, s1, s2, s3⟩
         go_simp
         with_reducible rfl
        rotate_left
        ·simp only [Act.put, List.setIfInBounds_toArray, List.set_cons_zero, List.set_cons_succ, i64_w, i32_w]
         rfl
        refine one_ (i := 8) (N := some 25) #[true, true, true, true, true, true, true, true, true, false] rfl rfl (one_of HT_.out (by kernel_rfl)) (by decide) (fun K hK => ?_)
        refine goes_ Try.func68 (by kernel_rfl) rfl #[.agg #[.string ((rd_T53 l0 x5_1).f0), .string ((rd_T53 l0 x5_1).f1)], .agg #[.string ((rd_T53 l1 x5_1).f0), .string ((rd_T53 l1 x5_1).f1)]] (by rfl) rfl rfl (by (try simp only [List.map_toArray, List.map_cons, List.map_nil]); first | done | rfl | (simp only [List.length_drop, List.length_take]; rfl)) ?_
        with_reducible refine (laws_eqAttr.calls ((rd_T53 l0 x5_1).f0) ((rd_T53 l0 x5_1).f1) ((rd_T53 l1 x5_1).f0) ((rd_T53 l1 x5_1).f1) false _ A7.out).mono ?_
        rintro e w12 ⟨rfl, hb⟩
        refine ⟨_, rfl, ?_⟩
        have n0_ := Aside0.mk (below_step (by repeat (first | (with_reducible first | exact HB.out | apply below_alloc | apply pw_below_drewN | apply below_drew1) | exact HB.out)) hb)
        clear HB
        have HB := n0_
        clear n0_
        (try clear hb)
        (try clear hb2)
        (try clear hk)
        (try clear hi)
        refine hK.out _ _ ⟨((HB.out.cell (World.block_lt_of_cell? w _ hw161_0)).trans hw161_0), ((HB.out.cell (World.block_lt_of_cell? w _ hw161_1)).trans hw161_1), ((HB.out.cell (World.block_lt_of_cell? w _ hw162_0)).trans hw162_0), ((HB.out.cell (World.block_lt_of_cell? w _ hw162_1)).trans hw162_1)⟩ (fun hHeld => ?_)
        clear hK K
        refine norm_ (a' := ?_) ?_ ?_
        rotate_left
        ·show Act.put _ (some 25) _ = _
         simp only [Act.put, List.setIfInBounds_toArray, List.set_cons_zero, List.set_cons_succ, i64_w, i32_w]
         rfl
        refine pure_ (i := 9) (N := some 26) (v := ?_) (a' := ?_) #[true, true, true, true, true, true, true, true, true, true] rfl rfl (any_of HT_.out (by kernel_rfl)) (fun _ _ _ h => h) (Or.inl ⟨by rfl, ?_⟩) ?_ ?_
        rotate_left
        ·intro w'
         go_simp
         with_reducible rfl
        rotate_left
        ·simp only [Act.put, List.setIfInBounds_toArray, List.set_cons_zero, List.set_cons_succ, i64_w, i32_w]
         rfl
        refine done_ (done_of HT_.out (by kernel_rfl)) ?_
        try go_wp2
        go_ret
        exact ⟨by first | rfl | (simp [errW_none, errW_some] <;> rfl) | (simp [*, errW_none, errW_some] <;> rfl), by repeat (first | (with_reducible first | exact HB.out | apply below_alloc | apply pw_below_drewN | apply below_drew1) | exact HB.out)⟩
      ·rw [if_neg c6] at H
       exact absurd H (by simp)
     ·rw [if_neg c5] at H
      exact absurd H (by simp)
    ·rw [if_neg c4] at H
     have c4b0 : decide (x5_1 < (l0.length : Int)) = false := decide_eq_false c4
     clear c4
     obtain rfl := Option.some.inj H
     go_wp2
     go_ret
     exact ⟨by first | rfl | (simp [errW_none, errW_some] <;> rfl) | (simp [*, errW_none, errW_some] <;> rfl), by repeat (first | (with_reducible first | exact HB.out | apply below_alloc | apply pw_below_drewN | apply below_drew1) | exact HB.out)⟩
 ·rw [if_neg c3] at H
  have c3b0 : ((l0.length : Int) == (l1.length : Int)) = false := beq_eq_false_iff_ne.mpr c3
  have c3b1 : ((l0.length : Int) != (l1.length : Int)) = true := bne_iff_ne.mpr c3
  have c3b2 : (l0.length == l1.length) = false := by first | simpa using c3 | (simp at c3 ⊢; omega)
  obtain rfl := Option.some.inj H
  go_enter Try.func21, Try.ntmps21
  go_wp2
  go_ret
  exact ⟨by first | rfl | (simp [errW_none, errW_some] <;> rfl) | (simp [*, errW_none, errW_some] <;> rfl), by repeat (first | (with_reducible first | exact HB.out | apply below_alloc | apply pw_below_drewN | apply below_drew1) | exact HB.out)⟩

end Go.Proofs.Ytlocaaebgghkbaa.A
