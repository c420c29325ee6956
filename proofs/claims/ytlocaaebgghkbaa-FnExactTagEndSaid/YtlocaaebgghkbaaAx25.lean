-- text made by wip/tools/myprint.py over the kit's print
import Derived.Test.YtlocaaebgghkbaaAx0
import Derived.Test.YtlocaaebgghkbaaAx16
import Derived.Test.YtlocaaebgghkbaaAx17
import Derived.Test.YtlocaaebgghkbaaAx20
import Derived.Test.YtlocaaebgghkbaaAx24
namespace Go.Proofs.Ytlocaaebgghkbaa.A
open Go.RowKit Go.Proofs.YtlocaaebgghkbaaW.PrintWords Go.Proofs.YtlocaaebgghkbaaW.PrintLast Go.Proofs.YtlocaaebgghkbaaW.PrintMore
attribute [local go_sem] max2_int min2_int max_two min_two max_three min_three max_four min_four   -- for this text's walks alone
set_option linter.unusedVariables false
set_option linter.unusedSimpArgs false

/-! ### impl_tagger_value: function 53 -/
def impl_tagger_value.f (s : ByteArray) (k : Int) (e sl : Bool) : Option (ByteArray × Bool × ByteArray × Int × Bool × Bool) :=
  if 0 ≤ k ∧ k ≤ s.size ∧ s.size ≤ 140737488351232 then
    if ovr s (pastB s k) e = false ∧ bt s (pastB s k) = 61 then
      if ovr s (pastB s (pastB s k + 1)) e = true then some (⟨#[]⟩, true, s, pastB s (pastB s k + 1), e, sl)
      else if bt s (pastB s (pastB s k + 1)) = 34 ∨ bt s (pastB s (pastB s k + 1)) = 39 then impl_tagger_quoted.f s (pastB s (pastB s k + 1)) e sl
      else some (s.extract (pastB s (pastB s k + 1)).toNat (plF s e (pastB s (pastB s k + 1))).toNat, true, s, plF s e (pastB s (pastB s k + 1)), e, sl)
    else some (⟨#[]⟩, true, s, pastB s k, e, sl)
  else none
set_option maxHeartbeats 2000000 in
set_option maxRecDepth 100000 in
theorem impl_tagger_value.calls (g : Nat) (s : ByteArray) (k : Int) (e sl : Bool) (r1 : ByteArray) (r2 : Bool) (r3 : ByteArray) (r4 : Int) (r5 r6 : Bool) (w0 w : World) (hI : IsS58 w0 w g s k e sl) (hB : Below w0.heap.size w0 w) (hF : impl_tagger_value.f s k e sl = some (r1, r2, r3, r4, r5, r6)) :
    Calls Try.prog 53 #[.pointer (some ⟨g, 0, none⟩)] w fun r w' => r = .returned (.tuple #[.string r1, .bool r2]) ∧ IsS58 w0 w' g r3 r4 r5 r6 ∧ Below w0.heap.size w0 w' ∧ KeepBut w w' g none := by
  unfold impl_tagger_value.f at hF
  split at hF
  case isFalse => cases hF
  case isTrue hc =>
  obtain ⟨h0, hs, hm⟩ := hc
  obtain ⟨b1, b2⟩ := pastB_le (s := s) _ k rfl hs
  have HF := Aside0.mk hF
  clear hF
  have HI := Aside0.mk hI
  have HK := Aside0.mk (KeepBut.refl w g none)
  have HB := Aside0.mk hB
  clear hI hB
  generalize hk1 : pastB s k = k1 at *
  have Hk1 := Aside0.mk hk1
  clear hk1
  have k10 : 0 ≤ k1 := by omega
  have hb1 : impl_tagger_blanks.f s k e sl = some (s, k1, e, sl) := by
    unfold impl_tagger_blanks.f; rw [if_pos ⟨h0, hs, hm⟩, Hk1.out]
  go_enter Try.func53, Try.ntmps53
  go_wp2_with ((go_at_call 96; (refine (impl_tagger_blanks.calls g s k e sl s k1 e sl w0 _ ?_ ?_ hb1).mono ?_); exact HI.out; exact HB.out; rintro r w1 ⟨rfl, hi, hb, hk⟩))
  have HI1 := Aside0.mk hi
  have HB1 := Aside0.mk hb
  have HK1 := Aside0.mk hk
  clear hi hb hk HI HB HK
  obtain ⟨hc0, hc1, hc2, hc3, hf0, hf1, hf2, hf3⟩ := tagger_cells HI1.out
  by_cases c1 : ovr s k1 e = true
  · have hF2 := HF.out
    rw [if_neg (by rw [c1]; simp)] at hF2
    simp only [Option.some.injEq, Prod.mk.injEq] at hF2
    obtain ⟨rfl, rfl, rfl, rfl, rfl, rfl⟩ := hF2
    go_wp2
    go_quiet ((go_at_call 51; (refine (isOver_any g s k1 e sl w0 _ ?_ k10).mono ?_); exact HI1.out; rintro r w' ⟨rfl, ⟨nd, rfl⟩⟩; rw [c1]; exact ⟨rfl, _, World.drewN_drewN _ _ _⟩))
    go_wp2
    go_ret2
    exact ⟨rfl, HI1.out, pw_below_drewN HB1.out _, keep_drewN HK1.out _⟩
  replace c1 : ovr s k1 e = false := by simpa using c1
  have hlt := ovr_lt c1
  have p7 := eq_true k10
  have q7 := eq_true hlt
  have hx := bt_at s k1
  by_cases c2 : bt s k1 = 61
  case neg =>
    have c2b : (bt s k1 != 61) = true := bne_iff_ne.mpr c2
    have hF2 := HF.out
    rw [if_neg (fun h => c2 h.2)] at hF2
    simp only [Option.some.injEq, Prod.mk.injEq] at hF2
    obtain ⟨rfl, rfl, rfl, rfl, rfl, rfl⟩ := hF2
    clear c2
    go_wp2
    go_quiet ((go_at_call 51; (refine (isOver_any g s k1 e sl w0 _ ?_ k10).mono ?_); exact HI1.out; rintro r w' ⟨rfl, ⟨nd, rfl⟩⟩; rw [c1]; exact ⟨rfl, _, World.drewN_drewN _ _ _⟩))
    go_wp2
    go_ret2
    exact ⟨rfl, HI1.out, pw_below_drewN HB1.out _, keep_drewN HK1.out _⟩
  have c2b : (bt s k1 != 61) = false := by rw [c2]; rfl
  have HF1 : Aside0 _ := ⟨HF.out.symm.trans (if_pos ⟨c1, c2⟩)⟩
  clear HF
  have C2 := Aside0.mk c2
  clear c2
  go_wp2
  go_quiet ((go_at_call 51; (refine (isOver_any g s k1 e sl w0 _ ?_ k10).mono ?_); exact HI1.out; rintro r w' ⟨rfl, ⟨nd, rfl⟩⟩; rw [c1]; exact ⟨rfl, _, World.drewN_drewN _ _ _⟩))
  generalize hW : World.drewN w1 nq = w2
  have HI2 : Aside0 (IsS58 w0 w2 g s k1 e sl) := ⟨by rw [← hW]; exact HI1.out⟩
  have HB2 : Aside0 (Below w0.heap.size w0 w2) := ⟨by rw [← hW]; exact pw_below_drewN HB1.out _⟩
  have HK2 : Aside0 (KeepBut w w2 g none) := ⟨by rw [← hW]; exact keep_drewN HK1.out _⟩
  clear hW hc0 hc1 hc2 hc3 hf0 hf1 hf2 hf3
  obtain ⟨hc0, hc1, hc2, hc3, hf0, hf1, hf2, hf3⟩ := tagger_cells HI2.out
  obtain ⟨b3, b4⟩ := pastB_le (s := s) _ (k1 + 1) rfl (by omega)
  have hb2 : impl_tagger_blanks.f s (k1 + 1) e sl = some (s, pastB s (k1 + 1), e, sl) := by
    unfold impl_tagger_blanks.f; rw [if_pos ⟨by omega, by omega, hm⟩]
  have Hb2 := Aside0.mk hb2
  clear hb2
  go_wp2_with ((go_at_call 96; (refine (impl_tagger_blanks.calls g s (k1 + 1) e sl s (pastB s (k1 + 1)) e sl w0 _ ?_ ?_ Hb2.out).mono ?_); exact HI2.out.set_1 _; exact below_set HB2.out HI2.out.2; rintro r w3 ⟨rfl, hi, hb, hk⟩))
  generalize hk2 : pastB s (k1 + 1) = k2 at *
  have HF2 : Aside0 _ := HF1
  clear HF1 Hb2 hk2
  have HI3 := Aside0.mk hi
  have HB3 := Aside0.mk hb
  have HK3 := Aside0.mk ((HK2.out.set_ 1 _).trans hk (.inl rfl))
  clear hi hb hk HI1 HB1 HK1 HI2 HB2 HK2 hc0 hc1 hc2 hc3 hf0 hf1 hf2 hf3
  obtain ⟨hc0, hc1, hc2, hc3, hf0, hf1, hf2, hf3⟩ := tagger_cells HI3.out
  clear p7 q7 hx hlt
  have k20 : 0 ≤ k2 := by omega
  by_cases c3 : ovr s k2 e = true
  · have hF2 := HF2.out.symm
    rw [if_pos c3] at hF2
    simp only [Option.some.injEq, Prod.mk.injEq] at hF2
    obtain ⟨rfl, rfl, rfl, rfl, rfl, rfl⟩ := hF2
    go_wp2_with ((go_at_call 51; (refine (isOver_any g s k2 e sl w0 _ ?_ k20).mono ?_); exact HI3.out; rintro r w' ⟨rfl, ⟨nd, rfl⟩⟩; rw [c3]))
    go_ret2
    exact ⟨rfl, HI3.out, pw_below_drewN HB3.out _, keep_drewN HK3.out _⟩
  replace c3 : ovr s k2 e = false := by simpa using c3
  have hlt := ovr_lt c3
  have p7 := eq_true k20
  have q7 := eq_true hlt
  have hx := bt_at s k2
  have HF3 : Aside0 _ := ⟨HF2.out.trans (if_neg (by rw [c3]; simp))⟩
  clear HF2
  go_wp2_with ((go_at_call 51; (refine (isOver_any g s k2 e sl w0 _ ?_ k20).mono ?_); exact HI3.out; rintro r w' ⟨rfl, ⟨nd, rfl⟩⟩; rw [c3]))
  generalize hW : World.drewN w3 nd = w4
  have HI4 : Aside0 (IsS58 w0 w4 g s k2 e sl) := ⟨by rw [← hW]; exact HI3.out⟩
  have HB4 : Aside0 (Below w0.heap.size w0 w4) := ⟨by rw [← hW]; exact pw_below_drewN HB3.out _⟩
  have HK4 : Aside0 (KeepBut w w4 g none) := ⟨by rw [← hW]; exact keep_drewN HK3.out _⟩
  clear hW hc0 hc1 hc2 hc3 hf0 hf1 hf2 hf3
  obtain ⟨hc0, hc1, hc2, hc3, hf0, hf1, hf2, hf3⟩ := tagger_cells HI4.out
  by_cases c4 : bt s k2 = 34 ∨ bt s k2 = 39
  · have HF4 : Aside0 _ := ⟨HF3.out.trans (if_pos c4)⟩
    have hq := HF4.out.symm
    have Hq := Aside0.mk hq
    clear hq HF4 HF3
    by_cases c5 : bt s k2 = 34
    · have c5b : (bt s k2 == 34) = true := beq_iff_eq.mpr c5
      clear c4 c5
      go_quiet (fail)
      generalize hW : World.drewN w4 nq = w5
      have HI5 : Aside0 (IsS58 w0 w5 g s k2 e sl) := ⟨by rw [← hW]; exact HI4.out⟩
      have HB5 : Aside0 (Below w0.heap.size w0 w5) := ⟨by rw [← hW]; exact pw_below_drewN HB4.out _⟩
      have HK5 : Aside0 (KeepBut w w5 g none) := ⟨by rw [← hW]; exact keep_drewN HK4.out _⟩
      clear hW hc0 hc1 hc2 hc3 hf0 hf1 hf2 hf3
      go_wp2_with ((go_at_call 97; (refine (impl_tagger_quoted.calls g s k2 e sl r1 r2 r3 r4 r5 r6 w0 _ HI5.out HB5.out Hq.out).mono ?_); rintro r w6 ⟨rfl, hi, hb, hk⟩))
      go_ret2
      exact ⟨rfl, hi, hb, HK5.out.trans hk (.inl rfl)⟩
    · have c6 : bt s k2 = 39 := c4.resolve_left c5
      have c5b : (bt s k2 == 34) = false := beq_eq_false_iff_ne.mpr c5
      have c6b : (bt s k2 == 39) = true := beq_iff_eq.mpr c6
      clear c4 c5 c6
      go_quiet (fail)
      generalize hW : World.drewN w4 nq = w5
      have HI5 : Aside0 (IsS58 w0 w5 g s k2 e sl) := ⟨by rw [← hW]; exact HI4.out⟩
      have HB5 : Aside0 (Below w0.heap.size w0 w5) := ⟨by rw [← hW]; exact pw_below_drewN HB4.out _⟩
      have HK5 : Aside0 (KeepBut w w5 g none) := ⟨by rw [← hW]; exact keep_drewN HK4.out _⟩
      clear hW hc0 hc1 hc2 hc3 hf0 hf1 hf2 hf3
      go_wp2_with ((go_at_call 97; (refine (impl_tagger_quoted.calls g s k2 e sl r1 r2 r3 r4 r5 r6 w0 _ HI5.out HB5.out Hq.out).mono ?_); rintro r w6 ⟨rfl, hi, hb, hk⟩))
      go_ret2
      exact ⟨rfl, hi, hb, HK5.out.trans hk (.inl rfl)⟩
  have HF4 : Aside0 _ := ⟨HF3.out.trans (if_neg c4)⟩
  clear HF3
  have c5b : (bt s k2 == 34) = false := beq_eq_false_iff_ne.mpr (fun h => c4 (.inl h))
  have c6b : (bt s k2 == 39) = false := beq_eq_false_iff_ne.mpr (fun h => c4 (.inr h))
  clear c4
  go_quiet (fail)
  generalize hW : World.drewN w4 nq = w5
  have HI5 : Aside0 (IsS58 w0 w5 g s k2 e sl) := ⟨by rw [← hW]; exact HI4.out⟩
  have HB5 : Aside0 (Below w0.heap.size w0 w5) := ⟨by rw [← hW]; exact pw_below_drewN HB4.out _⟩
  have HK5 : Aside0 (KeepBut w w5 g none) := ⟨by rw [← hW]; exact keep_drewN HK4.out _⟩
  clear hW hc0 hc1 hc2 hc3 hf0 hf1 hf2 hf3
  obtain ⟨hc0, hc1, hc2, hc3, hf0, hf1, hf2, hf3⟩ := tagger_cells HI5.out
  go_wp2
  clear c5b c6b p7 q7 hx hlt c3
  have hF5 := HF4.out.symm
  simp only [Option.some.injEq, Prod.mk.injEq] at hF5
  obtain ⟨hr1, rfl, rfl, hr4, rfl, rfl⟩ := hF5
  have HR1 := Aside0.mk hr1
  have HR4 := Aside0.mk hr4
  clear hr1 hr4 HF4
  go_loopg [] (((s.size : Int) - k2).toNat) (fun kq wr => ∃ (j : Int), k2 ≤ j ∧ j ≤ s.size ∧ Aside0 (kq = ((s.size : Int) - j).toNat) ∧ Aside0 (IsS58 w0 wr g s j e sl) ∧ Aside0 (plF s e j = plF s e k2) ∧ Aside0 (KeepBut w wr g none) ∧ Aside0 (Below w0.heap.size w0 wr))
  case atStart => exact ⟨k2, Int.le_refl _, b4, ⟨rfl⟩, HI5, ⟨rfl⟩, HK5, HB5⟩
  case round =>
    clear HI5 HB5 HK5 HI4 HB4 HK4 HI3 HB3 HK3 hc0 hc1 hc2 hc3 hf0 hf1 hf2 hf3
    obtain ⟨j, j0, j1, HM, HT, HE, HK, HB⟩ := hrel
    obtain ⟨hc0, hc1, hc2, hc3, hf0, hf1, hf2, hf3⟩ := tagger_cells HT.out
    have jk : 0 ≤ j := by omega
    by_cases c1 : ovr s j e = true
    · go_wp2
      go_quiet ((go_at_call 51; (refine (isOver_any g s j e sl w0 _ ?_ jk).mono ?_); exact HT.out; rintro r w' ⟨rfl, ⟨nd, rfl⟩⟩; rw [c1]; exact ⟨rfl, _, World.drewN_drewN _ _ _⟩))
      generalize hW : World.drewN wr nq = wx
      have HT2 : Aside0 (IsS58 w0 wx g s j e sl) := ⟨by rw [← hW]; exact HT.out⟩
      have HK2 : Aside0 (KeepBut w wx g none) := ⟨by rw [← hW]; exact HK.out⟩
      have HB2 : Aside0 (Below w0.heap.size w0 wx) := ⟨by rw [← hW]; exact pw_below_drewN HB.out _⟩
      clear hW hc0 hc1 hc2 hc3 hf0 hf1 hf2 hf3 HT HK HB
      obtain ⟨hc0, hc1, hc2, hc3, hf0, hf1, hf2, hf3⟩ := tagger_cells HT2.out
      go_wp2
      go_quiet (fail)
      go_wp2
      go_ret2
      exact ⟨by rw [← HR1.out, ← HE.out, plF_stop (by rw [c1]; simp)]; rfl, by rw [← HR4.out, ← HE.out, plF_stop (by rw [c1]; simp)]; exact HT2.out, pw_below_drewN HB2.out _, keep_drewN HK2.out _⟩
    · replace c1 : ovr s j e = false := by simpa using c1
      have hlt := ovr_lt c1
      have p7 := eq_true jk
      have q7 := eq_true hlt
      have hx := bt_at s j
      have hr := bt_range s j
      by_cases c2 : blk (bt s j) = true
      · go_wp2
        go_quiet (first | (go_at_call 51; (refine (isOver_any g s j e sl w0 _ ?_ jk).mono ?_); exact HT.out; rintro r w' ⟨rfl, ⟨nd, rfl⟩⟩; rw [c1]; exact ⟨rfl, _, World.drewN_drewN _ _ _⟩) | (go_at_call 93; (refine (isBlankByte_any (bt s j) hr.1 hr.2 _).mono ?_); rintro r w' ⟨rfl, ⟨nd, rfl⟩⟩; rw [c2]; exact ⟨rfl, _, World.drewN_drewN _ _ _⟩))
        clear p7 q7 hx hr hlt
        generalize hW : World.drewN wr nq = wx
        have HT2 : Aside0 (IsS58 w0 wx g s j e sl) := ⟨by rw [← hW]; exact HT.out⟩
        have HK2 : Aside0 (KeepBut w wx g none) := ⟨by rw [← hW]; exact HK.out⟩
        have HB2 : Aside0 (Below w0.heap.size w0 wx) := ⟨by rw [← hW]; exact pw_below_drewN HB.out _⟩
        clear hW hc0 hc1 hc2 hc3 hf0 hf1 hf2 hf3 HT HK HB
        obtain ⟨hc0, hc1, hc2, hc3, hf0, hf1, hf2, hf3⟩ := tagger_cells HT2.out
        go_wp2
        go_quiet (fail)
        go_wp2
        go_ret2
        exact ⟨by rw [← HR1.out, ← HE.out, plF_stop (by rw [c2]; simp)]; rfl, by rw [← HR4.out, ← HE.out, plF_stop (by rw [c2]; simp)]; exact HT2.out, pw_below_drewN HB2.out _, keep_drewN HK2.out _⟩
      · replace c2 : blk (bt s j) = false := by simpa using c2
        go_wp2
        go_quiet (first | (go_at_call 51; (refine (isOver_any g s j e sl w0 _ ?_ jk).mono ?_); exact HT.out; rintro r w' ⟨rfl, ⟨nd, rfl⟩⟩; rw [c1]; exact ⟨rfl, _, World.drewN_drewN _ _ _⟩) | (go_at_call 93; (refine (isBlankByte_any (bt s j) hr.1 hr.2 _).mono ?_); rintro r w' ⟨rfl, ⟨nd, rfl⟩⟩; rw [c2]; exact ⟨rfl, _, World.drewN_drewN _ _ _⟩))
        generalize hW : World.drewN wr nq = wx
        have HT2 : Aside0 (IsS58 w0 wx g s j e sl) := ⟨by rw [← hW]; exact HT.out⟩
        have HK2 : Aside0 (KeepBut w wx g none) := ⟨by rw [← hW]; exact HK.out⟩
        have HB2 : Aside0 (Below w0.heap.size w0 wx) := ⟨by rw [← hW]; exact pw_below_drewN HB.out _⟩
        clear hW hc0 hc1 hc2 hc3 hf0 hf1 hf2 hf3 HT HK HB
        obtain ⟨hc0, hc1, hc2, hc3, hf0, hf1, hf2, hf3⟩ := tagger_cells HT2.out
        go_wp2
        go_roundg (((s.size : Int) - (j + 1)).toNat)
        case measure => have := HM.out; omega
        case rel => exact ⟨j + 1, by omega, by omega, ⟨rfl⟩, ⟨HT2.out.set_1 _⟩, ⟨by rw [← HE.out, plF_go hlt c1 c2]⟩, ⟨HK2.out.set_ _ _⟩, ⟨below_set HB2.out HT2.out.2⟩⟩

end Go.Proofs.Ytlocaaebgghkbaa.A
