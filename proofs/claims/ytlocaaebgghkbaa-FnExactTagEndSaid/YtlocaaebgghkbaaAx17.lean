-- text made by wip/tools/myprint.py over the kit's print
import Derived.Test.YtlocaaebgghkbaaAx0
import Derived.Test.YtlocaaebgghkbaaAx13
import Derived.Test.YtlocaaebgghkbaaAx14
import Derived.Test.YtlocaaebgghkbaaAx16
namespace Go.Proofs.Ytlocaaebgghkbaa.A
open Go.RowKit Go.Proofs.YtlocaaebgghkbaaW.PrintWords Go.Proofs.YtlocaaebgghkbaaW.PrintLast Go.Proofs.YtlocaaebgghkbaaW.PrintMore
attribute [local go_sem] max2_int min2_int max_two min_two max_three min_three max_four min_four   -- for this text's walks alone
set_option linter.unusedVariables false
set_option linter.unusedSimpArgs false

/-! ### impl_tagger_separators: function 50 -/
theorem tagger_cells {w0 w : World} {g : Nat} {s : ByteArray} {k : Int} {e sl : Bool} (h : IsS58 w0 w g s k e sl) :
    w.cell? ⟨g, 0, none⟩ = some (.string s) ∧ w.cell? ⟨g, 1, none⟩ = some (.int .i64 k) ∧ w.cell? ⟨g, 2, none⟩ = some (.bool e) ∧ w.cell? ⟨g, 3, none⟩ = some (.bool sl) ∧
    w.frozen? ⟨g, 0, none⟩ = false ∧ w.frozen? ⟨g, 1, none⟩ = false ∧ w.frozen? ⟨g, 2, none⟩ = false ∧ w.frozen? ⟨g, 3, none⟩ = false :=
  ⟨(blk_cell h.1 0).trans rfl, (blk_cell h.1 1).trans rfl, (blk_cell h.1 2).trans rfl, (blk_cell h.1 3).trans rfl, blk_frozen h.1 0, blk_frozen h.1 1, blk_frozen h.1 2, blk_frozen h.1 3⟩
set_option maxHeartbeats 400000 in
theorem isOver_any (g : Nat) (s : ByteArray) (k : Int) (e sl : Bool) (w0 w : World) (h : IsS58 w0 w g s k e sl) (h0 : 0 ≤ k) :
    Calls Try.prog 51 #[.pointer (some ⟨g, 0, none⟩)] w fun r w' => r = .returned (.bool (ovr s k e)) ∧ Drawn0 w w' := by
  obtain ⟨hc0, hc1, hc2, hc3, hf0, hf1, hf2, hf3⟩ := tagger_cells h
  clear h
  by_cases c1 : (s.size : Int) ≤ k
  · have d1 : decide ((s.size : Int) ≤ k) = true := decide_eq_true c1
    go_enter Try.func51, Try.ntmps51
    go_wp2
    repeat (go_quiet (fail); try go_wp2)
    go_ret
    exact ⟨by simp [ovr, c1], by repeat (first | exact Drawn0.refl _ | apply Drawn0.step)⟩
  · have d1 : decide ((s.size : Int) ≤ k) = false := decide_eq_false c1
    have d2 : k < (s.size : Int) := by omega
    have hx := bt_at s k
    cases e
    · go_enter Try.func51, Try.ntmps51
      go_wp2
      repeat (go_quiet (fail); try go_wp2)
      go_ret
      exact ⟨by simp [ovr, c1], by repeat (first | exact Drawn0.refl _ | apply Drawn0.step)⟩
    · go_enter Try.func51, Try.ntmps51
      go_wp2
      repeat (go_quiet (fail); try go_wp2)
      go_ret
      exact ⟨by simp [ovr]; omega, by repeat (first | exact Drawn0.refl _ | apply Drawn0.step)⟩

theorem isBlankByte_f (c : Int) (h0 : 0 ≤ c) (h1 : c ≤ 255) : impl_isBlankByte.f c = some (blk c) := by
  have hw : wrap64 c = c := by unfold wrap64; omega
  unfold impl_isBlankByte.f impl_IsBlank.f blk
  rw [hw]
  by_cases a1 : c = 9
  · simp [a1]
  by_cases a2 : c = 10
  · simp [a2]
  by_cases a3 : c = 12
  · simp [a3]
  by_cases a4 : c = 13
  · simp [a4]
  simp [a1, a2, a3, a4]
theorem isBlankByte_any (c : Int) (h0 : 0 ≤ c) (h1 : c ≤ 255) (w : World) :
    Calls Try.prog 93 #[.int .u8 c] w fun r w' => r = .returned (.bool (blk c)) ∧ Drawn0 w w' :=
  impl_isBlankByte.calls c _ w (isBlankByte_f c h0 h1)

def impl_tagger_separators.f (s : ByteArray) (k : Int) (e sl : Bool) : Option (ByteArray × Int × Bool × Bool) :=
  if 0 ≤ k ∧ k ≤ s.size ∧ s.size ≤ 140737488351232 then some (s, (sepF s e k sl).1, e, (sepF s e k sl).2) else none
set_option maxHeartbeats 1000000 in
set_option maxRecDepth 100000 in
theorem impl_tagger_separators.calls (g : Nat) (s : ByteArray) (k : Int) (e sl : Bool) (r1 : ByteArray) (r2 : Int) (r3 r4 : Bool) (w0 w : World) (hI : IsS58 w0 w g s k e sl) (hB : Below w0.heap.size w0 w) (hF : impl_tagger_separators.f s k e sl = some (r1, r2, r3, r4)) :
    Calls Try.prog 50 #[.pointer (some ⟨g, 0, none⟩)] w fun r w' => r = .returned (.tuple #[]) ∧ IsS58 w0 w' g r1 r2 r3 r4 ∧ Below w0.heap.size w0 w' ∧ KeepBut w w' g none := by
  unfold impl_tagger_separators.f at hF
  split at hF
  case isFalse => cases hF
  case isTrue hc =>
  obtain ⟨h0, hs, hm⟩ := hc
  simp only [Option.some.injEq, Prod.mk.injEq] at hF
  obtain ⟨rfl, rfl, rfl, rfl⟩ := hF
  have HT := Aside0.mk hI
  have HB := Aside0.mk hB
  have HK := Aside0.mk (KeepBut.refl w g none)
  clear hI hB
  go_enter Try.func50, Try.ntmps50
  go_wp2
  go_loopg [] (((s.size : Int) - k).toNat) (fun kq wr => ∃ (j : Int) (b : Bool), 0 ≤ j ∧ j ≤ s.size ∧ Aside0 (kq = ((s.size : Int) - j).toNat) ∧ Aside0 (IsS58 w0 wr g s j e b) ∧ Aside0 (sepF s e j b = sepF s e k sl) ∧ Aside0 (KeepBut w wr g none) ∧ Aside0 (Below w0.heap.size w0 wr))
  case atStart => exact ⟨k, sl, h0, hs, ⟨rfl⟩, HT, ⟨rfl⟩, HK, HB⟩
  case round =>
    clear HT HK HB
    obtain ⟨j, b, j0, j1, HM, HT, HE, HK, HB⟩ := hrel
    obtain ⟨hc0, hc1, hc2, hc3, hf0, hf1, hf2, hf3⟩ := tagger_cells HT.out
    by_cases c1 : ovr s j e = true
    · have d1 : ovr s j e = true := c1
      go_wp2
      go_quiet ((go_at_call 51; (refine (isOver_any g s j e b w0 _ ?_ j0).mono ?_); exact HT.out; rintro r w' ⟨rfl, ⟨nd, rfl⟩⟩; rw [d1]; exact ⟨rfl, _, World.drewN_drewN _ _ _⟩))
      go_wp2
      go_end0
      exact ⟨rfl, by rw [← HE.out, sepF_stop (.inr (by rw [d1]; simp))]; exact HT.out, pw_below_drewN HB.out _, HK.out⟩
    · have d1 : ovr s j e = false := by simpa using c1
      have hlt := ovr_lt d1
      have p7 := eq_true j0
      have q7 := eq_true hlt
      have hx := bt_at s j
      have hr := bt_range s j
      by_cases c2 : blk (bt s j) = true
      · go_wp2
        go_quiet (first | (go_at_call 51; (refine (isOver_any g s j e b w0 _ ?_ j0).mono ?_); exact HT.out; rintro r w' ⟨rfl, ⟨nd, rfl⟩⟩; rw [d1]; exact ⟨rfl, _, World.drewN_drewN _ _ _⟩) | (go_at_call 93; (refine (isBlankByte_any (bt s j) hr.1 hr.2 _).mono ?_); rintro r w' ⟨rfl, ⟨nd, rfl⟩⟩; rw [c2]; exact ⟨rfl, _, World.drewN_drewN _ _ _⟩))
        generalize hW : World.drewN wr nq = wx
        have HT2 : Aside0 (IsS58 w0 wx g s j e b) := ⟨by rw [← hW]; exact HT.out⟩
        have HK2 : Aside0 (KeepBut w wx g none) := ⟨by rw [← hW]; exact HK.out⟩
        have HB2 : Aside0 (Below w0.heap.size w0 wx) := ⟨by rw [← hW]; exact pw_below_drewN HB.out _⟩
        clear hW hc0 hc1 hc2 hc3 hf0 hf1 hf2 hf3 HT HK HB
        obtain ⟨hc0, hc1, hc2, hc3, hf0, hf1, hf2, hf3⟩ := tagger_cells HT2.out
        go_wp2
        go_still_tail 13, (by kernel_rfl)
        go_wp2
        go_roundg (((s.size : Int) - (j + 1)).toNat)
        case measure => have := HM.out; omega
        case rel => exact ⟨j + 1, bt s j == 47, by omega, by omega, ⟨rfl⟩, ⟨(HT2.out.set_3 _).set_1 _⟩, ⟨by rw [← HE.out, sepF_go hlt d1 (.inl c2)]⟩, ⟨(HK2.out.set_ _ _).set_ _ _⟩, ⟨below_drew (below_set (below_set HB2.out HT2.out.2) HT2.out.2)⟩⟩
      · replace c2 : blk (bt s j) = false := by simpa using c2
        by_cases c3 : bt s j = 47
        · have c3a : (bt s j == 47) = true := beq_iff_eq.mpr c3
          have Hc3 := Aside0.mk c3
          clear c3
          go_wp2
          go_quiet (first | (go_at_call 51; (refine (isOver_any g s j e b w0 _ ?_ j0).mono ?_); exact HT.out; rintro r w' ⟨rfl, ⟨nd, rfl⟩⟩; rw [d1]; exact ⟨rfl, _, World.drewN_drewN _ _ _⟩) | (go_at_call 93; (refine (isBlankByte_any (bt s j) hr.1 hr.2 _).mono ?_); rintro r w' ⟨rfl, ⟨nd, rfl⟩⟩; rw [c2]; exact ⟨rfl, _, World.drewN_drewN _ _ _⟩))
          generalize hW : World.drewN wr nq = wx
          have HT2 : Aside0 (IsS58 w0 wx g s j e b) := ⟨by rw [← hW]; exact HT.out⟩
          have HK2 : Aside0 (KeepBut w wx g none) := ⟨by rw [← hW]; exact HK.out⟩
          have HB2 : Aside0 (Below w0.heap.size w0 wx) := ⟨by rw [← hW]; exact pw_below_drewN HB.out _⟩
          clear hW hc0 hc1 hc2 hc3 hf0 hf1 hf2 hf3 HT HK HB
          obtain ⟨hc0, hc1, hc2, hc3, hf0, hf1, hf2, hf3⟩ := tagger_cells HT2.out
          go_wp2
          go_still_tail 13, (by kernel_rfl)
          go_wp2
          go_roundg (((s.size : Int) - (j + 1)).toNat)
          case measure => have := HM.out; omega
          case rel => exact ⟨j + 1, true, by omega, by omega, ⟨rfl⟩, ⟨(HT2.out.set_3 _).set_1 _⟩, ⟨by rw [← HE.out, sepF_go hlt d1 (.inr Hc3.out), c3a]⟩, ⟨(HK2.out.set_ _ _).set_ _ _⟩, ⟨below_drew (below_set (below_set HB2.out HT2.out.2) HT2.out.2)⟩⟩
        · have c3a : (bt s j == 47) = false := beq_eq_false_iff_ne.mpr c3
          go_wp2
          go_quiet (first | (go_at_call 51; (refine (isOver_any g s j e b w0 _ ?_ j0).mono ?_); exact HT.out; rintro r w' ⟨rfl, ⟨nd, rfl⟩⟩; rw [d1]; exact ⟨rfl, _, World.drewN_drewN _ _ _⟩) | (go_at_call 93; (refine (isBlankByte_any (bt s j) hr.1 hr.2 _).mono ?_); rintro r w' ⟨rfl, ⟨nd, rfl⟩⟩; rw [c2]; exact ⟨rfl, _, World.drewN_drewN _ _ _⟩))
          go_wp2
          go_end0
          exact ⟨rfl, by rw [← HE.out, sepF_stop (.inr (by rw [c2]; simp [c3]))]; exact HT.out, pw_below_drewN HB.out _, HK.out⟩

end Go.Proofs.Ytlocaaebgghkbaa.A
