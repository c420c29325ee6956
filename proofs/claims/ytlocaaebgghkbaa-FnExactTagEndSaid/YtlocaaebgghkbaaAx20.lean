-- text made by wip/tools/myprint.py over the kit's print
import Derived.Test.YtlocaaebgghkbaaAx0
import Derived.Test.YtlocaaebgghkbaaAx16
import Derived.Test.YtlocaaebgghkbaaAx17
import Derived.Test.YtlocaaebgghkbaaAx19
namespace Go.Proofs.Ytlocaaebgghkbaa.A
open Go.RowKit Go.Proofs.YtlocaaebgghkbaaW.PrintWords Go.Proofs.YtlocaaebgghkbaaW.PrintLast Go.Proofs.YtlocaaebgghkbaaW.PrintMore
attribute [local go_sem] max2_int min2_int max_two min_two max_three min_three max_four min_four   -- for this text's walks alone
set_option linter.unusedVariables false
set_option linter.unusedSimpArgs false

/-! ### impl_tagger_blanks: function 96 -/
theorem pastBlanks_l (s : ByteArray) (hm : s.size ≤ 140737488351232) (d : Nat) : ∀ (k : Nat) (i : Int), 0 ≤ i → i ≤ s.size → ((s.size : Int) - i).toNat = d → d < k → impl_pastBlanks.l0 k s i = some (pastB s i) := by
  induction d with
  | zero =>
    intro k i h0 h1 hd hk
    obtain ⟨k, rfl⟩ : ∃ m, k = m + 1 := ⟨k - 1, by omega⟩
    simp only [impl_pastBlanks.l0]
    rw [if_neg (by omega), pastB_stop (.inl (by omega))]
  | succ d ih =>
    intro k i h0 h1 hd hk
    obtain ⟨k, rfl⟩ : ∃ m, k = m + 1 := ⟨k - 1, by omega⟩
    simp only [impl_pastBlanks.l0]
    have hr := bt_range s i
    rw [if_pos (by omega), if_pos h0, isBlankByte_f _ hr.1 hr.2]
    simp only [Option.bind_some]
    by_cases hb : blk (bt s i) = true
    · rw [if_pos hb, pastB_go (by omega) hb, show wrap64 (i + 1) = i + 1 by unfold wrap64; omega]
      exact ih k (i + 1) (by omega) (by omega) (by omega) (by omega)
    · rw [if_neg hb, pastB_stop (.inr (by simpa using hb))]
theorem isBlank_still (c : Int) (w : World) :
    Calls Try.prog 127 #[.int .i64 c] w fun e w' => e = .returned (.bool (blk c)) ∧ w' = w := by
  by_cases a1 : c = 9
  · subst a1; go_enter Try.func127, Try.ntmps127; go_wp2; go_ret; exact ⟨rfl, rfl⟩
  by_cases a2 : c = 10
  · subst a2; go_enter Try.func127, Try.ntmps127; go_wp2; go_ret; exact ⟨rfl, rfl⟩
  by_cases a3 : c = 12
  · subst a3; go_enter Try.func127, Try.ntmps127; go_wp2; go_ret; exact ⟨rfl, rfl⟩
  by_cases a4 : c = 13
  · subst a4; go_enter Try.func127, Try.ntmps127; go_wp2; go_ret; exact ⟨rfl, rfl⟩
  have b1 : (c == 9) = false := beq_eq_false_iff_ne.mpr a1
  have b2 : (c == 10) = false := beq_eq_false_iff_ne.mpr a2
  have b3 : (c == 12) = false := beq_eq_false_iff_ne.mpr a3
  have b4 : (c == 13) = false := beq_eq_false_iff_ne.mpr a4
  have e : blk c = (c == 32) := by simp [blk, b1, b2, b3, b4]
  rw [e]
  go_enter Try.func127, Try.ntmps127
  go_wp2
  go_ret
  exact ⟨by simp [b1, b2, b3, b4], rfl⟩
theorem isBlankByte_still (c : Int) (h0 : 0 ≤ c) (h1 : c ≤ 255) (w : World) :
    Calls Try.prog 93 #[.int .u8 c] w fun r w' => r = .returned (.bool (blk c)) ∧ w' = w := by
  go_enter Try.func93, Try.ntmps93
  go_wp2_with ((go_at_call 127; (refine (isBlank_still c _).mono ?_); rintro r w' ⟨rfl, rfl⟩))
  go_ret
  exact ⟨rfl, rfl⟩
set_option maxHeartbeats 1000000 in
theorem pastBlanks_still (s : ByteArray) (i : Int) (w : World) (h0 : 0 ≤ i) (h1 : i ≤ s.size) (hm : s.size ≤ 140737488351232) :
    Calls Try.prog 129 #[.string s, .int .i64 i] w fun e w' => e = .returned (.int .i64 (pastB s i)) ∧ w' = w := by
  go_enter Try.func129, Try.ntmps129
  go_wp2
  go_loopg [1] (((s.size : Int) - i).toNat) (fun kq v wr => ∃ j : Int, v = .int .i64 j ∧ 0 ≤ j ∧ j ≤ s.size ∧ Aside0 (kq = ((s.size : Int) - j).toNat) ∧ Aside0 (pastB s j = pastB s i) ∧ w = wr)
  case atStart => exact ⟨i, rfl, h0, h1, ⟨rfl⟩, ⟨rfl⟩, rfl⟩
  case round =>
    obtain ⟨j, rfl, j0, j1, HM, HE, rfl⟩ := hrel
    have hr := bt_range s j
    have hx := bt_at s j
    by_cases hlt : j < (s.size : Int)
    · by_cases c2 : blk (bt s j) = true
      · have C2 := Aside0.mk c2
        go_wp2_with ((go_at_call 93; (refine (isBlankByte_still (bt s j) hr.1 hr.2 _).mono ?_); rintro r w' ⟨rfl, rfl⟩; rw [C2.out]))
        go_roundg (((s.size : Int) - (j + 1)).toNat)
        case measure => have := HM.out; omega
        case rel => exact ⟨j + 1, rfl, by omega, by omega, ⟨rfl⟩, ⟨by rw [← HE.out, pastB_go hlt C2.out]⟩, rfl⟩
      · replace c2 : blk (bt s j) = false := by simpa using c2
        have C2 := Aside0.mk c2
        go_wp2_with ((go_at_call 93; (refine (isBlankByte_still (bt s j) hr.1 hr.2 _).mono ?_); rintro r w' ⟨rfl, rfl⟩; rw [C2.out]))
        go_ret
        exact ⟨by rw [← HE.out, pastB_stop (.inr C2.out)]; rfl, rfl⟩
    · go_wp2
      go_ret
      exact ⟨by rw [← HE.out, pastB_stop (.inl (by omega))]; rfl, rfl⟩

def impl_tagger_blanks.f (s : ByteArray) (k : Int) (e sl : Bool) : Option (ByteArray × Int × Bool × Bool) :=
  if 0 ≤ k ∧ k ≤ s.size ∧ s.size ≤ 140737488351232 then some (s, pastB s k, e, sl) else none
set_option maxHeartbeats 1000000 in
set_option maxRecDepth 100000 in
theorem impl_tagger_blanks.calls (g : Nat) (s : ByteArray) (k : Int) (e sl : Bool) (r1 : ByteArray) (r2 : Int) (r3 r4 : Bool) (w0 w : World) (hI : IsS58 w0 w g s k e sl) (hB : Below w0.heap.size w0 w) (hF : impl_tagger_blanks.f s k e sl = some (r1, r2, r3, r4)) :
    Calls Try.prog 96 #[.pointer (some ⟨g, 0, none⟩)] w fun r w' => r = .returned (.tuple #[]) ∧ IsS58 w0 w' g r1 r2 r3 r4 ∧ Below w0.heap.size w0 w' ∧ KeepBut w w' g none := by
  unfold impl_tagger_blanks.f at hF
  split at hF
  case isFalse => cases hF
  case isTrue hc =>
  obtain ⟨h0, hs, hm⟩ := hc
  simp only [Option.some.injEq, Prod.mk.injEq] at hF
  obtain ⟨rfl, rfl, rfl, rfl⟩ := hF
  have HT := Aside0.mk hI
  have HB := Aside0.mk hB
  have HK := Aside0.mk (KeepBut.refl w g none)
  obtain ⟨hc0, hc1, hc2, hc3, hf0, hf1, hf2, hf3⟩ := tagger_cells hI
  clear hI hB
  go_enter Try.func96, Try.ntmps96
  go_wp2
  refine wp_region_still_tail 10 (by kernel_rfl) (by kernel_rfl) ?_
  simp only [List.take_succ_cons, List.take_zero, List.drop_succ_cons, List.drop_zero]
  repeat still_step
  still_call (pastBlanks_still s k _ h0 hs hm)
  refine wpStill_nil ?_
  go_wp2
  go_end0
  exact ⟨rfl, HT.out.set_1 _, below_drew (below_set HB.out HT.out.2), HK.out.set_ _ _⟩

end Go.Proofs.Ytlocaaebgghkbaa.A
