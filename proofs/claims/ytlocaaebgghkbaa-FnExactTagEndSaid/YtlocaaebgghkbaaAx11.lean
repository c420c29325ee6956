-- text made by wip/tools/myprint.py over the kit's print
import Derived.Test.YtlocaaebgghkbaaAx0
import Derived.Test.YtlocaaebgghkbaaAx4
import Derived.Test.YtlocaaebgghkbaaAx5
import Derived.Test.YtlocaaebgghkbaaAx6
import Derived.Test.YtlocaaebgghkbaaAx7
import Derived.Test.YtlocaaebgghkbaaAx8
import Derived.Test.YtlocaaebgghkbaaAx9
import Derived.Test.YtlocaaebgghkbaaAx10
namespace Go.Proofs.Ytlocaaebgghkbaa.A
open Go.RowKit Go.Proofs.YtlocaaebgghkbaaW.PrintWords Go.Proofs.YtlocaaebgghkbaaW.PrintLast Go.Proofs.YtlocaaebgghkbaaW.PrintMore
attribute [local go_sem] max2_int min2_int max_two min_two max_three min_three max_four min_four   -- for this text's walks alone
set_option linter.unusedVariables false
set_option linter.unusedSimpArgs false

/-! ### spec_TagEnd: function 10 -/
mutual
def spec_TagEnd.j0 : Nat → ByteArray → Int → Bool → Option (Int)
  | 0, _, _, _ => none
  | k + 1, x0, x1, x20 => if x20 = true then (some (-1)) else ((spec_l4After.f x0 x1).bind fun t107 => ((spec_l4Tag.f k x0 t107).bind fun t108 => (spec_TagEnd.l0 k x0 t108)))
def spec_TagEnd.l0 : Nat → ByteArray → Int → Option (Int)
  | 0, _, _ => none
  | k + 1, x0, x5 => (spec_l4Skip.f k x0 x5).bind fun t109 => (if t109 ≥ (x0.size : Int) then (some (-1)) else (if 0 ≤ t109 then (if t109 < (x0.size : Int) then (if (bt x0 t109) = 62 then (some t109) else ((spec_l4Name.f k x0 t109 true).bind fun t110 => ((spec_l4Blanks.f k x0 t110).bind fun t111 => (if t111 ≥ (x0.size : Int) then (spec_TagEnd.j2 k x0 t111 true) else (if 0 ≤ t111 then (if t111 < (x0.size : Int) then (spec_TagEnd.j2 k x0 t111 ((bt x0 t111) != 61)) else (none)) else (none)))))) else (none)) else (none)))
def spec_TagEnd.j2 : Nat → ByteArray → Int → Bool → Option (Int)
  | 0, _, _, _ => none
  | k + 1, x0, x5, x52 => if x52 = true then (spec_TagEnd.l0 k x0 x5) else ((spec_l4Blanks.f k x0 (wrap64 (x5 + 1))).bind fun t112 => (if t112 < (x0.size : Int) then (if 0 ≤ t112 then (if (bt x0 t112) = 34 then (spec_TagEnd.j3 k x0 t112 true) else (spec_TagEnd.j3 k x0 t112 ((bt x0 t112) == 39))) else (none)) else (spec_TagEnd.j3 k x0 t112 false)))
def spec_TagEnd.j3 : Nat → ByteArray → Int → Bool → Option (Int)
  | 0, _, _, _ => none
  | k + 1, x0, x5, x72 => if x72 = true then (if 0 ≤ x5 then (if x5 < (x0.size : Int) then ((spec_l4Find.f k x0 (wrap64 (x5 + 1)) (bt x0 x5)).bind fun t113 => (if t113 < 0 then (some (-1)) else (spec_TagEnd.l0 k x0 (wrap64 (t113 + 1))))) else (none)) else (none)) else ((spec_l4Plain.f k x0 x5 true).bind fun t114 => (spec_TagEnd.l0 k x0 t114))
end
def spec_TagEnd.f (k : Nat) (a0 : ByteArray) (a1 : Int) : Option (Int) := if a1 < 0 then (spec_TagEnd.j0 k a0 a1 true) else (if a1 ≥ (a0.size : Int) then (spec_TagEnd.j0 k a0 a1 true) else (if 0 ≤ a1 then (if a1 < (a0.size : Int) then (spec_TagEnd.j0 k a0 a1 ((bt a0 a1) != 60)) else (none)) else (none)))
theorem spec_TagEnd.mono_l : ∀ k, (∀ y0 y1 y2, LeO (spec_TagEnd.j0 k y0 y1 y2) (spec_TagEnd.j0 (k + 1) y0 y1 y2)) ∧ (∀ y0 y1, LeO (spec_TagEnd.l0 k y0 y1) (spec_TagEnd.l0 (k + 1) y0 y1)) ∧ (∀ y0 y1 y2, LeO (spec_TagEnd.j2 k y0 y1 y2) (spec_TagEnd.j2 (k + 1) y0 y1 y2)) ∧ (∀ y0 y1 y2, LeO (spec_TagEnd.j3 k y0 y1 y2) (spec_TagEnd.j3 (k + 1) y0 y1 y2))
  | 0 => ⟨fun _ _ _ r h => by simp [spec_TagEnd.j0] at h, fun _ _ r h => by simp [spec_TagEnd.l0] at h, fun _ _ _ r h => by simp [spec_TagEnd.j2] at h, fun _ _ _ r h => by simp [spec_TagEnd.j3] at h⟩
  | k + 1 => by
    obtain ⟨ih0, ih1, ih2, ih3⟩ := spec_TagEnd.mono_l k
    refine ⟨?_, ?_, ?_, ?_⟩
    · intro y0 y1 y2
      unfold spec_TagEnd.j0
      repeat' first
      | (with_reducible exact ih0 _ _ _)
      | (with_reducible exact ih1 _ _)
      | (with_reducible exact ih2 _ _ _)
      | (with_reducible exact ih3 _ _ _)
      | (with_reducible exact spec_l4Blanks.mono _ _ _)
      | (with_reducible exact spec_l4Find.mono _ _ _ _)
      | (with_reducible exact spec_l4Name.mono _ _ _ _)
      | (with_reducible exact spec_l4Plain.mono _ _ _ _)
      | (with_reducible exact spec_l4Skip.mono _ _ _)
      | (with_reducible exact spec_l4Tag.mono _ _ _)
      | (with_reducible exact LeO.refl _)
      | (with_reducible exact LeO.none _)
      | (with_reducible refine LeO.ite ?_ ?_)
      | (with_reducible refine LeO.bind ?_ (fun _ => ?_))
      | exact ih0 _ _ _
      | exact ih1 _ _
      | exact ih2 _ _ _
      | exact ih3 _ _ _
      | exact spec_l4Blanks.mono _ _ _
      | exact spec_l4Find.mono _ _ _ _
      | exact spec_l4Name.mono _ _ _ _
      | exact spec_l4Plain.mono _ _ _ _
      | exact spec_l4Skip.mono _ _ _
      | exact spec_l4Tag.mono _ _ _
      | exact LeO.none _
      | refine LeO.ite ?_ ?_
      | refine LeO.bind ?_ (fun _ => ?_)
    · intro y0 y1
      unfold spec_TagEnd.l0
      repeat' first
      | (with_reducible exact ih0 _ _ _)
      | (with_reducible exact ih1 _ _)
      | (with_reducible exact ih2 _ _ _)
      | (with_reducible exact ih3 _ _ _)
      | (with_reducible exact spec_l4Blanks.mono _ _ _)
      | (with_reducible exact spec_l4Find.mono _ _ _ _)
      | (with_reducible exact spec_l4Name.mono _ _ _ _)
      | (with_reducible exact spec_l4Plain.mono _ _ _ _)
      | (with_reducible exact spec_l4Skip.mono _ _ _)
      | (with_reducible exact spec_l4Tag.mono _ _ _)
      | (with_reducible exact LeO.refl _)
      | (with_reducible exact LeO.none _)
      | (with_reducible refine LeO.ite ?_ ?_)
      | (with_reducible refine LeO.bind ?_ (fun _ => ?_))
      | exact ih0 _ _ _
      | exact ih1 _ _
      | exact ih2 _ _ _
      | exact ih3 _ _ _
      | exact spec_l4Blanks.mono _ _ _
      | exact spec_l4Find.mono _ _ _ _
      | exact spec_l4Name.mono _ _ _ _
      | exact spec_l4Plain.mono _ _ _ _
      | exact spec_l4Skip.mono _ _ _
      | exact spec_l4Tag.mono _ _ _
      | exact LeO.none _
      | refine LeO.ite ?_ ?_
      | refine LeO.bind ?_ (fun _ => ?_)
    · intro y0 y1 y2
      unfold spec_TagEnd.j2
      repeat' first
      | (with_reducible exact ih0 _ _ _)
      | (with_reducible exact ih1 _ _)
      | (with_reducible exact ih2 _ _ _)
      | (with_reducible exact ih3 _ _ _)
      | (with_reducible exact spec_l4Blanks.mono _ _ _)
      | (with_reducible exact spec_l4Find.mono _ _ _ _)
      | (with_reducible exact spec_l4Name.mono _ _ _ _)
      | (with_reducible exact spec_l4Plain.mono _ _ _ _)
      | (with_reducible exact spec_l4Skip.mono _ _ _)
      | (with_reducible exact spec_l4Tag.mono _ _ _)
      | (with_reducible exact LeO.refl _)
      | (with_reducible exact LeO.none _)
      | (with_reducible refine LeO.ite ?_ ?_)
      | (with_reducible refine LeO.bind ?_ (fun _ => ?_))
      | exact ih0 _ _ _
      | exact ih1 _ _
      | exact ih2 _ _ _
      | exact ih3 _ _ _
      | exact spec_l4Blanks.mono _ _ _
      | exact spec_l4Find.mono _ _ _ _
      | exact spec_l4Name.mono _ _ _ _
      | exact spec_l4Plain.mono _ _ _ _
      | exact spec_l4Skip.mono _ _ _
      | exact spec_l4Tag.mono _ _ _
      | exact LeO.none _
      | refine LeO.ite ?_ ?_
      | refine LeO.bind ?_ (fun _ => ?_)
    · intro y0 y1 y2
      unfold spec_TagEnd.j3
      repeat' first
      | (with_reducible exact ih0 _ _ _)
      | (with_reducible exact ih1 _ _)
      | (with_reducible exact ih2 _ _ _)
      | (with_reducible exact ih3 _ _ _)
      | (with_reducible exact spec_l4Blanks.mono _ _ _)
      | (with_reducible exact spec_l4Find.mono _ _ _ _)
      | (with_reducible exact spec_l4Name.mono _ _ _ _)
      | (with_reducible exact spec_l4Plain.mono _ _ _ _)
      | (with_reducible exact spec_l4Skip.mono _ _ _)
      | (with_reducible exact spec_l4Tag.mono _ _ _)
      | (with_reducible exact LeO.refl _)
      | (with_reducible exact LeO.none _)
      | (with_reducible refine LeO.ite ?_ ?_)
      | (with_reducible refine LeO.bind ?_ (fun _ => ?_))
      | exact ih0 _ _ _
      | exact ih1 _ _
      | exact ih2 _ _ _
      | exact ih3 _ _ _
      | exact spec_l4Blanks.mono _ _ _
      | exact spec_l4Find.mono _ _ _ _
      | exact spec_l4Name.mono _ _ _ _
      | exact spec_l4Plain.mono _ _ _ _
      | exact spec_l4Skip.mono _ _ _
      | exact spec_l4Tag.mono _ _ _
      | exact LeO.none _
      | refine LeO.ite ?_ ?_
      | refine LeO.bind ?_ (fun _ => ?_)
theorem spec_TagEnd.mono : ∀ a0 a1 k, LeO (spec_TagEnd.f k a0 a1) (spec_TagEnd.f (k + 1) a0 a1) := by
  intro a0 a1 k
  obtain ⟨ih0, ih1, ih2, ih3⟩ := spec_TagEnd.mono_l k
  unfold spec_TagEnd.f
  repeat' first
      | (with_reducible exact ih0 _ _ _)
      | (with_reducible exact ih1 _ _)
      | (with_reducible exact ih2 _ _ _)
      | (with_reducible exact ih3 _ _ _)
      | (with_reducible exact spec_l4Blanks.mono _ _ _)
      | (with_reducible exact spec_l4Find.mono _ _ _ _)
      | (with_reducible exact spec_l4Name.mono _ _ _ _)
      | (with_reducible exact spec_l4Plain.mono _ _ _ _)
      | (with_reducible exact spec_l4Skip.mono _ _ _)
      | (with_reducible exact spec_l4Tag.mono _ _ _)
      | (with_reducible exact LeO.refl _)
      | (with_reducible exact LeO.none _)
      | (with_reducible refine LeO.ite ?_ ?_)
      | (with_reducible refine LeO.bind ?_ (fun _ => ?_))
      | exact ih0 _ _ _
      | exact ih1 _ _
      | exact ih2 _ _ _
      | exact ih3 _ _ _
      | exact spec_l4Blanks.mono _ _ _
      | exact spec_l4Find.mono _ _ _ _
      | exact spec_l4Name.mono _ _ _ _
      | exact spec_l4Plain.mono _ _ _ _
      | exact spec_l4Skip.mono _ _ _
      | exact spec_l4Tag.mono _ _ _
      | exact LeO.none _
      | refine LeO.ite ?_ ?_
      | refine LeO.bind ?_ (fun _ => ?_)
set_option maxHeartbeats 8000000 in
set_option maxRecDepth 100000 in
theorem spec_TagEnd.calls (k : Nat) (a0 : ByteArray) (a1 : Int) (r : Int) (w : World) (h : spec_TagEnd.f k a0 a1 = some r) :
    Calls Try.prog 10 #[.string a0, .int .i64 a1] w fun e w' => e = .returned (.int .i64 r) ∧ Drawn0 w w' := by
  have H : (if a1 < 0 then (spec_TagEnd.j0 k a0 a1 true) else (if a1 ≥ (a0.size : Int) then (spec_TagEnd.j0 k a0 a1 true) else (if 0 ≤ a1 then (if a1 < (a0.size : Int) then (spec_TagEnd.j0 k a0 a1 ((bt a0 a1) != 60)) else (none)) else (none)))) = some r := h
  clear h
  have HC3 := Aside0.mk H
  clear H
  go_enter Try.func10, Try.ntmps10
  go_upto_region 1 with (fail)
  go_cut [20] (fun v20 wc => ∃ (kq : Nat) (x20_2 : Bool), v20 = .bool x20_2 ∧ Aside0 (spec_TagEnd.j0 kq a0 a1 x20_2 = some r) ∧ Aside0 (kq ≤ k) ∧ Drawn0 w wc)
  case first =>
    have H := HC3.out
    clear HC3
    by_cases c4 : a1 < 0
    · rw [if_pos c4] at H
      have c4b0 : decide (a1 < 0) = true := decide_eq_true c4
      clear c4
      (first | rw [c4b0] | (simp only [i64_w, i32_w]; rw [c4b0]) | skip)
      have H' := Aside0.mk H
      clear H
      go_wp2
      go_meet
      case rel => exact ⟨_, (true), (by first | rfl | (simp; done) | (simp [*]; done)), H', ⟨by first | omega | exact Nat.le_refl _⟩, by repeat (first | exact Drawn0.refl _ | apply Drawn0.step)⟩
    · rw [if_neg c4] at H
      have c4b0 : decide (a1 < 0) = false := decide_eq_false c4
      clear c4
      (first | rw [c4b0] | (simp only [i64_w, i32_w]; rw [c4b0]) | skip)
      by_cases c5 : a1 ≥ (a0.size : Int)
      · rw [if_pos c5] at H
        have c5b0 : decide ((a0.size : Int) ≤ a1) = true := decide_eq_true c5
        clear c5
        have H' := Aside0.mk H
        clear H
        go_wp2
        go_meet
        case rel => exact ⟨_, (true), (by first | rfl | (simp; done) | (simp [*]; done)), H', ⟨by first | omega | exact Nat.le_refl _⟩, by repeat (first | exact Drawn0.refl _ | apply Drawn0.step)⟩
      · rw [if_neg c5] at H
        have c5b0 : decide ((a0.size : Int) ≤ a1) = false := decide_eq_false c5
        clear c5
        by_cases c6 : 0 ≤ a1
        · rw [if_pos c6] at H
          have c6b0 : decide (0 ≤ a1) = true := decide_eq_true c6
          clear c6
          by_cases c7 : a1 < (a0.size : Int)
          · rw [if_pos c7] at H
            have c7b0 : decide (a1 < (a0.size : Int)) = true := decide_eq_true c7
            clear c7
            have H' := Aside0.mk H
            clear H
            have p8 : 0 ≤ (a1 : Int) := of_decide_eq_true (by first | (with_reducible assumption) | assumption)
            have q8 : a1 < (a0.size : Int) := of_decide_eq_true (by first | (with_reducible assumption) | assumption)
            have hx8 := bt_at a0 a1
            replace p8 := eq_true p8
            replace q8 := eq_true q8
            go_wp2
            go_meet
            case rel => exact ⟨_, (((bt a0 a1) != 60)), (by first | rfl | (simp; done) | (simp [*]; done)), H', ⟨by first | omega | exact Nat.le_refl _⟩, by repeat (first | exact Drawn0.refl _ | apply Drawn0.step)⟩
          · rw [if_neg c7] at H
            exact absurd H (by simp)
        · rw [if_neg c6] at H
          exact absurd H (by simp)
  case rest =>
    clear HC3
    try clear c1
    try clear p2
    try clear c4
    try clear c4b0
    try clear c5
    try clear c5b0
    try clear c6
    try clear c6b0
    try clear c7
    try clear c7b0
    try clear p8
    try clear q8
    try clear hx8
    try clear p8
    try clear q8
    obtain ⟨kq, x20_2, rfl, HA, HJ2, ⟨mc2, rfl⟩⟩ := hcut
    cases kq with
    | zero => exact absurd HA.out (by simp [spec_TagEnd.j0])
    | succ kj2 =>
      have H := HA.out
      clear HA
      simp only [spec_TagEnd.j0] at H
      by_cases c9 : x20_2 = true
      · subst c9
        have H1 : (some (-1)) = some r := by rw [if_pos rfl] at H; exact H
        clear H
        have H := H1
        clear H1
        obtain rfl := Option.some.inj H
        go_wp2
        go_ret
        exact ⟨by first | rfl | (simp; done) | (simp [*]; done), by repeat (first | exact Drawn0.refl _ | apply Drawn0.step)⟩
      · replace c9 := Bool.eq_false_iff.mpr c9
        subst c9
        have H1 : ((spec_l4After.f a0 a1).bind fun t107 => ((spec_l4Tag.f kj2 a0 t107).bind fun t108 => (spec_TagEnd.l0 kj2 a0 t108))) = some r := by rw [if_neg (show ¬ (false = true) by decide)] at H; exact H
        clear H
        have H := H1
        clear H1
        replace H := Option.bind_eq_some_iff.mp H
        obtain ⟨t107, A100, H⟩ := H
        replace H : ((spec_l4Tag.f kj2 a0 t107).bind fun t108 => (spec_TagEnd.l0 kj2 a0 t108)) = some r := H
        have A10 := Aside0.mk A100
        clear A100
        replace H := Option.bind_eq_some_iff.mp H
        obtain ⟨t108, A110, H⟩ := H
        replace H : (spec_TagEnd.l0 kj2 a0 t108) = some r := H
        have A11 := Aside0.mk A110
        clear A110
        have H' := Aside0.mk H
        clear H
        go_wp2_with (first | ((with_reducible refine gate_callee (f := 42) rfl ?_); refine goesL_ (some 24) rfl rfl Try.func42 (by kernel_rfl) rfl #[.string a0, .int .i64 a1] rfl (by (try simp only [List.map_toArray, List.map_cons, List.map_nil]); first | done | rfl | (simp only [List.length_drop, List.length_take]; rfl)) ?_; (with_reducible refine (spec_l4After.calls a0 a1 t107 _ A10.out).mono ?_); rintro e w' ⟨rfl, ⟨nd, rfl⟩⟩; refine ⟨_, rfl, ?_⟩) | ((with_reducible refine gate_callee (f := 41) rfl ?_); refine goesL_ (some 25) rfl rfl Try.func41 (by kernel_rfl) rfl #[.string a0, .int .i64 t107] rfl (by (try simp only [List.map_toArray, List.map_cons, List.map_nil]); first | done | rfl | (simp only [List.length_drop, List.length_take]; rfl)) ?_; (with_reducible refine (spec_l4Tag.calls kj2 a0 t107 t108 _ A11.out).mono ?_); rintro e w' ⟨rfl, ⟨nd, rfl⟩⟩; refine ⟨_, rfl, ?_⟩))
        go_loopg [5] kj2 (fun kq v5 w' => ∃ (x5_2 : Int), v5 = .int .i64 x5_2 ∧ Aside0 (spec_TagEnd.l0 kq a0 x5_2 = some r) ∧ Aside0 (kq ≤ kj2) ∧ Drawn0 w w')
        case atStart => exact ⟨(t108), (by first | rfl | (simp; done) | (simp [*]; done)), H', ⟨Nat.le_refl _⟩, by repeat (first | exact Drawn0.refl _ | apply Drawn0.step)⟩
        case round =>
          clear H'
          try clear c1
          try clear c2
          try clear p2
          try clear c4
          try clear c4b0
          try clear c5
          try clear c5b0
          try clear c6
          try clear c6b0
          try clear c7
          try clear c7b0
          try clear p8
          try clear q8
          try clear hx8
          try clear c9
          try clear c10
          try clear p2
          try clear p8
          try clear q8
          obtain ⟨x5_2, rfl, HA, HK2, ⟨m2, rfl⟩⟩ := hrel
          cases gk with
          | zero => exact absurd HA.out (by simp [spec_TagEnd.l0])
          | succ k2 =>
            have H := HA.out
            clear HA
            simp only [spec_TagEnd.l0] at H
            replace H := Option.bind_eq_some_iff.mp H
            obtain ⟨t109, A120, H⟩ := H
            replace H : (if t109 ≥ (a0.size : Int) then (some (-1)) else (if 0 ≤ t109 then (if t109 < (a0.size : Int) then (if (bt a0 t109) = 62 then (some t109) else ((spec_l4Name.f k2 a0 t109 true).bind fun t110 => ((spec_l4Blanks.f k2 a0 t110).bind fun t111 => (if t111 ≥ (a0.size : Int) then (spec_TagEnd.j2 k2 a0 t111 true) else (if 0 ≤ t111 then (if t111 < (a0.size : Int) then (spec_TagEnd.j2 k2 a0 t111 ((bt a0 t111) != 61)) else (none)) else (none)))))) else (none)) else (none))) = some r := H
            have A12 := Aside0.mk A120
            clear A120
            by_cases c13 : t109 ≥ (a0.size : Int)
            · rw [if_pos c13] at H
              have c13b0 : decide ((a0.size : Int) ≤ t109) = true := decide_eq_true c13
              clear c13
              obtain rfl := Option.some.inj H
              go_wp2_with (first | ((with_reducible refine gate_callee (f := 43) rfl ?_); refine goesL_ (some 28) rfl rfl Try.func43 (by kernel_rfl) rfl #[.string a0, .int .i64 x5_2] rfl (by (try simp only [List.map_toArray, List.map_cons, List.map_nil]); first | done | rfl | (simp only [List.length_drop, List.length_take]; rfl)) ?_; (with_reducible refine (spec_l4Skip.calls k2 a0 x5_2 t109 _ A12.out).mono ?_); rintro e w' ⟨rfl, ⟨nd, rfl⟩⟩; refine ⟨_, rfl, ?_⟩))
              go_ret
              exact ⟨by first | rfl | (simp; done) | (simp [*]; done), by repeat (first | exact Drawn0.refl _ | apply Drawn0.step)⟩
            · rw [if_neg c13] at H
              have c13b0 : decide ((a0.size : Int) ≤ t109) = false := decide_eq_false c13
              clear c13
              by_cases c14 : 0 ≤ t109
              · rw [if_pos c14] at H
                have c14b0 : decide (0 ≤ t109) = true := decide_eq_true c14
                clear c14
                by_cases c15 : t109 < (a0.size : Int)
                · rw [if_pos c15] at H
                  have c15b0 : decide (t109 < (a0.size : Int)) = true := decide_eq_true c15
                  clear c15
                  by_cases c17 : (bt a0 t109) = 62
                  · rw [if_pos c17] at H
                    have c17b0 : ((bt a0 t109) == 62) = true := beq_iff_eq.mpr c17
                    have c17b1 : ((bt a0 t109) != 62) = false := bne_eq_false_iff_eq.mpr c17
                    clear c17
                    obtain rfl := Option.some.inj H
                    go_wp2_with (first | ((with_reducible refine gate_callee (f := 43) rfl ?_); refine goesL_ (some 28) rfl rfl Try.func43 (by kernel_rfl) rfl #[.string a0, .int .i64 x5_2] rfl (by (try simp only [List.map_toArray, List.map_cons, List.map_nil]); first | done | rfl | (simp only [List.length_drop, List.length_take]; rfl)) ?_; (with_reducible refine (spec_l4Skip.calls k2 a0 x5_2 t109 _ A12.out).mono ?_); rintro e w' ⟨rfl, ⟨nd, rfl⟩⟩; refine ⟨_, rfl, ?_⟩; have p16 : 0 ≤ (t109 : Int) := of_decide_eq_true (by first | (with_reducible assumption) | assumption); have q16 : t109 < (a0.size : Int) := of_decide_eq_true (by first | (with_reducible assumption) | assumption); have hx16 := bt_at a0 t109; replace p16 := eq_true p16; replace q16 := eq_true q16))
                    go_ret
                    exact ⟨by first | rfl | (simp; done) | (simp [*]; done), by repeat (first | exact Drawn0.refl _ | apply Drawn0.step)⟩
                  · rw [if_neg c17] at H
                    have c17b0 : ((bt a0 t109) == 62) = false := beq_eq_false_iff_ne.mpr c17
                    have c17b1 : ((bt a0 t109) != 62) = true := bne_iff_ne.mpr c17
                    replace H := Option.bind_eq_some_iff.mp H
                    obtain ⟨t110, A180, H⟩ := H
                    replace H : ((spec_l4Blanks.f k2 a0 t110).bind fun t111 => (if t111 ≥ (a0.size : Int) then (spec_TagEnd.j2 k2 a0 t111 true) else (if 0 ≤ t111 then (if t111 < (a0.size : Int) then (spec_TagEnd.j2 k2 a0 t111 ((bt a0 t111) != 61)) else (none)) else (none)))) = some r := H
                    have A18 := Aside0.mk A180
                    clear A180
                    replace H := Option.bind_eq_some_iff.mp H
                    obtain ⟨t111, A190, H⟩ := H
                    replace H : (if t111 ≥ (a0.size : Int) then (spec_TagEnd.j2 k2 a0 t111 true) else (if 0 ≤ t111 then (if t111 < (a0.size : Int) then (spec_TagEnd.j2 k2 a0 t111 ((bt a0 t111) != 61)) else (none)) else (none))) = some r := H
                    have A19 := Aside0.mk A190
                    clear A190
                    have HC20 := Aside0.mk H
                    clear H
                    go_upto_region 10 with (first | ((with_reducible refine gate_callee (f := 43) rfl ?_); refine goesL_ (some 28) rfl rfl Try.func43 (by kernel_rfl) rfl #[.string a0, .int .i64 x5_2] rfl (by (try simp only [List.map_toArray, List.map_cons, List.map_nil]); first | done | rfl | (simp only [List.length_drop, List.length_take]; rfl)) ?_; (with_reducible refine (spec_l4Skip.calls k2 a0 x5_2 t109 _ A12.out).mono ?_); rintro e w' ⟨rfl, ⟨nd, rfl⟩⟩; refine ⟨_, rfl, ?_⟩; have p16 : 0 ≤ (t109 : Int) := of_decide_eq_true (by first | (with_reducible assumption) | assumption); have q16 : t109 < (a0.size : Int) := of_decide_eq_true (by first | (with_reducible assumption) | assumption); have hx16 := bt_at a0 t109; replace p16 := eq_true p16; replace q16 := eq_true q16) | ((with_reducible refine gate_callee (f := 45) rfl ?_); refine goesL_ (some 41) rfl rfl Try.func45 (by kernel_rfl) rfl #[.string a0, .int .i64 t109, .bool true] rfl (by (try simp only [List.map_toArray, List.map_cons, List.map_nil]); first | done | rfl | (simp only [List.length_drop, List.length_take]; rfl)) ?_; (with_reducible refine (spec_l4Name.calls k2 a0 t109 true t110 _ A18.out).mono ?_); rintro e w' ⟨rfl, ⟨nd, rfl⟩⟩; refine ⟨_, rfl, ?_⟩) | ((with_reducible refine gate_callee (f := 44) rfl ?_); refine goesL_ (some 42) rfl rfl Try.func44 (by kernel_rfl) rfl #[.string a0, .int .i64 t110] rfl (by (try simp only [List.map_toArray, List.map_cons, List.map_nil]); first | done | rfl | (simp only [List.length_drop, List.length_take]; rfl)) ?_; (with_reducible refine (spec_l4Blanks.calls k2 a0 t110 t111 _ A19.out).mono ?_); rintro e w' ⟨rfl, ⟨nd, rfl⟩⟩; refine ⟨_, rfl, ?_⟩))
                    (try simp only [Act.put, List.setIfInBounds_toArray, List.set_cons_zero, List.set_cons_succ])
                    go_cut [52] (fun v52 wc => ∃ (kq : Nat) (x52_19 : Bool), v52 = .bool x52_19 ∧ Aside0 (spec_TagEnd.j2 kq a0 t111 x52_19 = some r) ∧ Aside0 (kq ≤ k2) ∧ Drawn0 w wc)
                    case first =>
                      have H := HC20.out
                      clear HC20
                      by_cases c21 : t111 ≥ (a0.size : Int)
                      · rw [if_pos c21] at H
                        have c21b0 : decide ((a0.size : Int) ≤ t111) = true := decide_eq_true c21
                        clear c21
                        (first | rw [c21b0] | (simp only [i64_w, i32_w]; rw [c21b0]) | skip)
                        have H' := Aside0.mk H
                        clear H
                        go_wp2
                        go_meet
                        case rel => exact ⟨_, (true), (by first | rfl | (simp; done) | (simp [*]; done)), H', ⟨by have := HJ2.out; have := HK2.out; first | omega | exact Nat.le_refl _⟩, by repeat (first | exact Drawn0.refl _ | apply Drawn0.step)⟩
                      · rw [if_neg c21] at H
                        have c21b0 : decide ((a0.size : Int) ≤ t111) = false := decide_eq_false c21
                        clear c21
                        (first | rw [c21b0] | (simp only [i64_w, i32_w]; rw [c21b0]) | skip)
                        by_cases c22 : 0 ≤ t111
                        · rw [if_pos c22] at H
                          have c22b0 : decide (0 ≤ t111) = true := decide_eq_true c22
                          clear c22
                          by_cases c23 : t111 < (a0.size : Int)
                          · rw [if_pos c23] at H
                            have c23b0 : decide (t111 < (a0.size : Int)) = true := decide_eq_true c23
                            clear c23
                            have H' := Aside0.mk H
                            clear H
                            have p24 : 0 ≤ (t111 : Int) := of_decide_eq_true (by first | (with_reducible assumption) | assumption)
                            have q24 : t111 < (a0.size : Int) := of_decide_eq_true (by first | (with_reducible assumption) | assumption)
                            have hx24 := bt_at a0 t111
                            replace p24 := eq_true p24
                            replace q24 := eq_true q24
                            go_wp2
                            go_meet
                            case rel => exact ⟨_, (((bt a0 t111) != 61)), (by first | rfl | (simp; done) | (simp [*]; done)), H', ⟨by have := HJ2.out; have := HK2.out; first | omega | exact Nat.le_refl _⟩, by repeat (first | exact Drawn0.refl _ | apply Drawn0.step)⟩
                          · rw [if_neg c23] at H
                            exact absurd H (by simp)
                        · rw [if_neg c22] at H
                          exact absurd H (by simp)
                    case rest =>
                      clear HC20
                      try clear c1
                      try clear p1
                      try clear q1
                      try clear hx1
                      try clear c2
                      try clear p2
                      try clear q2
                      try clear hx2
                      try clear c4
                      try clear c4b0
                      try clear c5
                      try clear c5b0
                      try clear c6
                      try clear c6b0
                      try clear c7
                      try clear c7b0
                      try clear p8
                      try clear q8
                      try clear hx8
                      try clear c9
                      try clear c10
                      try clear c13
                      try clear c13b0
                      try clear c14
                      try clear c14b0
                      try clear c15
                      try clear c15b0
                      try clear p16
                      try clear q16
                      try clear hx16
                      try clear c17
                      try clear c17b0
                      try clear c17b1
                      try clear c21
                      try clear c21b0
                      try clear c22
                      try clear c22b0
                      try clear c23
                      try clear c23b0
                      try clear p24
                      try clear q24
                      try clear hx24
                      try clear p16
                      try clear p2
                      try clear p24
                      try clear p8
                      try clear q16
                      try clear q24
                      try clear q8
                      obtain ⟨kq, x52_19, rfl, HA, HJ19, ⟨mc19, rfl⟩⟩ := hcut
                      cases kq with
                      | zero => exact absurd HA.out (by simp [spec_TagEnd.j2])
                      | succ kj19 =>
                        have H := HA.out
                        clear HA
                        simp only [spec_TagEnd.j2] at H
                        by_cases c25 : x52_19 = true
                        · subst c25
                          have H1 : (spec_TagEnd.l0 kj19 a0 t111) = some r := by rw [if_pos rfl] at H; exact H
                          clear H
                          have H := H1
                          clear H1
                          have H' := Aside0.mk H
                          clear H
                          go_wp2
                          go_roundg kj19
                          case measure => have := HJ2.out; have := HK2.out; have := HJ19.out; omega
                          case rel => exact ⟨(t111), (by first | rfl | (simp; done) | (simp [*]; done)), H', ⟨by have := HJ2.out; have := HK2.out; have := HJ19.out; omega⟩, by repeat (first | exact Drawn0.refl _ | apply Drawn0.step)⟩
                        · replace c25 := Bool.eq_false_iff.mpr c25
                          subst c25
                          have H1 : ((spec_l4Blanks.f kj19 a0 (wrap64 (t111 + 1))).bind fun t112 => (if t112 < (a0.size : Int) then (if 0 ≤ t112 then (if (bt a0 t112) = 34 then (spec_TagEnd.j3 kj19 a0 t112 true) else (spec_TagEnd.j3 kj19 a0 t112 ((bt a0 t112) == 39))) else (none)) else (spec_TagEnd.j3 kj19 a0 t112 false))) = some r := by rw [if_neg (show ¬ (false = true) by decide)] at H; exact H
                          clear H
                          have H := H1
                          clear H1
                          replace H := Option.bind_eq_some_iff.mp H
                          obtain ⟨t112, A260, H⟩ := H
                          replace H : (if t112 < (a0.size : Int) then (if 0 ≤ t112 then (if (bt a0 t112) = 34 then (spec_TagEnd.j3 kj19 a0 t112 true) else (spec_TagEnd.j3 kj19 a0 t112 ((bt a0 t112) == 39))) else (none)) else (spec_TagEnd.j3 kj19 a0 t112 false)) = some r := H
                          have A26 := Aside0.mk A260
                          clear A260
                          have HC27 := Aside0.mk H
                          clear H
                          go_upto_region 12 with (first | ((with_reducible refine gate_callee (f := 44) rfl ?_); refine goesL_ (some 56) rfl rfl Try.func44 (by kernel_rfl) rfl #[.string a0, .int .i64 (wrap64 (t111 + 1))] rfl (by (try simp only [List.map_toArray, List.map_cons, List.map_nil]); first | done | rfl | (simp only [List.length_drop, List.length_take]; rfl)) ?_; (with_reducible refine (spec_l4Blanks.calls kj19 a0 (wrap64 (t111 + 1)) t112 _ A26.out).mono ?_); rintro e w' ⟨rfl, ⟨nd, rfl⟩⟩; refine ⟨_, rfl, ?_⟩))
                          (try simp only [Act.put, List.setIfInBounds_toArray, List.set_cons_zero, List.set_cons_succ])
                          go_cut [72] (fun v72 wc => ∃ (kq : Nat) (x72_26 : Bool), v72 = .bool x72_26 ∧ Aside0 (spec_TagEnd.j3 kq a0 t112 x72_26 = some r) ∧ Aside0 (kq ≤ kj19) ∧ Drawn0 w wc)
                          case first =>
                            have H := HC27.out
                            clear HC27
                            by_cases c28 : t112 < (a0.size : Int)
                            · rw [if_pos c28] at H
                              have c28b0 : decide (t112 < (a0.size : Int)) = true := decide_eq_true c28
                              clear c28
                              (first | rw [c28b0] | (simp only [i64_w, i32_w]; rw [c28b0]) | skip)
                              by_cases c29 : 0 ≤ t112
                              · rw [if_pos c29] at H
                                have c29b0 : decide (0 ≤ t112) = true := decide_eq_true c29
                                clear c29
                                by_cases c31 : (bt a0 t112) = 34
                                · rw [if_pos c31] at H
                                  have c31b0 : ((bt a0 t112) == 34) = true := beq_iff_eq.mpr c31
                                  have c31b1 : ((bt a0 t112) != 34) = false := bne_eq_false_iff_eq.mpr c31
                                  clear c31
                                  have H' := Aside0.mk H
                                  clear H
                                  have p30 : 0 ≤ (t112 : Int) := of_decide_eq_true (by first | (with_reducible assumption) | assumption)
                                  have q30 : t112 < (a0.size : Int) := of_decide_eq_true (by first | (with_reducible assumption) | assumption)
                                  have hx30 := bt_at a0 t112
                                  replace p30 := eq_true p30
                                  replace q30 := eq_true q30
                                  go_wp2
                                  go_meet
                                  case rel => exact ⟨_, (true), (by first | rfl | (simp; done) | (simp [*]; done)), H', ⟨by have := HJ2.out; have := HK2.out; have := HJ19.out; first | omega | exact Nat.le_refl _⟩, by repeat (first | exact Drawn0.refl _ | apply Drawn0.step)⟩
                                · rw [if_neg c31] at H
                                  have c31b0 : ((bt a0 t112) == 34) = false := beq_eq_false_iff_ne.mpr c31
                                  have c31b1 : ((bt a0 t112) != 34) = true := bne_iff_ne.mpr c31
                                  have H' := Aside0.mk H
                                  clear H
                                  have p30 : 0 ≤ (t112 : Int) := of_decide_eq_true (by first | (with_reducible assumption) | assumption)
                                  have q30 : t112 < (a0.size : Int) := of_decide_eq_true (by first | (with_reducible assumption) | assumption)
                                  have hx30 := bt_at a0 t112
                                  replace p30 := eq_true p30
                                  replace q30 := eq_true q30
                                  have p32 : 0 ≤ (t112 : Int) := of_decide_eq_true (by first | (with_reducible assumption) | assumption)
                                  have q32 : t112 < (a0.size : Int) := of_decide_eq_true (by first | (with_reducible assumption) | assumption)
                                  have hx32 := bt_at a0 t112
                                  replace p32 := eq_true p32
                                  replace q32 := eq_true q32
                                  go_wp2
                                  go_meet
                                  case rel => exact ⟨_, (((bt a0 t112) == 39)), (by first | rfl | (simp; done) | (simp [*]; done)), H', ⟨by have := HJ2.out; have := HK2.out; have := HJ19.out; first | omega | exact Nat.le_refl _⟩, by repeat (first | exact Drawn0.refl _ | apply Drawn0.step)⟩
                              · rw [if_neg c29] at H
                                exact absurd H (by simp)
                            · rw [if_neg c28] at H
                              have c28b0 : decide (t112 < (a0.size : Int)) = false := decide_eq_false c28
                              clear c28
                              (first | rw [c28b0] | (simp only [i64_w, i32_w]; rw [c28b0]) | skip)
                              have H' := Aside0.mk H
                              clear H
                              go_wp2
                              go_meet
                              case rel => exact ⟨_, (false), (by first | rfl | (simp; done) | (simp [*]; done)), H', ⟨by have := HJ2.out; have := HK2.out; have := HJ19.out; first | omega | exact Nat.le_refl _⟩, by repeat (first | exact Drawn0.refl _ | apply Drawn0.step)⟩
                          case rest =>
                            clear HC27
                            try clear c1
                            try clear p1
                            try clear q1
                            try clear hx1
                            try clear c2
                            try clear p2
                            try clear q2
                            try clear hx2
                            try clear c3
                            try clear p3
                            try clear q3
                            try clear hx3
                            try clear c4
                            try clear c4b0
                            try clear c5
                            try clear c5b0
                            try clear c6
                            try clear c6b0
                            try clear p6
                            try clear c7
                            try clear c7b0
                            try clear p8
                            try clear q8
                            try clear hx8
                            try clear c9
                            try clear c10
                            try clear c13
                            try clear c13b0
                            try clear c14
                            try clear c14b0
                            try clear c15
                            try clear c15b0
                            try clear p16
                            try clear q16
                            try clear hx16
                            try clear c17
                            try clear c17b0
                            try clear c17b1
                            try clear c19
                            try clear c21
                            try clear c21b0
                            try clear c22
                            try clear c22b0
                            try clear c23
                            try clear c23b0
                            try clear p24
                            try clear q24
                            try clear hx24
                            try clear c25
                            try clear c28
                            try clear c28b0
                            try clear c29
                            try clear c29b0
                            try clear p30
                            try clear q30
                            try clear hx30
                            try clear c31
                            try clear c31b0
                            try clear c31b1
                            try clear p32
                            try clear q32
                            try clear hx32
                            try clear p1
                            try clear p16
                            try clear p2
                            try clear p24
                            try clear p30
                            try clear p32
                            try clear p8
                            try clear q1
                            try clear q16
                            try clear q2
                            try clear q24
                            try clear q30
                            try clear q32
                            try clear q8
                            obtain ⟨kq, x72_26, rfl, HA, HJ26, ⟨mc26, rfl⟩⟩ := hcut
                            cases kq with
                            | zero => exact absurd HA.out (by simp [spec_TagEnd.j3])
                            | succ kj26 =>
                              have H := HA.out
                              clear HA
                              simp only [spec_TagEnd.j3] at H
                              by_cases c33 : x72_26 = true
                              · subst c33
                                have H1 : (if 0 ≤ t112 then (if t112 < (a0.size : Int) then ((spec_l4Find.f kj26 a0 (wrap64 (t112 + 1)) (bt a0 t112)).bind fun t113 => (if t113 < 0 then (some (-1)) else (spec_TagEnd.l0 kj26 a0 (wrap64 (t113 + 1))))) else (none)) else (none)) = some r := by rw [if_pos rfl] at H; exact H
                                clear H
                                have H := H1
                                clear H1
                                by_cases c34 : 0 ≤ t112
                                · rw [if_pos c34] at H
                                  have c34b0 : decide (0 ≤ t112) = true := decide_eq_true c34
                                  clear c34
                                  by_cases c35 : t112 < (a0.size : Int)
                                  · rw [if_pos c35] at H
                                    have c35b0 : decide (t112 < (a0.size : Int)) = true := decide_eq_true c35
                                    clear c35
                                    replace H := Option.bind_eq_some_iff.mp H
                                    obtain ⟨t113, A370, H⟩ := H
                                    replace H : (if t113 < 0 then (some (-1)) else (spec_TagEnd.l0 kj26 a0 (wrap64 (t113 + 1)))) = some r := H
                                    have A37 := Aside0.mk A370
                                    clear A370
                                    by_cases c38 : t113 < 0
                                    · rw [if_pos c38] at H
                                      have c38b0 : decide (t113 < 0) = true := decide_eq_true c38
                                      clear c38
                                      obtain rfl := Option.some.inj H
                                      have p36 : 0 ≤ (t112 : Int) := of_decide_eq_true (by first | (with_reducible assumption) | assumption)
                                      have q36 : t112 < (a0.size : Int) := of_decide_eq_true (by first | (with_reducible assumption) | assumption)
                                      have hx36 := bt_at a0 t112
                                      replace p36 := eq_true p36
                                      replace q36 := eq_true q36
                                      go_wp2_with (first | ((with_reducible refine gate_callee (f := 46) rfl ?_); refine goesL_ (some 79) rfl rfl Try.func46 (by kernel_rfl) rfl #[.string a0, .int .i64 (wrap64 (t112 + 1)), .int .u8 (bt a0 t112)] rfl (by (try simp only [List.map_toArray, List.map_cons, List.map_nil]); first | done | rfl | (simp only [List.length_drop, List.length_take]; rfl)) ?_; (with_reducible refine (spec_l4Find.calls kj26 a0 (wrap64 (t112 + 1)) (bt a0 t112) t113 _ A37.out).mono ?_); rintro e w' ⟨rfl, ⟨nd, rfl⟩⟩; refine ⟨_, rfl, ?_⟩))
                                      go_ret
                                      exact ⟨by first | rfl | (simp; done) | (simp [*]; done), by repeat (first | exact Drawn0.refl _ | apply Drawn0.step)⟩
                                    · rw [if_neg c38] at H
                                      have c38b0 : decide (t113 < 0) = false := decide_eq_false c38
                                      clear c38
                                      have H' := Aside0.mk H
                                      clear H
                                      have p36 : 0 ≤ (t112 : Int) := of_decide_eq_true (by first | (with_reducible assumption) | assumption)
                                      have q36 : t112 < (a0.size : Int) := of_decide_eq_true (by first | (with_reducible assumption) | assumption)
                                      have hx36 := bt_at a0 t112
                                      replace p36 := eq_true p36
                                      replace q36 := eq_true q36
                                      go_wp2_with (first | ((with_reducible refine gate_callee (f := 46) rfl ?_); refine goesL_ (some 79) rfl rfl Try.func46 (by kernel_rfl) rfl #[.string a0, .int .i64 (wrap64 (t112 + 1)), .int .u8 (bt a0 t112)] rfl (by (try simp only [List.map_toArray, List.map_cons, List.map_nil]); first | done | rfl | (simp only [List.length_drop, List.length_take]; rfl)) ?_; (with_reducible refine (spec_l4Find.calls kj26 a0 (wrap64 (t112 + 1)) (bt a0 t112) t113 _ A37.out).mono ?_); rintro e w' ⟨rfl, ⟨nd, rfl⟩⟩; refine ⟨_, rfl, ?_⟩))
                                      go_roundg kj26
                                      case measure => have := HJ2.out; have := HK2.out; have := HJ19.out; have := HJ26.out; omega
                                      case rel => exact ⟨(wrap64 (t113 + 1)), (by first | rfl | (simp; done) | (simp [*]; done)), H', ⟨by have := HJ2.out; have := HK2.out; have := HJ19.out; have := HJ26.out; omega⟩, by repeat (first | exact Drawn0.refl _ | apply Drawn0.step)⟩
                                  · rw [if_neg c35] at H
                                    exact absurd H (by simp)
                                · rw [if_neg c34] at H
                                  exact absurd H (by simp)
                              · replace c33 := Bool.eq_false_iff.mpr c33
                                subst c33
                                have H1 : ((spec_l4Plain.f kj26 a0 t112 true).bind fun t114 => (spec_TagEnd.l0 kj26 a0 t114)) = some r := by rw [if_neg (show ¬ (false = true) by decide)] at H; exact H
                                clear H
                                have H := H1
                                clear H1
                                replace H := Option.bind_eq_some_iff.mp H
                                obtain ⟨t114, A390, H⟩ := H
                                replace H : (spec_TagEnd.l0 kj26 a0 t114) = some r := H
                                have A39 := Aside0.mk A390
                                clear A390
                                have H' := Aside0.mk H
                                clear H
                                go_wp2_with (first | ((with_reducible refine gate_callee (f := 47) rfl ?_); refine goesL_ (some 86) rfl rfl Try.func47 (by kernel_rfl) rfl #[.string a0, .int .i64 t112, .bool true] rfl (by (try simp only [List.map_toArray, List.map_cons, List.map_nil]); first | done | rfl | (simp only [List.length_drop, List.length_take]; rfl)) ?_; (with_reducible refine (spec_l4Plain.calls kj26 a0 t112 true t114 _ A39.out).mono ?_); rintro e w' ⟨rfl, ⟨nd, rfl⟩⟩; refine ⟨_, rfl, ?_⟩))
                                go_roundg kj26
                                case measure => have := HJ2.out; have := HK2.out; have := HJ19.out; have := HJ26.out; omega
                                case rel => exact ⟨(t114), (by first | rfl | (simp; done) | (simp [*]; done)), H', ⟨by have := HJ2.out; have := HK2.out; have := HJ19.out; have := HJ26.out; omega⟩, by repeat (first | exact Drawn0.refl _ | apply Drawn0.step)⟩
                · rw [if_neg c15] at H
                  exact absurd H (by simp)
              · rw [if_neg c14] at H
                exact absurd H (by simp)

end Go.Proofs.Ytlocaaebgghkbaa.A
