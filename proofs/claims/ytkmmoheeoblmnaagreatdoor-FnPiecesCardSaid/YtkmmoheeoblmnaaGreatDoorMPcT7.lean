-- joined by wip/tools/shake.py
import Derived.Test.YtkmmoheeoblmnaaGreatDoorVPcTAux
import Derived.Test.YtkmmoheeoblmnaaGreatDoorMPcT0
import Derived.Test.YtkmmoheeoblmnaaGreatDoorMPcT4
import Derived.Test.YtkmmoheeoblmnaaGreatDoorMPcT6
import Derived.Test.YtkmmoheeoblmnaaGreatDoorMPcT1
import Derived.Test.YtkmmoheeoblmnaaGreatDoorMPcT3
import Derived.Test.YtkmmoheeoblmnaaGreatDoorMPcT5
namespace Go.Proofs.YtkmmoheeoblmnaaGreatDoor.A
open Go.RowKit Go.Proofs.YtkmmoheeoblmnaaGreatDoorW.PrintWords Go.Proofs.YtkmmoheeoblmnaaGreatDoorW.PrintLast Go.Proofs.YtkmmoheeoblmnaaGreatDoorW.PrintMore
attribute [local go_sem] max2_int min2_int max_two min_two max_three min_three max_four min_four   -- for this text's walks alone
set_option linter.unusedVariables false
set_option linter.unusedSimpArgs false
def spec_TextOk.l0 : Nat → ByteArray → List Int → Int → Option (Bool)
 | 0, _, _, _ => none
 | k + 1, x0, x3, x4 => if x4 < (x3.length : Int) then (if 0 ≤ x4 then ((spec_IsText.f (rd x3 x4)).bind fun t433 => (if t433 = true then (spec_TextOk.l0 k x0 x3 (wrap64 (x4 + 1))) else (some false))) else (none)) else ((spec_CleanOk.f k x0).bind fun t434 => (some t434))
def spec_TextOk.f (k : Nat) (a0 : ByteArray) : Option (Bool) := (spec_Signs.f k a0).bind fun t429 => (spec_TextOk.l0 k a0 t429 0)
theorem spec_TextOk.mono_l : ∀ k, (∀ y0 y1 y2, LeO (spec_TextOk.l0 k y0 y1 y2) (spec_TextOk.l0 (k + 1) y0 y1 y2))
 | 0 => fun _ _ _ r h => by simp [spec_TextOk.l0] at h
 | k + 1 => by
  have ih0 := spec_TextOk.mono_l k
  ·intro y0 y1 y2
   unfold spec_TextOk.l0
   repeat' first
   | (with_reducible exact ih0 _ _ _)
   | (with_reducible exact spec_CleanOk.mono _ _)
   | (with_reducible exact spec_Signs.mono _ _)
   | (with_reducible exact LeO.refl _)
   | (with_reducible exact LeO.none _)
   | (with_reducible refine LeO.ite ?_ ?_)
   | (with_reducible refine LeO.bind ?_ (fun _ => ?_))
   | exact ih0 _ _ _
   | exact spec_CleanOk.mono _ _
   | exact spec_Signs.mono _ _
   | exact LeO.none _
   | refine LeO.ite ?_ ?_
   | refine LeO.bind ?_ (fun _ => ?_)
theorem spec_TextOk.mono : ∀ a0 k, LeO (spec_TextOk.f k a0) (spec_TextOk.f (k + 1) a0) := by
 intro a0 k
 have ih0 := spec_TextOk.mono_l k
 unfold spec_TextOk.f
 repeat' first
   | (with_reducible exact ih0 _ _ _)
   | (with_reducible exact spec_CleanOk.mono _ _)
   | (with_reducible exact spec_Signs.mono _ _)
   | (with_reducible exact LeO.refl _)
   | (with_reducible exact LeO.none _)
   | (with_reducible refine LeO.ite ?_ ?_)
   | (with_reducible refine LeO.bind ?_ (fun _ => ?_))
   | exact ih0 _ _ _
   | exact spec_CleanOk.mono _ _
   | exact spec_Signs.mono _ _
   | exact LeO.none _
   | refine LeO.ite ?_ ?_
   | refine LeO.bind ?_ (fun _ => ?_)
set_option maxHeartbeats 8000000 in
set_option maxRecDepth 100000 in
theorem spec_TextOk.calls (k : Nat) (a0 : ByteArray) (r : Bool) (w : World) (h : spec_TextOk.f k a0 = some r) :
  Calls Tryz.prog 129 #[.string a0] w fun e w' => e = .returned (.bool r) ∧ Below w.heap.size w w' := by
 have HB := As9.mk (Below.refl w.heap.size w)
 have H : ((spec_Signs.f k a0).bind fun t429 => (spec_TextOk.l0 k a0 t429 0)) = some r := h
 clear h
 replace H := Option.bind_eq_some_iff.mp H
 obtain ⟨t429, A20, H⟩ := H
 (try dsimp only at H)
 have A2 := As9.mk A20
 clear A20
 have H' := As9.mk H
 clear H
 go_enter Tryz.func129, Tryz.ntmps129
 go_wp2_with (first | ((with_reducible refine gate_callee (f := 165) rfl ?_); refine goesL_ (some 6) rfl rfl Tryz.func165 (by kernel_rfl) rfl #[.string a0] rfl (by (try simp only [List.map_toArray, List.map_cons, List.map_nil]); first | done | rfl | (simp only [List.length_drop, List.length_take]; rfl)) ?_; (with_reducible refine (spec_Signs.calls k a0 t429 _ A2.out).mono ?_); rintro e w3 ⟨v430, rfl, ho0, hb⟩; refine ⟨_, rfl, ?_⟩; have n0_ := As9.mk (Kd.R_lower ho0 (below_size (by repeat (first | (with_reducible first | exact HB.out | apply bA9 | apply bN9 | apply bD9) | exact HB.out)))); have n1_ := As9.mk (below_step (by repeat (first | (with_reducible first | exact HB.out | apply bA9 | apply bN9 | apply bD9) | exact HB.out)) hb); clear HB; have HO431 := n0_; have HB := n1_; clear n0_ n1_; (try clear hb); (try clear hb2); (try clear hk); (try clear hi); (try clear ho0)))
 go_loopg [4] k (fun kq v4 w' => ∃ (x4_1 : Int), v4 = .int .i64 x4_1 ∧ As9 (spec_TextOk.l0 kq a0 t429 x4_1 = some r) ∧ As9 (kq ≤ k) ∧ As9 (Kd.R (Kd.int .i64) 3 w' w.heap.size (fun _ => True) v430 t429) ∧ As9 (Below w.heap.size w w'))
 case atStart => exact ⟨(0), (by first | rfl | (simp; done) | (simp [*]; done)), H', ⟨Nat.le_refl _⟩, ⟨by (with_reducible repeat (first | apply Kd.R_alloc | apply Kd.R_drewN | apply Kd.R_drew)); exact HO431.out⟩, ⟨by repeat (first | (with_reducible first | exact HB.out | apply bA9 | apply bN9 | apply bD9) | exact HB.out)⟩⟩
 case round =>
  clear H'
  try clear c1
  try clear p2
  obtain ⟨x4_1, rfl, HA, HK1, HO_3, HB⟩ := hrel
  cases gk with
  | zero => exact absurd HA.out (by simp [spec_TextOk.l0])
  | succ k1 =>
   have H := HA.out
   clear HA
   simp only [spec_TextOk.l0] at H
   by_cases c4 : x4_1 < (t429.length : Int)
   ·rw [if_pos c4] at H
    have c4b0 : decide (x4_1 < (t429.length : Int)) = true := decide_eq_true c4
    clear c4
    by_cases c5 : 0 ≤ x4_1
    ·rw [if_pos c5] at H
     have c5b0 : decide (0 ≤ x4_1) = true := decide_eq_true c5
     clear c5
     replace H := Option.bind_eq_some_iff.mp H
     obtain ⟨t433, A60, H⟩ := H
     (try dsimp only at H)
     have A6 := As9.mk A60
     clear A60
     by_cases c7 : t433 = true
     ·subst c7
      rw [if_pos rfl] at H
      have H' := As9.mk H
      clear H
      obtain ⟨Ao8, co8, eo8⟩ := Kd.R_slice HO_3.out
      subst eo8
      have p432 : 0 ≤ (x4_1 : Int) := of_decide_eq_true (by first | (with_reducible assumption) | assumption)
      have q432 : x4_1 < (t429.length : Int) := of_decide_eq_true (by first | (with_reducible assumption) | assumption)
      obtain ⟨ad432, e432, hx432_0⟩ := Kd.at_int (Kd.R_reads' HO_3.out).2.2 x4_1 p432 q432
      cases e432
      replace p432 := eq_true p432
      replace q432 := eq_true q432
      go_wp2_with (first | ((with_reducible refine gate_callee (f := 75) rfl ?_); refine goesL_ (some 17) rfl rfl Tryz.func75 (by kernel_rfl) rfl #[.int .i64 (rd t429 x4_1)] rfl (by (try simp only [List.map_toArray, List.map_cons, List.map_nil]); first | done | rfl | (simp only [List.length_drop, List.length_take]; rfl)) ?_; (with_reducible refine (spec_IsText.calls (rd t429 x4_1) true _ A6.out).mono ?_); rintro e w' ⟨rfl, ⟨nd, rfl⟩⟩; refine ⟨_, rfl, ?_⟩))
      go_roundg k1
      case measure => have := HK1.out; omega
      case rel => exact ⟨(wrap64 (x4_1 + 1)), (by first | rfl | (simp; done) | (simp [*]; done)), H', ⟨by have := HK1.out; omega⟩, ⟨by (with_reducible repeat (first | apply Kd.R_alloc | apply Kd.R_drewN | apply Kd.R_drew)); exact HO_3.out⟩, ⟨by repeat (first | (with_reducible first | exact HB.out | apply bA9 | apply bN9 | apply bD9) | exact HB.out)⟩⟩
     ·replace c7 := Bool.eq_false_iff.mpr c7
      subst c7
      rw [if_neg (show ¬ (false = true) by decide)] at H
      obtain rfl := Option.some.inj H
      obtain ⟨Ao9, co9, eo9⟩ := Kd.R_slice HO_3.out
      subst eo9
      have p432 : 0 ≤ (x4_1 : Int) := of_decide_eq_true (by first | (with_reducible assumption) | assumption)
      have q432 : x4_1 < (t429.length : Int) := of_decide_eq_true (by first | (with_reducible assumption) | assumption)
      obtain ⟨ad432, e432, hx432_0⟩ := Kd.at_int (Kd.R_reads' HO_3.out).2.2 x4_1 p432 q432
      cases e432
      replace p432 := eq_true p432
      replace q432 := eq_true q432
      go_wp2_with (first | ((with_reducible refine gate_callee (f := 75) rfl ?_); refine goesL_ (some 17) rfl rfl Tryz.func75 (by kernel_rfl) rfl #[.int .i64 (rd t429 x4_1)] rfl (by (try simp only [List.map_toArray, List.map_cons, List.map_nil]); first | done | rfl | (simp only [List.length_drop, List.length_take]; rfl)) ?_; (with_reducible refine (spec_IsText.calls (rd t429 x4_1) false _ A6.out).mono ?_); rintro e w' ⟨rfl, ⟨nd, rfl⟩⟩; refine ⟨_, rfl, ?_⟩))
      go_ret
      exact ⟨by first | rfl | (simp <;> rfl) | (simp [*] <;> rfl), by repeat (first | (with_reducible first | exact HB.out | apply bA9 | apply bN9 | apply bD9) | exact HB.out)⟩
    ·rw [if_neg c5] at H
     exact absurd H (by simp)
   ·rw [if_neg c4] at H
    have c4b0 : decide (x4_1 < (t429.length : Int)) = false := decide_eq_false c4
    clear c4
    replace H := Option.bind_eq_some_iff.mp H
    obtain ⟨t434, A100, H⟩ := H
    (try dsimp only at H)
    have A10 := As9.mk A100
    clear A100
    obtain rfl := Option.some.inj H
    obtain ⟨Ao11, co11, eo11⟩ := Kd.R_slice HO_3.out
    subst eo11
    go_wp2_with (first | ((with_reducible refine gate_callee (f := 166) rfl ?_); refine goesL_ (some 20) rfl rfl Tryz.func166 (by kernel_rfl) rfl #[.string a0] rfl (by (try simp only [List.map_toArray, List.map_cons, List.map_nil]); first | done | rfl | (simp only [List.length_drop, List.length_take]; rfl)) ?_; (with_reducible refine (spec_CleanOk.calls k1 a0 t434 _ A10.out).mono ?_); rintro e w12 ⟨rfl, hb⟩; refine ⟨_, rfl, ?_⟩; have n0_ := As9.mk (Kd.R_below (by (with_reducible repeat (first | apply Kd.R_alloc | apply Kd.R_drewN | apply Kd.R_drew)); exact HO_3.out) hb); have n1_ := As9.mk (below_step (by repeat (first | (with_reducible first | exact HB.out | apply bA9 | apply bN9 | apply bD9) | exact HB.out)) hb); clear HO_3; clear HB; have HO_3 := n0_; have HB := n1_; clear n0_ n1_; (try clear hb); (try clear hb2); (try clear hk); (try clear hi)))
    go_ret
    exact ⟨by first | rfl | (simp <;> rfl) | (simp [*] <;> rfl), by repeat (first | (with_reducible first | exact HB.out | apply bA9 | apply bN9 | apply bD9) | exact HB.out)⟩
def spec_NoteOk.f (k : Nat) (a0 : ByteArray) : Option (Bool) := (spec_TextOk.f k a0).bind fun t435 => (if t435 = true then ((spec_l4Find.f k a0 0 13).bind fun t436 => (if t436 < 0 then ((spec_l5Search.f k a0 0 (⟨#[45, 45]⟩ : ByteArray)).bind fun t437 => (if t437 < 0 then (if a0.toList = ([] : List UInt8) then (some true) else (if 0 ≤ (wrap64 ((a0.size : Int) - 1)) then (if (wrap64 ((a0.size : Int) - 1)) < (a0.size : Int) then (some ((bt a0 (wrap64 ((a0.size : Int) - 1))) != 45)) else (none)) else (none))) else (some false))) else (some false))) else (some false))
theorem spec_NoteOk.mono : ∀ a0 k, LeO (spec_NoteOk.f k a0) (spec_NoteOk.f (k + 1) a0) := by
 intro a0 k
 unfold spec_NoteOk.f
 repeat' first
   | (with_reducible exact spec_TextOk.mono _ _)
   | (with_reducible exact spec_l4Find.mono _ _ _ _)
   | (with_reducible exact spec_l5Search.mono _ _ _ _)
   | (with_reducible exact LeO.refl _)
   | (with_reducible exact LeO.none _)
   | (with_reducible refine LeO.ite ?_ ?_)
   | (with_reducible refine LeO.bind ?_ (fun _ => ?_))
   | exact spec_TextOk.mono _ _
   | exact spec_l4Find.mono _ _ _ _
   | exact spec_l5Search.mono _ _ _ _
   | exact LeO.none _
   | refine LeO.ite ?_ ?_
   | refine LeO.bind ?_ (fun _ => ?_)
set_option maxHeartbeats 8000000 in
set_option maxRecDepth 100000 in
theorem spec_NoteOk.calls (k : Nat) (a0 : ByteArray) (r : Bool) (w : World) (h : spec_NoteOk.f k a0 = some r) :
  Calls Tryz.prog 81 #[.string a0] w fun e w' => e = .returned (.bool r) ∧ Below w.heap.size w w' := by
 have HB := As9.mk (Below.refl w.heap.size w)
 have H : ((spec_TextOk.f k a0).bind fun t435 => (if t435 = true then ((spec_l4Find.f k a0 0 13).bind fun t436 => (if t436 < 0 then ((spec_l5Search.f k a0 0 (⟨#[45, 45]⟩ : ByteArray)).bind fun t437 => (if t437 < 0 then (if a0.toList = ([] : List UInt8) then (some true) else (if 0 ≤ (wrap64 ((a0.size : Int) - 1)) then (if (wrap64 ((a0.size : Int) - 1)) < (a0.size : Int) then (some ((bt a0 (wrap64 ((a0.size : Int) - 1))) != 45)) else (none)) else (none))) else (some false))) else (some false))) else (some false))) = some r := h
 clear h
 replace H := Option.bind_eq_some_iff.mp H
 obtain ⟨t435, A20, H⟩ := H
 (try dsimp only at H)
 have A2 := As9.mk A20
 clear A20
 by_cases c3 : t435 = true
 ·subst c3
  rw [if_pos rfl] at H
  replace H := Option.bind_eq_some_iff.mp H
  obtain ⟨t436, A40, H⟩ := H
  (try dsimp only at H)
  have A4 := As9.mk A40
  clear A40
  by_cases c5 : t436 < 0
  ·rw [if_pos c5] at H
   have c5b0 : decide (t436 < 0) = true := decide_eq_true c5
   clear c5
   replace H := Option.bind_eq_some_iff.mp H
   obtain ⟨t437, A60, H⟩ := H
   (try dsimp only at H)
   have A6 := As9.mk A60
   clear A60
   by_cases c7 : t437 < 0
   ·rw [if_pos c7] at H
    have c7b0 : decide (t437 < 0) = true := decide_eq_true c7
    clear c7
    by_cases c8 : a0.toList = ([] : List UInt8)
    ·rw [if_pos c8] at H
     have c8b0 : (a0.toList == ([] : List UInt8)) = true := beq_iff_eq.mpr c8
     have c8b1 : (a0.toList != ([] : List UInt8)) = false := bne_eq_false_iff_eq.mpr c8
     clear c8
     obtain rfl := Option.some.inj H
     go_enter Tryz.func81, Tryz.ntmps81
     go_wp2_with (first | ((with_reducible refine gate_callee (f := 129) rfl ?_); refine goesL_ (some 4) rfl rfl Tryz.func129 (by kernel_rfl) rfl #[.string a0] rfl (by (try simp only [List.map_toArray, List.map_cons, List.map_nil]); first | done | rfl | (simp only [List.length_drop, List.length_take]; rfl)) ?_; (with_reducible refine (spec_TextOk.calls k a0 true _ A2.out).mono ?_); rintro e w9 ⟨rfl, hb⟩; refine ⟨_, rfl, ?_⟩; have n0_ := As9.mk (below_step (by repeat (first | (with_reducible first | exact HB.out | apply bA9 | apply bN9 | apply bD9) | exact HB.out)) hb); clear HB; have HB := n0_; clear n0_; (try clear hb); (try clear hb2); (try clear hk); (try clear hi)) | (go_at_call 74; (with_reducible refine (spec_l4Find.calls k a0 0 13 t436 _ A4.out).mono ?_); rintro e w' ⟨rfl, ⟨nd, rfl⟩⟩) | (go_at_call 80; (with_reducible refine (spec_l5Search.calls k a0 0 (⟨#[45, 45]⟩ : ByteArray) t437 _ A6.out).mono ?_); rintro e w' ⟨rfl, ⟨nd, rfl⟩⟩))
     go_ret
     exact ⟨by first | rfl | (simp <;> rfl) | (simp [*] <;> rfl), by repeat (first | (with_reducible first | exact HB.out | apply bA9 | apply bN9 | apply bD9) | exact HB.out)⟩
    ·rw [if_neg c8] at H
     have c8b0 : (a0.toList == ([] : List UInt8)) = false := beq_eq_false_iff_ne.mpr c8
     have c8b1 : (a0.toList != ([] : List UInt8)) = true := bne_iff_ne.mpr c8
     obtain ⟨ji10, hji10⟩ : ∃ j_ : Int, (wrap64 ((a0.size : Int) - 1)) = j_ := ⟨_, rfl⟩
     replace H : (if 0 ≤ (ji10) then (if (ji10) < (a0.size : Int) then (some ((bt a0 (ji10)) != 45)) else (none)) else (none)) = some r := by first | (rw [hji10] at H; exact H) | (simp only [hji10] at H ⊢; exact H)
     (try rw [hji10] at A2)
     (try rw [hji10] at A4)
     (try rw [hji10] at A6)
     have hji10w : (IntKind.i64.wrap ((a0.size : Int) - 1)) = ji10 := (i64_w _).trans hji10
     by_cases c11 : 0 ≤ (ji10)
     ·rw [if_pos c11] at H
      have c11b0 : decide (0 ≤ (ji10)) = true := decide_eq_true c11
      clear c11
      by_cases c12 : (ji10) < (a0.size : Int)
      ·rw [if_pos c12] at H
       have c12b0 : decide ((ji10) < (a0.size : Int)) = true := decide_eq_true c12
       clear c12
       obtain rfl := Option.some.inj H
       go_enter Tryz.func81, Tryz.ntmps81
       go_wp2_with (first | ((with_reducible refine gate_callee (f := 129) rfl ?_); refine goesL_ (some 4) rfl rfl Tryz.func129 (by kernel_rfl) rfl #[.string a0] rfl (by (try simp only [List.map_toArray, List.map_cons, List.map_nil]); first | done | rfl | (simp only [List.length_drop, List.length_take]; rfl)) ?_; (with_reducible refine (spec_TextOk.calls k a0 true _ A2.out).mono ?_); rintro e w14 ⟨rfl, hb⟩; refine ⟨_, rfl, ?_⟩; have n0_ := As9.mk (below_step (by repeat (first | (with_reducible first | exact HB.out | apply bA9 | apply bN9 | apply bD9) | exact HB.out)) hb); clear HB; have HB := n0_; clear n0_; (try clear hb); (try clear hb2); (try clear hk); (try clear hi)) | (go_at_call 74; (with_reducible refine (spec_l4Find.calls k a0 0 13 t436 _ A4.out).mono ?_); rintro e w' ⟨rfl, ⟨nd, rfl⟩⟩) | (go_at_call 80; (with_reducible refine (spec_l5Search.calls k a0 0 (⟨#[45, 45]⟩ : ByteArray) t437 _ A6.out).mono ?_); rintro e w' ⟨rfl, ⟨nd, rfl⟩⟩; have p13 : 0 ≤ ((ji10) : Int) := of_decide_eq_true (by first | (with_reducible assumption) | assumption); have q13 : (ji10) < (a0.size : Int) := of_decide_eq_true (by first | (with_reducible assumption) | assumption); have hx13 := bt_at a0 (ji10); replace p13 := eq_true p13; replace q13 := eq_true q13))
       go_ret
       exact ⟨by first | rfl | (simp [errW_none, errW_some] <;> rfl) | (simp only [← hji10]; first | rfl | (simp [errW_none, errW_some] <;> rfl)) | (simp [*, errW_none, errW_some] <;> rfl), by repeat (first | (with_reducible first | exact HB.out | apply bA9 | apply bN9 | apply bD9) | exact HB.out)⟩
      ·rw [if_neg c12] at H
       exact absurd H (by simp)
     ·rw [if_neg c11] at H
      exact absurd H (by simp)
   ·rw [if_neg c7] at H
    have c7b0 : decide (t437 < 0) = false := decide_eq_false c7
    clear c7
    obtain rfl := Option.some.inj H
    go_enter Tryz.func81, Tryz.ntmps81
    go_wp2_with (first | ((with_reducible refine gate_callee (f := 129) rfl ?_); refine goesL_ (some 4) rfl rfl Tryz.func129 (by kernel_rfl) rfl #[.string a0] rfl (by (try simp only [List.map_toArray, List.map_cons, List.map_nil]); first | done | rfl | (simp only [List.length_drop, List.length_take]; rfl)) ?_; (with_reducible refine (spec_TextOk.calls k a0 true _ A2.out).mono ?_); rintro e w15 ⟨rfl, hb⟩; refine ⟨_, rfl, ?_⟩; have n0_ := As9.mk (below_step (by repeat (first | (with_reducible first | exact HB.out | apply bA9 | apply bN9 | apply bD9) | exact HB.out)) hb); clear HB; have HB := n0_; clear n0_; (try clear hb); (try clear hb2); (try clear hk); (try clear hi)) | (go_at_call 74; (with_reducible refine (spec_l4Find.calls k a0 0 13 t436 _ A4.out).mono ?_); rintro e w' ⟨rfl, ⟨nd, rfl⟩⟩) | (go_at_call 80; (with_reducible refine (spec_l5Search.calls k a0 0 (⟨#[45, 45]⟩ : ByteArray) t437 _ A6.out).mono ?_); rintro e w' ⟨rfl, ⟨nd, rfl⟩⟩))
    go_ret
    exact ⟨by first | rfl | (simp <;> rfl) | (simp [*] <;> rfl), by repeat (first | (with_reducible first | exact HB.out | apply bA9 | apply bN9 | apply bD9) | exact HB.out)⟩
  ·rw [if_neg c5] at H
   have c5b0 : decide (t436 < 0) = false := decide_eq_false c5
   clear c5
   obtain rfl := Option.some.inj H
   go_enter Tryz.func81, Tryz.ntmps81
   go_wp2_with (first | ((with_reducible refine gate_callee (f := 129) rfl ?_); refine goesL_ (some 4) rfl rfl Tryz.func129 (by kernel_rfl) rfl #[.string a0] rfl (by (try simp only [List.map_toArray, List.map_cons, List.map_nil]); first | done | rfl | (simp only [List.length_drop, List.length_take]; rfl)) ?_; (with_reducible refine (spec_TextOk.calls k a0 true _ A2.out).mono ?_); rintro e w16 ⟨rfl, hb⟩; refine ⟨_, rfl, ?_⟩; have n0_ := As9.mk (below_step (by repeat (first | (with_reducible first | exact HB.out | apply bA9 | apply bN9 | apply bD9) | exact HB.out)) hb); clear HB; have HB := n0_; clear n0_; (try clear hb); (try clear hb2); (try clear hk); (try clear hi)) | (go_at_call 74; (with_reducible refine (spec_l4Find.calls k a0 0 13 t436 _ A4.out).mono ?_); rintro e w' ⟨rfl, ⟨nd, rfl⟩⟩))
   go_ret
   exact ⟨by first | rfl | (simp <;> rfl) | (simp [*] <;> rfl), by repeat (first | (with_reducible first | exact HB.out | apply bA9 | apply bN9 | apply bD9) | exact HB.out)⟩
 ·replace c3 := Bool.eq_false_iff.mpr c3
  subst c3
  rw [if_neg (show ¬ (false = true) by decide)] at H
  obtain rfl := Option.some.inj H
  go_enter Tryz.func81, Tryz.ntmps81
  go_wp2_with (first | ((with_reducible refine gate_callee (f := 129) rfl ?_); refine goesL_ (some 4) rfl rfl Tryz.func129 (by kernel_rfl) rfl #[.string a0] rfl (by (try simp only [List.map_toArray, List.map_cons, List.map_nil]); first | done | rfl | (simp only [List.length_drop, List.length_take]; rfl)) ?_; (with_reducible refine (spec_TextOk.calls k a0 false _ A2.out).mono ?_); rintro e w17 ⟨rfl, hb⟩; refine ⟨_, rfl, ?_⟩; have n0_ := As9.mk (below_step (by repeat (first | (with_reducible first | exact HB.out | apply bA9 | apply bN9 | apply bD9) | exact HB.out)) hb); clear HB; have HB := n0_; clear n0_; (try clear hb); (try clear hb2); (try clear hk); (try clear hi)))
  go_ret
  exact ⟨by first | rfl | (simp <;> rfl) | (simp [*] <;> rfl), by repeat (first | (with_reducible first | exact HB.out | apply bA9 | apply bN9 | apply bD9) | exact HB.out)⟩
def spec_XmlNote.j0 : Nat → ByteArray → Int → Bool → Option (ByteArray × Int)
 | 0, _, _, _ => none
 | k + 1, x0, x1, x20 => if x20 = true then (some ((⟨#[]⟩ : ByteArray), (-1))) else ((spec_l5Search.f k x0 (wrap64 (x1 + 4)) (⟨#[45, 45]⟩ : ByteArray)).bind fun t439 => (if t439 < 0 then (some ((⟨#[]⟩ : ByteArray), (-1))) else ((spec_l5Stands.f x0 t439 (⟨#[45, 45, 62]⟩ : ByteArray)).bind fun t440 => (if t440 = true then (if 0 ≤ (wrap64 (x1 + 4)) then (if (wrap64 (x1 + 4)) ≤ t439 then (if t439 ≤ (x0.size : Int) then ((spec_NoteOk.f k (x0.extract ((wrap64 (x1 + 4)) : Int).toNat (t439 : Int).toNat)).bind fun t441 => (if t441 = true then (some (x0.extract ((wrap64 (x1 + 4)) : Int).toNat (t439 : Int).toNat, wrap64 (t439 + 3))) else (some ((⟨#[]⟩ : ByteArray), (-1))))) else (none)) else (none)) else (none)) else (some ((⟨#[]⟩ : ByteArray), (-1)))))))
def spec_XmlNote.f (k : Nat) (a0 : ByteArray) (a1 : Int) : Option (ByteArray × Int) := if a1 < 0 then (spec_XmlNote.j0 k a0 a1 true) else (if a1 ≥ (a0.size : Int) then (spec_XmlNote.j0 k a0 a1 true) else ((spec_l5Stands.f a0 a1 (⟨#[60, 33, 45, 45]⟩ : ByteArray)).bind fun t438 => (spec_XmlNote.j0 k a0 a1 (!t438))))
theorem spec_XmlNote.mono_l : ∀ k, (∀ y0 y1 y2, LeO (spec_XmlNote.j0 k y0 y1 y2) (spec_XmlNote.j0 (k + 1) y0 y1 y2))
 | 0 => fun _ _ _ r h => by simp [spec_XmlNote.j0] at h
 | k + 1 => by
  have ih0 := spec_XmlNote.mono_l k
  ·intro y0 y1 y2
   unfold spec_XmlNote.j0
   repeat' first
   | (with_reducible exact ih0 _ _ _)
   | (with_reducible exact spec_NoteOk.mono _ _)
   | (with_reducible exact spec_l5Search.mono _ _ _ _)
   | (with_reducible exact LeO.refl _)
   | (with_reducible exact LeO.none _)
   | (with_reducible refine LeO.ite ?_ ?_)
   | (with_reducible refine LeO.bind ?_ (fun _ => ?_))
   | exact ih0 _ _ _
   | exact spec_NoteOk.mono _ _
   | exact spec_l5Search.mono _ _ _ _
   | exact LeO.none _
   | refine LeO.ite ?_ ?_
   | refine LeO.bind ?_ (fun _ => ?_)
theorem spec_XmlNote.mono : ∀ a0 a1 k, LeO (spec_XmlNote.f k a0 a1) (spec_XmlNote.f (k + 1) a0 a1) := by
 intro a0 a1 k
 have ih0 := spec_XmlNote.mono_l k
 unfold spec_XmlNote.f
 repeat' first
   | (with_reducible exact ih0 _ _ _)
   | (with_reducible exact spec_NoteOk.mono _ _)
   | (with_reducible exact spec_l5Search.mono _ _ _ _)
   | (with_reducible exact LeO.refl _)
   | (with_reducible exact LeO.none _)
   | (with_reducible refine LeO.ite ?_ ?_)
   | (with_reducible refine LeO.bind ?_ (fun _ => ?_))
   | exact ih0 _ _ _
   | exact spec_NoteOk.mono _ _
   | exact spec_l5Search.mono _ _ _ _
   | exact LeO.none _
   | refine LeO.ite ?_ ?_
   | refine LeO.bind ?_ (fun _ => ?_)
set_option maxHeartbeats 8000000 in
set_option maxRecDepth 100000 in
theorem spec_XmlNote.calls (k : Nat) (a0 : ByteArray) (a1 : Int) (r1 : ByteArray) (r2 : Int) (w : World) (h : spec_XmlNote.f k a0 a1 = some (r1, r2)) :
  Calls Tryz.prog 29 #[.string a0, .int .i64 a1] w fun e w' => e = .returned (.tuple #[.string r1, .int .i64 r2]) ∧ Below w.heap.size w w' := by
 have HB := As9.mk (Below.refl w.heap.size w)
 have H : (if a1 < 0 then (spec_XmlNote.j0 k a0 a1 true) else (if a1 ≥ (a0.size : Int) then (spec_XmlNote.j0 k a0 a1 true) else ((spec_l5Stands.f a0 a1 (⟨#[60, 33, 45, 45]⟩ : ByteArray)).bind fun t438 => (spec_XmlNote.j0 k a0 a1 (!t438))))) = some (r1, r2) := h
 clear h
 have HC3 := As9.mk H
 clear H
 go_enter Tryz.func29, Tryz.ntmps29
 go_upto_region 1 with (fail)
 go_cut [20] (fun v20 wc => ∃ (kq : Nat) (x20_2 : Bool), v20 = .bool x20_2 ∧ As9 (spec_XmlNote.j0 kq a0 a1 x20_2 = some (r1, r2)) ∧ As9 (kq ≤ k) ∧ As9 (Below w.heap.size w wc))
 case first =>
  have H := HC3.out
  clear HC3
  by_cases c4 : a1 < 0
  ·rw [if_pos c4] at H
   have c4b0 : decide (a1 < 0) = true := decide_eq_true c4
   clear c4
   (first | rw [c4b0] | (simp only [i64_w, i32_w]; rw [c4b0]) | skip)
   have H' := As9.mk H
   clear H
   go_wp2
   go_meet
   case rel => exact ⟨_, (true), (by first | rfl | (simp; done) | (simp [*]; done)), H', ⟨by first | omega | exact Nat.le_refl _⟩, ⟨by repeat (first | (with_reducible first | exact HB.out | apply bA9 | apply bN9 | apply bD9) | exact HB.out)⟩⟩
  ·rw [if_neg c4] at H
   have c4b0 : decide (a1 < 0) = false := decide_eq_false c4
   clear c4
   (first | rw [c4b0] | (simp only [i64_w, i32_w]; rw [c4b0]) | skip)
   by_cases c5 : a1 ≥ (a0.size : Int)
   ·rw [if_pos c5] at H
    have c5b0 : decide ((a0.size : Int) ≤ a1) = true := decide_eq_true c5
    clear c5
    have H' := As9.mk H
    clear H
    go_wp2
    go_meet
    case rel => exact ⟨_, (true), (by first | rfl | (simp; done) | (simp [*]; done)), H', ⟨by first | omega | exact Nat.le_refl _⟩, ⟨by repeat (first | (with_reducible first | exact HB.out | apply bA9 | apply bN9 | apply bD9) | exact HB.out)⟩⟩
   ·rw [if_neg c5] at H
    have c5b0 : decide ((a0.size : Int) ≤ a1) = false := decide_eq_false c5
    clear c5
    replace H := Option.bind_eq_some_iff.mp H
    obtain ⟨t438, A60, H⟩ := H
    (try dsimp only at H)
    have A6 := As9.mk A60
    clear A60
    have H' := As9.mk H
    clear H
    go_wp2_with (first | (go_at_call 69; (with_reducible refine (spec_l5Stands.calls a0 a1 (⟨#[60, 33, 45, 45]⟩ : ByteArray) t438 _ A6.out).mono ?_); rintro e w' ⟨rfl, ⟨nd, rfl⟩⟩))
    go_meet
    case rel => exact ⟨_, (!t438), (by first | rfl | (simp; done) | (simp [*]; done)), H', ⟨by first | omega | exact Nat.le_refl _⟩, ⟨by repeat (first | (with_reducible first | exact HB.out | apply bA9 | apply bN9 | apply bD9) | exact HB.out)⟩⟩
 case rest =>
  clear HC3
  try clear c2
  try clear p2
  try clear c4
  try clear c4b0
  try clear c5
  try clear c5b0
  obtain ⟨kq, x20_2, rfl, HA, HJ2, HB⟩ := hcut
  cases kq with
  | zero => exact absurd HA.out (by simp [spec_XmlNote.j0])
  | succ kj2 =>
   have H := HA.out
   clear HA
   simp only [spec_XmlNote.j0] at H
   by_cases c7 : x20_2 = true
   ·subst c7
    rw [if_pos rfl] at H
    simp only [Option.some.injEq, Prod.mk.injEq] at H
    obtain ⟨rfl, rfl⟩ := H
    go_wp2
    go_ret2
    exact ⟨by first | rfl | (simp <;> rfl) | (simp [*] <;> rfl), by repeat (first | (with_reducible first | exact HB.out | apply bA9 | apply bN9 | apply bD9) | exact HB.out)⟩
   ·replace c7 := Bool.eq_false_iff.mpr c7
    subst c7
    rw [if_neg (show ¬ (false = true) by decide)] at H
    replace H := Option.bind_eq_some_iff.mp H
    obtain ⟨t439, A80, H⟩ := H
    (try dsimp only at H)
    have A8 := As9.mk A80
    clear A80
    by_cases c9 : t439 < 0
    ·rw [if_pos c9] at H
     have c9b0 : decide (t439 < 0) = true := decide_eq_true c9
     clear c9
     simp only [Option.some.injEq, Prod.mk.injEq] at H
     obtain ⟨rfl, rfl⟩ := H
     go_wp2_with (first | ((with_reducible refine gate_callee (f := 80) rfl ?_); refine goesL_ (some 24) rfl rfl Tryz.func80 (by kernel_rfl) rfl #[.string a0, .int .i64 (wrap64 (a1 + 4)), .string (⟨#[45, 45]⟩ : ByteArray)] rfl (by (try simp only [List.map_toArray, List.map_cons, List.map_nil]); first | done | rfl | (simp only [List.length_drop, List.length_take]; rfl)) ?_; (with_reducible refine (spec_l5Search.calls kj2 a0 (wrap64 (a1 + 4)) (⟨#[45, 45]⟩ : ByteArray) t439 _ A8.out).mono ?_); rintro e w' ⟨rfl, ⟨nd, rfl⟩⟩; refine ⟨_, rfl, ?_⟩))
     go_ret2
     exact ⟨by first | rfl | (simp <;> rfl) | (simp [*] <;> rfl), by repeat (first | (with_reducible first | exact HB.out | apply bA9 | apply bN9 | apply bD9) | exact HB.out)⟩
    ·rw [if_neg c9] at H
     have c9b0 : decide (t439 < 0) = false := decide_eq_false c9
     clear c9
     replace H := Option.bind_eq_some_iff.mp H
     obtain ⟨t440, A100, H⟩ := H
     (try dsimp only at H)
     have A10 := As9.mk A100
     clear A100
     by_cases c11 : t440 = true
     ·subst c11
      rw [if_pos rfl] at H
      obtain ⟨ji12, hji12⟩ : ∃ j_ : Int, (wrap64 (a1 + 4)) = j_ := ⟨_, rfl⟩
      replace H : (if 0 ≤ (ji12) then (if (ji12) ≤ t439 then (if t439 ≤ (a0.size : Int) then ((spec_NoteOk.f kj2 (a0.extract ((ji12) : Int).toNat (t439 : Int).toNat)).bind fun t441 => (if t441 = true then (some (a0.extract ((ji12) : Int).toNat (t439 : Int).toNat, wrap64 (t439 + 3))) else (some ((⟨#[]⟩ : ByteArray), (-1))))) else (none)) else (none)) else (none)) = some (r1, r2) := by first | (rw [hji12] at H; exact H) | (simp only [hji12] at H ⊢; exact H)
      (try rw [hji12] at A8)
      (try rw [hji12] at A10)
      have hji12w : (IntKind.i64.wrap (a1 + 4)) = ji12 := (i64_w _).trans hji12
      by_cases c13 : 0 ≤ (ji12)
      ·rw [if_pos c13] at H
       have c13b0 := eq_true c13
       have c13b1 : decide (0 ≤ (ji12)) = true := decide_eq_true c13
       clear c13
       by_cases c14 : (ji12) ≤ t439
       ·rw [if_pos c14] at H
        have c14b0 := eq_true c14
        have c14b1 : decide ((ji12) ≤ t439) = true := decide_eq_true c14
        clear c14
        by_cases c15 : t439 ≤ (a0.size : Int)
        ·rw [if_pos c15] at H
         have c15b0 := eq_true c15
         have c15b1 : decide (t439 ≤ (a0.size : Int)) = true := decide_eq_true c15
         clear c15
         replace H := Option.bind_eq_some_iff.mp H
         obtain ⟨t441, A160, H⟩ := H
         (try dsimp only at H)
         have A16 := As9.mk A160
         clear A160
         by_cases c17 : t441 = true
         ·subst c17
          rw [if_pos rfl] at H
          have c18b0 := eq_true (of_decide_eq_true (by first | (with_reducible assumption) | assumption) : 0 ≤ (ji12))
          have c19b0 := eq_true (of_decide_eq_true (by first | (with_reducible assumption) | assumption) : (ji12) ≤ t439)
          have c20b0 := eq_true (of_decide_eq_true (by first | (with_reducible assumption) | assumption) : t439 ≤ (a0.size : Int))
          simp only [Option.some.injEq, Prod.mk.injEq] at H
          obtain ⟨rfl, rfl⟩ := H
          go_wp2_with (first | ((with_reducible refine gate_callee (f := 80) rfl ?_); refine goesL_ (some 24) rfl rfl Tryz.func80 (by kernel_rfl) rfl #[.string a0, .int .i64 ji12, .string (⟨#[45, 45]⟩ : ByteArray)] rfl (by (try simp only [List.map_toArray, List.map_cons, List.map_nil]); first | done | (simp only [hji12]; rfl) | rfl | (simp only [List.length_drop, List.length_take]; rfl)) ?_; (with_reducible refine (spec_l5Search.calls kj2 a0 ji12 (⟨#[45, 45]⟩ : ByteArray) t439 _ A8.out).mono ?_); rintro e w' ⟨rfl, ⟨nd, rfl⟩⟩; refine ⟨_, rfl, ?_⟩) | (go_at_call 69; (with_reducible refine (spec_l5Stands.calls a0 t439 (⟨#[45, 45, 62]⟩ : ByteArray) true _ A10.out).mono ?_); rintro e w' ⟨rfl, ⟨nd, rfl⟩⟩) | (go_at_call 81; (with_reducible refine (spec_NoteOk.calls kj2 (a0.extract ((ji12) : Int).toNat (t439 : Int).toNat) true _ A16.out).mono ?_); rintro e w21 ⟨rfl, hb⟩; have n0_ := As9.mk (below_step (by repeat (first | (with_reducible first | exact HB.out | apply bA9 | apply bN9 | apply bD9) | exact HB.out)) hb); clear HB; have HB := n0_; clear n0_; (try clear hb); (try clear hb2); (try clear hk); (try clear hi)))
          go_ret2
          exact ⟨by first | rfl | (simp [errW_none, errW_some] <;> rfl) | (simp only [← hji12]; first | rfl | (simp [errW_none, errW_some] <;> rfl)) | (simp [*, errW_none, errW_some] <;> rfl), by repeat (first | (with_reducible first | exact HB.out | apply bA9 | apply bN9 | apply bD9) | exact HB.out)⟩
         ·replace c17 := Bool.eq_false_iff.mpr c17
          subst c17
          rw [if_neg (show ¬ (false = true) by decide)] at H
          simp only [Option.some.injEq, Prod.mk.injEq] at H
          obtain ⟨rfl, rfl⟩ := H
          go_wp2_with (first | ((with_reducible refine gate_callee (f := 80) rfl ?_); refine goesL_ (some 24) rfl rfl Tryz.func80 (by kernel_rfl) rfl #[.string a0, .int .i64 ji12, .string (⟨#[45, 45]⟩ : ByteArray)] rfl (by (try simp only [List.map_toArray, List.map_cons, List.map_nil]); first | done | (simp only [hji12]; rfl) | rfl | (simp only [List.length_drop, List.length_take]; rfl)) ?_; (with_reducible refine (spec_l5Search.calls kj2 a0 ji12 (⟨#[45, 45]⟩ : ByteArray) t439 _ A8.out).mono ?_); rintro e w' ⟨rfl, ⟨nd, rfl⟩⟩; refine ⟨_, rfl, ?_⟩) | (go_at_call 69; (with_reducible refine (spec_l5Stands.calls a0 t439 (⟨#[45, 45, 62]⟩ : ByteArray) true _ A10.out).mono ?_); rintro e w' ⟨rfl, ⟨nd, rfl⟩⟩) | (go_at_call 81; (with_reducible refine (spec_NoteOk.calls kj2 (a0.extract ((ji12) : Int).toNat (t439 : Int).toNat) false _ A16.out).mono ?_); rintro e w22 ⟨rfl, hb⟩; have n0_ := As9.mk (below_step (by repeat (first | (with_reducible first | exact HB.out | apply bA9 | apply bN9 | apply bD9) | exact HB.out)) hb); clear HB; have HB := n0_; clear n0_; (try clear hb); (try clear hb2); (try clear hk); (try clear hi)))
          go_ret2
          exact ⟨by first | rfl | (simp [errW_none, errW_some] <;> rfl) | (simp only [← hji12]; first | rfl | (simp [errW_none, errW_some] <;> rfl)) | (simp [*, errW_none, errW_some] <;> rfl), by repeat (first | (with_reducible first | exact HB.out | apply bA9 | apply bN9 | apply bD9) | exact HB.out)⟩
        ·rw [if_neg c15] at H
         exact absurd H (by simp)
       ·rw [if_neg c14] at H
        exact absurd H (by simp)
      ·rw [if_neg c13] at H
       exact absurd H (by simp)
     ·replace c11 := Bool.eq_false_iff.mpr c11
      subst c11
      rw [if_neg (show ¬ (false = true) by decide)] at H
      simp only [Option.some.injEq, Prod.mk.injEq] at H
      obtain ⟨rfl, rfl⟩ := H
      go_wp2_with (first | ((with_reducible refine gate_callee (f := 80) rfl ?_); refine goesL_ (some 24) rfl rfl Tryz.func80 (by kernel_rfl) rfl #[.string a0, .int .i64 (wrap64 (a1 + 4)), .string (⟨#[45, 45]⟩ : ByteArray)] rfl (by (try simp only [List.map_toArray, List.map_cons, List.map_nil]); first | done | rfl | (simp only [List.length_drop, List.length_take]; rfl)) ?_; (with_reducible refine (spec_l5Search.calls kj2 a0 (wrap64 (a1 + 4)) (⟨#[45, 45]⟩ : ByteArray) t439 _ A8.out).mono ?_); rintro e w' ⟨rfl, ⟨nd, rfl⟩⟩; refine ⟨_, rfl, ?_⟩) | (go_at_call 69; (with_reducible refine (spec_l5Stands.calls a0 t439 (⟨#[45, 45, 62]⟩ : ByteArray) false _ A10.out).mono ?_); rintro e w' ⟨rfl, ⟨nd, rfl⟩⟩))
      go_ret2
      exact ⟨by first | rfl | (simp <;> rfl) | (simp [*] <;> rfl), by repeat (first | (with_reducible first | exact HB.out | apply bA9 | apply bN9 | apply bD9) | exact HB.out)⟩
attribute [local go_sem high] eqA36
mutual
def laws_FnPieces.j0 : Nat → List Int → ByteArray → ByteArray → Bool → Option (Bool)
 | 0, _, _, _, _ => none
 | k + 1, x0, x3, x5, x65 => if x65 = true then (some false) else ((spec_DrawXmlName.f k x0).bind fun bt450 => ((impl_XmlName.f k bt450.1 bt450.2).bind fun bt452 => ((spec_XmlName.f k bt450.1 bt450.2).bind fun bt454 => ((spec_DrawXmlRef.f k x0).bind fun bt456 => ((impl_XmlRef.f k bt456.1 bt456.2).bind fun bt458 => ((spec_XmlRef.f k bt456.1 bt456.2).bind fun bt460 => ((spec_DrawXmlText.f k x0).bind fun bt462 => ((impl_XmlText.f k bt462.1 bt462.2.1 bt462.2.2).bind fun bt465 => ((spec_XmlText.f k bt462.1 bt462.2.1 bt462.2.2).bind fun bt467 => (if bt452.1.toList = bt454.1.toList then (if bt452.2 = bt454.2 then (if bt458.1.toList = bt460.1.toList then (if bt458.2 = bt460.2 then (if bt465.1.toList = bt467.1.toList then (laws_FnPieces.j1 k x0 x3 x5 (bt465.2 != bt467.2)) else (laws_FnPieces.j1 k x0 x3 x5 true)) else (laws_FnPieces.j1 k x0 x3 x5 true)) else (laws_FnPieces.j1 k x0 x3 x5 true)) else (laws_FnPieces.j1 k x0 x3 x5 true)) else (laws_FnPieces.j1 k x0 x3 x5 true)))))))))))
def laws_FnPieces.j1 : Nat → List Int → ByteArray → ByteArray → Bool → Option (Bool)
 | 0, _, _, _, _ => none
 | k + 1, x0, x3, x5, x147 => if x147 = true then (some false) else ((spec_DrawXmlAttr.f k x0).bind fun bt469 => ((impl_XmlAttr.f k bt469.1 bt469.2).bind fun bt471 => ((spec_XmlAttr.f k bt469.1 bt469.2).bind fun bt475 => ((spec_DrawXmlNote.f k x0).bind fun bt479 => ((impl_XmlNote.f k bt479.1 bt479.2).bind fun bt481 => ((spec_XmlNote.f k bt479.1 bt479.2).bind fun bt483 => (if (!(bt471.1.toList == bt475.1.toList) || (!(bt471.2.1.toList == bt475.2.1.toList))) = true then (laws_FnPieces.j2 k x3 x5 true) else (if bt471.2.2 = bt475.2.2 then (if bt481.1.toList = bt483.1.toList then (laws_FnPieces.j2 k x3 x5 (bt481.2 != bt483.2)) else (laws_FnPieces.j2 k x3 x5 true)) else (laws_FnPieces.j2 k x3 x5 true)))))))))
def laws_FnPieces.j2 : Nat → ByteArray → ByteArray → Bool → Option (Bool)
 | 0, _, _, _ => none
 | k + 1, x3, x5, x199 => if x199 = true then (some false) else ((impl_TextOk.f k x3).bind fun t485 => (if t485 = true then (if x5.size + 1 ≤ 9223372036854775807 then ((impl_XmlText.f k (x5 ++ (⟨#[60]⟩ : ByteArray)) 0 (⟨#[60]⟩ : ByteArray)).bind fun bt486 => (if bt486.1.toList = x3.toList then (laws_FnPieces.j3 k x3 (bt486.2 != (x5.size : Int))) else (laws_FnPieces.j3 k x3 true))) else (none)) else (some true)))
def laws_FnPieces.j3 : Nat → ByteArray → Bool → Option (Bool)
 | 0, _, _ => none
 | k + 1, x3, x217 => if x217 = true then (some false) else ((impl_Escape.f x3 true).bind fun t488 => (if 3 + t488.size ≤ 9223372036854775807 then (if ((⟨#[107, 61, 34]⟩ : ByteArray) ++ t488).size + 2 ≤ 9223372036854775807 then ((impl_XmlAttr.f k (((⟨#[107, 61, 34]⟩ : ByteArray) ++ t488) ++ (⟨#[34, 32]⟩ : ByteArray)) 0).bind fun bt489 => (if bt489.2.1.toList = x3.toList then ((impl_Escape.f x3 true).bind fun t493 => (some (bt489.2.2 == (wrap64 ((t493.size : Int) + 4))))) else (some false))) else (none)) else (none)))
end
def laws_FnPieces.f (k : Nat) (l0 : List Int) : Option (Bool) := (laws_big.f l0).bind fun t442 => (if t442 = true then (some true) else ((spec_DrawEscape.f k l0).bind fun bt443 => ((impl_Escape.f bt443.1 bt443.2).bind fun t445 => ((spec_DrawSpaceName.f k l0).bind fun t446 => ((spec_Escape.f k bt443.1 bt443.2).bind fun t447 => (if t445.toList = t447.toList then ((impl_SpaceName.f t446).bind fun t448 => ((spec_SpaceName.f t446).bind fun t449 => (laws_FnPieces.j0 k l0 bt443.1 t445 (t448.toList != t449.toList)))) else (laws_FnPieces.j0 k l0 bt443.1 t445 true)))))))
theorem laws_FnPieces.mono_l : ∀ k, (∀ y0 y1 y2 y3, LeO (laws_FnPieces.j0 k y0 y1 y2 y3) (laws_FnPieces.j0 (k + 1) y0 y1 y2 y3)) ∧ (∀ y0 y1 y2 y3, LeO (laws_FnPieces.j1 k y0 y1 y2 y3) (laws_FnPieces.j1 (k + 1) y0 y1 y2 y3)) ∧ (∀ y0 y1 y2, LeO (laws_FnPieces.j2 k y0 y1 y2) (laws_FnPieces.j2 (k + 1) y0 y1 y2)) ∧ (∀ y0 y1, LeO (laws_FnPieces.j3 k y0 y1) (laws_FnPieces.j3 (k + 1) y0 y1))
 | 0 => ⟨fun _ _ _ _ r h => by simp [laws_FnPieces.j0] at h, fun _ _ _ _ r h => by simp [laws_FnPieces.j1] at h, fun _ _ _ r h => by simp [laws_FnPieces.j2] at h, fun _ _ r h => by simp [laws_FnPieces.j3] at h⟩
 | k + 1 => by
  obtain ⟨ih0, ih1, ih2, ih3⟩ := laws_FnPieces.mono_l k
  refine ⟨?_, ?_, ?_, ?_⟩
  ·intro y0 y1 y2 y3
   unfold laws_FnPieces.j0
   repeat' first
   | (with_reducible exact ih0 _ _ _ _)
   | (with_reducible exact ih1 _ _ _ _)
   | (with_reducible exact ih2 _ _ _)
   | (with_reducible exact ih3 _ _)
   | (with_reducible exact impl_TextOk.mono _ _)
   | (with_reducible exact impl_XmlAttr.mono _ _ _)
   | (with_reducible exact impl_XmlName.mono _ _ _)
   | (with_reducible exact impl_XmlNote.mono _ _ _)
   | (with_reducible exact impl_XmlRef.mono _ _ _)
   | (with_reducible exact impl_XmlText.mono _ _ _ _)
   | (with_reducible exact spec_DrawEscape.mono _ _)
   | (with_reducible exact spec_DrawSpaceName.mono _ _)
   | (with_reducible exact spec_DrawXmlAttr.mono _ _)
   | (with_reducible exact spec_DrawXmlName.mono _ _)
   | (with_reducible exact spec_DrawXmlNote.mono _ _)
   | (with_reducible exact spec_DrawXmlRef.mono _ _)
   | (with_reducible exact spec_DrawXmlText.mono _ _)
   | (with_reducible exact spec_Escape.mono _ _ _)
   | (with_reducible exact spec_XmlAttr.mono _ _ _)
   | (with_reducible exact spec_XmlName.mono _ _ _)
   | (with_reducible exact spec_XmlNote.mono _ _ _)
   | (with_reducible exact spec_XmlRef.mono _ _ _)
   | (with_reducible exact spec_XmlText.mono _ _ _ _)
   | (with_reducible exact LeO.refl _)
   | (with_reducible exact LeO.none _)
   | (with_reducible refine LeO.ite ?_ ?_)
   | (with_reducible refine LeO.bind ?_ (fun _ => ?_))
   | exact ih0 _ _ _ _
   | exact ih1 _ _ _ _
   | exact ih2 _ _ _
   | exact ih3 _ _
   | exact impl_TextOk.mono _ _
   | exact impl_XmlAttr.mono _ _ _
   | exact impl_XmlName.mono _ _ _
   | exact impl_XmlNote.mono _ _ _
   | exact impl_XmlRef.mono _ _ _
   | exact impl_XmlText.mono _ _ _ _
   | exact spec_DrawEscape.mono _ _
   | exact spec_DrawSpaceName.mono _ _
   | exact spec_DrawXmlAttr.mono _ _
   | exact spec_DrawXmlName.mono _ _
   | exact spec_DrawXmlNote.mono _ _
   | exact spec_DrawXmlRef.mono _ _
   | exact spec_DrawXmlText.mono _ _
   | exact spec_Escape.mono _ _ _
   | exact spec_XmlAttr.mono _ _ _
   | exact spec_XmlName.mono _ _ _
   | exact spec_XmlNote.mono _ _ _
   | exact spec_XmlRef.mono _ _ _
   | exact spec_XmlText.mono _ _ _ _
   | exact LeO.none _
   | refine LeO.ite ?_ ?_
   | refine LeO.bind ?_ (fun _ => ?_)
  ·intro y0 y1 y2 y3
   unfold laws_FnPieces.j1
   repeat' first
   | (with_reducible exact ih0 _ _ _ _)
   | (with_reducible exact ih1 _ _ _ _)
   | (with_reducible exact ih2 _ _ _)
   | (with_reducible exact ih3 _ _)
   | (with_reducible exact impl_TextOk.mono _ _)
   | (with_reducible exact impl_XmlAttr.mono _ _ _)
   | (with_reducible exact impl_XmlName.mono _ _ _)
   | (with_reducible exact impl_XmlNote.mono _ _ _)
   | (with_reducible exact impl_XmlRef.mono _ _ _)
   | (with_reducible exact impl_XmlText.mono _ _ _ _)
   | (with_reducible exact spec_DrawEscape.mono _ _)
   | (with_reducible exact spec_DrawSpaceName.mono _ _)
   | (with_reducible exact spec_DrawXmlAttr.mono _ _)
   | (with_reducible exact spec_DrawXmlName.mono _ _)
   | (with_reducible exact spec_DrawXmlNote.mono _ _)
   | (with_reducible exact spec_DrawXmlRef.mono _ _)
   | (with_reducible exact spec_DrawXmlText.mono _ _)
   | (with_reducible exact spec_Escape.mono _ _ _)
   | (with_reducible exact spec_XmlAttr.mono _ _ _)
   | (with_reducible exact spec_XmlName.mono _ _ _)
   | (with_reducible exact spec_XmlNote.mono _ _ _)
   | (with_reducible exact spec_XmlRef.mono _ _ _)
   | (with_reducible exact spec_XmlText.mono _ _ _ _)
   | (with_reducible exact LeO.refl _)
   | (with_reducible exact LeO.none _)
   | (with_reducible refine LeO.ite ?_ ?_)
   | (with_reducible refine LeO.bind ?_ (fun _ => ?_))
   | exact ih0 _ _ _ _
   | exact ih1 _ _ _ _
   | exact ih2 _ _ _
   | exact ih3 _ _
   | exact impl_TextOk.mono _ _
   | exact impl_XmlAttr.mono _ _ _
   | exact impl_XmlName.mono _ _ _
   | exact impl_XmlNote.mono _ _ _
   | exact impl_XmlRef.mono _ _ _
   | exact impl_XmlText.mono _ _ _ _
   | exact spec_DrawEscape.mono _ _
   | exact spec_DrawSpaceName.mono _ _
   | exact spec_DrawXmlAttr.mono _ _
   | exact spec_DrawXmlName.mono _ _
   | exact spec_DrawXmlNote.mono _ _
   | exact spec_DrawXmlRef.mono _ _
   | exact spec_DrawXmlText.mono _ _
   | exact spec_Escape.mono _ _ _
   | exact spec_XmlAttr.mono _ _ _
   | exact spec_XmlName.mono _ _ _
   | exact spec_XmlNote.mono _ _ _
   | exact spec_XmlRef.mono _ _ _
   | exact spec_XmlText.mono _ _ _ _
   | exact LeO.none _
   | refine LeO.ite ?_ ?_
   | refine LeO.bind ?_ (fun _ => ?_)
  ·intro y0 y1 y2
   unfold laws_FnPieces.j2
   repeat' first
   | (with_reducible exact ih0 _ _ _ _)
   | (with_reducible exact ih1 _ _ _ _)
   | (with_reducible exact ih2 _ _ _)
   | (with_reducible exact ih3 _ _)
   | (with_reducible exact impl_TextOk.mono _ _)
   | (with_reducible exact impl_XmlAttr.mono _ _ _)
   | (with_reducible exact impl_XmlName.mono _ _ _)
   | (with_reducible exact impl_XmlNote.mono _ _ _)
   | (with_reducible exact impl_XmlRef.mono _ _ _)
   | (with_reducible exact impl_XmlText.mono _ _ _ _)
   | (with_reducible exact spec_DrawEscape.mono _ _)
   | (with_reducible exact spec_DrawSpaceName.mono _ _)
   | (with_reducible exact spec_DrawXmlAttr.mono _ _)
   | (with_reducible exact spec_DrawXmlName.mono _ _)
   | (with_reducible exact spec_DrawXmlNote.mono _ _)
   | (with_reducible exact spec_DrawXmlRef.mono _ _)
   | (with_reducible exact spec_DrawXmlText.mono _ _)
   | (with_reducible exact spec_Escape.mono _ _ _)
   | (with_reducible exact spec_XmlAttr.mono _ _ _)
   | (with_reducible exact spec_XmlName.mono _ _ _)
   | (with_reducible exact spec_XmlNote.mono _ _ _)
   | (with_reducible exact spec_XmlRef.mono _ _ _)
   | (with_reducible exact spec_XmlText.mono _ _ _ _)
   | (with_reducible exact LeO.refl _)
   | (with_reducible exact LeO.none _)
   | (with_reducible refine LeO.ite ?_ ?_)
   | (with_reducible refine LeO.bind ?_ (fun _ => ?_))
   | exact ih0 _ _ _ _
   | exact ih1 _ _ _ _
   | exact ih2 _ _ _
   | exact ih3 _ _
   | exact impl_TextOk.mono _ _
   | exact impl_XmlAttr.mono _ _ _
   | exact impl_XmlName.mono _ _ _
   | exact impl_XmlNote.mono _ _ _
   | exact impl_XmlRef.mono _ _ _
   | exact impl_XmlText.mono _ _ _ _
   | exact spec_DrawEscape.mono _ _
   | exact spec_DrawSpaceName.mono _ _
   | exact spec_DrawXmlAttr.mono _ _
   | exact spec_DrawXmlName.mono _ _
   | exact spec_DrawXmlNote.mono _ _
   | exact spec_DrawXmlRef.mono _ _
   | exact spec_DrawXmlText.mono _ _
   | exact spec_Escape.mono _ _ _
   | exact spec_XmlAttr.mono _ _ _
   | exact spec_XmlName.mono _ _ _
   | exact spec_XmlNote.mono _ _ _
   | exact spec_XmlRef.mono _ _ _
   | exact spec_XmlText.mono _ _ _ _
   | exact LeO.none _
   | refine LeO.ite ?_ ?_
   | refine LeO.bind ?_ (fun _ => ?_)
  ·intro y0 y1
   unfold laws_FnPieces.j3
   repeat' first
   | (with_reducible exact ih0 _ _ _ _)
   | (with_reducible exact ih1 _ _ _ _)
   | (with_reducible exact ih2 _ _ _)
   | (with_reducible exact ih3 _ _)
   | (with_reducible exact impl_TextOk.mono _ _)
   | (with_reducible exact impl_XmlAttr.mono _ _ _)
   | (with_reducible exact impl_XmlName.mono _ _ _)
   | (with_reducible exact impl_XmlNote.mono _ _ _)
   | (with_reducible exact impl_XmlRef.mono _ _ _)
   | (with_reducible exact impl_XmlText.mono _ _ _ _)
   | (with_reducible exact spec_DrawEscape.mono _ _)
   | (with_reducible exact spec_DrawSpaceName.mono _ _)
   | (with_reducible exact spec_DrawXmlAttr.mono _ _)
   | (with_reducible exact spec_DrawXmlName.mono _ _)
   | (with_reducible exact spec_DrawXmlNote.mono _ _)
   | (with_reducible exact spec_DrawXmlRef.mono _ _)
   | (with_reducible exact spec_DrawXmlText.mono _ _)
   | (with_reducible exact spec_Escape.mono _ _ _)
   | (with_reducible exact spec_XmlAttr.mono _ _ _)
   | (with_reducible exact spec_XmlName.mono _ _ _)
   | (with_reducible exact spec_XmlNote.mono _ _ _)
   | (with_reducible exact spec_XmlRef.mono _ _ _)
   | (with_reducible exact spec_XmlText.mono _ _ _ _)
   | (with_reducible exact LeO.refl _)
   | (with_reducible exact LeO.none _)
   | (with_reducible refine LeO.ite ?_ ?_)
   | (with_reducible refine LeO.bind ?_ (fun _ => ?_))
   | exact ih0 _ _ _ _
   | exact ih1 _ _ _ _
   | exact ih2 _ _ _
   | exact ih3 _ _
   | exact impl_TextOk.mono _ _
   | exact impl_XmlAttr.mono _ _ _
   | exact impl_XmlName.mono _ _ _
   | exact impl_XmlNote.mono _ _ _
   | exact impl_XmlRef.mono _ _ _
   | exact impl_XmlText.mono _ _ _ _
   | exact spec_DrawEscape.mono _ _
   | exact spec_DrawSpaceName.mono _ _
   | exact spec_DrawXmlAttr.mono _ _
   | exact spec_DrawXmlName.mono _ _
   | exact spec_DrawXmlNote.mono _ _
   | exact spec_DrawXmlRef.mono _ _
   | exact spec_DrawXmlText.mono _ _
   | exact spec_Escape.mono _ _ _
   | exact spec_XmlAttr.mono _ _ _
   | exact spec_XmlName.mono _ _ _
   | exact spec_XmlNote.mono _ _ _
   | exact spec_XmlRef.mono _ _ _
   | exact spec_XmlText.mono _ _ _ _
   | exact LeO.none _
   | refine LeO.ite ?_ ?_
   | refine LeO.bind ?_ (fun _ => ?_)
theorem laws_FnPieces.mono : ∀ a0 k, LeO (laws_FnPieces.f k a0) (laws_FnPieces.f (k + 1) a0) := by
 intro a0 k
 obtain ⟨ih0, ih1, ih2, ih3⟩ := laws_FnPieces.mono_l k
 unfold laws_FnPieces.f
 repeat' first
   | (with_reducible exact ih0 _ _ _ _)
   | (with_reducible exact ih1 _ _ _ _)
   | (with_reducible exact ih2 _ _ _)
   | (with_reducible exact ih3 _ _)
   | (with_reducible exact impl_TextOk.mono _ _)
   | (with_reducible exact impl_XmlAttr.mono _ _ _)
   | (with_reducible exact impl_XmlName.mono _ _ _)
   | (with_reducible exact impl_XmlNote.mono _ _ _)
   | (with_reducible exact impl_XmlRef.mono _ _ _)
   | (with_reducible exact impl_XmlText.mono _ _ _ _)
   | (with_reducible exact spec_DrawEscape.mono _ _)
   | (with_reducible exact spec_DrawSpaceName.mono _ _)
   | (with_reducible exact spec_DrawXmlAttr.mono _ _)
   | (with_reducible exact spec_DrawXmlName.mono _ _)
   | (with_reducible exact spec_DrawXmlNote.mono _ _)
   | (with_reducible exact spec_DrawXmlRef.mono _ _)
   | (with_reducible exact spec_DrawXmlText.mono _ _)
   | (with_reducible exact spec_Escape.mono _ _ _)
   | (with_reducible exact spec_XmlAttr.mono _ _ _)
   | (with_reducible exact spec_XmlName.mono _ _ _)
   | (with_reducible exact spec_XmlNote.mono _ _ _)
   | (with_reducible exact spec_XmlRef.mono _ _ _)
   | (with_reducible exact spec_XmlText.mono _ _ _ _)
   | (with_reducible exact LeO.refl _)
   | (with_reducible exact LeO.none _)
   | (with_reducible refine LeO.ite ?_ ?_)
   | (with_reducible refine LeO.bind ?_ (fun _ => ?_))
   | exact ih0 _ _ _ _
   | exact ih1 _ _ _ _
   | exact ih2 _ _ _
   | exact ih3 _ _
   | exact impl_TextOk.mono _ _
   | exact impl_XmlAttr.mono _ _ _
   | exact impl_XmlName.mono _ _ _
   | exact impl_XmlNote.mono _ _ _
   | exact impl_XmlRef.mono _ _ _
   | exact impl_XmlText.mono _ _ _ _
   | exact spec_DrawEscape.mono _ _
   | exact spec_DrawSpaceName.mono _ _
   | exact spec_DrawXmlAttr.mono _ _
   | exact spec_DrawXmlName.mono _ _
   | exact spec_DrawXmlNote.mono _ _
   | exact spec_DrawXmlRef.mono _ _
   | exact spec_DrawXmlText.mono _ _
   | exact spec_Escape.mono _ _ _
   | exact spec_XmlAttr.mono _ _ _
   | exact spec_XmlName.mono _ _ _
   | exact spec_XmlNote.mono _ _ _
   | exact spec_XmlRef.mono _ _ _
   | exact spec_XmlText.mono _ _ _ _
   | exact LeO.none _
   | refine LeO.ite ?_ ?_
   | refine LeO.bind ?_ (fun _ => ?_)
theorem laws_FnPieces.j0_no : ∀ (k : Nat) (y0 : List Int) (y1 : ByteArray) (y2 : ByteArray), laws_FnPieces.j0 k y0 y1 y2 true ≠ some true
 | 0, _, _, _ => by simp [laws_FnPieces.j0]
 | k + 1, _, _, _ => by simp [laws_FnPieces.j0]
theorem laws_FnPieces.j1_no : ∀ (k : Nat) (y0 : List Int) (y1 : ByteArray) (y2 : ByteArray), laws_FnPieces.j1 k y0 y1 y2 true ≠ some true
 | 0, _, _, _ => by simp [laws_FnPieces.j1]
 | k + 1, _, _, _ => by simp [laws_FnPieces.j1]
theorem laws_FnPieces.j2_no : ∀ (k : Nat) (y0 : ByteArray) (y1 : ByteArray), laws_FnPieces.j2 k y0 y1 true ≠ some true
 | 0, _, _ => by simp [laws_FnPieces.j2]
 | k + 1, _, _ => by simp [laws_FnPieces.j2]
theorem laws_FnPieces.j3_no : ∀ (k : Nat) (y0 : ByteArray), laws_FnPieces.j3 k y0 true ≠ some true
 | 0, _ => by simp [laws_FnPieces.j3]
 | k + 1, _ => by simp [laws_FnPieces.j3]
set_option maxHeartbeats 8000000 in
set_option maxRecDepth 100000 in
theorem laws_FnPieces.calls (k : Nat) (A0 : Option Addr) (c0 : Nat) (l0 : List Int) (w : World) (hr0 : Kd.C (Kd.int .u8) w A0 l0.length l0) (hc0 : l0.length ≤ c0) (hL : LibOk w) (hE : LibErr w) (h : laws_FnPieces.f k l0 = some true) :
  Calls Tryz.prog 3 #[.slice A0 l0.length c0] w fun e w' => e = .returned (.bool true) ∧ Below w.heap.size w w' := by
 have hu36 := Tryz.underlying36
 have HR0 := As9.mk hr0
 have HC0 := As9.mk hc0
 clear hr0 hc0
 have HB := As9.mk (Below.refl w.heap.size w)
 have H : ((laws_big.f l0).bind fun t442 => (if t442 = true then (some true) else ((spec_DrawEscape.f k l0).bind fun bt443 => ((impl_Escape.f bt443.1 bt443.2).bind fun t445 => ((spec_DrawSpaceName.f k l0).bind fun t446 => ((spec_Escape.f k bt443.1 bt443.2).bind fun t447 => (if t445.toList = t447.toList then ((impl_SpaceName.f t446).bind fun t448 => ((spec_SpaceName.f t446).bind fun t449 => (laws_FnPieces.j0 k l0 bt443.1 t445 (t448.toList != t449.toList)))) else (laws_FnPieces.j0 k l0 bt443.1 t445 true)))))))) = some true := h
 clear h
 replace H := Option.bind_eq_some_iff.mp H
 obtain ⟨t442, A20, H⟩ := H
 (try dsimp only at H)
 have A2 := As9.mk A20
 clear A20
 by_cases c3 : t442 = true
 ·subst c3
  have H1 : (some true) = some true := rfl
  clear H
  have H := H1
  clear H1
  have hE_ := Option.some.inj H
  first
   | exact Bool.noConfusion hE_
   |
    go_enter Tryz.func3, Tryz.ntmps3
    go_wp2_with (first | ((with_reducible refine gate_callee (f := 8) rfl ?_); refine goesL_ (some 43) rfl rfl Tryz.func8 (by kernel_rfl) rfl #[.slice A0 l0.length c0] rfl (by (try simp only [List.map_toArray, List.map_cons, List.map_nil]); first | done | rfl | (simp only [List.length_drop, List.length_take]; rfl)) ?_; (with_reducible refine (laws_big.calls _ _ l0 true _ ?side1 ?side2 A2.out).mono ?_); (case side1 => repeat (first | exact HR0.out | (with_reducible refine Kd.C_alloc ?_ _) | (with_reducible refine Kd.C_drewN ?_ _) | (with_reducible refine Kd.C_drew ?_))); (case side2 => exact HC0.out); rintro e w' ⟨rfl, ⟨nd, rfl⟩⟩; refine ⟨_, rfl, ?_⟩))
    go_ret
    exact ⟨by first | rfl | (simp <;> rfl) | (simp [*] <;> rfl), by repeat (first | (with_reducible first | exact HB.out | apply bA9 | apply bN9 | apply bD9) | exact HB.out)⟩
 ·replace c3 := Bool.eq_false_iff.mpr c3
  subst c3
  rw [if_neg (show ¬ (false = true) by decide)] at H
  replace H := Option.bind_eq_some_iff.mp H
  obtain ⟨⟨t443, t444⟩, A40, H⟩ := H
  (try dsimp only at H)
  have A4 := As9.mk A40
  clear A40
  replace H := Option.bind_eq_some_iff.mp H
  obtain ⟨t445, A50, H⟩ := H
  (try dsimp only at H)
  have A5 := As9.mk A50
  clear A50
  replace H := Option.bind_eq_some_iff.mp H
  obtain ⟨t446, A60, H⟩ := H
  (try dsimp only at H)
  have A6 := As9.mk A60
  clear A60
  have HC7 := As9.mk H
  clear H
  go_enter Tryz.func3, Tryz.ntmps3
  go_upto_region 6 with (first | ((with_reducible refine gate_callee (f := 8) rfl ?_); refine goesL_ (some 43) rfl rfl Tryz.func8 (by kernel_rfl) rfl #[.slice A0 l0.length c0] rfl (by (try simp only [List.map_toArray, List.map_cons, List.map_nil]); first | done | rfl | (simp only [List.length_drop, List.length_take]; rfl)) ?_; (with_reducible refine (laws_big.calls _ _ l0 false _ ?side1 ?side2 A2.out).mono ?_); (case side1 => repeat (first | exact HR0.out | (with_reducible refine Kd.C_alloc ?_ _) | (with_reducible refine Kd.C_drewN ?_ _) | (with_reducible refine Kd.C_drew ?_))); (case side2 => exact HC0.out); rintro e w' ⟨rfl, ⟨nd, rfl⟩⟩; refine ⟨_, rfl, ?_⟩) | ((with_reducible refine gate_callee (f := 9) rfl ?_); refine goesL_ (some 46) rfl rfl Tryz.func9 (by kernel_rfl) rfl #[.slice A0 l0.length c0] rfl (by (try simp only [List.map_toArray, List.map_cons, List.map_nil]); first | done | rfl | (simp only [List.length_drop, List.length_take]; rfl)) ?_; (with_reducible refine (spec_DrawEscape.calls k _ _ l0 t443 t444 _ ?side1 ?side2 A4.out).mono ?_); (case side1 => repeat (first | exact HR0.out | (with_reducible refine Kd.C_alloc ?_ _) | (with_reducible refine Kd.C_drewN ?_ _) | (with_reducible refine Kd.C_drew ?_))); (case side2 => exact HC0.out); rintro e w8 ⟨rfl, hb⟩; refine ⟨_, rfl, ?_⟩; have n0_ := As9.mk (below_step (by repeat (first | (with_reducible first | exact HB.out | apply bA9 | apply bN9 | apply bD9) | exact HB.out)) hb); clear HB; have HB := n0_; clear n0_; (try clear hb); (try clear hb2); (try clear hk); (try clear hi)) | ((with_reducible refine gate_callee (f := 10) rfl ?_); refine goesL_ (some 51) rfl rfl Tryz.func10 (by kernel_rfl) rfl #[.string t443, .bool t444] rfl (by (try simp only [List.map_toArray, List.map_cons, List.map_nil]); first | done | rfl | (simp only [List.length_drop, List.length_take]; rfl)) ?_; (with_reducible refine (impl_Escape.calls t443 t444 t445 _ ?side1 A5.out).mono ?_); (case side1 => first | exact hL | exact LibOk.below hL (by repeat (first | (with_reducible first | exact HB.out | apply bA9 | apply bN9 | apply bD9) | exact HB.out))); rintro e w9 ⟨rfl, hb⟩; refine ⟨_, rfl, ?_⟩; have n0_ := As9.mk (below_step (by repeat (first | (with_reducible first | exact HB.out | apply bA9 | apply bN9 | apply bD9) | exact HB.out)) hb); clear HB; have HB := n0_; clear n0_; (try clear hb); (try clear hb2); (try clear hk); (try clear hi)) | ((with_reducible refine gate_callee (f := 11) rfl ?_); refine goesL_ (some 53) rfl rfl Tryz.func11 (by kernel_rfl) rfl #[.slice A0 l0.length c0] rfl (by (try simp only [List.map_toArray, List.map_cons, List.map_nil]); first | done | rfl | (simp only [List.length_drop, List.length_take]; rfl)) ?_; (with_reducible refine (spec_DrawSpaceName.calls k _ _ l0 t446 _ ?side1 ?side2 A6.out).mono ?_); (case side1 => repeat (first | exact (Kd.C_below HR0.out HB.out) | (with_reducible refine Kd.C_alloc ?_ _) | (with_reducible refine Kd.C_drewN ?_ _) | (with_reducible refine Kd.C_drew ?_))); (case side2 => exact HC0.out); rintro e w10 ⟨rfl, hb⟩; refine ⟨_, rfl, ?_⟩; have n0_ := As9.mk (below_step (by repeat (first | (with_reducible first | exact HB.out | apply bA9 | apply bN9 | apply bD9) | exact HB.out)) hb); clear HB; have HB := n0_; clear n0_; (try clear hb); (try clear hb2); (try clear hk); (try clear hi)))
  (try simp only [Act.put, List.setIfInBounds_toArray, List.set_cons_zero, List.set_cons_succ])
  go_cut [65] (fun v65 wc => ∃ (kq : Nat) (x65_6 : Bool), v65 = .bool x65_6 ∧ As9 (laws_FnPieces.j0 kq l0 t443 t445 x65_6 = some true) ∧ As9 (kq ≤ k) ∧ As9 (Below w.heap.size w wc))
  case first =>
   have H := HC7.out
   clear HC7
   replace H := Option.bind_eq_some_iff.mp H
   obtain ⟨t447, A110, H⟩ := H
   (try dsimp only at H)
   have A11 := As9.mk A110
   clear A110
   by_cases c12 : t445.toList = t447.toList
   ·rw [if_pos c12] at H
    have c12b0 : (t445.toList == t447.toList) = true := beq_iff_eq.mpr c12
    have c12b1 : (t445.toList != t447.toList) = false := bne_eq_false_iff_eq.mpr c12
    clear c12
    (first | rw [c12b0] | (simp only [i64_w, i32_w]; rw [c12b0]) | skip)
    replace H := Option.bind_eq_some_iff.mp H
    obtain ⟨t448, A130, H⟩ := H
    (try dsimp only at H)
    have A13 := As9.mk A130
    clear A130
    replace H := Option.bind_eq_some_iff.mp H
    obtain ⟨t449, A140, H⟩ := H
    (try dsimp only at H)
    have A14 := As9.mk A140
    clear A140
    have H' := As9.mk H
    clear H
    go_wp2_with (first | ((with_reducible refine gate_callee (f := 12) rfl ?_); refine goesL_ (some 57) rfl rfl Tryz.func12 (by kernel_rfl) rfl #[.string t443, .bool t444] rfl (by (try simp only [List.map_toArray, List.map_cons, List.map_nil]); first | done | rfl | (simp only [List.length_drop, List.length_take]; rfl)) ?_; (with_reducible refine (spec_Escape.calls k t443 t444 t447 _ A11.out).mono ?_); rintro e w15 ⟨rfl, hb⟩; refine ⟨_, rfl, ?_⟩; have n0_ := As9.mk (below_step (by repeat (first | (with_reducible first | exact HB.out | apply bA9 | apply bN9 | apply bD9) | exact HB.out)) hb); clear HB; have HB := n0_; clear n0_; (try clear hb); (try clear hb2); (try clear hk); (try clear hi)) | (go_at_call 13; (with_reducible refine (impl_SpaceName.calls t446 t448 _ A13.out).mono ?_); rintro e w' ⟨rfl, ⟨nd, rfl⟩⟩) | (go_at_call 14; (with_reducible refine (spec_SpaceName.calls t446 t449 _ A14.out).mono ?_); rintro e w' ⟨rfl, ⟨nd, rfl⟩⟩))
    go_meet
    case rel => exact ⟨_, ((t448.toList != t449.toList)), (by first | rfl | (simp; done) | (simp [*]; done)), H', ⟨by first | omega | exact Nat.le_refl _⟩, ⟨by repeat (first | (with_reducible first | exact HB.out | apply bA9 | apply bN9 | apply bD9) | exact HB.out)⟩⟩
   ·rw [if_neg c12] at H
    have c12b0 : (t445.toList == t447.toList) = false := beq_eq_false_iff_ne.mpr c12
    have c12b1 : (t445.toList != t447.toList) = true := bne_iff_ne.mpr c12
    exact absurd H (by first | exact laws_FnPieces.j0_no _ _ _ _ | exact laws_FnPieces.j1_no _ _ _ _ | exact laws_FnPieces.j2_no _ _ _ | exact laws_FnPieces.j3_no _ _)
  case rest =>
   clear HC7
   try clear c1
   try clear p2
   try clear c3
   try clear c8
   try clear c9
   try clear c10
   try clear c11
   try clear c12
   try clear c12b0
   try clear c12b1
   obtain ⟨kq, x65_6, rfl, HA, HJ6, HB⟩ := hcut
   cases kq with
   | zero => exact absurd HA.out (by simp [laws_FnPieces.j0])
   | succ kj6 =>
    have H := HA.out
    clear HA
    simp only [laws_FnPieces.j0] at H
    by_cases c17 : x65_6 = true
    ·subst c17
     have H1 : (some false) = some true := by rw [if_pos rfl] at H; exact H
     exact absurd H1 (by simp)
    ·replace c17 := Bool.eq_false_iff.mpr c17
     subst c17
     rw [if_neg (show ¬ (false = true) by decide)] at H
     replace H := Option.bind_eq_some_iff.mp H
     obtain ⟨⟨t450, t451⟩, A180, H⟩ := H
     (try dsimp only at H)
     have A18 := As9.mk A180
     clear A180
     replace H := Option.bind_eq_some_iff.mp H
     obtain ⟨⟨t452, t453⟩, A190, H⟩ := H
     (try dsimp only at H)
     have A19 := As9.mk A190
     clear A190
     replace H := Option.bind_eq_some_iff.mp H
     obtain ⟨⟨t454, t455⟩, A200, H⟩ := H
     (try dsimp only at H)
     have A20 := As9.mk A200
     clear A200
     replace H := Option.bind_eq_some_iff.mp H
     obtain ⟨⟨t456, t457⟩, A210, H⟩ := H
     (try dsimp only at H)
     have A21 := As9.mk A210
     clear A210
     replace H := Option.bind_eq_some_iff.mp H
     obtain ⟨⟨t458, t459⟩, A220, H⟩ := H
     (try dsimp only at H)
     have A22 := As9.mk A220
     clear A220
     replace H := Option.bind_eq_some_iff.mp H
     obtain ⟨⟨t460, t461⟩, A230, H⟩ := H
     (try dsimp only at H)
     have A23 := As9.mk A230
     clear A230
     replace H := Option.bind_eq_some_iff.mp H
     obtain ⟨⟨t462, t463, t464⟩, A240, H⟩ := H
     (try dsimp only at H)
     have A24 := As9.mk A240
     clear A240
     replace H := Option.bind_eq_some_iff.mp H
     obtain ⟨⟨t465, t466⟩, A250, H⟩ := H
     (try dsimp only at H)
     have A25 := As9.mk A250
     clear A250
     replace H := Option.bind_eq_some_iff.mp H
     obtain ⟨⟨t467, t468⟩, A260, H⟩ := H
     (try dsimp only at H)
     have A26 := As9.mk A260
     clear A260
     have HC27 := As9.mk H
     clear H
     go_upto_region 17 with (first | ((with_reducible refine gate_callee (f := 15) rfl ?_); refine goesL_ (some 68) rfl rfl Tryz.func15 (by kernel_rfl) rfl #[.slice A0 l0.length c0] rfl (by (try simp only [List.map_toArray, List.map_cons, List.map_nil]); first | done | rfl | (simp only [List.length_drop, List.length_take]; rfl)) ?_; (with_reducible refine (spec_DrawXmlName.calls kj6 _ _ l0 t450 t451 _ ?side1 ?side2 A18.out).mono ?_); (case side1 => repeat (first | exact (Kd.C_below HR0.out HB.out) | (with_reducible refine Kd.C_alloc ?_ _) | (with_reducible refine Kd.C_drewN ?_ _) | (with_reducible refine Kd.C_drew ?_))); (case side2 => exact HC0.out); rintro e w28 ⟨rfl, hb⟩; refine ⟨_, rfl, ?_⟩; have n0_ := As9.mk (below_step (by repeat (first | (with_reducible first | exact HB.out | apply bA9 | apply bN9 | apply bD9) | exact HB.out)) hb); clear HB; have HB := n0_; clear n0_; (try clear hb); (try clear hb2); (try clear hk); (try clear hi)) | ((with_reducible refine gate_callee (f := 16) rfl ?_); refine goesL_ (some 74) rfl rfl Tryz.func16 (by kernel_rfl) rfl #[.string t450, .int .i64 t451] rfl (by (try simp only [List.map_toArray, List.map_cons, List.map_nil]); first | done | rfl | (simp only [List.length_drop, List.length_take]; rfl)) ?_; (with_reducible refine (impl_XmlName.calls kj6 t450 t451 t452 t453 _ A19.out).mono ?_); rintro e w29 ⟨rfl, hb⟩; refine ⟨_, rfl, ?_⟩; have n0_ := As9.mk (below_step (by repeat (first | (with_reducible first | exact HB.out | apply bA9 | apply bN9 | apply bD9) | exact HB.out)) hb); clear HB; have HB := n0_; clear n0_; (try clear hb); (try clear hb2); (try clear hk); (try clear hi)) | ((with_reducible refine gate_callee (f := 17) rfl ?_); refine goesL_ (some 80) rfl rfl Tryz.func17 (by kernel_rfl) rfl #[.string t450, .int .i64 t451] rfl (by (try simp only [List.map_toArray, List.map_cons, List.map_nil]); first | done | rfl | (simp only [List.length_drop, List.length_take]; rfl)) ?_; (with_reducible refine (spec_XmlName.calls kj6 t450 t451 t454 t455 _ A20.out).mono ?_); rintro e w30 ⟨rfl, hb⟩; refine ⟨_, rfl, ?_⟩; have n0_ := As9.mk (below_step (by repeat (first | (with_reducible first | exact HB.out | apply bA9 | apply bN9 | apply bD9) | exact HB.out)) hb); clear HB; have HB := n0_; clear n0_; (try clear hb); (try clear hb2); (try clear hk); (try clear hi)) | ((with_reducible refine gate_callee (f := 18) rfl ?_); refine goesL_ (some 85) rfl rfl Tryz.func18 (by kernel_rfl) rfl #[.slice A0 l0.length c0] rfl (by (try simp only [List.map_toArray, List.map_cons, List.map_nil]); first | done | rfl | (simp only [List.length_drop, List.length_take]; rfl)) ?_; (with_reducible refine (spec_DrawXmlRef.calls kj6 _ _ l0 t456 t457 _ ?side1 ?side2 A21.out).mono ?_); (case side1 => repeat (first | exact (Kd.C_below HR0.out HB.out) | (with_reducible refine Kd.C_alloc ?_ _) | (with_reducible refine Kd.C_drewN ?_ _) | (with_reducible refine Kd.C_drew ?_))); (case side2 => exact HC0.out); rintro e w31 ⟨rfl, hb⟩; refine ⟨_, rfl, ?_⟩; have n0_ := As9.mk (below_step (by repeat (first | (with_reducible first | exact HB.out | apply bA9 | apply bN9 | apply bD9) | exact HB.out)) hb); clear HB; have HB := n0_; clear n0_; (try clear hb); (try clear hb2); (try clear hk); (try clear hi)) | ((with_reducible refine gate_callee (f := 19) rfl ?_); refine goesL_ (some 91) rfl rfl Tryz.func19 (by kernel_rfl) rfl #[.string t456, .int .i64 t457] rfl (by (try simp only [List.map_toArray, List.map_cons, List.map_nil]); first | done | rfl | (simp only [List.length_drop, List.length_take]; rfl)) ?_; (with_reducible refine (impl_XmlRef.calls kj6 t456 t457 t458 t459 _ ?side1 ?side2 A22.out).mono ?_); (case side1 => first | exact hL | exact LibOk.below hL (by repeat (first | (with_reducible first | exact HB.out | apply bA9 | apply bN9 | apply bD9) | exact HB.out))); (case side2 => first | exact hE | exact LibErr.below hE (by repeat (first | (with_reducible first | exact HB.out | apply bA9 | apply bN9 | apply bD9) | exact HB.out))); rintro e w32 ⟨rfl, hb⟩; refine ⟨_, rfl, ?_⟩; have n0_ := As9.mk (below_step (by repeat (first | (with_reducible first | exact HB.out | apply bA9 | apply bN9 | apply bD9) | exact HB.out)) hb); clear HB; have HB := n0_; clear n0_; (try clear hb); (try clear hb2); (try clear hk); (try clear hi)) | ((with_reducible refine gate_callee (f := 20) rfl ?_); refine goesL_ (some 97) rfl rfl Tryz.func20 (by kernel_rfl) rfl #[.string t456, .int .i64 t457] rfl (by (try simp only [List.map_toArray, List.map_cons, List.map_nil]); first | done | rfl | (simp only [List.length_drop, List.length_take]; rfl)) ?_; (with_reducible refine (spec_XmlRef.calls kj6 t456 t457 t460 t461 _ A23.out).mono ?_); rintro e w33 ⟨rfl, hb⟩; refine ⟨_, rfl, ?_⟩; have n0_ := As9.mk (below_step (by repeat (first | (with_reducible first | exact HB.out | apply bA9 | apply bN9 | apply bD9) | exact HB.out)) hb); clear HB; have HB := n0_; clear n0_; (try clear hb); (try clear hb2); (try clear hk); (try clear hi)) | ((with_reducible refine gate_callee (f := 21) rfl ?_); refine goesL_ (some 102) rfl rfl Tryz.func21 (by kernel_rfl) rfl #[.slice A0 l0.length c0] rfl (by (try simp only [List.map_toArray, List.map_cons, List.map_nil]); first | done | rfl | (simp only [List.length_drop, List.length_take]; rfl)) ?_; (with_reducible refine (spec_DrawXmlText.calls kj6 _ _ l0 t462 t463 t464 _ ?side1 ?side2 A24.out).mono ?_); (case side1 => repeat (first | exact (Kd.C_below HR0.out HB.out) | (with_reducible refine Kd.C_alloc ?_ _) | (with_reducible refine Kd.C_drewN ?_ _) | (with_reducible refine Kd.C_drew ?_))); (case side2 => exact HC0.out); rintro e w34 ⟨rfl, hb⟩; refine ⟨_, rfl, ?_⟩; have n0_ := As9.mk (below_step (by repeat (first | (with_reducible first | exact HB.out | apply bA9 | apply bN9 | apply bD9) | exact HB.out)) hb); clear HB; have HB := n0_; clear n0_; (try clear hb); (try clear hb2); (try clear hk); (try clear hi)) | ((with_reducible refine gate_callee (f := 22) rfl ?_); refine goesL_ (some 110) rfl rfl Tryz.func22 (by kernel_rfl) rfl #[.string t462, .int .i64 t463, .string t464] rfl (by (try simp only [List.map_toArray, List.map_cons, List.map_nil]); first | done | rfl | (simp only [List.length_drop, List.length_take]; rfl)) ?_; (with_reducible refine (impl_XmlText.calls kj6 t462 t463 t464 t465 t466 _ ?side1 ?side2 A25.out).mono ?_); (case side1 => first | exact hL | exact LibOk.below hL (by repeat (first | (with_reducible first | exact HB.out | apply bA9 | apply bN9 | apply bD9) | exact HB.out))); (case side2 => first | exact hE | exact LibErr.below hE (by repeat (first | (with_reducible first | exact HB.out | apply bA9 | apply bN9 | apply bD9) | exact HB.out))); rintro e w35 ⟨rfl, hb⟩; refine ⟨_, rfl, ?_⟩; have n0_ := As9.mk (below_step (by repeat (first | (with_reducible first | exact HB.out | apply bA9 | apply bN9 | apply bD9) | exact HB.out)) hb); clear HB; have HB := n0_; clear n0_; (try clear hb); (try clear hb2); (try clear hk); (try clear hi)) | ((with_reducible refine gate_callee (f := 23) rfl ?_); refine goesL_ (some 117) rfl rfl Tryz.func23 (by kernel_rfl) rfl #[.string t462, .int .i64 t463, .string t464] rfl (by (try simp only [List.map_toArray, List.map_cons, List.map_nil]); first | done | rfl | (simp only [List.length_drop, List.length_take]; rfl)) ?_; (with_reducible refine (spec_XmlText.calls kj6 t462 t463 t464 t467 t468 _ A26.out).mono ?_); rintro e w36 ⟨rfl, hb⟩; refine ⟨_, rfl, ?_⟩; have n0_ := As9.mk (below_step (by repeat (first | (with_reducible first | exact HB.out | apply bA9 | apply bN9 | apply bD9) | exact HB.out)) hb); clear HB; have HB := n0_; clear n0_; (try clear hb); (try clear hb2); (try clear hk); (try clear hi)))
     (try simp only [Act.put, List.setIfInBounds_toArray, List.set_cons_zero, List.set_cons_succ])
     go_cut [147] (fun v147 wc => ∃ (kq : Nat) (x147_26 : Bool), v147 = .bool x147_26 ∧ As9 (laws_FnPieces.j1 kq l0 t443 t445 x147_26 = some true) ∧ As9 (kq ≤ kj6) ∧ As9 (Below w.heap.size w wc))
     case first =>
      have H := HC27.out
      clear HC27
      by_cases c37 : t452.toList = t454.toList
      ·rw [if_pos c37] at H
       have c37b0 : (t452.toList == t454.toList) = true := beq_iff_eq.mpr c37
       have c37b1 : (t452.toList != t454.toList) = false := bne_eq_false_iff_eq.mpr c37
       clear c37
       (first | rw [c37b0] | (simp only [i64_w, i32_w]; rw [c37b0]) | skip)
       by_cases c38 : t453 = t455
       ·rw [if_pos c38] at H
        have c38b0 : (t453 == t455) = true := beq_iff_eq.mpr c38
        have c38b1 : (t453 != t455) = false := bne_eq_false_iff_eq.mpr c38
        clear c38
        by_cases c39 : t458.toList = t460.toList
        ·rw [if_pos c39] at H
         have c39b0 : (t458.toList == t460.toList) = true := beq_iff_eq.mpr c39
         have c39b1 : (t458.toList != t460.toList) = false := bne_eq_false_iff_eq.mpr c39
         clear c39
         by_cases c40 : t459 = t461
         ·rw [if_pos c40] at H
          have c40b0 : (t459 == t461) = true := beq_iff_eq.mpr c40
          have c40b1 : (t459 != t461) = false := bne_eq_false_iff_eq.mpr c40
          clear c40
          by_cases c41 : t465.toList = t467.toList
          ·rw [if_pos c41] at H
           have c41b0 : (t465.toList == t467.toList) = true := beq_iff_eq.mpr c41
           have c41b1 : (t465.toList != t467.toList) = false := bne_eq_false_iff_eq.mpr c41
           clear c41
           have H' := As9.mk H
           clear H
           go_wp2
           go_meet
           case rel => exact ⟨_, ((t466 != t468)), (by first | rfl | (simp; done) | (simp [*]; done)), H', ⟨by have := HJ6.out; first | omega | exact Nat.le_refl _⟩, ⟨by repeat (first | (with_reducible first | exact HB.out | apply bA9 | apply bN9 | apply bD9) | exact HB.out)⟩⟩
          ·rw [if_neg c41] at H
           have c41b0 : (t465.toList == t467.toList) = false := beq_eq_false_iff_ne.mpr c41
           have c41b1 : (t465.toList != t467.toList) = true := bne_iff_ne.mpr c41
           exact absurd H (by first | exact laws_FnPieces.j0_no _ _ _ _ | exact laws_FnPieces.j1_no _ _ _ _ | exact laws_FnPieces.j2_no _ _ _ | exact laws_FnPieces.j3_no _ _)
         ·rw [if_neg c40] at H
          have c40b0 : (t459 == t461) = false := beq_eq_false_iff_ne.mpr c40
          have c40b1 : (t459 != t461) = true := bne_iff_ne.mpr c40
          exact absurd H (by first | exact laws_FnPieces.j0_no _ _ _ _ | exact laws_FnPieces.j1_no _ _ _ _ | exact laws_FnPieces.j2_no _ _ _ | exact laws_FnPieces.j3_no _ _)
        ·rw [if_neg c39] at H
         have c39b0 : (t458.toList == t460.toList) = false := beq_eq_false_iff_ne.mpr c39
         have c39b1 : (t458.toList != t460.toList) = true := bne_iff_ne.mpr c39
         exact absurd H (by first | exact laws_FnPieces.j0_no _ _ _ _ | exact laws_FnPieces.j1_no _ _ _ _ | exact laws_FnPieces.j2_no _ _ _ | exact laws_FnPieces.j3_no _ _)
       ·rw [if_neg c38] at H
        have c38b0 : (t453 == t455) = false := beq_eq_false_iff_ne.mpr c38
        have c38b1 : (t453 != t455) = true := bne_iff_ne.mpr c38
        exact absurd H (by first | exact laws_FnPieces.j0_no _ _ _ _ | exact laws_FnPieces.j1_no _ _ _ _ | exact laws_FnPieces.j2_no _ _ _ | exact laws_FnPieces.j3_no _ _)
      ·rw [if_neg c37] at H
       have c37b0 : (t452.toList == t454.toList) = false := beq_eq_false_iff_ne.mpr c37
       have c37b1 : (t452.toList != t454.toList) = true := bne_iff_ne.mpr c37
       exact absurd H (by first | exact laws_FnPieces.j0_no _ _ _ _ | exact laws_FnPieces.j1_no _ _ _ _ | exact laws_FnPieces.j2_no _ _ _ | exact laws_FnPieces.j3_no _ _)
     case rest =>
      clear HC27
      try clear c1
      try clear c2
      try clear p2
      try clear c3
      try clear c4
      try clear c8
      try clear c9
      try clear c10
      try clear c11
      try clear c12
      try clear c12b0
      try clear c12b1
      try clear c15
      try clear c16
      try clear c17
      try clear c18
      try clear c19
      try clear c20
      try clear c21
      try clear c22
      try clear c23
      try clear c37
      try clear c37b0
      try clear c37b1
      try clear c38
      try clear c38b0
      try clear c38b1
      try clear c39
      try clear c39b0
      try clear c39b1
      try clear c40
      try clear c40b0
      try clear c40b1
      try clear c41
      try clear c41b0
      try clear c41b1
      try clear p2
      obtain ⟨kq, x147_26, rfl, HA, HJ26, HB⟩ := hcut
      cases kq with
      | zero => exact absurd HA.out (by simp [laws_FnPieces.j1])
      | succ kj26 =>
       have H := HA.out
       clear HA
       simp only [laws_FnPieces.j1] at H
       by_cases c42 : x147_26 = true
       ·subst c42
        have H1 : (some false) = some true := by rw [if_pos rfl] at H; exact H
        exact absurd H1 (by simp)
       ·replace c42 := Bool.eq_false_iff.mpr c42
        subst c42
        rw [if_neg (show ¬ (false = true) by decide)] at H
        replace H := Option.bind_eq_some_iff.mp H
        obtain ⟨⟨t469, t470⟩, A430, H⟩ := H
        (try dsimp only at H)
        have A43 := As9.mk A430
        clear A430
        replace H := Option.bind_eq_some_iff.mp H
        obtain ⟨⟨t471, t472, t473⟩, A440, H⟩ := H
        (try dsimp only at H)
        have A44 := As9.mk A440
        clear A440
        replace H := Option.bind_eq_some_iff.mp H
        obtain ⟨⟨t475, t476, t477⟩, A450, H⟩ := H
        (try dsimp only at H)
        have A45 := As9.mk A450
        clear A450
        replace H := Option.bind_eq_some_iff.mp H
        obtain ⟨⟨t479, t480⟩, A460, H⟩ := H
        (try dsimp only at H)
        have A46 := As9.mk A460
        clear A460
        replace H := Option.bind_eq_some_iff.mp H
        obtain ⟨⟨t481, t482⟩, A470, H⟩ := H
        (try dsimp only at H)
        have A47 := As9.mk A470
        clear A470
        replace H := Option.bind_eq_some_iff.mp H
        obtain ⟨⟨t483, t484⟩, A480, H⟩ := H
        (try dsimp only at H)
        have A48 := As9.mk A480
        clear A480
        have HC49 := As9.mk H
        clear H
        go_upto_region 25 with (first | ((with_reducible refine gate_callee (f := 24) rfl ?_); refine goesL_ (some 150) rfl rfl Tryz.func24 (by kernel_rfl) rfl #[.slice A0 l0.length c0] rfl (by (try simp only [List.map_toArray, List.map_cons, List.map_nil]); first | done | rfl | (simp only [List.length_drop, List.length_take]; rfl)) ?_; (with_reducible refine (spec_DrawXmlAttr.calls kj26 _ _ l0 t469 t470 _ ?side1 ?side2 A43.out).mono ?_); (case side1 => repeat (first | exact (Kd.C_below HR0.out HB.out) | (with_reducible refine Kd.C_alloc ?_ _) | (with_reducible refine Kd.C_drewN ?_ _) | (with_reducible refine Kd.C_drew ?_))); (case side2 => exact HC0.out); rintro e w50 ⟨rfl, hb⟩; refine ⟨_, rfl, ?_⟩; have n0_ := As9.mk (below_step (by repeat (first | (with_reducible first | exact HB.out | apply bA9 | apply bN9 | apply bD9) | exact HB.out)) hb); clear HB; have HB := n0_; clear n0_; (try clear hb); (try clear hb2); (try clear hk); (try clear hi)) | ((with_reducible refine gate_callee (f := 25) rfl ?_); refine goesL_ (some 156) rfl rfl Tryz.func25 (by kernel_rfl) rfl #[.string t469, .int .i64 t470] rfl (by (try simp only [List.map_toArray, List.map_cons, List.map_nil]); first | done | rfl | (simp only [List.length_drop, List.length_take]; rfl)) ?_; (with_reducible refine (impl_XmlAttr.calls kj26 t469 t470 t471 t472 t473 _ ?side1 ?side2 A44.out).mono ?_); (case side1 => first | exact hL | exact LibOk.below hL (by repeat (first | (with_reducible first | exact HB.out | apply bA9 | apply bN9 | apply bD9) | exact HB.out))); (case side2 => first | exact hE | exact LibErr.below hE (by repeat (first | (with_reducible first | exact HB.out | apply bA9 | apply bN9 | apply bD9) | exact HB.out))); rintro e w51 ⟨rfl, hb⟩; refine ⟨_, rfl, ?_⟩; have n0_ := As9.mk (below_step (by repeat (first | (with_reducible first | exact HB.out | apply bA9 | apply bN9 | apply bD9) | exact HB.out)) hb); clear HB; have HB := n0_; clear n0_; (try clear hb); (try clear hb2); (try clear hk); (try clear hi)) | ((with_reducible refine gate_dst (N := 28) rfl ?_); (try (refine gate_guard (by rfl) ?_; dsimp only)); refine box_event ?hg (N := 28) ?hd (cs := #[.string (⟨#[]⟩ : ByteArray), .string (⟨#[]⟩ : ByteArray)]) (t := 36) ?hr ?_; (case hd => rfl); (case hg => rfl); (case hr => first | (go_simp; done) | (go_simp; rfl)); intro gb474 hg w52 hbox hb; have n0_ := As9.mk (below_step (by repeat (first | (with_reducible first | exact HB.out | apply bA9 | apply bN9 | apply bD9) | exact HB.out)) hb); have n1_ := As9.mk (hbox); have n2_ := As9.mk ((by rw [hg]; exact (below_size (by repeat (first | (with_reducible first | exact HB.out | apply bA9 | apply bN9 | apply bD9) | exact HB.out))) : w.heap.size ≤ gb474)); have n3_ := As9.mk ((by rw [hg]; exact (below_size (by repeat (first | (with_reducible first | exact HB.out | apply bA9 | apply bN9 | apply bD9) | exact HB.out))) : w.heap.size ≤ gb474)); clear HB; have HB := n0_; have BK474 := n1_; have GW474 := n2_; have GE474 := n3_; clear n0_ n1_ n2_ n3_; clear hb hbox hg; have hcz53_0 : w52.cell? ⟨gb474, 0, none⟩ = some (.string (⟨#[]⟩ : ByteArray)) := (blk_cell BK474.out 0).trans rfl; have hcz53_1 : w52.cell? ⟨gb474, 1, none⟩ = some (.string (⟨#[]⟩ : ByteArray)) := (blk_cell BK474.out 1).trans rfl; have hfz53_0 := blk_frozen BK474.out 0; have hfz53_1 := blk_frozen BK474.out 1) | ((with_reducible refine gate_callee (f := 26) rfl ?_); refine goesL_ (some 162) rfl rfl Tryz.func26 (by kernel_rfl) rfl #[.string t469, .int .i64 t470] rfl (by (try simp only [List.map_toArray, List.map_cons, List.map_nil]); first | done | rfl | (simp only [List.length_drop, List.length_take]; rfl)) ?_; (with_reducible refine (spec_XmlAttr.calls kj26 t469 t470 t475 t476 t477 _ A45.out).mono ?_); rintro e w54 ⟨rfl, hb⟩; refine ⟨_, rfl, ?_⟩; have n0_ := As9.mk (blk_below (g := gb474) (o := .cells #[.string t471, .string t472] 36 (0, 0)) (by (with_reducible repeat (first | refine blk_drewN ?_ _ | refine blk_drew ?_ | refine blk_alloc ?_ _)); refine blk_put (cs := #[.string t471, .string (⟨#[]⟩ : ByteArray)]) ?_ 1 _ rfl; (with_reducible repeat (first | refine blk_drewN ?_ _ | refine blk_drew ?_ | refine blk_alloc ?_ _)); refine blk_put (cs := #[.string (⟨#[]⟩ : ByteArray), .string (⟨#[]⟩ : ByteArray)]) ?_ 0 _ rfl; (with_reducible repeat (first | refine blk_drewN ?_ _ | refine blk_drew ?_ | refine blk_alloc ?_ _)); exact BK474.out) hb); have n1_ := As9.mk (below_step (by repeat (first | (with_reducible first | exact HB.out | apply bA9 | apply bN9 | apply bD9 | refine below_set ?_ GE474.out) | exact HB.out)) hb); clear BK474; clear HB; have BK474 := n0_; have HB := n1_; clear n0_ n1_; (try clear hb); (try clear hb2); (try clear hk); (try clear hi)) | ((with_reducible refine gate_dst (N := 30) rfl ?_); (try (refine gate_guard (by rfl) ?_; dsimp only)); refine box_event ?hg (N := 30) ?hd (cs := #[.string (⟨#[]⟩ : ByteArray), .string (⟨#[]⟩ : ByteArray)]) (t := 36) ?hr ?_; (case hd => rfl); (case hg => rfl); (case hr => first | (go_simp; done) | (go_simp; rfl)); intro gb478 hg w55 hbox hb; have n0_ := As9.mk (blk_below (g := gb474) (o := .cells #[.string t471, .string t472] 36 (0, 0)) (by (with_reducible repeat (first | refine blk_drewN ?_ _ | refine blk_drew ?_ | refine blk_alloc ?_ _)); exact BK474.out) hb); have n1_ := As9.mk (below_step (by repeat (first | (with_reducible first | exact HB.out | apply bA9 | apply bN9 | apply bD9 | refine below_set ?_ GE474.out) | exact HB.out)) hb); have n2_ := As9.mk (hbox); have n3_ := As9.mk ((by rw [hg]; exact (below_size (by repeat (first | (with_reducible first | exact HB.out | apply bA9 | apply bN9 | apply bD9 | refine below_set ?_ GE474.out) | exact HB.out))) : w.heap.size ≤ gb478)); have n4_ := As9.mk ((by rw [hg]; exact (below_size (by repeat (first | (with_reducible first | exact HB.out | apply bA9 | apply bN9 | apply bD9 | refine below_set ?_ GE474.out) | exact HB.out))) : w.heap.size ≤ gb478)); have n5_ := As9.mk ((by rw [hg]; exact Nat.ne_of_lt (blk_lt (g := gb474) (o := .cells #[.string t471, .string t472] 36 (0, 0)) (by (with_reducible repeat (first | refine blk_drewN ?_ _ | refine blk_drew ?_ | refine blk_alloc ?_ _)); exact BK474.out)) : gb474 ≠ gb478)); have n6_ := As9.mk ((by rw [hg]; exact Nat.ne_of_gt (blk_lt (g := gb474) (o := .cells #[.string t471, .string t472] 36 (0, 0)) (by (with_reducible repeat (first | refine blk_drewN ?_ _ | refine blk_drew ?_ | refine blk_alloc ?_ _)); exact BK474.out)) : gb478 ≠ gb474)); clear BK474; clear HB; have BK474 := n0_; have HB := n1_; have BK478 := n2_; have GW478 := n3_; have GE478 := n4_; have NB474_478 := n5_; have NB478_474 := n6_; clear n0_ n1_ n2_ n3_ n4_ n5_ n6_; clear hb hbox hg; have hnb56 := NB478_474.out; have hnc56 := NB474_478.out; have hcz57_0 : w55.cell? ⟨gb478, 0, none⟩ = some (.string (⟨#[]⟩ : ByteArray)) := (blk_cell BK478.out 0).trans rfl; have hcz57_1 : w55.cell? ⟨gb478, 1, none⟩ = some (.string (⟨#[]⟩ : ByteArray)) := (blk_cell BK478.out 1).trans rfl; have hfz57_0 := blk_frozen BK478.out 0; have hfz57_1 := blk_frozen BK478.out 1) | ((with_reducible refine gate_callee (f := 27) rfl ?_); refine goesL_ (some 167) rfl rfl Tryz.func27 (by kernel_rfl) rfl #[.slice A0 l0.length c0] rfl (by (try simp only [List.map_toArray, List.map_cons, List.map_nil]); first | done | rfl | (simp only [List.length_drop, List.length_take]; rfl)) ?_; (with_reducible refine (spec_DrawXmlNote.calls kj26 _ _ l0 t479 t480 _ ?side1 ?side2 A46.out).mono ?_); (case side1 => exact Kd.C_below HR0.out (by repeat (first | (with_reducible first | exact HB.out | apply bA9 | apply bN9 | apply bD9 | refine below_set ?_ GE474.out | refine below_set ?_ GE478.out) | exact HB.out))); (case side2 => exact HC0.out); rintro e w58 ⟨rfl, hb⟩; refine ⟨_, rfl, ?_⟩; have n0_ := As9.mk (blk_below (g := gb474) (o := .cells #[.string t471, .string t472] 36 (0, 0)) (by (with_reducible repeat (first | refine blk_drewN ?_ _ | refine blk_drew ?_ | refine blk_alloc ?_ _)); refine blk_far ?_ NB474_478.out _; (with_reducible repeat (first | refine blk_drewN ?_ _ | refine blk_drew ?_ | refine blk_alloc ?_ _)); refine blk_far ?_ NB474_478.out _; (with_reducible repeat (first | refine blk_drewN ?_ _ | refine blk_drew ?_ | refine blk_alloc ?_ _)); exact BK474.out) hb); have n1_ := As9.mk (blk_below (g := gb478) (o := .cells #[.string t475, .string t476] 36 (0, 0)) (by (with_reducible repeat (first | refine blk_drewN ?_ _ | refine blk_drew ?_ | refine blk_alloc ?_ _)); refine blk_put (cs := #[.string t475, .string (⟨#[]⟩ : ByteArray)]) ?_ 1 _ rfl; (with_reducible repeat (first | refine blk_drewN ?_ _ | refine blk_drew ?_ | refine blk_alloc ?_ _)); refine blk_put (cs := #[.string (⟨#[]⟩ : ByteArray), .string (⟨#[]⟩ : ByteArray)]) ?_ 0 _ rfl; (with_reducible repeat (first | refine blk_drewN ?_ _ | refine blk_drew ?_ | refine blk_alloc ?_ _)); exact BK478.out) hb); have n2_ := As9.mk (below_step (by repeat (first | (with_reducible first | exact HB.out | apply bA9 | apply bN9 | apply bD9 | refine below_set ?_ GE474.out | refine below_set ?_ GE478.out) | exact HB.out)) hb); clear BK474; clear BK478; clear HB; have BK474 := n0_; have BK478 := n1_; have HB := n2_; clear n0_ n1_ n2_; (try clear hb); (try clear hb2); (try clear hk); (try clear hi)) | ((with_reducible refine gate_callee (f := 28) rfl ?_); refine goesL_ (some 173) rfl rfl Tryz.func28 (by kernel_rfl) rfl #[.string t479, .int .i64 t480] rfl (by (try simp only [List.map_toArray, List.map_cons, List.map_nil]); first | done | rfl | (simp only [List.length_drop, List.length_take]; rfl)) ?_; (with_reducible refine (impl_XmlNote.calls kj26 t479 t480 t481 t482 _ ?side1 A47.out).mono ?_); (case side1 => first | exact hL | exact LibOk.below hL (by repeat (first | (with_reducible first | exact HB.out | apply bA9 | apply bN9 | apply bD9 | refine below_set ?_ GE474.out | refine below_set ?_ GE478.out) | exact HB.out))); rintro e w59 ⟨rfl, hb⟩; refine ⟨_, rfl, ?_⟩; have n0_ := As9.mk (blk_below (g := gb474) (o := .cells #[.string t471, .string t472] 36 (0, 0)) (by (with_reducible repeat (first | refine blk_drewN ?_ _ | refine blk_drew ?_ | refine blk_alloc ?_ _)); exact BK474.out) hb); have n1_ := As9.mk (blk_below (g := gb478) (o := .cells #[.string t475, .string t476] 36 (0, 0)) (by (with_reducible repeat (first | refine blk_drewN ?_ _ | refine blk_drew ?_ | refine blk_alloc ?_ _)); exact BK478.out) hb); have n2_ := As9.mk (below_step (by repeat (first | (with_reducible first | exact HB.out | apply bA9 | apply bN9 | apply bD9 | refine below_set ?_ GE474.out | refine below_set ?_ GE478.out) | exact HB.out)) hb); clear BK474; clear BK478; clear HB; have BK474 := n0_; have BK478 := n1_; have HB := n2_; clear n0_ n1_ n2_; (try clear hb); (try clear hb2); (try clear hk); (try clear hi)) | ((with_reducible refine gate_callee (f := 29) rfl ?_); refine goesL_ (some 179) rfl rfl Tryz.func29 (by kernel_rfl) rfl #[.string t479, .int .i64 t480] rfl (by (try simp only [List.map_toArray, List.map_cons, List.map_nil]); first | done | rfl | (simp only [List.length_drop, List.length_take]; rfl)) ?_; (with_reducible refine (spec_XmlNote.calls kj26 t479 t480 t483 t484 _ A48.out).mono ?_); rintro e w60 ⟨rfl, hb⟩; refine ⟨_, rfl, ?_⟩; have n0_ := As9.mk (blk_below (g := gb474) (o := .cells #[.string t471, .string t472] 36 (0, 0)) (by (with_reducible repeat (first | refine blk_drewN ?_ _ | refine blk_drew ?_ | refine blk_alloc ?_ _)); exact BK474.out) hb); have n1_ := As9.mk (blk_below (g := gb478) (o := .cells #[.string t475, .string t476] 36 (0, 0)) (by (with_reducible repeat (first | refine blk_drewN ?_ _ | refine blk_drew ?_ | refine blk_alloc ?_ _)); exact BK478.out) hb); have n2_ := As9.mk (below_step (by repeat (first | (with_reducible first | exact HB.out | apply bA9 | apply bN9 | apply bD9 | refine below_set ?_ GE474.out | refine below_set ?_ GE478.out) | exact HB.out)) hb); clear BK474; clear BK478; clear HB; have BK474 := n0_; have BK478 := n1_; have HB := n2_; clear n0_ n1_ n2_; (try clear hb); (try clear hb2); (try clear hk); (try clear hi)))
        (try simp only [Act.put, List.setIfInBounds_toArray, List.set_cons_zero, List.set_cons_succ])
        go_cut [199] (fun v199 wc => ∃ (kq : Nat) (x199_48 : Bool), v199 = .bool x199_48 ∧ As9 (laws_FnPieces.j2 kq t443 t445 x199_48 = some true) ∧ As9 (kq ≤ kj26) ∧ As9 (wc.heap[gb474]? = some (.cells #[.string t471, .string t472] 36 (0, 0))) ∧ As9 (wc.heap[gb478]? = some (.cells #[.string t475, .string t476] 36 (0, 0))) ∧ As9 (Below w.heap.size w wc))
        case first =>
         have H := HC49.out
         clear HC49
         by_cases c61 : (!(t471.toList == t475.toList) || (!(t472.toList == t476.toList))) = true
         ·rw [if_pos c61] at H
          have c61b0 : (!(t471.toList == t475.toList) || (!(t472.toList == t476.toList))) = true := c61
          clear c61
          exact absurd H (by first | exact laws_FnPieces.j0_no _ _ _ _ | exact laws_FnPieces.j1_no _ _ _ _ | exact laws_FnPieces.j2_no _ _ _ | exact laws_FnPieces.j3_no _ _)
         ·rw [if_neg c61] at H
          have c61b0 : (!(t471.toList == t475.toList) || (!(t472.toList == t476.toList))) = false := by simpa using c61
          clear c61
          (first | rw [c61b0] | (simp only [i64_w, i32_w]; rw [c61b0]) | skip)
          by_cases c65 : t473 = t477
          ·rw [if_pos c65] at H
           have c65b0 : (t473 == t477) = true := beq_iff_eq.mpr c65
           have c65b1 : (t473 != t477) = false := bne_eq_false_iff_eq.mpr c65
           clear c65
           by_cases c66 : t481.toList = t483.toList
           ·rw [if_pos c66] at H
            have c66b0 : (t481.toList == t483.toList) = true := beq_iff_eq.mpr c66
            have c66b1 : (t481.toList != t483.toList) = false := bne_eq_false_iff_eq.mpr c66
            clear c66
            have H' := As9.mk H
            clear H
            have hnb67 := NB474_478.out
            have hnc67 := NB478_474.out
            have hcz68_0 : w60.cell? ⟨gb474, 0, none⟩ = some (.string t471) := (blk_cell BK474.out 0).trans rfl
            have hcz68_1 : w60.cell? ⟨gb474, 1, none⟩ = some (.string t472) := (blk_cell BK474.out 1).trans rfl
            have hfz68_0 := blk_frozen BK474.out 0
            have hfz68_1 := blk_frozen BK474.out 1
            have hcz69_0 : w60.cell? ⟨gb478, 0, none⟩ = some (.string t475) := (blk_cell BK478.out 0).trans rfl
            have hcz69_1 : w60.cell? ⟨gb478, 1, none⟩ = some (.string t476) := (blk_cell BK478.out 1).trans rfl
            have hfz69_0 := blk_frozen BK478.out 0
            have hfz69_1 := blk_frozen BK478.out 1
            go_wp2
            go_meet
            case rel => exact ⟨_, ((t482 != t484)), (by first | rfl | (simp; done) | (simp [*]; done)), H', ⟨by have := HJ6.out; have := HJ26.out; first | omega | exact Nat.le_refl _⟩, ⟨by (with_reducible repeat (first | refine blk_drewN ?_ _ | refine blk_drew ?_ | refine blk_alloc ?_ _)); exact BK474.out⟩, ⟨by (with_reducible repeat (first | refine blk_drewN ?_ _ | refine blk_drew ?_ | refine blk_alloc ?_ _)); exact BK478.out⟩, ⟨by repeat (first | (with_reducible first | exact HB.out | apply bA9 | apply bN9 | apply bD9 | refine below_set ?_ GE474.out | refine below_set ?_ GE478.out) | exact HB.out)⟩⟩
           ·rw [if_neg c66] at H
            have c66b0 : (t481.toList == t483.toList) = false := beq_eq_false_iff_ne.mpr c66
            have c66b1 : (t481.toList != t483.toList) = true := bne_iff_ne.mpr c66
            exact absurd H (by first | exact laws_FnPieces.j0_no _ _ _ _ | exact laws_FnPieces.j1_no _ _ _ _ | exact laws_FnPieces.j2_no _ _ _ | exact laws_FnPieces.j3_no _ _)
          ·rw [if_neg c65] at H
           have c65b0 : (t473 == t477) = false := beq_eq_false_iff_ne.mpr c65
           have c65b1 : (t473 != t477) = true := bne_iff_ne.mpr c65
           exact absurd H (by first | exact laws_FnPieces.j0_no _ _ _ _ | exact laws_FnPieces.j1_no _ _ _ _ | exact laws_FnPieces.j2_no _ _ _ | exact laws_FnPieces.j3_no _ _)
        case rest =>
         clear HC49
         try clear c1
         try clear c2
         try clear p2
         try clear c3
         try clear c4
         try clear c5
         try clear c6
         try clear c7
         try clear c8
         try clear c9
         try clear c10
         try clear c11
         try clear c12
         try clear c12b0
         try clear c12b1
         try clear c15
         try clear c16
         try clear c17
         try clear c18
         try clear c19
         try clear c20
         try clear c21
         try clear c22
         try clear c23
         try clear c24
         try clear c25
         try clear c26
         try clear c27
         try clear c28
         try clear c29
         try clear c37
         try clear c37b0
         try clear c37b1
         try clear c38
         try clear c38b0
         try clear c38b1
         try clear c39
         try clear c39b0
         try clear c39b1
         try clear c40
         try clear c40b0
         try clear c40b1
         try clear c41
         try clear c41b0
         try clear c41b1
         try clear c42
         try clear c56
         try clear c61
         try clear c61b0
         try clear c62
         try clear c65
         try clear c65b0
         try clear c65b1
         try clear c66
         try clear c66b0
         try clear c66b1
         try clear c67
         try clear c70
         try clear c73
         try clear hcz53_0
         try clear hcz53_1
         try clear hcz57_0
         try clear hcz57_1
         try clear hcz63_0
         try clear hcz63_1
         try clear hcz64_0
         try clear hcz64_1
         try clear hcz68_0
         try clear hcz68_1
         try clear hcz69_0
         try clear hcz69_1
         try clear hcz71_0
         try clear hcz71_1
         try clear hcz72_0
         try clear hcz72_1
         try clear hcz74_0
         try clear hcz74_1
         try clear hcz75_0
         try clear hcz75_1
         try clear hfz53_0
         try clear hfz53_1
         try clear hfz57_0
         try clear hfz57_1
         try clear hfz63_0
         try clear hfz63_1
         try clear hfz64_0
         try clear hfz64_1
         try clear hfz68_0
         try clear hfz68_1
         try clear hfz69_0
         try clear hfz69_1
         try clear hfz71_0
         try clear hfz71_1
         try clear hfz72_0
         try clear hfz72_1
         try clear hfz74_0
         try clear hfz74_1
         try clear hfz75_0
         try clear hfz75_1
         try clear p2
         obtain ⟨kq, x199_48, rfl, HA, HJ48, BK474, BK478, HB⟩ := hcut
         cases kq with
         | zero => exact absurd HA.out (by simp [laws_FnPieces.j2])
         | succ kj48 =>
          have H := HA.out
          clear HA
          simp only [laws_FnPieces.j2] at H
          by_cases c76 : x199_48 = true
          ·subst c76
           have H1 : (some false) = some true := by rw [if_pos rfl] at H; exact H
           exact absurd H1 (by simp)
          ·replace c76 := Bool.eq_false_iff.mpr c76
           subst c76
           rw [if_neg (show ¬ (false = true) by decide)] at H
           replace H := Option.bind_eq_some_iff.mp H
           obtain ⟨t485, A770, H⟩ := H
           (try dsimp only at H)
           have A77 := As9.mk A770
           clear A770
           by_cases c78 : t485 = true
           ·subst c78
            rw [if_pos rfl] at H
            by_cases c79 : t445.size + 1 ≤ 9223372036854775807
            ·rw [if_pos c79] at H
             have c79b0 := eq_true c79
             have c79b1 : decide (t445.size + 1 ≤ 9223372036854775807) = true := decide_eq_true c79
             try have c79b2 : (9223372036854775807 < t445.size + 1) = False := eq_false (Nat.not_lt.2 c79)
             replace H := Option.bind_eq_some_iff.mp H
             obtain ⟨⟨t486, t487⟩, A800, H⟩ := H
             (try dsimp only at H)
             have A80 := As9.mk A800
             clear A800
             have HC81 := As9.mk H
             clear H
             go_upto_region 30 with (first | ((with_reducible refine gate_callee (f := 30) rfl ?_); refine goesL_ (some 201) rfl rfl Tryz.func30 (by kernel_rfl) rfl #[.string t443] rfl (by (try simp only [List.map_toArray, List.map_cons, List.map_nil]); first | done | rfl | (simp only [List.length_drop, List.length_take]; rfl)) ?_; (with_reducible refine (impl_TextOk.calls kj48 t443 true _ A77.out).mono ?_); rintro e w82 ⟨rfl, hb⟩; refine ⟨_, rfl, ?_⟩; have n0_ := As9.mk (blk_below (g := gb474) (o := .cells #[.string t471, .string t472] 36 (0, 0)) (by (with_reducible repeat (first | refine blk_drewN ?_ _ | refine blk_drew ?_ | refine blk_alloc ?_ _)); exact BK474.out) hb); have n1_ := As9.mk (blk_below (g := gb478) (o := .cells #[.string t475, .string t476] 36 (0, 0)) (by (with_reducible repeat (first | refine blk_drewN ?_ _ | refine blk_drew ?_ | refine blk_alloc ?_ _)); exact BK478.out) hb); have n2_ := As9.mk (below_step (by repeat (first | (with_reducible first | exact HB.out | apply bA9 | apply bN9 | apply bD9 | refine below_set ?_ GE474.out | refine below_set ?_ GE478.out) | exact HB.out)) hb); clear BK474; clear BK478; clear HB; have BK474 := n0_; have BK478 := n1_; have HB := n2_; clear n0_ n1_ n2_; (try clear hb); (try clear hb2); (try clear hk); (try clear hi)) | ((with_reducible refine gate_callee (f := 22) rfl ?_); refine goesL_ (some 206) rfl rfl Tryz.func22 (by kernel_rfl) rfl #[.string (t445 ++ (⟨#[60]⟩ : ByteArray)), .int .i64 0, .string (⟨#[60]⟩ : ByteArray)] rfl (by (try simp only [List.map_toArray, List.map_cons, List.map_nil]); first | done | rfl | (simp only [List.length_drop, List.length_take]; rfl)) ?_; (with_reducible refine (impl_XmlText.calls kj48 (t445 ++ (⟨#[60]⟩ : ByteArray)) 0 (⟨#[60]⟩ : ByteArray) t486 t487 _ ?side1 ?side2 A80.out).mono ?_); (case side1 => first | exact hL | exact LibOk.below hL (by repeat (first | (with_reducible first | exact HB.out | apply bA9 | apply bN9 | apply bD9 | refine below_set ?_ GE474.out | refine below_set ?_ GE478.out) | exact HB.out))); (case side2 => first | exact hE | exact LibErr.below hE (by repeat (first | (with_reducible first | exact HB.out | apply bA9 | apply bN9 | apply bD9 | refine below_set ?_ GE474.out | refine below_set ?_ GE478.out) | exact HB.out))); rintro e w83 ⟨rfl, hb⟩; refine ⟨_, rfl, ?_⟩; have n0_ := As9.mk (blk_below (g := gb474) (o := .cells #[.string t471, .string t472] 36 (0, 0)) (by (with_reducible repeat (first | refine blk_drewN ?_ _ | refine blk_drew ?_ | refine blk_alloc ?_ _)); exact BK474.out) hb); have n1_ := As9.mk (blk_below (g := gb478) (o := .cells #[.string t475, .string t476] 36 (0, 0)) (by (with_reducible repeat (first | refine blk_drewN ?_ _ | refine blk_drew ?_ | refine blk_alloc ?_ _)); exact BK478.out) hb); have n2_ := As9.mk (below_step (by repeat (first | (with_reducible first | exact HB.out | apply bA9 | apply bN9 | apply bD9 | refine below_set ?_ GE474.out | refine below_set ?_ GE478.out) | exact HB.out)) hb); clear BK474; clear BK478; clear HB; have BK474 := n0_; have BK478 := n1_; have HB := n2_; clear n0_ n1_ n2_; (try clear hb); (try clear hb2); (try clear hk); (try clear hi)))
             (try simp only [Act.put, List.setIfInBounds_toArray, List.set_cons_zero, List.set_cons_succ])
             go_cut [217] (fun v217 wc => ∃ (kq : Nat) (x217_80 : Bool), v217 = .bool x217_80 ∧ As9 (laws_FnPieces.j3 kq t443 x217_80 = some true) ∧ As9 (kq ≤ kj48) ∧ As9 (wc.heap[gb474]? = some (.cells #[.string t471, .string t472] 36 (0, 0))) ∧ As9 (wc.heap[gb478]? = some (.cells #[.string t475, .string t476] 36 (0, 0))) ∧ As9 (Below w.heap.size w wc))
             case first =>
              have H := HC81.out
              clear HC81
              by_cases c84 : t486.toList = t443.toList
              ·rw [if_pos c84] at H
               have c84b0 : (t486.toList == t443.toList) = true := beq_iff_eq.mpr c84
               have c84b1 : (t486.toList != t443.toList) = false := bne_eq_false_iff_eq.mpr c84
               clear c84
               (first | rw [c84b0] | (simp only [i64_w, i32_w]; rw [c84b0]) | skip)
               have H' := As9.mk H
               clear H
               go_wp2
               go_meet
               case rel => exact ⟨_, ((t487 != (t445.size : Int))), (by first | rfl | (simp; done) | (simp [*]; done)), H', ⟨by have := HJ6.out; have := HJ26.out; have := HJ48.out; first | omega | exact Nat.le_refl _⟩, ⟨by (with_reducible repeat (first | refine blk_drewN ?_ _ | refine blk_drew ?_ | refine blk_alloc ?_ _)); exact BK474.out⟩, ⟨by (with_reducible repeat (first | refine blk_drewN ?_ _ | refine blk_drew ?_ | refine blk_alloc ?_ _)); exact BK478.out⟩, ⟨by repeat (first | (with_reducible first | exact HB.out | apply bA9 | apply bN9 | apply bD9 | refine below_set ?_ GE474.out | refine below_set ?_ GE478.out) | exact HB.out)⟩⟩
              ·rw [if_neg c84] at H
               have c84b0 : (t486.toList == t443.toList) = false := beq_eq_false_iff_ne.mpr c84
               have c84b1 : (t486.toList != t443.toList) = true := bne_iff_ne.mpr c84
               exact absurd H (by first | exact laws_FnPieces.j0_no _ _ _ _ | exact laws_FnPieces.j1_no _ _ _ _ | exact laws_FnPieces.j2_no _ _ _ | exact laws_FnPieces.j3_no _ _)
             case rest =>
              clear HC81
              try clear c1
              try clear c2
              try clear p2
              try clear c3
              try clear c4
              try clear c5
              try clear c6
              try clear c7
              try clear c8
              try clear c9
              try clear c10
              try clear c11
              try clear c12
              try clear c12b0
              try clear c12b1
              try clear c15
              try clear c16
              try clear c17
              try clear c18
              try clear c19
              try clear c20
              try clear c21
              try clear c22
              try clear c23
              try clear c24
              try clear c25
              try clear c26
              try clear c27
              try clear c28
              try clear c29
              try clear c30
              try clear c37
              try clear c37b0
              try clear c37b1
              try clear c38
              try clear c38b0
              try clear c38b1
              try clear c39
              try clear c39b0
              try clear c39b1
              try clear c40
              try clear c40b0
              try clear c40b1
              try clear c41
              try clear c41b0
              try clear c41b1
              try clear c42
              try clear c56
              try clear c61
              try clear c61b0
              try clear c62
              try clear c65
              try clear c65b0
              try clear c65b1
              try clear c66
              try clear c66b0
              try clear c66b1
              try clear c67
              try clear c70
              try clear c73
              try clear c76
              try clear c78
              try clear c79
              try clear c79b0
              try clear c79b1
              try clear c79b2
              try clear c84
              try clear c84b0
              try clear c84b1
              try clear hcz53_0
              try clear hcz53_1
              try clear hcz57_0
              try clear hcz57_1
              try clear hcz63_0
              try clear hcz63_1
              try clear hcz64_0
              try clear hcz64_1
              try clear hcz68_0
              try clear hcz68_1
              try clear hcz69_0
              try clear hcz69_1
              try clear hcz71_0
              try clear hcz71_1
              try clear hcz72_0
              try clear hcz72_1
              try clear hcz74_0
              try clear hcz74_1
              try clear hcz75_0
              try clear hcz75_1
              try clear hfz53_0
              try clear hfz53_1
              try clear hfz57_0
              try clear hfz57_1
              try clear hfz63_0
              try clear hfz63_1
              try clear hfz64_0
              try clear hfz64_1
              try clear hfz68_0
              try clear hfz68_1
              try clear hfz69_0
              try clear hfz69_1
              try clear hfz71_0
              try clear hfz71_1
              try clear hfz72_0
              try clear hfz72_1
              try clear hfz74_0
              try clear hfz74_1
              try clear hfz75_0
              try clear hfz75_1
              try clear p2
              obtain ⟨kq, x217_80, rfl, HA, HJ80, BK474, BK478, HB⟩ := hcut
              cases kq with
              | zero => exact absurd HA.out (by simp [laws_FnPieces.j3])
              | succ kj80 =>
               have H := HA.out
               clear HA
               simp only [laws_FnPieces.j3] at H
               by_cases c85 : x217_80 = true
               ·subst c85
                have H1 : (some false) = some true := by rw [if_pos rfl] at H; exact H
                exact absurd H1 (by simp)
               ·replace c85 := Bool.eq_false_iff.mpr c85
                subst c85
                rw [if_neg (show ¬ (false = true) by decide)] at H
                replace H := Option.bind_eq_some_iff.mp H
                obtain ⟨t488, A860, H⟩ := H
                (try dsimp only at H)
                have A86 := As9.mk A860
                clear A860
                by_cases c87 : 3 + t488.size ≤ 9223372036854775807
                ·rw [if_pos c87] at H
                 have c87b0 := eq_true c87
                 have c87b1 : decide (3 + t488.size ≤ 9223372036854775807) = true := decide_eq_true c87
                 try have c87b2 : (9223372036854775807 < 3 + t488.size) = False := eq_false (Nat.not_lt.2 c87)
                 by_cases c88 : ((⟨#[107, 61, 34]⟩ : ByteArray) ++ t488).size + 2 ≤ 9223372036854775807
                 ·rw [if_pos c88] at H
                  have c88b0 := eq_true c88
                  have c88b1 : decide (((⟨#[107, 61, 34]⟩ : ByteArray) ++ t488).size + 2 ≤ 9223372036854775807) = true := decide_eq_true c88
                  try have c88b2 : (9223372036854775807 < ((⟨#[107, 61, 34]⟩ : ByteArray) ++ t488).size + 2) = False := eq_false (Nat.not_lt.2 c88)
                  (try (have c88b23 := c88b2; simp only [ByteArray.size_append, show (⟨#[107, 61, 34]⟩ : ByteArray).size = 3 from rfl] at c88b23))
                  replace H := Option.bind_eq_some_iff.mp H
                  obtain ⟨⟨t489, t490, t491⟩, A890, H⟩ := H
                  (try dsimp only at H)
                  have A89 := As9.mk A890
                  clear A890
                  by_cases c90 : t490.toList = t443.toList
                  ·rw [if_pos c90] at H
                   have c90b0 : (t490.toList == t443.toList) = true := beq_iff_eq.mpr c90
                   have c90b1 : (t490.toList != t443.toList) = false := bne_eq_false_iff_eq.mpr c90
                   clear c90
                   replace H := Option.bind_eq_some_iff.mp H
                   obtain ⟨t493, A910, H⟩ := H
                   (try dsimp only at H)
                   have A91 := As9.mk A910
                   clear A910
                   have hE_ := Option.some.inj H
                   first
                    | exact Bool.noConfusion hE_
                    |
                     go_wp2_with (first | ((with_reducible refine gate_callee (f := 10) rfl ?_); refine goesL_ (some 220) rfl rfl Tryz.func10 (by kernel_rfl) rfl #[.string t443, .bool true] rfl (by (try simp only [List.map_toArray, List.map_cons, List.map_nil]); first | done | rfl | (simp only [List.length_drop, List.length_take]; rfl)) ?_; (with_reducible refine (impl_Escape.calls t443 true t488 _ ?side1 A86.out).mono ?_); (case side1 => first | exact hL | exact LibOk.below hL (by repeat (first | (with_reducible first | exact HB.out | apply bA9 | apply bN9 | apply bD9 | refine below_set ?_ GE474.out | refine below_set ?_ GE478.out) | exact HB.out))); rintro e w92 ⟨rfl, hb⟩; refine ⟨_, rfl, ?_⟩; have n0_ := As9.mk (blk_below (g := gb474) (o := .cells #[.string t471, .string t472] 36 (0, 0)) (by (with_reducible repeat (first | refine blk_drewN ?_ _ | refine blk_drew ?_ | refine blk_alloc ?_ _)); exact BK474.out) hb); have n1_ := As9.mk (blk_below (g := gb478) (o := .cells #[.string t475, .string t476] 36 (0, 0)) (by (with_reducible repeat (first | refine blk_drewN ?_ _ | refine blk_drew ?_ | refine blk_alloc ?_ _)); exact BK478.out) hb); have n2_ := As9.mk (below_step (by repeat (first | (with_reducible first | exact HB.out | apply bA9 | apply bN9 | apply bD9 | refine below_set ?_ GE474.out | refine below_set ?_ GE478.out) | exact HB.out)) hb); clear BK474; clear BK478; clear HB; have BK474 := n0_; have BK478 := n1_; have HB := n2_; clear n0_ n1_ n2_; (try clear hb); (try clear hb2); (try clear hk); (try clear hi)) | ((with_reducible refine gate_callee (f := 25) rfl ?_); refine goesL_ (some 223) rfl rfl Tryz.func25 (by kernel_rfl) rfl #[.string (((⟨#[107, 61, 34]⟩ : ByteArray) ++ t488) ++ (⟨#[34, 32]⟩ : ByteArray)), .int .i64 0] rfl (by (try simp only [List.map_toArray, List.map_cons, List.map_nil]); first | done | rfl | (simp only [List.length_drop, List.length_take]; rfl)) ?_; (with_reducible refine (impl_XmlAttr.calls kj80 (((⟨#[107, 61, 34]⟩ : ByteArray) ++ t488) ++ (⟨#[34, 32]⟩ : ByteArray)) 0 t489 t490 t491 _ ?side1 ?side2 A89.out).mono ?_); (case side1 => first | exact hL | exact LibOk.below hL (by repeat (first | (with_reducible first | exact HB.out | apply bA9 | apply bN9 | apply bD9 | refine below_set ?_ GE474.out | refine below_set ?_ GE478.out) | exact HB.out))); (case side2 => first | exact hE | exact LibErr.below hE (by repeat (first | (with_reducible first | exact HB.out | apply bA9 | apply bN9 | apply bD9 | refine below_set ?_ GE474.out | refine below_set ?_ GE478.out) | exact HB.out))); rintro e w93 ⟨rfl, hb⟩; refine ⟨_, rfl, ?_⟩; have n0_ := As9.mk (blk_below (g := gb474) (o := .cells #[.string t471, .string t472] 36 (0, 0)) (by (with_reducible repeat (first | refine blk_drewN ?_ _ | refine blk_drew ?_ | refine blk_alloc ?_ _)); exact BK474.out) hb); have n1_ := As9.mk (blk_below (g := gb478) (o := .cells #[.string t475, .string t476] 36 (0, 0)) (by (with_reducible repeat (first | refine blk_drewN ?_ _ | refine blk_drew ?_ | refine blk_alloc ?_ _)); exact BK478.out) hb); have n2_ := As9.mk (below_step (by repeat (first | (with_reducible first | exact HB.out | apply bA9 | apply bN9 | apply bD9 | refine below_set ?_ GE474.out | refine below_set ?_ GE478.out) | exact HB.out)) hb); clear BK474; clear BK478; clear HB; have BK474 := n0_; have BK478 := n1_; have HB := n2_; clear n0_ n1_ n2_; (try clear hb); (try clear hb2); (try clear hk); (try clear hi)) | ((with_reducible refine gate_dst (N := 40) rfl ?_); (try (refine gate_guard (by rfl) ?_; dsimp only)); refine box_event ?hg (N := 40) ?hd (cs := #[.string (⟨#[]⟩ : ByteArray), .string (⟨#[]⟩ : ByteArray)]) (t := 36) ?hr ?_; (case hd => rfl); (case hg => rfl); (case hr => first | (go_simp; done) | (go_simp; rfl)); intro gb492 hg w94 hbox hb; have n0_ := As9.mk (blk_below (g := gb474) (o := .cells #[.string t471, .string t472] 36 (0, 0)) (by (with_reducible repeat (first | refine blk_drewN ?_ _ | refine blk_drew ?_ | refine blk_alloc ?_ _)); exact BK474.out) hb); have n1_ := As9.mk (blk_below (g := gb478) (o := .cells #[.string t475, .string t476] 36 (0, 0)) (by (with_reducible repeat (first | refine blk_drewN ?_ _ | refine blk_drew ?_ | refine blk_alloc ?_ _)); exact BK478.out) hb); have n2_ := As9.mk (below_step (by repeat (first | (with_reducible first | exact HB.out | apply bA9 | apply bN9 | apply bD9 | refine below_set ?_ GE474.out | refine below_set ?_ GE478.out) | exact HB.out)) hb); have n3_ := As9.mk (hbox); have n4_ := As9.mk ((by rw [hg]; exact (below_size (by repeat (first | (with_reducible first | exact HB.out | apply bA9 | apply bN9 | apply bD9 | refine below_set ?_ GE474.out | refine below_set ?_ GE478.out) | exact HB.out))) : w.heap.size ≤ gb492)); have n5_ := As9.mk ((by rw [hg]; exact (below_size (by repeat (first | (with_reducible first | exact HB.out | apply bA9 | apply bN9 | apply bD9 | refine below_set ?_ GE474.out | refine below_set ?_ GE478.out) | exact HB.out))) : w.heap.size ≤ gb492)); have n6_ := As9.mk ((by rw [hg]; exact Nat.ne_of_lt (blk_lt (g := gb474) (o := .cells #[.string t471, .string t472] 36 (0, 0)) (by (with_reducible repeat (first | refine blk_drewN ?_ _ | refine blk_drew ?_ | refine blk_alloc ?_ _)); exact BK474.out)) : gb474 ≠ gb492)); have n7_ := As9.mk ((by rw [hg]; exact Nat.ne_of_gt (blk_lt (g := gb474) (o := .cells #[.string t471, .string t472] 36 (0, 0)) (by (with_reducible repeat (first | refine blk_drewN ?_ _ | refine blk_drew ?_ | refine blk_alloc ?_ _)); exact BK474.out)) : gb492 ≠ gb474)); have n8_ := As9.mk ((by rw [hg]; exact Nat.ne_of_lt (blk_lt (g := gb478) (o := .cells #[.string t475, .string t476] 36 (0, 0)) (by (with_reducible repeat (first | refine blk_drewN ?_ _ | refine blk_drew ?_ | refine blk_alloc ?_ _)); exact BK478.out)) : gb478 ≠ gb492)); have n9_ := As9.mk ((by rw [hg]; exact Nat.ne_of_gt (blk_lt (g := gb478) (o := .cells #[.string t475, .string t476] 36 (0, 0)) (by (with_reducible repeat (first | refine blk_drewN ?_ _ | refine blk_drew ?_ | refine blk_alloc ?_ _)); exact BK478.out)) : gb492 ≠ gb478)); clear BK474; clear BK478; clear HB; have BK474 := n0_; have BK478 := n1_; have HB := n2_; have BK492 := n3_; have GW492 := n4_; have GE492 := n5_; have NB474_492 := n6_; have NB492_474 := n7_; have NB478_492 := n8_; have NB492_478 := n9_; clear n0_ n1_ n2_ n3_ n4_ n5_ n6_ n7_ n8_ n9_; clear hb hbox hg; have hnb95 := NB492_474.out; have hnc95 := NB474_492.out; have hnb96 := NB492_478.out; have hnc96 := NB478_492.out; have hcz97_0 : w94.cell? ⟨gb492, 0, none⟩ = some (.string (⟨#[]⟩ : ByteArray)) := (blk_cell BK492.out 0).trans rfl; have hcz97_1 : w94.cell? ⟨gb492, 1, none⟩ = some (.string (⟨#[]⟩ : ByteArray)) := (blk_cell BK492.out 1).trans rfl; have hfz97_0 := blk_frozen BK492.out 0; have hfz97_1 := blk_frozen BK492.out 1) | (go_at_call 10; (with_reducible refine (impl_Escape.calls t443 true t493 _ ?side1 A91.out).mono ?_); (case side1 => first | exact hL | exact LibOk.below hL (by repeat (first | (with_reducible first | exact HB.out | apply bA9 | apply bN9 | apply bD9 | refine below_set ?_ GE474.out | refine below_set ?_ GE478.out | refine below_set ?_ GE492.out) | exact HB.out))); rintro e w98 ⟨rfl, hb⟩; have n0_ := As9.mk (blk_below (g := gb474) (o := .cells #[.string t471, .string t472] 36 (0, 0)) (by (with_reducible repeat (first | refine blk_drewN ?_ _ | refine blk_drew ?_ | refine blk_alloc ?_ _)); refine blk_far ?_ NB474_492.out _; (with_reducible repeat (first | refine blk_drewN ?_ _ | refine blk_drew ?_ | refine blk_alloc ?_ _)); refine blk_far ?_ NB474_492.out _; (with_reducible repeat (first | refine blk_drewN ?_ _ | refine blk_drew ?_ | refine blk_alloc ?_ _)); exact BK474.out) hb); have n1_ := As9.mk (blk_below (g := gb478) (o := .cells #[.string t475, .string t476] 36 (0, 0)) (by (with_reducible repeat (first | refine blk_drewN ?_ _ | refine blk_drew ?_ | refine blk_alloc ?_ _)); refine blk_far ?_ NB478_492.out _; (with_reducible repeat (first | refine blk_drewN ?_ _ | refine blk_drew ?_ | refine blk_alloc ?_ _)); refine blk_far ?_ NB478_492.out _; (with_reducible repeat (first | refine blk_drewN ?_ _ | refine blk_drew ?_ | refine blk_alloc ?_ _)); exact BK478.out) hb); have n2_ := As9.mk (blk_below (g := gb492) (o := .cells #[.string t489, .string t490] 36 (0, 0)) (by (with_reducible repeat (first | refine blk_drewN ?_ _ | refine blk_drew ?_ | refine blk_alloc ?_ _)); refine blk_put (cs := #[.string t489, .string (⟨#[]⟩ : ByteArray)]) ?_ 1 _ rfl; (with_reducible repeat (first | refine blk_drewN ?_ _ | refine blk_drew ?_ | refine blk_alloc ?_ _)); refine blk_put (cs := #[.string (⟨#[]⟩ : ByteArray), .string (⟨#[]⟩ : ByteArray)]) ?_ 0 _ rfl; (with_reducible repeat (first | refine blk_drewN ?_ _ | refine blk_drew ?_ | refine blk_alloc ?_ _)); exact BK492.out) hb); have n3_ := As9.mk (below_step (by repeat (first | (with_reducible first | exact HB.out | apply bA9 | apply bN9 | apply bD9 | refine below_set ?_ GE474.out | refine below_set ?_ GE478.out | refine below_set ?_ GE492.out) | exact HB.out)) hb); clear BK474; clear BK478; clear BK492; clear HB; have BK474 := n0_; have BK478 := n1_; have BK492 := n2_; have HB := n3_; clear n0_ n1_ n2_ n3_; (try clear hb); (try clear hb2); (try clear hk); (try clear hi)))
                     go_ret
                     exact ⟨by first | rfl | (simp <;> rfl) | (simp [*] <;> rfl), by repeat (first | (with_reducible first | exact HB.out | apply bA9 | apply bN9 | apply bD9 | refine below_set ?_ GE474.out | refine below_set ?_ GE478.out | refine below_set ?_ GE492.out) | exact HB.out)⟩
                  ·rw [if_neg c90] at H
                   have c90b0 : (t490.toList == t443.toList) = false := beq_eq_false_iff_ne.mpr c90
                   have c90b1 : (t490.toList != t443.toList) = true := bne_iff_ne.mpr c90
                   have hE_ := Option.some.inj H
                   first
                    | exact Bool.noConfusion hE_
                    |
                     go_wp2_with (first | ((with_reducible refine gate_callee (f := 10) rfl ?_); refine goesL_ (some 220) rfl rfl Tryz.func10 (by kernel_rfl) rfl #[.string t443, .bool true] rfl (by (try simp only [List.map_toArray, List.map_cons, List.map_nil]); first | done | rfl | (simp only [List.length_drop, List.length_take]; rfl)) ?_; (with_reducible refine (impl_Escape.calls t443 true t488 _ ?side1 A86.out).mono ?_); (case side1 => first | exact hL | exact LibOk.below hL (by repeat (first | (with_reducible first | exact HB.out | apply bA9 | apply bN9 | apply bD9 | refine below_set ?_ GE474.out | refine below_set ?_ GE478.out) | exact HB.out))); rintro e w99 ⟨rfl, hb⟩; refine ⟨_, rfl, ?_⟩; have n0_ := As9.mk (blk_below (g := gb474) (o := .cells #[.string t471, .string t472] 36 (0, 0)) (by (with_reducible repeat (first | refine blk_drewN ?_ _ | refine blk_drew ?_ | refine blk_alloc ?_ _)); exact BK474.out) hb); have n1_ := As9.mk (blk_below (g := gb478) (o := .cells #[.string t475, .string t476] 36 (0, 0)) (by (with_reducible repeat (first | refine blk_drewN ?_ _ | refine blk_drew ?_ | refine blk_alloc ?_ _)); exact BK478.out) hb); have n2_ := As9.mk (below_step (by repeat (first | (with_reducible first | exact HB.out | apply bA9 | apply bN9 | apply bD9 | refine below_set ?_ GE474.out | refine below_set ?_ GE478.out) | exact HB.out)) hb); clear BK474; clear BK478; clear HB; have BK474 := n0_; have BK478 := n1_; have HB := n2_; clear n0_ n1_ n2_; (try clear hb); (try clear hb2); (try clear hk); (try clear hi)) | ((with_reducible refine gate_callee (f := 25) rfl ?_); refine goesL_ (some 223) rfl rfl Tryz.func25 (by kernel_rfl) rfl #[.string (((⟨#[107, 61, 34]⟩ : ByteArray) ++ t488) ++ (⟨#[34, 32]⟩ : ByteArray)), .int .i64 0] rfl (by (try simp only [List.map_toArray, List.map_cons, List.map_nil]); first | done | rfl | (simp only [List.length_drop, List.length_take]; rfl)) ?_; (with_reducible refine (impl_XmlAttr.calls kj80 (((⟨#[107, 61, 34]⟩ : ByteArray) ++ t488) ++ (⟨#[34, 32]⟩ : ByteArray)) 0 t489 t490 t491 _ ?side1 ?side2 A89.out).mono ?_); (case side1 => first | exact hL | exact LibOk.below hL (by repeat (first | (with_reducible first | exact HB.out | apply bA9 | apply bN9 | apply bD9 | refine below_set ?_ GE474.out | refine below_set ?_ GE478.out) | exact HB.out))); (case side2 => first | exact hE | exact LibErr.below hE (by repeat (first | (with_reducible first | exact HB.out | apply bA9 | apply bN9 | apply bD9 | refine below_set ?_ GE474.out | refine below_set ?_ GE478.out) | exact HB.out))); rintro e w100 ⟨rfl, hb⟩; refine ⟨_, rfl, ?_⟩; have n0_ := As9.mk (blk_below (g := gb474) (o := .cells #[.string t471, .string t472] 36 (0, 0)) (by (with_reducible repeat (first | refine blk_drewN ?_ _ | refine blk_drew ?_ | refine blk_alloc ?_ _)); exact BK474.out) hb); have n1_ := As9.mk (blk_below (g := gb478) (o := .cells #[.string t475, .string t476] 36 (0, 0)) (by (with_reducible repeat (first | refine blk_drewN ?_ _ | refine blk_drew ?_ | refine blk_alloc ?_ _)); exact BK478.out) hb); have n2_ := As9.mk (below_step (by repeat (first | (with_reducible first | exact HB.out | apply bA9 | apply bN9 | apply bD9 | refine below_set ?_ GE474.out | refine below_set ?_ GE478.out) | exact HB.out)) hb); clear BK474; clear BK478; clear HB; have BK474 := n0_; have BK478 := n1_; have HB := n2_; clear n0_ n1_ n2_; (try clear hb); (try clear hb2); (try clear hk); (try clear hi)) | ((with_reducible refine gate_dst (N := 40) rfl ?_); (try (refine gate_guard (by rfl) ?_; dsimp only)); refine box_event ?hg (N := 40) ?hd (cs := #[.string (⟨#[]⟩ : ByteArray), .string (⟨#[]⟩ : ByteArray)]) (t := 36) ?hr ?_; (case hd => rfl); (case hg => rfl); (case hr => first | (go_simp; done) | (go_simp; rfl)); intro gb492 hg w101 hbox hb; have n0_ := As9.mk (blk_below (g := gb474) (o := .cells #[.string t471, .string t472] 36 (0, 0)) (by (with_reducible repeat (first | refine blk_drewN ?_ _ | refine blk_drew ?_ | refine blk_alloc ?_ _)); exact BK474.out) hb); have n1_ := As9.mk (blk_below (g := gb478) (o := .cells #[.string t475, .string t476] 36 (0, 0)) (by (with_reducible repeat (first | refine blk_drewN ?_ _ | refine blk_drew ?_ | refine blk_alloc ?_ _)); exact BK478.out) hb); have n2_ := As9.mk (below_step (by repeat (first | (with_reducible first | exact HB.out | apply bA9 | apply bN9 | apply bD9 | refine below_set ?_ GE474.out | refine below_set ?_ GE478.out) | exact HB.out)) hb); have n3_ := As9.mk (hbox); have n4_ := As9.mk ((by rw [hg]; exact (below_size (by repeat (first | (with_reducible first | exact HB.out | apply bA9 | apply bN9 | apply bD9 | refine below_set ?_ GE474.out | refine below_set ?_ GE478.out) | exact HB.out))) : w.heap.size ≤ gb492)); have n5_ := As9.mk ((by rw [hg]; exact (below_size (by repeat (first | (with_reducible first | exact HB.out | apply bA9 | apply bN9 | apply bD9 | refine below_set ?_ GE474.out | refine below_set ?_ GE478.out) | exact HB.out))) : w.heap.size ≤ gb492)); have n6_ := As9.mk ((by rw [hg]; exact Nat.ne_of_lt (blk_lt (g := gb474) (o := .cells #[.string t471, .string t472] 36 (0, 0)) (by (with_reducible repeat (first | refine blk_drewN ?_ _ | refine blk_drew ?_ | refine blk_alloc ?_ _)); exact BK474.out)) : gb474 ≠ gb492)); have n7_ := As9.mk ((by rw [hg]; exact Nat.ne_of_gt (blk_lt (g := gb474) (o := .cells #[.string t471, .string t472] 36 (0, 0)) (by (with_reducible repeat (first | refine blk_drewN ?_ _ | refine blk_drew ?_ | refine blk_alloc ?_ _)); exact BK474.out)) : gb492 ≠ gb474)); have n8_ := As9.mk ((by rw [hg]; exact Nat.ne_of_lt (blk_lt (g := gb478) (o := .cells #[.string t475, .string t476] 36 (0, 0)) (by (with_reducible repeat (first | refine blk_drewN ?_ _ | refine blk_drew ?_ | refine blk_alloc ?_ _)); exact BK478.out)) : gb478 ≠ gb492)); have n9_ := As9.mk ((by rw [hg]; exact Nat.ne_of_gt (blk_lt (g := gb478) (o := .cells #[.string t475, .string t476] 36 (0, 0)) (by (with_reducible repeat (first | refine blk_drewN ?_ _ | refine blk_drew ?_ | refine blk_alloc ?_ _)); exact BK478.out)) : gb492 ≠ gb478)); clear BK474; clear BK478; clear HB; have BK474 := n0_; have BK478 := n1_; have HB := n2_; have BK492 := n3_; have GW492 := n4_; have GE492 := n5_; have NB474_492 := n6_; have NB492_474 := n7_; have NB478_492 := n8_; have NB492_478 := n9_; clear n0_ n1_ n2_ n3_ n4_ n5_ n6_ n7_ n8_ n9_; clear hb hbox hg; have hnb102 := NB492_474.out; have hnc102 := NB474_492.out; have hnb103 := NB492_478.out; have hnc103 := NB478_492.out; have hcz104_0 : w101.cell? ⟨gb492, 0, none⟩ = some (.string (⟨#[]⟩ : ByteArray)) := (blk_cell BK492.out 0).trans rfl; have hcz104_1 : w101.cell? ⟨gb492, 1, none⟩ = some (.string (⟨#[]⟩ : ByteArray)) := (blk_cell BK492.out 1).trans rfl; have hfz104_0 := blk_frozen BK492.out 0; have hfz104_1 := blk_frozen BK492.out 1))
                     go_ret
                     exact ⟨by first | rfl | (simp <;> rfl) | (simp [*] <;> rfl), by repeat (first | (with_reducible first | exact HB.out | apply bA9 | apply bN9 | apply bD9 | refine below_set ?_ GE474.out | refine below_set ?_ GE478.out | refine below_set ?_ GE492.out) | exact HB.out)⟩
                 ·rw [if_neg c88] at H
                  exact absurd H (by simp)
                ·rw [if_neg c87] at H
                 exact absurd H (by simp)
            ·rw [if_neg c79] at H
             exact absurd H (by simp)
           ·replace c78 := Bool.eq_false_iff.mpr c78
            subst c78
            have H1 : (some true) = some true := rfl
            clear H
            have H := H1
            clear H1
            have hE_ := Option.some.inj H
            first
             | exact Bool.noConfusion hE_
             |
              go_wp2_with (first | ((with_reducible refine gate_callee (f := 30) rfl ?_); refine goesL_ (some 201) rfl rfl Tryz.func30 (by kernel_rfl) rfl #[.string t443] rfl (by (try simp only [List.map_toArray, List.map_cons, List.map_nil]); first | done | rfl | (simp only [List.length_drop, List.length_take]; rfl)) ?_; (with_reducible refine (impl_TextOk.calls kj48 t443 false _ A77.out).mono ?_); rintro e w105 ⟨rfl, hb⟩; refine ⟨_, rfl, ?_⟩; have n0_ := As9.mk (blk_below (g := gb474) (o := .cells #[.string t471, .string t472] 36 (0, 0)) (by (with_reducible repeat (first | refine blk_drewN ?_ _ | refine blk_drew ?_ | refine blk_alloc ?_ _)); exact BK474.out) hb); have n1_ := As9.mk (blk_below (g := gb478) (o := .cells #[.string t475, .string t476] 36 (0, 0)) (by (with_reducible repeat (first | refine blk_drewN ?_ _ | refine blk_drew ?_ | refine blk_alloc ?_ _)); exact BK478.out) hb); have n2_ := As9.mk (below_step (by repeat (first | (with_reducible first | exact HB.out | apply bA9 | apply bN9 | apply bD9 | refine below_set ?_ GE474.out | refine below_set ?_ GE478.out) | exact HB.out)) hb); clear BK474; clear BK478; clear HB; have BK474 := n0_; have BK478 := n1_; have HB := n2_; clear n0_ n1_ n2_; (try clear hb); (try clear hb2); (try clear hk); (try clear hi)))
              go_ret
              exact ⟨by first | rfl | (simp <;> rfl) | (simp [*] <;> rfl), by repeat (first | (with_reducible first | exact HB.out | apply bA9 | apply bN9 | apply bD9 | refine below_set ?_ GE474.out | refine below_set ?_ GE478.out) | exact HB.out)⟩
def laws_FnPieces.Pure : Prop := ∀ (l0 : List Int), l0.length ≤ maxLen → l0.length * 1 ≤ 140737488351232 → (∀ x ∈ l0, (Lit.int .u8 x).wf = true) → ∃ k, laws_FnPieces.f k l0 = some true
theorem laws_FnPieces.walk (P : laws_FnPieces.Pure) (a0 : Option Addr) (len0 cap0 : Nat) (z0 : List Int) (w : World) (w0 : (a0 = none ∧ len0 = 0 ∧ cap0 = 0 ∧ z0 = []) ∨ ∃ x, a0 = some x ∧ len0 ≤ cap0 ∧ cap0 ≤ maxLen ∧ z0.length = cap0 ∧ (∀ i, i < z0.length → w.cell? (x.add i) = some (.int .u8 (z0.getD i 0))) ∧ ∀ n ∈ z0, (Lit.int .u8 n).wf = true) (y0 : len0 * 1 ≤ 140737488351232) (hL : LibOk w) (hE : LibErr w) :
  Calls Tryz.prog 3 #[.slice a0 len0 cap0] w fun e w' => e = .returned (.bool true) ∧ Below w.heap.size w w' := by
 obtain ⟨l0, rfl, hr0, hm0, hw0, hc0⟩ := ReadsInt.ofRowC w0
 obtain ⟨k, h⟩ := P l0 hm0 y0 hw0
 refine (laws_FnPieces.calls k _ _ l0 w (Kd.C_of_reads (d := (0 : Int)) (h1 := fun _ => rfl) hr0) hc0 hL hE h).mono ?_
 rintro e w' ⟨rfl, hd⟩
 exact ⟨rfl, hd⟩
end Go.Proofs.YtkmmoheeoblmnaaGreatDoor.A
