-- joined by wip/tools/merge.py
import Derived.Test.YtlocaaebgghkbaaMDoc0
import Derived.Test.YtlocaaebgghkbaaMDoc1
namespace Go.Proofs.Ytlocaaebgghkbaa.A
open Go.RowKit Go.Proofs.YtlocaaebgghkbaaW.PrintWords Go.Proofs.YtlocaaebgghkbaaW.PrintLast Go.Proofs.YtlocaaebgghkbaaW.PrintMore
attribute [local go_sem] max2_int min2_int max_two min_two max_three min_three max_four min_four   -- for this text's walks alone
set_option linter.unusedVariables false
set_option linter.unusedSimpArgs false

/-! ### impl_IsLetter: function 166 -/
def impl_IsLetter.f (a0 : Int) : Option (Bool) := (impl_inRange.f a0 97 122).bind fun t372 => (if t372 = true then (some true) else ((impl_inRange.f a0 65 90).bind fun t373 => (some t373)))
set_option maxHeartbeats 8000000 in
set_option maxRecDepth 100000 in
theorem impl_IsLetter.calls (a0 : Int) (r : Bool) (w : World) (h : impl_IsLetter.f a0 = some r) :
  Calls Try.prog 166 #[.int .i64 a0] w fun e w' => e = .returned (.bool r) ∧ Drawn0 w w' := by
 have H : ((impl_inRange.f a0 97 122).bind fun t372 => (if t372 = true then (some true) else ((impl_inRange.f a0 65 90).bind fun t373 => (some t373)))) = some r := h
 clear h
 replace H := Option.bind_eq_some_iff.mp H
 obtain ⟨t372, A20, H⟩ := H
 replace H : (if t372 = true then (some true) else ((impl_inRange.f a0 65 90).bind fun t373 => (some t373))) = some r := H
 have A2 := Aside0.mk A20
 clear A20
 by_cases c3 : t372 = true
 ·subst c3
  have H1 : (some true) = some r := by rw [if_pos rfl] at H; exact H
  clear H
  have H := H1
  clear H1
  obtain rfl := Option.some.inj H
  go_enter Try.func166, Try.ntmps166
  go_wp2_with (first | ((with_reducible refine gate_callee (f := 48) rfl ?_); refine goesL_ (some 4) rfl rfl Try.func48 (by kernel_rfl) rfl #[.int .i64 a0, .int .i64 97, .int .i64 122] rfl (by (try simp only [List.map_toArray, List.map_cons, List.map_nil]); first | done | rfl | (simp only [List.length_drop, List.length_take]; rfl)) ?_; (with_reducible refine (impl_inRange.calls a0 97 122 true _ A2.out).mono ?_); rintro e w' ⟨rfl, ⟨nd, rfl⟩⟩; refine ⟨_, rfl, ?_⟩))
  go_ret
  exact ⟨by first | rfl | (simp; done) | (simp [*]; done), by repeat (first | exact Drawn0.refl _ | apply Drawn0.step)⟩
 ·replace c3 := Bool.eq_false_iff.mpr c3
  subst c3
  have H1 : ((impl_inRange.f a0 65 90).bind fun t373 => (some t373)) = some r := by rw [if_neg (show ¬ (false = true) by decide)] at H; exact H
  clear H
  have H := H1
  clear H1
  replace H := Option.bind_eq_some_iff.mp H
  obtain ⟨t373, A40, H⟩ := H
  replace H : (some t373) = some r := H
  have A4 := Aside0.mk A40
  clear A40
  obtain rfl := Option.some.inj H
  go_enter Try.func166, Try.ntmps166
  go_wp2_with (first | ((with_reducible refine gate_callee (f := 48) rfl ?_); refine goesL_ (some 4) rfl rfl Try.func48 (by kernel_rfl) rfl #[.int .i64 a0, .int .i64 97, .int .i64 122] rfl (by (try simp only [List.map_toArray, List.map_cons, List.map_nil]); first | done | rfl | (simp only [List.length_drop, List.length_take]; rfl)) ?_; (with_reducible refine (impl_inRange.calls a0 97 122 false _ A2.out).mono ?_); rintro e w' ⟨rfl, ⟨nd, rfl⟩⟩; refine ⟨_, rfl, ?_⟩) | (go_at_call 48; (with_reducible refine (impl_inRange.calls a0 65 90 t373 _ A4.out).mono ?_); rintro e w' ⟨rfl, ⟨nd, rfl⟩⟩))
  go_ret
  exact ⟨by first | rfl | (simp; done) | (simp [*]; done), by repeat (first | exact Drawn0.refl _ | apply Drawn0.step)⟩

end Go.Proofs.Ytlocaaebgghkbaa.A

namespace Go.Proofs.Ytlocaaebgghkbaa.A
open Go.RowKit Go.Proofs.YtlocaaebgghkbaaW.PrintWords Go.Proofs.YtlocaaebgghkbaaW.PrintLast Go.Proofs.YtlocaaebgghkbaaW.PrintMore
attribute [local go_sem] max2_int min2_int max_two min_two max_three min_three max_four min_four   -- for this text's walks alone
set_option linter.unusedVariables false
set_option linter.unusedSimpArgs false

/-! ### impl_isAfter: function 143 -/
def impl_isAfter.f (k : Nat) (a0 : ByteArray) (a1 : Int) : Option (Bool) := if a1 < (a0.size : Int) then (if 0 ≤ a1 then (if (bt a0 a1) = 61 then (some true) else ((impl_IsLetter.f (wrap64 (bt a0 a1))).bind fun t374 => (if t374 = true then (some true) else ((impl_digitOf.f k (bt a0 a1) 10).bind fun t375 => (some (decide (t375 ≥ 0))))))) else (none)) else (some false)
theorem impl_isAfter.mono : ∀ a0 a1 k, LeO (impl_isAfter.f k a0 a1) (impl_isAfter.f (k + 1) a0 a1) := by
 intro a0 a1 k
 unfold impl_isAfter.f
 repeat' first
   | (with_reducible exact impl_digitOf.mono _ _ _)
   | (with_reducible exact LeO.refl _)
   | (with_reducible exact LeO.none _)
   | (with_reducible refine LeO.ite ?_ ?_)
   | (with_reducible refine LeO.bind ?_ (fun _ => ?_))
   | exact impl_digitOf.mono _ _ _
   | exact LeO.none _
   | refine LeO.ite ?_ ?_
   | refine LeO.bind ?_ (fun _ => ?_)
set_option maxHeartbeats 8000000 in
set_option maxRecDepth 100000 in
theorem impl_isAfter.calls (k : Nat) (a0 : ByteArray) (a1 : Int) (r : Bool) (w : World) (h : impl_isAfter.f k a0 a1 = some r) :
  Calls Try.prog 143 #[.string a0, .int .i64 a1] w fun e w' => e = .returned (.bool r) ∧ Drawn0 w w' := by
 have H : (if a1 < (a0.size : Int) then (if 0 ≤ a1 then (if (bt a0 a1) = 61 then (some true) else ((impl_IsLetter.f (wrap64 (bt a0 a1))).bind fun t374 => (if t374 = true then (some true) else ((impl_digitOf.f k (bt a0 a1) 10).bind fun t375 => (some (decide (t375 ≥ 0))))))) else (none)) else (some false)) = some r := h
 clear h
 by_cases c3 : a1 < (a0.size : Int)
 ·rw [if_pos c3] at H
  have c3b0 : decide (a1 < (a0.size : Int)) = true := decide_eq_true c3
  clear c3
  by_cases c4 : 0 ≤ a1
  ·rw [if_pos c4] at H
   have c4b0 : decide (0 ≤ a1) = true := decide_eq_true c4
   clear c4
   by_cases c6 : (bt a0 a1) = 61
   ·rw [if_pos c6] at H
    have c6b0 : ((bt a0 a1) == 61) = true := beq_iff_eq.mpr c6
    have c6b1 : ((bt a0 a1) != 61) = false := bne_eq_false_iff_eq.mpr c6
    clear c6
    obtain rfl := Option.some.inj H
    have p5 : 0 ≤ (a1 : Int) := of_decide_eq_true (by first | (with_reducible assumption) | assumption)
    have q5 : a1 < (a0.size : Int) := of_decide_eq_true (by first | (with_reducible assumption) | assumption)
    have hx5 := bt_at a0 a1
    replace p5 := eq_true p5
    replace q5 := eq_true q5
    go_enter Try.func143, Try.ntmps143
    go_wp2
    go_ret
    exact ⟨by first | rfl | (simp; done) | (simp [*]; done), by repeat (first | exact Drawn0.refl _ | apply Drawn0.step)⟩
   ·rw [if_neg c6] at H
    have c6b0 : ((bt a0 a1) == 61) = false := beq_eq_false_iff_ne.mpr c6
    have c6b1 : ((bt a0 a1) != 61) = true := bne_iff_ne.mpr c6
    replace H := Option.bind_eq_some_iff.mp H
    obtain ⟨t374, A80, H⟩ := H
    replace H : (if t374 = true then (some true) else ((impl_digitOf.f k (bt a0 a1) 10).bind fun t375 => (some (decide (t375 ≥ 0))))) = some r := H
    have A8 := Aside0.mk A80
    clear A80
    by_cases c9 : t374 = true
    ·subst c9
     have H1 : (some true) = some r := by rw [if_pos rfl] at H; exact H
     clear H
     have H := H1
     clear H1
     obtain rfl := Option.some.inj H
     have p5 : 0 ≤ (a1 : Int) := of_decide_eq_true (by first | (with_reducible assumption) | assumption)
     have q5 : a1 < (a0.size : Int) := of_decide_eq_true (by first | (with_reducible assumption) | assumption)
     have hx5 := bt_at a0 a1
     replace p5 := eq_true p5
     replace q5 := eq_true q5
     have p7 : 0 ≤ (a1 : Int) := of_decide_eq_true (by first | (with_reducible assumption) | assumption)
     have q7 : a1 < (a0.size : Int) := of_decide_eq_true (by first | (with_reducible assumption) | assumption)
     have hx7 := bt_at a0 a1
     replace p7 := eq_true p7
     replace q7 := eq_true q7
     go_enter Try.func143, Try.ntmps143
     go_wp2_with (first | (go_at_call 166; (with_reducible refine (impl_IsLetter.calls (wrap64 (bt a0 a1)) true _ A8.out).mono ?_); rintro e w' ⟨rfl, ⟨nd, rfl⟩⟩))
     go_ret
     exact ⟨by first | rfl | (simp; done) | (simp [*]; done), by repeat (first | exact Drawn0.refl _ | apply Drawn0.step)⟩
    ·replace c9 := Bool.eq_false_iff.mpr c9
     subst c9
     have H1 : ((impl_digitOf.f k (bt a0 a1) 10).bind fun t375 => (some (decide (t375 ≥ 0)))) = some r := by rw [if_neg (show ¬ (false = true) by decide)] at H; exact H
     clear H
     have H := H1
     clear H1
     replace H := Option.bind_eq_some_iff.mp H
     obtain ⟨t375, A110, H⟩ := H
     replace H : (some (decide (t375 ≥ 0))) = some r := H
     have A11 := Aside0.mk A110
     clear A110
     obtain rfl := Option.some.inj H
     have p5 : 0 ≤ (a1 : Int) := of_decide_eq_true (by first | (with_reducible assumption) | assumption)
     have q5 : a1 < (a0.size : Int) := of_decide_eq_true (by first | (with_reducible assumption) | assumption)
     have hx5 := bt_at a0 a1
     replace p5 := eq_true p5
     replace q5 := eq_true q5
     have p7 : 0 ≤ (a1 : Int) := of_decide_eq_true (by first | (with_reducible assumption) | assumption)
     have q7 : a1 < (a0.size : Int) := of_decide_eq_true (by first | (with_reducible assumption) | assumption)
     have hx7 := bt_at a0 a1
     replace p7 := eq_true p7
     replace q7 := eq_true q7
     go_enter Try.func143, Try.ntmps143
     go_wp2_with (first | (go_at_call 166; (with_reducible refine (impl_IsLetter.calls (wrap64 (bt a0 a1)) false _ A8.out).mono ?_); rintro e w' ⟨rfl, ⟨nd, rfl⟩⟩; have p10 : 0 ≤ (a1 : Int) := of_decide_eq_true (by first | (with_reducible assumption) | assumption); have q10 : a1 < (a0.size : Int) := of_decide_eq_true (by first | (with_reducible assumption) | assumption); have hx10 := bt_at a0 a1; replace p10 := eq_true p10; replace q10 := eq_true q10) | (go_at_call 164; (with_reducible refine (impl_digitOf.calls k (bt a0 a1) 10 t375 _ A11.out).mono ?_); rintro e w' ⟨rfl, ⟨nd, rfl⟩⟩))
     go_ret
     exact ⟨by first | rfl | (simp; done) | (simp [*]; done), by repeat (first | exact Drawn0.refl _ | apply Drawn0.step)⟩
  ·rw [if_neg c4] at H
   exact absurd H (by simp)
 ·rw [if_neg c3] at H
  have c3b0 : decide (a1 < (a0.size : Int)) = false := decide_eq_false c3
  clear c3
  obtain rfl := Option.some.inj H
  go_enter Try.func143, Try.ntmps143
  go_wp2
  go_ret
  exact ⟨by first | rfl | (simp; done) | (simp [*]; done), by repeat (first | exact Drawn0.refl _ | apply Drawn0.step)⟩

end Go.Proofs.Ytlocaaebgghkbaa.A

namespace Go.Proofs.Ytlocaaebgghkbaa.A
open Go.RowKit Go.Proofs.YtlocaaebgghkbaaW.PrintWords Go.Proofs.YtlocaaebgghkbaaW.PrintLast Go.Proofs.YtlocaaebgghkbaaW.PrintMore
attribute [local go_sem] max2_int min2_int max_two min_two max_three min_three max_four min_four   -- for this text's walks alone
set_option linter.unusedVariables false
set_option linter.unusedSimpArgs false

/-! ### impl_NameSign: function 145 -/
def namedL : List ByteArray := [(⟨#[97, 109, 112]⟩ : ByteArray), (⟨#[97, 112, 111, 115]⟩ : ByteArray), (⟨#[99, 111, 112, 121]⟩ : ByteArray), (⟨#[101, 117, 114, 111]⟩ : ByteArray), (⟨#[103, 116]⟩ : ByteArray), (⟨#[104, 101, 108, 108, 105, 112]⟩ : ByteArray), (⟨#[108, 116]⟩ : ByteArray), (⟨#[109, 100, 97, 115, 104]⟩ : ByteArray), (⟨#[110, 98, 115, 112]⟩ : ByteArray), (⟨#[110, 111, 116]⟩ : ByteArray), (⟨#[110, 111, 116, 105, 110]⟩ : ByteArray), (⟨#[113, 117, 111, 116]⟩ : ByteArray), (⟨#[114, 101, 103]⟩ : ByteArray), (⟨#[116, 105, 109, 101, 115]⟩ : ByteArray)]
def signL : List Int := [38, 39, 169, 8364, 62, 8230, 60, 8212, 160, 172, 8713, 34, 174, 215]
def nsL : List ByteArray → List Int → ByteArray → Int
 | n :: ns, x :: xs, a => if n.toList = a.toList then x else nsL ns xs a
 | _, _, _ => -1
theorem named_f : impl_Named.f = some namedL := rfl
theorem ns_drop (a : ByteArray) : ∀ (ns : List ByteArray) (xs : List Int) (j : Nat), ns.length = xs.length → (h : j < ns.length) →
  nsL (ns.drop j) (xs.drop j) a = if (ns[j]'h).toList = a.toList then xs.getD j 0 else nsL (ns.drop (j + 1)) (xs.drop (j + 1)) a := by
 intro ns xs j hl h
 rw [List.drop_eq_getElem_cons h, List.drop_eq_getElem_cons (show j < xs.length by omega)]
 simp only [nsL]
 rw [List.getD_eq_getElem?_getD, List.getElem?_eq_getElem (show j < xs.length by omega)]
 rfl
def impl_NameSign.f (a0 : ByteArray) : Option Int := some (nsL namedL signL a0)
set_option maxHeartbeats 2000000 in
set_option maxRecDepth 100000 in
theorem impl_NameSign.calls (a0 : ByteArray) (r : Int) (w : World) (h : impl_NameSign.f a0 = some r) :
  Calls Try.prog 145 #[.string a0] w fun e w' => e = .returned (.int .i64 r) ∧ Below w.heap.size w w' := by
 obtain rfl := Option.some.inj h
 clear h
 have hn := Aside0.mk named_f
 have hu := Try.underlying157
 go_enter Try.func145, Try.ntmps145
 go_wp2_with ((go_at_call 141; (with_reducible refine (impl_Named.calls _ _ hn.out).mono ?_); rintro r w2 ⟨v, rfl, ho, hb⟩; obtain ⟨Ao, co, eo⟩ := Kd.R_slice ho; subst eo))
 have hg : w2.heap[w.heap.size]? = some (.cells #[.int .i64 38, .int .i64 39, .int .i64 169, .int .i64 8364, .int .i64 62, .int .i64 8230, .int .i64 60, .int .i64 8212, .int .i64 160, .int .i64 172, .int .i64 8713, .int .i64 34, .int .i64 174, .int .i64 215] 157 (0, 0)) := (hb.block _ (by simp)).trans (heap_alloc_new w _)
 have HG := Aside0.mk hg
 have HO := Aside0.mk (Kd.R_reads' ho).2.2
 have HBB := Aside0.mk (below_step (below_alloc (Below.refl _ _) _) hb)
 have hlen : namedL.length = 14 := rfl
 have HL := Aside0.mk hlen
 clear hg ho hb hlen hn
 go_loopg [9] 14 (fun kq v9 wr => ∃ j : Int, v9 = .int .i64 j ∧ 0 ≤ j ∧ j ≤ 14 ∧ Aside0 (kq = 14 - j.toNat) ∧ Aside0 (nsL (namedL.drop j.toNat) (signL.drop j.toNat) a0 = nsL namedL signL a0) ∧ Aside0 (w2 = wr))
 case atStart => exact ⟨0, rfl, Int.le_refl _, by omega, ⟨rfl⟩, ⟨rfl⟩, ⟨rfl⟩⟩
 case round =>
  obtain ⟨j, rfl, j0, hj, HM, HE, HW⟩ := hrel
  have hw2 := HW.out
  subst hw2
  clear HW
  by_cases hlt : j < (namedL.length : Int)
  ·have hjn : j.toNat < namedL.length := by omega
   have hj14 : j < 14 := by have := HL.out; omega
   obtain ⟨ad, ea, hx0⟩ := Kd.at_string HO.out j j0 hlt
   cases ea
   have hns := ns_drop a0 namedL signL j.toNat rfl hjn
   have hrd : rdOf ByteArray.empty namedL j = namedL[j.toNat] := by
    unfold rdOf; rw [List.getD_eq_getElem?_getD, List.getElem?_eq_getElem hjn]; rfl
   rw [← hrd] at hns
   have HNS := Aside0.mk hns
   have hcell : w2.cell? ⟨w.heap.size, j.toNat, none⟩ = some (.int .i64 (signL.getD j.toNat 0)) := by
    rw [blk_cell HG.out]
    have : j = 0 ∨ j = 1 ∨ j = 2 ∨ j = 3 ∨ j = 4 ∨ j = 5 ∨ j = 6 ∨ j = 7 ∨ j = 8 ∨ j = 9 ∨ j = 10 ∨ j = 11 ∨ j = 12 ∨ j = 13 := by omega
    rcases this with rfl | rfl | rfl | rfl | rfl | rfl | rfl | rfl | rfl | rfl | rfl | rfl | rfl | rfl <;> rfl
   clear hns hrd hjn
   have p7 := eq_true j0
   have q7 := eq_true hlt
   by_cases hc : (rdOf ByteArray.empty namedL j).toList = a0.toList
   ·have hcb : ((rdOf ByteArray.empty namedL j).toList == a0.toList) = true := beq_iff_eq.mpr hc
    have HC := Aside0.mk hc
    clear hc
    go_wp2
    go_ret
    exact ⟨by rw [← HE.out, HNS.out, if_pos HC.out]; simp [List.getD_eq_getElem?_getD], HBB.out⟩
   ·have hcb : ((rdOf ByteArray.empty namedL j).toList == a0.toList) = false := beq_eq_false_iff_ne.mpr hc
    go_wp2
    go_roundg (14 - (j + 1).toNat)
    case measure => have := HM.out; omega
    case rel => exact ⟨j + 1, rfl, by omega, by omega, ⟨rfl⟩, ⟨by rw [← HE.out, HNS.out, if_neg hc, show (j + 1).toNat = j.toNat + 1 by omega]⟩, ⟨rfl⟩⟩
  ·go_wp2
   go_ret
   exact ⟨by rw [← HE.out, List.drop_of_length_le (by omega)]; rfl, HBB.out⟩

end Go.Proofs.Ytlocaaebgghkbaa.A

namespace Go.Proofs.Ytlocaaebgghkbaa.A
open Go.RowKit Go.Proofs.YtlocaaebgghkbaaW.PrintWords Go.Proofs.YtlocaaebgghkbaaW.PrintLast Go.Proofs.YtlocaaebgghkbaaW.PrintMore
attribute [local go_sem] max2_int min2_int max_two min_two max_three min_three max_four min_four   -- for this text's walks alone
set_option linter.unusedVariables false
set_option linter.unusedSimpArgs false

/-! ### impl_Ref: function 103 -/
mutual
def impl_Ref.j0 : Nat → ByteArray → Int → Bool → Bool → Option (ByteArray × Int)
 | 0, _, _, _, _ => none
 | k + 1, x0, x1, x2, x24 => if x24 = true then (some ((⟨#[]⟩ : ByteArray), 0)) else (if 0 ≤ (wrap64 (x1 + 1)) then (if (wrap64 (x1 + 1)) ≤ (x0.size : Int) then ((strings_HasPrefix.f (x0.extract ((wrap64 (x1 + 1)) : Int).toNat x0.size) (⟨#[35]⟩ : ByteArray)).bind fun t377 => (if t377 = true then ((impl_numberRef.f k x0 x1).bind fun bt378 => (some (bt378.1, bt378.2))) else ((impl_Named.f).bind fun t380 => (impl_Ref.l0 k x0 x1 x2 (x0.extract ((wrap64 (x1 + 1)) : Int).toNat x0.size) (⟨#[]⟩ : ByteArray) t380 (t380.length : Int) 0)))) else (none)) else (none))
def impl_Ref.l0 : Nat → ByteArray → Int → Bool → ByteArray → ByteArray → List ByteArray → Int → Int → Option (ByteArray × Int)
 | 0, _, _, _, _, _, _, _, _ => none
 | k + 1, x0, x1, x2, x8, x9, x36, x37, x38 => if x38 < x37 then (if 0 ≤ x38 then (if x38 < (x36.length : Int) then (if ((rdOf ByteArray.empty x36 x38).size : Int) > (x9.size : Int) then ((strings_HasPrefix.f x8 (rdOf ByteArray.empty x36 x38)).bind fun t384 => (if t384 = true then (impl_Ref.l0 k x0 x1 x2 x8 (rdOf ByteArray.empty x36 x38) x36 x37 (wrap64 (x38 + 1))) else (impl_Ref.l0 k x0 x1 x2 x8 x9 x36 x37 (wrap64 (x38 + 1))))) else (impl_Ref.l0 k x0 x1 x2 x8 x9 x36 x37 (wrap64 (x38 + 1)))) else (none)) else (none)) else (if x9.toList = ([] : List UInt8) then (some ((⟨#[]⟩ : ByteArray), 0)) else ((impl_withEnd.f x0 (wrap64 ((wrap64 (x1 + 1)) + (x9.size : Int)))).bind fun t385 => (if t385 = (wrap64 ((wrap64 (x1 + 1)) + (x9.size : Int))) then (if x2 = true then ((impl_isAfter.f k x0 (wrap64 ((wrap64 (x1 + 1)) + (x9.size : Int)))).bind fun t386 => (impl_Ref.j2 k x0 x1 x9 (wrap64 ((wrap64 (x1 + 1)) + (x9.size : Int))) t386)) else (impl_Ref.j2 k x0 x1 x9 (wrap64 ((wrap64 (x1 + 1)) + (x9.size : Int))) false)) else (impl_Ref.j2 k x0 x1 x9 (wrap64 ((wrap64 (x1 + 1)) + (x9.size : Int))) false))))
def impl_Ref.j2 : Nat → ByteArray → Int → ByteArray → Int → Bool → Option (ByteArray × Int)
 | 0, _, _, _, _, _ => none
 | k + 1, x0, x1, x9, x12, x73 => if x73 = true then (some ((⟨#[]⟩ : ByteArray), 0)) else ((impl_NameSign.f x9).bind fun t387 => ((impl_PutSign.f k t387).bind fun t388 => ((impl_withEnd.f x0 x12).bind fun t389 => (some (t388, wrap64 (t389 - x1))))))
end
def impl_Ref.f (k : Nat) (a0 : ByteArray) (a1 : Int) (a2 : Bool) : Option (ByteArray × Int) := (impl_inRange.f a1 0 (wrap64 ((a0.size : Int) - 1))).bind fun t376 => (if t376 = true then (if 0 ≤ a1 then (if a1 < (a0.size : Int) then (impl_Ref.j0 k a0 a1 a2 ((bt a0 a1) != 38)) else (none)) else (none)) else (impl_Ref.j0 k a0 a1 a2 true))
theorem impl_Ref.mono_l : ∀ k, (∀ y0 y1 y2 y3, LeO (impl_Ref.j0 k y0 y1 y2 y3) (impl_Ref.j0 (k + 1) y0 y1 y2 y3)) ∧ (∀ y0 y1 y2 y3 y4 y5 y6 y7, LeO (impl_Ref.l0 k y0 y1 y2 y3 y4 y5 y6 y7) (impl_Ref.l0 (k + 1) y0 y1 y2 y3 y4 y5 y6 y7)) ∧ (∀ y0 y1 y2 y3 y4, LeO (impl_Ref.j2 k y0 y1 y2 y3 y4) (impl_Ref.j2 (k + 1) y0 y1 y2 y3 y4))
 | 0 => ⟨fun _ _ _ _ r h => by simp [impl_Ref.j0] at h, fun _ _ _ _ _ _ _ _ r h => by simp [impl_Ref.l0] at h, fun _ _ _ _ _ r h => by simp [impl_Ref.j2] at h⟩
 | k + 1 => by
  obtain ⟨ih0, ih1, ih2⟩ := impl_Ref.mono_l k
  refine ⟨?_, ?_, ?_⟩
  ·intro y0 y1 y2 y3
   unfold impl_Ref.j0
   repeat' first
   | (with_reducible exact ih0 _ _ _ _)
   | (with_reducible exact ih1 _ _ _ _ _ _ _ _)
   | (with_reducible exact ih2 _ _ _ _ _)
   | (with_reducible exact impl_PutSign.mono _ _)
   | (with_reducible exact impl_isAfter.mono _ _ _)
   | (with_reducible exact impl_numberRef.mono _ _ _)
   | (with_reducible exact LeO.refl _)
   | (with_reducible exact LeO.none _)
   | (with_reducible refine LeO.ite ?_ ?_)
   | (with_reducible refine LeO.bind ?_ (fun _ => ?_))
   | exact ih0 _ _ _ _
   | exact ih1 _ _ _ _ _ _ _ _
   | exact ih2 _ _ _ _ _
   | exact impl_PutSign.mono _ _
   | exact impl_isAfter.mono _ _ _
   | exact impl_numberRef.mono _ _ _
   | exact LeO.none _
   | refine LeO.ite ?_ ?_
   | refine LeO.bind ?_ (fun _ => ?_)
  ·intro y0 y1 y2 y3 y4 y5 y6 y7
   unfold impl_Ref.l0
   repeat' first
   | (with_reducible exact ih0 _ _ _ _)
   | (with_reducible exact ih1 _ _ _ _ _ _ _ _)
   | (with_reducible exact ih2 _ _ _ _ _)
   | (with_reducible exact impl_PutSign.mono _ _)
   | (with_reducible exact impl_isAfter.mono _ _ _)
   | (with_reducible exact impl_numberRef.mono _ _ _)
   | (with_reducible exact LeO.refl _)
   | (with_reducible exact LeO.none _)
   | (with_reducible refine LeO.ite ?_ ?_)
   | (with_reducible refine LeO.bind ?_ (fun _ => ?_))
   | exact ih0 _ _ _ _
   | exact ih1 _ _ _ _ _ _ _ _
   | exact ih2 _ _ _ _ _
   | exact impl_PutSign.mono _ _
   | exact impl_isAfter.mono _ _ _
   | exact impl_numberRef.mono _ _ _
   | exact LeO.none _
   | refine LeO.ite ?_ ?_
   | refine LeO.bind ?_ (fun _ => ?_)
  ·intro y0 y1 y2 y3 y4
   unfold impl_Ref.j2
   repeat' first
   | (with_reducible exact ih0 _ _ _ _)
   | (with_reducible exact ih1 _ _ _ _ _ _ _ _)
   | (with_reducible exact ih2 _ _ _ _ _)
   | (with_reducible exact impl_PutSign.mono _ _)
   | (with_reducible exact impl_isAfter.mono _ _ _)
   | (with_reducible exact impl_numberRef.mono _ _ _)
   | (with_reducible exact LeO.refl _)
   | (with_reducible exact LeO.none _)
   | (with_reducible refine LeO.ite ?_ ?_)
   | (with_reducible refine LeO.bind ?_ (fun _ => ?_))
   | exact ih0 _ _ _ _
   | exact ih1 _ _ _ _ _ _ _ _
   | exact ih2 _ _ _ _ _
   | exact impl_PutSign.mono _ _
   | exact impl_isAfter.mono _ _ _
   | exact impl_numberRef.mono _ _ _
   | exact LeO.none _
   | refine LeO.ite ?_ ?_
   | refine LeO.bind ?_ (fun _ => ?_)
theorem impl_Ref.mono : ∀ a0 a1 a2 k, LeO (impl_Ref.f k a0 a1 a2) (impl_Ref.f (k + 1) a0 a1 a2) := by
 intro a0 a1 a2 k
 obtain ⟨ih0, ih1, ih2⟩ := impl_Ref.mono_l k
 unfold impl_Ref.f
 repeat' first
   | (with_reducible exact ih0 _ _ _ _)
   | (with_reducible exact ih1 _ _ _ _ _ _ _ _)
   | (with_reducible exact ih2 _ _ _ _ _)
   | (with_reducible exact impl_PutSign.mono _ _)
   | (with_reducible exact impl_isAfter.mono _ _ _)
   | (with_reducible exact impl_numberRef.mono _ _ _)
   | (with_reducible exact LeO.refl _)
   | (with_reducible exact LeO.none _)
   | (with_reducible refine LeO.ite ?_ ?_)
   | (with_reducible refine LeO.bind ?_ (fun _ => ?_))
   | exact ih0 _ _ _ _
   | exact ih1 _ _ _ _ _ _ _ _
   | exact ih2 _ _ _ _ _
   | exact impl_PutSign.mono _ _
   | exact impl_isAfter.mono _ _ _
   | exact impl_numberRef.mono _ _ _
   | exact LeO.none _
   | refine LeO.ite ?_ ?_
   | refine LeO.bind ?_ (fun _ => ?_)
set_option maxHeartbeats 8000000 in
set_option maxRecDepth 100000 in
theorem impl_Ref.calls (k : Nat) (a0 : ByteArray) (a1 : Int) (a2 : Bool) (r1 : ByteArray) (r2 : Int) (w : World) (h : impl_Ref.f k a0 a1 a2 = some (r1, r2)) :
  Calls Try.prog 103 #[.string a0, .int .i64 a1, .bool a2] w fun e w' => e = .returned (.tuple #[.string r1, .int .i64 r2]) ∧ Below w.heap.size w w' := by
 have HB := Aside0.mk (Below.refl w.heap.size w)
 have H : ((impl_inRange.f a1 0 (wrap64 ((a0.size : Int) - 1))).bind fun t376 => (if t376 = true then (if 0 ≤ a1 then (if a1 < (a0.size : Int) then (impl_Ref.j0 k a0 a1 a2 ((bt a0 a1) != 38)) else (none)) else (none)) else (impl_Ref.j0 k a0 a1 a2 true))) = some (r1, r2) := h
 clear h
 have HC4 := Aside0.mk H
 clear H
 go_enter Try.func103, Try.ntmps103
 go_upto_region 1 with (fail)
 go_cut [24] (fun v24 wc => ∃ (kq : Nat) (x24_3 : Bool), v24 = .bool x24_3 ∧ Aside0 (impl_Ref.j0 kq a0 a1 a2 x24_3 = some (r1, r2)) ∧ Aside0 (kq ≤ k) ∧ Aside0 (Below w.heap.size w wc))
 case first =>
  have H := HC4.out
  clear HC4
  replace H := Option.bind_eq_some_iff.mp H
  obtain ⟨t376, A50, H⟩ := H
  replace H : (if t376 = true then (if 0 ≤ a1 then (if a1 < (a0.size : Int) then (impl_Ref.j0 k a0 a1 a2 ((bt a0 a1) != 38)) else (none)) else (none)) else (impl_Ref.j0 k a0 a1 a2 true)) = some (r1, r2) := H
  have A5 := Aside0.mk A50
  clear A50
  by_cases c6 : t376 = true
  ·subst c6
   have H1 : (if 0 ≤ a1 then (if a1 < (a0.size : Int) then (impl_Ref.j0 k a0 a1 a2 ((bt a0 a1) != 38)) else (none)) else (none)) = some (r1, r2) := by rw [if_pos rfl] at H; exact H
   clear H
   have H := H1
   clear H1
   by_cases c7 : 0 ≤ a1
   ·rw [if_pos c7] at H
    have c7b0 : decide (0 ≤ a1) = true := decide_eq_true c7
    clear c7
    (first | rw [c7b0] | (simp only [i64_w, i32_w]; rw [c7b0]) | skip)
    by_cases c8 : a1 < (a0.size : Int)
    ·rw [if_pos c8] at H
     have c8b0 : decide (a1 < (a0.size : Int)) = true := decide_eq_true c8
     clear c8
     have H' := Aside0.mk H
     clear H
     go_wp2_with (first | ((with_reducible refine gate_callee (f := 48) rfl ?_); refine goesL_ (some 17) rfl rfl Try.func48 (by kernel_rfl) rfl #[.int .i64 a1, .int .i64 0, .int .i64 (wrap64 ((a0.size : Int) - 1))] rfl (by (try simp only [List.map_toArray, List.map_cons, List.map_nil]); first | done | rfl | (simp only [List.length_drop, List.length_take]; rfl)) ?_; (with_reducible refine (impl_inRange.calls a1 0 (wrap64 ((a0.size : Int) - 1)) true _ A5.out).mono ?_); rintro e w' ⟨rfl, ⟨nd, rfl⟩⟩; refine ⟨_, rfl, ?_⟩; have p9 : 0 ≤ (a1 : Int) := of_decide_eq_true (by first | (with_reducible assumption) | assumption); have q9 : a1 < (a0.size : Int) := of_decide_eq_true (by first | (with_reducible assumption) | assumption); have hx9 := bt_at a0 a1; replace p9 := eq_true p9; replace q9 := eq_true q9))
     go_meet
     case rel => exact ⟨_, (((bt a0 a1) != 38)), (by first | rfl | (simp; done) | (simp [*]; done)), H', ⟨by first | omega | exact Nat.le_refl _⟩, ⟨by repeat (first | (with_reducible first | exact HB.out | apply below_alloc | apply pw_below_drewN | apply below_drew1) | exact HB.out)⟩⟩
    ·rw [if_neg c8] at H
     exact absurd H (by simp)
   ·rw [if_neg c7] at H
    exact absurd H (by simp)
  ·replace c6 := Bool.eq_false_iff.mpr c6
   subst c6
   have H1 : (impl_Ref.j0 k a0 a1 a2 true) = some (r1, r2) := by rw [if_neg (show ¬ (false = true) by decide)] at H; exact H
   clear H
   have H := H1
   clear H1
   have H' := Aside0.mk H
   clear H
   go_wp2_with (first | ((with_reducible refine gate_callee (f := 48) rfl ?_); refine goesL_ (some 17) rfl rfl Try.func48 (by kernel_rfl) rfl #[.int .i64 a1, .int .i64 0, .int .i64 (wrap64 ((a0.size : Int) - 1))] rfl (by (try simp only [List.map_toArray, List.map_cons, List.map_nil]); first | done | rfl | (simp only [List.length_drop, List.length_take]; rfl)) ?_; (with_reducible refine (impl_inRange.calls a1 0 (wrap64 ((a0.size : Int) - 1)) false _ A5.out).mono ?_); rintro e w' ⟨rfl, ⟨nd, rfl⟩⟩; refine ⟨_, rfl, ?_⟩))
   go_meet
   case rel => exact ⟨_, (true), (by first | rfl | (simp; done) | (simp [*]; done)), H', ⟨by first | omega | exact Nat.le_refl _⟩, ⟨by repeat (first | (with_reducible first | exact HB.out | apply below_alloc | apply pw_below_drewN | apply below_drew1) | exact HB.out)⟩⟩
 case rest =>
  clear HC4
  try clear c1
  try clear p2
  try clear c4
  try clear c6
  try clear p6
  try clear c7
  try clear c7b0
  try clear c8
  try clear c8b0
  try clear p9
  try clear q9
  try clear hx9
  try clear p9
  try clear q9
  obtain ⟨kq, x24_3, rfl, HA, HJ3, HB⟩ := hcut
  cases kq with
  | zero => exact absurd HA.out (by simp [impl_Ref.j0])
  | succ kj3 =>
   have H := HA.out
   clear HA
   simp only [impl_Ref.j0] at H
   by_cases c10 : x24_3 = true
   ·subst c10
    have H1 : (some ((⟨#[]⟩ : ByteArray), 0)) = some (r1, r2) := by rw [if_pos rfl] at H; exact H
    clear H
    have H := H1
    clear H1
    simp only [Option.some.injEq, Prod.mk.injEq] at H
    obtain ⟨rfl, rfl⟩ := H
    go_wp2
    go_ret2
    exact ⟨by first | rfl | (simp [errW_none, errW_some] <;> rfl) | (simp [*, errW_none, errW_some] <;> rfl), by repeat (first | (with_reducible first | exact HB.out | apply below_alloc | apply pw_below_drewN | apply below_drew1) | exact HB.out)⟩
   ·replace c10 := Bool.eq_false_iff.mpr c10
    subst c10
    have H1 : (if 0 ≤ (wrap64 (a1 + 1)) then (if (wrap64 (a1 + 1)) ≤ (a0.size : Int) then ((strings_HasPrefix.f (a0.extract ((wrap64 (a1 + 1)) : Int).toNat a0.size) (⟨#[35]⟩ : ByteArray)).bind fun t377 => (if t377 = true then ((impl_numberRef.f kj3 a0 a1).bind fun bt378 => (some (bt378.1, bt378.2))) else ((impl_Named.f).bind fun t380 => (impl_Ref.l0 kj3 a0 a1 a2 (a0.extract ((wrap64 (a1 + 1)) : Int).toNat a0.size) (⟨#[]⟩ : ByteArray) t380 (t380.length : Int) 0)))) else (none)) else (none)) = some (r1, r2) := by rw [if_neg (show ¬ (false = true) by decide)] at H; exact H
    clear H
    have H := H1
    clear H1
    by_cases c11 : 0 ≤ (wrap64 (a1 + 1))
    ·rw [if_pos c11] at H
     have c11b0 := eq_true c11
     have c11b1 : decide (0 ≤ (wrap64 (a1 + 1))) = true := decide_eq_true c11
     by_cases c12 : (wrap64 (a1 + 1)) ≤ (a0.size : Int)
     ·rw [if_pos c12] at H
      have c12b0 := eq_true c12
      have c12b1 : decide ((wrap64 (a1 + 1)) ≤ (a0.size : Int)) = true := decide_eq_true c12
      replace H := Option.bind_eq_some_iff.mp H
      obtain ⟨t377, A130, H⟩ := H
      replace H : (if t377 = true then ((impl_numberRef.f kj3 a0 a1).bind fun bt378 => (some (bt378.1, bt378.2))) else ((impl_Named.f).bind fun t380 => (impl_Ref.l0 kj3 a0 a1 a2 (a0.extract ((wrap64 (a1 + 1)) : Int).toNat a0.size) (⟨#[]⟩ : ByteArray) t380 (t380.length : Int) 0))) = some (r1, r2) := H
      have A13 := Aside0.mk A130
      clear A130
      by_cases c14 : t377 = true
      ·subst c14
       have H1 : ((impl_numberRef.f kj3 a0 a1).bind fun bt378 => (some (bt378.1, bt378.2))) = some (r1, r2) := by rw [if_pos rfl] at H; exact H
       clear H
       have H := H1
       clear H1
       replace H := Option.bind_eq_some_iff.mp H
       obtain ⟨⟨t378, t379⟩, A150, H⟩ := H
       replace H : (some (t378, t379)) = some (r1, r2) := H
       have A15 := Aside0.mk A150
       clear A150
       simp only [Option.some.injEq, Prod.mk.injEq] at H
       obtain ⟨rfl, rfl⟩ := H
       go_wp2_with (first | ((with_reducible refine gate_callee (f := 115) rfl ?_); refine goesL_ (some 30) rfl rfl Try.func115 (by kernel_rfl) rfl #[.string (a0.extract ((wrap64 (a1 + 1)) : Int).toNat a0.size), .string (⟨#[35]⟩ : ByteArray)] rfl (by (try simp only [List.map_toArray, List.map_cons, List.map_nil]); first | done | rfl | (simp only [List.length_drop, List.length_take]; rfl)) ?_; (with_reducible refine (strings_HasPrefix.calls (a0.extract ((wrap64 (a1 + 1)) : Int).toNat a0.size) (⟨#[35]⟩ : ByteArray) true _ A13.out).mono ?_); rintro e w' ⟨rfl, ⟨nd, rfl⟩⟩; refine ⟨_, rfl, ?_⟩) | ((with_reducible refine gate_callee (f := 140) rfl ?_); refine goesL_ (some 33) rfl rfl Try.func140 (by kernel_rfl) rfl #[.string a0, .int .i64 a1] rfl (by (try simp only [List.map_toArray, List.map_cons, List.map_nil]); first | done | rfl | (simp only [List.length_drop, List.length_take]; rfl)) ?_; (with_reducible refine (impl_numberRef.calls kj3 a0 a1 t378 t379 _ A15.out).mono ?_); rintro e w16 ⟨rfl, hb⟩; refine ⟨_, rfl, ?_⟩; have n0_ := Aside0.mk (below_step (by repeat (first | (with_reducible first | exact HB.out | apply below_alloc | apply pw_below_drewN | apply below_drew1) | exact HB.out)) hb); clear HB; have HB := n0_; clear n0_; (try clear hb); (try clear hb2); (try clear hk); (try clear hi)))
       go_ret2
       exact ⟨by first | rfl | (simp [errW_none, errW_some] <;> rfl) | (simp [*, errW_none, errW_some] <;> rfl), by repeat (first | (with_reducible first | exact HB.out | apply below_alloc | apply pw_below_drewN | apply below_drew1) | exact HB.out)⟩
      ·replace c14 := Bool.eq_false_iff.mpr c14
       subst c14
       have H1 : ((impl_Named.f).bind fun t380 => (impl_Ref.l0 kj3 a0 a1 a2 (a0.extract ((wrap64 (a1 + 1)) : Int).toNat a0.size) (⟨#[]⟩ : ByteArray) t380 (t380.length : Int) 0)) = some (r1, r2) := by rw [if_neg (show ¬ (false = true) by decide)] at H; exact H
       clear H
       have H := H1
       clear H1
       replace H := Option.bind_eq_some_iff.mp H
       obtain ⟨t380, A170, H⟩ := H
       replace H : (impl_Ref.l0 kj3 a0 a1 a2 (a0.extract ((wrap64 (a1 + 1)) : Int).toNat a0.size) (⟨#[]⟩ : ByteArray) t380 (t380.length : Int) 0) = some (r1, r2) := H
       have A17 := Aside0.mk A170
       clear A170
       have H' := Aside0.mk H
       clear H
       go_wp2_with (first | ((with_reducible refine gate_callee (f := 115) rfl ?_); refine goesL_ (some 30) rfl rfl Try.func115 (by kernel_rfl) rfl #[.string (a0.extract ((wrap64 (a1 + 1)) : Int).toNat a0.size), .string (⟨#[35]⟩ : ByteArray)] rfl (by (try simp only [List.map_toArray, List.map_cons, List.map_nil]); first | done | rfl | (simp only [List.length_drop, List.length_take]; rfl)) ?_; (with_reducible refine (strings_HasPrefix.calls (a0.extract ((wrap64 (a1 + 1)) : Int).toNat a0.size) (⟨#[35]⟩ : ByteArray) false _ A13.out).mono ?_); rintro e w' ⟨rfl, ⟨nd, rfl⟩⟩; refine ⟨_, rfl, ?_⟩) | ((with_reducible refine gate_callee (f := 141) rfl ?_); refine goesL_ (some 36) rfl rfl Try.func141 (by kernel_rfl) rfl #[] rfl (by (try simp only [List.map_toArray, List.map_cons, List.map_nil]); first | done | rfl | (simp only [List.length_drop, List.length_take]; rfl)) ?_; (with_reducible refine (impl_Named.calls  t380 _ A17.out).mono ?_); rintro e w18 ⟨v381, rfl, ho0, hb⟩; refine ⟨_, rfl, ?_⟩; have n0_ := Aside0.mk (Kd.R_lower ho0 (below_size (by repeat (first | (with_reducible first | exact HB.out | apply below_alloc | apply pw_below_drewN | apply below_drew1) | exact HB.out)))); have n1_ := Aside0.mk (below_step (by repeat (first | (with_reducible first | exact HB.out | apply below_alloc | apply pw_below_drewN | apply below_drew1) | exact HB.out)) hb); clear HB; have HO382 := n0_; have HB := n1_; clear n0_ n1_; (try clear hb); (try clear hb2); (try clear hk); (try clear hi); (try clear ho0); obtain ⟨Ao19, co19, eo19⟩ := Kd.R_slice HO382.out; subst eo19))
       go_loopg [9, 38] kj3 (fun kq v9 v38 w' => ∃ (x9_2 : ByteArray) (x38_2 : Int), v9 = .string x9_2 ∧ v38 = .int .i64 x38_2 ∧ Aside0 (impl_Ref.l0 kq a0 a1 a2 (a0.extract ((wrap64 (a1 + 1)) : Int).toNat a0.size) x9_2 t380 (t380.length : Int) x38_2 = some (r1, r2)) ∧ Aside0 (kq ≤ kj3) ∧ Aside0 (Kd.R Kd.string 9 w' w.heap.size (fun _ => True) (.slice Ao19 t380.length co19) t380) ∧ Aside0 (Below w.heap.size w w'))
       case atStart => exact ⟨((⟨#[]⟩ : ByteArray)), (0), (by first | rfl | (simp; done) | (simp [*]; done)), (by first | rfl | (simp; done) | (simp [*]; done)), H', ⟨Nat.le_refl _⟩, ⟨by (with_reducible repeat (first | apply Kd.R_alloc | apply Kd.R_drewN | apply Kd.R_drew)); exact HO382.out⟩, ⟨by repeat (first | (with_reducible first | exact HB.out | apply below_alloc | apply pw_below_drewN | apply below_drew1) | exact HB.out)⟩⟩
       case round =>
        clear H'
        try clear c1
        try clear p2
        try clear c4
        try clear c6
        try clear p6
        try clear c7
        try clear c7b0
        try clear c8
        try clear c8b0
        try clear p9
        try clear q9
        try clear hx9
        try clear c10
        try clear c11
        try clear c11b0
        try clear c11b1
        try clear c12
        try clear c12b0
        try clear c12b1
        try clear c14
        try clear p2
        try clear p6
        try clear p9
        try clear q9
        obtain ⟨x9_2, x38_2, rfl, rfl, HA, HK2, HO_36, HB⟩ := hrel
        cases gk with
        | zero => exact absurd HA.out (by simp [impl_Ref.l0])
        | succ k2 =>
         have H := HA.out
         clear HA
         simp only [impl_Ref.l0] at H
         by_cases c20 : x38_2 < (t380.length : Int)
         ·rw [if_pos c20] at H
          have c20b0 : decide (x38_2 < (t380.length : Int)) = true := decide_eq_true c20
          clear c20
          by_cases c21 : 0 ≤ x38_2
          ·rw [if_pos c21] at H
           have c21b0 : decide (0 ≤ x38_2) = true := decide_eq_true c21
           clear c21
           by_cases c22 : x38_2 < (t380.length : Int)
           ·rw [if_pos c22] at H
            have c22b0 : decide (x38_2 < (t380.length : Int)) = true := decide_eq_true c22
            clear c22
            by_cases c23 : ((rdOf ByteArray.empty t380 x38_2).size : Int) > (x9_2.size : Int)
            ·rw [if_pos c23] at H
             have c23b0 : decide ((x9_2.size : Int) < ((rdOf ByteArray.empty t380 x38_2).size : Int)) = true := decide_eq_true c23
             have c23b1 : decide (x9_2.size < (rdOf ByteArray.empty t380 x38_2).size) = true := decide_eq_true (Int.ofNat_lt.mp c23)
             clear c23
             replace H := Option.bind_eq_some_iff.mp H
             obtain ⟨t384, A240, H⟩ := H
             replace H : (if t384 = true then (impl_Ref.l0 k2 a0 a1 a2 (a0.extract ((wrap64 (a1 + 1)) : Int).toNat a0.size) (rdOf ByteArray.empty t380 x38_2) t380 (t380.length : Int) (wrap64 (x38_2 + 1))) else (impl_Ref.l0 k2 a0 a1 a2 (a0.extract ((wrap64 (a1 + 1)) : Int).toNat a0.size) x9_2 t380 (t380.length : Int) (wrap64 (x38_2 + 1)))) = some (r1, r2) := H
             have A24 := Aside0.mk A240
             clear A240
             by_cases c25 : t384 = true
             ·subst c25
              have H1 : (impl_Ref.l0 k2 a0 a1 a2 (a0.extract ((wrap64 (a1 + 1)) : Int).toNat a0.size) (rdOf ByteArray.empty t380 x38_2) t380 (t380.length : Int) (wrap64 (x38_2 + 1))) = some (r1, r2) := by rw [if_pos rfl] at H; exact H
              clear H
              have H := H1
              clear H1
              have H' := Aside0.mk H
              clear H
              have p383 : 0 ≤ (x38_2 : Int) := of_decide_eq_true (by first | (with_reducible assumption) | assumption)
              have q383 : x38_2 < (t380.length : Int) := of_decide_eq_true (by first | (with_reducible assumption) | assumption)
              obtain ⟨ad383, e383, hx383_0⟩ := Kd.at_string (Kd.R_reads' HO_36.out).2.2 x38_2 p383 q383
              cases e383
              replace p383 := eq_true p383
              replace q383 := eq_true q383
              go_wp2_with (first | (go_at_call 115; (with_reducible refine (strings_HasPrefix.calls (a0.extract ((wrap64 (a1 + 1)) : Int).toNat a0.size) (rdOf ByteArray.empty t380 x38_2) true _ A24.out).mono ?_); rintro e w' ⟨rfl, ⟨nd, rfl⟩⟩))
              go_roundg k2
              case measure => have := HJ3.out; have := HK2.out; omega
              case rel => exact ⟨(rdOf ByteArray.empty t380 x38_2), (wrap64 (x38_2 + 1)), (by first | rfl | (simp; done) | (simp [*]; done)), (by first | rfl | (simp; done) | (simp [*]; done)), H', ⟨by have := HJ3.out; have := HK2.out; omega⟩, ⟨by (with_reducible repeat (first | apply Kd.R_alloc | apply Kd.R_drewN | apply Kd.R_drew)); exact HO_36.out⟩, ⟨by repeat (first | (with_reducible first | exact HB.out | apply below_alloc | apply pw_below_drewN | apply below_drew1) | exact HB.out)⟩⟩
             ·replace c25 := Bool.eq_false_iff.mpr c25
              subst c25
              have H1 : (impl_Ref.l0 k2 a0 a1 a2 (a0.extract ((wrap64 (a1 + 1)) : Int).toNat a0.size) x9_2 t380 (t380.length : Int) (wrap64 (x38_2 + 1))) = some (r1, r2) := by rw [if_neg (show ¬ (false = true) by decide)] at H; exact H
              clear H
              have H := H1
              clear H1
              have H' := Aside0.mk H
              clear H
              have p383 : 0 ≤ (x38_2 : Int) := of_decide_eq_true (by first | (with_reducible assumption) | assumption)
              have q383 : x38_2 < (t380.length : Int) := of_decide_eq_true (by first | (with_reducible assumption) | assumption)
              obtain ⟨ad383, e383, hx383_0⟩ := Kd.at_string (Kd.R_reads' HO_36.out).2.2 x38_2 p383 q383
              cases e383
              replace p383 := eq_true p383
              replace q383 := eq_true q383
              go_wp2_with (first | (go_at_call 115; (with_reducible refine (strings_HasPrefix.calls (a0.extract ((wrap64 (a1 + 1)) : Int).toNat a0.size) (rdOf ByteArray.empty t380 x38_2) false _ A24.out).mono ?_); rintro e w' ⟨rfl, ⟨nd, rfl⟩⟩))
              go_roundg k2
              case measure => have := HJ3.out; have := HK2.out; omega
              case rel => exact ⟨(x9_2), (wrap64 (x38_2 + 1)), (by first | rfl | (simp; done) | (simp [*]; done)), (by first | rfl | (simp; done) | (simp [*]; done)), H', ⟨by have := HJ3.out; have := HK2.out; omega⟩, ⟨by (with_reducible repeat (first | apply Kd.R_alloc | apply Kd.R_drewN | apply Kd.R_drew)); exact HO_36.out⟩, ⟨by repeat (first | (with_reducible first | exact HB.out | apply below_alloc | apply pw_below_drewN | apply below_drew1) | exact HB.out)⟩⟩
            ·rw [if_neg c23] at H
             have c23b0 : decide ((x9_2.size : Int) < ((rdOf ByteArray.empty t380 x38_2).size : Int)) = false := decide_eq_false c23
             have c23b1 : decide (x9_2.size < (rdOf ByteArray.empty t380 x38_2).size) = false := decide_eq_false (fun h => c23 (Int.ofNat_lt.mpr h))
             clear c23
             have H' := Aside0.mk H
             clear H
             have p383 : 0 ≤ (x38_2 : Int) := of_decide_eq_true (by first | (with_reducible assumption) | assumption)
             have q383 : x38_2 < (t380.length : Int) := of_decide_eq_true (by first | (with_reducible assumption) | assumption)
             obtain ⟨ad383, e383, hx383_0⟩ := Kd.at_string (Kd.R_reads' HO_36.out).2.2 x38_2 p383 q383
             cases e383
             replace p383 := eq_true p383
             replace q383 := eq_true q383
             go_wp2
             go_roundg k2
             case measure => have := HJ3.out; have := HK2.out; omega
             case rel => exact ⟨(x9_2), (wrap64 (x38_2 + 1)), (by first | rfl | (simp; done) | (simp [*]; done)), (by first | rfl | (simp; done) | (simp [*]; done)), H', ⟨by have := HJ3.out; have := HK2.out; omega⟩, ⟨by (with_reducible repeat (first | apply Kd.R_alloc | apply Kd.R_drewN | apply Kd.R_drew)); exact HO_36.out⟩, ⟨by repeat (first | (with_reducible first | exact HB.out | apply below_alloc | apply pw_below_drewN | apply below_drew1) | exact HB.out)⟩⟩
           ·rw [if_neg c22] at H
            exact absurd H (by simp)
          ·rw [if_neg c21] at H
           exact absurd H (by simp)
         ·rw [if_neg c20] at H
          have c20b0 : decide (x38_2 < (t380.length : Int)) = false := decide_eq_false c20
          clear c20
          by_cases c26 : x9_2.toList = ([] : List UInt8)
          ·rw [if_pos c26] at H
           have c26b0 : (x9_2.toList == ([] : List UInt8)) = true := beq_iff_eq.mpr c26
           have c26b1 : (x9_2.toList != ([] : List UInt8)) = false := bne_eq_false_iff_eq.mpr c26
           clear c26
           simp only [Option.some.injEq, Prod.mk.injEq] at H
           obtain ⟨rfl, rfl⟩ := H
           go_wp2
           go_ret2
           exact ⟨by first | rfl | (simp [errW_none, errW_some] <;> rfl) | (simp [*, errW_none, errW_some] <;> rfl), by repeat (first | (with_reducible first | exact HB.out | apply below_alloc | apply pw_below_drewN | apply below_drew1) | exact HB.out)⟩
          ·rw [if_neg c26] at H
           have c26b0 : (x9_2.toList == ([] : List UInt8)) = false := beq_eq_false_iff_ne.mpr c26
           have c26b1 : (x9_2.toList != ([] : List UInt8)) = true := bne_iff_ne.mpr c26
           have HC27 := Aside0.mk H
           clear H
           go_upto_region 16 with (fail)
           go_cut [73] (fun v73 wc => ∃ (kq : Nat) (x73_26 : Bool), v73 = .bool x73_26 ∧ Aside0 (impl_Ref.j2 kq a0 a1 x9_2 (wrap64 ((wrap64 (a1 + 1)) + (x9_2.size : Int))) x73_26 = some (r1, r2)) ∧ Aside0 (kq ≤ k2) ∧ Aside0 (Below w.heap.size w wc))
           case first =>
            have H := HC27.out
            clear HC27
            replace H := Option.bind_eq_some_iff.mp H
            obtain ⟨t385, A280, H⟩ := H
            replace H : (if t385 = (wrap64 ((wrap64 (a1 + 1)) + (x9_2.size : Int))) then (if a2 = true then ((impl_isAfter.f k2 a0 (wrap64 ((wrap64 (a1 + 1)) + (x9_2.size : Int)))).bind fun t386 => (impl_Ref.j2 k2 a0 a1 x9_2 (wrap64 ((wrap64 (a1 + 1)) + (x9_2.size : Int))) t386)) else (impl_Ref.j2 k2 a0 a1 x9_2 (wrap64 ((wrap64 (a1 + 1)) + (x9_2.size : Int))) false)) else (impl_Ref.j2 k2 a0 a1 x9_2 (wrap64 ((wrap64 (a1 + 1)) + (x9_2.size : Int))) false)) = some (r1, r2) := H
            have A28 := Aside0.mk A280
            clear A280
            by_cases c29 : t385 = (wrap64 ((wrap64 (a1 + 1)) + (x9_2.size : Int)))
            ·rw [if_pos c29] at H
             have c29b0 : (t385 == (wrap64 ((wrap64 (a1 + 1)) + (x9_2.size : Int)))) = true := beq_iff_eq.mpr c29
             have c29b1 : (t385 != (wrap64 ((wrap64 (a1 + 1)) + (x9_2.size : Int)))) = false := bne_eq_false_iff_eq.mpr c29
             clear c29
             (first | rw [c29b0] | (simp only [i64_w, i32_w]; rw [c29b0]) | skip)
             by_cases c30 : a2 = true
             ·subst c30
              have H1 : ((impl_isAfter.f k2 a0 (wrap64 ((wrap64 (a1 + 1)) + (x9_2.size : Int)))).bind fun t386 => (impl_Ref.j2 k2 a0 a1 x9_2 (wrap64 ((wrap64 (a1 + 1)) + (x9_2.size : Int))) t386)) = some (r1, r2) := by rw [if_pos rfl] at H; exact H
              clear H
              have H := H1
              clear H1
              replace H := Option.bind_eq_some_iff.mp H
              obtain ⟨t386, A310, H⟩ := H
              replace H : (impl_Ref.j2 k2 a0 a1 x9_2 (wrap64 ((wrap64 (a1 + 1)) + (x9_2.size : Int))) t386) = some (r1, r2) := H
              have A31 := Aside0.mk A310
              clear A310
              have H' := Aside0.mk H
              clear H
              go_wp2_with (first | ((with_reducible refine gate_callee (f := 142) rfl ?_); refine goesL_ (some 63) rfl rfl Try.func142 (by kernel_rfl) rfl #[.string a0, .int .i64 (wrap64 ((wrap64 (a1 + 1)) + (x9_2.size : Int)))] rfl (by (try simp only [List.map_toArray, List.map_cons, List.map_nil]); first | done | rfl | (simp only [List.length_drop, List.length_take]; rfl)) ?_; (with_reducible refine (impl_withEnd.calls a0 (wrap64 ((wrap64 (a1 + 1)) + (x9_2.size : Int))) t385 _ A28.out).mono ?_); rintro e w' ⟨rfl, ⟨nd, rfl⟩⟩; refine ⟨_, rfl, ?_⟩) | (go_at_call 143; (with_reducible refine (impl_isAfter.calls k2 a0 (wrap64 ((wrap64 (a1 + 1)) + (x9_2.size : Int))) t386 _ A31.out).mono ?_); rintro e w' ⟨rfl, ⟨nd, rfl⟩⟩))
              go_meet
              case rel => exact ⟨_, (t386), (by first | rfl | (simp; done) | (simp [*]; done)), H', ⟨by have := HJ3.out; have := HK2.out; first | omega | exact Nat.le_refl _⟩, ⟨by repeat (first | (with_reducible first | exact HB.out | apply below_alloc | apply pw_below_drewN | apply below_drew1) | exact HB.out)⟩⟩
             ·replace c30 := Bool.eq_false_iff.mpr c30
              subst c30
              have H1 : (impl_Ref.j2 k2 a0 a1 x9_2 (wrap64 ((wrap64 (a1 + 1)) + (x9_2.size : Int))) false) = some (r1, r2) := by rw [if_neg (show ¬ (false = true) by decide)] at H; exact H
              clear H
              have H := H1
              clear H1
              have H' := Aside0.mk H
              clear H
              go_wp2_with (first | ((with_reducible refine gate_callee (f := 142) rfl ?_); refine goesL_ (some 63) rfl rfl Try.func142 (by kernel_rfl) rfl #[.string a0, .int .i64 (wrap64 ((wrap64 (a1 + 1)) + (x9_2.size : Int)))] rfl (by (try simp only [List.map_toArray, List.map_cons, List.map_nil]); first | done | rfl | (simp only [List.length_drop, List.length_take]; rfl)) ?_; (with_reducible refine (impl_withEnd.calls a0 (wrap64 ((wrap64 (a1 + 1)) + (x9_2.size : Int))) t385 _ A28.out).mono ?_); rintro e w' ⟨rfl, ⟨nd, rfl⟩⟩; refine ⟨_, rfl, ?_⟩))
              go_meet
              case rel => exact ⟨_, (false), (by first | rfl | (simp; done) | (simp [*]; done)), H', ⟨by have := HJ3.out; have := HK2.out; first | omega | exact Nat.le_refl _⟩, ⟨by repeat (first | (with_reducible first | exact HB.out | apply below_alloc | apply pw_below_drewN | apply below_drew1) | exact HB.out)⟩⟩
            ·rw [if_neg c29] at H
             have c29b0 : (t385 == (wrap64 ((wrap64 (a1 + 1)) + (x9_2.size : Int)))) = false := beq_eq_false_iff_ne.mpr c29
             have c29b1 : (t385 != (wrap64 ((wrap64 (a1 + 1)) + (x9_2.size : Int)))) = true := bne_iff_ne.mpr c29
             (first | rw [c29b0] | (simp only [i64_w, i32_w]; rw [c29b0]) | skip)
             have H' := Aside0.mk H
             clear H
             go_wp2_with (first | ((with_reducible refine gate_callee (f := 142) rfl ?_); refine goesL_ (some 63) rfl rfl Try.func142 (by kernel_rfl) rfl #[.string a0, .int .i64 (wrap64 ((wrap64 (a1 + 1)) + (x9_2.size : Int)))] rfl (by (try simp only [List.map_toArray, List.map_cons, List.map_nil]); first | done | rfl | (simp only [List.length_drop, List.length_take]; rfl)) ?_; (with_reducible refine (impl_withEnd.calls a0 (wrap64 ((wrap64 (a1 + 1)) + (x9_2.size : Int))) t385 _ A28.out).mono ?_); rintro e w' ⟨rfl, ⟨nd, rfl⟩⟩; refine ⟨_, rfl, ?_⟩))
             go_meet
             case rel => exact ⟨_, (false), (by first | rfl | (simp; done) | (simp [*]; done)), H', ⟨by have := HJ3.out; have := HK2.out; first | omega | exact Nat.le_refl _⟩, ⟨by repeat (first | (with_reducible first | exact HB.out | apply below_alloc | apply pw_below_drewN | apply below_drew1) | exact HB.out)⟩⟩
           case rest =>
            clear HC27
            try clear c1
            try clear c2
            try clear p2
            try clear c3
            try clear p3
            try clear q3
            try clear hx3
            try clear c4
            try clear c6
            try clear p6
            try clear c7
            try clear c7b0
            try clear c8
            try clear c8b0
            try clear p9
            try clear q9
            try clear hx9
            try clear c10
            try clear c11
            try clear c11b0
            try clear c11b1
            try clear c12
            try clear c12b0
            try clear c12b1
            try clear c14
            try clear c20
            try clear c20b0
            try clear c21
            try clear c21b0
            try clear c22
            try clear c22b0
            try clear c23
            try clear c23b0
            try clear c23b1
            try clear c25
            try clear c26
            try clear c26b0
            try clear c26b1
            try clear c29
            try clear c29b0
            try clear c29b1
            try clear c30
            try clear hx383_0
            try clear p2
            try clear p383
            try clear p6
            try clear p9
            try clear q383
            try clear q9
            obtain ⟨kq, x73_26, rfl, HA, HJ26, HB⟩ := hcut
            cases kq with
            | zero => exact absurd HA.out (by simp [impl_Ref.j2])
            | succ kj26 =>
             have H := HA.out
             clear HA
             simp only [impl_Ref.j2] at H
             by_cases c32 : x73_26 = true
             ·subst c32
              have H1 : (some ((⟨#[]⟩ : ByteArray), 0)) = some (r1, r2) := by rw [if_pos rfl] at H; exact H
              clear H
              have H := H1
              clear H1
              simp only [Option.some.injEq, Prod.mk.injEq] at H
              obtain ⟨rfl, rfl⟩ := H
              go_wp2
              go_ret2
              exact ⟨by first | rfl | (simp [errW_none, errW_some] <;> rfl) | (simp [*, errW_none, errW_some] <;> rfl), by repeat (first | (with_reducible first | exact HB.out | apply below_alloc | apply pw_below_drewN | apply below_drew1) | exact HB.out)⟩
             ·replace c32 := Bool.eq_false_iff.mpr c32
              subst c32
              have H1 : ((impl_NameSign.f x9_2).bind fun t387 => ((impl_PutSign.f kj26 t387).bind fun t388 => ((impl_withEnd.f a0 (wrap64 ((wrap64 (a1 + 1)) + (x9_2.size : Int)))).bind fun t389 => (some (t388, wrap64 (t389 - a1)))))) = some (r1, r2) := by rw [if_neg (show ¬ (false = true) by decide)] at H; exact H
              clear H
              have H := H1
              clear H1
              replace H := Option.bind_eq_some_iff.mp H
              obtain ⟨t387, A330, H⟩ := H
              replace H : ((impl_PutSign.f kj26 t387).bind fun t388 => ((impl_withEnd.f a0 (wrap64 ((wrap64 (a1 + 1)) + (x9_2.size : Int)))).bind fun t389 => (some (t388, wrap64 (t389 - a1))))) = some (r1, r2) := H
              have A33 := Aside0.mk A330
              clear A330
              replace H := Option.bind_eq_some_iff.mp H
              obtain ⟨t388, A340, H⟩ := H
              replace H : ((impl_withEnd.f a0 (wrap64 ((wrap64 (a1 + 1)) + (x9_2.size : Int)))).bind fun t389 => (some (t388, wrap64 (t389 - a1)))) = some (r1, r2) := H
              have A34 := Aside0.mk A340
              clear A340
              replace H := Option.bind_eq_some_iff.mp H
              obtain ⟨t389, A350, H⟩ := H
              replace H : (some (t388, wrap64 (t389 - a1))) = some (r1, r2) := H
              have A35 := Aside0.mk A350
              clear A350
              simp only [Option.some.injEq, Prod.mk.injEq] at H
              obtain ⟨rfl, rfl⟩ := H
              go_wp2_with (first | ((with_reducible refine gate_callee (f := 145) rfl ?_); refine goesL_ (some 75) rfl rfl Try.func145 (by kernel_rfl) rfl #[.string x9_2] rfl (by (try simp only [List.map_toArray, List.map_cons, List.map_nil]); first | done | rfl | (simp only [List.length_drop, List.length_take]; rfl)) ?_; (with_reducible refine (impl_NameSign.calls x9_2 t387 _ A33.out).mono ?_); rintro e w36 ⟨rfl, hb⟩; refine ⟨_, rfl, ?_⟩; have n0_ := Aside0.mk (below_step (by repeat (first | (with_reducible first | exact HB.out | apply below_alloc | apply pw_below_drewN | apply below_drew1) | exact HB.out)) hb); clear HB; have HB := n0_; clear n0_; (try clear hb); (try clear hb2); (try clear hk); (try clear hi)) | ((with_reducible refine gate_callee (f := 144) rfl ?_); refine goesL_ (some 76) rfl rfl Try.func144 (by kernel_rfl) rfl #[.int .i64 t387] rfl (by (try simp only [List.map_toArray, List.map_cons, List.map_nil]); first | done | rfl | (simp only [List.length_drop, List.length_take]; rfl)) ?_; (with_reducible refine (impl_PutSign.calls kj26 t387 t388 _ A34.out).mono ?_); rintro e w37 ⟨rfl, hb⟩; refine ⟨_, rfl, ?_⟩; have n0_ := Aside0.mk (below_step (by repeat (first | (with_reducible first | exact HB.out | apply below_alloc | apply pw_below_drewN | apply below_drew1) | exact HB.out)) hb); clear HB; have HB := n0_; clear n0_; (try clear hb); (try clear hb2); (try clear hk); (try clear hi)) | ((with_reducible refine gate_callee (f := 142) rfl ?_); refine goesL_ (some 79) rfl rfl Try.func142 (by kernel_rfl) rfl #[.string a0, .int .i64 (wrap64 ((wrap64 (a1 + 1)) + (x9_2.size : Int)))] rfl (by (try simp only [List.map_toArray, List.map_cons, List.map_nil]); first | done | rfl | (simp only [List.length_drop, List.length_take]; rfl)) ?_; (with_reducible refine (impl_withEnd.calls a0 (wrap64 ((wrap64 (a1 + 1)) + (x9_2.size : Int))) t389 _ A35.out).mono ?_); rintro e w' ⟨rfl, ⟨nd, rfl⟩⟩; refine ⟨_, rfl, ?_⟩))
              go_ret2
              exact ⟨by first | rfl | (simp [errW_none, errW_some] <;> rfl) | (simp [*, errW_none, errW_some] <;> rfl), by repeat (first | (with_reducible first | exact HB.out | apply below_alloc | apply pw_below_drewN | apply below_drew1) | exact HB.out)⟩
     ·rw [if_neg c12] at H
      exact absurd H (by simp)
    ·rw [if_neg c11] at H
     exact absurd H (by simp)

end Go.Proofs.Ytlocaaebgghkbaa.A

namespace Go.Proofs.Ytlocaaebgghkbaa.A
open Go.RowKit Go.Proofs.YtlocaaebgghkbaaW.PrintWords Go.Proofs.YtlocaaebgghkbaaW.PrintLast Go.Proofs.YtlocaaebgghkbaaW.PrintMore
attribute [local go_sem] max2_int min2_int max_two min_two max_three min_three max_four min_four   -- for this text's walks alone
set_option linter.unusedVariables false
set_option linter.unusedSimpArgs false

/-! ### impl_Refs: function 67 -/
theorem bld_below {B b : Nat} {bs : List Value} {w w' : World} (h : Bld B b bs w) (hb : Below w.heap.size w w') : Bld B b bs w' := by
 have key : ∀ {p : Value}, BldAt B b p bs w → BldAt B b p bs w' := by
  intro p h
  have hlt := h.lt
  obtain ⟨hB, v, hc, ho, hne⟩ := h
  exact ⟨hB, v, (hb.block b hlt).trans hc, ho.kept (row := none) ⟨hb.os, hb.tape, hb.output, hb.size, fun k hk _ => hb.block k hk⟩ (by cases v.ownBlock <;> simp), hne⟩
 rcases h with h | h
 ·exact .inl (key h)
 ·exact .inr (key h)
theorem bld_new (w : World) : Bld w.heap.size w.heap.size [] (w.alloc (.cells #[.pointer none, .slice none 0 0] 72 (0, 0))) :=
 .inl ⟨Nat.le_refl _, .slice none 0 0, heap_alloc_new w _, World.ownsRowF_nil _ _ _ _, by simp [Value.ownBlock]⟩
theorem strCells_bytes (s : ByteArray) : Lib.strCells s = Lib.byteCells s.data.toList := rfl
theorem byteCells_append (a b : List UInt8) : Lib.byteCells (a ++ b) = Lib.byteCells a ++ Lib.byteCells b := by simp [Lib.byteCells]
theorem byteCells_len (a : List UInt8) : (Lib.byteCells a).length = a.length := by simp [Lib.byteCells]
def byU (s : ByteArray) (i : Int) : UInt8 := s.data.toList.getD i.toNat 0
theorem byU_bt (s : ByteArray) (i : Int) : ((byU s i).toNat : Int) = bt s i := by
 unfold byU bt
 split
 ·rename_i h
  have h' : i.toNat < s.data.toList.length := by rw [data_length]; exact h
  simp [List.getD_eq_getElem?_getD, List.getElem?_eq_getElem h']
  rfl
 ·rename_i h
  have h' : s.data.toList.length ≤ i.toNat := by rw [data_length]; omega
  simp [List.getD_eq_getElem?_getD, List.getElem?_eq_none h']
def impl_Refs.l0 : Nat → ByteArray → Bool → List UInt8 → Int → Option ByteArray
 | 0, _, _, _, _ => none
 | k + 1, s, v, out, j => if j < (s.size : Int) then (impl_Ref.f k s j v).bind fun t => (if t.2 = 0 then (if 0 ≤ j then (if out.length + 1 ≤ 140737488355328 then impl_Refs.l0 k s v (out ++ [byU s j]) (wrap64 (j + 1)) else none) else none) else (if out.length + t.1.size ≤ 140737488355328 then impl_Refs.l0 k s v (out ++ t.1.data.toList) (wrap64 (j + t.2)) else none)) else some ⟨out.toArray⟩
def impl_Refs.f (k : Nat) (a0 : ByteArray) (a1 : Bool) : Option ByteArray := impl_Refs.l0 k a0 a1 [] 0
theorem impl_Refs.mono_l : ∀ k y0 y1 y2 y3, LeO (impl_Refs.l0 k y0 y1 y2 y3) (impl_Refs.l0 (k + 1) y0 y1 y2 y3)
 | 0 => fun _ _ _ _ r h => by simp [impl_Refs.l0] at h
 | k + 1 => by
  have ih0 := impl_Refs.mono_l k
  intro y0 y1 y2 y3
  rw [impl_Refs.l0, impl_Refs.l0]
  refine LeO.ite (LeO.bind (impl_Ref.mono _ _ _ _) (fun t => ?_)) (LeO.refl _)
  exact LeO.ite (LeO.ite (LeO.ite (ih0 _ _ _ _) (LeO.refl _)) (LeO.refl _)) (LeO.ite (ih0 _ _ _ _) (LeO.refl _))
theorem impl_Refs.mono : ∀ a0 a1 k, LeO (impl_Refs.f k a0 a1) (impl_Refs.f (k + 1) a0 a1) := fun _ _ k => impl_Refs.mono_l k _ _ _ _
set_option maxHeartbeats 2000000 in
set_option maxRecDepth 100000 in
theorem impl_Refs.calls (k : Nat) (a0 : ByteArray) (a1 : Bool) (r : ByteArray) (w : World) (h : impl_Refs.f k a0 a1 = some r) :
  Calls Try.prog 67 #[.string a0, .bool a1] w fun e w' => e = .returned (.string r) ∧ Below w.heap.size w w' := by
 have HH := Aside0.mk h
 clear h
 have hu := Try.underlying72
 have HN := Aside0.mk (bld_new w)
 have HB := Aside0.mk (below_alloc (Below.refl _ _) (.cells #[.pointer none, .slice none 0 0] 72 (0, 0)) : Below w.heap.size w _)
 go_enter Try.func67, Try.ntmps67
 go_wp2
 go_loopg [6] k (fun kq v6 wr => ∃ (out : List UInt8) (j : Int), v6 = .int .i64 j ∧ Aside0 (impl_Refs.l0 kq a0 a1 out j = some r) ∧ Aside0 (Bld w.heap.size w.heap.size (Lib.byteCells out) wr) ∧ Aside0 (Below w.heap.size w wr))
 case atStart => exact ⟨[], 0, rfl, HH, HN, HB⟩
 case round =>
  clear HH HN HB
  obtain ⟨out, j, rfl, HE, HO, HB⟩ := hrel
  cases gk with
  | zero => exact absurd HE.out (by simp [impl_Refs.l0])
  | succ k1 =>
   have h := HE.out
   clear HE
   rw [impl_Refs.l0] at h
   by_cases hlt : j < (a0.size : Int)
   ·rw [if_pos hlt] at h
    obtain ⟨⟨tx, us⟩, hR, h⟩ := Option.bind_eq_some_iff.mp h
    have HR := Aside0.mk hR
    clear hR
    dsimp only at h
    have q7 := eq_true hlt
    by_cases hu : us = 0
    ·rw [if_pos hu] at h
     have hub : (us == 0) = true := beq_iff_eq.mpr hu
     have j0 : 0 ≤ j := by
      by_cases j0 : 0 ≤ j
      ·exact j0
      ·rw [if_neg j0] at h; cases h
     rw [if_pos j0] at h
     have hl : out.length + 1 ≤ 140737488355328 := by
      by_cases hl : out.length + 1 ≤ 140737488355328
      ·exact hl
      ·rw [if_neg hl] at h; cases h
     rw [if_pos hl] at h
     have HE := Aside0.mk h
     have HL := Aside0.mk hl
     have HU := Aside0.mk (byU_bt a0 j)
     clear h hl hu
     have p7 := eq_true j0
     have hx7 := bt_at a0 j
     go_wp2_with (first | (go_at_call 104; (with_reducible refine (bld_byte w.heap.size w.heap.size (Lib.byteCells out) (bt a0 j) _ HO4.out (by rw [byteCells_len]; exact HL.out) HB4.out.size).mono ?_); rintro e w5 ⟨rfl, ho, hb, hk⟩; have HO5 := Aside0.mk ho; have HB5 := Aside0.mk (HB4.out.trans hb); clear ho hb hk) | (go_at_call 103; (with_reducible refine (impl_Ref.calls k1 a0 j a1 tx us _ HR.out).mono ?_); rintro e w4 ⟨rfl, hb⟩; have HB4 := Aside0.mk (below_step HB.out hb); have HO4 := Aside0.mk (bld_below HO.out hb); clear hb))
     go_roundg k1
     case measure => omega
     case rel => exact ⟨_, _, rfl, HE, ⟨by rw [byteCells_append]; unfold Lib.byteCells; simp only [List.map_cons, List.map_nil, HU.out]; exact HO5.out⟩, HB5⟩
    ·rw [if_neg hu] at h
     have hub : (us == 0) = false := beq_eq_false_iff_ne.mpr hu
     have hl : out.length + tx.size ≤ 140737488355328 := by
      by_cases hl : out.length + tx.size ≤ 140737488355328
      ·exact hl
      ·rw [if_neg hl] at h; cases h
     rw [if_pos hl] at h
     have HE := Aside0.mk h
     have HL := Aside0.mk hl
     clear h hl hu
     go_wp2_with (first | (go_at_call 80; (with_reducible refine (bld_str w.heap.size w.heap.size (Lib.byteCells out) tx _ HO4.out (by rw [byteCells_len]; exact HL.out) HB4.out.size).mono ?_); rintro e w5 ⟨rfl, ho, hb, hk⟩; have HO5 := Aside0.mk ho; have HB5 := Aside0.mk (HB4.out.trans hb); clear ho hb hk) | (go_at_call 103; (with_reducible refine (impl_Ref.calls k1 a0 j a1 tx us _ HR.out).mono ?_); rintro e w4 ⟨rfl, hb⟩; have HB4 := Aside0.mk (below_step HB.out hb); have HO4 := Aside0.mk (bld_below HO.out hb); clear hb))
     go_roundg k1
     case measure => omega
     case rel => exact ⟨_, _, rfl, HE, ⟨by rw [byteCells_append, ← strCells_bytes]; exact HO5.out⟩, HB5⟩
   ·rw [if_neg hlt] at h
    obtain rfl := Option.some.inj h
    clear h
    go_wp2_with (go_at_call 57; (with_reducible refine (bld_string w.heap.size w.heap.size out _ HO.out HB.out.size).mono ?_); rintro e w5 ⟨rfl, hb, hk⟩; have HB5 := Aside0.mk (HB.out.trans hb); clear hb hk)
    go_ret
    exact ⟨rfl, HB5.out⟩

end Go.Proofs.Ytlocaaebgghkbaa.A

namespace Go.Proofs.Ytlocaaebgghkbaa.A
open Go.RowKit Go.Proofs.YtlocaaebgghkbaaW.PrintWords Go.Proofs.YtlocaaebgghkbaaW.PrintLast Go.Proofs.YtlocaaebgghkbaaW.PrintMore
attribute [local go_sem] max2_int min2_int max_two min_two max_three min_three max_four min_four   -- for this text's walks alone
set_option linter.unusedVariables false
set_option linter.unusedSimpArgs false

/-! ### impl_WordsOf: function 15 -/
mutual
/-- the words of an element -/
def wE : S68 → List UInt8
 | ⟨kd, _, _, _, tx, kids⟩ => (if kd = 2 then tx.data.toList else []) ++ wL kids
/-- the words of elements, one behind the other -/
def wL : List S68 → List UInt8
 | [] => []
 | e :: es => wE e ++ wL es
end
theorem wL_append : ∀ a b, wL (a ++ b) = wL a ++ wL b
 | [], b => by simp [wL]
 | e :: a, b => by simp [wL, wL_append a b]
theorem wL_take (l : List S68) (j : Nat) (h : j < l.length) : wL (l.take (j + 1)) = wL (l.take j) ++ wE (rd_T68 l j) := by
 rw [List.take_succ_eq_append_getElem h, wL_append]
 have : rd_T68 l j = l[j] := by simp [rd_T68, List.getD_eq_getElem?_getD, List.getElem?_eq_getElem h]
 rw [this]
 simp [wL]
theorem wL_len (l : List S68) (j : Nat) : (wL (l.take j)).length ≤ (wL l).length := by
 have h := wL_append (l.take j) (l.drop j)
 rw [List.take_append_drop] at h
 rw [h, List.length_append]
 omega
theorem set6 {w w9 : World} {g : Nat} (hb : Below w.heap.size w w9) (hg : w.heap.size ≤ g) (v0 v1 v2 v3 v4 v5 : Value) :
  Below w.heap.size w ((((((w9.setCell ⟨g, 0, none⟩ v0).setCell ⟨g, 1, none⟩ v1).setCell ⟨g, 2, none⟩ v2).setCell ⟨g, 3, none⟩ v3).setCell ⟨g, 4, none⟩ v4).setCell ⟨g, 5, none⟩ v5) :=
 below_set (below_set (below_set (below_set (below_set (below_set hb hg) hg) hg) hg) hg) hg
theorem rd_size (l : List S68) (j : Nat) (h : j < l.length) : SizeOf.sizeOf (rd_T68 l j) < SizeOf.sizeOf l := by
 have : rd_T68 l j = l[j] := by simp [rd_T68, List.getD_eq_getElem?_getD, List.getElem?_eq_getElem h]
 rw [this]
 exact List.sizeOf_lt_of_mem (List.getElem_mem h)
set_option maxHeartbeats 4000000 in
set_option maxRecDepth 100000 in
theorem wordsOf_calls : ∀ (n : Nat) (e : S68) (out : List UInt8) (b : Nat) (w0 w : World) (A3 A5 : Option Addr) (c3 c5 : Nat), SizeOf.sizeOf e < n → Kd.C k68 w0 A5 e.f5.length e.f5 → Below w0.heap.size w0 w →
  Bld w0.heap.size b (Lib.byteCells out) w → out.length + (wE e).length ≤ 140737488355328 →
  Calls Try.prog 56 #[.pointer (some ⟨b, 0, none⟩), .agg #[.int .i64 e.f0, .int .i64 e.f1, .string e.f2, .slice A3 e.f3.length c3, .string e.f4, .slice A5 e.f5.length c5]] w
   fun r w' => r = .returned (.tuple #[]) ∧ Bld w0.heap.size b (Lib.byteCells (out ++ wE e)) w' ∧ Below w0.heap.size w0 w' := by
 intro n
 induction n with
 | zero => intro e out b w0 w A3 A5 c3 c5 hn; omega
 | succ n ih =>
 intro e out b w0 w A3 A5 c3 c5 hn hr hb ho hl
 obtain ⟨ea, eb, ec, ed, et, ek⟩ := e
 dsimp only at hr ⊢
 have hse : SizeOf.sizeOf ek < n := by simp at hn; omega
 have HM := Aside0.mk hse
 have HR := Aside0.mk hr
 have HB := Aside0.mk hb
 have HO := Aside0.mk ho
 have hu := Try.underlying68
 have hkm : ek.length ≤ 9223372036854775807 := Kd.C_max hr
 obtain ⟨o2, ho2⟩ : ∃ o2, o2 = out ++ (if ea = 2 then et.data.toList else []) := ⟨_, rfl⟩
 have hwe : out ++ wE ⟨ea, eb, ec, ed, et, ek⟩ = o2 ++ wL ek := by rw [ho2, wE, List.append_assoc]
 have hl2 : o2.length + (wL ek).length ≤ 140737488355328 := by
  have := congrArg List.length hwe
  rw [List.length_append, List.length_append] at this
  omega
 rw [hwe]
 have HL := Aside0.mk hl2
 have HKM := Aside0.mk hkm
 have H2 := Aside0.mk ho2
 clear hn hse hr hb ho hl hl2 hwe hkm ho2
 go_enter Try.func56, Try.ntmps56
 by_cases hk : ea = 2
 ·subst hk
  have H3 : Aside0 (o2 = out ++ et.data.toList) := ⟨by rw [H2.out]; simp⟩
  go_wp2_with (first | ((with_reducible refine gate_dst (N := 3) rfl ?_); refine box_event ?hg (N := 3) ?hd (cs := #[.int .i64 2, .int .i64 eb, .string ec, .slice A3 ed.length c3, .string et, .slice A5 ek.length c5]) (t := 68) ?hr ?_; (case hd => rfl); (case hg => rfl); (case hr => first | (go_simp; done) | (go_simp; rfl)); intro gb hg w4 hbox hb; have HG := Aside0.mk hg; have HBX := Aside0.mk hb; have HX := Aside0.mk hbox; clear hg hb hbox; have hz0 := (blk_cell HX.out 0).trans rfl; have hz4 := (blk_cell HX.out 4).trans rfl; have hz5 := (blk_cell HX.out 5).trans rfl) | (go_at_call 80; (with_reducible refine (bld_str w0.heap.size b (Lib.byteCells out) et _ (bld_below HO.out HBX.out) ?hs1 ?hs2).mono ?_); (case hs1 => have h1_ := HL.out; rw [H3.out, List.length_append] at h1_; rw [byteCells_len, ← data_length]; omega); (case hs2 => have h1_ := HB.out.size; have h2_ := HBX.out.size; omega); rintro e w5 ⟨rfl, ho, hb, hk⟩; have hX := hk gb _ HX.out (by have h_ := HO.out.elim (fun h => h.lt) (fun h => h.lt); rw [HG.out]; intro e_; have := Option.some.inj e_; omega) (by intro c_ f_ e_; injection e_ with _ e2_; exact absurd e2_ (by decide)); have hz5' := (blk_cell hX 5).trans rfl; have HX5 := Aside0.mk hX; have HO5 := Aside0.mk ho; have HB5 := Aside0.mk ((below_step HB.out HBX.out).trans hb); clear ho hb hk hX hz0 hz4 hz5))
  go_loopg [16] ek.length (fun kq v16 wr => ∃ j : Int, v16 = .int .i64 j ∧ 0 ≤ j ∧ j ≤ (ek.length : Int) ∧ Aside0 (kq = ek.length - j.toNat) ∧ Aside0 (Bld w0.heap.size b (Lib.byteCells (o2 ++ wL (ek.take j.toNat))) wr) ∧ Aside0 (Below w0.heap.size w0 wr))
  case atStart => exact ⟨0, rfl, Int.le_refl _, by omega, ⟨rfl⟩, ⟨by rw [H3.out]; simp only [Int.toNat_zero, List.take_zero, wL, List.append_nil]; rw [byteCells_append, ← strCells_bytes]; exact HO5.out⟩, HB5⟩
  case round =>
   obtain ⟨j, rfl, j0, hj, HE, HO1, HB1⟩ := hrel
   clear HG HBX HX HX5 HO5 HB5
   have hkm := HKM.out
   by_cases hlt : j < (ek.length : Int)
   ·obtain ⟨ad, A3', c3', A5', c5', eA, x0, x1, x2, x3, x4, x5, l3, g3, l5, g5⟩ := at_T68 HR.out j j0 hlt
    subst eA
    replace x0 := (HB1.out.cell (World.block_lt_of_cell? w0 _ x0)).trans x0
    replace x1 := (HB1.out.cell (World.block_lt_of_cell? w0 _ x1)).trans x1
    replace x2 := (HB1.out.cell (World.block_lt_of_cell? w0 _ x2)).trans x2
    replace x3 := (HB1.out.cell (World.block_lt_of_cell? w0 _ x3)).trans x3
    replace x4 := (HB1.out.cell (World.block_lt_of_cell? w0 _ x4)).trans x4
    replace x5 := (HB1.out.cell (World.block_lt_of_cell? w0 _ x5)).trans x5
    have hjn : j.toNat < ek.length := by omega
    have HS := Aside0.mk (Nat.lt_trans (rd_size ek j.toNat hjn) HM.out)
    have HT := Aside0.mk (wL_take ek j.toNat hjn)
    have HLn := Aside0.mk (wL_len ek (j.toNat + 1))
    have HC5 := Aside0.mk g5
    rw [show ((j.toNat : Nat) : Int) = j by omega] at HS HT
    have hwr : wrap64 (j + 1) = j + 1 := by unfold wrap64; omega
    clear l3 g3 l5 g5 hjn hkm
    have p7 := eq_true j0
    have q7 := eq_true hlt
    go_wp2_with (first | ((with_reducible refine gate_dst (N := 5) rfl ?_); refine box_event ?hg (N := 5) ?hd (cs := #[.int .i64 0, .int .i64 0, .string (⟨#[]⟩ : ByteArray), .slice none 0 0, .string (⟨#[]⟩ : ByteArray), .slice none 0 0]) (t := 68) ?hr ?_; (case hd => rfl); (case hg => rfl); (case hr => first | (go_simp; done) | (go_simp; rfl)); intro gb hg w6 hbox hb; have HG := Aside0.mk hg; have HBX := Aside0.mk hb; have hy0 := (blk_cell hbox 0).trans rfl; have hy1 := (blk_cell hbox 1).trans rfl; have hy2 := (blk_cell hbox 2).trans rfl; have hy3 := (blk_cell hbox 3).trans rfl; have hy4 := (blk_cell hbox 4).trans rfl; have hy5 := (blk_cell hbox 5).trans rfl; have hf0 := blk_frozen hbox 0; have hf1 := blk_frozen hbox 1; have hf2 := blk_frozen hbox 2; have hf3 := blk_frozen hbox 3; have hf4 := blk_frozen hbox 4; have hf5 := blk_frozen hbox 5; clear hg hb hbox) | (go_at_call 56; (with_reducible refine (ih (rd_T68 ek j) (o2 ++ wL (ek.take j.toNat)) b w0 _ _ _ _ _ HS.out HC5.out (below_step HB1.out (set6 HBX.out (by rw [HG.out]; exact Nat.le_refl _) _ _ _ _ _ _)) (bld_below HO1.out (set6 HBX.out (by rw [HG.out]; exact Nat.le_refl _) _ _ _ _ _ _)) ?hs1).mono ?_); (case hs1 => have h1_ := HL.out; have h2_ := HLn.out; rw [HT.out, List.length_append] at h2_; rw [List.length_append]; omega); rintro e w7 ⟨rfl, ho, hb⟩; have HO7 := Aside0.mk ho; have HB7 := Aside0.mk hb; clear ho hb))
    go_roundg (ek.length - (j + 1).toNat)
    case measure => have := HE.out; omega
    case rel => exact ⟨j + 1, by rw [hwr], by omega, by omega, ⟨rfl⟩, ⟨by rw [show (j + 1).toNat = j.toNat + 1 by omega, HT.out, ← List.append_assoc]; exact HO7.out⟩, HB7⟩
   ·have hje : j.toNat = ek.length := by omega
    have HOE := HO1.out
    rw [hje, List.take_length] at HOE
    have HO2 := Aside0.mk HOE
    clear HOE hje
    go_wp2
    go_end0
    exact ⟨rfl, HO2.out, HB1.out⟩
 ·have H3 : Aside0 (o2 = out) := ⟨by rw [H2.out, if_neg hk]; simp⟩
  have hkb : (ea == 2) = false := beq_eq_false_iff_ne.mpr hk
  go_wp2_with (first | ((with_reducible refine gate_dst (N := 3) rfl ?_); refine box_event ?hg (N := 3) ?hd (cs := #[.int .i64 ea, .int .i64 eb, .string ec, .slice A3 ed.length c3, .string et, .slice A5 ek.length c5]) (t := 68) ?hr ?_; (case hd => rfl); (case hg => rfl); (case hr => first | (go_simp; done) | (go_simp; rfl)); intro gb hg w4 hbox hb; have HG := Aside0.mk hg; have HBX := Aside0.mk hb; have HX := Aside0.mk hbox; clear hg hb hbox; have hz0 := (blk_cell HX.out 0).trans rfl; have hz4 := (blk_cell HX.out 4).trans rfl; have hz5 := (blk_cell HX.out 5).trans rfl))
  go_loopg [16] ek.length (fun kq v16 wr => ∃ j : Int, v16 = .int .i64 j ∧ 0 ≤ j ∧ j ≤ (ek.length : Int) ∧ Aside0 (kq = ek.length - j.toNat) ∧ Aside0 (Bld w0.heap.size b (Lib.byteCells (o2 ++ wL (ek.take j.toNat))) wr) ∧ Aside0 (Below w0.heap.size w0 wr))
  case atStart => exact ⟨0, rfl, Int.le_refl _, by omega, ⟨rfl⟩, ⟨by rw [H3.out]; simp only [Int.toNat_zero, List.take_zero, wL, List.append_nil]; exact bld_below HO.out HBX.out⟩, ⟨below_step HB.out HBX.out⟩⟩
  case round =>
   obtain ⟨j, rfl, j0, hj, HE, HO1, HB1⟩ := hrel
   clear HG HBX HX
   have hkm := HKM.out
   by_cases hlt : j < (ek.length : Int)
   ·obtain ⟨ad, A3', c3', A5', c5', eA, x0, x1, x2, x3, x4, x5, l3, g3, l5, g5⟩ := at_T68 HR.out j j0 hlt
    subst eA
    replace x0 := (HB1.out.cell (World.block_lt_of_cell? w0 _ x0)).trans x0
    replace x1 := (HB1.out.cell (World.block_lt_of_cell? w0 _ x1)).trans x1
    replace x2 := (HB1.out.cell (World.block_lt_of_cell? w0 _ x2)).trans x2
    replace x3 := (HB1.out.cell (World.block_lt_of_cell? w0 _ x3)).trans x3
    replace x4 := (HB1.out.cell (World.block_lt_of_cell? w0 _ x4)).trans x4
    replace x5 := (HB1.out.cell (World.block_lt_of_cell? w0 _ x5)).trans x5
    have hjn : j.toNat < ek.length := by omega
    have HS := Aside0.mk (Nat.lt_trans (rd_size ek j.toNat hjn) HM.out)
    have HT := Aside0.mk (wL_take ek j.toNat hjn)
    have HLn := Aside0.mk (wL_len ek (j.toNat + 1))
    have HC5 := Aside0.mk g5
    rw [show ((j.toNat : Nat) : Int) = j by omega] at HS HT
    have hwr : wrap64 (j + 1) = j + 1 := by unfold wrap64; omega
    clear l3 g3 l5 g5 hjn hkm
    have p7 := eq_true j0
    have q7 := eq_true hlt
    go_wp2_with (first | ((with_reducible refine gate_dst (N := 5) rfl ?_); refine box_event ?hg (N := 5) ?hd (cs := #[.int .i64 0, .int .i64 0, .string (⟨#[]⟩ : ByteArray), .slice none 0 0, .string (⟨#[]⟩ : ByteArray), .slice none 0 0]) (t := 68) ?hr ?_; (case hd => rfl); (case hg => rfl); (case hr => first | (go_simp; done) | (go_simp; rfl)); intro gb hg w6 hbox hb; have HG := Aside0.mk hg; have HBX := Aside0.mk hb; have hy0 := (blk_cell hbox 0).trans rfl; have hy1 := (blk_cell hbox 1).trans rfl; have hy2 := (blk_cell hbox 2).trans rfl; have hy3 := (blk_cell hbox 3).trans rfl; have hy4 := (blk_cell hbox 4).trans rfl; have hy5 := (blk_cell hbox 5).trans rfl; have hf0 := blk_frozen hbox 0; have hf1 := blk_frozen hbox 1; have hf2 := blk_frozen hbox 2; have hf3 := blk_frozen hbox 3; have hf4 := blk_frozen hbox 4; have hf5 := blk_frozen hbox 5; clear hg hb hbox) | (go_at_call 56; (with_reducible refine (ih (rd_T68 ek j) (o2 ++ wL (ek.take j.toNat)) b w0 _ _ _ _ _ HS.out HC5.out (below_step HB1.out (set6 HBX.out (by rw [HG.out]; exact Nat.le_refl _) _ _ _ _ _ _)) (bld_below HO1.out (set6 HBX.out (by rw [HG.out]; exact Nat.le_refl _) _ _ _ _ _ _)) ?hs1).mono ?_); (case hs1 => have h1_ := HL.out; have h2_ := HLn.out; rw [HT.out, List.length_append] at h2_; rw [List.length_append]; omega); rintro e w7 ⟨rfl, ho, hb⟩; have HO7 := Aside0.mk ho; have HB7 := Aside0.mk hb; clear ho hb))
    go_roundg (ek.length - (j + 1).toNat)
    case measure => have := HE.out; omega
    case rel => exact ⟨j + 1, by rw [hwr], by omega, by omega, ⟨rfl⟩, ⟨by rw [show (j + 1).toNat = j.toNat + 1 by omega, HT.out, ← List.append_assoc]; exact HO7.out⟩, HB7⟩
   ·have hje : j.toNat = ek.length := by omega
    have HOE := HO1.out
    rw [hje, List.take_length] at HOE
    have HO2 := Aside0.mk HOE
    clear HOE hje
    go_wp2
    go_end0
    exact ⟨rfl, HO2.out, HB1.out⟩
def impl_WordsOf.f (l0 : List S68) : Option ByteArray := if (wL l0).length ≤ 140737488355328 then some ⟨(wL l0).toArray⟩ else none
set_option maxHeartbeats 4000000 in
set_option maxRecDepth 100000 in
theorem impl_WordsOf.calls (A0 : Option Addr) (c0 : Nat) (l0 : List S68) (r : ByteArray) (w : World) (hr0 : Kd.C k68 w A0 l0.length l0) (hc0 : l0.length ≤ c0) (h : impl_WordsOf.f l0 = some r) :
  Calls Try.prog 15 #[.slice A0 l0.length c0] w fun e w' => e = .returned (.string r) ∧ Below w.heap.size w w' := by
 unfold impl_WordsOf.f at h
 have hs : (wL l0).length ≤ 140737488355328 := by
  by_cases hs : (wL l0).length ≤ 140737488355328
  ·exact hs
  ·rw [if_neg hs] at h; cases h
 rw [if_pos hs] at h
 obtain rfl := Option.some.inj h
 clear h
 have HL := Aside0.mk hs
 have HR := Aside0.mk hr0
 have HKM := Aside0.mk (Kd.C_max hr0)
 clear hs hr0
 have hub := Try.underlying72
 have hu := Try.underlying68
 have HN := Aside0.mk (bld_new w)
 have HB := Aside0.mk (below_alloc (Below.refl _ _) (.cells #[.pointer none, .slice none 0 0] 72 (0, 0)) : Below w.heap.size w _)
 go_enter Try.func15, Try.ntmps15
 go_wp2
 go_loopg [8] l0.length (fun kq v8 wr => ∃ j : Int, v8 = .int .i64 j ∧ 0 ≤ j ∧ j ≤ (l0.length : Int) ∧ Aside0 (kq = l0.length - j.toNat) ∧ Aside0 (Bld w.heap.size w.heap.size (Lib.byteCells (wL (l0.take j.toNat))) wr) ∧ Aside0 (Below w.heap.size w wr))
 case atStart => exact ⟨0, rfl, Int.le_refl _, by omega, ⟨rfl⟩, ⟨by simp only [Int.toNat_zero, List.take_zero, wL]; exact HN.out⟩, HB⟩
 case round =>
  obtain ⟨j, rfl, j0, hj, HE, HO1, HB1⟩ := hrel
  clear HN HB
  have hkm := HKM.out
  by_cases hlt : j < (l0.length : Int)
  ·obtain ⟨ad, A3', c3', A5', c5', eA, x0, x1, x2, x3, x4, x5, l3, g3, l5, g5⟩ := at_T68 HR.out j j0 hlt
   subst eA
   replace x0 := (HB1.out.cell (World.block_lt_of_cell? w _ x0)).trans x0
   replace x1 := (HB1.out.cell (World.block_lt_of_cell? w _ x1)).trans x1
   replace x2 := (HB1.out.cell (World.block_lt_of_cell? w _ x2)).trans x2
   replace x3 := (HB1.out.cell (World.block_lt_of_cell? w _ x3)).trans x3
   replace x4 := (HB1.out.cell (World.block_lt_of_cell? w _ x4)).trans x4
   replace x5 := (HB1.out.cell (World.block_lt_of_cell? w _ x5)).trans x5
   have hjn : j.toNat < l0.length := by omega
   have HT := Aside0.mk (wL_take l0 j.toNat hjn)
   have HLn := Aside0.mk (wL_len l0 (j.toNat + 1))
   have HC5 := Aside0.mk g5
   rw [show ((j.toNat : Nat) : Int) = j by omega] at HT
   have hwr : wrap64 (j + 1) = j + 1 := by unfold wrap64; omega
   clear l3 g3 l5 g5 hjn hkm
   have p7 := eq_true j0
   have q7 := eq_true hlt
   go_wp2_with (first | ((with_reducible refine gate_dst (N := 5) rfl ?_); refine box_event ?hg (N := 5) ?hd (cs := #[.int .i64 0, .int .i64 0, .string (⟨#[]⟩ : ByteArray), .slice none 0 0, .string (⟨#[]⟩ : ByteArray), .slice none 0 0]) (t := 68) ?hr ?_; (case hd => rfl); (case hg => rfl); (case hr => first | (go_simp; done) | (go_simp; rfl)); intro gb hg w6 hbox hb; have HG := Aside0.mk hg; have HBX := Aside0.mk hb; have hy0 := (blk_cell hbox 0).trans rfl; have hy1 := (blk_cell hbox 1).trans rfl; have hy2 := (blk_cell hbox 2).trans rfl; have hy3 := (blk_cell hbox 3).trans rfl; have hy4 := (blk_cell hbox 4).trans rfl; have hy5 := (blk_cell hbox 5).trans rfl; have hf0 := blk_frozen hbox 0; have hf1 := blk_frozen hbox 1; have hf2 := blk_frozen hbox 2; have hf3 := blk_frozen hbox 3; have hf4 := blk_frozen hbox 4; have hf5 := blk_frozen hbox 5; clear hg hb hbox) | (go_at_call 56; (with_reducible refine (wordsOf_calls (SizeOf.sizeOf (rd_T68 l0 j) + 1) (rd_T68 l0 j) (wL (l0.take j.toNat)) w.heap.size w _ _ _ _ _ (Nat.lt_succ_self _) HC5.out (below_step HB1.out (set6 HBX.out (by rw [HG.out]; exact Nat.le_refl _) _ _ _ _ _ _)) (bld_below HO1.out (set6 HBX.out (by rw [HG.out]; exact Nat.le_refl _) _ _ _ _ _ _)) ?hs1).mono ?_); (case hs1 => have h1_ := HL.out; have h2_ := HLn.out; rw [HT.out, List.length_append] at h2_; omega); rintro e w7 ⟨rfl, ho, hb⟩; have HO7 := Aside0.mk ho; have HB7 := Aside0.mk hb; clear ho hb))
   go_roundg (l0.length - (j + 1).toNat)
   case measure => have := HE.out; omega
   case rel => exact ⟨j + 1, by rw [hwr], by omega, by omega, ⟨rfl⟩, ⟨by rw [show (j + 1).toNat = j.toNat + 1 by omega, HT.out]; exact HO7.out⟩, HB7⟩
  ·have hje : j.toNat = l0.length := by omega
   have HOE := HO1.out
   rw [hje, List.take_length] at HOE
   have HO2 := Aside0.mk HOE
   clear HOE hje
   go_wp2_with (go_at_call 57; (with_reducible refine (bld_string w.heap.size w.heap.size (wL l0) _ HO2.out HB1.out.size).mono ?_); rintro e w5 ⟨rfl, hb, hk⟩; have HB5 := Aside0.mk (HB1.out.trans hb); clear hb hk)
   go_ret
   exact ⟨rfl, HB5.out⟩

end Go.Proofs.Ytlocaaebgghkbaa.A

namespace Go.Proofs.Ytlocaaebgghkbaa.A
open Go.RowKit Go.Proofs.YtlocaaebgghkbaaW.PrintWords Go.Proofs.YtlocaaebgghkbaaW.PrintLast Go.Proofs.YtlocaaebgghkbaaW.PrintMore
attribute [local go_sem] max2_int min2_int max_two min_two max_three min_three max_four min_four   -- for this text's walks alone
set_option linter.unusedVariables false
set_option linter.unusedSimpArgs false

/-! ### impl_wordOf: function 79 -/
def impl_wordOf.f (a0 : Int) (l1 : List ByteArray) : Option (ByteArray) := (impl_inRange.f a0 1 (l1.length : Int)).bind fun t246 => (if t246 = true then (if 0 ≤ (wrap64 (a0 - 1)) then (if (wrap64 (a0 - 1)) < (l1.length : Int) then (some (rdOf ByteArray.empty l1 (wrap64 (a0 - 1)))) else (none)) else (none)) else (some (⟨#[110, 111, 110, 101]⟩ : ByteArray)))
set_option maxHeartbeats 8000000 in
set_option maxRecDepth 100000 in
theorem impl_wordOf.calls (a0 : Int) (A1 : Option Addr) (c1 : Nat) (l1 : List ByteArray) (r : ByteArray) (w : World) (hr1 : Kd.C Kd.string w A1 l1.length l1) (hc1 : l1.length ≤ c1) (h : impl_wordOf.f a0 l1 = some r) :
  Calls Try.prog 79 #[.int .i64 a0, .slice A1 l1.length c1] w fun e w' => e = .returned (.string r) ∧ Drawn0 w w' := by
 have HR1 := Aside0.mk hr1
 have HC1 := Aside0.mk hc1
 clear hr1 hc1
 have H : ((impl_inRange.f a0 1 (l1.length : Int)).bind fun t246 => (if t246 = true then (if 0 ≤ (wrap64 (a0 - 1)) then (if (wrap64 (a0 - 1)) < (l1.length : Int) then (some (rdOf ByteArray.empty l1 (wrap64 (a0 - 1)))) else (none)) else (none)) else (some (⟨#[110, 111, 110, 101]⟩ : ByteArray)))) = some r := h
 clear h
 replace H := Option.bind_eq_some_iff.mp H
 obtain ⟨t246, A30, H⟩ := H
 replace H : (if t246 = true then (if 0 ≤ (wrap64 (a0 - 1)) then (if (wrap64 (a0 - 1)) < (l1.length : Int) then (some (rdOf ByteArray.empty l1 (wrap64 (a0 - 1)))) else (none)) else (none)) else (some (⟨#[110, 111, 110, 101]⟩ : ByteArray))) = some r := H
 have A3 := Aside0.mk A30
 clear A30
 by_cases c4 : t246 = true
 ·subst c4
  have H1 : (if 0 ≤ (wrap64 (a0 - 1)) then (if (wrap64 (a0 - 1)) < (l1.length : Int) then (some (rdOf ByteArray.empty l1 (wrap64 (a0 - 1)))) else (none)) else (none)) = some r := by rw [if_pos rfl] at H; exact H
  clear H
  have H := H1
  clear H1
  obtain ⟨ji5, hji5⟩ : ∃ j_ : Int, (wrap64 (a0 - 1)) = j_ := ⟨_, rfl⟩
  replace H : (if 0 ≤ (ji5) then (if (ji5) < (l1.length : Int) then (some (rdOf ByteArray.empty l1 (ji5))) else (none)) else (none)) = some r := by first | (rw [hji5] at H; exact H) | (simp only [hji5] at H ⊢; exact H)
  (try rw [hji5] at A3)
  have hji5w : (IntKind.i64.wrap (a0 - 1)) = ji5 := (i64_w _).trans hji5
  by_cases c6 : 0 ≤ (ji5)
  ·rw [if_pos c6] at H
   have c6b0 : decide (0 ≤ (ji5)) = true := decide_eq_true c6
   clear c6
   by_cases c7 : (ji5) < (l1.length : Int)
   ·rw [if_pos c7] at H
    have c7b0 : decide ((ji5) < (l1.length : Int)) = true := decide_eq_true c7
    clear c7
    obtain rfl := Option.some.inj H
    go_enter Try.func79, Try.ntmps79
    go_wp2_with (first | ((with_reducible refine gate_callee (f := 48) rfl ?_); refine goesL_ (some 8) rfl rfl Try.func48 (by kernel_rfl) rfl #[.int .i64 a0, .int .i64 1, .int .i64 (l1.length : Int)] rfl (by (try simp only [List.map_toArray, List.map_cons, List.map_nil]); first | done | rfl | (simp only [List.length_drop, List.length_take]; rfl)) ?_; (with_reducible refine (impl_inRange.calls a0 1 (l1.length : Int) true _ A3.out).mono ?_); rintro e w' ⟨rfl, ⟨nd, rfl⟩⟩; refine ⟨_, rfl, ?_⟩; have p247 : 0 ≤ ((ji5) : Int) := of_decide_eq_true (by first | (with_reducible assumption) | assumption); have q247 : (ji5) < (l1.length : Int) := of_decide_eq_true (by first | (with_reducible assumption) | assumption); obtain ⟨ad247, e247, hx247_0⟩ := Kd.at_string HR1.out (ji5) p247 q247; cases e247; replace p247 := eq_true p247; replace q247 := eq_true q247))
    go_ret
    exact ⟨by first | rfl | (simp; done) | (simp only [← hji5] <;> (first | rfl | simp)) | (simp [*]; done), by repeat (first | exact Drawn0.refl _ | apply Drawn0.step)⟩
   ·rw [if_neg c7] at H
    exact absurd H (by simp)
  ·rw [if_neg c6] at H
   exact absurd H (by simp)
 ·replace c4 := Bool.eq_false_iff.mpr c4
  subst c4
  have H1 : (some (⟨#[110, 111, 110, 101]⟩ : ByteArray)) = some r := by rw [if_neg (show ¬ (false = true) by decide)] at H; exact H
  clear H
  have H := H1
  clear H1
  obtain rfl := Option.some.inj H
  go_enter Try.func79, Try.ntmps79
  go_wp2_with (first | ((with_reducible refine gate_callee (f := 48) rfl ?_); refine goesL_ (some 8) rfl rfl Try.func48 (by kernel_rfl) rfl #[.int .i64 a0, .int .i64 1, .int .i64 (l1.length : Int)] rfl (by (try simp only [List.map_toArray, List.map_cons, List.map_nil]); first | done | rfl | (simp only [List.length_drop, List.length_take]; rfl)) ?_; (with_reducible refine (impl_inRange.calls a0 1 (l1.length : Int) false _ A3.out).mono ?_); rintro e w' ⟨rfl, ⟨nd, rfl⟩⟩; refine ⟨_, rfl, ?_⟩))
  go_ret
  exact ⟨by first | rfl | (simp; done) | (simp [*]; done), by repeat (first | exact Drawn0.refl _ | apply Drawn0.step)⟩

end Go.Proofs.Ytlocaaebgghkbaa.A

namespace Go.Proofs.Ytlocaaebgghkbaa.A
open Go.RowKit Go.Proofs.YtlocaaebgghkbaaW.PrintWords Go.Proofs.YtlocaaebgghkbaaW.PrintLast Go.Proofs.YtlocaaebgghkbaaW.PrintMore
attribute [local go_sem] max2_int min2_int max_two min_two max_three min_three max_four min_four   -- for this text's walks alone
set_option linter.unusedVariables false
set_option linter.unusedSimpArgs false

/-! ### impl_nameOr: function 82 -/
def impl_nameOr.f (a0 : ByteArray) (a1 : ByteArray) : Option (ByteArray) := if a0.toList = ([] : List UInt8) then (some a1) else (some a0)
set_option maxHeartbeats 8000000 in
set_option maxRecDepth 100000 in
theorem impl_nameOr.calls (a0 : ByteArray) (a1 : ByteArray) (r : ByteArray) (w : World) (h : impl_nameOr.f a0 a1 = some r) :
  Calls Try.prog 82 #[.string a0, .string a1] w fun e w' => e = .returned (.string r) ∧ Drawn0 w w' := by
 have H : (if a0.toList = ([] : List UInt8) then (some a1) else (some a0)) = some r := h
 clear h
 by_cases c3 : a0.toList = ([] : List UInt8)
 ·rw [if_pos c3] at H
  have c3b0 : (a0.toList == ([] : List UInt8)) = true := beq_iff_eq.mpr c3
  have c3b1 : (a0.toList != ([] : List UInt8)) = false := bne_eq_false_iff_eq.mpr c3
  clear c3
  obtain rfl := Option.some.inj H
  go_enter Try.func82, Try.ntmps82
  go_wp2
  go_ret
  exact ⟨by first | rfl | (simp; done) | (simp [*]; done), by repeat (first | exact Drawn0.refl _ | apply Drawn0.step)⟩
 ·rw [if_neg c3] at H
  have c3b0 : (a0.toList == ([] : List UInt8)) = false := beq_eq_false_iff_ne.mpr c3
  have c3b1 : (a0.toList != ([] : List UInt8)) = true := bne_iff_ne.mpr c3
  obtain rfl := Option.some.inj H
  go_enter Try.func82, Try.ntmps82
  go_wp2
  go_ret
  exact ⟨by first | rfl | (simp; done) | (simp [*]; done), by repeat (first | exact Drawn0.refl _ | apply Drawn0.step)⟩

end Go.Proofs.Ytlocaaebgghkbaa.A

namespace Go.Proofs.Ytlocaaebgghkbaa.A
open Go.RowKit Go.Proofs.YtlocaaebgghkbaaW.PrintWords Go.Proofs.YtlocaaebgghkbaaW.PrintLast Go.Proofs.YtlocaaebgghkbaaW.PrintMore
attribute [local go_sem] max2_int min2_int max_two min_two max_three min_three max_four min_four   -- for this text's walks alone
set_option linter.unusedVariables false
set_option linter.unusedSimpArgs false

/-! ### impl_DocText: function 18 -/
/-- the word of an element's kind -/
def wordK (k : Int) : ByteArray := if k = 1 then ⟨#[116, 97, 103]⟩ else if k = 2 then ⟨#[116, 101, 120, 116]⟩ else if k = 3 then ⟨#[110, 111, 116, 101]⟩ else ⟨#[110, 111, 110, 101]⟩
def nameB (n t : ByteArray) : ByteArray := if n.toList = ([] : List UInt8) then t else n
def blanksB (d : Nat) : ByteArray := ⟨(Lib.repeatL [32] d).toArray⟩
/-- an element's line -/
def lineB (d : Nat) (k : Int) (n t : ByteArray) : ByteArray := (((blanksB d ++ wordK k) ++ (⟨#[32]⟩ : ByteArray)) ++ nameB n t) ++ (⟨#[10]⟩ : ByteArray)
mutual
def dE : Nat → S68 → List UInt8
 | d, ⟨k, _, n, _, t, ks⟩ => (lineB d k n t).data.toList ++ dL (d + 1) ks
def dL : Nat → List S68 → List UInt8
 | _, [] => []
 | d, e :: es => dE d e ++ dL d es
end
theorem dL_append (d : Nat) : ∀ a b, dL d (a ++ b) = dL d a ++ dL d b
 | [], b => by simp [dL]
 | e :: a, b => by simp [dL, dL_append d a b]
theorem dL_take (d : Nat) (l : List S68) (j : Nat) (h : j < l.length) : dL d (l.take (j + 1)) = dL d (l.take j) ++ dE d (rd_T68 l j) := by
 rw [List.take_succ_eq_append_getElem h, dL_append]
 have : rd_T68 l j = l[j] := by simp [rd_T68, List.getD_eq_getElem?_getD, List.getElem?_eq_getElem h]
 rw [this]
 simp [dL]
theorem dL_len (d : Nat) (l : List S68) (j : Nat) : (dL d (l.take j)).length ≤ (dL d l).length := by
 have h := dL_append d (l.take j) (l.drop j)
 rw [List.take_append_drop] at h
 rw [h, List.length_append]
 omega
theorem blanksB_size (d : Nat) : (blanksB d).size = d := by
 show (Lib.repeatL [32] d).toArray.size = d
 rw [List.size_toArray, Lib.repeatL_length]
 simp
theorem wordK_f (k : Int) : impl_wordOf.f k [(⟨#[116, 97, 103]⟩ : ByteArray), (⟨#[116, 101, 120, 116]⟩ : ByteArray), (⟨#[110, 111, 116, 101]⟩ : ByteArray)] = some (wordK k) := by
 unfold impl_wordOf.f impl_inRange.f
 by_cases h1 : k ≥ 1
 ·rw [if_pos h1, Option.bind_some]
  by_cases h2 : k ≤ 3
  ·rw [if_pos (decide_eq_true (show k ≤ (([(⟨#[116, 97, 103]⟩ : ByteArray), (⟨#[116, 101, 120, 116]⟩ : ByteArray), (⟨#[110, 111, 116, 101]⟩ : ByteArray)].length : Nat) : Int) from h2))]
   rcases (show k = 1 ∨ k = 2 ∨ k = 3 by omega) with rfl | rfl | rfl
   ·rw [show wrap64 (1 - 1) = 0 by unfold wrap64; omega]; rfl
   ·rw [show wrap64 (2 - 1) = 1 by unfold wrap64; omega]; rfl
   ·rw [show wrap64 (3 - 1) = 2 by unfold wrap64; omega]; rfl
  ·rw [if_neg (by intro h; exact h2 (of_decide_eq_true h))]
   unfold wordK
   rw [if_neg (by omega), if_neg (by omega), if_neg (by omega)]
 ·rw [if_neg h1, Option.bind_some, if_neg (by simp)]
  unfold wordK
  rw [if_neg (by omega), if_neg (by omega), if_neg (by omega)]
theorem nameB_f (n t : ByteArray) : impl_nameOr.f n t = some (nameB n t) := by
 unfold impl_nameOr.f nameB
 split <;> rfl
theorem lineB_size (d : Nat) (k : Int) (n t : ByteArray) : (lineB d k n t).size = d + (wordK k).size + 1 + (nameB n t).size + 1 := by
 unfold lineB
 rw [ByteArray.size_append, ByteArray.size_append, ByteArray.size_append, ByteArray.size_append, blanksB_size]
 rfl
theorem line_calls (B b : Nat) (out : List UInt8) (d : Nat) (k : Int) (n t : ByteArray) (w : World) (h : Bld B b (Lib.byteCells out) w) (hlen : out.length + (d + (wordK k).size + 1 + (nameB n t).size + 1) ≤ 140737488355328) (hBw : B ≤ w.heap.size) :
  Calls Try.prog 80 #[.pointer (some ⟨b, 0, none⟩), .string ((((blanksB d ++ wordK k) ++ (⟨#[32]⟩ : ByteArray)) ++ nameB n t) ++ (⟨#[10]⟩ : ByteArray))] w
   fun e w' => e = .returned (.tuple #[.int .i64 (lineB d k n t).size, .nilIface]) ∧ Bld B b (Lib.byteCells (out ++ (lineB d k n t).data.toList)) w' ∧ Below B w w' ∧ Okp b w w' := by
 rw [byteCells_append, ← strCells_bytes]
 exact bld_str B b (Lib.byteCells out) (lineB d k n t) w h (by rw [byteCells_len, lineB_size]; exact hlen) hBw
theorem repeat_calls (d : Nat) (w : World) (h : d ≤ 140737488355328) : Calls Try.prog 81 #[.string ⟨#[32]⟩, .int .i64 (d : Int)] w fun e w' => e = .returned (.string (blanksB d)) ∧ Below w.heap.size w w' :=
 Try.strings_Repeat ⟨#[32]⟩ d w (by omega) (by show 1 * d ≤ _; omega)
set_option maxHeartbeats 8000000 in
set_option maxRecDepth 100000 in
theorem showEl_calls : ∀ (n : Nat) (e : S68) (d : Nat) (x : Int) (_ : x = (d : Int)) (out : List UInt8) (b : Nat) (w0 w : World) (A3 A5 : Option Addr) (c3 c5 : Nat), SizeOf.sizeOf e < n → Kd.C k68 w0 A5 e.f5.length e.f5 → Below w0.heap.size w0 w →
  Bld w0.heap.size b (Lib.byteCells out) w → out.length + (dE d e).length ≤ 140737488355328 →
  Calls Try.prog 60 #[.pointer (some ⟨b, 0, none⟩), .agg #[.int .i64 e.f0, .int .i64 e.f1, .string e.f2, .slice A3 e.f3.length c3, .string e.f4, .slice A5 e.f5.length c5], .int .i64 x] w
   fun r w' => r = .returned (.tuple #[]) ∧ Bld w0.heap.size b (Lib.byteCells (out ++ dE d e)) w' ∧ Below w0.heap.size w0 w' := by
 intro n
 induction n with
 | zero => intro e d x hx out b w0 w A3 A5 c3 c5 hn; omega
 | succ n ih =>
 intro e d x hx out b w0 w A3 A5 c3 c5 hn hr hb ho hl
 subst hx
 obtain ⟨ea, eb, ec, ed, et, ek⟩ := e
 dsimp only at hr ⊢
 have hse : SizeOf.sizeOf ek < n := by simp at hn; omega
 have HM := Aside0.mk hse
 have HR := Aside0.mk hr
 have HB := Aside0.mk hb
 have HO := Aside0.mk ho
 have hu := Try.underlying68
 have hkm : ek.length ≤ 9223372036854775807 := Kd.C_max hr
 obtain ⟨o2, ho2⟩ : ∃ o2, o2 = out ++ (lineB d ea ec et).data.toList := ⟨_, rfl⟩
 have hwe : out ++ dE d ⟨ea, eb, ec, ed, et, ek⟩ = o2 ++ dL (d + 1) ek := by rw [ho2, dE, List.append_assoc]
 have hl2 : o2.length + (dL (d + 1) ek).length ≤ 140737488355328 := by
  have := congrArg List.length hwe
  rw [List.length_append, List.length_append] at this
  omega
 rw [hwe]
 have hl3 : out.length + (d + (wordK ea).size + 1 + (nameB ec et).size + 1) ≤ 140737488355328 := by
  rw [ho2, List.length_append, data_length, lineB_size] at hl2
  omega
 have HL := Aside0.mk hl2
 have HL3 := Aside0.mk hl3
 have HKM := Aside0.mk hkm
 have H2 := Aside0.mk ho2
 have hnb : (blanksB d).size = d := blanksB_size d
 have q1 : (9223372036854775807 < (blanksB d).size + (wordK ea).size) = False := eq_false (by omega)
 have q2 : (9223372036854775807 < (blanksB d).size + (wordK ea).size + 1) = False := eq_false (by omega)
 have q3 : (9223372036854775807 < (blanksB d).size + (wordK ea).size + 1 + (nameB ec et).size) = False := eq_false (by omega)
 have q4 : (9223372036854775807 < (blanksB d).size + (wordK ea).size + 1 + (nameB ec et).size + 1) = False := eq_false (by omega)
 have q5 : wrap64 ((d : Int) + 1) = ((d + 1 : Nat) : Int) := by unfold wrap64; omega
 obtain ⟨ws, hws⟩ : ∃ ws : List ByteArray, ws = [(⟨#[116, 97, 103]⟩ : ByteArray), (⟨#[116, 101, 120, 116]⟩ : ByteArray), (⟨#[110, 111, 116, 101]⟩ : ByteArray)] := ⟨_, rfl⟩
 have HWS := Aside0.mk hws
 have HWD : Aside0 (impl_wordOf.f ea ws = some (wordK ea)) := ⟨by rw [hws]; exact wordK_f ea⟩
 have HNM := Aside0.mk (nameB_f ec et)
 clear hn hse hr hb ho hl hl2 hl3 hwe hkm ho2 hws hnb
 go_enter Try.func60, Try.ntmps60
 go_wp2_with (first | ((with_reducible refine gate_dst (N := 4) rfl ?_); refine box_event ?hg (N := 4) ?hd (cs := #[.int .i64 ea, .int .i64 eb, .string ec, .slice A3 ed.length c3, .string et, .slice A5 ek.length c5]) (t := 68) ?hr ?_; (case hd => rfl); (case hg => rfl); (case hr => first | (go_simp; done) | (go_simp; rfl)); intro gb hg w4 hbox hb; have HG := Aside0.mk hg; have HBX := Aside0.mk hb; have HX := Aside0.mk hbox; clear hg hb hbox; have hz0 := (blk_cell HX.out 0).trans rfl) | ((with_reducible refine gate_dst (N := 11) rfl ?_); refine Kd.R_lit Kd.string _ 9 ?hg (N := 11) ?hd (xs := ([(⟨#[116, 97, 103]⟩ : ByteArray), (⟨#[116, 101, 120, 116]⟩ : ByteArray), (⟨#[110, 111, 116, 101]⟩ : ByteArray)] : List ByteArray)) (inner := [.string (⟨#[116, 97, 103]⟩ : ByteArray), .string (⟨#[116, 101, 120, 116]⟩ : ByteArray), .string (⟨#[110, 111, 116, 101]⟩ : ByteArray)]) (ok := fun _ => True) (okp := fun _ => True) ?hr ?hp (fun _ hk => hk) trivial (Below.refl _ _) (Nat.le_refl _) (by simp) ?_; (case hd => rfl); (case hg => rfl); (case hr => first | (go_simp; done) | (go_simp; rfl)); (case hp => exact (Reps.one (show Kd.M Kd.string _ _ _ (⟨#[116, 97, 103]⟩ : ByteArray) [.string (⟨#[116, 97, 103]⟩ : ByteArray)] from rfl) (Reps.one (show Kd.M Kd.string _ _ _ (⟨#[116, 101, 120, 116]⟩ : ByteArray) [.string (⟨#[116, 101, 120, 116]⟩ : ByteArray)] from rfl) (Reps.one (show Kd.M Kd.string _ _ _ (⟨#[110, 111, 116, 101]⟩ : ByteArray) [.string (⟨#[110, 111, 116, 101]⟩ : ByteArray)] from rfl) (Reps.none _ _))))); intro v5 w5 ho5 hb hg_ hnew_; clear hg_ hnew_; rw [← HWS.out] at ho5; obtain ⟨Ao, co, rfl⟩ := Kd.R_slice ho5; have HO5 := Aside0.mk ho5; have HB5 := Aside0.mk hb; clear ho5 hb) | (go_at_call 79; (with_reducible refine (impl_wordOf.calls ea _ _ ws (wordK ea) _ (Kd.R_reads' HO5.out).2.2 (Kd.R_reads' HO5.out).2.1 HWD.out).mono ?_); rintro e w6 ⟨rfl, hd⟩; have h1_ := below_step HBX.out (below_step HB5.out hd.below); have HB6 := Aside0.mk (below_step HB.out h1_); have HO6 := Aside0.mk (bld_below HO.out h1_); have HX6 := Aside0.mk (blk_below (g := gb) HX.out (below_step HB5.out hd.below)); clear h1_ hd HO5 HB5))
 have HX7 := Aside0.mk (blk_drew HX6.out)
 have HB7 := Aside0.mk (below_drew1 HB6.out)
 have HO7 := Aside0.mk (bld_below HO6.out (below_drew1 (Below.refl _ _)))
 refine start_ (n := 14) (S := fun w' => w'.cell? ⟨gb, 2, none⟩ = some (.string ec) ∧ w'.cell? ⟨gb, 4, none⟩ = some (.string et)) (ds := [13]) #[false, false, false, false, false, false, false, false, false, false, false, false, false, false] (by kernel_rfl) rfl rfl ⟨(blk_cell HX6.out 2).trans rfl, (blk_cell HX6.out 4).trans rfl⟩ (fun hHeld => ?_)
 generalize World.drew _ = wr0 at HX7 HB7 HO7 hHeld ⊢
 refine pure_ (i := 0) (N := some 13) (v := ?_) (a' := ?_) #[true, false, false, false, false, false, false, false, false, false, false, false, false, false] rfl rfl (by kernel_rfl) (fun _ _ _ h => h) (Or.inl ⟨by rfl, ?_⟩) ?_ ?_
 rotate_left
 ·intro w'
  go_simp
  with_reducible rfl
 rotate_left
 ·simp only [Act.put, List.setIfInBounds_toArray, List.set_cons_zero, List.set_cons_succ, i64_w, i32_w]
  rfl
 refine pure_ (i := 1) (N := some 14) (v := ?_) (a' := ?_) #[true, true, false, false, false, false, false, false, false, false, false, false, false, false] rfl rfl (by kernel_rfl) (fun _ _ _ h => h) (Or.inl ⟨by rfl, ?_⟩) ?_ ?_
 rotate_left
 ·intro w'
  go_simp
  with_reducible rfl
 rotate_left
 ·simp only [Act.put, List.setIfInBounds_toArray, List.set_cons_zero, List.set_cons_succ, i64_w, i32_w]
  rfl
 refine pure_ (i := 3) (N := some 16) (v := ?_) (a' := ?_) #[true, true, false, true, false, false, false, false, false, false, false, false, false, false] rfl rfl (by kernel_rfl) (fun _ _ _ h => h) (Or.inl ⟨by rfl, ?_⟩) ?_ ?_
 rotate_left
 ·intro w'
  go_simp
  with_reducible rfl
 rotate_left
 ·simp only [Act.put, List.setIfInBounds_toArray, List.set_cons_zero, List.set_cons_succ, i64_w, i32_w]
  rfl
 refine pure_ (i := 6) (N := some 19) (v := ?_) (a' := ?_) #[true, true, false, true, false, false, true, false, false, false, false, false, false, false] rfl rfl (by kernel_rfl) (fun _ _ _ h => h) (Or.inl ⟨by rfl, ?_⟩) ?_ ?_
 rotate_left
 ·intro w'
  go_simp
  with_reducible rfl
 rotate_left
 ·simp only [Act.put, List.setIfInBounds_toArray, List.set_cons_zero, List.set_cons_succ, i64_w, i32_w]
  rfl
 refine pure_ (i := 8) (N := some 21) (v := ?_) (a' := ?_) #[true, true, false, true, false, false, true, false, true, false, false, false, false, false] rfl rfl (by kernel_rfl) (fun _ _ _ h => h) (Or.inl ⟨by rfl, ?_⟩) ?_ ?_
 rotate_left
 ·intro w'
  go_simp
  with_reducible rfl
 rotate_left
 ·simp only [Act.put, List.setIfInBounds_toArray, List.set_cons_zero, List.set_cons_succ, i64_w, i32_w]
  rfl
 refine take_ (i := 7) (N := some 20) (v := ?_) (a' := ?_) #[true, true, false, true, false, false, true, true, true, false, false, false, false, false] rfl rfl (by kernel_rfl) (fun _ _ _ h => h) (Or.inl ⟨by rfl, ?_⟩) hHeld ?_ ?_
 rotate_left
 ·rintro w' ⟨s0, s1⟩
  go_simp
  with_reducible rfl
 rotate_left
 ·simp only [Act.put, List.setIfInBounds_toArray, List.set_cons_zero, List.set_cons_succ, i64_w, i32_w]
  rfl
 refine take_ (i := 9) (N := some 22) (v := ?_) (a' := ?_) #[true, true, false, true, false, false, true, true, true, true, false, false, false, false] rfl rfl (by kernel_rfl) (fun _ _ _ h => h) (Or.inl ⟨by rfl, ?_⟩) hHeld ?_ ?_
 rotate_left
 ·rintro w' ⟨s0, s1⟩
  go_simp
  with_reducible rfl
 rotate_left
 ·simp only [Act.put, List.setIfInBounds_toArray, List.set_cons_zero, List.set_cons_succ, i64_w, i32_w]
  rfl
 refine one_ (i := 2) (N := some 15) #[true, true, true, true, false, false, true, true, true, true, false, false, false, false] rfl rfl (by kernel_rfl) (by decide) (fun K hK => ?_)
 refine goes_ Try.func81 (by kernel_rfl) rfl #[.string ⟨#[32]⟩, .int .i64 (d : Int)] (by rfl) rfl rfl (by (try simp only [List.map_toArray, List.map_cons, List.map_nil]); first | done | rfl | (simp only [List.length_drop, List.length_take]; rfl)) ?_
 with_reducible refine (repeat_calls d _ (by have := HL3.out; omega)).mono ?_
 rintro e wr2 ⟨rfl, hb⟩
 refine ⟨_, rfl, ?_⟩
 have HX8 := Aside0.mk (blk_below (g := gb) HX7.out hb)
 have HB8 := Aside0.mk (below_step HB7.out hb)
 have HO8 := Aside0.mk (bld_below HO7.out hb)
 clear hb HX7 HB7 HO7
 refine hK.out _ _ ⟨(blk_cell HX8.out 2).trans rfl, (blk_cell HX8.out 4).trans rfl⟩ (fun hHeld => ?_)
 clear hK K
 refine norm_ (a' := ?_) ?_ ?_
 rotate_left
 ·show Act.put _ (some 15) _ = _
  simp only [Act.put, List.setIfInBounds_toArray, List.set_cons_zero, List.set_cons_succ, i64_w, i32_w]
  rfl
 refine pure_ (i := 4) (N := some 17) (v := ?_) (a' := ?_) #[true, true, true, true, true, false, true, true, true, true, false, false, false, false] rfl rfl (by kernel_rfl) (fun _ _ _ h => h) (Or.inl ⟨by rfl, ?_⟩) ?_ ?_
 rotate_left
 ·intro w'
  go_simp
  with_reducible rfl
 rotate_left
 ·simp only [Act.put, List.setIfInBounds_toArray, List.set_cons_zero, List.set_cons_succ, i64_w, i32_w]
  rfl
 refine pure_ (i := 5) (N := some 18) (v := ?_) (a' := ?_) #[true, true, true, true, true, true, true, true, true, true, false, false, false, false] rfl rfl (by kernel_rfl) (fun _ _ _ h => h) (Or.inl ⟨by rfl, ?_⟩) ?_ ?_
 rotate_left
 ·intro w'
  go_simp
  with_reducible rfl
 rotate_left
 ·simp only [Act.put, List.setIfInBounds_toArray, List.set_cons_zero, List.set_cons_succ, i64_w, i32_w]
  rfl
 refine one_ (i := 10) (N := some 23) #[true, true, true, true, true, true, true, true, true, true, true, false, false, false] rfl rfl (by kernel_rfl) (by decide) (fun K hK => ?_)
 refine goes_ Try.func82 (by kernel_rfl) rfl #[.string ec, .string et] (by rfl) rfl rfl (by (try simp only [List.map_toArray, List.map_cons, List.map_nil]); first | done | rfl | (simp only [List.length_drop, List.length_take]; rfl)) ?_
 with_reducible refine (impl_nameOr.calls ec et (nameB ec et) _ HNM.out).mono ?_
 rintro e wr10 ⟨rfl, hd⟩
 refine ⟨_, rfl, ?_⟩
 have HX9 := Aside0.mk (blk_below (g := gb) HX8.out hd.below)
 have HB9 := Aside0.mk (below_step HB8.out hd.below)
 have HO9 := Aside0.mk (bld_below HO8.out hd.below)
 clear hd HX8 HB8 HO8
 refine hK.out _ _ ⟨(blk_cell HX9.out 2).trans rfl, (blk_cell HX9.out 4).trans rfl⟩ (fun hHeld => ?_)
 clear hK K
 refine norm_ (a' := ?_) ?_ ?_
 rotate_left
 ·show Act.put _ (some 23) _ = _
  simp only [Act.put, List.setIfInBounds_toArray, List.set_cons_zero, List.set_cons_succ, i64_w, i32_w]
  rfl
 refine pure_ (i := 11) (N := some 24) (v := ?_) (a' := ?_) #[true, true, true, true, true, true, true, true, true, true, true, true, false, false] rfl rfl (by kernel_rfl) (fun _ _ _ h => h) (Or.inl ⟨by rfl, ?_⟩) ?_ ?_
 rotate_left
 ·intro w'
  go_simp
  with_reducible rfl
 rotate_left
 ·simp only [Act.put, List.setIfInBounds_toArray, List.set_cons_zero, List.set_cons_succ, i64_w, i32_w]
  rfl
 refine pure_ (i := 12) (N := some 25) (v := ?_) (a' := ?_) #[true, true, true, true, true, true, true, true, true, true, true, true, true, false] rfl rfl (by kernel_rfl) (fun _ _ _ h => h) (Or.inl ⟨by rfl, ?_⟩) ?_ ?_
 rotate_left
 ·intro w'
  go_simp
  with_reducible rfl
 rotate_left
 ·simp only [Act.put, List.setIfInBounds_toArray, List.set_cons_zero, List.set_cons_succ, i64_w, i32_w]
  rfl
 refine last_ (i := 13) (N := some 26) #[true, true, true, true, true, true, true, true, true, true, true, true, true, true] rfl rfl (by kernel_rfl) (by decide) (fun K hK => ?_)
 refine goes_ Try.func80 (by kernel_rfl) rfl #[.pointer (some ⟨b, 0, none⟩), .string ((((blanksB d ++ wordK ea) ++ (⟨#[32]⟩ : ByteArray)) ++ nameB ec et) ++ (⟨#[10]⟩ : ByteArray))] (by rfl) rfl rfl (by (try simp only [List.map_toArray, List.map_cons, List.map_nil]); first | done | rfl | (simp only [List.length_drop, List.length_take]; rfl)) ?_
 with_reducible refine (line_calls w0.heap.size b out d ea ec et _ HO9.out HL3.out HB9.out.size).mono ?_
 rintro e wr13 ⟨rfl, ho, hb, hk⟩
 refine ⟨_, rfl, ?_⟩
 have hX := hk gb _ HX9.out (by have h_ := HO.out.elim (fun h => h.lt) (fun h => h.lt); rw [HG.out]; intro e_; have := Option.some.inj e_; omega) (by intro c_ f_ e_; injection e_ with _ e2_; exact absurd e2_ (by decide))
 have HX10 := Aside0.mk hX
 have HO10 := Aside0.mk ho
 have HB10 := Aside0.mk (HB9.out.trans hb)
 clear ho hb hk hX HX9 HB9 HO9
 refine hK.out _ _ ?_
 clear hK K
 refine norm_ (a' := ?_) ?_ ?_
 rotate_left
 ·show Act.put _ (some 26) _ = _
  simp only [Act.put, List.setIfInBounds_toArray, List.set_cons_zero, List.set_cons_succ, i64_w, i32_w]
  rfl
 refine done_ (by kernel_rfl) ?_
 have hz5' := (blk_cell HX10.out 5).trans rfl
 go_wp2
 go_loopg [30] ek.length (fun kq v30 wr => ∃ j : Int, v30 = .int .i64 j ∧ 0 ≤ j ∧ j ≤ (ek.length : Int) ∧ Aside0 (kq = ek.length - j.toNat) ∧ Aside0 (Bld w0.heap.size b (Lib.byteCells (o2 ++ dL (d + 1) (ek.take j.toNat))) wr) ∧ Aside0 (Below w0.heap.size w0 wr))
 case atStart => exact ⟨0, rfl, Int.le_refl _, by omega, ⟨rfl⟩, ⟨by rw [H2.out]; simp only [Int.toNat_zero, List.take_zero, dL, List.append_nil]; exact HO10.out⟩, HB10⟩
 case round =>
  obtain ⟨j, rfl, j0, hj, HE, HO1, HB1⟩ := hrel
  (try clear HG); (try clear HBX); (try clear HX); (try clear HX6); (try clear HO6); (try clear HB6); (try clear HX10); (try clear HO10); (try clear HB10); (try clear hHeld)
  have hkm := HKM.out
  by_cases hlt : j < (ek.length : Int)
  ·obtain ⟨ad, A3', c3', A5', c5', eA, x0, x1, x2, x3, x4, x5, l3, g3, l5, g5⟩ := at_T68 HR.out j j0 hlt
   subst eA
   replace x0 := (HB1.out.cell (World.block_lt_of_cell? w0 _ x0)).trans x0
   replace x1 := (HB1.out.cell (World.block_lt_of_cell? w0 _ x1)).trans x1
   replace x2 := (HB1.out.cell (World.block_lt_of_cell? w0 _ x2)).trans x2
   replace x3 := (HB1.out.cell (World.block_lt_of_cell? w0 _ x3)).trans x3
   replace x4 := (HB1.out.cell (World.block_lt_of_cell? w0 _ x4)).trans x4
   replace x5 := (HB1.out.cell (World.block_lt_of_cell? w0 _ x5)).trans x5
   have hjn : j.toNat < ek.length := by omega
   have HS := Aside0.mk (Nat.lt_trans (rd_size ek j.toNat hjn) HM.out)
   have HT := Aside0.mk (dL_take (d + 1) ek j.toNat hjn)
   have HLn := Aside0.mk (dL_len (d + 1) ek (j.toNat + 1))
   have HC5 := Aside0.mk g5
   rw [show ((j.toNat : Nat) : Int) = j by omega] at HS HT
   have hwr : wrap64 (j + 1) = j + 1 := by unfold wrap64; omega
   clear l3 g3 l5 g5 hjn hkm
   have p7 := eq_true j0
   have q7 := eq_true hlt
   go_wp2_with (first | ((with_reducible refine gate_dst (N := 8) rfl ?_); refine box_event ?hg (N := 8) ?hd (cs := #[.int .i64 0, .int .i64 0, .string (⟨#[]⟩ : ByteArray), .slice none 0 0, .string (⟨#[]⟩ : ByteArray), .slice none 0 0]) (t := 68) ?hr ?_; (case hd => rfl); (case hg => rfl); (case hr => first | (go_simp; done) | (go_simp; rfl)); intro gb hg w6 hbox hb; have HG := Aside0.mk hg; have HBX := Aside0.mk hb; have hy0 := (blk_cell hbox 0).trans rfl; have hy1 := (blk_cell hbox 1).trans rfl; have hy2 := (blk_cell hbox 2).trans rfl; have hy3 := (blk_cell hbox 3).trans rfl; have hy4 := (blk_cell hbox 4).trans rfl; have hy5 := (blk_cell hbox 5).trans rfl; have hf0 := blk_frozen hbox 0; have hf1 := blk_frozen hbox 1; have hf2 := blk_frozen hbox 2; have hf3 := blk_frozen hbox 3; have hf4 := blk_frozen hbox 4; have hf5 := blk_frozen hbox 5; clear hg hb hbox) | (go_at_call 60; (with_reducible refine (ih (rd_T68 ek j) (d + 1) ((d : Int) + 1) (by omega) (o2 ++ dL (d + 1) (ek.take j.toNat)) b w0 _ _ _ _ _ HS.out HC5.out (below_step HB1.out (set6 HBX.out (by rw [HG.out]; exact Nat.le_refl _) _ _ _ _ _ _)) (bld_below HO1.out (set6 HBX.out (by rw [HG.out]; exact Nat.le_refl _) _ _ _ _ _ _)) ?hs1).mono ?_); (case hs1 => have h1_ := HL.out; have h2_ := HLn.out; rw [HT.out, List.length_append] at h2_; rw [List.length_append]; omega); rintro e w7 ⟨rfl, ho, hb⟩; have HO7 := Aside0.mk ho; have HB7 := Aside0.mk hb; clear ho hb))
   go_roundg (ek.length - (j + 1).toNat)
   case measure => have := HE.out; omega
   case rel => exact ⟨j + 1, by rw [hwr], by omega, by omega, ⟨rfl⟩, ⟨by rw [show (j + 1).toNat = j.toNat + 1 by omega, HT.out, ← List.append_assoc]; exact HO7.out⟩, HB7⟩
  ·have hje : j.toNat = ek.length := by omega
   have HOE := HO1.out
   rw [hje, List.take_length] at HOE
   have HO2 := Aside0.mk HOE
   clear HOE hje
   go_wp2
   go_end0
   exact ⟨rfl, HO2.out, HB1.out⟩
def impl_DocText.f (l0 : List S68) : Option ByteArray := if (dL 0 l0).length ≤ 140737488355328 then some ⟨(dL 0 l0).toArray⟩ else none
set_option maxHeartbeats 4000000 in
set_option maxRecDepth 100000 in
theorem impl_DocText.calls (A0 : Option Addr) (c0 : Nat) (l0 : List S68) (r : ByteArray) (w : World) (hr0 : Kd.C k68 w A0 l0.length l0) (hc0 : l0.length ≤ c0) (h : impl_DocText.f l0 = some r) :
  Calls Try.prog 18 #[.slice A0 l0.length c0] w fun e w' => e = .returned (.string r) ∧ Below w.heap.size w w' := by
 unfold impl_DocText.f at h
 have hs : (dL 0 l0).length ≤ 140737488355328 := by
  by_cases hs : (dL 0 l0).length ≤ 140737488355328
  ·exact hs
  ·rw [if_neg hs] at h; cases h
 rw [if_pos hs] at h
 obtain rfl := Option.some.inj h
 clear h
 have HL := Aside0.mk hs
 have HR := Aside0.mk hr0
 have HKM := Aside0.mk (Kd.C_max hr0)
 clear hs hr0
 have hub := Try.underlying72
 have hu := Try.underlying68
 have HN := Aside0.mk (bld_new w)
 have HB := Aside0.mk (below_alloc (Below.refl _ _) (.cells #[.pointer none, .slice none 0 0] 72 (0, 0)) : Below w.heap.size w _)
 go_enter Try.func18, Try.ntmps18
 go_wp2
 go_loopg [8] l0.length (fun kq v8 wr => ∃ j : Int, v8 = .int .i64 j ∧ 0 ≤ j ∧ j ≤ (l0.length : Int) ∧ Aside0 (kq = l0.length - j.toNat) ∧ Aside0 (Bld w.heap.size w.heap.size (Lib.byteCells (dL 0 (l0.take j.toNat))) wr) ∧ Aside0 (Below w.heap.size w wr))
 case atStart => exact ⟨0, rfl, Int.le_refl _, by omega, ⟨rfl⟩, ⟨by simp only [Int.toNat_zero, List.take_zero, dL]; exact HN.out⟩, HB⟩
 case round =>
  obtain ⟨j, rfl, j0, hj, HE, HO1, HB1⟩ := hrel
  clear HN HB
  have hkm := HKM.out
  by_cases hlt : j < (l0.length : Int)
  ·obtain ⟨ad, A3', c3', A5', c5', eA, x0, x1, x2, x3, x4, x5, l3, g3, l5, g5⟩ := at_T68 HR.out j j0 hlt
   subst eA
   replace x0 := (HB1.out.cell (World.block_lt_of_cell? w _ x0)).trans x0
   replace x1 := (HB1.out.cell (World.block_lt_of_cell? w _ x1)).trans x1
   replace x2 := (HB1.out.cell (World.block_lt_of_cell? w _ x2)).trans x2
   replace x3 := (HB1.out.cell (World.block_lt_of_cell? w _ x3)).trans x3
   replace x4 := (HB1.out.cell (World.block_lt_of_cell? w _ x4)).trans x4
   replace x5 := (HB1.out.cell (World.block_lt_of_cell? w _ x5)).trans x5
   have hjn : j.toNat < l0.length := by omega
   have HT := Aside0.mk (dL_take 0 l0 j.toNat hjn)
   have HLn := Aside0.mk (dL_len 0 l0 (j.toNat + 1))
   have HC5 := Aside0.mk g5
   rw [show ((j.toNat : Nat) : Int) = j by omega] at HT
   have hwr : wrap64 (j + 1) = j + 1 := by unfold wrap64; omega
   clear l3 g3 l5 g5 hjn hkm
   have p7 := eq_true j0
   have q7 := eq_true hlt
   go_wp2_with (first | ((with_reducible refine gate_dst (N := 5) rfl ?_); refine box_event ?hg (N := 5) ?hd (cs := #[.int .i64 0, .int .i64 0, .string (⟨#[]⟩ : ByteArray), .slice none 0 0, .string (⟨#[]⟩ : ByteArray), .slice none 0 0]) (t := 68) ?hr ?_; (case hd => rfl); (case hg => rfl); (case hr => first | (go_simp; done) | (go_simp; rfl)); intro gb hg w6 hbox hb; have HG := Aside0.mk hg; have HBX := Aside0.mk hb; have hy0 := (blk_cell hbox 0).trans rfl; have hy1 := (blk_cell hbox 1).trans rfl; have hy2 := (blk_cell hbox 2).trans rfl; have hy3 := (blk_cell hbox 3).trans rfl; have hy4 := (blk_cell hbox 4).trans rfl; have hy5 := (blk_cell hbox 5).trans rfl; have hf0 := blk_frozen hbox 0; have hf1 := blk_frozen hbox 1; have hf2 := blk_frozen hbox 2; have hf3 := blk_frozen hbox 3; have hf4 := blk_frozen hbox 4; have hf5 := blk_frozen hbox 5; clear hg hb hbox) | (go_at_call 60; (with_reducible refine (showEl_calls (SizeOf.sizeOf (rd_T68 l0 j) + 1) (rd_T68 l0 j) 0 0 rfl (dL 0 (l0.take j.toNat)) w.heap.size w _ _ _ _ _ (Nat.lt_succ_self _) HC5.out (below_step HB1.out (set6 HBX.out (by rw [HG.out]; exact Nat.le_refl _) _ _ _ _ _ _)) (bld_below HO1.out (set6 HBX.out (by rw [HG.out]; exact Nat.le_refl _) _ _ _ _ _ _)) ?hs1).mono ?_); (case hs1 => have h1_ := HL.out; have h2_ := HLn.out; rw [HT.out, List.length_append] at h2_; omega); rintro e w7 ⟨rfl, ho, hb⟩; have HO7 := Aside0.mk ho; have HB7 := Aside0.mk hb; clear ho hb))
   go_roundg (l0.length - (j + 1).toNat)
   case measure => have := HE.out; omega
   case rel => exact ⟨j + 1, by rw [hwr], by omega, by omega, ⟨rfl⟩, ⟨by rw [show (j + 1).toNat = j.toNat + 1 by omega, HT.out]; exact HO7.out⟩, HB7⟩
  ·have hje : j.toNat = l0.length := by omega
   have HOE := HO1.out
   rw [hje, List.take_length] at HOE
   have HO2 := Aside0.mk HOE
   clear HOE hje
   go_wp2_with (go_at_call 57; (with_reducible refine (bld_string w.heap.size w.heap.size (dL 0 l0) _ HO2.out HB1.out.size).mono ?_); rintro e w5 ⟨rfl, hb, hk⟩; have HB5 := Aside0.mk (HB1.out.trans hb); clear hb hk)
   go_ret
   exact ⟨rfl, HB5.out⟩

end Go.Proofs.Ytlocaaebgghkbaa.A

namespace Go.Proofs.Ytlocaaebgghkbaa.A
open Go.RowKit Go.Proofs.YtlocaaebgghkbaaW.PrintWords Go.Proofs.YtlocaaebgghkbaaW.PrintLast Go.Proofs.YtlocaaebgghkbaaW.PrintMore
attribute [local go_sem] max2_int min2_int max_two min_two max_three min_three max_four min_four   -- for this text's walks alone
set_option linter.unusedVariables false
set_option linter.unusedSimpArgs false

/-! ### spec_l22Doc: function 59 -/
theorem dE_eq (d : Nat) (e : S68) : dE d e = (lineB d e.f0 e.f2 e.f4).data.toList ++ dL (d + 1) e.f5 := by cases e; rw [dE]
theorem blanksB_list : ∀ d, Lib.repeatL [32] d = List.replicate d (32 : UInt8)
 | 0 => rfl
 | d + 1 => by rw [Lib.repeatL, blanksB_list d, List.replicate_succ]; rfl
theorem blanksB_succ (d : Nat) : blanksB d ++ (⟨#[32]⟩ : ByteArray) = blanksB (d + 1) := by
 unfold blanksB
 rw [blanksB_list, blanksB_list, List.replicate_succ']
 refine ByteArray.ext ?_
 rw [ByteArray.data_append]
 refine Array.ext' ?_
 rw [Array.toList_append]
theorem blanks_l (d : Nat) (hd : d ≤ 140737488355328) : ∀ m j : Nat, j + m = d → spec_l22Blanks.l0 (m + 1) (d : Int) (blanksB j) (j : Int) = some (blanksB d) := by
 intro m
 induction m with
 | zero =>
  intro j hj
  simp only [spec_l22Blanks.l0]
  rw [if_neg (by omega), show j = d by omega]
 | succ m ih =>
  intro j hj
  have hw : wrap64 ((j : Int) + 1) = ((j + 1 : Nat) : Int) := by unfold wrap64; omega
  rw [spec_l22Blanks.l0, if_pos (by omega), if_pos (by rw [blanksB_size]; omega), hw, blanksB_succ]
  exact ih (j + 1) (by omega)
theorem blanks_ex (d : Nat) (hd : d ≤ 140737488355328) : spec_l22Blanks.f (d + 1) (d : Int) = some (blanksB d) := by
 have := blanks_l d hd d 0 (by omega)
 unfold spec_l22Blanks.f
 exact this
theorem wordK_spec (k : Int) : spec_l22Kind.f k [(⟨#[116, 97, 103]⟩ : ByteArray), (⟨#[116, 101, 120, 116]⟩ : ByteArray), (⟨#[110, 111, 116, 101]⟩ : ByteArray)] = some (wordK k) := by
 unfold spec_l22Kind.f
 by_cases h1 : k < 1
 ·rw [if_pos h1]; unfold wordK; rw [if_neg (by omega), if_neg (by omega), if_neg (by omega)]
 ·rw [if_neg h1]
  by_cases h2 : k > 3
  ·rw [if_pos (show k > (([(⟨#[116, 97, 103]⟩ : ByteArray), (⟨#[116, 101, 120, 116]⟩ : ByteArray), (⟨#[110, 111, 116, 101]⟩ : ByteArray)].length : Nat) : Int) from h2)]; unfold wordK; rw [if_neg (by omega), if_neg (by omega), if_neg (by omega)]
  ·rw [if_neg (show ¬ k > (([(⟨#[116, 97, 103]⟩ : ByteArray), (⟨#[116, 101, 120, 116]⟩ : ByteArray), (⟨#[110, 111, 116, 101]⟩ : ByteArray)].length : Nat) : Int) from h2)]
   rcases (show k = 1 ∨ k = 2 ∨ k = 3 by omega) with rfl | rfl | rfl
   ·rw [show wrap64 (1 - 1) = 0 by unfold wrap64; omega]; rfl
   ·rw [show wrap64 (2 - 1) = 1 by unfold wrap64; omega]; rfl
   ·rw [show wrap64 (3 - 1) = 2 by unfold wrap64; omega]; rfl
theorem nameB_spec (n t : ByteArray) : spec_l22Named.f n t = some (nameB n t) := by
 unfold spec_l22Named.f nameB
 split <;> rfl
theorem lineB_app (x : ByteArray) (d : Nat) (k : Int) (n t y : ByteArray) : ((((((x ++ blanksB d) ++ wordK k) ++ (⟨#[32]⟩ : ByteArray)) ++ nameB n t) ++ (⟨#[10]⟩ : ByteArray)) ++ y).data.toList = x.data.toList ++ ((lineB d k n t).data.toList ++ y.data.toList) := by
 unfold lineB
 simp [ByteArray.data_append, List.append_assoc]
theorem rd_El_size (l : List S68) (j : Nat) (h : j < l.length) : SizeOf.sizeOf (rd_T68 l j).f5 < SizeOf.sizeOf l := by
 have h1 : SizeOf.sizeOf (rd_T68 l j) < SizeOf.sizeOf l := by
  have : rd_T68 l j = l[j] := by simp [rd_T68, List.getD_eq_getElem?_getD, List.getElem?_eq_getElem h]
  rw [this]
  exact List.sizeOf_lt_of_mem (List.getElem_mem h)
 generalize rd_T68 l j = e at h1 ⊢
 cases e
 simp at h1 ⊢
 omega
def spec_l22Doc.f (l0 : List S68) (a1 : Int) : Option ByteArray := if 0 ≤ a1 ∧ (dL a1.toNat l0).length ≤ 140737488355328 then some ⟨(dL a1.toNat l0).toArray⟩ else none
set_option maxHeartbeats 8000000 in
set_option maxRecDepth 100000 in
theorem l22Doc_calls : ∀ (n : Nat) (l0 : List S68) (d : Nat) (x : Int) (_ : x = (d : Int)) (A0 : Option Addr) (c0 : Nat) (w : World), SizeOf.sizeOf l0 < n → Kd.C k68 w A0 l0.length l0 → l0.length ≤ c0 → (dL d l0).length ≤ 140737488355328 →
  Calls Try.prog 59 #[.slice A0 l0.length c0, .int .i64 x] w fun e w' => e = .returned (.string ⟨(dL d l0).toArray⟩) ∧ Below w.heap.size w w' := by
 intro n
 induction n with
 | zero => intro l0 d x hx A0 c0 w hn; omega
 | succ n ih =>
 intro l0 d x hx A0 c0 w hn hr hc hl
 subst hx
 have HM := Aside0.mk hn
 have HR := Aside0.mk hr
 have HL := Aside0.mk hl
 have HC := Aside0.mk hc
 have HKM := Aside0.mk (Kd.C_max hr)
 obtain ⟨ws, hws⟩ : ∃ ws : List ByteArray, ws = [(⟨#[116, 97, 103]⟩ : ByteArray), (⟨#[116, 101, 120, 116]⟩ : ByteArray), (⟨#[110, 111, 116, 101]⟩ : ByteArray)] := ⟨_, rfl⟩
 have HWS := Aside0.mk hws
 have HB := Aside0.mk (Below.refl w.heap.size w)
 clear hn hr hl hc hws
 go_enter Try.func59, Try.ntmps59
 go_wp2
 go_loopg [5, 6] l0.length (fun kq v5 v6 wr => ∃ (j : Int) (x : ByteArray), v5 = .string x ∧ v6 = .int .i64 j ∧ 0 ≤ j ∧ j ≤ (l0.length : Int) ∧ Aside0 (kq = l0.length - j.toNat) ∧ Aside0 (x.data.toList = dL d (l0.take j.toNat)) ∧ Aside0 (Below w.heap.size w wr))
 case atStart => exact ⟨0, ⟨#[]⟩, rfl, rfl, Int.le_refl _, by omega, ⟨rfl⟩, ⟨by simp [dL]⟩, HB⟩
 case round =>
  obtain ⟨j, x, rfl, rfl, j0, hj, HE, HX, HB1⟩ := hrel
  clear HB
  have hkm := HKM.out
  by_cases hlt : j < (l0.length : Int)
  ·obtain ⟨ad, A3', c3', A5', c5', eA, x0, x1, x2, x3, x4, x5, l3, g3, l5, g5⟩ := at_T68 HR.out j j0 hlt
   subst eA
   have hjn : j.toNat < l0.length := by omega
   have hd1 : d ≤ 140737488355328 ∧ x.size + (dE d (rd_T68 l0 j)).length ≤ 140737488355328 := by
    have h1 := dL_take d l0 j.toNat hjn
    have h2 := dL_len d l0 (j.toNat + 1)
    have h3 := HL.out
    have h4 := HX.out
    rw [show ((j.toNat : Nat) : Int) = j by omega] at h1
    rw [h1, List.length_append, ← h4, data_length] at h2
    refine ⟨?_, by omega⟩
    rw [dE_eq, List.length_append, data_length, lineB_size] at h2
    omega
   have HS := Aside0.mk (rd_El_size l0 j.toNat hjn)
   have HT := Aside0.mk (dL_take d l0 j.toNat hjn)
   rw [show ((j.toNat : Nat) : Int) = j by omega] at HS HT
   generalize rd_T68 l0 j = e at x0 x1 x2 x3 x4 x5 l3 g3 l5 g5 hd1 HS HT
   have hwr : wrap64 (j + 1) = j + 1 := by unfold wrap64; omega
   obtain ⟨y, hy⟩ : ∃ y : ByteArray, y = ⟨(dL (d + 1) e.f5).toArray⟩ := ⟨_, rfl⟩
   have hys : y.size = (dL (d + 1) e.f5).length := by rw [hy]; simp [ByteArray.size]
   obtain ⟨hd2, hd3⟩ := hd1
   rw [dE_eq, List.length_append, data_length, lineB_size, ← hys] at hd3
   have hbs := blanksB_size d
   have HY := Aside0.mk hy
   have HYL : Aside0 ((dL (d + 1) e.f5).length ≤ 140737488355328) := ⟨by rw [← hys]; omega⟩
   have q1 : (9223372036854775807 < x.size + (blanksB d).size) = False := eq_false (by omega)
   have q2 : (9223372036854775807 < x.size + (blanksB d).size + (wordK e.f0).size) = False := eq_false (by omega)
   have q3 : (9223372036854775807 < x.size + (blanksB d).size + (wordK e.f0).size + 1) = False := eq_false (by omega)
   have q4 : (9223372036854775807 < x.size + (blanksB d).size + (wordK e.f0).size + 1 + (nameB e.f2 e.f4).size) = False := eq_false (by omega)
   have q5 : (9223372036854775807 < x.size + (blanksB d).size + (wordK e.f0).size + 1 + (nameB e.f2 e.f4).size + 1) = False := eq_false (by omega)
   have q6 : (9223372036854775807 < x.size + (blanksB d).size + (wordK e.f0).size + 1 + (nameB e.f2 e.f4).size + 1 + y.size) = False := eq_false (by omega)
   have HBL := Aside0.mk (blanks_ex d hd2)
   have HWK : Aside0 (spec_l22Kind.f e.f0 ws = some (wordK e.f0)) := ⟨by rw [HWS.out]; exact wordK_spec _⟩
   have HNM := Aside0.mk (nameB_spec e.f2 e.f4)
   have hd5 : d + 1 ≤ 9223372036854775807 := by omega
   have HX0 := Aside0.mk x0
   have HX2 := Aside0.mk x2
   have HX4 := Aside0.mk x4
   have HX5 := Aside0.mk x5
   have HL5 := Aside0.mk l5
   have HG5 := Aside0.mk g5
   clear x0 x1 x2 x3 x4 x5 l3 g3 l5 g5 hjn hkm hy hys hd2 hd3 hbs
   have p7 := eq_true j0
   have q7 := eq_true hlt
   go_wp2
   have HB2 := Aside0.mk (below_drew1 HB1.out)
   refine start_ (n := 27) (S := fun w' => w'.cell? (ad.add (j.toNat * 6)) = some (.int .i64 e.f0) ∧ w'.cell? ⟨(ad.add (j.toNat * 6)).block, (ad.add (j.toNat * 6)).off + 2, none⟩ = some (.string e.f2) ∧ w'.cell? ⟨(ad.add (j.toNat * 6)).block, (ad.add (j.toNat * 6)).off + 4, none⟩ = some (.string e.f4)) (ds := []) #[false, false, false, false, false, false, false, false, false, false, false, false, false, false, false, false, false, false, false, false, false, false, false, false, false, false, false] (by kernel_rfl) rfl rfl ⟨(HB1.out.cell (World.block_lt_of_cell? w _ HX0.out)).trans HX0.out, (HB1.out.cell (World.block_lt_of_cell? w _ HX2.out)).trans HX2.out, (HB1.out.cell (World.block_lt_of_cell? w _ HX4.out)).trans HX4.out⟩ (fun hHeld => ?_)
   generalize World.drew _ = wr0 at HB2 hHeld ⊢
   refine pure_ (i := 0) (N := some 13) (v := ?_) (a' := ?_) #[true, false, false, false, false, false, false, false, false, false, false, false, false, false, false, false, false, false, false, false, false, false, false, false, false, false, false] rfl rfl (by kernel_rfl) (fun _ _ _ h => h) (Or.inl ⟨by rfl, ?_⟩) ?_ ?_
   rotate_left
   ·intro w'
    go_simp
    with_reducible rfl
   rotate_left
   ·simp only [Act.put, List.setIfInBounds_toArray, List.set_cons_zero, List.set_cons_succ, i64_w, i32_w]
    rfl
   refine pure_ (i := 1) (N := some 14) (v := ?_) (a' := ?_) #[true, true, false, false, false, false, false, false, false, false, false, false, false, false, false, false, false, false, false, false, false, false, false, false, false, false, false] rfl rfl (by kernel_rfl) (fun _ _ _ h => h) (Or.inl ⟨by rfl, ?_⟩) ?_ ?_
   rotate_left
   ·intro w'
    go_simp
    with_reducible rfl
   rotate_left
   ·simp only [Act.put, List.setIfInBounds_toArray, List.set_cons_zero, List.set_cons_succ, i64_w, i32_w]
    rfl
   refine pure_ (i := 4) (N := some 17) (v := ?_) (a' := ?_) #[true, true, false, false, true, false, false, false, false, false, false, false, false, false, false, false, false, false, false, false, false, false, false, false, false, false, false] rfl rfl (by kernel_rfl) (fun _ _ _ h => h) (Or.inl ⟨by rfl, ?_⟩) ?_ ?_
   rotate_left
   ·intro w'
    go_simp
    with_reducible rfl
   rotate_left
   ·simp only [Act.put, List.setIfInBounds_toArray, List.set_cons_zero, List.set_cons_succ, i64_w, i32_w]
    rfl
   refine pure_ (i := 5) (N := some 18) (v := ?_) (a' := ?_) #[true, true, false, false, true, true, false, false, false, false, false, false, false, false, false, false, false, false, false, false, false, false, false, false, false, false, false] rfl rfl (by kernel_rfl) (fun _ _ _ h => h) (Or.inl ⟨by rfl, ?_⟩) ?_ ?_
   rotate_left
   ·intro w'
    go_simp
    with_reducible rfl
   rotate_left
   ·simp only [Act.put, List.setIfInBounds_toArray, List.set_cons_zero, List.set_cons_succ, i64_w, i32_w]
    rfl
   refine pure_ (i := 6) (N := some 19) (v := ?_) (a' := ?_) #[true, true, false, false, true, true, true, false, false, false, false, false, false, false, false, false, false, false, false, false, false, false, false, false, false, false, false] rfl rfl (by kernel_rfl) (fun _ _ _ h => h) (Or.inl ⟨by rfl, ?_⟩) ?_ ?_
   rotate_left
   ·intro w'
    go_simp
    with_reducible rfl
   rotate_left
   ·simp only [Act.put, List.setIfInBounds_toArray, List.set_cons_zero, List.set_cons_succ, i64_w, i32_w]
    rfl
   refine pure_ (i := 7) (N := some 20) (v := ?_) (a' := ?_) #[true, true, false, false, true, true, true, true, false, false, false, false, false, false, false, false, false, false, false, false, false, false, false, false, false, false, false] rfl rfl (by kernel_rfl) (fun _ _ _ h => h) (Or.inl ⟨by rfl, ?_⟩) ?_ ?_
   rotate_left
   ·intro w'
    go_simp
    with_reducible rfl
   rotate_left
   ·simp only [Act.put, List.setIfInBounds_toArray, List.set_cons_zero, List.set_cons_succ, i64_w, i32_w]
    rfl
   refine pure_ (i := 13) (N := some 26) (v := ?_) (a' := ?_) #[true, true, false, false, true, true, true, true, false, false, false, false, false, true, false, false, false, false, false, false, false, false, false, false, false, false, false] rfl rfl (by kernel_rfl) (fun _ _ _ h => h) (Or.inl ⟨by rfl, ?_⟩) ?_ ?_
   rotate_left
   ·intro w'
    go_simp
    with_reducible rfl
   rotate_left
   ·simp only [Act.put, List.setIfInBounds_toArray, List.set_cons_zero, List.set_cons_succ, i64_w, i32_w]
    rfl
   refine pure_ (i := 14) (N := some 27) (v := ?_) (a' := ?_) #[true, true, false, false, true, true, true, true, false, false, false, false, false, true, true, false, false, false, false, false, false, false, false, false, false, false, false] rfl rfl (by kernel_rfl) (fun _ _ _ h => h) (Or.inl ⟨by rfl, ?_⟩) ?_ ?_
   rotate_left
   ·intro w'
    go_simp
    with_reducible rfl
   rotate_left
   ·simp only [Act.put, List.setIfInBounds_toArray, List.set_cons_zero, List.set_cons_succ, i64_w, i32_w]
    rfl
   refine pure_ (i := 15) (N := some 28) (v := ?_) (a' := ?_) #[true, true, false, false, true, true, true, true, false, false, false, false, false, true, true, true, false, false, false, false, false, false, false, false, false, false, false] rfl rfl (by kernel_rfl) (fun _ _ _ h => h) (Or.inl ⟨by rfl, ?_⟩) ?_ ?_
   rotate_left
   ·intro w'
    go_simp
    with_reducible rfl
   rotate_left
   ·simp only [Act.put, List.setIfInBounds_toArray, List.set_cons_zero, List.set_cons_succ, i64_w, i32_w]
    rfl
   refine pure_ (i := 16) (N := some 29) (v := ?_) (a' := ?_) #[true, true, false, false, true, true, true, true, false, false, false, false, false, true, true, true, true, false, false, false, false, false, false, false, false, false, false] rfl rfl (by kernel_rfl) (fun _ _ _ h => h) (Or.inl ⟨by rfl, ?_⟩) ?_ ?_
   rotate_left
   ·intro w'
    go_simp
    with_reducible rfl
   rotate_left
   ·simp only [Act.put, List.setIfInBounds_toArray, List.set_cons_zero, List.set_cons_succ, i64_w, i32_w]
    rfl
   refine pure_ (i := 18) (N := some 31) (v := ?_) (a' := ?_) #[true, true, false, false, true, true, true, true, false, false, false, false, false, true, true, true, true, false, true, false, false, false, false, false, false, false, false] rfl rfl (by kernel_rfl) (fun _ _ _ h => h) (Or.inl ⟨by rfl, ?_⟩) ?_ ?_
   rotate_left
   ·intro w'
    go_simp
    with_reducible rfl
   rotate_left
   ·simp only [Act.put, List.setIfInBounds_toArray, List.set_cons_zero, List.set_cons_succ, i64_w, i32_w]
    rfl
   refine pure_ (i := 19) (N := some 32) (v := ?_) (a' := ?_) #[true, true, false, false, true, true, true, true, false, false, false, false, false, true, true, true, true, false, true, true, false, false, false, false, false, false, false] rfl rfl (by kernel_rfl) (fun _ _ _ h => h) (Or.inl ⟨by rfl, ?_⟩) ?_ ?_
   rotate_left
   ·intro w'
    go_simp
    with_reducible rfl
   rotate_left
   ·simp only [Act.put, List.setIfInBounds_toArray, List.set_cons_zero, List.set_cons_succ, i64_w, i32_w]
    rfl
   refine pure_ (i := 20) (N := some 33) (v := ?_) (a' := ?_) #[true, true, false, false, true, true, true, true, false, false, false, false, false, true, true, true, true, false, true, true, true, false, false, false, false, false, false] rfl rfl (by kernel_rfl) (fun _ _ _ h => h) (Or.inl ⟨by rfl, ?_⟩) ?_ ?_
   rotate_left
   ·intro w'
    go_simp
    with_reducible rfl
   rotate_left
   ·simp only [Act.put, List.setIfInBounds_toArray, List.set_cons_zero, List.set_cons_succ, i64_w, i32_w]
    rfl
   refine pure_ (i := 21) (N := some 34) (v := ?_) (a' := ?_) #[true, true, false, false, true, true, true, true, false, false, false, false, false, true, true, true, true, false, true, true, true, true, false, false, false, false, false] rfl rfl (by kernel_rfl) (fun _ _ _ h => h) (Or.inl ⟨by rfl, ?_⟩) ?_ ?_
   rotate_left
   ·intro w'
    go_simp
    with_reducible rfl
   rotate_left
   ·simp only [Act.put, List.setIfInBounds_toArray, List.set_cons_zero, List.set_cons_succ, i64_w, i32_w]
    rfl
   refine take_ (i := 8) (N := some 21) (v := ?_) (a' := ?_) #[true, true, false, false, true, true, true, true, true, false, false, false, false, true, true, true, true, false, true, true, true, true, false, false, false, false, false] rfl rfl (by kernel_rfl) (fun _ _ _ h => h) (Or.inl ⟨by rfl, ?_⟩) hHeld ?_ ?_
   rotate_left
   ·rintro w' ⟨s0, s2, s4⟩
    go_simp
    with_reducible rfl
   rotate_left
   ·simp only [Act.put, List.setIfInBounds_toArray, List.set_cons_zero, List.set_cons_succ, i64_w, i32_w]
    rfl
   refine take_ (i := 17) (N := some 30) (v := ?_) (a' := ?_) #[true, true, false, false, true, true, true, true, true, false, false, false, false, true, true, true, true, true, true, true, true, true, false, false, false, false, false] rfl rfl (by kernel_rfl) (fun _ _ _ h => h) (Or.inl ⟨by rfl, ?_⟩) hHeld ?_ ?_
   rotate_left
   ·rintro w' ⟨s0, s2, s4⟩
    go_simp
    with_reducible rfl
   rotate_left
   ·simp only [Act.put, List.setIfInBounds_toArray, List.set_cons_zero, List.set_cons_succ, i64_w, i32_w]
    rfl
   refine take_ (i := 22) (N := some 35) (v := ?_) (a' := ?_) #[true, true, false, false, true, true, true, true, true, false, false, false, false, true, true, true, true, true, true, true, true, true, true, false, false, false, false] rfl rfl (by kernel_rfl) (fun _ _ _ h => h) (Or.inl ⟨by rfl, ?_⟩) hHeld ?_ ?_
   rotate_left
   ·rintro w' ⟨s0, s2, s4⟩
    go_simp
    with_reducible rfl
   rotate_left
   ·simp only [Act.put, List.setIfInBounds_toArray, List.set_cons_zero, List.set_cons_succ, i64_w, i32_w]
    rfl
   refine two_ (i := 2) (j := 9) (Ni := some 15) (Nj := some 22) #[true, true, true, false, true, true, true, true, true, false, false, false, false, true, true, true, true, true, true, true, true, true, true, false, false, false, false] #[true, true, false, false, true, true, true, true, true, true, false, false, false, true, true, true, true, true, true, true, true, true, true, false, false, false, false] rfl rfl rfl rfl (by kernel_rfl) (by decide) (by decide) (fun K hK => ?_) (fun K hK => ?_)
   ·skip
    refine goes_ Try.func72 (by kernel_rfl) rfl #[.int .i64 (d : Int)] (by rfl) rfl rfl (by (try simp only [List.map_toArray, List.map_cons, List.map_nil]); first | done | rfl | (simp only [List.length_drop, List.length_take]; rfl)) ?_
    with_reducible refine (spec_l22Blanks.calls (d + 1) (d : Int) (blanksB d) _ HBL.out).mono ?_
    rintro e wr2 ⟨rfl, hd⟩
    refine ⟨_, rfl, ?_⟩
    have n0_ := Aside0.mk (below_step HB2.out hd.below)
    clear HB2
    have HB2 := n0_
    clear n0_
    (try (have n0_ := Aside0.mk (Kd.C_below HLC.out hd.below); clear HLC; have HLC := n0_; clear n0_))
    clear hd
    refine hK.out _ _ ⟨(HB2.out.cell (World.block_lt_of_cell? w _ HX0.out)).trans HX0.out, (HB2.out.cell (World.block_lt_of_cell? w _ HX2.out)).trans HX2.out, (HB2.out.cell (World.block_lt_of_cell? w _ HX4.out)).trans HX4.out⟩ (fun hHeld => ?_)
    clear hK K
    refine norm_ (a' := ?_) ?_ ?_
    rotate_left
    ·show Act.put _ (some 15) _ = _
     simp only [Act.put, List.setIfInBounds_toArray, List.set_cons_zero, List.set_cons_succ, i64_w, i32_w]
     rfl
    refine pure_ (i := 3) (N := some 16) (v := ?_) (a' := ?_) #[true, true, true, true, true, true, true, true, true, false, false, false, false, true, true, true, true, true, true, true, true, true, true, false, false, false, false] rfl rfl (by kernel_rfl) (fun _ _ _ h => h) (Or.inl ⟨by rfl, ?_⟩) ?_ ?_
    rotate_left
    ·intro w'
     go_simp
     with_reducible rfl
    rotate_left
    ·simp only [Act.put, List.setIfInBounds_toArray, List.set_cons_zero, List.set_cons_succ, i64_w, i32_w]
     rfl
    refine one_ (i := 9) (N := some 22) #[true, true, true, true, true, true, true, true, true, true, false, false, false, true, true, true, true, true, true, true, true, true, true, false, false, false, false] rfl rfl (by kernel_rfl) (by decide) (fun K hK => ?_)
    refine Kd.R_lit_step Kd.string _ 9 ?hg (N := 22) ?hd (xs := ([(⟨#[116, 97, 103]⟩ : ByteArray), (⟨#[116, 101, 120, 116]⟩ : ByteArray), (⟨#[110, 111, 116, 101]⟩ : ByteArray)] : List ByteArray)) (inner := [.string (⟨#[116, 97, 103]⟩ : ByteArray), .string (⟨#[116, 101, 120, 116]⟩ : ByteArray), .string (⟨#[110, 111, 116, 101]⟩ : ByteArray)]) (ok := fun _ => True) (okp := fun _ => True) ?hr ?hp (fun _ hk => hk) trivial (Below.refl _ _) (Nat.le_refl _) (by simp) ?_; (case hd => rfl); (case hg => rfl); (case hr => first | (go_simp; done) | (go_simp; rfl)); (case hp => exact (Reps.one (show Kd.M Kd.string _ _ _ (⟨#[116, 97, 103]⟩ : ByteArray) [.string (⟨#[116, 97, 103]⟩ : ByteArray)] from rfl) (Reps.one (show Kd.M Kd.string _ _ _ (⟨#[116, 101, 120, 116]⟩ : ByteArray) [.string (⟨#[116, 101, 120, 116]⟩ : ByteArray)] from rfl) (Reps.one (show Kd.M Kd.string _ _ _ (⟨#[110, 111, 116, 101]⟩ : ByteArray) [.string (⟨#[110, 111, 116, 101]⟩ : ByteArray)] from rfl) (Reps.none _ _)))))
    intro v9 wr9 ho9 hb hg_ hnew_
    clear hg_ hnew_
    rw [← HWS.out] at ho9
    obtain ⟨Ao, co, rfl⟩ := Kd.R_slice ho9
    have HLC := Aside0.mk (Kd.R_reads' ho9).2.2
    have HLL := Aside0.mk (Kd.R_reads' ho9).2.1
    have n0_ := Aside0.mk (below_step HB2.out hb)
    clear HB2 ho9 hb
    have HB2 := n0_
    clear n0_
    refine hK.out _ _ ⟨(HB2.out.cell (World.block_lt_of_cell? w _ HX0.out)).trans HX0.out, (HB2.out.cell (World.block_lt_of_cell? w _ HX2.out)).trans HX2.out, (HB2.out.cell (World.block_lt_of_cell? w _ HX4.out)).trans HX4.out⟩ (fun hHeld => ?_)
    clear hK K
    refine norm_ (a' := ?_) ?_ ?_
    rotate_left
    ·show Act.put _ (some 22) _ = _
     simp only [Act.put, List.setIfInBounds_toArray, List.set_cons_zero, List.set_cons_succ, i64_w, i32_w]
     rfl
    refine one_ (i := 10) (N := some 23) #[true, true, true, true, true, true, true, true, true, true, true, false, false, true, true, true, true, true, true, true, true, true, true, false, false, false, false] rfl rfl (by kernel_rfl) (by decide) (fun K hK => ?_)
    refine goes_ Try.func73 (by kernel_rfl) rfl #[.int .i64 e.f0, .slice Ao ws.length co] (by rfl) rfl rfl (by (try simp only [List.map_toArray, List.map_cons, List.map_nil]); first | done | rfl | (simp only [List.length_drop, List.length_take]; rfl)) ?_
    with_reducible refine (spec_l22Kind.calls e.f0 _ _ ws (wordK e.f0) _ HLC.out HLL.out HWK.out).mono ?_
    rintro e wr10 ⟨rfl, hd⟩
    refine ⟨_, rfl, ?_⟩
    have n0_ := Aside0.mk (below_step HB2.out hd.below)
    clear HB2 hd HLC HLL
    have HB2 := n0_
    clear n0_
    refine hK.out _ _ ⟨(HB2.out.cell (World.block_lt_of_cell? w _ HX0.out)).trans HX0.out, (HB2.out.cell (World.block_lt_of_cell? w _ HX2.out)).trans HX2.out, (HB2.out.cell (World.block_lt_of_cell? w _ HX4.out)).trans HX4.out⟩ (fun hHeld => ?_)
    clear hK K
    refine norm_ (a' := ?_) ?_ ?_
    rotate_left
    ·show Act.put _ (some 23) _ = _
     simp only [Act.put, List.setIfInBounds_toArray, List.set_cons_zero, List.set_cons_succ, i64_w, i32_w]
     rfl
    refine pure_ (i := 11) (N := some 24) (v := ?_) (a' := ?_) #[true, true, true, true, true, true, true, true, true, true, true, true, false, true, true, true, true, true, true, true, true, true, true, false, false, false, false] rfl rfl (by kernel_rfl) (fun _ _ _ h => h) (Or.inl ⟨by rfl, ?_⟩) ?_ ?_
    rotate_left
    ·intro w'
     go_simp
     with_reducible rfl
    rotate_left
    ·simp only [Act.put, List.setIfInBounds_toArray, List.set_cons_zero, List.set_cons_succ, i64_w, i32_w]
     rfl
    refine pure_ (i := 12) (N := some 25) (v := ?_) (a' := ?_) #[true, true, true, true, true, true, true, true, true, true, true, true, true, true, true, true, true, true, true, true, true, true, true, false, false, false, false] rfl rfl (by kernel_rfl) (fun _ _ _ h => h) (Or.inl ⟨by rfl, ?_⟩) ?_ ?_
    rotate_left
    ·intro w'
     go_simp
     with_reducible rfl
    rotate_left
    ·simp only [Act.put, List.setIfInBounds_toArray, List.set_cons_zero, List.set_cons_succ, i64_w, i32_w]
     rfl
    refine one_ (i := 23) (N := some 36) #[true, true, true, true, true, true, true, true, true, true, true, true, true, true, true, true, true, true, true, true, true, true, true, true, false, false, false] rfl rfl (by kernel_rfl) (by decide) (fun K hK => ?_)
    refine goes_ Try.func74 (by kernel_rfl) rfl #[.string e.f2, .string e.f4] (by rfl) rfl rfl (by (try simp only [List.map_toArray, List.map_cons, List.map_nil]); first | done | rfl | (simp only [List.length_drop, List.length_take]; rfl)) ?_
    with_reducible refine (spec_l22Named.calls e.f2 e.f4 (nameB e.f2 e.f4) _ HNM.out).mono ?_
    rintro e wr23 ⟨rfl, hd⟩
    refine ⟨_, rfl, ?_⟩
    have n0_ := Aside0.mk (below_step HB2.out hd.below)
    clear HB2 hd
    have HB2 := n0_
    clear n0_
    refine hK.out _ _ ⟨(HB2.out.cell (World.block_lt_of_cell? w _ HX0.out)).trans HX0.out, (HB2.out.cell (World.block_lt_of_cell? w _ HX2.out)).trans HX2.out, (HB2.out.cell (World.block_lt_of_cell? w _ HX4.out)).trans HX4.out⟩ (fun hHeld => ?_)
    clear hK K
    refine norm_ (a' := ?_) ?_ ?_
    rotate_left
    ·show Act.put _ (some 36) _ = _
     simp only [Act.put, List.setIfInBounds_toArray, List.set_cons_zero, List.set_cons_succ, i64_w, i32_w]
     rfl
    refine pure_ (i := 24) (N := some 37) (v := ?_) (a' := ?_) #[true, true, true, true, true, true, true, true, true, true, true, true, true, true, true, true, true, true, true, true, true, true, true, true, true, false, false] rfl rfl (by kernel_rfl) (fun _ _ _ h => h) (Or.inl ⟨by rfl, ?_⟩) ?_ ?_
    rotate_left
    ·intro w'
     go_simp
     with_reducible rfl
    rotate_left
    ·simp only [Act.put, List.setIfInBounds_toArray, List.set_cons_zero, List.set_cons_succ, i64_w, i32_w]
     rfl
    refine pure_ (i := 25) (N := some 38) (v := ?_) (a' := ?_) #[true, true, true, true, true, true, true, true, true, true, true, true, true, true, true, true, true, true, true, true, true, true, true, true, true, true, false] rfl rfl (by kernel_rfl) (fun _ _ _ h => h) (Or.inl ⟨by rfl, ?_⟩) ?_ ?_
    rotate_left
    ·intro w'
     go_simp
     with_reducible rfl
    rotate_left
    ·simp only [Act.put, List.setIfInBounds_toArray, List.set_cons_zero, List.set_cons_succ, i64_w, i32_w]
     rfl
    refine pure_ (i := 26) (N := some 5) (v := ?_) (a' := ?_) #[true, true, true, true, true, true, true, true, true, true, true, true, true, true, true, true, true, true, true, true, true, true, true, true, true, true, true] rfl rfl (by kernel_rfl) (fun _ _ _ h => h) (Or.inl ⟨by rfl, ?_⟩) ?_ ?_
    rotate_left
    ·intro w'
     go_simp
     with_reducible rfl
    rotate_left
    ·simp only [Act.put, List.setIfInBounds_toArray, List.set_cons_zero, List.set_cons_succ, i64_w, i32_w]
     rfl
    refine done_ (by kernel_rfl) ?_
    have x5 := (HB2.out.cell (World.block_lt_of_cell? w _ HX5.out)).trans HX5.out
    go_wp2_with (go_at_call 59; (with_reducible refine (ih e.f5 (d + 1) ((d : Int) + 1) (by omega) _ _ _ (by have h1_ := HS.out; have h2_ := HM.out; omega) (Kd.C_below HG5.out HB2.out) HL5.out HYL.out).mono ?_); rw [← HY.out]; rintro e_ w7 ⟨rfl, hb⟩; have HB7 := Aside0.mk (below_step HB2.out hb); clear hb)
    go_roundg (l0.length - (j + 1).toNat)
    case measure => have := HE.out; omega
    case rel => exact ⟨j + 1, _, rfl, by rw [hwr], by omega, by omega, ⟨rfl⟩, ⟨by rw [lineB_app, HX.out, show (j + 1).toNat = j.toNat + 1 by omega, HT.out, dE_eq, HY.out]⟩, HB7⟩
   ·skip
    refine Kd.R_lit_step Kd.string _ 9 ?hg (N := 22) ?hd (xs := ([(⟨#[116, 97, 103]⟩ : ByteArray), (⟨#[116, 101, 120, 116]⟩ : ByteArray), (⟨#[110, 111, 116, 101]⟩ : ByteArray)] : List ByteArray)) (inner := [.string (⟨#[116, 97, 103]⟩ : ByteArray), .string (⟨#[116, 101, 120, 116]⟩ : ByteArray), .string (⟨#[110, 111, 116, 101]⟩ : ByteArray)]) (ok := fun _ => True) (okp := fun _ => True) ?hr ?hp (fun _ hk => hk) trivial (Below.refl _ _) (Nat.le_refl _) (by simp) ?_; (case hd => rfl); (case hg => rfl); (case hr => first | (go_simp; done) | (go_simp; rfl)); (case hp => exact (Reps.one (show Kd.M Kd.string _ _ _ (⟨#[116, 97, 103]⟩ : ByteArray) [.string (⟨#[116, 97, 103]⟩ : ByteArray)] from rfl) (Reps.one (show Kd.M Kd.string _ _ _ (⟨#[116, 101, 120, 116]⟩ : ByteArray) [.string (⟨#[116, 101, 120, 116]⟩ : ByteArray)] from rfl) (Reps.one (show Kd.M Kd.string _ _ _ (⟨#[110, 111, 116, 101]⟩ : ByteArray) [.string (⟨#[110, 111, 116, 101]⟩ : ByteArray)] from rfl) (Reps.none _ _)))))
    intro v9 wr9 ho9 hb hg_ hnew_
    clear hg_ hnew_
    rw [← HWS.out] at ho9
    obtain ⟨Ao, co, rfl⟩ := Kd.R_slice ho9
    have HLC := Aside0.mk (Kd.R_reads' ho9).2.2
    have HLL := Aside0.mk (Kd.R_reads' ho9).2.1
    have n0_ := Aside0.mk (below_step HB2.out hb)
    clear HB2 ho9 hb
    have HB2 := n0_
    clear n0_
    refine hK.out _ _ ⟨(HB2.out.cell (World.block_lt_of_cell? w _ HX0.out)).trans HX0.out, (HB2.out.cell (World.block_lt_of_cell? w _ HX2.out)).trans HX2.out, (HB2.out.cell (World.block_lt_of_cell? w _ HX4.out)).trans HX4.out⟩ (fun hHeld => ?_)
    clear hK K
    refine norm_ (a' := ?_) ?_ ?_
    rotate_left
    ·show Act.put _ (some 22) _ = _
     simp only [Act.put, List.setIfInBounds_toArray, List.set_cons_zero, List.set_cons_succ, i64_w, i32_w]
     rfl
    refine one_ (i := 2) (N := some 15) #[true, true, true, false, true, true, true, true, true, true, false, false, false, true, true, true, true, true, true, true, true, true, true, false, false, false, false] rfl rfl (by kernel_rfl) (by decide) (fun K hK => ?_)
    refine goes_ Try.func72 (by kernel_rfl) rfl #[.int .i64 (d : Int)] (by rfl) rfl rfl (by (try simp only [List.map_toArray, List.map_cons, List.map_nil]); first | done | rfl | (simp only [List.length_drop, List.length_take]; rfl)) ?_
    with_reducible refine (spec_l22Blanks.calls (d + 1) (d : Int) (blanksB d) _ HBL.out).mono ?_
    rintro e wr2 ⟨rfl, hd⟩
    refine ⟨_, rfl, ?_⟩
    have n0_ := Aside0.mk (below_step HB2.out hd.below)
    clear HB2
    have HB2 := n0_
    clear n0_
    (try (have n0_ := Aside0.mk (Kd.C_below HLC.out hd.below); clear HLC; have HLC := n0_; clear n0_))
    clear hd
    refine hK.out _ _ ⟨(HB2.out.cell (World.block_lt_of_cell? w _ HX0.out)).trans HX0.out, (HB2.out.cell (World.block_lt_of_cell? w _ HX2.out)).trans HX2.out, (HB2.out.cell (World.block_lt_of_cell? w _ HX4.out)).trans HX4.out⟩ (fun hHeld => ?_)
    clear hK K
    refine norm_ (a' := ?_) ?_ ?_
    rotate_left
    ·show Act.put _ (some 15) _ = _
     simp only [Act.put, List.setIfInBounds_toArray, List.set_cons_zero, List.set_cons_succ, i64_w, i32_w]
     rfl
    refine pure_ (i := 3) (N := some 16) (v := ?_) (a' := ?_) #[true, true, true, true, true, true, true, true, true, true, false, false, false, true, true, true, true, true, true, true, true, true, true, false, false, false, false] rfl rfl (by kernel_rfl) (fun _ _ _ h => h) (Or.inl ⟨by rfl, ?_⟩) ?_ ?_
    rotate_left
    ·intro w'
     go_simp
     with_reducible rfl
    rotate_left
    ·simp only [Act.put, List.setIfInBounds_toArray, List.set_cons_zero, List.set_cons_succ, i64_w, i32_w]
     rfl
    refine one_ (i := 10) (N := some 23) #[true, true, true, true, true, true, true, true, true, true, true, false, false, true, true, true, true, true, true, true, true, true, true, false, false, false, false] rfl rfl (by kernel_rfl) (by decide) (fun K hK => ?_)
    refine goes_ Try.func73 (by kernel_rfl) rfl #[.int .i64 e.f0, .slice Ao ws.length co] (by rfl) rfl rfl (by (try simp only [List.map_toArray, List.map_cons, List.map_nil]); first | done | rfl | (simp only [List.length_drop, List.length_take]; rfl)) ?_
    with_reducible refine (spec_l22Kind.calls e.f0 _ _ ws (wordK e.f0) _ HLC.out HLL.out HWK.out).mono ?_
    rintro e wr10 ⟨rfl, hd⟩
    refine ⟨_, rfl, ?_⟩
    have n0_ := Aside0.mk (below_step HB2.out hd.below)
    clear HB2 hd HLC HLL
    have HB2 := n0_
    clear n0_
    refine hK.out _ _ ⟨(HB2.out.cell (World.block_lt_of_cell? w _ HX0.out)).trans HX0.out, (HB2.out.cell (World.block_lt_of_cell? w _ HX2.out)).trans HX2.out, (HB2.out.cell (World.block_lt_of_cell? w _ HX4.out)).trans HX4.out⟩ (fun hHeld => ?_)
    clear hK K
    refine norm_ (a' := ?_) ?_ ?_
    rotate_left
    ·show Act.put _ (some 23) _ = _
     simp only [Act.put, List.setIfInBounds_toArray, List.set_cons_zero, List.set_cons_succ, i64_w, i32_w]
     rfl
    refine pure_ (i := 11) (N := some 24) (v := ?_) (a' := ?_) #[true, true, true, true, true, true, true, true, true, true, true, true, false, true, true, true, true, true, true, true, true, true, true, false, false, false, false] rfl rfl (by kernel_rfl) (fun _ _ _ h => h) (Or.inl ⟨by rfl, ?_⟩) ?_ ?_
    rotate_left
    ·intro w'
     go_simp
     with_reducible rfl
    rotate_left
    ·simp only [Act.put, List.setIfInBounds_toArray, List.set_cons_zero, List.set_cons_succ, i64_w, i32_w]
     rfl
    refine pure_ (i := 12) (N := some 25) (v := ?_) (a' := ?_) #[true, true, true, true, true, true, true, true, true, true, true, true, true, true, true, true, true, true, true, true, true, true, true, false, false, false, false] rfl rfl (by kernel_rfl) (fun _ _ _ h => h) (Or.inl ⟨by rfl, ?_⟩) ?_ ?_
    rotate_left
    ·intro w'
     go_simp
     with_reducible rfl
    rotate_left
    ·simp only [Act.put, List.setIfInBounds_toArray, List.set_cons_zero, List.set_cons_succ, i64_w, i32_w]
     rfl
    refine one_ (i := 23) (N := some 36) #[true, true, true, true, true, true, true, true, true, true, true, true, true, true, true, true, true, true, true, true, true, true, true, true, false, false, false] rfl rfl (by kernel_rfl) (by decide) (fun K hK => ?_)
    refine goes_ Try.func74 (by kernel_rfl) rfl #[.string e.f2, .string e.f4] (by rfl) rfl rfl (by (try simp only [List.map_toArray, List.map_cons, List.map_nil]); first | done | rfl | (simp only [List.length_drop, List.length_take]; rfl)) ?_
    with_reducible refine (spec_l22Named.calls e.f2 e.f4 (nameB e.f2 e.f4) _ HNM.out).mono ?_
    rintro e wr23 ⟨rfl, hd⟩
    refine ⟨_, rfl, ?_⟩
    have n0_ := Aside0.mk (below_step HB2.out hd.below)
    clear HB2 hd
    have HB2 := n0_
    clear n0_
    refine hK.out _ _ ⟨(HB2.out.cell (World.block_lt_of_cell? w _ HX0.out)).trans HX0.out, (HB2.out.cell (World.block_lt_of_cell? w _ HX2.out)).trans HX2.out, (HB2.out.cell (World.block_lt_of_cell? w _ HX4.out)).trans HX4.out⟩ (fun hHeld => ?_)
    clear hK K
    refine norm_ (a' := ?_) ?_ ?_
    rotate_left
    ·show Act.put _ (some 36) _ = _
     simp only [Act.put, List.setIfInBounds_toArray, List.set_cons_zero, List.set_cons_succ, i64_w, i32_w]
     rfl
    refine pure_ (i := 24) (N := some 37) (v := ?_) (a' := ?_) #[true, true, true, true, true, true, true, true, true, true, true, true, true, true, true, true, true, true, true, true, true, true, true, true, true, false, false] rfl rfl (by kernel_rfl) (fun _ _ _ h => h) (Or.inl ⟨by rfl, ?_⟩) ?_ ?_
    rotate_left
    ·intro w'
     go_simp
     with_reducible rfl
    rotate_left
    ·simp only [Act.put, List.setIfInBounds_toArray, List.set_cons_zero, List.set_cons_succ, i64_w, i32_w]
     rfl
    refine pure_ (i := 25) (N := some 38) (v := ?_) (a' := ?_) #[true, true, true, true, true, true, true, true, true, true, true, true, true, true, true, true, true, true, true, true, true, true, true, true, true, true, false] rfl rfl (by kernel_rfl) (fun _ _ _ h => h) (Or.inl ⟨by rfl, ?_⟩) ?_ ?_
    rotate_left
    ·intro w'
     go_simp
     with_reducible rfl
    rotate_left
    ·simp only [Act.put, List.setIfInBounds_toArray, List.set_cons_zero, List.set_cons_succ, i64_w, i32_w]
     rfl
    refine pure_ (i := 26) (N := some 5) (v := ?_) (a' := ?_) #[true, true, true, true, true, true, true, true, true, true, true, true, true, true, true, true, true, true, true, true, true, true, true, true, true, true, true] rfl rfl (by kernel_rfl) (fun _ _ _ h => h) (Or.inl ⟨by rfl, ?_⟩) ?_ ?_
    rotate_left
    ·intro w'
     go_simp
     with_reducible rfl
    rotate_left
    ·simp only [Act.put, List.setIfInBounds_toArray, List.set_cons_zero, List.set_cons_succ, i64_w, i32_w]
     rfl
    refine done_ (by kernel_rfl) ?_
    have x5 := (HB2.out.cell (World.block_lt_of_cell? w _ HX5.out)).trans HX5.out
    go_wp2_with (go_at_call 59; (with_reducible refine (ih e.f5 (d + 1) ((d : Int) + 1) (by omega) _ _ _ (by have h1_ := HS.out; have h2_ := HM.out; omega) (Kd.C_below HG5.out HB2.out) HL5.out HYL.out).mono ?_); rw [← HY.out]; rintro e_ w7 ⟨rfl, hb⟩; have HB7 := Aside0.mk (below_step HB2.out hb); clear hb)
    go_roundg (l0.length - (j + 1).toNat)
    case measure => have := HE.out; omega
    case rel => exact ⟨j + 1, _, rfl, by rw [hwr], by omega, by omega, ⟨rfl⟩, ⟨by rw [lineB_app, HX.out, show (j + 1).toNat = j.toNat + 1 by omega, HT.out, dE_eq, HY.out]⟩, HB7⟩
  ·have hje : j.toNat = l0.length := by omega
   have hx2 := HX.out
   rw [hje, List.take_length] at hx2
   have hx3 : x = ⟨(dL d l0).toArray⟩ := by rw [← hx2]
   subst hx3
   clear hx2 HX
   go_wp2
   go_ret
   exact ⟨rfl, HB1.out⟩
theorem spec_l22Doc.calls (A0 : Option Addr) (c0 : Nat) (l0 : List S68) (a1 : Int) (r : ByteArray) (w : World) (hr0 : Kd.C k68 w A0 l0.length l0) (hc0 : l0.length ≤ c0) (h : spec_l22Doc.f l0 a1 = some r) :
  Calls Try.prog 59 #[.slice A0 l0.length c0, .int .i64 a1] w fun e w' => e = .returned (.string r) ∧ Below w.heap.size w w' := by
 unfold spec_l22Doc.f at h
 by_cases hs : 0 ≤ a1 ∧ (dL a1.toNat l0).length ≤ 140737488355328
 ·rw [if_pos hs] at h
  obtain rfl := Option.some.inj h
  exact l22Doc_calls _ l0 a1.toNat a1 (by omega) A0 c0 w (Nat.lt_succ_self _) hr0 hc0 hs.2
 ·rw [if_neg hs] at h; cases h

end Go.Proofs.Ytlocaaebgghkbaa.A

namespace Go.Proofs.Ytlocaaebgghkbaa.A
open Go.RowKit Go.Proofs.YtlocaaebgghkbaaW.PrintWords Go.Proofs.YtlocaaebgghkbaaW.PrintLast Go.Proofs.YtlocaaebgghkbaaW.PrintMore
attribute [local go_sem] max2_int min2_int max_two min_two max_three min_three max_four min_four   -- for this text's walks alone
set_option linter.unusedVariables false
set_option linter.unusedSimpArgs false

/-! ### spec_DocText: function 17 -/
def spec_DocText.f (l0 : List (S68)) : Option (ByteArray) := (spec_l22Doc.f l0 0).bind fun t245 => (some t245)
set_option maxHeartbeats 8000000 in
set_option maxRecDepth 100000 in
theorem spec_DocText.calls (A0 : Option Addr) (c0 : Nat) (l0 : List (S68)) (r : ByteArray) (w : World) (hr0 : Kd.C k68 w A0 l0.length l0) (hc0 : l0.length ≤ c0) (h : spec_DocText.f l0 = some r) :
  Calls Try.prog 17 #[.slice A0 l0.length c0] w fun e w' => e = .returned (.string r) ∧ Below w.heap.size w w' := by
 have HR0 := Aside0.mk hr0
 have HC0 := Aside0.mk hc0
 clear hr0 hc0
 have HB := Aside0.mk (Below.refl w.heap.size w)
 have H : ((spec_l22Doc.f l0 0).bind fun t245 => (some t245)) = some r := h
 clear h
 replace H := Option.bind_eq_some_iff.mp H
 obtain ⟨t245, A20, H⟩ := H
 replace H : (some t245) = some r := H
 have A2 := Aside0.mk A20
 clear A20
 obtain rfl := Option.some.inj H
 go_enter Try.func17, Try.ntmps17
 go_wp2_with (first | ((with_reducible refine gate_callee (f := 59) rfl ?_); refine goesL_ (some 4) rfl rfl Try.func59 (by kernel_rfl) rfl #[.slice A0 l0.length c0, .int .i64 0] rfl (by (try simp only [List.map_toArray, List.map_cons, List.map_nil]); first | done | rfl | (simp only [List.length_drop, List.length_take]; rfl)) ?_; (with_reducible refine (spec_l22Doc.calls _ _ l0 0 t245 _ ?side1 ?side2 A2.out).mono ?_); (case side1 => repeat (first | exact HR0.out | (with_reducible refine Kd.C_alloc ?_ _) | (with_reducible refine Kd.C_drewN ?_ _) | (with_reducible refine Kd.C_drew ?_))); (case side2 => exact HC0.out); rintro e w3 ⟨rfl, hb⟩; refine ⟨_, rfl, ?_⟩; have n0_ := Aside0.mk (below_step (by repeat (first | (with_reducible first | exact HB.out | apply below_alloc | apply pw_below_drewN | apply below_drew1) | exact HB.out)) hb); clear HB; have HB := n0_; clear n0_; (try clear hb); (try clear hb2); (try clear hk); (try clear hi)))
 go_ret
 exact ⟨by first | rfl | (simp [errW_none, errW_some] <;> rfl) | (simp [*, errW_none, errW_some] <;> rfl), by repeat (first | (with_reducible first | exact HB.out | apply below_alloc | apply pw_below_drewN | apply below_drew1) | exact HB.out)⟩

end Go.Proofs.Ytlocaaebgghkbaa.A

namespace Go.Proofs.Ytlocaaebgghkbaa.A
open Go.RowKit Go.Proofs.YtlocaaebgghkbaaW.PrintWords Go.Proofs.YtlocaaebgghkbaaW.PrintLast Go.Proofs.YtlocaaebgghkbaaW.PrintMore
attribute [local go_sem] max2_int min2_int max_two min_two max_three min_three max_four min_four   -- for this text's walks alone
set_option linter.unusedVariables false
set_option linter.unusedSimpArgs false

/-! ### laws_FnExactDocText: function 5 -/
def laws_FnExactDocText.f (k : Nat) (l0 : List (S66)) : Option (Bool) := (laws_szElS.f k l0 1048576).bind fun t251 => (if t251 < 0 then (some true) else ((laws_toElS.f k l0).bind fun t252 => ((spec_DocText.f t252).bind fun t255 => ((laws_toElS.f k l0).bind fun t256 => ((impl_DocText.f t256).bind fun t259 => (if t259.toList = t255.toList then ((laws_toElS.f k l0).bind fun t260 => ((laws_eqElS.f k t256 t260).bind fun t263 => (if t263 = true then (some true) else (some false)))) else (some false)))))))
theorem laws_FnExactDocText.mono : ∀ a0 k, LeO (laws_FnExactDocText.f k a0) (laws_FnExactDocText.f (k + 1) a0) := by
 intro a0 k
 unfold laws_FnExactDocText.f
 repeat' first
   | (with_reducible exact laws_eqElS.mono _ _ _)
   | (with_reducible exact laws_szElS.mono _ _ _)
   | (with_reducible exact laws_toElS.mono _ _)
   | (with_reducible exact LeO.refl _)
   | (with_reducible exact LeO.none _)
   | (with_reducible refine LeO.ite ?_ ?_)
   | (with_reducible refine LeO.bind ?_ (fun _ => ?_))
   | exact laws_eqElS.mono _ _ _
   | exact laws_szElS.mono _ _ _
   | exact laws_toElS.mono _ _
   | exact LeO.none _
   | refine LeO.ite ?_ ?_
   | refine LeO.bind ?_ (fun _ => ?_)
set_option maxHeartbeats 8000000 in
set_option maxRecDepth 100000 in
theorem laws_FnExactDocText.calls (k : Nat) (A0 : Option Addr) (c0 : Nat) (l0 : List (S66)) (r : Bool) (w : World) (hr0 : Kd.C k66 w A0 l0.length l0) (hc0 : l0.length ≤ c0) (h : laws_FnExactDocText.f k l0 = some r) :
  Calls Try.prog 5 #[.slice A0 l0.length c0] w fun e w' => e = .returned (.bool r) ∧ Below w.heap.size w w' := by
 have HR0 := Aside0.mk hr0
 have HC0 := Aside0.mk hc0
 clear hr0 hc0
 have HB := Aside0.mk (Below.refl w.heap.size w)
 have H : ((laws_szElS.f k l0 1048576).bind fun t251 => (if t251 < 0 then (some true) else ((laws_toElS.f k l0).bind fun t252 => ((spec_DocText.f t252).bind fun t255 => ((laws_toElS.f k l0).bind fun t256 => ((impl_DocText.f t256).bind fun t259 => (if t259.toList = t255.toList then ((laws_toElS.f k l0).bind fun t260 => ((laws_eqElS.f k t256 t260).bind fun t263 => (if t263 = true then (some true) else (some false)))) else (some false)))))))) = some r := h
 clear h
 replace H := Option.bind_eq_some_iff.mp H
 obtain ⟨t251, A20, H⟩ := H
 replace H : (if t251 < 0 then (some true) else ((laws_toElS.f k l0).bind fun t252 => ((spec_DocText.f t252).bind fun t255 => ((laws_toElS.f k l0).bind fun t256 => ((impl_DocText.f t256).bind fun t259 => (if t259.toList = t255.toList then ((laws_toElS.f k l0).bind fun t260 => ((laws_eqElS.f k t256 t260).bind fun t263 => (if t263 = true then (some true) else (some false)))) else (some false))))))) = some r := H
 have A2 := Aside0.mk A20
 clear A20
 by_cases c3 : t251 < 0
 ·rw [if_pos c3] at H
  have c3b0 : decide (t251 < 0) = true := decide_eq_true c3
  clear c3
  obtain rfl := Option.some.inj H
  go_enter Try.func5, Try.ntmps5
  go_wp2_with (first | ((with_reducible refine gate_callee (f := 12) rfl ?_); refine goesL_ (some 9) rfl rfl Try.func12 (by kernel_rfl) rfl #[.slice A0 l0.length c0, .int .i64 1048576] rfl (by (try simp only [List.map_toArray, List.map_cons, List.map_nil]); first | done | rfl | (simp only [List.length_drop, List.length_take]; rfl)) ?_; (with_reducible refine (laws_szElS.calls k _ _ l0 1048576 t251 _ ?side1 ?side2 A2.out).mono ?_); (case side1 => repeat (first | exact HR0.out | (with_reducible refine Kd.C_alloc ?_ _) | (with_reducible refine Kd.C_drewN ?_ _) | (with_reducible refine Kd.C_drew ?_))); (case side2 => exact HC0.out); rintro e w4 ⟨rfl, hb⟩; refine ⟨_, rfl, ?_⟩; have n0_ := Aside0.mk (below_step (by repeat (first | (with_reducible first | exact HB.out | apply below_alloc | apply pw_below_drewN | apply below_drew1) | exact HB.out)) hb); clear HB; have HB := n0_; clear n0_; (try clear hb); (try clear hb2); (try clear hk); (try clear hi)))
  go_ret
  exact ⟨by first | rfl | (simp [errW_none, errW_some] <;> rfl) | (simp [*, errW_none, errW_some] <;> rfl), by repeat (first | (with_reducible first | exact HB.out | apply below_alloc | apply pw_below_drewN | apply below_drew1) | exact HB.out)⟩
 ·rw [if_neg c3] at H
  have c3b0 : decide (t251 < 0) = false := decide_eq_false c3
  clear c3
  replace H := Option.bind_eq_some_iff.mp H
  obtain ⟨t252, A50, H⟩ := H
  replace H : ((spec_DocText.f t252).bind fun t255 => ((laws_toElS.f k l0).bind fun t256 => ((impl_DocText.f t256).bind fun t259 => (if t259.toList = t255.toList then ((laws_toElS.f k l0).bind fun t260 => ((laws_eqElS.f k t256 t260).bind fun t263 => (if t263 = true then (some true) else (some false)))) else (some false))))) = some r := H
  have A5 := Aside0.mk A50
  clear A50
  replace H := Option.bind_eq_some_iff.mp H
  obtain ⟨t255, A60, H⟩ := H
  replace H : ((laws_toElS.f k l0).bind fun t256 => ((impl_DocText.f t256).bind fun t259 => (if t259.toList = t255.toList then ((laws_toElS.f k l0).bind fun t260 => ((laws_eqElS.f k t256 t260).bind fun t263 => (if t263 = true then (some true) else (some false)))) else (some false)))) = some r := H
  have A6 := Aside0.mk A60
  clear A60
  replace H := Option.bind_eq_some_iff.mp H
  obtain ⟨t256, A70, H⟩ := H
  replace H : ((impl_DocText.f t256).bind fun t259 => (if t259.toList = t255.toList then ((laws_toElS.f k l0).bind fun t260 => ((laws_eqElS.f k t256 t260).bind fun t263 => (if t263 = true then (some true) else (some false)))) else (some false))) = some r := H
  have A7 := Aside0.mk A70
  clear A70
  replace H := Option.bind_eq_some_iff.mp H
  obtain ⟨t259, A80, H⟩ := H
  replace H : (if t259.toList = t255.toList then ((laws_toElS.f k l0).bind fun t260 => ((laws_eqElS.f k t256 t260).bind fun t263 => (if t263 = true then (some true) else (some false)))) else (some false)) = some r := H
  have A8 := Aside0.mk A80
  clear A80
  by_cases c9 : t259.toList = t255.toList
  ·rw [if_pos c9] at H
   have c9b0 : (t259.toList == t255.toList) = true := beq_iff_eq.mpr c9
   have c9b1 : (t259.toList != t255.toList) = false := bne_eq_false_iff_eq.mpr c9
   clear c9
   replace H := Option.bind_eq_some_iff.mp H
   obtain ⟨t260, A100, H⟩ := H
   replace H : ((laws_eqElS.f k t256 t260).bind fun t263 => (if t263 = true then (some true) else (some false))) = some r := H
   have A10 := Aside0.mk A100
   clear A100
   replace H := Option.bind_eq_some_iff.mp H
   obtain ⟨t263, A110, H⟩ := H
   replace H : (if t263 = true then (some true) else (some false)) = some r := H
   have A11 := Aside0.mk A110
   clear A110
   by_cases c12 : t263 = true
   ·subst c12
    have H1 : (some true) = some r := by rw [if_pos rfl] at H; exact H
    clear H
    have H := H1
    clear H1
    obtain rfl := Option.some.inj H
    go_enter Try.func5, Try.ntmps5
    go_wp2_with (first | ((with_reducible refine gate_callee (f := 12) rfl ?_); refine goesL_ (some 9) rfl rfl Try.func12 (by kernel_rfl) rfl #[.slice A0 l0.length c0, .int .i64 1048576] rfl (by (try simp only [List.map_toArray, List.map_cons, List.map_nil]); first | done | rfl | (simp only [List.length_drop, List.length_take]; rfl)) ?_; (with_reducible refine (laws_szElS.calls k _ _ l0 1048576 t251 _ ?side1 ?side2 A2.out).mono ?_); (case side1 => repeat (first | exact HR0.out | (with_reducible refine Kd.C_alloc ?_ _) | (with_reducible refine Kd.C_drewN ?_ _) | (with_reducible refine Kd.C_drew ?_))); (case side2 => exact HC0.out); rintro e w13 ⟨rfl, hb⟩; refine ⟨_, rfl, ?_⟩; have n0_ := Aside0.mk (below_step (by repeat (first | (with_reducible first | exact HB.out | apply below_alloc | apply pw_below_drewN | apply below_drew1) | exact HB.out)) hb); clear HB; have HB := n0_; clear n0_; (try clear hb); (try clear hb2); (try clear hk); (try clear hi)) | ((with_reducible refine gate_callee (f := 14) rfl ?_); refine goesL_ (some 13) rfl rfl Try.func14 (by kernel_rfl) rfl #[.slice A0 l0.length c0] rfl (by (try simp only [List.map_toArray, List.map_cons, List.map_nil]); first | done | rfl | (simp only [List.length_drop, List.length_take]; rfl)) ?_; (with_reducible refine (laws_toElS.calls k _ _ l0 t252 _ ?side1 ?side2 A5.out).mono ?_); (case side1 => repeat (first | exact (Kd.C_below HR0.out HB.out) | (with_reducible refine Kd.C_alloc ?_ _) | (with_reducible refine Kd.C_drewN ?_ _) | (with_reducible refine Kd.C_drew ?_))); (case side2 => exact HC0.out); rintro e w14 ⟨v253, rfl, ho0, hb⟩; refine ⟨_, rfl, ?_⟩; have n0_ := Aside0.mk (Kd.R_lower ho0 (below_size (by repeat (first | (with_reducible first | exact HB.out | apply below_alloc | apply pw_below_drewN | apply below_drew1) | exact HB.out)))); have n1_ := Aside0.mk (below_step (by repeat (first | (with_reducible first | exact HB.out | apply below_alloc | apply pw_below_drewN | apply below_drew1) | exact HB.out)) hb); clear HB; have HO254 := n0_; have HB := n1_; clear n0_ n1_; (try clear hb); (try clear hb2); (try clear hk); (try clear hi); (try clear ho0); obtain ⟨Ao15, co15, eo15⟩ := Kd.R_slice HO254.out; subst eo15) | ((with_reducible refine gate_callee (f := 17) rfl ?_); refine goesL_ (some 14) rfl rfl Try.func17 (by kernel_rfl) rfl #[.slice Ao15 t252.length co15] rfl (by (try simp only [List.map_toArray, List.map_cons, List.map_nil]); first | done | rfl | (simp only [List.length_drop, List.length_take]; rfl)) ?_; (with_reducible refine (spec_DocText.calls _ _ t252 t255 _ ?side1 ?side2 A6.out).mono ?_); (case side1 => repeat (first | exact (Kd.R_reads' HO254.out).2.2 | (with_reducible refine Kd.C_alloc ?_ _) | (with_reducible refine Kd.C_drewN ?_ _) | (with_reducible refine Kd.C_drew ?_))); (case side2 => exact (Kd.R_reads' HO254.out).2.1); rintro e w16 ⟨rfl, hb⟩; refine ⟨_, rfl, ?_⟩; have n0_ := Aside0.mk (Kd.R_below (by (with_reducible repeat (first | apply Kd.R_alloc | apply Kd.R_drewN | apply Kd.R_drew)); exact HO254.out) hb); have n1_ := Aside0.mk (below_step (by repeat (first | (with_reducible first | exact HB.out | apply below_alloc | apply pw_below_drewN | apply below_drew1) | exact HB.out)) hb); clear HO254; clear HB; have HO254 := n0_; have HB := n1_; clear n0_ n1_; (try clear hb); (try clear hb2); (try clear hk); (try clear hi)) | ((with_reducible refine gate_callee (f := 14) rfl ?_); refine goesL_ (some 16) rfl rfl Try.func14 (by kernel_rfl) rfl #[.slice A0 l0.length c0] rfl (by (try simp only [List.map_toArray, List.map_cons, List.map_nil]); first | done | rfl | (simp only [List.length_drop, List.length_take]; rfl)) ?_; (with_reducible refine (laws_toElS.calls k _ _ l0 t256 _ ?side1 ?side2 A7.out).mono ?_); (case side1 => repeat (first | exact (Kd.C_below HR0.out HB.out) | (with_reducible refine Kd.C_alloc ?_ _) | (with_reducible refine Kd.C_drewN ?_ _) | (with_reducible refine Kd.C_drew ?_))); (case side2 => exact HC0.out); rintro e w17 ⟨v257, rfl, ho0, hb⟩; refine ⟨_, rfl, ?_⟩; have n0_ := Aside0.mk (Kd.R_elder' (by (with_reducible repeat (first | apply Kd.R_alloc | apply Kd.R_drewN | apply Kd.R_drew)); exact HO254.out) (Kd.R_base ho0) hb); have n1_ := Aside0.mk (Kd.R_lower (Kd.R_new' ho0 (Kd.R_lt (by (with_reducible repeat (first | apply Kd.R_alloc | apply Kd.R_drewN | apply Kd.R_drew)); exact HO254.out))) (below_size (by repeat (first | (with_reducible first | exact HB.out | apply below_alloc | apply pw_below_drewN | apply below_drew1) | exact HB.out)))); have n2_ := Aside0.mk (below_step (by repeat (first | (with_reducible first | exact HB.out | apply below_alloc | apply pw_below_drewN | apply below_drew1) | exact HB.out)) hb); clear HO254; clear HB; have HO254 := n0_; have HO258 := n1_; have HB := n2_; clear n0_ n1_ n2_; (try clear hb); (try clear hb2); (try clear hk); (try clear hi); (try clear ho0); obtain ⟨Ao18, co18, eo18⟩ := Kd.R_slice HO258.out; subst eo18) | ((with_reducible refine gate_callee (f := 18) rfl ?_); refine goesL_ (some 18) rfl rfl Try.func18 (by kernel_rfl) rfl #[.slice Ao18 t256.length co18] rfl (by (try simp only [List.map_toArray, List.map_cons, List.map_nil]); first | done | rfl | (simp only [List.length_drop, List.length_take]; rfl)) ?_; (with_reducible refine (impl_DocText.calls _ _ t256 t259 _ ?side1 ?side2 A8.out).mono ?_); (case side1 => repeat (first | exact (Kd.R_reads' HO258.out).2.2 | (with_reducible refine Kd.C_alloc ?_ _) | (with_reducible refine Kd.C_drewN ?_ _) | (with_reducible refine Kd.C_drew ?_))); (case side2 => exact (Kd.R_reads' HO258.out).2.1); rintro e w19 ⟨rfl, hb⟩; refine ⟨_, rfl, ?_⟩; have n0_ := Aside0.mk (Kd.R_below (by (with_reducible repeat (first | apply Kd.R_alloc | apply Kd.R_drewN | apply Kd.R_drew)); exact HO254.out) hb); have n1_ := Aside0.mk (Kd.R_below (by (with_reducible repeat (first | apply Kd.R_alloc | apply Kd.R_drewN | apply Kd.R_drew)); exact HO258.out) hb); have n2_ := Aside0.mk (below_step (by repeat (first | (with_reducible first | exact HB.out | apply below_alloc | apply pw_below_drewN | apply below_drew1) | exact HB.out)) hb); clear HO254; clear HO258; clear HB; have HO254 := n0_; have HO258 := n1_; have HB := n2_; clear n0_ n1_ n2_; (try clear hb); (try clear hb2); (try clear hk); (try clear hi)) | ((with_reducible refine gate_callee (f := 14) rfl ?_); refine goesL_ (some 24) rfl rfl Try.func14 (by kernel_rfl) rfl #[.slice A0 l0.length c0] rfl (by (try simp only [List.map_toArray, List.map_cons, List.map_nil]); first | done | rfl | (simp only [List.length_drop, List.length_take]; rfl)) ?_; (with_reducible refine (laws_toElS.calls k _ _ l0 t260 _ ?side1 ?side2 A10.out).mono ?_); (case side1 => repeat (first | exact (Kd.C_below HR0.out HB.out) | (with_reducible refine Kd.C_alloc ?_ _) | (with_reducible refine Kd.C_drewN ?_ _) | (with_reducible refine Kd.C_drew ?_))); (case side2 => exact HC0.out); rintro e w20 ⟨v261, rfl, ho0, hb⟩; refine ⟨_, rfl, ?_⟩; have n0_ := Aside0.mk (Kd.R_elder' (by (with_reducible repeat (first | apply Kd.R_alloc | apply Kd.R_drewN | apply Kd.R_drew)); exact HO254.out) (Kd.R_base ho0) hb); have n1_ := Aside0.mk (Kd.R_elder' (by (with_reducible repeat (first | apply Kd.R_alloc | apply Kd.R_drewN | apply Kd.R_drew)); exact HO258.out) (Kd.R_base ho0) hb); have n2_ := Aside0.mk (Kd.R_lower (Kd.R_new' (Kd.R_new' ho0 (Kd.R_lt (by (with_reducible repeat (first | apply Kd.R_alloc | apply Kd.R_drewN | apply Kd.R_drew)); exact HO254.out))) (Kd.R_lt (by (with_reducible repeat (first | apply Kd.R_alloc | apply Kd.R_drewN | apply Kd.R_drew)); exact HO258.out))) (below_size (by repeat (first | (with_reducible first | exact HB.out | apply below_alloc | apply pw_below_drewN | apply below_drew1) | exact HB.out)))); have n3_ := Aside0.mk (below_step (by repeat (first | (with_reducible first | exact HB.out | apply below_alloc | apply pw_below_drewN | apply below_drew1) | exact HB.out)) hb); clear HO254; clear HO258; clear HB; have HO254 := n0_; have HO258 := n1_; have HO262 := n2_; have HB := n3_; clear n0_ n1_ n2_ n3_; (try clear hb); (try clear hb2); (try clear hk); (try clear hi); (try clear ho0); obtain ⟨Ao21, co21, eo21⟩ := Kd.R_slice HO262.out; subst eo21) | ((with_reducible refine gate_callee (f := 16) rfl ?_); refine goesL_ (some 25) rfl rfl Try.func16 (by kernel_rfl) rfl #[.slice Ao18 t256.length co18, .slice Ao21 t260.length co21] rfl (by (try simp only [List.map_toArray, List.map_cons, List.map_nil]); first | done | rfl | (simp only [List.length_drop, List.length_take]; rfl)) ?_; (with_reducible refine (laws_eqElS.calls k _ _ t256 _ _ t260 true _ ?side1 ?side2 ?side3 ?side4 A11.out).mono ?_); (case side1 => repeat (first | exact (Kd.R_reads' HO258.out).2.2 | (with_reducible refine Kd.C_alloc ?_ _) | (with_reducible refine Kd.C_drewN ?_ _) | (with_reducible refine Kd.C_drew ?_))); (case side2 => exact (Kd.R_reads' HO258.out).2.1); (case side3 => repeat (first | exact (Kd.R_reads' HO262.out).2.2 | (with_reducible refine Kd.C_alloc ?_ _) | (with_reducible refine Kd.C_drewN ?_ _) | (with_reducible refine Kd.C_drew ?_))); (case side4 => exact (Kd.R_reads' HO262.out).2.1); rintro e w22 ⟨rfl, hb⟩; refine ⟨_, rfl, ?_⟩; have n0_ := Aside0.mk (Kd.R_below (by (with_reducible repeat (first | apply Kd.R_alloc | apply Kd.R_drewN | apply Kd.R_drew)); exact HO254.out) hb); have n1_ := Aside0.mk (Kd.R_below (by (with_reducible repeat (first | apply Kd.R_alloc | apply Kd.R_drewN | apply Kd.R_drew)); exact HO258.out) hb); have n2_ := Aside0.mk (Kd.R_below (by (with_reducible repeat (first | apply Kd.R_alloc | apply Kd.R_drewN | apply Kd.R_drew)); exact HO262.out) hb); have n3_ := Aside0.mk (below_step (by repeat (first | (with_reducible first | exact HB.out | apply below_alloc | apply pw_below_drewN | apply below_drew1) | exact HB.out)) hb); clear HO254; clear HO258; clear HO262; clear HB; have HO254 := n0_; have HO258 := n1_; have HO262 := n2_; have HB := n3_; clear n0_ n1_ n2_ n3_; (try clear hb); (try clear hb2); (try clear hk); (try clear hi)))
    go_ret
    exact ⟨by first | rfl | (simp [errW_none, errW_some] <;> rfl) | (simp [*, errW_none, errW_some] <;> rfl), by repeat (first | (with_reducible first | exact HB.out | apply below_alloc | apply pw_below_drewN | apply below_drew1) | exact HB.out)⟩
   ·replace c12 := Bool.eq_false_iff.mpr c12
    subst c12
    have H1 : (some false) = some r := by rw [if_neg (show ¬ (false = true) by decide)] at H; exact H
    clear H
    have H := H1
    clear H1
    obtain rfl := Option.some.inj H
    go_enter Try.func5, Try.ntmps5
    go_wp2_with (first | ((with_reducible refine gate_callee (f := 12) rfl ?_); refine goesL_ (some 9) rfl rfl Try.func12 (by kernel_rfl) rfl #[.slice A0 l0.length c0, .int .i64 1048576] rfl (by (try simp only [List.map_toArray, List.map_cons, List.map_nil]); first | done | rfl | (simp only [List.length_drop, List.length_take]; rfl)) ?_; (with_reducible refine (laws_szElS.calls k _ _ l0 1048576 t251 _ ?side1 ?side2 A2.out).mono ?_); (case side1 => repeat (first | exact HR0.out | (with_reducible refine Kd.C_alloc ?_ _) | (with_reducible refine Kd.C_drewN ?_ _) | (with_reducible refine Kd.C_drew ?_))); (case side2 => exact HC0.out); rintro e w23 ⟨rfl, hb⟩; refine ⟨_, rfl, ?_⟩; have n0_ := Aside0.mk (below_step (by repeat (first | (with_reducible first | exact HB.out | apply below_alloc | apply pw_below_drewN | apply below_drew1) | exact HB.out)) hb); clear HB; have HB := n0_; clear n0_; (try clear hb); (try clear hb2); (try clear hk); (try clear hi)) | ((with_reducible refine gate_callee (f := 14) rfl ?_); refine goesL_ (some 13) rfl rfl Try.func14 (by kernel_rfl) rfl #[.slice A0 l0.length c0] rfl (by (try simp only [List.map_toArray, List.map_cons, List.map_nil]); first | done | rfl | (simp only [List.length_drop, List.length_take]; rfl)) ?_; (with_reducible refine (laws_toElS.calls k _ _ l0 t252 _ ?side1 ?side2 A5.out).mono ?_); (case side1 => repeat (first | exact (Kd.C_below HR0.out HB.out) | (with_reducible refine Kd.C_alloc ?_ _) | (with_reducible refine Kd.C_drewN ?_ _) | (with_reducible refine Kd.C_drew ?_))); (case side2 => exact HC0.out); rintro e w24 ⟨v253, rfl, ho0, hb⟩; refine ⟨_, rfl, ?_⟩; have n0_ := Aside0.mk (Kd.R_lower ho0 (below_size (by repeat (first | (with_reducible first | exact HB.out | apply below_alloc | apply pw_below_drewN | apply below_drew1) | exact HB.out)))); have n1_ := Aside0.mk (below_step (by repeat (first | (with_reducible first | exact HB.out | apply below_alloc | apply pw_below_drewN | apply below_drew1) | exact HB.out)) hb); clear HB; have HO254 := n0_; have HB := n1_; clear n0_ n1_; (try clear hb); (try clear hb2); (try clear hk); (try clear hi); (try clear ho0); obtain ⟨Ao25, co25, eo25⟩ := Kd.R_slice HO254.out; subst eo25) | ((with_reducible refine gate_callee (f := 17) rfl ?_); refine goesL_ (some 14) rfl rfl Try.func17 (by kernel_rfl) rfl #[.slice Ao25 t252.length co25] rfl (by (try simp only [List.map_toArray, List.map_cons, List.map_nil]); first | done | rfl | (simp only [List.length_drop, List.length_take]; rfl)) ?_; (with_reducible refine (spec_DocText.calls _ _ t252 t255 _ ?side1 ?side2 A6.out).mono ?_); (case side1 => repeat (first | exact (Kd.R_reads' HO254.out).2.2 | (with_reducible refine Kd.C_alloc ?_ _) | (with_reducible refine Kd.C_drewN ?_ _) | (with_reducible refine Kd.C_drew ?_))); (case side2 => exact (Kd.R_reads' HO254.out).2.1); rintro e w26 ⟨rfl, hb⟩; refine ⟨_, rfl, ?_⟩; have n0_ := Aside0.mk (Kd.R_below (by (with_reducible repeat (first | apply Kd.R_alloc | apply Kd.R_drewN | apply Kd.R_drew)); exact HO254.out) hb); have n1_ := Aside0.mk (below_step (by repeat (first | (with_reducible first | exact HB.out | apply below_alloc | apply pw_below_drewN | apply below_drew1) | exact HB.out)) hb); clear HO254; clear HB; have HO254 := n0_; have HB := n1_; clear n0_ n1_; (try clear hb); (try clear hb2); (try clear hk); (try clear hi)) | ((with_reducible refine gate_callee (f := 14) rfl ?_); refine goesL_ (some 16) rfl rfl Try.func14 (by kernel_rfl) rfl #[.slice A0 l0.length c0] rfl (by (try simp only [List.map_toArray, List.map_cons, List.map_nil]); first | done | rfl | (simp only [List.length_drop, List.length_take]; rfl)) ?_; (with_reducible refine (laws_toElS.calls k _ _ l0 t256 _ ?side1 ?side2 A7.out).mono ?_); (case side1 => repeat (first | exact (Kd.C_below HR0.out HB.out) | (with_reducible refine Kd.C_alloc ?_ _) | (with_reducible refine Kd.C_drewN ?_ _) | (with_reducible refine Kd.C_drew ?_))); (case side2 => exact HC0.out); rintro e w27 ⟨v257, rfl, ho0, hb⟩; refine ⟨_, rfl, ?_⟩; have n0_ := Aside0.mk (Kd.R_elder' (by (with_reducible repeat (first | apply Kd.R_alloc | apply Kd.R_drewN | apply Kd.R_drew)); exact HO254.out) (Kd.R_base ho0) hb); have n1_ := Aside0.mk (Kd.R_lower (Kd.R_new' ho0 (Kd.R_lt (by (with_reducible repeat (first | apply Kd.R_alloc | apply Kd.R_drewN | apply Kd.R_drew)); exact HO254.out))) (below_size (by repeat (first | (with_reducible first | exact HB.out | apply below_alloc | apply pw_below_drewN | apply below_drew1) | exact HB.out)))); have n2_ := Aside0.mk (below_step (by repeat (first | (with_reducible first | exact HB.out | apply below_alloc | apply pw_below_drewN | apply below_drew1) | exact HB.out)) hb); clear HO254; clear HB; have HO254 := n0_; have HO258 := n1_; have HB := n2_; clear n0_ n1_ n2_; (try clear hb); (try clear hb2); (try clear hk); (try clear hi); (try clear ho0); obtain ⟨Ao28, co28, eo28⟩ := Kd.R_slice HO258.out; subst eo28) | ((with_reducible refine gate_callee (f := 18) rfl ?_); refine goesL_ (some 18) rfl rfl Try.func18 (by kernel_rfl) rfl #[.slice Ao28 t256.length co28] rfl (by (try simp only [List.map_toArray, List.map_cons, List.map_nil]); first | done | rfl | (simp only [List.length_drop, List.length_take]; rfl)) ?_; (with_reducible refine (impl_DocText.calls _ _ t256 t259 _ ?side1 ?side2 A8.out).mono ?_); (case side1 => repeat (first | exact (Kd.R_reads' HO258.out).2.2 | (with_reducible refine Kd.C_alloc ?_ _) | (with_reducible refine Kd.C_drewN ?_ _) | (with_reducible refine Kd.C_drew ?_))); (case side2 => exact (Kd.R_reads' HO258.out).2.1); rintro e w29 ⟨rfl, hb⟩; refine ⟨_, rfl, ?_⟩; have n0_ := Aside0.mk (Kd.R_below (by (with_reducible repeat (first | apply Kd.R_alloc | apply Kd.R_drewN | apply Kd.R_drew)); exact HO254.out) hb); have n1_ := Aside0.mk (Kd.R_below (by (with_reducible repeat (first | apply Kd.R_alloc | apply Kd.R_drewN | apply Kd.R_drew)); exact HO258.out) hb); have n2_ := Aside0.mk (below_step (by repeat (first | (with_reducible first | exact HB.out | apply below_alloc | apply pw_below_drewN | apply below_drew1) | exact HB.out)) hb); clear HO254; clear HO258; clear HB; have HO254 := n0_; have HO258 := n1_; have HB := n2_; clear n0_ n1_ n2_; (try clear hb); (try clear hb2); (try clear hk); (try clear hi)) | ((with_reducible refine gate_callee (f := 14) rfl ?_); refine goesL_ (some 24) rfl rfl Try.func14 (by kernel_rfl) rfl #[.slice A0 l0.length c0] rfl (by (try simp only [List.map_toArray, List.map_cons, List.map_nil]); first | done | rfl | (simp only [List.length_drop, List.length_take]; rfl)) ?_; (with_reducible refine (laws_toElS.calls k _ _ l0 t260 _ ?side1 ?side2 A10.out).mono ?_); (case side1 => repeat (first | exact (Kd.C_below HR0.out HB.out) | (with_reducible refine Kd.C_alloc ?_ _) | (with_reducible refine Kd.C_drewN ?_ _) | (with_reducible refine Kd.C_drew ?_))); (case side2 => exact HC0.out); rintro e w30 ⟨v261, rfl, ho0, hb⟩; refine ⟨_, rfl, ?_⟩; have n0_ := Aside0.mk (Kd.R_elder' (by (with_reducible repeat (first | apply Kd.R_alloc | apply Kd.R_drewN | apply Kd.R_drew)); exact HO254.out) (Kd.R_base ho0) hb); have n1_ := Aside0.mk (Kd.R_elder' (by (with_reducible repeat (first | apply Kd.R_alloc | apply Kd.R_drewN | apply Kd.R_drew)); exact HO258.out) (Kd.R_base ho0) hb); have n2_ := Aside0.mk (Kd.R_lower (Kd.R_new' (Kd.R_new' ho0 (Kd.R_lt (by (with_reducible repeat (first | apply Kd.R_alloc | apply Kd.R_drewN | apply Kd.R_drew)); exact HO254.out))) (Kd.R_lt (by (with_reducible repeat (first | apply Kd.R_alloc | apply Kd.R_drewN | apply Kd.R_drew)); exact HO258.out))) (below_size (by repeat (first | (with_reducible first | exact HB.out | apply below_alloc | apply pw_below_drewN | apply below_drew1) | exact HB.out)))); have n3_ := Aside0.mk (below_step (by repeat (first | (with_reducible first | exact HB.out | apply below_alloc | apply pw_below_drewN | apply below_drew1) | exact HB.out)) hb); clear HO254; clear HO258; clear HB; have HO254 := n0_; have HO258 := n1_; have HO262 := n2_; have HB := n3_; clear n0_ n1_ n2_ n3_; (try clear hb); (try clear hb2); (try clear hk); (try clear hi); (try clear ho0); obtain ⟨Ao31, co31, eo31⟩ := Kd.R_slice HO262.out; subst eo31) | ((with_reducible refine gate_callee (f := 16) rfl ?_); refine goesL_ (some 25) rfl rfl Try.func16 (by kernel_rfl) rfl #[.slice Ao28 t256.length co28, .slice Ao31 t260.length co31] rfl (by (try simp only [List.map_toArray, List.map_cons, List.map_nil]); first | done | rfl | (simp only [List.length_drop, List.length_take]; rfl)) ?_; (with_reducible refine (laws_eqElS.calls k _ _ t256 _ _ t260 false _ ?side1 ?side2 ?side3 ?side4 A11.out).mono ?_); (case side1 => repeat (first | exact (Kd.R_reads' HO258.out).2.2 | (with_reducible refine Kd.C_alloc ?_ _) | (with_reducible refine Kd.C_drewN ?_ _) | (with_reducible refine Kd.C_drew ?_))); (case side2 => exact (Kd.R_reads' HO258.out).2.1); (case side3 => repeat (first | exact (Kd.R_reads' HO262.out).2.2 | (with_reducible refine Kd.C_alloc ?_ _) | (with_reducible refine Kd.C_drewN ?_ _) | (with_reducible refine Kd.C_drew ?_))); (case side4 => exact (Kd.R_reads' HO262.out).2.1); rintro e w32 ⟨rfl, hb⟩; refine ⟨_, rfl, ?_⟩; have n0_ := Aside0.mk (Kd.R_below (by (with_reducible repeat (first | apply Kd.R_alloc | apply Kd.R_drewN | apply Kd.R_drew)); exact HO254.out) hb); have n1_ := Aside0.mk (Kd.R_below (by (with_reducible repeat (first | apply Kd.R_alloc | apply Kd.R_drewN | apply Kd.R_drew)); exact HO258.out) hb); have n2_ := Aside0.mk (Kd.R_below (by (with_reducible repeat (first | apply Kd.R_alloc | apply Kd.R_drewN | apply Kd.R_drew)); exact HO262.out) hb); have n3_ := Aside0.mk (below_step (by repeat (first | (with_reducible first | exact HB.out | apply below_alloc | apply pw_below_drewN | apply below_drew1) | exact HB.out)) hb); clear HO254; clear HO258; clear HO262; clear HB; have HO254 := n0_; have HO258 := n1_; have HO262 := n2_; have HB := n3_; clear n0_ n1_ n2_ n3_; (try clear hb); (try clear hb2); (try clear hk); (try clear hi)))
    go_ret
    exact ⟨by first | rfl | (simp [errW_none, errW_some] <;> rfl) | (simp [*, errW_none, errW_some] <;> rfl), by repeat (first | (with_reducible first | exact HB.out | apply below_alloc | apply pw_below_drewN | apply below_drew1) | exact HB.out)⟩
  ·rw [if_neg c9] at H
   have c9b0 : (t259.toList == t255.toList) = false := beq_eq_false_iff_ne.mpr c9
   have c9b1 : (t259.toList != t255.toList) = true := bne_iff_ne.mpr c9
   obtain rfl := Option.some.inj H
   go_enter Try.func5, Try.ntmps5
   go_wp2_with (first | ((with_reducible refine gate_callee (f := 12) rfl ?_); refine goesL_ (some 9) rfl rfl Try.func12 (by kernel_rfl) rfl #[.slice A0 l0.length c0, .int .i64 1048576] rfl (by (try simp only [List.map_toArray, List.map_cons, List.map_nil]); first | done | rfl | (simp only [List.length_drop, List.length_take]; rfl)) ?_; (with_reducible refine (laws_szElS.calls k _ _ l0 1048576 t251 _ ?side1 ?side2 A2.out).mono ?_); (case side1 => repeat (first | exact HR0.out | (with_reducible refine Kd.C_alloc ?_ _) | (with_reducible refine Kd.C_drewN ?_ _) | (with_reducible refine Kd.C_drew ?_))); (case side2 => exact HC0.out); rintro e w33 ⟨rfl, hb⟩; refine ⟨_, rfl, ?_⟩; have n0_ := Aside0.mk (below_step (by repeat (first | (with_reducible first | exact HB.out | apply below_alloc | apply pw_below_drewN | apply below_drew1) | exact HB.out)) hb); clear HB; have HB := n0_; clear n0_; (try clear hb); (try clear hb2); (try clear hk); (try clear hi)) | ((with_reducible refine gate_callee (f := 14) rfl ?_); refine goesL_ (some 13) rfl rfl Try.func14 (by kernel_rfl) rfl #[.slice A0 l0.length c0] rfl (by (try simp only [List.map_toArray, List.map_cons, List.map_nil]); first | done | rfl | (simp only [List.length_drop, List.length_take]; rfl)) ?_; (with_reducible refine (laws_toElS.calls k _ _ l0 t252 _ ?side1 ?side2 A5.out).mono ?_); (case side1 => repeat (first | exact (Kd.C_below HR0.out HB.out) | (with_reducible refine Kd.C_alloc ?_ _) | (with_reducible refine Kd.C_drewN ?_ _) | (with_reducible refine Kd.C_drew ?_))); (case side2 => exact HC0.out); rintro e w34 ⟨v253, rfl, ho0, hb⟩; refine ⟨_, rfl, ?_⟩; have n0_ := Aside0.mk (Kd.R_lower ho0 (below_size (by repeat (first | (with_reducible first | exact HB.out | apply below_alloc | apply pw_below_drewN | apply below_drew1) | exact HB.out)))); have n1_ := Aside0.mk (below_step (by repeat (first | (with_reducible first | exact HB.out | apply below_alloc | apply pw_below_drewN | apply below_drew1) | exact HB.out)) hb); clear HB; have HO254 := n0_; have HB := n1_; clear n0_ n1_; (try clear hb); (try clear hb2); (try clear hk); (try clear hi); (try clear ho0); obtain ⟨Ao35, co35, eo35⟩ := Kd.R_slice HO254.out; subst eo35) | ((with_reducible refine gate_callee (f := 17) rfl ?_); refine goesL_ (some 14) rfl rfl Try.func17 (by kernel_rfl) rfl #[.slice Ao35 t252.length co35] rfl (by (try simp only [List.map_toArray, List.map_cons, List.map_nil]); first | done | rfl | (simp only [List.length_drop, List.length_take]; rfl)) ?_; (with_reducible refine (spec_DocText.calls _ _ t252 t255 _ ?side1 ?side2 A6.out).mono ?_); (case side1 => repeat (first | exact (Kd.R_reads' HO254.out).2.2 | (with_reducible refine Kd.C_alloc ?_ _) | (with_reducible refine Kd.C_drewN ?_ _) | (with_reducible refine Kd.C_drew ?_))); (case side2 => exact (Kd.R_reads' HO254.out).2.1); rintro e w36 ⟨rfl, hb⟩; refine ⟨_, rfl, ?_⟩; have n0_ := Aside0.mk (Kd.R_below (by (with_reducible repeat (first | apply Kd.R_alloc | apply Kd.R_drewN | apply Kd.R_drew)); exact HO254.out) hb); have n1_ := Aside0.mk (below_step (by repeat (first | (with_reducible first | exact HB.out | apply below_alloc | apply pw_below_drewN | apply below_drew1) | exact HB.out)) hb); clear HO254; clear HB; have HO254 := n0_; have HB := n1_; clear n0_ n1_; (try clear hb); (try clear hb2); (try clear hk); (try clear hi)) | ((with_reducible refine gate_callee (f := 14) rfl ?_); refine goesL_ (some 16) rfl rfl Try.func14 (by kernel_rfl) rfl #[.slice A0 l0.length c0] rfl (by (try simp only [List.map_toArray, List.map_cons, List.map_nil]); first | done | rfl | (simp only [List.length_drop, List.length_take]; rfl)) ?_; (with_reducible refine (laws_toElS.calls k _ _ l0 t256 _ ?side1 ?side2 A7.out).mono ?_); (case side1 => repeat (first | exact (Kd.C_below HR0.out HB.out) | (with_reducible refine Kd.C_alloc ?_ _) | (with_reducible refine Kd.C_drewN ?_ _) | (with_reducible refine Kd.C_drew ?_))); (case side2 => exact HC0.out); rintro e w37 ⟨v257, rfl, ho0, hb⟩; refine ⟨_, rfl, ?_⟩; have n0_ := Aside0.mk (Kd.R_elder' (by (with_reducible repeat (first | apply Kd.R_alloc | apply Kd.R_drewN | apply Kd.R_drew)); exact HO254.out) (Kd.R_base ho0) hb); have n1_ := Aside0.mk (Kd.R_lower (Kd.R_new' ho0 (Kd.R_lt (by (with_reducible repeat (first | apply Kd.R_alloc | apply Kd.R_drewN | apply Kd.R_drew)); exact HO254.out))) (below_size (by repeat (first | (with_reducible first | exact HB.out | apply below_alloc | apply pw_below_drewN | apply below_drew1) | exact HB.out)))); have n2_ := Aside0.mk (below_step (by repeat (first | (with_reducible first | exact HB.out | apply below_alloc | apply pw_below_drewN | apply below_drew1) | exact HB.out)) hb); clear HO254; clear HB; have HO254 := n0_; have HO258 := n1_; have HB := n2_; clear n0_ n1_ n2_; (try clear hb); (try clear hb2); (try clear hk); (try clear hi); (try clear ho0); obtain ⟨Ao38, co38, eo38⟩ := Kd.R_slice HO258.out; subst eo38) | ((with_reducible refine gate_callee (f := 18) rfl ?_); refine goesL_ (some 18) rfl rfl Try.func18 (by kernel_rfl) rfl #[.slice Ao38 t256.length co38] rfl (by (try simp only [List.map_toArray, List.map_cons, List.map_nil]); first | done | rfl | (simp only [List.length_drop, List.length_take]; rfl)) ?_; (with_reducible refine (impl_DocText.calls _ _ t256 t259 _ ?side1 ?side2 A8.out).mono ?_); (case side1 => repeat (first | exact (Kd.R_reads' HO258.out).2.2 | (with_reducible refine Kd.C_alloc ?_ _) | (with_reducible refine Kd.C_drewN ?_ _) | (with_reducible refine Kd.C_drew ?_))); (case side2 => exact (Kd.R_reads' HO258.out).2.1); rintro e w39 ⟨rfl, hb⟩; refine ⟨_, rfl, ?_⟩; have n0_ := Aside0.mk (Kd.R_below (by (with_reducible repeat (first | apply Kd.R_alloc | apply Kd.R_drewN | apply Kd.R_drew)); exact HO254.out) hb); have n1_ := Aside0.mk (Kd.R_below (by (with_reducible repeat (first | apply Kd.R_alloc | apply Kd.R_drewN | apply Kd.R_drew)); exact HO258.out) hb); have n2_ := Aside0.mk (below_step (by repeat (first | (with_reducible first | exact HB.out | apply below_alloc | apply pw_below_drewN | apply below_drew1) | exact HB.out)) hb); clear HO254; clear HO258; clear HB; have HO254 := n0_; have HO258 := n1_; have HB := n2_; clear n0_ n1_ n2_; (try clear hb); (try clear hb2); (try clear hk); (try clear hi)))
   go_ret
   exact ⟨by first | rfl | (simp [errW_none, errW_some] <;> rfl) | (simp [*, errW_none, errW_some] <;> rfl), by repeat (first | (with_reducible first | exact HB.out | apply below_alloc | apply pw_below_drewN | apply below_drew1) | exact HB.out)⟩

end Go.Proofs.Ytlocaaebgghkbaa.A
