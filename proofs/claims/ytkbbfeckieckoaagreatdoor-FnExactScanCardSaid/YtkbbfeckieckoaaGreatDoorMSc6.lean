-- joined by wip/tools/shake.py
import Derived.Test.YtkbbfeckieckoaaGreatDoorVScW9
import Derived.Test.YtkbbfeckieckoaaGreatDoorMSc0
set_option maxHeartbeats 16000000
set_option maxRecDepth 100000
namespace Go.Proofs.YtkbbfeckieckoaaGreatDoor.A
open Go.RowKit Go.Proofs.YtkbbfeckieckoaaGreatDoorW.PrintWords Go.Proofs.YtkbbfeckieckoaaGreatDoorW.PrintLast Go.Proofs.YtkbbfeckieckoaaGreatDoorW.PrintMore
attribute [local go_sem] max2_int min2_int max_two min_two max_three min_three max_four min_four
set_option linter.unusedVariables false
set_option linter.unusedSimpArgs false
def impl_IsBlank.f (a0 : Int) : Option (Bool) := if a0 = 9 then (some true) else (if a0 = 10 then (some true) else (if a0 = 12 then (some true) else (if a0 = 13 then (some true) else (some (a0 == 32)))))
theorem impl_IsBlank.calls (a0 : Int) (r : Bool) (w : World) (h : impl_IsBlank.f a0 = some r) :
  Calls Tryz.prog 154 #[.int .i64 a0] w fun e w' => e = .returned (.bool r) ∧ Drawn0 w w' := by
 have H : (if a0 = 9 then (some true) else (if a0 = 10 then (some true) else (if a0 = 12 then (some true) else (if a0 = 13 then (some true) else (some (a0 == 32)))))) = some r := h;clear h;rcases ic_ H with ⟨c2, H⟩ | ⟨c2, H⟩
 ·obtain ⟨c2b0, c2b1⟩ := be_ c2;clear c2;obtain rfl := sI_ H;go_enter Tryz.func154, Tryz.ntmps154
  go_wp2
  go_ret
  exact ⟨e2_, d0_⟩
 ·obtain ⟨c2b0, c2b1⟩ := bn_ c2;rcases ic_ H with ⟨c3, H⟩ | ⟨c3, H⟩
  ·obtain ⟨c3b0, c3b1⟩ := be_ c3;clear c3;obtain rfl := sI_ H;go_enter Tryz.func154, Tryz.ntmps154
   go_wp2
   go_ret
   exact ⟨e2_, d0_⟩
  ·obtain ⟨c3b0, c3b1⟩ := bn_ c3;rcases ic_ H with ⟨c4, H⟩ | ⟨c4, H⟩
   ·obtain ⟨c4b0, c4b1⟩ := be_ c4;clear c4;obtain rfl := sI_ H;go_enter Tryz.func154, Tryz.ntmps154
    go_wp2
    go_ret
    exact ⟨e2_, d0_⟩
   ·obtain ⟨c4b0, c4b1⟩ := bn_ c4;rcases ic_ H with ⟨c5, H⟩ | ⟨c5, H⟩
    ·obtain ⟨c5b0, c5b1⟩ := be_ c5;clear c5;obtain rfl := sI_ H;go_enter Tryz.func154, Tryz.ntmps154
     go_wp2
     go_ret
     exact ⟨e2_, d0_⟩
    ·obtain ⟨c5b0, c5b1⟩ := bn_ c5;obtain rfl := sI_ H;go_enter Tryz.func154, Tryz.ntmps154
     go_wp2
     go_ret
     exact ⟨e2_, d0_⟩
def impl_isBlankByte.f (a0 : Int) : Option (Bool) := (impl_IsBlank.f (wrap64 (a0))).bind fun t303 => (some t303)
theorem impl_isBlankByte.calls (a0 : Int) (r : Bool) (w : World) (h : impl_isBlankByte.f a0 = some r) :
  Calls Tryz.prog 122 #[.int .u8 a0] w fun e w' => e = .returned (.bool r) ∧ Drawn0 w w' := by
 have H : ((impl_IsBlank.f (wrap64 (a0))).bind fun t303 => (some t303)) = some r := h;clear h;obtain ⟨t303, A2, H⟩ := ob_ H;obtain rfl := sI_ H;go_enter Tryz.func122, Tryz.ntmps122
 go_wp2_with (first | ((with_reducible refine gC_ 154 ?_); refine gL_ 5 Tryz.func154 #[.int .i64 (wrap64 (a0))] ?_; refine dm_ (impl_IsBlank.calls (wrap64 (a0)) t303 _ A2.out) fun nd => ?_))
 go_ret
 exact ⟨e2_, d0_⟩
def impl_nameEnd.l0 : Nat → ByteArray → Int → Option (Int)
 | 0, _, _ => none
 | k + 1, x0, x1 => if x1 < (x0.size : Int) then (if 0 ≤ x1 then ((impl_isBlankByte.f (bt x0 x1)).bind fun t304 => (if t304 = true then (some x1) else (if (bt x0 x1) = 47 then (some x1) else (if (bt x0 x1) = 62 then (some x1) else (impl_nameEnd.l0 k x0 (wrap64 (x1 + 1))))))) else (none)) else (some x1)
def impl_nameEnd.f (k : Nat) (a0 : BA) (a1 : Int) : Option (Int) := impl_nameEnd.l0 k a0 a1
theorem impl_nameEnd.mono_l : ∀ k, (∀ y0 y1, LeO (impl_nameEnd.l0 k y0 y1) (impl_nameEnd.l0 (k + 1) y0 y1))
 | 0 => fun _ _ r h => by simp [impl_nameEnd.l0] at h
 | k + 1 => by
  have ih0 := impl_nameEnd.mono_l k
  ·intro y0 y1;unfold impl_nameEnd.l0;with_reducible repeat' first | exact ih0 _ _ | apply LeO.refl | apply LeO.none | apply LeO.ite | apply LeO.bind | intro
theorem impl_nameEnd.mono : ∀ a0 a1 k, LeO (impl_nameEnd.f k a0 a1) (impl_nameEnd.f (k + 1) a0 a1) := by
 intro a0 a1 k;have ih0 := impl_nameEnd.mono_l k;unfold impl_nameEnd.f;with_reducible repeat' first | exact ih0 _ _ | apply LeO.refl | apply LeO.none | apply LeO.ite | apply LeO.bind | intro
theorem impl_nameEnd.calls (k : Nat) (a0 : BA) (a1 : Int) (r : Int) (w : World) (h : impl_nameEnd.f k a0 a1 = some r) :
  Calls Tryz.prog 110 #[.string a0, .int .i64 a1] w fun e w' => e = .returned (.int .i64 r) ∧ Drawn0 w w' := by
 have H : (impl_nameEnd.l0 k a0 a1) = some r := h;clear h;have H' := A_ H;clear H;go_enter Tryz.func110, Tryz.ntmps110
 go_wp2
 go_loopg [1] k (fun kq v1 w' => ∃ (x1_1 : Int), v1 = .int .i64 x1_1 ∧ As9 (impl_nameEnd.l0 kq a0 x1_1 = some r) ∧ As9 (kq ≤ k) ∧ Drawn0 w w')
 case atStart => exact ⟨(a1), e2_, H', ⟨Nat.le_refl _⟩, d0_⟩
 case round =>
  clear H';try clear c1
  try clear p2
  obtain ⟨x1_1, rfl, HA, HK1, ⟨m1, rfl⟩⟩ := hrel;cases gk with
  | zero => exact absurd HA.out (by simp [impl_nameEnd.l0])
  | succ k1 =>
   have H := HA.out;clear HA;simp only [impl_nameEnd.l0] at H;rcases ic_ H with ⟨c3, H⟩ | ⟨c3, H⟩
   ·have c3b0 := dE_ c3;clear c3;obtain ⟨c4, H⟩ := ifn_ H;have c4b0 := dE_ c4;clear c4;obtain ⟨t304, A6, H⟩ := ob_ H;(try dsimp only at H)
    by_cases c7 : t304 = true
    ·subst c7;rw [if_pos rfl] at H;obtain rfl := sI_ H;have p5 : 0 ≤ (x1_1 : Int) := dT_;have q5 : x1_1 < (a0.size : Int) := dT_;have hx5 := bt_at a0 x1_1;replace p5 := eq_true p5;replace q5 := eq_true q5;go_wp2_with (first | (go_at_call 122; (with_reducible refine (impl_isBlankByte.calls (bt a0 x1_1) true _ A6.out).mono ?_); rintro e w' ⟨rfl, ⟨nd, rfl⟩⟩))
     go_ret
     exact ⟨e2_, d0_⟩
    ·replace c7 := bF_ c7;subst c7;rw [if_neg nF_] at H;rcases ic_ H with ⟨c9, H⟩ | ⟨c9, H⟩
     ·obtain ⟨c9b0, c9b1⟩ := be_ c9;clear c9;obtain rfl := sI_ H;have p5 : 0 ≤ (x1_1 : Int) := dT_;have q5 : x1_1 < (a0.size : Int) := dT_;have hx5 := bt_at a0 x1_1;replace p5 := eq_true p5;replace q5 := eq_true q5;go_wp2_with (first | (go_at_call 122; (with_reducible refine (impl_isBlankByte.calls (bt a0 x1_1) false _ A6.out).mono ?_); rintro e w' ⟨rfl, ⟨nd, rfl⟩⟩; have p8 : 0 ≤ (x1_1 : Int) := dT_; have q8 : x1_1 < (a0.size : Int) := dT_; have hx8 := bt_at a0 x1_1; replace p8 := eq_true p8; replace q8 := eq_true q8))
      go_ret
      exact ⟨e2_, d0_⟩
     ·obtain ⟨c9b0, c9b1⟩ := bn_ c9;rcases ic_ H with ⟨c11, H⟩ | ⟨c11, H⟩
      ·obtain ⟨c11b0, c11b1⟩ := be_ c11;clear c11;obtain rfl := sI_ H;have p5 : 0 ≤ (x1_1 : Int) := dT_;have q5 : x1_1 < (a0.size : Int) := dT_;have hx5 := bt_at a0 x1_1;replace p5 := eq_true p5;replace q5 := eq_true q5;go_wp2_with (first | (go_at_call 122; (with_reducible refine (impl_isBlankByte.calls (bt a0 x1_1) false _ A6.out).mono ?_); rintro e w' ⟨rfl, ⟨nd, rfl⟩⟩; have p8 : 0 ≤ (x1_1 : Int) := dT_; have q8 : x1_1 < (a0.size : Int) := dT_; have hx8 := bt_at a0 x1_1; replace p8 := eq_true p8; replace q8 := eq_true q8; have p10 : 0 ≤ (x1_1 : Int) := dT_; have q10 : x1_1 < (a0.size : Int) := dT_; have hx10 := bt_at a0 x1_1; replace p10 := eq_true p10; replace q10 := eq_true q10))
       go_ret
       exact ⟨e2_, d0_⟩
      ·obtain ⟨c11b0, c11b1⟩ := bn_ c11;have H' := A_ H;clear H;have p5 : 0 ≤ (x1_1 : Int) := dT_;have q5 : x1_1 < (a0.size : Int) := dT_;have hx5 := bt_at a0 x1_1;replace p5 := eq_true p5;replace q5 := eq_true q5;go_wp2_with (first | (go_at_call 122; (with_reducible refine (impl_isBlankByte.calls (bt a0 x1_1) false _ A6.out).mono ?_); rintro e w' ⟨rfl, ⟨nd, rfl⟩⟩; have p8 : 0 ≤ (x1_1 : Int) := dT_; have q8 : x1_1 < (a0.size : Int) := dT_; have hx8 := bt_at a0 x1_1; replace p8 := eq_true p8; replace q8 := eq_true q8; have p10 : 0 ≤ (x1_1 : Int) := dT_; have q10 : x1_1 < (a0.size : Int) := dT_; have hx10 := bt_at a0 x1_1; replace p10 := eq_true p10; replace q10 := eq_true q10))
       go_roundg k1
       case measure => have := HK1.out; omega
       case rel => exact ⟨(wrap64 (x1_1 + 1)), e2_, H', ⟨by have := HK1.out; omega⟩, d0_⟩
   ·have c3b0 := dF_ c3;clear c3;obtain rfl := sI_ H;go_wp2
    go_ret
    exact ⟨e2_, d0_⟩
def IsS127 (w0 W : World) (g : Nat) (f0 : BA) (f1 : Int) (f2 : Bool) (f3 : Bool) : Prop := W.heap[g]? = some (.cells #[.string f0, .int .i64 f1, .bool f2, .bool f3] 127 (0, 0)) ∧ w0.heap.size ≤ g
theorem IsS127.grown {w0 W : World} {g : Nat} {f0 : BA} {f1 : Int} {f2 : Bool} {f3 : Bool} {W1 : World} {row : Option Nat} (h : IsS127 w0 W g f0 f1 f2 f3) (hw : W.grownBy W1 row) (hne : some g ≠ row) : IsS127 w0 W1 g f0 f1 f2 f3 := by
 obtain ⟨hb, hg⟩ := h;exact ⟨blk_grown hb hw hne, hg⟩
theorem IsS127.fresh {w0 W : World} {g : Nat} {f0 : BA} {f1 : Int} {f2 : Bool} {f3 : Bool} (h : IsS127 w0 W g f0 f1 f2 f3) : ∀ k, W.heap.size ≤ k → k ≠ g := by
 obtain ⟨hb, hg⟩ := h;exact Kd.freshB hb
theorem IsS127.kept {w0 W : World} {g : Nat} {f0 : BA} {f1 : Int} {f2 : Bool} {f3 : Bool} {W1 : World} {S : Nat → Prop} (h : IsS127 w0 W g f0 f1 f2 f3) (hk : Kept W W1 S) (hne : ¬ S g) : IsS127 w0 W1 g f0 f1 f2 f3 := by
 obtain ⟨hb, hg⟩ := h;exact ⟨blk_kept hb hk hne, hg⟩
theorem IsS127.below {w0 W : World} {g : Nat} {f0 : BA} {f1 : Int} {f2 : Bool} {f3 : Bool} {W1 : World} (h : IsS127 w0 W g f0 f1 f2 f3) (hw : Below W.heap.size W W1) : IsS127 w0 W1 g f0 f1 f2 f3 := h.grown (grown_of_below hw none) si_
theorem IsS127.alloc {w0 W : World} {g : Nat} {f0 : BA} {f1 : Int} {f2 : Bool} {f3 : Bool} (h : IsS127 w0 W g f0 f1 f2 f3) (o : Obj) : IsS127 w0 (W.alloc o) g f0 f1 f2 f3 := h.below (bA9 (Below.refl _ _) o)
theorem IsS127.drewN {w0 W : World} {g : Nat} {f0 : BA} {f1 : Int} {f2 : Bool} {f3 : Bool} (h : IsS127 w0 W g f0 f1 f2 f3) (m : Nat) : IsS127 w0 (W.drewN m) g f0 f1 f2 f3 := h
theorem IsS127.drew {w0 W : World} {g : Nat} {f0 : BA} {f1 : Int} {f2 : Bool} {f3 : Bool} (h : IsS127 w0 W g f0 f1 f2 f3) : IsS127 w0 W.drew g f0 f1 f2 f3 := h
theorem IsS127.at_ {w0 W : World} {g : Nat} {f0 : BA} {f1 : Int} {f2 : Bool} {f3 : Bool} {w' : World} {m : Nat} (hq : W.drewN m = w') (h : IsS127 w0 W g f0 f1 f2 f3) : IsS127 w0 w' g f0 f1 f2 f3 := by subst hq; exact IsS127.drewN h m
theorem IsS127.apart {w0 W : World} {g : Nat} {f0 : BA} {f1 : Int} {f2 : Bool} {f3 : Bool} {α : Type} {d : Kd α} {e : Nat} {base : Nat} {ok : Nat → Prop} {v : Value} {xs : List α} (h : IsS127 w0 W g f0 f1 f2 f3) (ho : d.R e W base ok v xs) (ht : ∀ q, q ∈ e :: d.E → q ≠ 127) : d.R e W base (fun k => ok k ∧ k ≠ g) v xs := by
 obtain ⟨hb, hg⟩ := h;exact Kd.R_types ho hb ht
theorem IsS127.lt {w0 W : World} {g : Nat} {f0 : BA} {f1 : Int} {f2 : Bool} {f3 : Bool} (h : IsS127 w0 W g f0 f1 f2 f3) : g < W.heap.size := by
 obtain ⟨hb, hg⟩ := h;exact blk_lt hb
theorem IsS127.ge {w0 W : World} {g : Nat} {f0 : BA} {f1 : Int} {f2 : Bool} {f3 : Bool} (h : IsS127 w0 W g f0 f1 f2 f3) : w0.heap.size ≤ g := by
 obtain ⟨hb, hg⟩ := h;exact hg
theorem cellS127_0 {W : World} {g : Nat} {f0 : BA} {f1 : Int} {f2 : Bool} {f3 : Bool} (h : W.heap[g]? = some (.cells #[.string f0, .int .i64 f1, .bool f2, .bool f3] 127 (0, 0))) : W.cell? ⟨g, 0, none⟩ = some (.string f0) := (blk_cell h 0).trans rfl
theorem IsS127.set_0 {w0 W : World} {g : Nat} {f0 : BA} {f1 : Int} {f2 : Bool} {f3 : Bool} (h : IsS127 w0 W g f0 f1 f2 f3) (x : BA) : IsS127 w0 (W.setCell ⟨g, 0, none⟩ (.string x)) g x f1 f2 f3 := by
 obtain ⟨hb, hg⟩ := h;exact ⟨by simpa using blk_set hb 0 (.string x), hg⟩
theorem cellS127_1 {W : World} {g : Nat} {f0 : BA} {f1 : Int} {f2 : Bool} {f3 : Bool} (h : W.heap[g]? = some (.cells #[.string f0, .int .i64 f1, .bool f2, .bool f3] 127 (0, 0))) : W.cell? ⟨g, 1, none⟩ = some (.int .i64 f1) := (blk_cell h 1).trans rfl
theorem IsS127.set_1 {w0 W : World} {g : Nat} {f0 : BA} {f1 : Int} {f2 : Bool} {f3 : Bool} (h : IsS127 w0 W g f0 f1 f2 f3) (x : Int) : IsS127 w0 (W.setCell ⟨g, 1, none⟩ (.int .i64 x)) g f0 x f2 f3 := by
 obtain ⟨hb, hg⟩ := h;exact ⟨by simpa using blk_set hb 1 (.int .i64 x), hg⟩
theorem cellS127_2 {W : World} {g : Nat} {f0 : BA} {f1 : Int} {f2 : Bool} {f3 : Bool} (h : W.heap[g]? = some (.cells #[.string f0, .int .i64 f1, .bool f2, .bool f3] 127 (0, 0))) : W.cell? ⟨g, 2, none⟩ = some (.bool f2) := (blk_cell h 2).trans rfl
theorem IsS127.set_2 {w0 W : World} {g : Nat} {f0 : BA} {f1 : Int} {f2 : Bool} {f3 : Bool} (h : IsS127 w0 W g f0 f1 f2 f3) (x : Bool) : IsS127 w0 (W.setCell ⟨g, 2, none⟩ (.bool x)) g f0 f1 x f3 := by
 obtain ⟨hb, hg⟩ := h;exact ⟨by simpa using blk_set hb 2 (.bool x), hg⟩
theorem cellS127_3 {W : World} {g : Nat} {f0 : BA} {f1 : Int} {f2 : Bool} {f3 : Bool} (h : W.heap[g]? = some (.cells #[.string f0, .int .i64 f1, .bool f2, .bool f3] 127 (0, 0))) : W.cell? ⟨g, 3, none⟩ = some (.bool f3) := (blk_cell h 3).trans rfl
theorem IsS127.set_3 {w0 W : World} {g : Nat} {f0 : BA} {f1 : Int} {f2 : Bool} {f3 : Bool} (h : IsS127 w0 W g f0 f1 f2 f3) (x : Bool) : IsS127 w0 (W.setCell ⟨g, 3, none⟩ (.bool x)) g f0 f1 f2 x := by
 obtain ⟨hb, hg⟩ := h;exact ⟨by simpa using blk_set hb 3 (.bool x), hg⟩
theorem IsS127.new (w0 W : World) (f0 : BA) (f1 : Int) (f2 : Bool) (f3 : Bool) (hB : Below w0.heap.size w0 W) : IsS127 w0 (W.alloc (.cells #[.string f0, .int .i64 f1, .bool f2, .bool f3] 127)) W.heap.size f0 f1 f2 f3 := ⟨by simpa using heap_alloc_new W _, hB.size⟩
def impl_tagger_isOver.f (s0_0 : BA) (s0_1 : Int) (s0_2 : Bool) (s0_3 : Bool) : Option (Bool × ByteArray × Int × Bool × Bool) := if s0_1 ≥ (s0_0.size : Int) then (some (true, s0_0, s0_1, s0_2, s0_3)) else (if s0_2 = true then (if 0 ≤ s0_1 then (if s0_1 < (s0_0.size : Int) then (some (((bt s0_0 s0_1) == 62), s0_0, s0_1, s0_2, s0_3)) else (none)) else (none)) else (some (false, s0_0, s0_1, s0_2, s0_3)))
theorem impl_tagger_isOver.calls (g : Nat) (s0_0 : BA) (s0_1 : Int) (s0_2 : Bool) (s0_3 : Bool) (r1 : Bool) (r2 : BA) (r3 : Int) (r4 : Bool) (r5 : Bool) (w0 w : World) (hI : IsS127 w0 w g s0_0 s0_1 s0_2 s0_3) (hB : Below w0.heap.size w0 w) (h : impl_tagger_isOver.f s0_0 s0_1 s0_2 s0_3 = some (r1, r2, r3, r4, r5)) :
  Calls Tryz.prog 148 #[.pointer (some ⟨g, 0, none⟩)] w fun e w' => e = .returned (.bool r1) ∧ IsS127 w0 w' g r2 r3 r4 r5 ∧ Below w0.heap.size w0 w' ∧ KeepBut w w' g none := by
 have HI0 := A_ hI;have HK := A_ (KeepBut.refl w g none);have HL := A_ hB.size;clear hI;have HW0 := A_ hB.size;have HB := A_ hB;clear hB;have H : (if s0_1 ≥ (s0_0.size : Int) then (some (true, s0_0, s0_1, s0_2, s0_3)) else (if s0_2 = true then (if 0 ≤ s0_1 then (if s0_1 < (s0_0.size : Int) then (some (((bt s0_0 s0_1) == 62), s0_0, s0_1, s0_2, s0_3)) else (none)) else (none)) else (some (false, s0_0, s0_1, s0_2, s0_3)))) = some (r1, r2, r3, r4, r5) := h;clear h;rcases ic_ H with ⟨c2, H⟩ | ⟨c2, H⟩
 ·have c2b0 : decide ((s0_0.size : Int) ≤ s0_1) = true := dE_ c2;clear c2;simp only [Option.some.injEq, Prod.mk.injEq] at H;obtain ⟨rfl, rfl, rfl, rfl, rfl⟩ := H;obtain ⟨HGz3, hgz3⟩ := HI0.out;have hcz3_0 := cellS127_0 HGz3;have hcz3_1 := cellS127_1 HGz3;have hcz3_2 := cellS127_2 HGz3;have hcz3_3 := cellS127_3 HGz3;have hfz3_0 := blk_frozen HGz3 0;have hfz3_1 := blk_frozen HGz3 1;have hfz3_2 := blk_frozen HGz3 2;have hfz3_3 := blk_frozen HGz3 3;clear HGz3 hgz3;go_enter Tryz.func148, Tryz.ntmps148
  go_wp2
  repeat (go_quiet (fail); try go_wp2)
  go_ret
  exact ⟨e1_, by repeat (first | (with_reducible first | exact HI0.out | apply IsS127.alloc | apply IsS127.drewN | apply IsS127.drew | apply IsS127.set_0 | apply IsS127.set_1 | apply IsS127.set_2 | apply IsS127.set_3) | exact HI0.out), by repeat (first | (with_reducible first | exact HB.out | apply bA9 | apply bN9 | apply bD9 | refine below_set ?_ (IsS127.ge HI0.out)) | exact HB.out), by repeat (first | (with_reducible first | exact HK.out | apply KeepBut.set_ | apply keep_drewN | apply keep_drew | apply keep_alloc) | exact HK.out)⟩
 ·have c2b0 : decide ((s0_0.size : Int) ≤ s0_1) = false := dF_ c2;clear c2;by_cases c4 : s0_2 = true
  ·subst c4;rw [if_pos rfl] at H;obtain ⟨c5, H⟩ := ifn_ H;have c5b0 := dE_ c5;clear c5;obtain ⟨c6, H⟩ := ifn_ H;have c6b0 := dE_ c6;clear c6;simp only [Option.some.injEq, Prod.mk.injEq] at H;obtain ⟨rfl, rfl, rfl, rfl, rfl⟩ := H;obtain ⟨HGz8, hgz8⟩ := HI0.out;have hcz8_0 := cellS127_0 HGz8;have hcz8_1 := cellS127_1 HGz8;have hcz8_2 := cellS127_2 HGz8;have hcz8_3 := cellS127_3 HGz8;have hfz8_0 := blk_frozen HGz8 0;have hfz8_1 := blk_frozen HGz8 1;have hfz8_2 := blk_frozen HGz8 2;have hfz8_3 := blk_frozen HGz8 3;clear HGz8 hgz8;have p7 : 0 ≤ (s0_1 : Int) := dT_;have q7 : s0_1 < (s0_0.size : Int) := dT_;have hx7 := bt_at s0_0 s0_1;replace p7 := eq_true p7;replace q7 := eq_true q7;go_enter Tryz.func148, Tryz.ntmps148
   go_wp2
   repeat (go_quiet (fail); try go_wp2)
   go_ret
   exact ⟨e1_, by repeat (first | (with_reducible first | exact HI0.out | apply IsS127.alloc | apply IsS127.drewN | apply IsS127.drew | apply IsS127.set_0 | apply IsS127.set_1 | apply IsS127.set_2 | apply IsS127.set_3) | exact HI0.out), by repeat (first | (with_reducible first | exact HB.out | apply bA9 | apply bN9 | apply bD9 | refine below_set ?_ (IsS127.ge HI0.out)) | exact HB.out), by repeat (first | (with_reducible first | exact HK.out | apply KeepBut.set_ | apply keep_drewN | apply keep_drew | apply keep_alloc) | exact HK.out)⟩
  ·replace c4 := bF_ c4;subst c4;rw [if_neg nF_] at H;simp only [Option.some.injEq, Prod.mk.injEq] at H;obtain ⟨rfl, rfl, rfl, rfl, rfl⟩ := H;obtain ⟨HGz9, hgz9⟩ := HI0.out;have hcz9_0 := cellS127_0 HGz9;have hcz9_1 := cellS127_1 HGz9;have hcz9_2 := cellS127_2 HGz9;have hcz9_3 := cellS127_3 HGz9;have hfz9_0 := blk_frozen HGz9 0;have hfz9_1 := blk_frozen HGz9 1;have hfz9_2 := blk_frozen HGz9 2;have hfz9_3 := blk_frozen HGz9 3;clear HGz9 hgz9;go_enter Tryz.func148, Tryz.ntmps148
   go_wp2
   repeat (go_quiet (fail); try go_wp2)
   go_ret
   exact ⟨e1_, by repeat (first | (with_reducible first | exact HI0.out | apply IsS127.alloc | apply IsS127.drewN | apply IsS127.drew | apply IsS127.set_0 | apply IsS127.set_1 | apply IsS127.set_2 | apply IsS127.set_3) | exact HI0.out), by repeat (first | (with_reducible first | exact HB.out | apply bA9 | apply bN9 | apply bD9 | refine below_set ?_ (IsS127.ge HI0.out)) | exact HB.out), by repeat (first | (with_reducible first | exact HK.out | apply KeepBut.set_ | apply keep_drewN | apply keep_drew | apply keep_alloc) | exact HK.out)⟩
theorem tagger_cells {w0 w : World} {g : Nat} {s : BA} {k : Int} {e sl : Bool} (h : IsS127 w0 w g s k e sl) :
  w.cell? ⟨g, 0, none⟩ = some (.string s) ∧ w.cell? ⟨g, 1, none⟩ = some (.int .i64 k) ∧ w.cell? ⟨g, 2, none⟩ = some (.bool e) ∧ w.cell? ⟨g, 3, none⟩ = some (.bool sl) ∧
  w.frozen? ⟨g, 0, none⟩ = false ∧ w.frozen? ⟨g, 1, none⟩ = false ∧ w.frozen? ⟨g, 2, none⟩ = false ∧ w.frozen? ⟨g, 3, none⟩ = false :=
 ⟨(blk_cell h.1 0).trans rfl, (blk_cell h.1 1).trans rfl, (blk_cell h.1 2).trans rfl, (blk_cell h.1 3).trans rfl, blk_frozen h.1 0, blk_frozen h.1 1, blk_frozen h.1 2, blk_frozen h.1 3⟩
theorem isOver_any (g : Nat) (s : BA) (k : Int) (e sl : Bool) (w0 w : World) (h : IsS127 w0 w g s k e sl) (h0 : 0 ≤ k) :
  Calls Tryz.prog 148 #[.pointer (some ⟨g, 0, none⟩)] w fun r w' => r = .returned (.bool (ovr s k e)) ∧ Drawn0 w w' := by
 obtain ⟨hc0, hc1, hc2, hc3, hf0, hf1, hf2, hf3⟩ := tagger_cells h;clear h;by_cases c1 : (s.size : Int) ≤ k
 ·have d1 : decide ((s.size : Int) ≤ k) = true := dE_ c1;go_enter Tryz.func148, Tryz.ntmps148
  go_wp2
  repeat (go_quiet (fail); try go_wp2)
  go_ret
  exact ⟨by simp [ovr, c1], d0_⟩
 ·have d1 : decide ((s.size : Int) ≤ k) = false := dF_ c1;have d2 : k < (s.size : Int) := om_;have hx := bt_at s k;cases e
  ·go_enter Tryz.func148, Tryz.ntmps148
   go_wp2
   repeat (go_quiet (fail); try go_wp2)
   go_ret
   exact ⟨by simp [ovr, c1], d0_⟩
  ·go_enter Tryz.func148, Tryz.ntmps148
   go_wp2
   repeat (go_quiet (fail); try go_wp2)
   go_ret
   exact ⟨by simp [ovr]; omega, d0_⟩
theorem isBlankByte_f (c : Int) (h0 : 0 ≤ c) (h1 : c ≤ 255) : impl_isBlankByte.f c = some (blk c) := by
 have hw : wrap64 c = c := by unfold wrap64; omega
 unfold impl_isBlankByte.f impl_IsBlank.f blk;rw [hw];by_cases a1 : c = 9
 ·simp [a1]
 by_cases a2 : c = 10
 ·simp [a2]
 by_cases a3 : c = 12
 ·simp [a3]
 by_cases a4 : c = 13
 ·simp [a4]
 simp [a1, a2, a3, a4]
theorem isBlankByte_any (c : Int) (h0 : 0 ≤ c) (h1 : c ≤ 255) (w : World) :
  Calls Tryz.prog 122 #[.int .u8 c] w fun r w' => r = .returned (.bool (blk c)) ∧ Drawn0 w w' :=
 impl_isBlankByte.calls c _ w (isBlankByte_f c h0 h1)
def impl_tagger_separators.f (s : BA) (k : Int) (e sl : Bool) : Option (ByteArray × Int × Bool × Bool) :=
 if 0 ≤ k ∧ k ≤ s.size ∧ s.size ≤ 140737488351232 then some (s, (sepF s e k sl).1, e, (sepF s e k sl).2) else none
theorem impl_tagger_separators.calls (g : Nat) (s : BA) (k : Int) (e sl : Bool) (r1 : BA) (r2 : Int) (r3 r4 : Bool) (w0 w : World) (hI : IsS127 w0 w g s k e sl) (hB : Below w0.heap.size w0 w) (hF : impl_tagger_separators.f s k e sl = some (r1, r2, r3, r4)) :
  Calls Tryz.prog 147 #[.pointer (some ⟨g, 0, none⟩)] w fun r w' => r = .returned (.tuple #[]) ∧ IsS127 w0 w' g r1 r2 r3 r4 ∧ Below w0.heap.size w0 w' ∧ KeepBut w w' g none := by
 unfold impl_tagger_separators.f at hF;split at hF
 case isFalse => cases hF
 case isTrue hc =>
 obtain ⟨h0, hs, hm⟩ := hc;simp only [Option.some.injEq, Prod.mk.injEq] at hF;obtain ⟨rfl, rfl, rfl, rfl⟩ := hF;have HT := A_ hI;have HB := A_ hB;have HK := A_ (KeepBut.refl w g none);clear hI hB;go_enter Tryz.func147, Tryz.ntmps147
 go_wp2
 go_loopg [] (((s.size : Int) - k).toNat) (fun kq wr => ∃ (j : Int) (b : Bool), 0 ≤ j ∧ j ≤ s.size ∧ As9 (kq = ((s.size : Int) - j).toNat) ∧ As9 (IsS127 w0 wr g s j e b) ∧ As9 (sepF s e j b = sepF s e k sl) ∧ As9 (KeepBut w wr g none) ∧ As9 (Below w0.heap.size w0 wr))
 case atStart => exact ⟨k, sl, h0, hs, ⟨rfl⟩, HT, ⟨rfl⟩, HK, HB⟩
 case round =>
  clear HT HK HB;obtain ⟨j, b, j0, j1, HM, HT, HE, HK, HB⟩ := hrel;obtain ⟨hc0, hc1, hc2, hc3, hf0, hf1, hf2, hf3⟩ := tagger_cells HT.out;by_cases c1 : ovr s j e = true
  ·have d1 : ovr s j e = true := c1;go_wp2
   go_quiet ((go_at_call 148; (refine (isOver_any g s j e b w0 _ ?_ j0).mono ?_); exact HT.out; rintro r w' ⟨rfl, ⟨nd, rfl⟩⟩; rw [d1]; exact ⟨rfl, _, World.drewN_drewN _ _ _⟩))
   go_wp2
   go_end0
   exact ⟨rfl, by rw [← HE.out, sepF_stop (.inr (by rw [d1]; simp))]; exact HT.out, bN9 HB.out _, HK.out⟩
  ·have d1 : ovr s j e = false := by simpa using c1
   have hlt := ovr_lt d1;have p7 := eq_true j0;have q7 := eq_true hlt;have hx := bt_at s j;have hr := bt_range s j;by_cases c2 : blk (bt s j) = true
   ·go_wp2
    go_quiet (first | (go_at_call 148; (refine (isOver_any g s j e b w0 _ ?_ j0).mono ?_); exact HT.out; rintro r w' ⟨rfl, ⟨nd, rfl⟩⟩; rw [d1]; exact ⟨rfl, _, World.drewN_drewN _ _ _⟩) | (go_at_call 122; (refine (isBlankByte_any (bt s j) hr.1 hr.2 _).mono ?_); rintro r w' ⟨rfl, ⟨nd, rfl⟩⟩; rw [c2]; exact ⟨rfl, _, World.drewN_drewN _ _ _⟩))
    generalize hW : World.drewN wr nq = wx;have HT2 : As9 (IsS127 w0 wx g s j e b) := ⟨by rw [← hW]; exact HT.out⟩;have HK2 : As9 (KeepBut w wx g none) := ⟨by rw [← hW]; exact HK.out⟩;have HB2 : As9 (Below w0.heap.size w0 wx) := ⟨by rw [← hW]; exact bN9 HB.out _⟩;clear hW hc0 hc1 hc2 hc3 hf0 hf1 hf2 hf3 HT HK HB;obtain ⟨hc0, hc1, hc2, hc3, hf0, hf1, hf2, hf3⟩ := tagger_cells HT2.out;go_wp2
    go_still_tail 13, (by kernel_rfl)
    go_wp2
    go_roundg (((s.size : Int) - (j + 1)).toNat)
    case measure => have := HM.out; omega
    case rel => exact ⟨j + 1, bt s j == 47, om_, om_, ⟨rfl⟩, ⟨(HT2.out.set_3 _).set_1 _⟩, ⟨by rw [← HE.out, sepF_go hlt d1 (.inl c2)]⟩, ⟨(HK2.out.set_ _ _).set_ _ _⟩, ⟨below_drew (below_set (below_set HB2.out HT2.out.2) HT2.out.2)⟩⟩
   ·replace c2 : blk (bt s j) = false := by simpa using c2
    by_cases c3 : bt s j = 47
    ·have c3a : (bt s j == 47) = true := bQ_ c3;have Hc3 := A_ c3;clear c3;go_wp2
     go_quiet (first | (go_at_call 148; (refine (isOver_any g s j e b w0 _ ?_ j0).mono ?_); exact HT.out; rintro r w' ⟨rfl, ⟨nd, rfl⟩⟩; rw [d1]; exact ⟨rfl, _, World.drewN_drewN _ _ _⟩) | (go_at_call 122; (refine (isBlankByte_any (bt s j) hr.1 hr.2 _).mono ?_); rintro r w' ⟨rfl, ⟨nd, rfl⟩⟩; rw [c2]; exact ⟨rfl, _, World.drewN_drewN _ _ _⟩))
     generalize hW : World.drewN wr nq = wx;have HT2 : As9 (IsS127 w0 wx g s j e b) := ⟨by rw [← hW]; exact HT.out⟩;have HK2 : As9 (KeepBut w wx g none) := ⟨by rw [← hW]; exact HK.out⟩;have HB2 : As9 (Below w0.heap.size w0 wx) := ⟨by rw [← hW]; exact bN9 HB.out _⟩;clear hW hc0 hc1 hc2 hc3 hf0 hf1 hf2 hf3 HT HK HB;obtain ⟨hc0, hc1, hc2, hc3, hf0, hf1, hf2, hf3⟩ := tagger_cells HT2.out;go_wp2
     go_still_tail 13, (by kernel_rfl)
     go_wp2
     go_roundg (((s.size : Int) - (j + 1)).toNat)
     case measure => have := HM.out; omega
     case rel => exact ⟨j + 1, true, om_, om_, ⟨rfl⟩, ⟨(HT2.out.set_3 _).set_1 _⟩, ⟨by rw [← HE.out, sepF_go hlt d1 (.inr Hc3.out), c3a]⟩, ⟨(HK2.out.set_ _ _).set_ _ _⟩, ⟨below_drew (below_set (below_set HB2.out HT2.out.2) HT2.out.2)⟩⟩
    ·have c3a : (bt s j == 47) = false := bN_ c3;go_wp2
     go_quiet (first | (go_at_call 148; (refine (isOver_any g s j e b w0 _ ?_ j0).mono ?_); exact HT.out; rintro r w' ⟨rfl, ⟨nd, rfl⟩⟩; rw [d1]; exact ⟨rfl, _, World.drewN_drewN _ _ _⟩) | (go_at_call 122; (refine (isBlankByte_any (bt s j) hr.1 hr.2 _).mono ?_); rintro r w' ⟨rfl, ⟨nd, rfl⟩⟩; rw [c2]; exact ⟨rfl, _, World.drewN_drewN _ _ _⟩))
     go_wp2
     go_end0
     exact ⟨rfl, by rw [← HE.out, sepF_stop (.inr (by rw [c2]; simp [c3]))]; exact HT.out, bN9 HB.out _, HK.out⟩
def impl_tagger_name.l0 : Nat → Int → ByteArray → Int → Bool → Bool → Option (ByteArray × ByteArray × Int × Bool × Bool)
 | 0, _, _, _, _, _ => none
 | k + 1, x3, x1000, x1001, x1002, x1003 => (impl_tagger_isOver.f x1000 x1001 x1002 x1003).bind fun bt305 => (if bt305.1 = true then (if 0 ≤ x3 then (if x3 ≤ bt305.2.2.1 then (if bt305.2.2.1 ≤ (bt305.2.1.size : Int) then (some (bt305.2.1.extract (x3 : Int).toNat (bt305.2.2.1 : Int).toNat, bt305.2.1, bt305.2.2.1, bt305.2.2.2.1, bt305.2.2.2.2)) else (none)) else (none)) else (none)) else (if 0 ≤ bt305.2.2.1 then (if bt305.2.2.1 < (bt305.2.1.size : Int) then ((impl_isBlankByte.f (bt bt305.2.1 bt305.2.2.1)).bind fun t310 => (if t310 = true then (if 0 ≤ x3 then (if x3 ≤ bt305.2.2.1 then (if bt305.2.2.1 ≤ (bt305.2.1.size : Int) then (some (bt305.2.1.extract (x3 : Int).toNat (bt305.2.2.1 : Int).toNat, bt305.2.1, bt305.2.2.1, bt305.2.2.2.1, bt305.2.2.2.2)) else (none)) else (none)) else (none)) else (if (bt bt305.2.1 bt305.2.2.1) = 47 then (if 0 ≤ x3 then (if x3 ≤ bt305.2.2.1 then (if bt305.2.2.1 ≤ (bt305.2.1.size : Int) then (some (bt305.2.1.extract (x3 : Int).toNat (bt305.2.2.1 : Int).toNat, bt305.2.1, bt305.2.2.1, bt305.2.2.2.1, bt305.2.2.2.2)) else (none)) else (none)) else (none)) else (if (bt bt305.2.1 bt305.2.2.1) = 61 then (if bt305.2.2.1 > x3 then (if 0 ≤ x3 then (if x3 ≤ bt305.2.2.1 then (if bt305.2.2.1 ≤ (bt305.2.1.size : Int) then (some (bt305.2.1.extract (x3 : Int).toNat (bt305.2.2.1 : Int).toNat, bt305.2.1, bt305.2.2.1, bt305.2.2.2.1, bt305.2.2.2.2)) else (none)) else (none)) else (none)) else (impl_tagger_name.l0 k x3 bt305.2.1 (wrap64 (bt305.2.2.1 + 1)) bt305.2.2.2.1 bt305.2.2.2.2)) else (impl_tagger_name.l0 k x3 bt305.2.1 (wrap64 (bt305.2.2.1 + 1)) bt305.2.2.2.1 bt305.2.2.2.2))))) else (none)) else (none)))
def impl_tagger_name.f (k : Nat) (s0_0 : BA) (s0_1 : Int) (s0_2 : Bool) (s0_3 : Bool) : Option (ByteArray × ByteArray × Int × Bool × Bool) := impl_tagger_name.l0 k s0_1 s0_0 s0_1 s0_2 s0_3
theorem impl_tagger_name.mono_l : ∀ k, (∀ y0 y1 y2 y3 y4, LeO (impl_tagger_name.l0 k y0 y1 y2 y3 y4) (impl_tagger_name.l0 (k + 1) y0 y1 y2 y3 y4))
 | 0 => fun _ _ _ _ _ r h => by simp [impl_tagger_name.l0] at h
 | k + 1 => by
  have ih0 := impl_tagger_name.mono_l k
  ·intro y0 y1 y2 y3 y4;unfold impl_tagger_name.l0;with_reducible repeat' first | exact ih0 _ _ _ _ _ | apply LeO.refl | apply LeO.none | apply LeO.ite | apply LeO.bind | intro
theorem impl_tagger_name.mono : ∀ a0 a1 a2 a3 k, LeO (impl_tagger_name.f k a0 a1 a2 a3) (impl_tagger_name.f (k + 1) a0 a1 a2 a3) := by
 intro a0 a1 a2 a3 k;have ih0 := impl_tagger_name.mono_l k;unfold impl_tagger_name.f;with_reducible repeat' first | exact ih0 _ _ _ _ _ | apply LeO.refl | apply LeO.none | apply LeO.ite | apply LeO.bind | intro
theorem impl_tagger_name.calls (k : Nat) (g : Nat) (s0_0 : BA) (s0_1 : Int) (s0_2 : Bool) (s0_3 : Bool) (r1 : BA) (r2 : BA) (r3 : Int) (r4 : Bool) (r5 : Bool) (w0 w : World) (hI : IsS127 w0 w g s0_0 s0_1 s0_2 s0_3) (hB : Below w0.heap.size w0 w) (h : impl_tagger_name.f k s0_0 s0_1 s0_2 s0_3 = some (r1, r2, r3, r4, r5)) :
  Calls Tryz.prog 149 #[.pointer (some ⟨g, 0, none⟩)] w fun e w' => e = .returned (.string r1) ∧ IsS127 w0 w' g r2 r3 r4 r5 ∧ Below w0.heap.size w0 w' ∧ KeepBut w w' g none := by
 have HI0 := A_ hI;have HK := A_ (KeepBut.refl w g none);have HL := A_ hB.size;clear hI;have HW0 := A_ hB.size;have HB := A_ hB;clear hB;have H : (impl_tagger_name.l0 k s0_1 s0_0 s0_1 s0_2 s0_3) = some (r1, r2, r3, r4, r5) := h;clear h;have H' := A_ H;clear H;obtain ⟨HGz2, hgz2⟩ := HI0.out;have hcz2_0 := cellS127_0 HGz2;have hcz2_1 := cellS127_1 HGz2;have hcz2_2 := cellS127_2 HGz2;have hcz2_3 := cellS127_3 HGz2;have hfz2_0 := blk_frozen HGz2 0;have hfz2_1 := blk_frozen HGz2 1;have hfz2_2 := blk_frozen HGz2 2;have hfz2_3 := blk_frozen HGz2 3;clear HGz2 hgz2;go_enter Tryz.func149, Tryz.ntmps149
 go_wp2
 repeat (go_quiet (fail); try go_wp2)
 go_loopg [] k (fun kq w' => ∃ (x1000_1 : BA) (x1001_1 : Int) (x1002_1 : Bool) (x1003_1 : Bool), As9 (impl_tagger_name.l0 kq s0_1 x1000_1 x1001_1 x1002_1 x1003_1 = some (r1, r2, r3, r4, r5)) ∧ As9 (kq ≤ k) ∧ As9 (IsS127 w0 w' g x1000_1 x1001_1 x1002_1 x1003_1) ∧ As9 (KeepBut w w' g none) ∧ As9 (Below w0.heap.size w0 w'))
 case atStart => exact ⟨(s0_0), (s0_1), (s0_2), (s0_3), H', ⟨Nat.le_refl _⟩, ⟨by repeat (first | (with_reducible first | exact HI0.out | apply IsS127.alloc | apply IsS127.drewN | apply IsS127.drew | apply IsS127.set_0 | apply IsS127.set_1 | apply IsS127.set_2 | apply IsS127.set_3) | exact HI0.out)⟩, ⟨by repeat (first | (with_reducible first | exact HK.out | apply KeepBut.set_ | apply keep_drewN | apply keep_drew | apply keep_alloc) | exact HK.out)⟩, ⟨by repeat (first | (with_reducible first | exact HB.out | apply bA9 | apply bN9 | apply bD9 | refine below_set ?_ (IsS127.ge HI0.out)) | exact HB.out)⟩⟩
 case round =>
  clear H';try clear c1
  try clear p2
  try clear hcz2_0
  try clear hcz2_1
  try clear hcz2_2
  try clear hcz2_3
  try clear hfz2_0
  try clear hfz2_1
  try clear hfz2_2
  try clear hfz2_3
  obtain ⟨x1000_1, x1001_1, x1002_1, x1003_1, HA, HK1, HI0, HK, HB⟩ := hrel;cases gk with
  | zero => exact absurd HA.out (by simp [impl_tagger_name.l0])
  | succ k1 =>
   have H := HA.out;clear HA;simp only [impl_tagger_name.l0] at H;obtain ⟨⟨t305, t306, t307, t308, t309⟩, A3, H⟩ := ob_ H;(try dsimp only at H)
   by_cases c4 : t305 = true
   ·subst c4;rw [if_pos rfl] at H;obtain ⟨c5, H⟩ := ifn_ H;have c5b0 := eq_true c5;have c5b1 := dE_ c5;clear c5;obtain ⟨c6, H⟩ := ifn_ H;have c6b0 := eq_true c6;have c6b1 := dE_ c6;clear c6;obtain ⟨c7, H⟩ := ifn_ H;have c7b0 := eq_true c7;have c7b1 := dE_ c7;clear c7;simp only [Option.some.injEq, Prod.mk.injEq] at H;obtain ⟨rfl, rfl, rfl, rfl, rfl⟩ := H;go_wp2_with (first | (go_at_call 148; (with_reducible refine (impl_tagger_isOver.calls g x1000_1 x1001_1 x1002_1 x1003_1 true t306 t307 t308 t309 w0 _ ?side1 ?side2 A3.out).mono ?_); (case side1 => repeat (first | (with_reducible first | exact HI0.out | apply IsS127.alloc | apply IsS127.drewN | apply IsS127.drew | apply IsS127.set_0 | apply IsS127.set_1 | apply IsS127.set_2 | apply IsS127.set_3) | exact HI0.out)); (case side2 => repeat (first | (with_reducible first | exact HB.out | apply bA9 | apply bN9 | apply bD9 | refine below_set ?_ (IsS127.ge HI0.out)) | exact HB.out)); rintro e w8 ⟨rfl, hi, hb, hk⟩; replace HK := A_ (KeepBut.trans (by repeat (first | (with_reducible first | exact HK.out | apply KeepBut.set_ | apply keep_drewN | apply keep_drew | apply keep_alloc) | exact HK.out)) hk (.inl rfl)); replace HB := A_ (hb); replace HI0 := A_ (hi); clear hb hk hi; obtain ⟨HGz9, hgz9⟩ := HI0.out; have hcz9_0 := cellS127_0 HGz9; have hcz9_1 := cellS127_1 HGz9; have hcz9_2 := cellS127_2 HGz9; have hcz9_3 := cellS127_3 HGz9; have hfz9_0 := blk_frozen HGz9 0; have hfz9_1 := blk_frozen HGz9 1; have hfz9_2 := blk_frozen HGz9 2; have hfz9_3 := blk_frozen HGz9 3; clear HGz9 hgz9))
    repeat (go_quiet (first | (go_at_call 148; (with_reducible refine (impl_tagger_isOver.calls g x1000_1 x1001_1 x1002_1 x1003_1 true t306 t307 t308 t309 w0 _ ?side1 ?side2 A3.out).mono ?_); (case side1 => repeat (first | (with_reducible first | exact HI0.out | apply IsS127.alloc | apply IsS127.drewN | apply IsS127.drew | apply IsS127.set_0 | apply IsS127.set_1 | apply IsS127.set_2 | apply IsS127.set_3) | exact HI0.out)); (case side2 => repeat (first | (with_reducible first | exact HB.out | apply bA9 | apply bN9 | apply bD9 | refine below_set ?_ (IsS127.ge HI0.out)) | exact HB.out)); rintro e w8 ⟨rfl, hi, hb, hk⟩; replace HK := A_ (KeepBut.trans (by repeat (first | (with_reducible first | exact HK.out | apply KeepBut.set_ | apply keep_drewN | apply keep_drew | apply keep_alloc) | exact HK.out)) hk (.inl rfl)); replace HB := A_ (hb); replace HI0 := A_ (hi); clear hb hk hi; obtain ⟨HGz9, hgz9⟩ := HI0.out; have hcz9_0 := cellS127_0 HGz9; have hcz9_1 := cellS127_1 HGz9; have hcz9_2 := cellS127_2 HGz9; have hcz9_3 := cellS127_3 HGz9; have hfz9_0 := blk_frozen HGz9 0; have hfz9_1 := blk_frozen HGz9 1; have hfz9_2 := blk_frozen HGz9 2; have hfz9_3 := blk_frozen HGz9 3; clear HGz9 hgz9)); try go_wp2_with (first | (go_at_call 148; (with_reducible refine (impl_tagger_isOver.calls g x1000_1 x1001_1 x1002_1 x1003_1 true t306 t307 t308 t309 w0 _ ?side1 ?side2 A3.out).mono ?_); (case side1 => repeat (first | (with_reducible first | exact HI0.out | apply IsS127.alloc | apply IsS127.drewN | apply IsS127.drew | apply IsS127.set_0 | apply IsS127.set_1 | apply IsS127.set_2 | apply IsS127.set_3) | exact HI0.out)); (case side2 => repeat (first | (with_reducible first | exact HB.out | apply bA9 | apply bN9 | apply bD9 | refine below_set ?_ (IsS127.ge HI0.out)) | exact HB.out)); rintro e w8 ⟨rfl, hi, hb, hk⟩; replace HK := A_ (KeepBut.trans (by repeat (first | (with_reducible first | exact HK.out | apply KeepBut.set_ | apply keep_drewN | apply keep_drew | apply keep_alloc) | exact HK.out)) hk (.inl rfl)); replace HB := A_ (hb); replace HI0 := A_ (hi); clear hb hk hi; obtain ⟨HGz9, hgz9⟩ := HI0.out; have hcz9_0 := cellS127_0 HGz9; have hcz9_1 := cellS127_1 HGz9; have hcz9_2 := cellS127_2 HGz9; have hcz9_3 := cellS127_3 HGz9; have hfz9_0 := blk_frozen HGz9 0; have hfz9_1 := blk_frozen HGz9 1; have hfz9_2 := blk_frozen HGz9 2; have hfz9_3 := blk_frozen HGz9 3; clear HGz9 hgz9)))
    go_ret
    exact ⟨e1_, by repeat (first | (with_reducible first | exact HI0.out | apply IsS127.alloc | apply IsS127.drewN | apply IsS127.drew | apply IsS127.set_0 | apply IsS127.set_1 | apply IsS127.set_2 | apply IsS127.set_3) | exact HI0.out), by repeat (first | (with_reducible first | exact HB.out | apply bA9 | apply bN9 | apply bD9 | refine below_set ?_ (IsS127.ge HI0.out)) | exact HB.out), by repeat (first | (with_reducible first | exact HK.out | apply KeepBut.set_ | apply keep_drewN | apply keep_drew | apply keep_alloc) | exact HK.out)⟩
   ·replace c4 := bF_ c4;subst c4;rw [if_neg nF_] at H;obtain ⟨c10, H⟩ := ifn_ H;have c10b0 := dE_ c10;clear c10;obtain ⟨c11, H⟩ := ifn_ H;have c11b0 := dE_ c11;clear c11;obtain ⟨t310, A13, H⟩ := ob_ H;(try dsimp only at H)
    by_cases c14 : t310 = true
    ·subst c14;rw [if_pos rfl] at H;obtain ⟨c15, H⟩ := ifn_ H;have c15b0 := eq_true c15;have c15b1 := dE_ c15;clear c15;obtain ⟨c16, H⟩ := ifn_ H;have c16b0 := eq_true c16;have c16b1 := dE_ c16;clear c16;obtain ⟨c17, H⟩ := ifn_ H;have c17b0 := eq_true c17;have c17b1 := dE_ c17;clear c17;simp only [Option.some.injEq, Prod.mk.injEq] at H;obtain ⟨rfl, rfl, rfl, rfl, rfl⟩ := H;go_wp2_with (first | (go_at_call 148; (with_reducible refine (impl_tagger_isOver.calls g x1000_1 x1001_1 x1002_1 x1003_1 false t306 t307 t308 t309 w0 _ ?side1 ?side2 A3.out).mono ?_); (case side1 => repeat (first | (with_reducible first | exact HI0.out | apply IsS127.alloc | apply IsS127.drewN | apply IsS127.drew | apply IsS127.set_0 | apply IsS127.set_1 | apply IsS127.set_2 | apply IsS127.set_3) | exact HI0.out)); (case side2 => repeat (first | (with_reducible first | exact HB.out | apply bA9 | apply bN9 | apply bD9 | refine below_set ?_ (IsS127.ge HI0.out)) | exact HB.out)); rintro e w18 ⟨rfl, hi, hb, hk⟩; replace HK := A_ (KeepBut.trans (by repeat (first | (with_reducible first | exact HK.out | apply KeepBut.set_ | apply keep_drewN | apply keep_drew | apply keep_alloc) | exact HK.out)) hk (.inl rfl)); replace HB := A_ (hb); replace HI0 := A_ (hi); clear hb hk hi; obtain ⟨HGz19, hgz19⟩ := HI0.out; have hcz19_0 := cellS127_0 HGz19; have hcz19_1 := cellS127_1 HGz19; have hcz19_2 := cellS127_2 HGz19; have hcz19_3 := cellS127_3 HGz19; have hfz19_0 := blk_frozen HGz19 0; have hfz19_1 := blk_frozen HGz19 1; have hfz19_2 := blk_frozen HGz19 2; have hfz19_3 := blk_frozen HGz19 3; clear HGz19 hgz19; have p12 : 0 ≤ (t307 : Int) := dT_; have q12 : t307 < (t306.size : Int) := dT_; have hx12 := bt_at t306 t307; replace p12 := eq_true p12; replace q12 := eq_true q12) | (go_at_call 122; (with_reducible refine (impl_isBlankByte.calls (bt t306 t307) true _ A13.out).mono ?_); rintro e w' ⟨rfl, ⟨nd, rfl⟩⟩; (try exact dd_)))
     repeat (go_quiet (first | (go_at_call 148; (with_reducible refine (impl_tagger_isOver.calls g x1000_1 x1001_1 x1002_1 x1003_1 false t306 t307 t308 t309 w0 _ ?side1 ?side2 A3.out).mono ?_); (case side1 => repeat (first | (with_reducible first | exact HI0.out | apply IsS127.alloc | apply IsS127.drewN | apply IsS127.drew | apply IsS127.set_0 | apply IsS127.set_1 | apply IsS127.set_2 | apply IsS127.set_3) | exact HI0.out)); (case side2 => repeat (first | (with_reducible first | exact HB.out | apply bA9 | apply bN9 | apply bD9 | refine below_set ?_ (IsS127.ge HI0.out)) | exact HB.out)); rintro e w18 ⟨rfl, hi, hb, hk⟩; replace HK := A_ (KeepBut.trans (by repeat (first | (with_reducible first | exact HK.out | apply KeepBut.set_ | apply keep_drewN | apply keep_drew | apply keep_alloc) | exact HK.out)) hk (.inl rfl)); replace HB := A_ (hb); replace HI0 := A_ (hi); clear hb hk hi; obtain ⟨HGz19, hgz19⟩ := HI0.out; have hcz19_0 := cellS127_0 HGz19; have hcz19_1 := cellS127_1 HGz19; have hcz19_2 := cellS127_2 HGz19; have hcz19_3 := cellS127_3 HGz19; have hfz19_0 := blk_frozen HGz19 0; have hfz19_1 := blk_frozen HGz19 1; have hfz19_2 := blk_frozen HGz19 2; have hfz19_3 := blk_frozen HGz19 3; clear HGz19 hgz19; have p12 : 0 ≤ (t307 : Int) := dT_; have q12 : t307 < (t306.size : Int) := dT_; have hx12 := bt_at t306 t307; replace p12 := eq_true p12; replace q12 := eq_true q12) | (go_at_call 122; (with_reducible refine (impl_isBlankByte.calls (bt t306 t307) true _ A13.out).mono ?_); rintro e w' ⟨rfl, ⟨nd, rfl⟩⟩; (try exact dd_))); try go_wp2_with (first | (go_at_call 148; (with_reducible refine (impl_tagger_isOver.calls g x1000_1 x1001_1 x1002_1 x1003_1 false t306 t307 t308 t309 w0 _ ?side1 ?side2 A3.out).mono ?_); (case side1 => repeat (first | (with_reducible first | exact HI0.out | apply IsS127.alloc | apply IsS127.drewN | apply IsS127.drew | apply IsS127.set_0 | apply IsS127.set_1 | apply IsS127.set_2 | apply IsS127.set_3) | exact HI0.out)); (case side2 => repeat (first | (with_reducible first | exact HB.out | apply bA9 | apply bN9 | apply bD9 | refine below_set ?_ (IsS127.ge HI0.out)) | exact HB.out)); rintro e w18 ⟨rfl, hi, hb, hk⟩; replace HK := A_ (KeepBut.trans (by repeat (first | (with_reducible first | exact HK.out | apply KeepBut.set_ | apply keep_drewN | apply keep_drew | apply keep_alloc) | exact HK.out)) hk (.inl rfl)); replace HB := A_ (hb); replace HI0 := A_ (hi); clear hb hk hi; obtain ⟨HGz19, hgz19⟩ := HI0.out; have hcz19_0 := cellS127_0 HGz19; have hcz19_1 := cellS127_1 HGz19; have hcz19_2 := cellS127_2 HGz19; have hcz19_3 := cellS127_3 HGz19; have hfz19_0 := blk_frozen HGz19 0; have hfz19_1 := blk_frozen HGz19 1; have hfz19_2 := blk_frozen HGz19 2; have hfz19_3 := blk_frozen HGz19 3; clear HGz19 hgz19; have p12 : 0 ≤ (t307 : Int) := dT_; have q12 : t307 < (t306.size : Int) := dT_; have hx12 := bt_at t306 t307; replace p12 := eq_true p12; replace q12 := eq_true q12) | (go_at_call 122; (with_reducible refine (impl_isBlankByte.calls (bt t306 t307) true _ A13.out).mono ?_); rintro e w' ⟨rfl, ⟨nd, rfl⟩⟩; (try exact dd_))))
     go_ret
     exact ⟨e1_, by repeat (first | (with_reducible first | exact HI0.out | apply IsS127.alloc | apply IsS127.drewN | apply IsS127.drew | apply IsS127.set_0 | apply IsS127.set_1 | apply IsS127.set_2 | apply IsS127.set_3) | exact HI0.out), by repeat (first | (with_reducible first | exact HB.out | apply bA9 | apply bN9 | apply bD9 | refine below_set ?_ (IsS127.ge HI0.out)) | exact HB.out), by repeat (first | (with_reducible first | exact HK.out | apply KeepBut.set_ | apply keep_drewN | apply keep_drew | apply keep_alloc) | exact HK.out)⟩
    ·replace c14 := bF_ c14;subst c14;rw [if_neg nF_] at H;rcases ic_ H with ⟨c20, H⟩ | ⟨c20, H⟩
     ·obtain ⟨c20b0, c20b1⟩ := be_ c20;clear c20;obtain ⟨c21, H⟩ := ifn_ H;have c21b0 := eq_true c21;have c21b1 := dE_ c21;clear c21;obtain ⟨c22, H⟩ := ifn_ H;have c22b0 := eq_true c22;have c22b1 := dE_ c22;clear c22;obtain ⟨c23, H⟩ := ifn_ H;have c23b0 := eq_true c23;have c23b1 := dE_ c23;clear c23;simp only [Option.some.injEq, Prod.mk.injEq] at H;obtain ⟨rfl, rfl, rfl, rfl, rfl⟩ := H;go_wp2_with (first | (go_at_call 148; (with_reducible refine (impl_tagger_isOver.calls g x1000_1 x1001_1 x1002_1 x1003_1 false t306 t307 t308 t309 w0 _ ?side1 ?side2 A3.out).mono ?_); (case side1 => repeat (first | (with_reducible first | exact HI0.out | apply IsS127.alloc | apply IsS127.drewN | apply IsS127.drew | apply IsS127.set_0 | apply IsS127.set_1 | apply IsS127.set_2 | apply IsS127.set_3) | exact HI0.out)); (case side2 => repeat (first | (with_reducible first | exact HB.out | apply bA9 | apply bN9 | apply bD9 | refine below_set ?_ (IsS127.ge HI0.out)) | exact HB.out)); rintro e w24 ⟨rfl, hi, hb, hk⟩; replace HK := A_ (KeepBut.trans (by repeat (first | (with_reducible first | exact HK.out | apply KeepBut.set_ | apply keep_drewN | apply keep_drew | apply keep_alloc) | exact HK.out)) hk (.inl rfl)); replace HB := A_ (hb); replace HI0 := A_ (hi); clear hb hk hi; obtain ⟨HGz25, hgz25⟩ := HI0.out; have hcz25_0 := cellS127_0 HGz25; have hcz25_1 := cellS127_1 HGz25; have hcz25_2 := cellS127_2 HGz25; have hcz25_3 := cellS127_3 HGz25; have hfz25_0 := blk_frozen HGz25 0; have hfz25_1 := blk_frozen HGz25 1; have hfz25_2 := blk_frozen HGz25 2; have hfz25_3 := blk_frozen HGz25 3; clear HGz25 hgz25; have p12 : 0 ≤ (t307 : Int) := dT_; have q12 : t307 < (t306.size : Int) := dT_; have hx12 := bt_at t306 t307; replace p12 := eq_true p12; replace q12 := eq_true q12) | (go_at_call 122; (with_reducible refine (impl_isBlankByte.calls (bt t306 t307) false _ A13.out).mono ?_); rintro e w' ⟨rfl, ⟨nd, rfl⟩⟩; (try exact dd_)))
      repeat (go_quiet (first | (go_at_call 148; (with_reducible refine (impl_tagger_isOver.calls g x1000_1 x1001_1 x1002_1 x1003_1 false t306 t307 t308 t309 w0 _ ?side1 ?side2 A3.out).mono ?_); (case side1 => repeat (first | (with_reducible first | exact HI0.out | apply IsS127.alloc | apply IsS127.drewN | apply IsS127.drew | apply IsS127.set_0 | apply IsS127.set_1 | apply IsS127.set_2 | apply IsS127.set_3) | exact HI0.out)); (case side2 => repeat (first | (with_reducible first | exact HB.out | apply bA9 | apply bN9 | apply bD9 | refine below_set ?_ (IsS127.ge HI0.out)) | exact HB.out)); rintro e w24 ⟨rfl, hi, hb, hk⟩; replace HK := A_ (KeepBut.trans (by repeat (first | (with_reducible first | exact HK.out | apply KeepBut.set_ | apply keep_drewN | apply keep_drew | apply keep_alloc) | exact HK.out)) hk (.inl rfl)); replace HB := A_ (hb); replace HI0 := A_ (hi); clear hb hk hi; obtain ⟨HGz25, hgz25⟩ := HI0.out; have hcz25_0 := cellS127_0 HGz25; have hcz25_1 := cellS127_1 HGz25; have hcz25_2 := cellS127_2 HGz25; have hcz25_3 := cellS127_3 HGz25; have hfz25_0 := blk_frozen HGz25 0; have hfz25_1 := blk_frozen HGz25 1; have hfz25_2 := blk_frozen HGz25 2; have hfz25_3 := blk_frozen HGz25 3; clear HGz25 hgz25; have p12 : 0 ≤ (t307 : Int) := dT_; have q12 : t307 < (t306.size : Int) := dT_; have hx12 := bt_at t306 t307; replace p12 := eq_true p12; replace q12 := eq_true q12) | (go_at_call 122; (with_reducible refine (impl_isBlankByte.calls (bt t306 t307) false _ A13.out).mono ?_); rintro e w' ⟨rfl, ⟨nd, rfl⟩⟩; (try exact dd_))); try go_wp2_with (first | (go_at_call 148; (with_reducible refine (impl_tagger_isOver.calls g x1000_1 x1001_1 x1002_1 x1003_1 false t306 t307 t308 t309 w0 _ ?side1 ?side2 A3.out).mono ?_); (case side1 => repeat (first | (with_reducible first | exact HI0.out | apply IsS127.alloc | apply IsS127.drewN | apply IsS127.drew | apply IsS127.set_0 | apply IsS127.set_1 | apply IsS127.set_2 | apply IsS127.set_3) | exact HI0.out)); (case side2 => repeat (first | (with_reducible first | exact HB.out | apply bA9 | apply bN9 | apply bD9 | refine below_set ?_ (IsS127.ge HI0.out)) | exact HB.out)); rintro e w24 ⟨rfl, hi, hb, hk⟩; replace HK := A_ (KeepBut.trans (by repeat (first | (with_reducible first | exact HK.out | apply KeepBut.set_ | apply keep_drewN | apply keep_drew | apply keep_alloc) | exact HK.out)) hk (.inl rfl)); replace HB := A_ (hb); replace HI0 := A_ (hi); clear hb hk hi; obtain ⟨HGz25, hgz25⟩ := HI0.out; have hcz25_0 := cellS127_0 HGz25; have hcz25_1 := cellS127_1 HGz25; have hcz25_2 := cellS127_2 HGz25; have hcz25_3 := cellS127_3 HGz25; have hfz25_0 := blk_frozen HGz25 0; have hfz25_1 := blk_frozen HGz25 1; have hfz25_2 := blk_frozen HGz25 2; have hfz25_3 := blk_frozen HGz25 3; clear HGz25 hgz25; have p12 : 0 ≤ (t307 : Int) := dT_; have q12 : t307 < (t306.size : Int) := dT_; have hx12 := bt_at t306 t307; replace p12 := eq_true p12; replace q12 := eq_true q12) | (go_at_call 122; (with_reducible refine (impl_isBlankByte.calls (bt t306 t307) false _ A13.out).mono ?_); rintro e w' ⟨rfl, ⟨nd, rfl⟩⟩; (try exact dd_))))
      go_ret
      exact ⟨e1_, by repeat (first | (with_reducible first | exact HI0.out | apply IsS127.alloc | apply IsS127.drewN | apply IsS127.drew | apply IsS127.set_0 | apply IsS127.set_1 | apply IsS127.set_2 | apply IsS127.set_3) | exact HI0.out), by repeat (first | (with_reducible first | exact HB.out | apply bA9 | apply bN9 | apply bD9 | refine below_set ?_ (IsS127.ge HI0.out)) | exact HB.out), by repeat (first | (with_reducible first | exact HK.out | apply KeepBut.set_ | apply keep_drewN | apply keep_drew | apply keep_alloc) | exact HK.out)⟩
     ·obtain ⟨c20b0, c20b1⟩ := bn_ c20;rcases ic_ H with ⟨c26, H⟩ | ⟨c26, H⟩
      ·obtain ⟨c26b0, c26b1⟩ := be_ c26;clear c26;rcases ic_ H with ⟨c27, H⟩ | ⟨c27, H⟩
       ·have c27b0 : decide (s0_1 < t307) = true := dE_ c27;clear c27;obtain ⟨c28, H⟩ := ifn_ H;have c28b0 := eq_true c28;have c28b1 := dE_ c28;clear c28;obtain ⟨c29, H⟩ := ifn_ H;have c29b0 := eq_true c29;have c29b1 := dE_ c29;clear c29;obtain ⟨c30, H⟩ := ifn_ H;have c30b0 := eq_true c30;have c30b1 := dE_ c30;clear c30;simp only [Option.some.injEq, Prod.mk.injEq] at H;obtain ⟨rfl, rfl, rfl, rfl, rfl⟩ := H;go_wp2_with (first | (go_at_call 148; (with_reducible refine (impl_tagger_isOver.calls g x1000_1 x1001_1 x1002_1 x1003_1 false t306 t307 t308 t309 w0 _ ?side1 ?side2 A3.out).mono ?_); (case side1 => repeat (first | (with_reducible first | exact HI0.out | apply IsS127.alloc | apply IsS127.drewN | apply IsS127.drew | apply IsS127.set_0 | apply IsS127.set_1 | apply IsS127.set_2 | apply IsS127.set_3) | exact HI0.out)); (case side2 => repeat (first | (with_reducible first | exact HB.out | apply bA9 | apply bN9 | apply bD9 | refine below_set ?_ (IsS127.ge HI0.out)) | exact HB.out)); rintro e w31 ⟨rfl, hi, hb, hk⟩; replace HK := A_ (KeepBut.trans (by repeat (first | (with_reducible first | exact HK.out | apply KeepBut.set_ | apply keep_drewN | apply keep_drew | apply keep_alloc) | exact HK.out)) hk (.inl rfl)); replace HB := A_ (hb); replace HI0 := A_ (hi); clear hb hk hi; obtain ⟨HGz32, hgz32⟩ := HI0.out; have hcz32_0 := cellS127_0 HGz32; have hcz32_1 := cellS127_1 HGz32; have hcz32_2 := cellS127_2 HGz32; have hcz32_3 := cellS127_3 HGz32; have hfz32_0 := blk_frozen HGz32 0; have hfz32_1 := blk_frozen HGz32 1; have hfz32_2 := blk_frozen HGz32 2; have hfz32_3 := blk_frozen HGz32 3; clear HGz32 hgz32; have p12 : 0 ≤ (t307 : Int) := dT_; have q12 : t307 < (t306.size : Int) := dT_; have hx12 := bt_at t306 t307; replace p12 := eq_true p12; replace q12 := eq_true q12) | (go_at_call 122; (with_reducible refine (impl_isBlankByte.calls (bt t306 t307) false _ A13.out).mono ?_); rintro e w' ⟨rfl, ⟨nd, rfl⟩⟩; (try exact dd_)))
        repeat (go_quiet (first | (go_at_call 148; (with_reducible refine (impl_tagger_isOver.calls g x1000_1 x1001_1 x1002_1 x1003_1 false t306 t307 t308 t309 w0 _ ?side1 ?side2 A3.out).mono ?_); (case side1 => repeat (first | (with_reducible first | exact HI0.out | apply IsS127.alloc | apply IsS127.drewN | apply IsS127.drew | apply IsS127.set_0 | apply IsS127.set_1 | apply IsS127.set_2 | apply IsS127.set_3) | exact HI0.out)); (case side2 => repeat (first | (with_reducible first | exact HB.out | apply bA9 | apply bN9 | apply bD9 | refine below_set ?_ (IsS127.ge HI0.out)) | exact HB.out)); rintro e w31 ⟨rfl, hi, hb, hk⟩; replace HK := A_ (KeepBut.trans (by repeat (first | (with_reducible first | exact HK.out | apply KeepBut.set_ | apply keep_drewN | apply keep_drew | apply keep_alloc) | exact HK.out)) hk (.inl rfl)); replace HB := A_ (hb); replace HI0 := A_ (hi); clear hb hk hi; obtain ⟨HGz32, hgz32⟩ := HI0.out; have hcz32_0 := cellS127_0 HGz32; have hcz32_1 := cellS127_1 HGz32; have hcz32_2 := cellS127_2 HGz32; have hcz32_3 := cellS127_3 HGz32; have hfz32_0 := blk_frozen HGz32 0; have hfz32_1 := blk_frozen HGz32 1; have hfz32_2 := blk_frozen HGz32 2; have hfz32_3 := blk_frozen HGz32 3; clear HGz32 hgz32; have p12 : 0 ≤ (t307 : Int) := dT_; have q12 : t307 < (t306.size : Int) := dT_; have hx12 := bt_at t306 t307; replace p12 := eq_true p12; replace q12 := eq_true q12) | (go_at_call 122; (with_reducible refine (impl_isBlankByte.calls (bt t306 t307) false _ A13.out).mono ?_); rintro e w' ⟨rfl, ⟨nd, rfl⟩⟩; (try exact dd_))); try go_wp2_with (first | (go_at_call 148; (with_reducible refine (impl_tagger_isOver.calls g x1000_1 x1001_1 x1002_1 x1003_1 false t306 t307 t308 t309 w0 _ ?side1 ?side2 A3.out).mono ?_); (case side1 => repeat (first | (with_reducible first | exact HI0.out | apply IsS127.alloc | apply IsS127.drewN | apply IsS127.drew | apply IsS127.set_0 | apply IsS127.set_1 | apply IsS127.set_2 | apply IsS127.set_3) | exact HI0.out)); (case side2 => repeat (first | (with_reducible first | exact HB.out | apply bA9 | apply bN9 | apply bD9 | refine below_set ?_ (IsS127.ge HI0.out)) | exact HB.out)); rintro e w31 ⟨rfl, hi, hb, hk⟩; replace HK := A_ (KeepBut.trans (by repeat (first | (with_reducible first | exact HK.out | apply KeepBut.set_ | apply keep_drewN | apply keep_drew | apply keep_alloc) | exact HK.out)) hk (.inl rfl)); replace HB := A_ (hb); replace HI0 := A_ (hi); clear hb hk hi; obtain ⟨HGz32, hgz32⟩ := HI0.out; have hcz32_0 := cellS127_0 HGz32; have hcz32_1 := cellS127_1 HGz32; have hcz32_2 := cellS127_2 HGz32; have hcz32_3 := cellS127_3 HGz32; have hfz32_0 := blk_frozen HGz32 0; have hfz32_1 := blk_frozen HGz32 1; have hfz32_2 := blk_frozen HGz32 2; have hfz32_3 := blk_frozen HGz32 3; clear HGz32 hgz32; have p12 : 0 ≤ (t307 : Int) := dT_; have q12 : t307 < (t306.size : Int) := dT_; have hx12 := bt_at t306 t307; replace p12 := eq_true p12; replace q12 := eq_true q12) | (go_at_call 122; (with_reducible refine (impl_isBlankByte.calls (bt t306 t307) false _ A13.out).mono ?_); rintro e w' ⟨rfl, ⟨nd, rfl⟩⟩; (try exact dd_))))
        go_ret
        exact ⟨e1_, by repeat (first | (with_reducible first | exact HI0.out | apply IsS127.alloc | apply IsS127.drewN | apply IsS127.drew | apply IsS127.set_0 | apply IsS127.set_1 | apply IsS127.set_2 | apply IsS127.set_3) | exact HI0.out), by repeat (first | (with_reducible first | exact HB.out | apply bA9 | apply bN9 | apply bD9 | refine below_set ?_ (IsS127.ge HI0.out)) | exact HB.out), by repeat (first | (with_reducible first | exact HK.out | apply KeepBut.set_ | apply keep_drewN | apply keep_drew | apply keep_alloc) | exact HK.out)⟩
       ·have c27b0 : decide (s0_1 < t307) = false := dF_ c27;clear c27;have H' := A_ H;clear H;go_wp2_with (first | (go_at_call 148; (with_reducible refine (impl_tagger_isOver.calls g x1000_1 x1001_1 x1002_1 x1003_1 false t306 t307 t308 t309 w0 _ ?side1 ?side2 A3.out).mono ?_); (case side1 => repeat (first | (with_reducible first | exact HI0.out | apply IsS127.alloc | apply IsS127.drewN | apply IsS127.drew | apply IsS127.set_0 | apply IsS127.set_1 | apply IsS127.set_2 | apply IsS127.set_3) | exact HI0.out)); (case side2 => repeat (first | (with_reducible first | exact HB.out | apply bA9 | apply bN9 | apply bD9 | refine below_set ?_ (IsS127.ge HI0.out)) | exact HB.out)); rintro e w33 ⟨rfl, hi, hb, hk⟩; replace HK := A_ (KeepBut.trans (by repeat (first | (with_reducible first | exact HK.out | apply KeepBut.set_ | apply keep_drewN | apply keep_drew | apply keep_alloc) | exact HK.out)) hk (.inl rfl)); replace HB := A_ (hb); replace HI0 := A_ (hi); clear hb hk hi; obtain ⟨HGz34, hgz34⟩ := HI0.out; have hcz34_0 := cellS127_0 HGz34; have hcz34_1 := cellS127_1 HGz34; have hcz34_2 := cellS127_2 HGz34; have hcz34_3 := cellS127_3 HGz34; have hfz34_0 := blk_frozen HGz34 0; have hfz34_1 := blk_frozen HGz34 1; have hfz34_2 := blk_frozen HGz34 2; have hfz34_3 := blk_frozen HGz34 3; clear HGz34 hgz34; have p12 : 0 ≤ (t307 : Int) := dT_; have q12 : t307 < (t306.size : Int) := dT_; have hx12 := bt_at t306 t307; replace p12 := eq_true p12; replace q12 := eq_true q12) | (go_at_call 122; (with_reducible refine (impl_isBlankByte.calls (bt t306 t307) false _ A13.out).mono ?_); rintro e w' ⟨rfl, ⟨nd, rfl⟩⟩; (try exact dd_)))
        repeat (go_quiet (first | (go_at_call 148; (with_reducible refine (impl_tagger_isOver.calls g x1000_1 x1001_1 x1002_1 x1003_1 false t306 t307 t308 t309 w0 _ ?side1 ?side2 A3.out).mono ?_); (case side1 => repeat (first | (with_reducible first | exact HI0.out | apply IsS127.alloc | apply IsS127.drewN | apply IsS127.drew | apply IsS127.set_0 | apply IsS127.set_1 | apply IsS127.set_2 | apply IsS127.set_3) | exact HI0.out)); (case side2 => repeat (first | (with_reducible first | exact HB.out | apply bA9 | apply bN9 | apply bD9 | refine below_set ?_ (IsS127.ge HI0.out)) | exact HB.out)); rintro e w33 ⟨rfl, hi, hb, hk⟩; replace HK := A_ (KeepBut.trans (by repeat (first | (with_reducible first | exact HK.out | apply KeepBut.set_ | apply keep_drewN | apply keep_drew | apply keep_alloc) | exact HK.out)) hk (.inl rfl)); replace HB := A_ (hb); replace HI0 := A_ (hi); clear hb hk hi; obtain ⟨HGz34, hgz34⟩ := HI0.out; have hcz34_0 := cellS127_0 HGz34; have hcz34_1 := cellS127_1 HGz34; have hcz34_2 := cellS127_2 HGz34; have hcz34_3 := cellS127_3 HGz34; have hfz34_0 := blk_frozen HGz34 0; have hfz34_1 := blk_frozen HGz34 1; have hfz34_2 := blk_frozen HGz34 2; have hfz34_3 := blk_frozen HGz34 3; clear HGz34 hgz34; have p12 : 0 ≤ (t307 : Int) := dT_; have q12 : t307 < (t306.size : Int) := dT_; have hx12 := bt_at t306 t307; replace p12 := eq_true p12; replace q12 := eq_true q12) | (go_at_call 122; (with_reducible refine (impl_isBlankByte.calls (bt t306 t307) false _ A13.out).mono ?_); rintro e w' ⟨rfl, ⟨nd, rfl⟩⟩; (try exact dd_))); try go_wp2_with (first | (go_at_call 148; (with_reducible refine (impl_tagger_isOver.calls g x1000_1 x1001_1 x1002_1 x1003_1 false t306 t307 t308 t309 w0 _ ?side1 ?side2 A3.out).mono ?_); (case side1 => repeat (first | (with_reducible first | exact HI0.out | apply IsS127.alloc | apply IsS127.drewN | apply IsS127.drew | apply IsS127.set_0 | apply IsS127.set_1 | apply IsS127.set_2 | apply IsS127.set_3) | exact HI0.out)); (case side2 => repeat (first | (with_reducible first | exact HB.out | apply bA9 | apply bN9 | apply bD9 | refine below_set ?_ (IsS127.ge HI0.out)) | exact HB.out)); rintro e w33 ⟨rfl, hi, hb, hk⟩; replace HK := A_ (KeepBut.trans (by repeat (first | (with_reducible first | exact HK.out | apply KeepBut.set_ | apply keep_drewN | apply keep_drew | apply keep_alloc) | exact HK.out)) hk (.inl rfl)); replace HB := A_ (hb); replace HI0 := A_ (hi); clear hb hk hi; obtain ⟨HGz34, hgz34⟩ := HI0.out; have hcz34_0 := cellS127_0 HGz34; have hcz34_1 := cellS127_1 HGz34; have hcz34_2 := cellS127_2 HGz34; have hcz34_3 := cellS127_3 HGz34; have hfz34_0 := blk_frozen HGz34 0; have hfz34_1 := blk_frozen HGz34 1; have hfz34_2 := blk_frozen HGz34 2; have hfz34_3 := blk_frozen HGz34 3; clear HGz34 hgz34; have p12 : 0 ≤ (t307 : Int) := dT_; have q12 : t307 < (t306.size : Int) := dT_; have hx12 := bt_at t306 t307; replace p12 := eq_true p12; replace q12 := eq_true q12) | (go_at_call 122; (with_reducible refine (impl_isBlankByte.calls (bt t306 t307) false _ A13.out).mono ?_); rintro e w' ⟨rfl, ⟨nd, rfl⟩⟩; (try exact dd_))))
        go_roundg k1
        case measure => have := HK1.out; omega
        case rel => exact ⟨(t306), (wrap64 (t307 + 1)), (t308), (t309), H', ⟨by have := HK1.out; omega⟩, ⟨by repeat (first | (with_reducible first | exact HI0.out | apply IsS127.alloc | apply IsS127.drewN | apply IsS127.drew | apply IsS127.set_0 | apply IsS127.set_1 | apply IsS127.set_2 | apply IsS127.set_3) | exact HI0.out)⟩, ⟨by repeat (first | (with_reducible first | exact HK.out | apply KeepBut.set_ | apply keep_drewN | apply keep_drew | apply keep_alloc) | exact HK.out)⟩, ⟨by repeat (first | (with_reducible first | exact HB.out | apply bA9 | apply bN9 | apply bD9 | refine below_set ?_ (IsS127.ge HI0.out)) | exact HB.out)⟩⟩
      ·obtain ⟨c26b0, c26b1⟩ := bn_ c26;have H' := A_ H;clear H;go_wp2_with (first | (go_at_call 148; (with_reducible refine (impl_tagger_isOver.calls g x1000_1 x1001_1 x1002_1 x1003_1 false t306 t307 t308 t309 w0 _ ?side1 ?side2 A3.out).mono ?_); (case side1 => repeat (first | (with_reducible first | exact HI0.out | apply IsS127.alloc | apply IsS127.drewN | apply IsS127.drew | apply IsS127.set_0 | apply IsS127.set_1 | apply IsS127.set_2 | apply IsS127.set_3) | exact HI0.out)); (case side2 => repeat (first | (with_reducible first | exact HB.out | apply bA9 | apply bN9 | apply bD9 | refine below_set ?_ (IsS127.ge HI0.out)) | exact HB.out)); rintro e w35 ⟨rfl, hi, hb, hk⟩; replace HK := A_ (KeepBut.trans (by repeat (first | (with_reducible first | exact HK.out | apply KeepBut.set_ | apply keep_drewN | apply keep_drew | apply keep_alloc) | exact HK.out)) hk (.inl rfl)); replace HB := A_ (hb); replace HI0 := A_ (hi); clear hb hk hi; obtain ⟨HGz36, hgz36⟩ := HI0.out; have hcz36_0 := cellS127_0 HGz36; have hcz36_1 := cellS127_1 HGz36; have hcz36_2 := cellS127_2 HGz36; have hcz36_3 := cellS127_3 HGz36; have hfz36_0 := blk_frozen HGz36 0; have hfz36_1 := blk_frozen HGz36 1; have hfz36_2 := blk_frozen HGz36 2; have hfz36_3 := blk_frozen HGz36 3; clear HGz36 hgz36; have p12 : 0 ≤ (t307 : Int) := dT_; have q12 : t307 < (t306.size : Int) := dT_; have hx12 := bt_at t306 t307; replace p12 := eq_true p12; replace q12 := eq_true q12) | (go_at_call 122; (with_reducible refine (impl_isBlankByte.calls (bt t306 t307) false _ A13.out).mono ?_); rintro e w' ⟨rfl, ⟨nd, rfl⟩⟩; (try exact dd_)))
       repeat (go_quiet (first | (go_at_call 148; (with_reducible refine (impl_tagger_isOver.calls g x1000_1 x1001_1 x1002_1 x1003_1 false t306 t307 t308 t309 w0 _ ?side1 ?side2 A3.out).mono ?_); (case side1 => repeat (first | (with_reducible first | exact HI0.out | apply IsS127.alloc | apply IsS127.drewN | apply IsS127.drew | apply IsS127.set_0 | apply IsS127.set_1 | apply IsS127.set_2 | apply IsS127.set_3) | exact HI0.out)); (case side2 => repeat (first | (with_reducible first | exact HB.out | apply bA9 | apply bN9 | apply bD9 | refine below_set ?_ (IsS127.ge HI0.out)) | exact HB.out)); rintro e w35 ⟨rfl, hi, hb, hk⟩; replace HK := A_ (KeepBut.trans (by repeat (first | (with_reducible first | exact HK.out | apply KeepBut.set_ | apply keep_drewN | apply keep_drew | apply keep_alloc) | exact HK.out)) hk (.inl rfl)); replace HB := A_ (hb); replace HI0 := A_ (hi); clear hb hk hi; obtain ⟨HGz36, hgz36⟩ := HI0.out; have hcz36_0 := cellS127_0 HGz36; have hcz36_1 := cellS127_1 HGz36; have hcz36_2 := cellS127_2 HGz36; have hcz36_3 := cellS127_3 HGz36; have hfz36_0 := blk_frozen HGz36 0; have hfz36_1 := blk_frozen HGz36 1; have hfz36_2 := blk_frozen HGz36 2; have hfz36_3 := blk_frozen HGz36 3; clear HGz36 hgz36; have p12 : 0 ≤ (t307 : Int) := dT_; have q12 : t307 < (t306.size : Int) := dT_; have hx12 := bt_at t306 t307; replace p12 := eq_true p12; replace q12 := eq_true q12) | (go_at_call 122; (with_reducible refine (impl_isBlankByte.calls (bt t306 t307) false _ A13.out).mono ?_); rintro e w' ⟨rfl, ⟨nd, rfl⟩⟩; (try exact dd_))); try go_wp2_with (first | (go_at_call 148; (with_reducible refine (impl_tagger_isOver.calls g x1000_1 x1001_1 x1002_1 x1003_1 false t306 t307 t308 t309 w0 _ ?side1 ?side2 A3.out).mono ?_); (case side1 => repeat (first | (with_reducible first | exact HI0.out | apply IsS127.alloc | apply IsS127.drewN | apply IsS127.drew | apply IsS127.set_0 | apply IsS127.set_1 | apply IsS127.set_2 | apply IsS127.set_3) | exact HI0.out)); (case side2 => repeat (first | (with_reducible first | exact HB.out | apply bA9 | apply bN9 | apply bD9 | refine below_set ?_ (IsS127.ge HI0.out)) | exact HB.out)); rintro e w35 ⟨rfl, hi, hb, hk⟩; replace HK := A_ (KeepBut.trans (by repeat (first | (with_reducible first | exact HK.out | apply KeepBut.set_ | apply keep_drewN | apply keep_drew | apply keep_alloc) | exact HK.out)) hk (.inl rfl)); replace HB := A_ (hb); replace HI0 := A_ (hi); clear hb hk hi; obtain ⟨HGz36, hgz36⟩ := HI0.out; have hcz36_0 := cellS127_0 HGz36; have hcz36_1 := cellS127_1 HGz36; have hcz36_2 := cellS127_2 HGz36; have hcz36_3 := cellS127_3 HGz36; have hfz36_0 := blk_frozen HGz36 0; have hfz36_1 := blk_frozen HGz36 1; have hfz36_2 := blk_frozen HGz36 2; have hfz36_3 := blk_frozen HGz36 3; clear HGz36 hgz36; have p12 : 0 ≤ (t307 : Int) := dT_; have q12 : t307 < (t306.size : Int) := dT_; have hx12 := bt_at t306 t307; replace p12 := eq_true p12; replace q12 := eq_true q12) | (go_at_call 122; (with_reducible refine (impl_isBlankByte.calls (bt t306 t307) false _ A13.out).mono ?_); rintro e w' ⟨rfl, ⟨nd, rfl⟩⟩; (try exact dd_))))
       go_roundg k1
       case measure => have := HK1.out; omega
       case rel => exact ⟨(t306), (wrap64 (t307 + 1)), (t308), (t309), H', ⟨by have := HK1.out; omega⟩, ⟨by repeat (first | (with_reducible first | exact HI0.out | apply IsS127.alloc | apply IsS127.drewN | apply IsS127.drew | apply IsS127.set_0 | apply IsS127.set_1 | apply IsS127.set_2 | apply IsS127.set_3) | exact HI0.out)⟩, ⟨by repeat (first | (with_reducible first | exact HK.out | apply KeepBut.set_ | apply keep_drewN | apply keep_drew | apply keep_alloc) | exact HK.out)⟩, ⟨by repeat (first | (with_reducible first | exact HB.out | apply bA9 | apply bN9 | apply bD9 | refine below_set ?_ (IsS127.ge HI0.out)) | exact HB.out)⟩⟩
def impl_pastBlanks.l0 : Nat → ByteArray → Int → Option (Int)
 | 0, _, _ => none
 | k + 1, x0, x1 => if x1 < (x0.size : Int) then (if 0 ≤ x1 then ((impl_isBlankByte.f (bt x0 x1)).bind fun t311 => (if t311 = true then (impl_pastBlanks.l0 k x0 (wrap64 (x1 + 1))) else (some x1))) else (none)) else (some x1)
def impl_pastBlanks.f (k : Nat) (a0 : BA) (a1 : Int) : Option (Int) := impl_pastBlanks.l0 k a0 a1
theorem impl_pastBlanks.mono_l : ∀ k, (∀ y0 y1, LeO (impl_pastBlanks.l0 k y0 y1) (impl_pastBlanks.l0 (k + 1) y0 y1))
 | 0 => fun _ _ r h => by simp [impl_pastBlanks.l0] at h
 | k + 1 => by
  have ih0 := impl_pastBlanks.mono_l k
  ·intro y0 y1;unfold impl_pastBlanks.l0;with_reducible repeat' first | exact ih0 _ _ | apply LeO.refl | apply LeO.none | apply LeO.ite | apply LeO.bind | intro
theorem impl_pastBlanks.mono : ∀ a0 a1 k, LeO (impl_pastBlanks.f k a0 a1) (impl_pastBlanks.f (k + 1) a0 a1) := by
 intro a0 a1 k;have ih0 := impl_pastBlanks.mono_l k;unfold impl_pastBlanks.f;with_reducible repeat' first | exact ih0 _ _ | apply LeO.refl | apply LeO.none | apply LeO.ite | apply LeO.bind | intro
theorem impl_pastBlanks.calls (k : Nat) (a0 : BA) (a1 : Int) (r : Int) (w : World) (h : impl_pastBlanks.f k a0 a1 = some r) :
  Calls Tryz.prog 115 #[.string a0, .int .i64 a1] w fun e w' => e = .returned (.int .i64 r) ∧ Drawn0 w w' := by
 have H : (impl_pastBlanks.l0 k a0 a1) = some r := h;clear h;have H' := A_ H;clear H;go_enter Tryz.func115, Tryz.ntmps115
 go_wp2
 go_loopg [1] k (fun kq v1 w' => ∃ (x1_1 : Int), v1 = .int .i64 x1_1 ∧ As9 (impl_pastBlanks.l0 kq a0 x1_1 = some r) ∧ As9 (kq ≤ k) ∧ Drawn0 w w')
 case atStart => exact ⟨(a1), e2_, H', ⟨Nat.le_refl _⟩, d0_⟩
 case round =>
  clear H';try clear c1
  try clear p2
  obtain ⟨x1_1, rfl, HA, HK1, ⟨m1, rfl⟩⟩ := hrel;cases gk with
  | zero => exact absurd HA.out (by simp [impl_pastBlanks.l0])
  | succ k1 =>
   have H := HA.out;clear HA;simp only [impl_pastBlanks.l0] at H;rcases ic_ H with ⟨c3, H⟩ | ⟨c3, H⟩
   ·have c3b0 := dE_ c3;clear c3;obtain ⟨c4, H⟩ := ifn_ H;have c4b0 := dE_ c4;clear c4;obtain ⟨t311, A6, H⟩ := ob_ H;(try dsimp only at H)
    by_cases c7 : t311 = true
    ·subst c7;rw [if_pos rfl] at H;have H' := A_ H;clear H;have p5 : 0 ≤ (x1_1 : Int) := dT_;have q5 : x1_1 < (a0.size : Int) := dT_;have hx5 := bt_at a0 x1_1;replace p5 := eq_true p5;replace q5 := eq_true q5;go_wp2_with (first | (go_at_call 122; (with_reducible refine (impl_isBlankByte.calls (bt a0 x1_1) true _ A6.out).mono ?_); rintro e w' ⟨rfl, ⟨nd, rfl⟩⟩))
     go_roundg k1
     case measure => have := HK1.out; omega
     case rel => exact ⟨(wrap64 (x1_1 + 1)), e2_, H', ⟨by have := HK1.out; omega⟩, d0_⟩
    ·replace c7 := bF_ c7;subst c7;rw [if_neg nF_] at H;obtain rfl := sI_ H;have p5 : 0 ≤ (x1_1 : Int) := dT_;have q5 : x1_1 < (a0.size : Int) := dT_;have hx5 := bt_at a0 x1_1;replace p5 := eq_true p5;replace q5 := eq_true q5;go_wp2_with (first | (go_at_call 122; (with_reducible refine (impl_isBlankByte.calls (bt a0 x1_1) false _ A6.out).mono ?_); rintro e w' ⟨rfl, ⟨nd, rfl⟩⟩))
     go_ret
     exact ⟨e2_, d0_⟩
   ·have c3b0 := dF_ c3;clear c3;obtain rfl := sI_ H;go_wp2
    go_ret
    exact ⟨e2_, d0_⟩
theorem isBlank_still (c : Int) (w : World) :
  Calls Tryz.prog 154 #[.int .i64 c] w fun e w' => e = .returned (.bool (blk c)) ∧ w' = w := by
 by_cases a1 : c = 9
 ·subst a1; go_enter Tryz.func154, Tryz.ntmps154; go_wp2; go_ret; exact ⟨rfl, rfl⟩
 by_cases a2 : c = 10
 ·subst a2; go_enter Tryz.func154, Tryz.ntmps154; go_wp2; go_ret; exact ⟨rfl, rfl⟩
 by_cases a3 : c = 12
 ·subst a3; go_enter Tryz.func154, Tryz.ntmps154; go_wp2; go_ret; exact ⟨rfl, rfl⟩
 by_cases a4 : c = 13
 ·subst a4; go_enter Tryz.func154, Tryz.ntmps154; go_wp2; go_ret; exact ⟨rfl, rfl⟩
 have b1 : (c == 9) = false := bN_ a1;have b2 : (c == 10) = false := bN_ a2;have b3 : (c == 12) = false := bN_ a3;have b4 : (c == 13) = false := bN_ a4;have e : blk c = (c == 32) := by simp [blk, b1, b2, b3, b4]
 rw [e];go_enter Tryz.func154, Tryz.ntmps154
 go_wp2
 go_ret
 exact ⟨by simp [b1, b2, b3, b4], rfl⟩
theorem isBlankByte_still (c : Int) (h0 : 0 ≤ c) (h1 : c ≤ 255) (w : World) :
  Calls Tryz.prog 122 #[.int .u8 c] w fun r w' => r = .returned (.bool (blk c)) ∧ w' = w := by
 go_enter Tryz.func122, Tryz.ntmps122
 go_wp2_with ((go_at_call 154; (refine (isBlank_still c _).mono ?_); rintro r w' ⟨rfl, rfl⟩))
 go_ret
 exact ⟨rfl, rfl⟩
theorem pastBlanks_still (s : BA) (i : Int) (w : World) (h0 : 0 ≤ i) (h1 : i ≤ s.size) (hm : s.size ≤ 140737488351232) :
  Calls Tryz.prog 115 #[.string s, .int .i64 i] w fun e w' => e = .returned (.int .i64 (pastB s i)) ∧ w' = w := by
 go_enter Tryz.func115, Tryz.ntmps115
 go_wp2
 go_loopg [1] (((s.size : Int) - i).toNat) (fun kq v wr => ∃ j : Int, v = .int .i64 j ∧ 0 ≤ j ∧ j ≤ s.size ∧ As9 (kq = ((s.size : Int) - j).toNat) ∧ As9 (pastB s j = pastB s i) ∧ w = wr)
 case atStart => exact ⟨i, rfl, h0, h1, ⟨rfl⟩, ⟨rfl⟩, rfl⟩
 case round =>
  obtain ⟨j, rfl, j0, j1, HM, HE, rfl⟩ := hrel;have hr := bt_range s j;have hx := bt_at s j;by_cases hlt : j < (s.size : Int)
  ·by_cases c2 : blk (bt s j) = true
   ·have C2 := A_ c2;go_wp2_with ((go_at_call 122; (refine (isBlankByte_still (bt s j) hr.1 hr.2 _).mono ?_); rintro r w' ⟨rfl, rfl⟩; rw [C2.out]))
    go_roundg (((s.size : Int) - (j + 1)).toNat)
    case measure => have := HM.out; omega
    case rel => exact ⟨j + 1, rfl, om_, om_, ⟨rfl⟩, ⟨by rw [← HE.out, pastB_go hlt C2.out]⟩, rfl⟩
   ·replace c2 : blk (bt s j) = false := by simpa using c2
    have C2 := A_ c2;go_wp2_with ((go_at_call 122; (refine (isBlankByte_still (bt s j) hr.1 hr.2 _).mono ?_); rintro r w' ⟨rfl, rfl⟩; rw [C2.out]))
    go_ret
    exact ⟨by rw [← HE.out, pastB_stop (.inr C2.out)]; rfl, rfl⟩
  ·go_wp2
   go_ret
   exact ⟨by rw [← HE.out, pastB_stop (.inl om_)]; rfl, rfl⟩
def impl_tagger_blanks.f (s : BA) (k : Int) (e sl : Bool) : Option (ByteArray × Int × Bool × Bool) :=
 if 0 ≤ k ∧ k ≤ s.size ∧ s.size ≤ 140737488351232 then some (s, pastB s k, e, sl) else none
theorem impl_tagger_blanks.calls (g : Nat) (s : BA) (k : Int) (e sl : Bool) (r1 : BA) (r2 : Int) (r3 r4 : Bool) (w0 w : World) (hI : IsS127 w0 w g s k e sl) (hB : Below w0.heap.size w0 w) (hF : impl_tagger_blanks.f s k e sl = some (r1, r2, r3, r4)) :
  Calls Tryz.prog 170 #[.pointer (some ⟨g, 0, none⟩)] w fun r w' => r = .returned (.tuple #[]) ∧ IsS127 w0 w' g r1 r2 r3 r4 ∧ Below w0.heap.size w0 w' ∧ KeepBut w w' g none := by
 unfold impl_tagger_blanks.f at hF;split at hF
 case isFalse => cases hF
 case isTrue hc =>
 obtain ⟨h0, hs, hm⟩ := hc;simp only [Option.some.injEq, Prod.mk.injEq] at hF;obtain ⟨rfl, rfl, rfl, rfl⟩ := hF;have HT := A_ hI;have HB := A_ hB;have HK := A_ (KeepBut.refl w g none);obtain ⟨hc0, hc1, hc2, hc3, hf0, hf1, hf2, hf3⟩ := tagger_cells hI;clear hI hB;go_enter Tryz.func170, Tryz.ntmps170
 go_wp2
 refine wp_region_still_tail 10 (by kernel_rfl) (by kernel_rfl) ?_;simp only [List.take_succ_cons, List.take_zero, List.drop_succ_cons, List.drop_zero];repeat still_step
 still_call (pastBlanks_still s k _ h0 hs hm)
 refine wpStill_nil ?_;go_wp2
 go_end0
 exact ⟨rfl, HT.out.set_1 _, below_drew (below_set HB.out HT.out.2), HK.out.set_ _ _⟩
def strings_IndexByte.f (a0 : BA) (a1 : Int) : Option Int := some (Lib.indexByte a0.data.toList a1.toNat.toUInt8)
theorem strings_IndexByte.calls (a0 : BA) (a1 : Int) (r : Int) (w : World) (h : strings_IndexByte.f a0 a1 = some r) :
  Calls Tryz.prog 114 #[.string a0, .int .u8 a1] w fun e w' => e = .returned (.int .i64 r) ∧ Drawn0 w w' := by
 obtain rfl := sI_ h;exact (Tryz.strings_IndexByte a0 a1 w).mono fun e w' hh => ⟨hh.1, by rw [hh.2]; exact Drawn0.refl _⟩
def impl_tagger_quoted.f (s0_0 : BA) (s0_1 : Int) (s0_2 : Bool) (s0_3 : Bool) : Option (ByteArray × Bool × ByteArray × Int × Bool × Bool) := if 0 ≤ s0_1 then (if s0_1 < (s0_0.size : Int) then (if 0 ≤ (wrap64 (s0_1 + 1)) then (if (wrap64 (s0_1 + 1)) ≤ (s0_0.size : Int) then ((strings_IndexByte.f (s0_0.extract ((wrap64 (s0_1 + 1)) : Int).toNat s0_0.size) (bt s0_0 s0_1)).bind fun t312 => (if t312 < 0 then (some (s0_0.extract ((wrap64 (s0_1 + 1)) : Int).toNat s0_0.size, false, s0_0, (s0_0.size : Int), s0_2, s0_3)) else (if (wrap64 (s0_1 + 1)) ≤ (wrap64 ((wrap64 (s0_1 + 1)) + t312)) then (if (wrap64 ((wrap64 (s0_1 + 1)) + t312)) ≤ (s0_0.size : Int) then (some (s0_0.extract ((wrap64 (s0_1 + 1)) : Int).toNat ((wrap64 ((wrap64 (s0_1 + 1)) + t312)) : Int).toNat, true, s0_0, wrap64 ((wrap64 ((wrap64 (s0_1 + 1)) + t312)) + 1), s0_2, s0_3)) else (none)) else (none)))) else (none)) else (none)) else (none)) else (none)
theorem impl_tagger_quoted.calls (g : Nat) (s0_0 : BA) (s0_1 : Int) (s0_2 : Bool) (s0_3 : Bool) (r1 : BA) (r2 : Bool) (r3 : BA) (r4 : Int) (r5 : Bool) (r6 : Bool) (w0 w : World) (hI : IsS127 w0 w g s0_0 s0_1 s0_2 s0_3) (hB : Below w0.heap.size w0 w) (h : impl_tagger_quoted.f s0_0 s0_1 s0_2 s0_3 = some (r1, r2, r3, r4, r5, r6)) :
  Calls Tryz.prog 171 #[.pointer (some ⟨g, 0, none⟩)] w fun e w' => e = .returned (.tuple #[.string r1, .bool r2]) ∧ IsS127 w0 w' g r3 r4 r5 r6 ∧ Below w0.heap.size w0 w' ∧ KeepBut w w' g none := by
 have HI0 := A_ hI;have HK := A_ (KeepBut.refl w g none);have HL := A_ hB.size;clear hI;have HW0 := A_ hB.size;have HB := A_ hB;clear hB;have H : (if 0 ≤ s0_1 then (if s0_1 < (s0_0.size : Int) then (if 0 ≤ (wrap64 (s0_1 + 1)) then (if (wrap64 (s0_1 + 1)) ≤ (s0_0.size : Int) then ((strings_IndexByte.f (s0_0.extract ((wrap64 (s0_1 + 1)) : Int).toNat s0_0.size) (bt s0_0 s0_1)).bind fun t312 => (if t312 < 0 then (some (s0_0.extract ((wrap64 (s0_1 + 1)) : Int).toNat s0_0.size, false, s0_0, (s0_0.size : Int), s0_2, s0_3)) else (if (wrap64 (s0_1 + 1)) ≤ (wrap64 ((wrap64 (s0_1 + 1)) + t312)) then (if (wrap64 ((wrap64 (s0_1 + 1)) + t312)) ≤ (s0_0.size : Int) then (some (s0_0.extract ((wrap64 (s0_1 + 1)) : Int).toNat ((wrap64 ((wrap64 (s0_1 + 1)) + t312)) : Int).toNat, true, s0_0, wrap64 ((wrap64 ((wrap64 (s0_1 + 1)) + t312)) + 1), s0_2, s0_3)) else (none)) else (none)))) else (none)) else (none)) else (none)) else (none)) = some (r1, r2, r3, r4, r5, r6) := h;clear h;obtain ⟨c2, H⟩ := ifn_ H;have c2b0 := dE_ c2;clear c2;obtain ⟨c3, H⟩ := ifn_ H;have c3b0 := dE_ c3;clear c3;obtain ⟨ji5, hji5⟩ : ∃ j_ : Int, (wrap64 (s0_1 + 1)) = j_ := ⟨_, rfl⟩;replace H : (if 0 ≤ (ji5) then (if (ji5) ≤ (s0_0.size : Int) then ((strings_IndexByte.f (s0_0.extract ((ji5) : Int).toNat s0_0.size) (bt s0_0 s0_1)).bind fun t312 => (if t312 < 0 then (some (s0_0.extract ((ji5) : Int).toNat s0_0.size, false, s0_0, (s0_0.size : Int), s0_2, s0_3)) else (if (ji5) ≤ (wrap64 ((ji5) + t312)) then (if (wrap64 ((ji5) + t312)) ≤ (s0_0.size : Int) then (some (s0_0.extract ((ji5) : Int).toNat ((wrap64 ((ji5) + t312)) : Int).toNat, true, s0_0, wrap64 ((wrap64 ((ji5) + t312)) + 1), s0_2, s0_3)) else (none)) else (none)))) else (none)) else (none)) = some (r1, r2, r3, r4, r5, r6) := by first | (rw [hji5] at H; exact H) | (simp only [hji5] at H ⊢; exact H)
 have hji5w : (IntKind.i64.wrap (s0_1 + 1)) = ji5 := (i64_w _).trans hji5;obtain ⟨c6, H⟩ := ifn_ H;have c6b0 := eq_true c6;have c6b1 := dE_ c6;clear c6;obtain ⟨c7, H⟩ := ifn_ H;have c7b0 := eq_true c7;have c7b1 := dE_ c7;clear c7;obtain ⟨t312, A8, H⟩ := ob_ H;rcases ic_ H with ⟨c9, H⟩ | ⟨c9, H⟩
 ·have c9b0 := dE_ c9;clear c9;have c10b0 := eq_true (dT_ : 0 ≤ (ji5));have c11b0 := eq_true (dT_ : (ji5) ≤ (s0_0.size : Int));simp only [Option.some.injEq, Prod.mk.injEq] at H;obtain ⟨rfl, rfl, rfl, rfl, rfl, rfl⟩ := H;obtain ⟨HGz12, hgz12⟩ := HI0.out;have hcz12_0 := cellS127_0 HGz12;have hcz12_1 := cellS127_1 HGz12;have hcz12_2 := cellS127_2 HGz12;have hcz12_3 := cellS127_3 HGz12;have hfz12_0 := blk_frozen HGz12 0;have hfz12_1 := blk_frozen HGz12 1;have hfz12_2 := blk_frozen HGz12 2;have hfz12_3 := blk_frozen HGz12 3;clear HGz12 hgz12;have p4 : 0 ≤ (s0_1 : Int) := dT_;have q4 : s0_1 < (s0_0.size : Int) := dT_;have hx4 := bt_at s0_0 s0_1;replace p4 := eq_true p4;replace q4 := eq_true q4;go_enter Tryz.func171, Tryz.ntmps171
  go_wp2_with (first | (go_at_call 114; (with_reducible refine (strings_IndexByte.calls (s0_0.extract ((ji5) : Int).toNat s0_0.size) (bt s0_0 s0_1) t312 _ A8.out).mono ?_); rintro e w' ⟨rfl, ⟨nd, rfl⟩⟩; (try exact dd_)))
  repeat (go_quiet (first | (go_at_call 114; (with_reducible refine (strings_IndexByte.calls (s0_0.extract ((ji5) : Int).toNat s0_0.size) (bt s0_0 s0_1) t312 _ A8.out).mono ?_); rintro e w' ⟨rfl, ⟨nd, rfl⟩⟩; (try exact dd_))); try go_wp2_with (first | (go_at_call 114; (with_reducible refine (strings_IndexByte.calls (s0_0.extract ((ji5) : Int).toNat s0_0.size) (bt s0_0 s0_1) t312 _ A8.out).mono ?_); rintro e w' ⟨rfl, ⟨nd, rfl⟩⟩; (try exact dd_))))
  go_ret2
  exact ⟨by first | rfl | (simp [errW_none, errW_some] <;> rfl) | (simp only [← hji5]; first | rfl | (simp [errW_none, errW_some] <;> rfl)) | (simp [*, errW_none, errW_some] <;> rfl), by repeat (first | (with_reducible first | exact HI0.out | apply IsS127.alloc | apply IsS127.drewN | apply IsS127.drew | apply IsS127.set_0 | apply IsS127.set_1 | apply IsS127.set_2 | apply IsS127.set_3) | exact HI0.out), by repeat (first | (with_reducible first | exact HB.out | apply bA9 | apply bN9 | apply bD9 | refine below_set ?_ (IsS127.ge HI0.out)) | exact HB.out), by repeat (first | (with_reducible first | exact HK.out | apply KeepBut.set_ | apply keep_drewN | apply keep_drew | apply keep_alloc) | exact HK.out)⟩
 ·have c9b0 := dF_ c9;clear c9;have c13b0 := eq_true (dT_ : 0 ≤ (ji5));obtain ⟨c14, H⟩ := ifn_ H;have c14b0 := eq_true c14;have c14b1 := dE_ c14;obtain ⟨c15, H⟩ := ifn_ H;have c15b0 := eq_true c15;have c15b1 := dE_ c15;simp only [Option.some.injEq, Prod.mk.injEq] at H;obtain ⟨rfl, rfl, rfl, rfl, rfl, rfl⟩ := H;obtain ⟨HGz16, hgz16⟩ := HI0.out;have hcz16_0 := cellS127_0 HGz16;have hcz16_1 := cellS127_1 HGz16;have hcz16_2 := cellS127_2 HGz16;have hcz16_3 := cellS127_3 HGz16;have hfz16_0 := blk_frozen HGz16 0;have hfz16_1 := blk_frozen HGz16 1;have hfz16_2 := blk_frozen HGz16 2;have hfz16_3 := blk_frozen HGz16 3;clear HGz16 hgz16;have p4 : 0 ≤ (s0_1 : Int) := dT_;have q4 : s0_1 < (s0_0.size : Int) := dT_;have hx4 := bt_at s0_0 s0_1;replace p4 := eq_true p4;replace q4 := eq_true q4;go_enter Tryz.func171, Tryz.ntmps171
  go_wp2_with (first | (go_at_call 114; (with_reducible refine (strings_IndexByte.calls (s0_0.extract ((ji5) : Int).toNat s0_0.size) (bt s0_0 s0_1) t312 _ A8.out).mono ?_); rintro e w' ⟨rfl, ⟨nd, rfl⟩⟩; (try exact dd_)))
  repeat (go_quiet (first | (go_at_call 114; (with_reducible refine (strings_IndexByte.calls (s0_0.extract ((ji5) : Int).toNat s0_0.size) (bt s0_0 s0_1) t312 _ A8.out).mono ?_); rintro e w' ⟨rfl, ⟨nd, rfl⟩⟩; (try exact dd_))); try go_wp2_with (first | (go_at_call 114; (with_reducible refine (strings_IndexByte.calls (s0_0.extract ((ji5) : Int).toNat s0_0.size) (bt s0_0 s0_1) t312 _ A8.out).mono ?_); rintro e w' ⟨rfl, ⟨nd, rfl⟩⟩; (try exact dd_))))
  go_ret2
  exact ⟨by first | rfl | (simp [errW_none, errW_some] <;> rfl) | (simp only [← hji5]; first | rfl | (simp [errW_none, errW_some] <;> rfl)) | (simp [*, errW_none, errW_some] <;> rfl), by repeat (first | (with_reducible first | exact HI0.out | apply IsS127.alloc | apply IsS127.drewN | apply IsS127.drew | apply IsS127.set_0 | apply IsS127.set_1 | apply IsS127.set_2 | apply IsS127.set_3) | exact HI0.out), by repeat (first | (with_reducible first | exact HB.out | apply bA9 | apply bN9 | apply bD9 | refine below_set ?_ (IsS127.ge HI0.out)) | exact HB.out), by repeat (first | (with_reducible first | exact HK.out | apply KeepBut.set_ | apply keep_drewN | apply keep_drew | apply keep_alloc) | exact HK.out)⟩
theorem isOver_f (s : BA) (k : Int) (e sl : Bool) (h0 : 0 ≤ k) : impl_tagger_isOver.f s k e sl = some (ovr s k e, s, k, e, sl) := by
 unfold impl_tagger_isOver.f ovr;by_cases c : k ≥ (s.size : Int)
 ·rw [if_pos c]; simp [show (s.size : Int) ≤ k from c]
 ·rw [if_neg c];cases e
  ·rw [if_neg si_]; simp; omega
  ·rw [if_pos rfl, if_pos h0, if_pos om_]; simp; omega
theorem name_l (s : BA) (from_ : Int) (e sl : Bool) (hf : 0 ≤ from_) (hm : s.size ≤ 140737488351232) (d : Nat) : ∀ (k : Nat) (i : Int), from_ ≤ i → i ≤ s.size → ((s.size : Int) - i).toNat = d → d < k →
  impl_tagger_name.l0 k from_ s i e sl = some (s.extract from_.toNat (nmF s e from_ i).toNat, s, nmF s e from_ i, e, sl) := by
 induction d with
 | zero =>
  intro k i h0 h1 hd hk;obtain ⟨k, rfl⟩ : ∃ m, k = m + 1 := ⟨k - 1, om_⟩;have ho : ovr s i e = true := by simp [ovr, show (s.size : Int) ≤ i by omega]
  simp only [impl_tagger_name.l0];rw [isOver_f s i e sl om_, nmF_stop (.inr (by rw [ho]; simp))];simp only [Option.bind_some];rw [if_pos ho, if_pos hf, if_pos h0, if_pos h1]
 | succ d ih =>
  intro k i h0 h1 hd hk;obtain ⟨k, rfl⟩ : ∃ m, k = m + 1 := ⟨k - 1, om_⟩;have hr := bt_range s i;simp only [impl_tagger_name.l0];rw [isOver_f s i e sl om_];simp only [Option.bind_some];by_cases ho : ovr s i e = true
  ·rw [if_pos ho, if_pos hf, if_pos h0, if_pos h1, nmF_stop (.inr (by rw [ho]; simp))]
  ·rw [if_neg ho, if_pos om_, if_pos om_, isBlankByte_f _ hr.1 hr.2];simp only [Option.bind_some];have hw : wrap64 (i + 1) = i + 1 := by unfold wrap64; omega
   have ho' : ovr s i e = false := by simpa using ho
   by_cases c1 : blk (bt s i) = true
   ·rw [if_pos c1, if_pos hf, if_pos h0, if_pos h1, nmF_stop (.inr (by simp [inNm, c1]))]
   ·rw [if_neg c1];have c1' : blk (bt s i) = false := by simpa using c1
    by_cases c2 : bt s i = 47
    ·rw [if_pos c2, if_pos hf, if_pos h0, if_pos h1, nmF_stop (.inr (by simp [inNm, c2]))]
    ·rw [if_neg c2];by_cases c3 : bt s i = 61
     ·rw [if_pos c3];by_cases c4 : i > from_
      ·rw [if_pos c4, if_pos hf, if_pos h0, if_pos h1, nmF_stop (.inr (by simp [inNm, c3]; omega))]
      ·have hi' : decide (from_ < i) = false := dF_ c4;rw [if_neg c4, hw, nmF_go om_ ho' (by simp only [inNm, c1', c3, hi']; rfl)];exact ih k (i + 1) om_ om_ om_ om_
     ·rw [if_neg c3, hw, nmF_go om_ ho' (by simp [inNm, c1', c2, c3])];exact ih k (i + 1) om_ om_ om_ om_
theorem name_f (s : BA) (i : Int) (e sl : Bool) (h0 : 0 ≤ i) (h1 : i ≤ s.size) (hm : s.size ≤ 140737488351232) :
  impl_tagger_name.f (((s.size : Int) - i).toNat + 1) s i e sl = some (s.extract i.toNat (nmF s e i i).toNat, s, nmF s e i i, e, sl) := by
 unfold impl_tagger_name.f;exact name_l s i e sl h0 hm _ _ i (Int.le_refl _) h1 rfl (Nat.lt_succ_self _)
def impl_tagger_value.f (s : BA) (k : Int) (e sl : Bool) : Option (ByteArray × Bool × ByteArray × Int × Bool × Bool) :=
 if 0 ≤ k ∧ k ≤ s.size ∧ s.size ≤ 140737488351232 then
  if ovr s (pastB s k) e = false ∧ bt s (pastB s k) = 61 then
   if ovr s (pastB s (pastB s k + 1)) e = true then some (⟨#[]⟩, true, s, pastB s (pastB s k + 1), e, sl)
   else if bt s (pastB s (pastB s k + 1)) = 34 ∨ bt s (pastB s (pastB s k + 1)) = 39 then impl_tagger_quoted.f s (pastB s (pastB s k + 1)) e sl
   else some (s.extract (pastB s (pastB s k + 1)).toNat (plF s e (pastB s (pastB s k + 1))).toNat, true, s, plF s e (pastB s (pastB s k + 1)), e, sl)
  else some (⟨#[]⟩, true, s, pastB s k, e, sl)
 else none
theorem impl_tagger_value.calls (g : Nat) (s : BA) (k : Int) (e sl : Bool) (r1 : BA) (r2 : Bool) (r3 : BA) (r4 : Int) (r5 r6 : Bool) (w0 w : World) (hI : IsS127 w0 w g s k e sl) (hB : Below w0.heap.size w0 w) (hF : impl_tagger_value.f s k e sl = some (r1, r2, r3, r4, r5, r6)) :
  Calls Tryz.prog 150 #[.pointer (some ⟨g, 0, none⟩)] w fun r w' => r = .returned (.tuple #[.string r1, .bool r2]) ∧ IsS127 w0 w' g r3 r4 r5 r6 ∧ Below w0.heap.size w0 w' ∧ KeepBut w w' g none := by
 unfold impl_tagger_value.f at hF;split at hF
 case isFalse => cases hF
 case isTrue hc =>
 obtain ⟨h0, hs, hm⟩ := hc;obtain ⟨b1, b2⟩ := pastB_le (s := s) _ k rfl hs;have HF := A_ hF;clear hF;have HI := A_ hI;have HK := A_ (KeepBut.refl w g none);have HB := A_ hB;clear hI hB;generalize hk1 : pastB s k = k1 at *;have Hk1 := A_ hk1;clear hk1;have k10 : 0 ≤ k1 := om_;have hb1 : impl_tagger_blanks.f s k e sl = some (s, k1, e, sl) := by
  unfold impl_tagger_blanks.f; rw [if_pos ⟨h0, hs, hm⟩, Hk1.out]
 go_enter Tryz.func150, Tryz.ntmps150
 go_wp2_with ((go_at_call 170; (refine (impl_tagger_blanks.calls g s k e sl s k1 e sl w0 _ ?_ ?_ hb1).mono ?_); exact HI.out; exact HB.out; rintro r w1 ⟨rfl, hi, hb, hk⟩))
 have HI1 := A_ hi;have HB1 := A_ hb;have HK1 := A_ hk;clear hi hb hk HI HB HK;obtain ⟨hc0, hc1, hc2, hc3, hf0, hf1, hf2, hf3⟩ := tagger_cells HI1.out;by_cases c1 : ovr s k1 e = true
 ·have hF2 := HF.out;rw [if_neg (by rw [c1]; simp)] at hF2;simp only [Option.some.injEq, Prod.mk.injEq] at hF2;obtain ⟨rfl, rfl, rfl, rfl, rfl, rfl⟩ := hF2;go_wp2
  go_quiet ((go_at_call 148; (refine (isOver_any g s k1 e sl w0 _ ?_ k10).mono ?_); exact HI1.out; rintro r w' ⟨rfl, ⟨nd, rfl⟩⟩; rw [c1]; exact ⟨rfl, _, World.drewN_drewN _ _ _⟩))
  go_wp2
  go_ret2
  exact ⟨rfl, HI1.out, bN9 HB1.out _, keep_drewN HK1.out _⟩
 replace c1 : ovr s k1 e = false := by simpa using c1
 have hlt := ovr_lt c1;have p7 := eq_true k10;have q7 := eq_true hlt;have hx := bt_at s k1;by_cases c2 : bt s k1 = 61
 case neg =>
  have c2b : (bt s k1 != 61) = true := nN_ c2;have hF2 := HF.out;rw [if_neg (fun h => c2 h.2)] at hF2;simp only [Option.some.injEq, Prod.mk.injEq] at hF2;obtain ⟨rfl, rfl, rfl, rfl, rfl, rfl⟩ := hF2;clear c2;go_wp2
  go_quiet ((go_at_call 148; (refine (isOver_any g s k1 e sl w0 _ ?_ k10).mono ?_); exact HI1.out; rintro r w' ⟨rfl, ⟨nd, rfl⟩⟩; rw [c1]; exact ⟨rfl, _, World.drewN_drewN _ _ _⟩))
  go_wp2
  go_ret2
  exact ⟨rfl, HI1.out, bN9 HB1.out _, keep_drewN HK1.out _⟩
 have c2b : (bt s k1 != 61) = false := by rw [c2]; rfl
 have HF1 : As9 _ := ⟨HF.out.symm.trans (if_pos ⟨c1, c2⟩)⟩;clear HF;have C2 := A_ c2;clear c2;go_wp2
 go_quiet ((go_at_call 148; (refine (isOver_any g s k1 e sl w0 _ ?_ k10).mono ?_); exact HI1.out; rintro r w' ⟨rfl, ⟨nd, rfl⟩⟩; rw [c1]; exact ⟨rfl, _, World.drewN_drewN _ _ _⟩))
 generalize hW : World.drewN w1 nq = w2;have HI2 : As9 (IsS127 w0 w2 g s k1 e sl) := ⟨by rw [← hW]; exact HI1.out⟩;have HB2 : As9 (Below w0.heap.size w0 w2) := ⟨by rw [← hW]; exact bN9 HB1.out _⟩;have HK2 : As9 (KeepBut w w2 g none) := ⟨by rw [← hW]; exact keep_drewN HK1.out _⟩;clear hW hc0 hc1 hc2 hc3 hf0 hf1 hf2 hf3;obtain ⟨hc0, hc1, hc2, hc3, hf0, hf1, hf2, hf3⟩ := tagger_cells HI2.out;obtain ⟨b3, b4⟩ := pastB_le (s := s) _ (k1 + 1) rfl om_;have hb2 : impl_tagger_blanks.f s (k1 + 1) e sl = some (s, pastB s (k1 + 1), e, sl) := by
  unfold impl_tagger_blanks.f; rw [if_pos ⟨om_, om_, hm⟩]
 have Hb2 := A_ hb2;clear hb2;go_wp2_with ((go_at_call 170; (refine (impl_tagger_blanks.calls g s (k1 + 1) e sl s (pastB s (k1 + 1)) e sl w0 _ ?_ ?_ Hb2.out).mono ?_); exact HI2.out.set_1 _; exact below_set HB2.out HI2.out.2; rintro r w3 ⟨rfl, hi, hb, hk⟩))
 generalize hk2 : pastB s (k1 + 1) = k2 at *;have HF2 : As9 _ := HF1;clear HF1 Hb2 hk2;have HI3 := A_ hi;have HB3 := A_ hb;have HK3 := A_ ((HK2.out.set_ 1 _).trans hk (.inl rfl));clear hi hb hk HI1 HB1 HK1 HI2 HB2 HK2 hc0 hc1 hc2 hc3 hf0 hf1 hf2 hf3;obtain ⟨hc0, hc1, hc2, hc3, hf0, hf1, hf2, hf3⟩ := tagger_cells HI3.out;clear p7 q7 hx hlt;have k20 : 0 ≤ k2 := om_;by_cases c3 : ovr s k2 e = true
 ·have hF2 := HF2.out.symm;rw [if_pos c3] at hF2;simp only [Option.some.injEq, Prod.mk.injEq] at hF2;obtain ⟨rfl, rfl, rfl, rfl, rfl, rfl⟩ := hF2;go_wp2_with ((go_at_call 148; (refine (isOver_any g s k2 e sl w0 _ ?_ k20).mono ?_); exact HI3.out; rintro r w' ⟨rfl, ⟨nd, rfl⟩⟩; rw [c3]))
  go_ret2
  exact ⟨rfl, HI3.out, bN9 HB3.out _, keep_drewN HK3.out _⟩
 replace c3 : ovr s k2 e = false := by simpa using c3
 have hlt := ovr_lt c3;have p7 := eq_true k20;have q7 := eq_true hlt;have hx := bt_at s k2;have HF3 : As9 _ := ⟨HF2.out.trans (if_neg (by rw [c3]; simp))⟩;clear HF2;go_wp2_with ((go_at_call 148; (refine (isOver_any g s k2 e sl w0 _ ?_ k20).mono ?_); exact HI3.out; rintro r w' ⟨rfl, ⟨nd, rfl⟩⟩; rw [c3]))
 generalize hW : World.drewN w3 nd = w4;have HI4 : As9 (IsS127 w0 w4 g s k2 e sl) := ⟨by rw [← hW]; exact HI3.out⟩;have HB4 : As9 (Below w0.heap.size w0 w4) := ⟨by rw [← hW]; exact bN9 HB3.out _⟩;have HK4 : As9 (KeepBut w w4 g none) := ⟨by rw [← hW]; exact keep_drewN HK3.out _⟩;clear hW hc0 hc1 hc2 hc3 hf0 hf1 hf2 hf3;obtain ⟨hc0, hc1, hc2, hc3, hf0, hf1, hf2, hf3⟩ := tagger_cells HI4.out;by_cases c4 : bt s k2 = 34 ∨ bt s k2 = 39
 ·have HF4 : As9 _ := ⟨HF3.out.trans (if_pos c4)⟩;have hq := HF4.out.symm;have Hq := A_ hq;clear hq HF4 HF3;by_cases c5 : bt s k2 = 34
  ·have c5b : (bt s k2 == 34) = true := bQ_ c5;clear c4 c5;go_quiet (fail)
   generalize hW : World.drewN w4 nq = w5;have HI5 : As9 (IsS127 w0 w5 g s k2 e sl) := ⟨by rw [← hW]; exact HI4.out⟩;have HB5 : As9 (Below w0.heap.size w0 w5) := ⟨by rw [← hW]; exact bN9 HB4.out _⟩;have HK5 : As9 (KeepBut w w5 g none) := ⟨by rw [← hW]; exact keep_drewN HK4.out _⟩;clear hW hc0 hc1 hc2 hc3 hf0 hf1 hf2 hf3;go_wp2_with ((go_at_call 171; (refine (impl_tagger_quoted.calls g s k2 e sl r1 r2 r3 r4 r5 r6 w0 _ HI5.out HB5.out Hq.out).mono ?_); rintro r w6 ⟨rfl, hi, hb, hk⟩))
   go_ret2
   exact ⟨rfl, hi, hb, HK5.out.trans hk (.inl rfl)⟩
  ·have c6 : bt s k2 = 39 := c4.resolve_left c5;have c5b : (bt s k2 == 34) = false := bN_ c5;have c6b : (bt s k2 == 39) = true := bQ_ c6;clear c4 c5 c6;go_quiet (fail)
   generalize hW : World.drewN w4 nq = w5;have HI5 : As9 (IsS127 w0 w5 g s k2 e sl) := ⟨by rw [← hW]; exact HI4.out⟩;have HB5 : As9 (Below w0.heap.size w0 w5) := ⟨by rw [← hW]; exact bN9 HB4.out _⟩;have HK5 : As9 (KeepBut w w5 g none) := ⟨by rw [← hW]; exact keep_drewN HK4.out _⟩;clear hW hc0 hc1 hc2 hc3 hf0 hf1 hf2 hf3;go_wp2_with ((go_at_call 171; (refine (impl_tagger_quoted.calls g s k2 e sl r1 r2 r3 r4 r5 r6 w0 _ HI5.out HB5.out Hq.out).mono ?_); rintro r w6 ⟨rfl, hi, hb, hk⟩))
   go_ret2
   exact ⟨rfl, hi, hb, HK5.out.trans hk (.inl rfl)⟩
 have HF4 : As9 _ := ⟨HF3.out.trans (if_neg c4)⟩;clear HF3;have c5b : (bt s k2 == 34) = false := bN_ (fun h => c4 (.inl h));have c6b : (bt s k2 == 39) = false := bN_ (fun h => c4 (.inr h));clear c4;go_quiet (fail)
 generalize hW : World.drewN w4 nq = w5;have HI5 : As9 (IsS127 w0 w5 g s k2 e sl) := ⟨by rw [← hW]; exact HI4.out⟩;have HB5 : As9 (Below w0.heap.size w0 w5) := ⟨by rw [← hW]; exact bN9 HB4.out _⟩;have HK5 : As9 (KeepBut w w5 g none) := ⟨by rw [← hW]; exact keep_drewN HK4.out _⟩;clear hW hc0 hc1 hc2 hc3 hf0 hf1 hf2 hf3;obtain ⟨hc0, hc1, hc2, hc3, hf0, hf1, hf2, hf3⟩ := tagger_cells HI5.out;go_wp2
 clear c5b c6b p7 q7 hx hlt c3;have hF5 := HF4.out.symm;simp only [Option.some.injEq, Prod.mk.injEq] at hF5;obtain ⟨hr1, rfl, rfl, hr4, rfl, rfl⟩ := hF5;have HR1 := A_ hr1;have HR4 := A_ hr4;clear hr1 hr4 HF4;go_loopg [] (((s.size : Int) - k2).toNat) (fun kq wr => ∃ (j : Int), k2 ≤ j ∧ j ≤ s.size ∧ As9 (kq = ((s.size : Int) - j).toNat) ∧ As9 (IsS127 w0 wr g s j e sl) ∧ As9 (plF s e j = plF s e k2) ∧ As9 (KeepBut w wr g none) ∧ As9 (Below w0.heap.size w0 wr))
 case atStart => exact ⟨k2, Int.le_refl _, b4, ⟨rfl⟩, HI5, ⟨rfl⟩, HK5, HB5⟩
 case round =>
  clear HI5 HB5 HK5 HI4 HB4 HK4 HI3 HB3 HK3 hc0 hc1 hc2 hc3 hf0 hf1 hf2 hf3;obtain ⟨j, j0, j1, HM, HT, HE, HK, HB⟩ := hrel;obtain ⟨hc0, hc1, hc2, hc3, hf0, hf1, hf2, hf3⟩ := tagger_cells HT.out;have jk : 0 ≤ j := om_;by_cases c1 : ovr s j e = true
  ·go_wp2
   go_quiet ((go_at_call 148; (refine (isOver_any g s j e sl w0 _ ?_ jk).mono ?_); exact HT.out; rintro r w' ⟨rfl, ⟨nd, rfl⟩⟩; rw [c1]; exact ⟨rfl, _, World.drewN_drewN _ _ _⟩))
   generalize hW : World.drewN wr nq = wx;have HT2 : As9 (IsS127 w0 wx g s j e sl) := ⟨by rw [← hW]; exact HT.out⟩;have HK2 : As9 (KeepBut w wx g none) := ⟨by rw [← hW]; exact HK.out⟩;have HB2 : As9 (Below w0.heap.size w0 wx) := ⟨by rw [← hW]; exact bN9 HB.out _⟩;clear hW hc0 hc1 hc2 hc3 hf0 hf1 hf2 hf3 HT HK HB;obtain ⟨hc0, hc1, hc2, hc3, hf0, hf1, hf2, hf3⟩ := tagger_cells HT2.out;go_wp2
   go_quiet (fail)
   go_wp2
   go_ret2
   exact ⟨by rw [← HR1.out, ← HE.out, plF_stop (by rw [c1]; simp)]; rfl, by rw [← HR4.out, ← HE.out, plF_stop (by rw [c1]; simp)]; exact HT2.out, bN9 HB2.out _, keep_drewN HK2.out _⟩
  ·replace c1 : ovr s j e = false := by simpa using c1
   have hlt := ovr_lt c1;have p7 := eq_true jk;have q7 := eq_true hlt;have hx := bt_at s j;have hr := bt_range s j;by_cases c2 : blk (bt s j) = true
   ·go_wp2
    go_quiet (first | (go_at_call 148; (refine (isOver_any g s j e sl w0 _ ?_ jk).mono ?_); exact HT.out; rintro r w' ⟨rfl, ⟨nd, rfl⟩⟩; rw [c1]; exact ⟨rfl, _, World.drewN_drewN _ _ _⟩) | (go_at_call 122; (refine (isBlankByte_any (bt s j) hr.1 hr.2 _).mono ?_); rintro r w' ⟨rfl, ⟨nd, rfl⟩⟩; rw [c2]; exact ⟨rfl, _, World.drewN_drewN _ _ _⟩))
    clear p7 q7 hx hr hlt;generalize hW : World.drewN wr nq = wx;have HT2 : As9 (IsS127 w0 wx g s j e sl) := ⟨by rw [← hW]; exact HT.out⟩;have HK2 : As9 (KeepBut w wx g none) := ⟨by rw [← hW]; exact HK.out⟩;have HB2 : As9 (Below w0.heap.size w0 wx) := ⟨by rw [← hW]; exact bN9 HB.out _⟩;clear hW hc0 hc1 hc2 hc3 hf0 hf1 hf2 hf3 HT HK HB;obtain ⟨hc0, hc1, hc2, hc3, hf0, hf1, hf2, hf3⟩ := tagger_cells HT2.out;go_wp2
    go_quiet (fail)
    go_wp2
    go_ret2
    exact ⟨by rw [← HR1.out, ← HE.out, plF_stop (by rw [c2]; simp)]; rfl, by rw [← HR4.out, ← HE.out, plF_stop (by rw [c2]; simp)]; exact HT2.out, bN9 HB2.out _, keep_drewN HK2.out _⟩
   ·replace c2 : blk (bt s j) = false := by simpa using c2
    go_wp2
    go_quiet (first | (go_at_call 148; (refine (isOver_any g s j e sl w0 _ ?_ jk).mono ?_); exact HT.out; rintro r w' ⟨rfl, ⟨nd, rfl⟩⟩; rw [c1]; exact ⟨rfl, _, World.drewN_drewN _ _ _⟩) | (go_at_call 122; (refine (isBlankByte_any (bt s j) hr.1 hr.2 _).mono ?_); rintro r w' ⟨rfl, ⟨nd, rfl⟩⟩; rw [c2]; exact ⟨rfl, _, World.drewN_drewN _ _ _⟩))
    generalize hW : World.drewN wr nq = wx;have HT2 : As9 (IsS127 w0 wx g s j e sl) := ⟨by rw [← hW]; exact HT.out⟩;have HK2 : As9 (KeepBut w wx g none) := ⟨by rw [← hW]; exact HK.out⟩;have HB2 : As9 (Below w0.heap.size w0 wx) := ⟨by rw [← hW]; exact bN9 HB.out _⟩;clear hW hc0 hc1 hc2 hc3 hf0 hf1 hf2 hf3 HT HK HB;obtain ⟨hc0, hc1, hc2, hc3, hf0, hf1, hf2, hf3⟩ := tagger_cells HT2.out;go_wp2
    go_roundg (((s.size : Int) - (j + 1)).toNat)
    case measure => have := HM.out; omega
    case rel => exact ⟨j + 1, om_, om_, ⟨rfl⟩, ⟨HT2.out.set_1 _⟩, ⟨by rw [← HE.out, plF_go hlt c1 c2]⟩, ⟨HK2.out.set_ _ _⟩, ⟨below_set HB2.out HT2.out.2⟩⟩
end Go.Proofs.YtkbbfeckieckoaaGreatDoor.A
