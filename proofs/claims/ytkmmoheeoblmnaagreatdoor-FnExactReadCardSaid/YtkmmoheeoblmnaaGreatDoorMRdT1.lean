-- joined by wip/tools/shake.py
import Derived.Test.YtkmmoheeoblmnaaGreatDoorVRdTW9
import Derived.Test.YtkmmoheeoblmnaaGreatDoorMRdT0
set_option maxHeartbeats 16000000
set_option maxRecDepth 100000
namespace Go.Proofs.YtkmmoheeoblmnaaGreatDoor.A
open Go.RowKit Go.Proofs.YtkmmoheeoblmnaaGreatDoorW.PrintWords Go.Proofs.YtkmmoheeoblmnaaGreatDoorW.PrintLast Go.Proofs.YtkmmoheeoblmnaaGreatDoorW.PrintMore
attribute [local go_sem] max2_int min2_int max_two min_two max_three min_three max_four min_four
set_option linter.unusedVariables false
set_option linter.unusedSimpArgs false
def spec_XmlNote.j0 : Nat → ByteArray → Int → Bool → Option (ByteArray × Int)
 | 0, _, _, _ => none
 | k + 1, x0, x1, x20 => if x20 = true then (some ((⟨#[]⟩ : BA), (-1))) else ((spec_l5Search.f k x0 (wrap64 (x1 + 4)) (⟨#[45, 45]⟩ : BA)).bind fun t439 => (if t439 < 0 then (some ((⟨#[]⟩ : BA), (-1))) else ((spec_l5Stands.f x0 t439 (⟨#[45, 45, 62]⟩ : BA)).bind fun t440 => (if t440 = true then (if 0 ≤ (wrap64 (x1 + 4)) then (if (wrap64 (x1 + 4)) ≤ t439 then (if t439 ≤ (x0.size : Int) then ((spec_NoteOk.f k (x0.extract ((wrap64 (x1 + 4)) : Int).toNat (t439 : Int).toNat)).bind fun t441 => (if t441 = true then (some (x0.extract ((wrap64 (x1 + 4)) : Int).toNat (t439 : Int).toNat, wrap64 (t439 + 3))) else (some ((⟨#[]⟩ : BA), (-1))))) else (none)) else (none)) else (none)) else (some ((⟨#[]⟩ : BA), (-1)))))))
def spec_XmlNote.f (k : Nat) (a0 : BA) (a1 : Int) : Option (ByteArray × Int) := if a1 < 0 then (spec_XmlNote.j0 k a0 a1 true) else (if a1 ≥ (a0.size : Int) then (spec_XmlNote.j0 k a0 a1 true) else ((spec_l5Stands.f a0 a1 (⟨#[60, 33, 45, 45]⟩ : BA)).bind fun t438 => (spec_XmlNote.j0 k a0 a1 (!t438))))
theorem spec_XmlNote.mono_l : ∀ k, (∀ y0 y1 y2, LeO (spec_XmlNote.j0 k y0 y1 y2) (spec_XmlNote.j0 (k + 1) y0 y1 y2))
 | 0 => fun _ _ _ r h => by simp [spec_XmlNote.j0] at h
 | k + 1 => by
  have ih0 := spec_XmlNote.mono_l k
  ·intro y0 y1 y2;unfold spec_XmlNote.j0;with_reducible repeat' first | exact ih0 _ _ _ | exact spec_NoteOk.mono _ _ | exact spec_l5Search.mono _ _ _ _ | apply LeO.refl | apply LeO.none | apply LeO.ite | apply LeO.bind | intro
theorem spec_XmlNote.mono : ∀ a0 a1 k, LeO (spec_XmlNote.f k a0 a1) (spec_XmlNote.f (k + 1) a0 a1) := by
 intro a0 a1 k;have ih0 := spec_XmlNote.mono_l k;unfold spec_XmlNote.f;with_reducible repeat' first | exact ih0 _ _ _ | exact spec_NoteOk.mono _ _ | exact spec_l5Search.mono _ _ _ _ | apply LeO.refl | apply LeO.none | apply LeO.ite | apply LeO.bind | intro
theorem spec_XmlNote.calls (k : Nat) (a0 : BA) (a1 : Int) (r1 : BA) (r2 : Int) (w : World) (h : spec_XmlNote.f k a0 a1 = some (r1, r2)) :
  Calls Tryz.prog 29 #[.string a0, .int .i64 a1] w fun e w' => e = .returned (.tuple #[.string r1, .int .i64 r2]) ∧ Below w.heap.size w w' := by
 have HB := A_ (Below.refl w.heap.size w);have H : (if a1 < 0 then (spec_XmlNote.j0 k a0 a1 true) else (if a1 ≥ (a0.size : Int) then (spec_XmlNote.j0 k a0 a1 true) else ((spec_l5Stands.f a0 a1 (⟨#[60, 33, 45, 45]⟩ : BA)).bind fun t438 => (spec_XmlNote.j0 k a0 a1 (!t438))))) = some (r1, r2) := h;clear h;have HC3 := A_ H;clear H;go_enter Tryz.func29, Tryz.ntmps29
 go_upto_region 1 with (fail)
 go_cut [20] (fun v20 wc => ∃ (kq : Nat) (x20_2 : Bool), v20 = .bool x20_2 ∧ As9 (spec_XmlNote.j0 kq a0 a1 x20_2 = some (r1, r2)) ∧ As9 (kq ≤ k) ∧ As9 (Below w.heap.size w wc))
 case first =>
  have H := HC3.out;clear HC3;rcases ic_ H with ⟨c4, H⟩ | ⟨c4, H⟩
  ·have c4b0 := dE_ c4;clear c4;(first | rw [c4b0] | (simp only [i64_w, i32_w]; rw [c4b0]) | skip)
   have H' := A_ H;clear H;go_wp2
   go_meet
   case rel => exact ⟨_, (true), e2_, H', ⟨by first | omega | exact Nat.le_refl _⟩, ⟨hB_⟩⟩
  ·have c4b0 := dF_ c4;clear c4;(first | rw [c4b0] | (simp only [i64_w, i32_w]; rw [c4b0]) | skip)
   rcases ic_ H with ⟨c5, H⟩ | ⟨c5, H⟩
   ·have c5b0 : decide ((a0.size : Int) ≤ a1) = true := dE_ c5;clear c5;have H' := A_ H;clear H;go_wp2
    go_meet
    case rel => exact ⟨_, (true), e2_, H', ⟨by first | omega | exact Nat.le_refl _⟩, ⟨hB_⟩⟩
   ·have c5b0 : decide ((a0.size : Int) ≤ a1) = false := dF_ c5;clear c5;obtain ⟨t438, A6, H⟩ := ob_ H;(try dsimp only at H)
    have H' := A_ H;clear H;go_wp2_with (first | (go_at_call 69; (with_reducible refine (spec_l5Stands.calls a0 a1 (⟨#[60, 33, 45, 45]⟩ : BA) t438 _ A6.out).mono ?_); rintro e w' ⟨rfl, ⟨nd, rfl⟩⟩))
    go_meet
    case rel => exact ⟨_, (!t438), e2_, H', ⟨by first | omega | exact Nat.le_refl _⟩, ⟨hB_⟩⟩
 case rest =>
  clear HC3;try clear c2
  try clear p2
  try clear c4
  try clear c4b0
  try clear c5
  try clear c5b0
  obtain ⟨kq, x20_2, rfl, HA, HJ2, HB⟩ := hcut;cases kq with
  | zero => exact absurd HA.out (by simp [spec_XmlNote.j0])
  | succ kj2 =>
   have H := HA.out;clear HA;simp only [spec_XmlNote.j0] at H;by_cases c7 : x20_2 = true
   ·subst c7;rw [if_pos rfl] at H;obtain ⟨rfl, rfl⟩ := pi_ H;go_wp2
    go_ret2
    exact ⟨e1_, hB_⟩
   ·replace c7 := bF_ c7;subst c7;rw [if_neg nF_] at H;obtain ⟨t439, A8, H⟩ := ob_ H;rcases ic_ H with ⟨c9, H⟩ | ⟨c9, H⟩
    ·have c9b0 := dE_ c9;clear c9;obtain ⟨rfl, rfl⟩ := pi_ H;go_wp2_with (first | ((with_reducible refine gC_ 80 ?_); refine gL_ 24 Tryz.func80 #[.string a0, .int .i64 (wrap64 (a1 + 4)), .string (⟨#[45, 45]⟩ : BA)] ?_; refine dm_ (spec_l5Search.calls kj2 a0 (wrap64 (a1 + 4)) (⟨#[45, 45]⟩ : BA) t439 _ A8.out) fun nd => ?_))
     go_ret2
     exact ⟨e1_, hB_⟩
    ·have c9b0 := dF_ c9;clear c9;obtain ⟨t440, A10, H⟩ := ob_ H;(try dsimp only at H)
     by_cases c11 : t440 = true
     ·subst c11;rw [if_pos rfl] at H;obtain ⟨ji12, hji12⟩ : ∃ j_ : Int, (wrap64 (a1 + 4)) = j_ := ⟨_, rfl⟩;replace H : (if 0 ≤ (ji12) then (if (ji12) ≤ t439 then (if t439 ≤ (a0.size : Int) then ((spec_NoteOk.f kj2 (a0.extract ((ji12) : Int).toNat (t439 : Int).toNat)).bind fun t441 => (if t441 = true then (some (a0.extract ((ji12) : Int).toNat (t439 : Int).toNat, wrap64 (t439 + 3))) else (some ((⟨#[]⟩ : BA), (-1))))) else (none)) else (none)) else (none)) = some (r1, r2) := by first | (rw [hji12] at H; exact H) | (simp only [hji12] at H ⊢; exact H)
      (try rw [hji12] at A8)
      (try rw [hji12] at A10)
      have hji12w : (IntKind.i64.wrap (a1 + 4)) = ji12 := (i64_w _).trans hji12;obtain ⟨c13, H⟩ := ifn_ H;have c13b0 := eq_true c13;have c13b1 := dE_ c13;clear c13;obtain ⟨c14, H⟩ := ifn_ H;have c14b0 := eq_true c14;have c14b1 := dE_ c14;clear c14;obtain ⟨c15, H⟩ := ifn_ H;have c15b0 := eq_true c15;have c15b1 := dE_ c15;clear c15;obtain ⟨t441, A16, H⟩ := ob_ H;(try dsimp only at H)
      by_cases c17 : t441 = true
      ·subst c17;rw [if_pos rfl] at H;have c18b0 := eq_true (dT_ : 0 ≤ (ji12));have c19b0 := eq_true (dT_ : (ji12) ≤ t439);have c20b0 := eq_true (dT_ : t439 ≤ (a0.size : Int));obtain ⟨rfl, rfl⟩ := pi_ H;go_wp2_with (first | ((with_reducible refine gC_ 80 ?_); refine goesL_ (some 24) rfl rfl Tryz.func80 (by kernel_rfl) rfl #[.string a0, .int .i64 ji12, .string (⟨#[45, 45]⟩ : BA)] rfl (by (try simp only [List.map_toArray, List.map_cons, List.map_nil]); first | done | (simp only [hji12]; rfl) | rfl | (simp only [List.length_drop, List.length_take]; rfl)) ?_; refine dm_ (spec_l5Search.calls kj2 a0 ji12 (⟨#[45, 45]⟩ : BA) t439 _ A8.out) fun nd => ?_) | (go_at_call 69; (with_reducible refine (spec_l5Stands.calls a0 t439 (⟨#[45, 45, 62]⟩ : BA) true _ A10.out).mono ?_); rintro e w' ⟨rfl, ⟨nd, rfl⟩⟩) | (go_at_call 81; (with_reducible refine (spec_NoteOk.calls kj2 (a0.extract ((ji12) : Int).toNat (t439 : Int).toNat) true _ A16.out).mono ?_); rintro e w21 ⟨rfl, hb⟩; replace HB := bS_ hb; clear hb))
       go_ret2
       exact ⟨by first | rfl | (simp [errW_none, errW_some] <;> rfl) | (simp only [← hji12]; first | rfl | (simp [errW_none, errW_some] <;> rfl)) | (simp [*, errW_none, errW_some] <;> rfl), hB_⟩
      ·replace c17 := bF_ c17;subst c17;rw [if_neg nF_] at H;obtain ⟨rfl, rfl⟩ := pi_ H;go_wp2_with (first | ((with_reducible refine gC_ 80 ?_); refine goesL_ (some 24) rfl rfl Tryz.func80 (by kernel_rfl) rfl #[.string a0, .int .i64 ji12, .string (⟨#[45, 45]⟩ : BA)] rfl (by (try simp only [List.map_toArray, List.map_cons, List.map_nil]); first | done | (simp only [hji12]; rfl) | rfl | (simp only [List.length_drop, List.length_take]; rfl)) ?_; refine dm_ (spec_l5Search.calls kj2 a0 ji12 (⟨#[45, 45]⟩ : BA) t439 _ A8.out) fun nd => ?_) | (go_at_call 69; (with_reducible refine (spec_l5Stands.calls a0 t439 (⟨#[45, 45, 62]⟩ : BA) true _ A10.out).mono ?_); rintro e w' ⟨rfl, ⟨nd, rfl⟩⟩) | (go_at_call 81; (with_reducible refine (spec_NoteOk.calls kj2 (a0.extract ((ji12) : Int).toNat (t439 : Int).toNat) false _ A16.out).mono ?_); rintro e w22 ⟨rfl, hb⟩; replace HB := bS_ hb; clear hb))
       go_ret2
       exact ⟨by first | rfl | (simp [errW_none, errW_some] <;> rfl) | (simp only [← hji12]; first | rfl | (simp [errW_none, errW_some] <;> rfl)) | (simp [*, errW_none, errW_some] <;> rfl), hB_⟩
     ·replace c11 := bF_ c11;subst c11;rw [if_neg nF_] at H;obtain ⟨rfl, rfl⟩ := pi_ H;go_wp2_with (first | ((with_reducible refine gC_ 80 ?_); refine gL_ 24 Tryz.func80 #[.string a0, .int .i64 (wrap64 (a1 + 4)), .string (⟨#[45, 45]⟩ : BA)] ?_; refine dm_ (spec_l5Search.calls kj2 a0 (wrap64 (a1 + 4)) (⟨#[45, 45]⟩ : BA) t439 _ A8.out) fun nd => ?_) | (go_at_call 69; (with_reducible refine (spec_l5Stands.calls a0 t439 (⟨#[45, 45, 62]⟩ : BA) false _ A10.out).mono ?_); rintro e w' ⟨rfl, ⟨nd, rfl⟩⟩))
      go_ret2
      exact ⟨e1_, hB_⟩
def IsS89 (w0 W : World) (g : Nat) (f0 : BA) (f1 : Int) (f2 : Bool) : Prop := W.heap[g]? = some (.cells #[.string f0, .int .i64 f1, .bool f2] 89 (0, 0)) ∧ w0.heap.size ≤ g
theorem IsS89.grown {w0 W : World} {g : Nat} {f0 : BA} {f1 : Int} {f2 : Bool} {W1 : World} {row : Option Nat} (h : IsS89 w0 W g f0 f1 f2) (hw : W.grownBy W1 row) (hne : some g ≠ row) : IsS89 w0 W1 g f0 f1 f2 := by
 obtain ⟨hb, hg⟩ := h;exact ⟨blk_grown hb hw hne, hg⟩
theorem IsS89.kept {w0 W : World} {g : Nat} {f0 : BA} {f1 : Int} {f2 : Bool} {W1 : World} {S : Nat → Prop} (h : IsS89 w0 W g f0 f1 f2) (hk : Kept W W1 S) (hne : ¬ S g) : IsS89 w0 W1 g f0 f1 f2 := by
 obtain ⟨hb, hg⟩ := h;exact ⟨blk_kept hb hk hne, hg⟩
theorem IsS89.below {w0 W : World} {g : Nat} {f0 : BA} {f1 : Int} {f2 : Bool} {W1 : World} (h : IsS89 w0 W g f0 f1 f2) (hw : Below W.heap.size W W1) : IsS89 w0 W1 g f0 f1 f2 := h.grown (grown_of_below hw none) si_
theorem IsS89.alloc {w0 W : World} {g : Nat} {f0 : BA} {f1 : Int} {f2 : Bool} (h : IsS89 w0 W g f0 f1 f2) (o : Obj) : IsS89 w0 (W.alloc o) g f0 f1 f2 := h.below (bA9 (Below.refl _ _) o)
theorem IsS89.drewN {w0 W : World} {g : Nat} {f0 : BA} {f1 : Int} {f2 : Bool} (h : IsS89 w0 W g f0 f1 f2) (m : Nat) : IsS89 w0 (W.drewN m) g f0 f1 f2 := h
theorem IsS89.drew {w0 W : World} {g : Nat} {f0 : BA} {f1 : Int} {f2 : Bool} (h : IsS89 w0 W g f0 f1 f2) : IsS89 w0 W.drew g f0 f1 f2 := h
theorem IsS89.at_ {w0 W : World} {g : Nat} {f0 : BA} {f1 : Int} {f2 : Bool} {w' : World} {m : Nat} (hq : W.drewN m = w') (h : IsS89 w0 W g f0 f1 f2) : IsS89 w0 w' g f0 f1 f2 := by subst hq; exact IsS89.drewN h m
theorem IsS89.apart {w0 W : World} {g : Nat} {f0 : BA} {f1 : Int} {f2 : Bool} {α : Type} {d : Kd α} {e : Nat} {base : Nat} {ok : Nat → Prop} {v : Value} {xs : List α} (h : IsS89 w0 W g f0 f1 f2) (ho : d.R e W base ok v xs) (ht : ∀ q, q ∈ e :: d.E → q ≠ 89) : d.R e W base (fun k => ok k ∧ k ≠ g) v xs := by
 obtain ⟨hb, hg⟩ := h;exact Kd.R_types ho hb ht
theorem IsS89.own_ne {w0 W : World} {g : Nat} {f0 : BA} {f1 : Int} {f2 : Bool} {α : Type} {d : Kd α} {e : Nat} {base : Nat} {ok : Nat → Prop} {v : Value} {xs : List α} (h : IsS89 w0 W g f0 f1 f2) (ho : d.R e W base ok v xs) (ht : e ≠ 89) : some g ≠ v.ownBlock := by
 obtain ⟨hb, hg⟩ := h;exact Kd.R_ne ho hb ht
theorem IsS89.lt {w0 W : World} {g : Nat} {f0 : BA} {f1 : Int} {f2 : Bool} (h : IsS89 w0 W g f0 f1 f2) : g < W.heap.size := by
 obtain ⟨hb, hg⟩ := h;exact blk_lt hb
theorem IsS89.ge {w0 W : World} {g : Nat} {f0 : BA} {f1 : Int} {f2 : Bool} (h : IsS89 w0 W g f0 f1 f2) : w0.heap.size ≤ g := by
 obtain ⟨hb, hg⟩ := h;exact hg
theorem IsS89.ne_blk {w0 W : World} {g : Nat} {f0 : BA} {f1 : Int} {f2 : Bool} {a : Nat} {cs : Array Value} {t : TypeId} {fr : Nat × Nat} (h : IsS89 w0 W g f0 f1 f2) (hb2 : W.heap[a]? = some (.cells cs t fr)) (ht : t ≠ 89) : g ≠ a := by
 obtain ⟨hb, hg⟩ := h;rintro rfl;rw [hb] at hb2;injection hb2 with hb2
 injection hb2 with _ ht2
 exact ht ht2.symm
theorem IsS89.far {w0 W : World} {g : Nat} {f0 : BA} {f1 : Int} {f2 : Bool} {p : Addr} (h : IsS89 w0 W g f0 f1 f2) (hne : g ≠ p.block) (u : Value) : IsS89 w0 (W.setCell p u) g f0 f1 f2 := by
 obtain ⟨hb, hg⟩ := h;exact ⟨blk_far hb hne u, hg⟩
theorem cellS89_0 {W : World} {g : Nat} {f0 : BA} {f1 : Int} {f2 : Bool} (h : W.heap[g]? = some (.cells #[.string f0, .int .i64 f1, .bool f2] 89 (0, 0))) : W.cell? ⟨g, 0, none⟩ = some (.string f0) := (blk_cell h 0).trans rfl
theorem IsS89.set_0 {w0 W : World} {g : Nat} {f0 : BA} {f1 : Int} {f2 : Bool} (h : IsS89 w0 W g f0 f1 f2) (x : BA) : IsS89 w0 (W.setCell ⟨g, 0, none⟩ (.string x)) g x f1 f2 := by
 obtain ⟨hb, hg⟩ := h;exact ⟨by simpa using blk_set hb 0 (.string x), hg⟩
theorem cellS89_1 {W : World} {g : Nat} {f0 : BA} {f1 : Int} {f2 : Bool} (h : W.heap[g]? = some (.cells #[.string f0, .int .i64 f1, .bool f2] 89 (0, 0))) : W.cell? ⟨g, 1, none⟩ = some (.int .i64 f1) := (blk_cell h 1).trans rfl
theorem IsS89.set_1 {w0 W : World} {g : Nat} {f0 : BA} {f1 : Int} {f2 : Bool} (h : IsS89 w0 W g f0 f1 f2) (x : Int) : IsS89 w0 (W.setCell ⟨g, 1, none⟩ (.int .i64 x)) g f0 x f2 := by
 obtain ⟨hb, hg⟩ := h;exact ⟨by simpa using blk_set hb 1 (.int .i64 x), hg⟩
theorem cellS89_2 {W : World} {g : Nat} {f0 : BA} {f1 : Int} {f2 : Bool} (h : W.heap[g]? = some (.cells #[.string f0, .int .i64 f1, .bool f2] 89 (0, 0))) : W.cell? ⟨g, 2, none⟩ = some (.bool f2) := (blk_cell h 2).trans rfl
theorem IsS89.set_2 {w0 W : World} {g : Nat} {f0 : BA} {f1 : Int} {f2 : Bool} (h : IsS89 w0 W g f0 f1 f2) (x : Bool) : IsS89 w0 (W.setCell ⟨g, 2, none⟩ (.bool x)) g f0 f1 x := by
 obtain ⟨hb, hg⟩ := h;exact ⟨by simpa using blk_set hb 2 (.bool x), hg⟩
theorem IsS89.new (w0 W : World) (f0 : BA) (f1 : Int) (f2 : Bool) (hB : Below w0.heap.size w0 W) : IsS89 w0 (W.alloc (.cells #[.string f0, .int .i64 f1, .bool f2] 89)) W.heap.size f0 f1 f2 := ⟨by simpa using heap_alloc_new W _, hB.size⟩
def spec_l19Take.f (s0_0 : BA) (s0_1 : Int) (s0_2 : Bool) (a1 : BA) : Option (ByteArray × Int × Bool) := if s0_2 = true then ((spec_l5Stands.f s0_0 s0_1 a1).bind fun t494 => (if t494 = true then (some (s0_0, wrap64 (s0_1 + (a1.size : Int)), s0_2)) else (some (s0_0, s0_1, false)))) else (some (s0_0, s0_1, false))
theorem spec_l19Take.calls (g : Nat) (s0_0 : BA) (s0_1 : Int) (s0_2 : Bool) (a1 : BA) (r1 : BA) (r2 : Int) (r3 : Bool) (w0 w : World) (hI : IsS89 w0 w g s0_0 s0_1 s0_2) (hB : Below w0.heap.size w0 w) (h : spec_l19Take.f s0_0 s0_1 s0_2 a1 = some (r1, r2, r3)) :
  Calls Tryz.prog 91 #[.pointer (some ⟨g, 0, none⟩), .string a1] w fun e w' => e = .returned (.tuple #[]) ∧ IsS89 w0 w' g r1 r2 r3 ∧ Below w0.heap.size w0 w' ∧ KeepBut w w' g none := by
 have HI0 := A_ hI;have HK := A_ (KeepBut.refl w g none);have HL := A_ hB.size;clear hI;have HW0 := A_ hB.size;have HB := A_ hB;clear hB;have H : (if s0_2 = true then ((spec_l5Stands.f s0_0 s0_1 a1).bind fun t494 => (if t494 = true then (some (s0_0, wrap64 (s0_1 + (a1.size : Int)), s0_2)) else (some (s0_0, s0_1, false)))) else (some (s0_0, s0_1, false))) = some (r1, r2, r3) := h;clear h;by_cases c3 : s0_2 = true
 ·subst c3;rw [if_pos rfl] at H;obtain ⟨t494, A4, H⟩ := ob_ H;(try dsimp only at H)
  by_cases c5 : t494 = true
  ·subst c5;rw [if_pos rfl] at H;obtain ⟨rfl, rfl, rfl⟩ := pj_ H;obtain ⟨HGz6, hgz6⟩ := HI0.out;have hcz6_0 := cellS89_0 HGz6;have hcz6_1 := cellS89_1 HGz6;have hcz6_2 := cellS89_2 HGz6;have hfz6_0 := blk_frozen HGz6 0;have hfz6_1 := blk_frozen HGz6 1;have hfz6_2 := blk_frozen HGz6 2;clear HGz6 hgz6;go_enter Tryz.func91, Tryz.ntmps91
   go_wp2_with (first | (go_at_call 69; (with_reducible refine (spec_l5Stands.calls s0_0 s0_1 a1 true _ A4.out).mono ?_); rintro e w' ⟨rfl, ⟨nd, rfl⟩⟩; (try exact dd_)))
   repeat (go_quiet (first | (go_at_call 69; (with_reducible refine (spec_l5Stands.calls s0_0 s0_1 a1 true _ A4.out).mono ?_); rintro e w' ⟨rfl, ⟨nd, rfl⟩⟩; (try exact dd_))); try go_wp2_with (first | (go_at_call 69; (with_reducible refine (spec_l5Stands.calls s0_0 s0_1 a1 true _ A4.out).mono ?_); rintro e w' ⟨rfl, ⟨nd, rfl⟩⟩; (try exact dd_))))
   first | go_end0 | ((try simp only [Exit.inBlock, Exit.then]); refine bodyPost_ret (results_none rfl _ _ _) rfl ?_)
   exact ⟨e1_, by repeat (first | (with_reducible first | exact HI0.out | apply IsS89.alloc | apply IsS89.drewN | apply IsS89.drew | apply IsS89.set_0 | apply IsS89.set_1 | apply IsS89.set_2) | exact HI0.out), by repeat (first | (with_reducible first | exact HB.out | apply bA9 | apply bN9 | apply bD9 | refine below_set ?_ (IsS89.ge HI0.out)) | exact HB.out), by repeat (first | (with_reducible first | exact HK.out | apply KeepBut.set_ | apply keep_drewN | apply keep_drew | apply keep_alloc) | exact HK.out)⟩
  ·replace c5 := bF_ c5;subst c5;rw [if_neg nF_] at H;obtain ⟨rfl, rfl, rfl⟩ := pj_ H;obtain ⟨HGz7, hgz7⟩ := HI0.out;have hcz7_0 := cellS89_0 HGz7;have hcz7_1 := cellS89_1 HGz7;have hcz7_2 := cellS89_2 HGz7;have hfz7_0 := blk_frozen HGz7 0;have hfz7_1 := blk_frozen HGz7 1;have hfz7_2 := blk_frozen HGz7 2;clear HGz7 hgz7;go_enter Tryz.func91, Tryz.ntmps91
   go_wp2_with (first | (go_at_call 69; (with_reducible refine (spec_l5Stands.calls s0_0 s0_1 a1 false _ A4.out).mono ?_); rintro e w' ⟨rfl, ⟨nd, rfl⟩⟩; (try exact dd_)))
   repeat (go_quiet (first | (go_at_call 69; (with_reducible refine (spec_l5Stands.calls s0_0 s0_1 a1 false _ A4.out).mono ?_); rintro e w' ⟨rfl, ⟨nd, rfl⟩⟩; (try exact dd_))); try go_wp2_with (first | (go_at_call 69; (with_reducible refine (spec_l5Stands.calls s0_0 s0_1 a1 false _ A4.out).mono ?_); rintro e w' ⟨rfl, ⟨nd, rfl⟩⟩; (try exact dd_))))
   first | go_end0 | ((try simp only [Exit.inBlock, Exit.then]); refine bodyPost_ret (results_none rfl _ _ _) rfl ?_)
   exact ⟨e1_, by repeat (first | (with_reducible first | exact HI0.out | apply IsS89.alloc | apply IsS89.drewN | apply IsS89.drew | apply IsS89.set_0 | apply IsS89.set_1 | apply IsS89.set_2) | exact HI0.out), by repeat (first | (with_reducible first | exact HB.out | apply bA9 | apply bN9 | apply bD9 | refine below_set ?_ (IsS89.ge HI0.out)) | exact HB.out), by repeat (first | (with_reducible first | exact HK.out | apply KeepBut.set_ | apply keep_drewN | apply keep_drew | apply keep_alloc) | exact HK.out)⟩
 ·replace c3 := bF_ c3;subst c3;rw [if_neg nF_] at H;obtain ⟨rfl, rfl, rfl⟩ := pj_ H;obtain ⟨HGz8, hgz8⟩ := HI0.out;have hcz8_0 := cellS89_0 HGz8;have hcz8_1 := cellS89_1 HGz8;have hcz8_2 := cellS89_2 HGz8;have hfz8_0 := blk_frozen HGz8 0;have hfz8_1 := blk_frozen HGz8 1;have hfz8_2 := blk_frozen HGz8 2;clear HGz8 hgz8;go_enter Tryz.func91, Tryz.ntmps91
  go_wp2
  repeat (go_quiet (fail); try go_wp2)
  first | go_end0 | ((try simp only [Exit.inBlock, Exit.then]); refine bodyPost_ret (results_none rfl _ _ _) rfl ?_)
  exact ⟨e1_, by repeat (first | (with_reducible first | exact HI0.out | apply IsS89.alloc | apply IsS89.drewN | apply IsS89.drew | apply IsS89.set_0 | apply IsS89.set_1 | apply IsS89.set_2) | exact HI0.out), by repeat (first | (with_reducible first | exact HB.out | apply bA9 | apply bN9 | apply bD9 | refine below_set ?_ (IsS89.ge HI0.out)) | exact HB.out), by repeat (first | (with_reducible first | exact HK.out | apply KeepBut.set_ | apply keep_drewN | apply keep_drew | apply keep_alloc) | exact HK.out)⟩
def spec_l1Max.f (a0 : Int) (a1 : Int) : Option (Int) := if a0 > a1 then (some a0) else (some a1)
theorem spec_l1Max.calls (a0 : Int) (a1 : Int) (r : Int) (w : World) (h : spec_l1Max.f a0 a1 = some r) :
  Calls Tryz.prog 92 #[.int .i64 a0, .int .i64 a1] w fun e w' => e = .returned (.int .i64 r) ∧ Drawn0 w w' := by
 have H : (if a0 > a1 then (some a0) else (some a1)) = some r := h;clear h;rcases ic_ H with ⟨c3, H⟩ | ⟨c3, H⟩
 ·have c3b0 : decide (a1 < a0) = true := dE_ c3;clear c3;obtain rfl := sI_ H;go_enter Tryz.func92, Tryz.ntmps92
  go_wp2
  go_ret
  exact ⟨e2_, d0_⟩
 ·have c3b0 : decide (a1 < a0) = false := dF_ c3;clear c3;obtain rfl := sI_ H;go_enter Tryz.func92, Tryz.ntmps92
  go_wp2
  go_ret
  exact ⟨e2_, d0_⟩
def spec_IsLetter.f (a0 : Int) : Option (Bool) := (spec_l1In.f a0 97 122).bind fun t260 => (if t260 = true then (some true) else ((spec_l1In.f a0 65 90).bind fun t261 => (some t261)))
theorem spec_IsLetter.calls (a0 : Int) (r : Bool) (w : World) (h : spec_IsLetter.f a0 = some r) :
  Calls Tryz.prog 112 #[.int .i64 a0] w fun e w' => e = .returned (.bool r) ∧ Drawn0 w w' := by
 have H : ((spec_l1In.f a0 97 122).bind fun t260 => (if t260 = true then (some true) else ((spec_l1In.f a0 65 90).bind fun t261 => (some t261)))) = some r := h;clear h;obtain ⟨t260, A2, H⟩ := ob_ H;(try dsimp only at H)
 by_cases c3 : t260 = true
 ·subst c3;rw [if_pos rfl] at H;obtain rfl := sI_ H;go_enter Tryz.func112, Tryz.ntmps112
  go_wp2_with (first | ((with_reducible refine gC_ 111 ?_); refine gL_ 4 Tryz.func111 #[.int .i64 a0, .int .i64 97, .int .i64 122] ?_; refine dm_ (spec_l1In.calls a0 97 122 true _ A2.out) fun nd => ?_))
  go_ret
  exact ⟨e2_, d0_⟩
 ·replace c3 := bF_ c3;subst c3;rw [if_neg nF_] at H;obtain ⟨t261, A4, H⟩ := ob_ H;obtain rfl := sI_ H;go_enter Tryz.func112, Tryz.ntmps112
  go_wp2_with (first | ((with_reducible refine gC_ 111 ?_); refine gL_ 4 Tryz.func111 #[.int .i64 a0, .int .i64 97, .int .i64 122] ?_; refine dm_ (spec_l1In.calls a0 97 122 false _ A2.out) fun nd => ?_) | (go_at_call 111; (with_reducible refine (spec_l1In.calls a0 65 90 t261 _ A4.out).mono ?_); rintro e w' ⟨rfl, ⟨nd, rfl⟩⟩))
  go_ret
  exact ⟨e2_, d0_⟩
def spec_l2Within.l0 : Nat → List Int → Int → Int → Option (Bool)
 | 0, _, _, _ => none
 | k + 1, x0, x1, x5 => if (wrap64 (x5 + 1)) < (x0.length : Int) then (if 0 ≤ x5 then (if x5 < (x0.length : Int) then (if 0 ≤ (wrap64 (x5 + 1)) then ((spec_l1In.f x1 (rd x0 x5) (rd x0 (wrap64 (x5 + 1)))).bind fun t264 => (if t264 = true then (some true) else (spec_l2Within.l0 k x0 x1 (wrap64 (x5 + 2))))) else (none)) else (none)) else (none)) else (some false)
def spec_l2Within.f (k : Nat) (l0 : List Int) (a1 : Int) : Option (Bool) := spec_l2Within.l0 k l0 a1 0
theorem spec_l2Within.mono_l : ∀ k, (∀ y0 y1 y2, LeO (spec_l2Within.l0 k y0 y1 y2) (spec_l2Within.l0 (k + 1) y0 y1 y2))
 | 0 => fun _ _ _ r h => by simp [spec_l2Within.l0] at h
 | k + 1 => by
  have ih0 := spec_l2Within.mono_l k
  ·intro y0 y1 y2;unfold spec_l2Within.l0;with_reducible repeat' first | exact ih0 _ _ _ | apply LeO.refl | apply LeO.none | apply LeO.ite | apply LeO.bind | intro
theorem spec_l2Within.mono : ∀ a0 a1 k, LeO (spec_l2Within.f k a0 a1) (spec_l2Within.f (k + 1) a0 a1) := by
 intro a0 a1 k;have ih0 := spec_l2Within.mono_l k;unfold spec_l2Within.f;with_reducible repeat' first | exact ih0 _ _ _ | apply LeO.refl | apply LeO.none | apply LeO.ite | apply LeO.bind | intro
theorem spec_l2Within.calls (k : Nat) (A0 : Option Addr) (c0 : Nat) (l0 : List Int) (a1 : Int) (r : Bool) (w : World) (hr0 : Kd.C (Kd.int .i64) w A0 l0.length l0) (hc0 : l0.length ≤ c0) (h : spec_l2Within.f k l0 a1 = some r) :
  Calls Tryz.prog 113 #[.slice A0 l0.length c0, .int .i64 a1] w fun e w' => e = .returned (.bool r) ∧ Drawn0 w w' := by
 have HR0 := A_ hr0;have HC0 := A_ hc0;clear hr0 hc0;have H : (spec_l2Within.l0 k l0 a1 0) = some r := h;clear h;have H' := A_ H;clear H;go_enter Tryz.func113, Tryz.ntmps113
 go_wp2
 repeat (go_quiet (fail); try go_wp2)
 go_loopg [5] k (fun kq v5 w' => ∃ (x5_1 : Int), v5 = .int .i64 x5_1 ∧ As9 (spec_l2Within.l0 kq l0 a1 x5_1 = some r) ∧ As9 (kq ≤ k) ∧ Drawn0 w w')
 case atStart => exact ⟨(0), e2_, H', ⟨Nat.le_refl _⟩, d0_⟩
 case round =>
  clear H';try clear c1
  try clear p2
  obtain ⟨x5_1, rfl, HA, HK1, ⟨m1, rfl⟩⟩ := hrel;cases gk with
  | zero => exact absurd HA.out (by simp [spec_l2Within.l0])
  | succ k1 =>
   have H := HA.out;clear HA;simp only [spec_l2Within.l0] at H;rcases ic_ H with ⟨c3, H⟩ | ⟨c3, H⟩
   ·have c3b0 := dE_ c3;clear c3;obtain ⟨c4, H⟩ := ifn_ H;have c4b0 := dE_ c4;clear c4;obtain ⟨c5, H⟩ := ifn_ H;have c5b0 := dE_ c5;clear c5;obtain ⟨ji6, hji6⟩ : ∃ j_ : Int, (wrap64 (x5_1 + 1)) = j_ := ⟨_, rfl⟩;replace H : (if 0 ≤ (ji6) then ((spec_l1In.f a1 (rd l0 x5_1) (rd l0 (ji6))).bind fun t264 => (if t264 = true then (some true) else (spec_l2Within.l0 k1 l0 a1 (wrap64 (x5_1 + 2))))) else (none)) = some r := by first | (rw [hji6] at H; exact H) | (simp only [hji6] at H ⊢; exact H)
    (try rw [hji6] at c3b0)
    have hji6w : (IntKind.i64.wrap (x5_1 + 1)) = ji6 := (i64_w _).trans hji6;obtain ⟨c7, H⟩ := ifn_ H;have c7b0 := dE_ c7;clear c7;obtain ⟨t264, A8, H⟩ := ob_ H;(try dsimp only at H)
    by_cases c9 : t264 = true
    ·subst c9;rw [if_pos rfl] at H;obtain rfl := sI_ H;have p262 : 0 ≤ (x5_1 : Int) := dT_;have q262 : x5_1 < (l0.length : Int) := dT_;obtain ⟨ad262, e262, hx262_0⟩ := Kd.at_int HR0.out x5_1 p262 q262;cases e262;replace p262 := eq_true p262;replace q262 := eq_true q262;have p263 : 0 ≤ ((ji6) : Int) := dT_;have q263 : (ji6) < (l0.length : Int) := dT_;obtain ⟨ad263, e263, hx263_0⟩ := Kd.at_int HR0.out (ji6) p263 q263;obtain rfl : ad262 = ad263 := (by injection e263);replace p263 := eq_true p263;replace q263 := eq_true q263;go_wp2_with (first | (go_at_call 111; (with_reducible refine (spec_l1In.calls a1 (rd l0 x5_1) (rd l0 (ji6)) true _ A8.out).mono ?_); rintro e w' ⟨rfl, ⟨nd, rfl⟩⟩; (try exact dd_)))
     repeat (go_quiet (first | (go_at_call 111; (with_reducible refine (spec_l1In.calls a1 (rd l0 x5_1) (rd l0 (ji6)) true _ A8.out).mono ?_); rintro e w' ⟨rfl, ⟨nd, rfl⟩⟩; (try exact dd_))); try go_wp2_with (first | (go_at_call 111; (with_reducible refine (spec_l1In.calls a1 (rd l0 x5_1) (rd l0 (ji6)) true _ A8.out).mono ?_); rintro e w' ⟨rfl, ⟨nd, rfl⟩⟩; (try exact dd_))))
     go_ret
     exact ⟨by first | rfl | (simp; done) | (simp only [← hji6] <;> (first | rfl | simp)) | (simp [*]; done), d0_⟩
    ·replace c9 := bF_ c9;subst c9;rw [if_neg nF_] at H;have H' := A_ H;clear H;have p262 : 0 ≤ (x5_1 : Int) := dT_;have q262 : x5_1 < (l0.length : Int) := dT_;obtain ⟨ad262, e262, hx262_0⟩ := Kd.at_int HR0.out x5_1 p262 q262;cases e262;replace p262 := eq_true p262;replace q262 := eq_true q262;have p263 : 0 ≤ ((ji6) : Int) := dT_;have q263 : (ji6) < (l0.length : Int) := dT_;obtain ⟨ad263, e263, hx263_0⟩ := Kd.at_int HR0.out (ji6) p263 q263;obtain rfl : ad262 = ad263 := (by injection e263);replace p263 := eq_true p263;replace q263 := eq_true q263;go_wp2_with (first | (go_at_call 111; (with_reducible refine (spec_l1In.calls a1 (rd l0 x5_1) (rd l0 (ji6)) false _ A8.out).mono ?_); rintro e w' ⟨rfl, ⟨nd, rfl⟩⟩; (try exact dd_)))
     repeat (go_quiet (first | (go_at_call 111; (with_reducible refine (spec_l1In.calls a1 (rd l0 x5_1) (rd l0 (ji6)) false _ A8.out).mono ?_); rintro e w' ⟨rfl, ⟨nd, rfl⟩⟩; (try exact dd_))); try go_wp2_with (first | (go_at_call 111; (with_reducible refine (spec_l1In.calls a1 (rd l0 x5_1) (rd l0 (ji6)) false _ A8.out).mono ?_); rintro e w' ⟨rfl, ⟨nd, rfl⟩⟩; (try exact dd_))))
     go_roundg k1
     case measure => have := HK1.out; omega
     case rel => exact ⟨(wrap64 (x5_1 + 2)), e2_, H', ⟨by have := HK1.out; omega⟩, d0_⟩
   ·have c3b0 := dF_ c3;clear c3;obtain rfl := sI_ H;go_wp2
    repeat (go_quiet (fail); try go_wp2)
    go_ret
    exact ⟨e2_, d0_⟩
def spec_IsFirst.f (k : Nat) (a0 : Int) : Option (Bool) := (spec_IsLetter.f a0).bind fun t265 => (if t265 = true then (some true) else (if a0 = 95 then (some true) else ((spec_l2Within.f k (([192, 214, 216, 246, 248, 767, 880, 893, 895, 8191, 8204, 8205, 8304, 8591, 11264, 12271, 12289, 55295, 63744, 64975, 65008, 65533, 65536, 983039] : List Int)) a0).bind fun t269 => (some t269))))
theorem spec_IsFirst.mono : ∀ a0 k, LeO (spec_IsFirst.f k a0) (spec_IsFirst.f (k + 1) a0) := by
 intro a0 k;unfold spec_IsFirst.f;with_reducible repeat' first | exact spec_l2Within.mono _ _ _ | apply LeO.refl | apply LeO.none | apply LeO.ite | apply LeO.bind | intro
theorem spec_IsFirst.calls (k : Nat) (a0 : Int) (r : Bool) (w : World) (h : spec_IsFirst.f k a0 = some r) :
  Calls Tryz.prog 59 #[.int .i64 a0] w fun e w' => e = .returned (.bool r) ∧ Below w.heap.size w w' := by
 have HB := A_ (Below.refl w.heap.size w);have H : ((spec_IsLetter.f a0).bind fun t265 => (if t265 = true then (some true) else (if a0 = 95 then (some true) else ((spec_l2Within.f k (([192, 214, 216, 246, 248, 767, 880, 893, 895, 8191, 8204, 8205, 8304, 8591, 11264, 12271, 12289, 55295, 63744, 64975, 65008, 65533, 65536, 983039] : List Int)) a0).bind fun t269 => (some t269))))) = some r := h;clear h;obtain ⟨t265, A2, H⟩ := ob_ H;(try dsimp only at H)
 by_cases c3 : t265 = true
 ·subst c3;rw [if_pos rfl] at H;obtain rfl := sI_ H;go_enter Tryz.func59, Tryz.ntmps59
  go_wp2_with (first | ((with_reducible refine gC_ 112 ?_); refine gL_ 4 Tryz.func112 #[.int .i64 a0] ?_; refine dm_ (spec_IsLetter.calls a0 true _ A2.out) fun nd => ?_))
  go_ret
  exact ⟨e1_, hB_⟩
 ·replace c3 := bF_ c3;subst c3;rw [if_neg nF_] at H;rcases ic_ H with ⟨c4, H⟩ | ⟨c4, H⟩
  ·obtain ⟨c4b0, c4b1⟩ := be_ c4;clear c4;obtain rfl := sI_ H;go_enter Tryz.func59, Tryz.ntmps59
   go_wp2_with (first | ((with_reducible refine gC_ 112 ?_); refine gL_ 4 Tryz.func112 #[.int .i64 a0] ?_; refine dm_ (spec_IsLetter.calls a0 false _ A2.out) fun nd => ?_))
   go_ret
   exact ⟨e1_, hB_⟩
  ·obtain ⟨c4b0, c4b1⟩ := bn_ c4;obtain ⟨y266, hy266⟩ : ∃ y_ : List Int, y_ = (([192, 214, 216, 246, 248, 767, 880, 893, 895, 8191, 8204, 8205, 8304, 8591, 11264, 12271, 12289, 55295, 63744, 64975, 65008, 65533, 65536, 983039] : List Int)) := ⟨_, rfl⟩;replace H : ((spec_l2Within.f k y266 a0).bind fun t269 => (some t269)) = some r := by first | (rw [hy266]; with_reducible exact H) | (have H2_ := (Option.bind_some _ _).symm.trans H; rw [hy266]; with_reducible exact H2_) | (have H2_ := (Option.bind_some _ _).symm.trans H; with_reducible exact H2_) | with_reducible exact H | (rw [hy266]; exact H) | exact H
   have Ny266 := A_ hy266;clear hy266;obtain ⟨t269, A5, H⟩ := ob_ H;obtain rfl := sI_ H;go_enter Tryz.func59, Tryz.ntmps59
   go_wp2_with (first | ((with_reducible refine gC_ 112 ?_); refine gL_ 4 Tryz.func112 #[.int .i64 a0] ?_; refine dm_ (spec_IsLetter.calls a0 false _ A2.out) fun nd => ?_) | ((with_reducible refine gate_dst (N := 10) rfl ?_); (try (refine gate_guard (by rfl) ?_; dsimp only)); refine rl_ (Kd.int .i64) 3 10 [192, 214, 216, 246, 248, 767, 880, 893, 895, 8191, 8204, 8205, 8304, 8591, 11264, 12271, 12289, 55295, 63744, 64975, 65008, 65533, 65536, 983039] [.int .i64 192, .int .i64 214, .int .i64 216, .int .i64 246, .int .i64 248, .int .i64 767, .int .i64 880, .int .i64 893, .int .i64 895, .int .i64 8191, .int .i64 8204, .int .i64 8205, .int .i64 8304, .int .i64 8591, .int .i64 11264, .int .i64 12271, .int .i64 12289, .int .i64 55295, .int .i64 63744, .int .i64 64975, .int .i64 65008, .int .i64 65533, .int .i64 65536, .int .i64 983039] ?_; intro v267 w6 ho7 hb hg_ hnew_; clear hg_ hnew_; (first | rw [← Ny266.out] at ho7 | (simp only [Int.reduceToNat] at ho7; rw [← Ny266.out] at ho7)); have HO268 := A_ (Kd.R_lower ho7 (below_size hB_)); replace HB := bS_ hb; clear hb ho7; obtain ⟨Ao8, co8, eo8⟩ := Kd.R_slice HO268.out; subst eo8) | (go_at_call 113; (with_reducible refine (spec_l2Within.calls k _ _ y266 a0 t269 _ ?side1 ?side2 A5.out).mono ?_); (case side1 => repeat (first | exact (Kd.R_reads' HO268.out).2.2 | (with_reducible refine Kd.C_alloc ?_ _) | (with_reducible refine Kd.C_drewN ?_ _) | (with_reducible refine Kd.C_drew ?_))); (case side2 => exact (Kd.R_reads' HO268.out).2.1); rintro e w' ⟨rfl, ⟨nd, rfl⟩⟩))
   go_ret
   exact ⟨e1_, hB_⟩
def spec_IsNext.f (k : Nat) (a0 : Int) : Option (Bool) := (spec_IsFirst.f k a0).bind fun t270 => (if t270 = true then (some true) else (if a0 = 45 then (some true) else (if a0 = 46 then (some true) else (if a0 = 183 then (some true) else ((spec_l2Within.f k (([48, 57, 768, 879, 8255, 8256] : List Int)) a0).bind fun t274 => (some t274))))))
theorem spec_IsNext.mono : ∀ a0 k, LeO (spec_IsNext.f k a0) (spec_IsNext.f (k + 1) a0) := by
 intro a0 k;unfold spec_IsNext.f;with_reducible repeat' first | exact spec_IsFirst.mono _ _ | exact spec_l2Within.mono _ _ _ | apply LeO.refl | apply LeO.none | apply LeO.ite | apply LeO.bind | intro
theorem spec_IsNext.calls (k : Nat) (a0 : Int) (r : Bool) (w : World) (h : spec_IsNext.f k a0 = some r) :
  Calls Tryz.prog 60 #[.int .i64 a0] w fun e w' => e = .returned (.bool r) ∧ Below w.heap.size w w' := by
 have HB := A_ (Below.refl w.heap.size w);have H : ((spec_IsFirst.f k a0).bind fun t270 => (if t270 = true then (some true) else (if a0 = 45 then (some true) else (if a0 = 46 then (some true) else (if a0 = 183 then (some true) else ((spec_l2Within.f k (([48, 57, 768, 879, 8255, 8256] : List Int)) a0).bind fun t274 => (some t274))))))) = some r := h;clear h;obtain ⟨t270, A2, H⟩ := ob_ H;(try dsimp only at H)
 by_cases c3 : t270 = true
 ·subst c3;rw [if_pos rfl] at H;obtain rfl := sI_ H;go_enter Tryz.func60, Tryz.ntmps60
  go_wp2_with (first | ((with_reducible refine gC_ 59 ?_); refine gL_ 4 Tryz.func59 #[.int .i64 a0] ?_; refine bm_ (spec_IsFirst.calls k a0 true _ A2.out) ?_; clear HB; intro w4 HB))
  go_ret
  exact ⟨e1_, hB_⟩
 ·replace c3 := bF_ c3;subst c3;rw [if_neg nF_] at H;rcases ic_ H with ⟨c5, H⟩ | ⟨c5, H⟩
  ·obtain ⟨c5b0, c5b1⟩ := be_ c5;clear c5;obtain rfl := sI_ H;go_enter Tryz.func60, Tryz.ntmps60
   go_wp2_with (first | ((with_reducible refine gC_ 59 ?_); refine gL_ 4 Tryz.func59 #[.int .i64 a0] ?_; refine bm_ (spec_IsFirst.calls k a0 false _ A2.out) ?_; clear HB; intro w6 HB))
   go_ret
   exact ⟨e1_, hB_⟩
  ·obtain ⟨c5b0, c5b1⟩ := bn_ c5;rcases ic_ H with ⟨c7, H⟩ | ⟨c7, H⟩
   ·obtain ⟨c7b0, c7b1⟩ := be_ c7;clear c7;obtain rfl := sI_ H;go_enter Tryz.func60, Tryz.ntmps60
    go_wp2_with (first | ((with_reducible refine gC_ 59 ?_); refine gL_ 4 Tryz.func59 #[.int .i64 a0] ?_; refine bm_ (spec_IsFirst.calls k a0 false _ A2.out) ?_; clear HB; intro w8 HB))
    go_ret
    exact ⟨e1_, hB_⟩
   ·obtain ⟨c7b0, c7b1⟩ := bn_ c7;rcases ic_ H with ⟨c9, H⟩ | ⟨c9, H⟩
    ·obtain ⟨c9b0, c9b1⟩ := be_ c9;clear c9;obtain rfl := sI_ H;go_enter Tryz.func60, Tryz.ntmps60
     go_wp2_with (first | ((with_reducible refine gC_ 59 ?_); refine gL_ 4 Tryz.func59 #[.int .i64 a0] ?_; refine bm_ (spec_IsFirst.calls k a0 false _ A2.out) ?_; clear HB; intro w10 HB))
     go_ret
     exact ⟨e1_, hB_⟩
    ·obtain ⟨c9b0, c9b1⟩ := bn_ c9;obtain ⟨y271, hy271⟩ : ∃ y_ : List Int, y_ = (([48, 57, 768, 879, 8255, 8256] : List Int)) := ⟨_, rfl⟩;replace H : ((spec_l2Within.f k y271 a0).bind fun t274 => (some t274)) = some r := by first | (rw [hy271]; with_reducible exact H) | (have H2_ := (Option.bind_some _ _).symm.trans H; rw [hy271]; with_reducible exact H2_) | (have H2_ := (Option.bind_some _ _).symm.trans H; with_reducible exact H2_) | with_reducible exact H | (rw [hy271]; exact H) | exact H
     have Ny271 := A_ hy271;clear hy271;obtain ⟨t274, A11, H⟩ := ob_ H;obtain rfl := sI_ H;go_enter Tryz.func60, Tryz.ntmps60
     go_wp2_with (first | ((with_reducible refine gC_ 59 ?_); refine gL_ 4 Tryz.func59 #[.int .i64 a0] ?_; refine bm_ (spec_IsFirst.calls k a0 false _ A2.out) ?_; clear HB; intro w12 HB) | ((with_reducible refine gate_dst (N := 18) rfl ?_); (try (refine gate_guard (by rfl) ?_; dsimp only)); refine rl_ (Kd.int .i64) 3 18 [48, 57, 768, 879, 8255, 8256] [.int .i64 48, .int .i64 57, .int .i64 768, .int .i64 879, .int .i64 8255, .int .i64 8256] ?_; intro v272 w13 ho14 hb hg_ hnew_; clear hg_ hnew_; (first | rw [← Ny271.out] at ho14 | (simp only [Int.reduceToNat] at ho14; rw [← Ny271.out] at ho14)); have HO273 := A_ (Kd.R_lower ho14 (below_size hB_)); replace HB := bS_ hb; clear hb ho14; obtain ⟨Ao15, co15, eo15⟩ := Kd.R_slice HO273.out; subst eo15) | (go_at_call 113; (with_reducible refine (spec_l2Within.calls k _ _ y271 a0 t274 _ ?side1 ?side2 A11.out).mono ?_); (case side1 => repeat (first | exact (Kd.R_reads' HO273.out).2.2 | (with_reducible refine Kd.C_alloc ?_ _) | (with_reducible refine Kd.C_drewN ?_ _) | (with_reducible refine Kd.C_drew ?_))); (case side2 => exact (Kd.R_reads' HO273.out).2.1); rintro e w' ⟨rfl, ⟨nd, rfl⟩⟩))
     go_ret
     exact ⟨e1_, hB_⟩
mutual
def spec_XmlName.j0 : Nat → ByteArray → Int → Bool → Option (ByteArray × Int)
 | 0, _, _, _ => none
 | k + 1, x0, x1, x16 => if x16 = true then (some ((⟨#[]⟩ : BA), x1)) else (spec_XmlName.l0 k x0 x1 x1)
def spec_XmlName.l0 : Nat → ByteArray → Int → Int → Option (ByteArray × Int)
 | 0, _, _, _ => none
 | k + 1, x0, x1, x6 => if x6 < (x0.size : Int) then ((spec_GetSign.f k x0 x6).bind fun bt290 => (if x6 = x1 then ((spec_IsFirst.f k bt290.1).bind fun t292 => (if t292 = true then ((spec_IsNext.f k bt290.1).bind fun t293 => (if t293 = true then ((spec_PutSign.f k bt290.1).bind fun t294 => (if 0 ≤ x6 then (if x6 ≤ (wrap64 (x6 + bt290.2)) then (if (wrap64 (x6 + bt290.2)) ≤ (x0.size : Int) then (if t294.toList = (x0.extract (x6 : Int).toNat ((wrap64 (x6 + bt290.2)) : Int).toNat).toList then (spec_XmlName.l0 k x0 x1 (wrap64 (x6 + bt290.2))) else (if 0 ≤ x1 then (if x1 ≤ x6 then (if x6 ≤ (x0.size : Int) then (some (x0.extract (x1 : Int).toNat (x6 : Int).toNat, x6)) else (none)) else (none)) else (none))) else (none)) else (none)) else (none))) else (if 0 ≤ x1 then (if x1 ≤ x6 then (if x6 ≤ (x0.size : Int) then (some (x0.extract (x1 : Int).toNat (x6 : Int).toNat, x6)) else (none)) else (none)) else (none)))) else (if 0 ≤ x1 then (if x1 ≤ x6 then (if x6 ≤ (x0.size : Int) then (some (x0.extract (x1 : Int).toNat (x6 : Int).toNat, x6)) else (none)) else (none)) else (none)))) else ((spec_IsNext.f k bt290.1).bind fun t295 => (if t295 = true then ((spec_PutSign.f k bt290.1).bind fun t296 => (if 0 ≤ x6 then (if x6 ≤ (wrap64 (x6 + bt290.2)) then (if (wrap64 (x6 + bt290.2)) ≤ (x0.size : Int) then (if t296.toList = (x0.extract (x6 : Int).toNat ((wrap64 (x6 + bt290.2)) : Int).toNat).toList then (spec_XmlName.l0 k x0 x1 (wrap64 (x6 + bt290.2))) else (if 0 ≤ x1 then (if x1 ≤ x6 then (if x6 ≤ (x0.size : Int) then (some (x0.extract (x1 : Int).toNat (x6 : Int).toNat, x6)) else (none)) else (none)) else (none))) else (none)) else (none)) else (none))) else (if 0 ≤ x1 then (if x1 ≤ x6 then (if x6 ≤ (x0.size : Int) then (some (x0.extract (x1 : Int).toNat (x6 : Int).toNat, x6)) else (none)) else (none)) else (none)))))) else (if 0 ≤ x1 then (if x1 ≤ x6 then (if x6 ≤ (x0.size : Int) then (some (x0.extract (x1 : Int).toNat (x6 : Int).toNat, x6)) else (none)) else (none)) else (none))
end
def spec_XmlName.f (k : Nat) (a0 : BA) (a1 : Int) : Option (ByteArray × Int) := if a1 < 0 then (spec_XmlName.j0 k a0 a1 true) else (spec_XmlName.j0 k a0 a1 (decide (a1 > (a0.size : Int))))
theorem spec_XmlName.mono_l : ∀ k, (∀ y0 y1 y2, LeO (spec_XmlName.j0 k y0 y1 y2) (spec_XmlName.j0 (k + 1) y0 y1 y2)) ∧ (∀ y0 y1 y2, LeO (spec_XmlName.l0 k y0 y1 y2) (spec_XmlName.l0 (k + 1) y0 y1 y2))
 | 0 => ⟨fun _ _ _ r h => by simp [spec_XmlName.j0] at h, fun _ _ _ r h => by simp [spec_XmlName.l0] at h⟩
 | k + 1 => by
  obtain ⟨ih0, ih1⟩ := spec_XmlName.mono_l k;refine ⟨?_, ?_⟩
  ·intro y0 y1 y2;unfold spec_XmlName.j0;with_reducible repeat' first | exact ih0 _ _ _ | exact ih1 _ _ _ | exact spec_GetSign.mono _ _ _ | exact spec_IsFirst.mono _ _ | exact spec_IsNext.mono _ _ | exact spec_PutSign.mono _ _ | apply LeO.refl | apply LeO.none | apply LeO.ite | apply LeO.bind | intro
  ·intro y0 y1 y2;unfold spec_XmlName.l0;with_reducible repeat' first | exact ih0 _ _ _ | exact ih1 _ _ _ | exact spec_GetSign.mono _ _ _ | exact spec_IsFirst.mono _ _ | exact spec_IsNext.mono _ _ | exact spec_PutSign.mono _ _ | apply LeO.refl | apply LeO.none | apply LeO.ite | apply LeO.bind | intro
theorem spec_XmlName.mono : ∀ a0 a1 k, LeO (spec_XmlName.f k a0 a1) (spec_XmlName.f (k + 1) a0 a1) := by
 intro a0 a1 k;obtain ⟨ih0, ih1⟩ := spec_XmlName.mono_l k;unfold spec_XmlName.f;with_reducible repeat' first | exact ih0 _ _ _ | exact ih1 _ _ _ | exact spec_GetSign.mono _ _ _ | exact spec_IsFirst.mono _ _ | exact spec_IsNext.mono _ _ | exact spec_PutSign.mono _ _ | apply LeO.refl | apply LeO.none | apply LeO.ite | apply LeO.bind | intro
def spec_XmlName.T6 : Bool × List (List Nat × List Nat) := (true, [([], []), ([], []), ([0, 1], [0, 1]), ([2], [2]), ([3], [3]), ([4, 3, 3], [3, 4]), ([5, 3], [3, 5]), ([3, 6], [3, 6]), ([7, 5], [7]), ([8], [8]), ([9, 8, 8], [8, 9]), ([10, 8], [8, 10]), ([8, 11], [8, 11]), ([12, 10], [12]), ([13], [13]), ([14, 13, 13], [13, 14]), ([13], [13]), ([13], [13]), ([13], [13]), ([13], [13]), ([18, 19, 13], [13, 18, 19]), ([16, 17, 20, 13], [13, 16, 17, 20]), ([15, 21, 13], [13, 15, 21]), ([13, 22], [13, 22])])
def spec_XmlName.B6 : List Nat := [0, 0, 3, 7, 15, 31, 63, 127, 255, 511, 1023, 2047, 4095, 8191, 16383, 32767, 16383, 16383, 16383, 16383, 802815, 2047999, 4194303, 8388607]
theorem spec_XmlName.tab6 : rtab .any (opsOf Tryz.f17 6) = spec_XmlName.T6 := by kernel_rfl
theorem spec_XmlName.bits6 : waitsOk spec_XmlName.T6.2 spec_XmlName.B6 = true := by kernel_rfl
theorem spec_XmlName.calls (k : Nat) (a0 : BA) (a1 : Int) (r1 : BA) (r2 : Int) (w : World) (h : spec_XmlName.f k a0 a1 = some (r1, r2)) :
  Calls Tryz.prog 17 #[.string a0, .int .i64 a1] w fun e w' => e = .returned (.tuple #[.string r1, .int .i64 r2]) ∧ Below w.heap.size w w' := by
 have HB := A_ (Below.refl w.heap.size w);have H : (if a1 < 0 then (spec_XmlName.j0 k a0 a1 true) else (spec_XmlName.j0 k a0 a1 (decide (a1 > (a0.size : Int))))) = some (r1, r2) := h;clear h;have HC3 := A_ H;clear H;go_enter Tryz.func17, Tryz.ntmps17
 go_upto_region 1 with (fail)
 go_cut [16] (fun v16 wc => ∃ (kq : Nat) (x16_2 : Bool), v16 = .bool x16_2 ∧ As9 (spec_XmlName.j0 kq a0 a1 x16_2 = some (r1, r2)) ∧ As9 (kq ≤ k) ∧ As9 (Below w.heap.size w wc))
 case first =>
  have H := HC3.out;clear HC3;rcases ic_ H with ⟨c4, H⟩ | ⟨c4, H⟩
  ·have c4b0 := dE_ c4;clear c4;(first | rw [c4b0] | (simp only [i64_w, i32_w]; rw [c4b0]) | skip)
   have H' := A_ H;clear H;go_wp2
   go_meet
   case rel => exact ⟨_, (true), e2_, H', ⟨by first | omega | exact Nat.le_refl _⟩, ⟨hB_⟩⟩
  ·have c4b0 := dF_ c4;clear c4;(first | rw [c4b0] | (simp only [i64_w, i32_w]; rw [c4b0]) | skip)
   have H' := A_ H;clear H;go_wp2
   go_meet
   case rel => exact ⟨_, (decide (a1 > (a0.size : Int))), e2_, H', ⟨by first | omega | exact Nat.le_refl _⟩, ⟨hB_⟩⟩
 case rest =>
  clear HC3;try clear c1
  try clear p2
  try clear c4
  try clear c4b0
  obtain ⟨kq, x16_2, rfl, HA, HJ2, HB⟩ := hcut;cases kq with
  | zero => exact absurd HA.out (by simp [spec_XmlName.j0])
  | succ kj2 =>
   have H := HA.out;clear HA;simp only [spec_XmlName.j0] at H;by_cases c5 : x16_2 = true
   ·subst c5;rw [if_pos rfl] at H;obtain ⟨rfl, rfl⟩ := pi_ H;go_wp2
    go_ret2
    exact ⟨e1_, hB_⟩
   ·replace c5 := bF_ c5;subst c5;rw [if_neg nF_] at H;have H' := A_ H;clear H;go_wp2
    go_loopg [6] kj2 (fun kq v6 w' => ∃ (x6_2 : Int), v6 = .int .i64 x6_2 ∧ As9 (spec_XmlName.l0 kq a0 a1 x6_2 = some (r1, r2)) ∧ As9 (kq ≤ kj2) ∧ As9 (Below w.heap.size w w'))
    case atStart => exact ⟨(a1), e2_, H', ⟨Nat.le_refl _⟩, ⟨hB_⟩⟩
    case round =>
     clear H';try clear c1
     try clear p2
     try clear c4
     try clear c4b0
     try clear c5
     try clear p2
     obtain ⟨x6_2, rfl, HA, HK2, HB⟩ := hrel;cases gk with
     | zero => exact absurd HA.out (by simp [spec_XmlName.l0])
     | succ k2 =>
      have H := HA.out;clear HA;simp only [spec_XmlName.l0] at H;rcases ic_ H with ⟨c6, H⟩ | ⟨c6, H⟩
      ·have c6b0 := dE_ c6;clear c6;obtain ⟨⟨t290, t291⟩, A7, H⟩ := ob_ H;(try dsimp only at H)
       rcases ic_ H with ⟨c8, H⟩ | ⟨c8, H⟩
       ·obtain ⟨c8b0, c8b1⟩ := be_ c8;clear c8;obtain ⟨t292, A9, H⟩ := ob_ H;(try dsimp only at H)
        by_cases c10 : t292 = true
        ·subst c10;rw [if_pos rfl] at H;obtain ⟨t293, A11, H⟩ := ob_ H;(try dsimp only at H)
         by_cases c12 : t293 = true
         ·subst c12;rw [if_pos rfl] at H;obtain ⟨t294, A13, H⟩ := ob_ H;obtain ⟨c14, H⟩ := ifn_ H;have c14b0 := eq_true c14;have c14b1 := dE_ c14;clear c14;obtain ⟨c15, H⟩ := ifn_ H;have c15b0 := eq_true c15;have c15b1 := dE_ c15;obtain ⟨c16, H⟩ := ifn_ H;have c16b0 := eq_true c16;have c16b1 := dE_ c16;rcases ic_ H with ⟨c17, H⟩ | ⟨c17, H⟩
          ·obtain ⟨c17b0, c17b1⟩ := be_ c17;clear c17;have H' := A_ H;clear H;try go_wp2_with (first | ((with_reducible refine gC_ 58 ?_); refine gL_ 26 Tryz.func58 #[.string a0, .int .i64 x6_2] ?_; refine dm_ (spec_GetSign.calls k2 a0 x6_2 t290 t291 _ A7.out) fun nd => ?_))
           (try (rw [drewN_self wr]; generalize hq_ : World.drewN wr _ = wr; have n0_ : As9 (Below w.heap.size w wr) := ⟨by rw [← hq_]; exact hB_⟩; clear HB hq_; have HB := n0_; clear n0_))
           replace HB := A_ (bD9 HB.out);refine start_ (n := 24) (S := fun w' => True) (ds := []) (tS 24 0) (by kernel_rfl) rfl rfl trivial (fun hHeld => ?_); refine with_tabW spec_XmlName.tab6 spec_XmlName.bits6 (fun HT_ HW_ => ?_);generalize wr.drew = w18 at HB hHeld ⊢;iterate 5 refine pqT_ ?_
           refine n1T_ 5 (tS 24 6) rfl fun K hK => ?_
           refine gS_ Tryz.func59 #[.int .i64 t290] ?_;with_reducible refine (spec_IsFirst.calls k2 t290 true _ A9.out).mono ?_
           rintro e w19 ⟨rfl, hb⟩;refine ⟨_, rfl, ?_⟩;replace HB := bS_ hb;clear hb;refine hK.out _ _ trivial (fun hHeld => ?_);clear hK K;refine nm_ ?_;iterate 4 refine pqT_ ?_
           refine n1T_ 10 (tS 24 11) rfl fun K hK => ?_
           refine gS_ Tryz.func60 #[.int .i64 t290] ?_;with_reducible refine (spec_IsNext.calls k2 t290 true _ A11.out).mono ?_
           rintro e w20 ⟨rfl, hb⟩;refine ⟨_, rfl, ?_⟩;replace HB := bS_ hb;clear hb;refine hK.out _ _ trivial (fun hHeld => ?_);clear hK K;refine nm_ ?_;iterate 4 refine pqT_ ?_
           refine pgT_ 16 (tB 24 98303) ?_;refine pgT_ 17 (tB 24 229375) ?_;refine pgT_ 18 (tB 24 491519) ?_;refine pgT_ 19 (tB 24 1015807) ?_;refine pgT_ 20 (tB 24 2064383) ?_;refine pgT_ 21 (tB 24 4161535) ?_;refine n1T_ 15 (tS 24 22) rfl fun K hK => ?_
           refine gS_ Tryz.func61 #[.int .i64 t290] ?_;with_reducible refine (spec_PutSign.calls k2 t290 t294 _ A13.out).mono ?_
           rintro e w21 ⟨rfl, hb⟩;refine ⟨_, rfl, ?_⟩;replace HB := bS_ hb;clear hb;refine hK.out _ _ trivial (fun hHeld => ?_);clear hK K;refine nm_ ?_;refine pqT_ ?_;refine pqT_ ?_;refine done_ (done_of HT_.out (by kernel_rfl)) ?_;try go_wp2
           go_roundg k2
           case measure => have := HJ2.out; have := HK2.out; omega
           case rel => exact ⟨(wrap64 (x6_2 + t291)), e2_, H', ⟨by have := HJ2.out; have := HK2.out; omega⟩, ⟨hB_⟩⟩
          ·obtain ⟨c17b0, c17b1⟩ := bn_ c17;obtain ⟨c22, H⟩ := ifn_ H;have c22b0 := eq_true c22;have c22b1 := dE_ c22;clear c22;obtain ⟨c23, H⟩ := ifn_ H;have c23b0 := eq_true c23;have c23b1 := dE_ c23;clear c23;obtain ⟨c24, H⟩ := ifn_ H;have c24b0 := eq_true c24;have c24b1 := dE_ c24;clear c24;obtain ⟨rfl, rfl⟩ := pi_ H;try go_wp2_with (first | ((with_reducible refine gC_ 58 ?_); refine gL_ 26 Tryz.func58 #[.string a0, .int .i64 x6_2] ?_; refine dm_ (spec_GetSign.calls k2 a0 x6_2 t290 t291 _ A7.out) fun nd => ?_))
           (try (rw [drewN_self wr]; generalize hq_ : World.drewN wr _ = wr; have n0_ : As9 (Below w.heap.size w wr) := ⟨by rw [← hq_]; exact hB_⟩; clear HB hq_; have HB := n0_; clear n0_))
           replace HB := A_ (bD9 HB.out);refine start_ (n := 24) (S := fun w' => True) (ds := []) (tS 24 0) (by kernel_rfl) rfl rfl trivial (fun hHeld => ?_); refine with_tabW spec_XmlName.tab6 spec_XmlName.bits6 (fun HT_ HW_ => ?_);generalize wr.drew = w25 at HB hHeld ⊢;iterate 5 refine pqT_ ?_
           refine n1T_ 5 (tS 24 6) rfl fun K hK => ?_
           refine gS_ Tryz.func59 #[.int .i64 t290] ?_;with_reducible refine (spec_IsFirst.calls k2 t290 true _ A9.out).mono ?_
           rintro e w26 ⟨rfl, hb⟩;refine ⟨_, rfl, ?_⟩;replace HB := bS_ hb;clear hb;refine hK.out _ _ trivial (fun hHeld => ?_);clear hK K;refine nm_ ?_;iterate 4 refine pqT_ ?_
           refine n1T_ 10 (tS 24 11) rfl fun K hK => ?_
           refine gS_ Tryz.func60 #[.int .i64 t290] ?_;with_reducible refine (spec_IsNext.calls k2 t290 true _ A11.out).mono ?_
           rintro e w27 ⟨rfl, hb⟩;refine ⟨_, rfl, ?_⟩;replace HB := bS_ hb;clear hb;refine hK.out _ _ trivial (fun hHeld => ?_);clear hK K;refine nm_ ?_;iterate 4 refine pqT_ ?_
           refine pgT_ 16 (tB 24 98303) ?_;refine pgT_ 17 (tB 24 229375) ?_;refine pgT_ 18 (tB 24 491519) ?_;refine pgT_ 19 (tB 24 1015807) ?_;refine pgT_ 20 (tB 24 2064383) ?_;refine pgT_ 21 (tB 24 4161535) ?_;refine n1T_ 15 (tS 24 22) rfl fun K hK => ?_
           refine gS_ Tryz.func61 #[.int .i64 t290] ?_;with_reducible refine (spec_PutSign.calls k2 t290 t294 _ A13.out).mono ?_
           rintro e w28 ⟨rfl, hb⟩;refine ⟨_, rfl, ?_⟩;replace HB := bS_ hb;clear hb;refine hK.out _ _ trivial (fun hHeld => ?_);clear hK K;refine nm_ ?_;refine pqT_ ?_;refine pqT_ ?_;refine done_ (done_of HT_.out (by kernel_rfl)) ?_;try go_wp2
           go_ret2
           exact ⟨e1_, hB_⟩
         ·replace c12 := bF_ c12;subst c12;rw [if_neg nF_] at H;obtain ⟨c29, H⟩ := ifn_ H;have c29b0 := eq_true c29;have c29b1 := dE_ c29;clear c29;obtain ⟨c30, H⟩ := ifn_ H;have c30b0 := eq_true c30;have c30b1 := dE_ c30;clear c30;obtain ⟨c31, H⟩ := ifn_ H;have c31b0 := eq_true c31;have c31b1 := dE_ c31;clear c31;obtain ⟨rfl, rfl⟩ := pi_ H;try go_wp2_with (first | ((with_reducible refine gC_ 58 ?_); refine gL_ 26 Tryz.func58 #[.string a0, .int .i64 x6_2] ?_; refine dm_ (spec_GetSign.calls k2 a0 x6_2 t290 t291 _ A7.out) fun nd => ?_))
          (try (rw [drewN_self wr]; generalize hq_ : World.drewN wr _ = wr; have n0_ : As9 (Below w.heap.size w wr) := ⟨by rw [← hq_]; exact hB_⟩; clear HB hq_; have HB := n0_; clear n0_))
          replace HB := A_ (bD9 HB.out);refine start_ (n := 24) (S := fun w' => True) (ds := []) (tS 24 0) (by kernel_rfl) rfl rfl trivial (fun hHeld => ?_); refine with_tabW spec_XmlName.tab6 spec_XmlName.bits6 (fun HT_ HW_ => ?_);generalize wr.drew = w32 at HB hHeld ⊢;iterate 5 refine pqT_ ?_
          refine n1T_ 5 (tS 24 6) rfl fun K hK => ?_
          refine gS_ Tryz.func59 #[.int .i64 t290] ?_;with_reducible refine (spec_IsFirst.calls k2 t290 true _ A9.out).mono ?_
          rintro e w33 ⟨rfl, hb⟩;refine ⟨_, rfl, ?_⟩;replace HB := bS_ hb;clear hb;refine hK.out _ _ trivial (fun hHeld => ?_);clear hK K;refine nm_ ?_;iterate 4 refine pqT_ ?_
          refine n1T_ 10 (tS 24 11) rfl fun K hK => ?_
          refine gS_ Tryz.func60 #[.int .i64 t290] ?_;with_reducible refine (spec_IsNext.calls k2 t290 false _ A11.out).mono ?_
          rintro e w34 ⟨rfl, hb⟩;refine ⟨_, rfl, ?_⟩;replace HB := bS_ hb;clear hb;refine hK.out _ _ trivial (fun hHeld => ?_);clear hK K;refine nm_ ?_;iterate 3 refine pqT_ ?_
          iterate 9 refine oqT_ ?_
          refine pqT_ ?_;refine done_ (done_of HT_.out (by kernel_rfl)) ?_;try go_wp2
          go_ret2
          exact ⟨e1_, hB_⟩
        ·replace c10 := bF_ c10;subst c10;rw [if_neg nF_] at H;obtain ⟨c35, H⟩ := ifn_ H;have c35b0 := eq_true c35;have c35b1 := dE_ c35;clear c35;obtain ⟨c36, H⟩ := ifn_ H;have c36b0 := eq_true c36;have c36b1 := dE_ c36;clear c36;obtain ⟨c37, H⟩ := ifn_ H;have c37b0 := eq_true c37;have c37b1 := dE_ c37;clear c37;obtain ⟨rfl, rfl⟩ := pi_ H;try go_wp2_with (first | ((with_reducible refine gC_ 58 ?_); refine gL_ 26 Tryz.func58 #[.string a0, .int .i64 x6_2] ?_; refine dm_ (spec_GetSign.calls k2 a0 x6_2 t290 t291 _ A7.out) fun nd => ?_))
         (try (rw [drewN_self wr]; generalize hq_ : World.drewN wr _ = wr; have n0_ : As9 (Below w.heap.size w wr) := ⟨by rw [← hq_]; exact hB_⟩; clear HB hq_; have HB := n0_; clear n0_))
         replace HB := A_ (bD9 HB.out);refine start_ (n := 24) (S := fun w' => True) (ds := []) (tS 24 0) (by kernel_rfl) rfl rfl trivial (fun hHeld => ?_); refine with_tabW spec_XmlName.tab6 spec_XmlName.bits6 (fun HT_ HW_ => ?_);generalize wr.drew = w38 at HB hHeld ⊢;iterate 5 refine pqT_ ?_
         refine n1T_ 5 (tS 24 6) rfl fun K hK => ?_
         refine gS_ Tryz.func59 #[.int .i64 t290] ?_;with_reducible refine (spec_IsFirst.calls k2 t290 false _ A9.out).mono ?_
         rintro e w39 ⟨rfl, hb⟩;refine ⟨_, rfl, ?_⟩;replace HB := bS_ hb;clear hb;refine hK.out _ _ trivial (fun hHeld => ?_);clear hK K;refine nm_ ?_;iterate 3 refine pqT_ ?_
         iterate 3 refine oqT_ ?_
         refine pqT_ ?_;refine pqT_ ?_;iterate 9 refine oqT_ ?_
         refine pqT_ ?_;refine done_ (done_of HT_.out (by kernel_rfl)) ?_;try go_wp2
         go_ret2
         exact ⟨e1_, hB_⟩
       ·obtain ⟨c8b0, c8b1⟩ := bn_ c8;obtain ⟨t295, A40, H⟩ := ob_ H;(try dsimp only at H)
        by_cases c41 : t295 = true
        ·subst c41;rw [if_pos rfl] at H;obtain ⟨t296, A42, H⟩ := ob_ H;obtain ⟨c43, H⟩ := ifn_ H;have c43b0 := eq_true c43;have c43b1 := dE_ c43;clear c43;obtain ⟨c44, H⟩ := ifn_ H;have c44b0 := eq_true c44;have c44b1 := dE_ c44;obtain ⟨c45, H⟩ := ifn_ H;have c45b0 := eq_true c45;have c45b1 := dE_ c45;rcases ic_ H with ⟨c46, H⟩ | ⟨c46, H⟩
         ·obtain ⟨c46b0, c46b1⟩ := be_ c46;clear c46;have H' := A_ H;clear H;try go_wp2_with (first | ((with_reducible refine gC_ 58 ?_); refine gL_ 26 Tryz.func58 #[.string a0, .int .i64 x6_2] ?_; refine dm_ (spec_GetSign.calls k2 a0 x6_2 t290 t291 _ A7.out) fun nd => ?_))
          (try (rw [drewN_self wr]; generalize hq_ : World.drewN wr _ = wr; have n0_ : As9 (Below w.heap.size w wr) := ⟨by rw [← hq_]; exact hB_⟩; clear HB hq_; have HB := n0_; clear n0_))
          replace HB := A_ (bD9 HB.out);refine start_ (n := 24) (S := fun w' => True) (ds := []) (tS 24 0) (by kernel_rfl) rfl rfl trivial (fun hHeld => ?_); refine with_tabW spec_XmlName.tab6 spec_XmlName.bits6 (fun HT_ HW_ => ?_);generalize wr.drew = w47 at HB hHeld ⊢;iterate 4 refine pqT_ ?_
          iterate 3 refine oqT_ ?_
          iterate 3 refine pqT_ ?_
          refine n1T_ 10 (tS 24 11) rfl fun K hK => ?_
          refine gS_ Tryz.func60 #[.int .i64 t290] ?_;with_reducible refine (spec_IsNext.calls k2 t290 true _ A40.out).mono ?_
          rintro e w48 ⟨rfl, hb⟩;refine ⟨_, rfl, ?_⟩;replace HB := bS_ hb;clear hb;refine hK.out _ _ trivial (fun hHeld => ?_);clear hK K;refine nm_ ?_;iterate 4 refine pqT_ ?_
          refine pgT_ 16 (tB 24 98303) ?_;refine pgT_ 17 (tB 24 229375) ?_;refine pgT_ 18 (tB 24 491519) ?_;refine pgT_ 19 (tB 24 1015807) ?_;refine pgT_ 20 (tB 24 2064383) ?_;refine pgT_ 21 (tB 24 4161535) ?_;refine n1T_ 15 (tS 24 22) rfl fun K hK => ?_
          refine gS_ Tryz.func61 #[.int .i64 t290] ?_;with_reducible refine (spec_PutSign.calls k2 t290 t296 _ A42.out).mono ?_
          rintro e w49 ⟨rfl, hb⟩;refine ⟨_, rfl, ?_⟩;replace HB := bS_ hb;clear hb;refine hK.out _ _ trivial (fun hHeld => ?_);clear hK K;refine nm_ ?_;refine pqT_ ?_;refine pqT_ ?_;refine done_ (done_of HT_.out (by kernel_rfl)) ?_;try go_wp2
          go_roundg k2
          case measure => have := HJ2.out; have := HK2.out; omega
          case rel => exact ⟨(wrap64 (x6_2 + t291)), e2_, H', ⟨by have := HJ2.out; have := HK2.out; omega⟩, ⟨hB_⟩⟩
         ·obtain ⟨c46b0, c46b1⟩ := bn_ c46;obtain ⟨c50, H⟩ := ifn_ H;have c50b0 := eq_true c50;have c50b1 := dE_ c50;clear c50;obtain ⟨c51, H⟩ := ifn_ H;have c51b0 := eq_true c51;have c51b1 := dE_ c51;clear c51;obtain ⟨c52, H⟩ := ifn_ H;have c52b0 := eq_true c52;have c52b1 := dE_ c52;clear c52;obtain ⟨rfl, rfl⟩ := pi_ H;try go_wp2_with (first | ((with_reducible refine gC_ 58 ?_); refine gL_ 26 Tryz.func58 #[.string a0, .int .i64 x6_2] ?_; refine dm_ (spec_GetSign.calls k2 a0 x6_2 t290 t291 _ A7.out) fun nd => ?_))
          (try (rw [drewN_self wr]; generalize hq_ : World.drewN wr _ = wr; have n0_ : As9 (Below w.heap.size w wr) := ⟨by rw [← hq_]; exact hB_⟩; clear HB hq_; have HB := n0_; clear n0_))
          replace HB := A_ (bD9 HB.out);refine start_ (n := 24) (S := fun w' => True) (ds := []) (tS 24 0) (by kernel_rfl) rfl rfl trivial (fun hHeld => ?_); refine with_tabW spec_XmlName.tab6 spec_XmlName.bits6 (fun HT_ HW_ => ?_);generalize wr.drew = w53 at HB hHeld ⊢;iterate 4 refine pqT_ ?_
          iterate 3 refine oqT_ ?_
          iterate 3 refine pqT_ ?_
          refine n1T_ 10 (tS 24 11) rfl fun K hK => ?_
          refine gS_ Tryz.func60 #[.int .i64 t290] ?_;with_reducible refine (spec_IsNext.calls k2 t290 true _ A40.out).mono ?_
          rintro e w54 ⟨rfl, hb⟩;refine ⟨_, rfl, ?_⟩;replace HB := bS_ hb;clear hb;refine hK.out _ _ trivial (fun hHeld => ?_);clear hK K;refine nm_ ?_;iterate 4 refine pqT_ ?_
          refine pgT_ 16 (tB 24 98303) ?_;refine pgT_ 17 (tB 24 229375) ?_;refine pgT_ 18 (tB 24 491519) ?_;refine pgT_ 19 (tB 24 1015807) ?_;refine pgT_ 20 (tB 24 2064383) ?_;refine pgT_ 21 (tB 24 4161535) ?_;refine n1T_ 15 (tS 24 22) rfl fun K hK => ?_
          refine gS_ Tryz.func61 #[.int .i64 t290] ?_;with_reducible refine (spec_PutSign.calls k2 t290 t296 _ A42.out).mono ?_
          rintro e w55 ⟨rfl, hb⟩;refine ⟨_, rfl, ?_⟩;replace HB := bS_ hb;clear hb;refine hK.out _ _ trivial (fun hHeld => ?_);clear hK K;refine nm_ ?_;refine pqT_ ?_;refine pqT_ ?_;refine done_ (done_of HT_.out (by kernel_rfl)) ?_;try go_wp2
          go_ret2
          exact ⟨e1_, hB_⟩
        ·replace c41 := bF_ c41;subst c41;rw [if_neg nF_] at H;obtain ⟨c56, H⟩ := ifn_ H;have c56b0 := eq_true c56;have c56b1 := dE_ c56;clear c56;obtain ⟨c57, H⟩ := ifn_ H;have c57b0 := eq_true c57;have c57b1 := dE_ c57;clear c57;obtain ⟨c58, H⟩ := ifn_ H;have c58b0 := eq_true c58;have c58b1 := dE_ c58;clear c58;obtain ⟨rfl, rfl⟩ := pi_ H;try go_wp2_with (first | ((with_reducible refine gC_ 58 ?_); refine gL_ 26 Tryz.func58 #[.string a0, .int .i64 x6_2] ?_; refine dm_ (spec_GetSign.calls k2 a0 x6_2 t290 t291 _ A7.out) fun nd => ?_))
         (try (rw [drewN_self wr]; generalize hq_ : World.drewN wr _ = wr; have n0_ : As9 (Below w.heap.size w wr) := ⟨by rw [← hq_]; exact hB_⟩; clear HB hq_; have HB := n0_; clear n0_))
         replace HB := A_ (bD9 HB.out);refine start_ (n := 24) (S := fun w' => True) (ds := []) (tS 24 0) (by kernel_rfl) rfl rfl trivial (fun hHeld => ?_); refine with_tabW spec_XmlName.tab6 spec_XmlName.bits6 (fun HT_ HW_ => ?_);generalize wr.drew = w59 at HB hHeld ⊢;iterate 4 refine pqT_ ?_
         iterate 3 refine oqT_ ?_
         iterate 3 refine pqT_ ?_
         refine n1T_ 10 (tS 24 11) rfl fun K hK => ?_
         refine gS_ Tryz.func60 #[.int .i64 t290] ?_;with_reducible refine (spec_IsNext.calls k2 t290 false _ A40.out).mono ?_
         rintro e w60 ⟨rfl, hb⟩;refine ⟨_, rfl, ?_⟩;replace HB := bS_ hb;clear hb;refine hK.out _ _ trivial (fun hHeld => ?_);clear hK K;refine nm_ ?_;iterate 3 refine pqT_ ?_
         iterate 9 refine oqT_ ?_
         refine pqT_ ?_;refine done_ (done_of HT_.out (by kernel_rfl)) ?_;try go_wp2
         go_ret2
         exact ⟨e1_, hB_⟩
      ·have c6b0 := dF_ c6;clear c6;obtain ⟨c61, H⟩ := ifn_ H;have c61b0 := eq_true c61;have c61b1 := dE_ c61;clear c61;obtain ⟨c62, H⟩ := ifn_ H;have c62b0 := eq_true c62;have c62b1 := dE_ c62;clear c62;obtain ⟨c63, H⟩ := ifn_ H;have c63b0 := eq_true c63;have c63b1 := dE_ c63;clear c63;obtain ⟨rfl, rfl⟩ := pi_ H;go_wp2
       go_ret2
       exact ⟨e1_, hB_⟩
mutual
def spec_l3Digit.j0 : Nat → Int → Bool → Bool → Option (Int)
 | 0, _, _, _ => none
 | k + 1, x0, x1, x5 => if x5 = true then (some (wrap64 ((wrap64 (x0)) - 48))) else (if x1 = true then (if x0 ≥ 97 then (spec_l3Digit.j1 k x0 x1 (decide (x0 ≤ 102))) else (spec_l3Digit.j1 k x0 x1 false)) else (spec_l3Digit.j1 k x0 x1 false))
def spec_l3Digit.j1 : Nat → Int → Bool → Bool → Option (Int)
 | 0, _, _, _ => none
 | k + 1, x0, x1, x15 => if x15 = true then (some (wrap64 ((wrap64 (x0)) - 87))) else (if x1 = true then (if x0 ≥ 65 then (if x0 ≤ 70 then (some (wrap64 ((wrap64 (x0)) - 55))) else (some (-1))) else (some (-1))) else (some (-1)))
end
def spec_l3Digit.f (k : Nat) (a0 : Int) (a1 : Bool) : Option (Int) := if a0 ≥ 48 then (spec_l3Digit.j0 k a0 a1 (decide (a0 ≤ 57))) else (spec_l3Digit.j0 k a0 a1 false)
theorem spec_l3Digit.mono_l : ∀ k, (∀ y0 y1 y2, LeO (spec_l3Digit.j0 k y0 y1 y2) (spec_l3Digit.j0 (k + 1) y0 y1 y2)) ∧ (∀ y0 y1 y2, LeO (spec_l3Digit.j1 k y0 y1 y2) (spec_l3Digit.j1 (k + 1) y0 y1 y2))
 | 0 => ⟨fun _ _ _ r h => by simp [spec_l3Digit.j0] at h, fun _ _ _ r h => by simp [spec_l3Digit.j1] at h⟩
 | k + 1 => by
  obtain ⟨ih0, ih1⟩ := spec_l3Digit.mono_l k;refine ⟨?_, ?_⟩
  ·intro y0 y1 y2;unfold spec_l3Digit.j0;with_reducible repeat' first | exact ih0 _ _ _ | exact ih1 _ _ _ | apply LeO.refl | apply LeO.none | apply LeO.ite | apply LeO.bind | intro
  ·intro y0 y1 y2;unfold spec_l3Digit.j1;with_reducible repeat' first | exact ih0 _ _ _ | exact ih1 _ _ _ | apply LeO.refl | apply LeO.none | apply LeO.ite | apply LeO.bind | intro
theorem spec_l3Digit.mono : ∀ a0 a1 k, LeO (spec_l3Digit.f k a0 a1) (spec_l3Digit.f (k + 1) a0 a1) := by
 intro a0 a1 k;obtain ⟨ih0, ih1⟩ := spec_l3Digit.mono_l k;unfold spec_l3Digit.f;with_reducible repeat' first | exact ih0 _ _ _ | exact ih1 _ _ _ | apply LeO.refl | apply LeO.none | apply LeO.ite | apply LeO.bind | intro
theorem spec_l3Digit.calls (k : Nat) (a0 : Int) (a1 : Bool) (r : Int) (w : World) (h : spec_l3Digit.f k a0 a1 = some r) :
  Calls Tryz.prog 122 #[.int .u8 a0, .bool a1] w fun e w' => e = .returned (.int .i64 r) ∧ Drawn0 w w' := by
 have H : (if a0 ≥ 48 then (spec_l3Digit.j0 k a0 a1 (decide (a0 ≤ 57))) else (spec_l3Digit.j0 k a0 a1 false)) = some r := h;clear h;have HC3 := A_ H;clear H;go_enter Tryz.func122, Tryz.ntmps122
 go_upto_region 1 with (fail)
 go_cut [5] (fun v5 wc => ∃ (kq : Nat) (x5_2 : Bool), v5 = .bool x5_2 ∧ As9 (spec_l3Digit.j0 kq a0 a1 x5_2 = some r) ∧ As9 (kq ≤ k) ∧ Drawn0 w wc)
 case first =>
  have H := HC3.out;clear HC3;rcases ic_ H with ⟨c4, H⟩ | ⟨c4, H⟩
  ·have c4b0 : decide (48 ≤ a0) = true := dE_ c4;clear c4;(first | rw [c4b0] | (simp only [i64_w, i32_w]; rw [c4b0]) | skip)
   have H' := A_ H;clear H;go_wp2
   go_meet
   case rel => exact ⟨_, (decide (a0 ≤ 57)), e2_, H', ⟨by first | omega | exact Nat.le_refl _⟩, d0_⟩
  ·have c4b0 : decide (48 ≤ a0) = false := dF_ c4;clear c4;(first | rw [c4b0] | (simp only [i64_w, i32_w]; rw [c4b0]) | skip)
   have H' := A_ H;clear H;go_wp2
   go_meet
   case rel => exact ⟨_, (false), e2_, H', ⟨by first | omega | exact Nat.le_refl _⟩, d0_⟩
 case rest =>
  clear HC3;try clear c1
  try clear p2
  try clear c4
  try clear c4b0
  obtain ⟨kq, x5_2, rfl, HA, HJ2, ⟨mc2, rfl⟩⟩ := hcut;cases kq with
  | zero => exact absurd HA.out (by simp [spec_l3Digit.j0])
  | succ kj2 =>
   have H := HA.out;clear HA;simp only [spec_l3Digit.j0] at H;by_cases c5 : x5_2 = true
   ·subst c5;rw [if_pos rfl] at H;obtain rfl := sI_ H;go_wp2
    go_ret
    exact ⟨e2_, d0_⟩
   ·replace c5 := bF_ c5;subst c5;rw [if_neg nF_] at H;have HC6 := A_ H;clear H;go_upto_region 3 with (fail)
    go_cut [15] (fun v15 wc => ∃ (kq : Nat) (x15_5 : Bool), v15 = .bool x15_5 ∧ As9 (spec_l3Digit.j1 kq a0 a1 x15_5 = some r) ∧ As9 (kq ≤ kj2) ∧ Drawn0 w wc)
    case first =>
     have H := HC6.out;clear HC6;by_cases c7 : a1 = true
     ·subst c7;rw [if_pos rfl] at H;rcases ic_ H with ⟨c8, H⟩ | ⟨c8, H⟩
      ·have c8b0 : decide (97 ≤ a0) = true := dE_ c8;clear c8;(first | rw [c8b0] | (simp only [i64_w, i32_w]; rw [c8b0]) | skip)
       have H' := A_ H;clear H;go_wp2
       go_meet
       case rel => exact ⟨_, (decide (a0 ≤ 102)), e2_, H', ⟨by have := HJ2.out; first | omega | exact Nat.le_refl _⟩, d0_⟩
      ·have c8b0 : decide (97 ≤ a0) = false := dF_ c8;clear c8;(first | rw [c8b0] | (simp only [i64_w, i32_w]; rw [c8b0]) | skip)
       have H' := A_ H;clear H;go_wp2
       go_meet
       case rel => exact ⟨_, (false), e2_, H', ⟨by have := HJ2.out; first | omega | exact Nat.le_refl _⟩, d0_⟩
     ·replace c7 := bF_ c7;subst c7;rw [if_neg nF_] at H;have H' := A_ H;clear H;go_wp2
      go_meet
      case rel => exact ⟨_, (false), e2_, H', ⟨by have := HJ2.out; first | omega | exact Nat.le_refl _⟩, d0_⟩
    case rest =>
     clear HC6;try clear c1
     try clear c2
     try clear p2
     try clear c4
     try clear c4b0
     try clear c5
     try clear p6
     try clear c7
     try clear c8
     try clear c8b0
     try clear p2
     obtain ⟨kq, x15_5, rfl, HA, HJ5, ⟨mc5, rfl⟩⟩ := hcut;cases kq with
     | zero => exact absurd HA.out (by simp [spec_l3Digit.j1])
     | succ kj5 =>
      have H := HA.out;clear HA;simp only [spec_l3Digit.j1] at H;by_cases c9 : x15_5 = true
      ·subst c9;rw [if_pos rfl] at H;obtain rfl := sI_ H;go_wp2
       go_ret
       exact ⟨e2_, d0_⟩
      ·replace c9 := bF_ c9;subst c9;rw [if_neg nF_] at H;by_cases c10 : a1 = true
       ·subst c10;rw [if_pos rfl] at H;rcases ic_ H with ⟨c11, H⟩ | ⟨c11, H⟩
        ·have c11b0 : decide (65 ≤ a0) = true := dE_ c11;clear c11;rcases ic_ H with ⟨c12, H⟩ | ⟨c12, H⟩
         ·have c12b0 := dE_ c12;clear c12;obtain rfl := sI_ H;go_wp2
          go_ret
          exact ⟨e2_, d0_⟩
         ·have c12b0 := dF_ c12;clear c12;obtain rfl := sI_ H;go_wp2
          go_ret
          exact ⟨e2_, d0_⟩
        ·have c11b0 : decide (65 ≤ a0) = false := dF_ c11;clear c11;obtain rfl := sI_ H;go_wp2
         go_ret
         exact ⟨e2_, d0_⟩
       ·replace c10 := bF_ c10;subst c10;rw [if_neg nF_] at H;obtain rfl := sI_ H;go_wp2
        go_ret
        exact ⟨e2_, d0_⟩
def spec_l18Number.l0 : Nat → ByteArray → Int → Int → Int → Option (Int × Int)
 | 0, _, _, _, _ => none
 | k + 1, x0, x1, x6, x7 => if x7 < (x0.size : Int) then (if x7 < (wrap64 (x1 + 9)) then (if 0 ≤ x7 then ((spec_l3Digit.f k (bt x0 x7) false).bind fun t339 => (if t339 ≥ 0 then (spec_l18Number.l0 k x0 x1 (wrap64 ((wrap64 ((wrap64 (10 * x6)) + (wrap64 (bt x0 x7)))) - 48)) (wrap64 (x7 + 1))) else (if x7 = (wrap64 (x1 + 2)) then (some (0, (-1))) else (if 0 ≤ (wrap64 (x1 + 2)) then (if (wrap64 (x1 + 2)) < (x0.size : Int) then (if (bt x0 (wrap64 (x1 + 2))) = 48 then (some (0, (-1))) else (if x7 ≥ (x0.size : Int) then (some (0, (-1))) else (if (bt x0 x7) = 59 then ((spec_IsText.f x6).bind fun t340 => (if t340 = true then (some (x6, x7)) else (some (0, (-1))))) else (some (0, (-1)))))) else (none)) else (none))))) else (none)) else (if x7 = (wrap64 (x1 + 2)) then (some (0, (-1))) else (if 0 ≤ (wrap64 (x1 + 2)) then (if (wrap64 (x1 + 2)) < (x0.size : Int) then (if (bt x0 (wrap64 (x1 + 2))) = 48 then (some (0, (-1))) else (if x7 ≥ (x0.size : Int) then (some (0, (-1))) else (if 0 ≤ x7 then (if (bt x0 x7) = 59 then ((spec_IsText.f x6).bind fun t341 => (if t341 = true then (some (x6, x7)) else (some (0, (-1))))) else (some (0, (-1)))) else (none)))) else (none)) else (none)))) else (if x7 = (wrap64 (x1 + 2)) then (some (0, (-1))) else (if 0 ≤ (wrap64 (x1 + 2)) then (if (wrap64 (x1 + 2)) < (x0.size : Int) then (if (bt x0 (wrap64 (x1 + 2))) = 48 then (some (0, (-1))) else (if x7 ≥ (x0.size : Int) then (some (0, (-1))) else (if 0 ≤ x7 then (none) else (none)))) else (none)) else (none)))
def spec_l18Number.f (k : Nat) (a0 : BA) (a1 : Int) : Option (Int × Int) := spec_l18Number.l0 k a0 a1 0 (wrap64 (a1 + 2))
theorem spec_l18Number.mono_l : ∀ k, (∀ y0 y1 y2 y3, LeO (spec_l18Number.l0 k y0 y1 y2 y3) (spec_l18Number.l0 (k + 1) y0 y1 y2 y3))
 | 0 => fun _ _ _ _ r h => by simp [spec_l18Number.l0] at h
 | k + 1 => by
  have ih0 := spec_l18Number.mono_l k
  ·intro y0 y1 y2 y3;unfold spec_l18Number.l0;with_reducible repeat' first | exact ih0 _ _ _ _ | exact spec_l3Digit.mono _ _ _ | apply LeO.refl | apply LeO.none | apply LeO.ite | apply LeO.bind | intro
theorem spec_l18Number.mono : ∀ a0 a1 k, LeO (spec_l18Number.f k a0 a1) (spec_l18Number.f (k + 1) a0 a1) := by
 intro a0 a1 k;have ih0 := spec_l18Number.mono_l k;unfold spec_l18Number.f;with_reducible repeat' first | exact ih0 _ _ _ _ | exact spec_l3Digit.mono _ _ _ | apply LeO.refl | apply LeO.none | apply LeO.ite | apply LeO.bind | intro
theorem spec_l18Number.calls (k : Nat) (a0 : BA) (a1 : Int) (r1 : Int) (r2 : Int) (w : World) (h : spec_l18Number.f k a0 a1 = some (r1, r2)) :
  Calls Tryz.prog 70 #[.string a0, .int .i64 a1] w fun e w' => e = .returned (.tuple #[.int .i64 r1, .int .i64 r2]) ∧ Drawn0 w w' := by
 have H : (spec_l18Number.l0 k a0 a1 0 (wrap64 (a1 + 2))) = some (r1, r2) := h;clear h;have H' := A_ H;clear H;go_enter Tryz.func70, Tryz.ntmps70
 go_wp2
 go_loopg [6, 7] k (fun kq v6 v7 w' => ∃ (x6_1 : Int) (x7_1 : Int), v6 = .int .i64 x6_1 ∧ v7 = .int .i64 x7_1 ∧ As9 (spec_l18Number.l0 kq a0 a1 x6_1 x7_1 = some (r1, r2)) ∧ As9 (kq ≤ k) ∧ Drawn0 w w')
 case atStart => exact ⟨(0), (wrap64 (a1 + 2)), e2_, e2_, H', ⟨Nat.le_refl _⟩, d0_⟩
 case round =>
  clear H';try clear p2
  obtain ⟨x6_1, x7_1, rfl, rfl, HA, HK1, ⟨m1, rfl⟩⟩ := hrel;cases gk with
  | zero => exact absurd HA.out (by simp [spec_l18Number.l0])
  | succ k1 =>
   have H := HA.out;clear HA;simp only [spec_l18Number.l0] at H;rcases ic_ H with ⟨c3, H⟩ | ⟨c3, H⟩
   ·have c3b0 := dE_ c3;clear c3;rcases ic_ H with ⟨c4, H⟩ | ⟨c4, H⟩
    ·have c4b0 := dE_ c4;clear c4;obtain ⟨c5, H⟩ := ifn_ H;have c5b0 := dE_ c5;clear c5;obtain ⟨t339, A7, H⟩ := ob_ H;rcases ic_ H with ⟨c8, H⟩ | ⟨c8, H⟩
     ·have c8b0 : decide (0 ≤ t339) = true := dE_ c8;clear c8;have H' := A_ H;clear H;have p6 : 0 ≤ (x7_1 : Int) := dT_;have q6 : x7_1 < (a0.size : Int) := dT_;have hx6 := bt_at a0 x7_1;replace p6 := eq_true p6;replace q6 := eq_true q6;go_wp2_with (first | (go_at_call 122; (with_reducible refine (spec_l3Digit.calls k1 (bt a0 x7_1) false t339 _ A7.out).mono ?_); rintro e w' ⟨rfl, ⟨nd, rfl⟩⟩; have p9 : 0 ≤ (x7_1 : Int) := dT_; have q9 : x7_1 < (a0.size : Int) := dT_; have hx9 := bt_at a0 x7_1; replace p9 := eq_true p9; replace q9 := eq_true q9))
      go_roundg k1
      case measure => have := HK1.out; omega
      case rel => exact ⟨(wrap64 ((wrap64 ((wrap64 (10 * x6_1)) + (wrap64 (bt a0 x7_1)))) - 48)), (wrap64 (x7_1 + 1)), e2_, e2_, H', ⟨by have := HK1.out; omega⟩, d0_⟩
     ·have c8b0 : decide (0 ≤ t339) = false := dF_ c8;clear c8;rcases ic_ H with ⟨c10, H⟩ | ⟨c10, H⟩
      ·obtain ⟨c10b0, c10b1⟩ := be_ c10;clear c10;obtain ⟨rfl, rfl⟩ := pi_ H;have p6 : 0 ≤ (x7_1 : Int) := dT_;have q6 : x7_1 < (a0.size : Int) := dT_;have hx6 := bt_at a0 x7_1;replace p6 := eq_true p6;replace q6 := eq_true q6;go_wp2_with (first | (go_at_call 122; (with_reducible refine (spec_l3Digit.calls k1 (bt a0 x7_1) false t339 _ A7.out).mono ?_); rintro e w' ⟨rfl, ⟨nd, rfl⟩⟩))
       go_ret2
       exact ⟨e2_, d0_⟩
      ·obtain ⟨c10b0, c10b1⟩ := bn_ c10;obtain ⟨ji11, hji11⟩ : ∃ j_ : Int, (wrap64 (a1 + 2)) = j_ := ⟨_, rfl⟩;replace H : (if 0 ≤ (ji11) then (if (ji11) < (a0.size : Int) then (if (bt a0 (ji11)) = 48 then (some (0, (-1))) else (if x7_1 ≥ (a0.size : Int) then (some (0, (-1))) else (if (bt a0 x7_1) = 59 then ((spec_IsText.f x6_1).bind fun t340 => (if t340 = true then (some (x6_1, x7_1)) else (some (0, (-1))))) else (some (0, (-1)))))) else (none)) else (none)) = some (r1, r2) := by first | (rw [hji11] at H; exact H) | (simp only [hji11] at H ⊢; exact H)
       (try rw [hji11] at c10b0)
       (try rw [hji11] at c10b1)
       (try rw [hji11] at A7)
       have hji11w : (IntKind.i64.wrap (a1 + 2)) = ji11 := (i64_w _).trans hji11;obtain ⟨c12, H⟩ := ifn_ H;have c12b0 := dE_ c12;clear c12;obtain ⟨c13, H⟩ := ifn_ H;have c13b0 := dE_ c13;clear c13;rcases ic_ H with ⟨c15, H⟩ | ⟨c15, H⟩
       ·obtain ⟨c15b0, c15b1⟩ := be_ c15;clear c15;obtain ⟨rfl, rfl⟩ := pi_ H;have p6 : 0 ≤ (x7_1 : Int) := dT_;have q6 : x7_1 < (a0.size : Int) := dT_;have hx6 := bt_at a0 x7_1;replace p6 := eq_true p6;replace q6 := eq_true q6;go_wp2_with (first | (go_at_call 122; (with_reducible refine (spec_l3Digit.calls k1 (bt a0 x7_1) false t339 _ A7.out).mono ?_); rintro e w' ⟨rfl, ⟨nd, rfl⟩⟩; have p14 : 0 ≤ ((ji11) : Int) := dT_; have q14 : (ji11) < (a0.size : Int) := dT_; have hx14 := bt_at a0 (ji11); replace p14 := eq_true p14; replace q14 := eq_true q14))
        go_ret2
        exact ⟨by first | rfl | (simp; done) | (simp only [← hji11] <;> (first | rfl | simp)) | (simp [*]; done), d0_⟩
       ·obtain ⟨c15b0, c15b1⟩ := bn_ c15;rcases ic_ H with ⟨c16, H⟩ | ⟨c16, H⟩
        ·have c16b0 : decide ((a0.size : Int) ≤ x7_1) = true := dE_ c16;clear c16;obtain ⟨rfl, rfl⟩ := pi_ H;have p6 : 0 ≤ (x7_1 : Int) := dT_;have q6 : x7_1 < (a0.size : Int) := dT_;have hx6 := bt_at a0 x7_1;replace p6 := eq_true p6;replace q6 := eq_true q6;go_wp2_with (first | (go_at_call 122; (with_reducible refine (spec_l3Digit.calls k1 (bt a0 x7_1) false t339 _ A7.out).mono ?_); rintro e w' ⟨rfl, ⟨nd, rfl⟩⟩; have p14 : 0 ≤ ((ji11) : Int) := dT_; have q14 : (ji11) < (a0.size : Int) := dT_; have hx14 := bt_at a0 (ji11); replace p14 := eq_true p14; replace q14 := eq_true q14))
         go_ret2
         exact ⟨by first | rfl | (simp; done) | (simp only [← hji11] <;> (first | rfl | simp)) | (simp [*]; done), d0_⟩
        ·have c16b0 : decide ((a0.size : Int) ≤ x7_1) = false := dF_ c16;clear c16;rcases ic_ H with ⟨c18, H⟩ | ⟨c18, H⟩
         ·obtain ⟨c18b0, c18b1⟩ := be_ c18;clear c18;obtain ⟨t340, A19, H⟩ := ob_ H;(try dsimp only at H)
          by_cases c20 : t340 = true
          ·subst c20;rw [if_pos rfl] at H;obtain ⟨rfl, rfl⟩ := pi_ H;have p6 : 0 ≤ (x7_1 : Int) := dT_;have q6 : x7_1 < (a0.size : Int) := dT_;have hx6 := bt_at a0 x7_1;replace p6 := eq_true p6;replace q6 := eq_true q6;go_wp2_with (first | (go_at_call 122; (with_reducible refine (spec_l3Digit.calls k1 (bt a0 x7_1) false t339 _ A7.out).mono ?_); rintro e w' ⟨rfl, ⟨nd, rfl⟩⟩; have p14 : 0 ≤ ((ji11) : Int) := dT_; have q14 : (ji11) < (a0.size : Int) := dT_; have hx14 := bt_at a0 (ji11); replace p14 := eq_true p14; replace q14 := eq_true q14; have p17 : 0 ≤ (x7_1 : Int) := dT_; have q17 : x7_1 < (a0.size : Int) := dT_; have hx17 := bt_at a0 x7_1; replace p17 := eq_true p17; replace q17 := eq_true q17) | (go_at_call 75; (with_reducible refine (spec_IsText.calls x6_1 true _ A19.out).mono ?_); rintro e w' ⟨rfl, ⟨nd, rfl⟩⟩))
           go_ret2
           exact ⟨by first | rfl | (simp; done) | (simp only [← hji11] <;> (first | rfl | simp)) | (simp [*]; done), d0_⟩
          ·replace c20 := bF_ c20;subst c20;rw [if_neg nF_] at H;obtain ⟨rfl, rfl⟩ := pi_ H;have p6 : 0 ≤ (x7_1 : Int) := dT_;have q6 : x7_1 < (a0.size : Int) := dT_;have hx6 := bt_at a0 x7_1;replace p6 := eq_true p6;replace q6 := eq_true q6;go_wp2_with (first | (go_at_call 122; (with_reducible refine (spec_l3Digit.calls k1 (bt a0 x7_1) false t339 _ A7.out).mono ?_); rintro e w' ⟨rfl, ⟨nd, rfl⟩⟩; have p14 : 0 ≤ ((ji11) : Int) := dT_; have q14 : (ji11) < (a0.size : Int) := dT_; have hx14 := bt_at a0 (ji11); replace p14 := eq_true p14; replace q14 := eq_true q14; have p17 : 0 ≤ (x7_1 : Int) := dT_; have q17 : x7_1 < (a0.size : Int) := dT_; have hx17 := bt_at a0 x7_1; replace p17 := eq_true p17; replace q17 := eq_true q17) | (go_at_call 75; (with_reducible refine (spec_IsText.calls x6_1 false _ A19.out).mono ?_); rintro e w' ⟨rfl, ⟨nd, rfl⟩⟩))
           go_ret2
           exact ⟨by first | rfl | (simp; done) | (simp only [← hji11] <;> (first | rfl | simp)) | (simp [*]; done), d0_⟩
         ·obtain ⟨c18b0, c18b1⟩ := bn_ c18;obtain ⟨rfl, rfl⟩ := pi_ H;have p6 : 0 ≤ (x7_1 : Int) := dT_;have q6 : x7_1 < (a0.size : Int) := dT_;have hx6 := bt_at a0 x7_1;replace p6 := eq_true p6;replace q6 := eq_true q6;go_wp2_with (first | (go_at_call 122; (with_reducible refine (spec_l3Digit.calls k1 (bt a0 x7_1) false t339 _ A7.out).mono ?_); rintro e w' ⟨rfl, ⟨nd, rfl⟩⟩; have p14 : 0 ≤ ((ji11) : Int) := dT_; have q14 : (ji11) < (a0.size : Int) := dT_; have hx14 := bt_at a0 (ji11); replace p14 := eq_true p14; replace q14 := eq_true q14; have p17 : 0 ≤ (x7_1 : Int) := dT_; have q17 : x7_1 < (a0.size : Int) := dT_; have hx17 := bt_at a0 x7_1; replace p17 := eq_true p17; replace q17 := eq_true q17))
          go_ret2
          exact ⟨by first | rfl | (simp; done) | (simp only [← hji11] <;> (first | rfl | simp)) | (simp [*]; done), d0_⟩
    ·have c4b0 := dF_ c4;clear c4;rcases ic_ H with ⟨c21, H⟩ | ⟨c21, H⟩
     ·obtain ⟨c21b0, c21b1⟩ := be_ c21;clear c21;obtain ⟨rfl, rfl⟩ := pi_ H;go_wp2
      go_ret2
      exact ⟨e2_, d0_⟩
     ·obtain ⟨c21b0, c21b1⟩ := bn_ c21;obtain ⟨ji22, hji22⟩ : ∃ j_ : Int, (wrap64 (a1 + 2)) = j_ := ⟨_, rfl⟩;replace H : (if 0 ≤ (ji22) then (if (ji22) < (a0.size : Int) then (if (bt a0 (ji22)) = 48 then (some (0, (-1))) else (if x7_1 ≥ (a0.size : Int) then (some (0, (-1))) else (if 0 ≤ x7_1 then (if (bt a0 x7_1) = 59 then ((spec_IsText.f x6_1).bind fun t341 => (if t341 = true then (some (x6_1, x7_1)) else (some (0, (-1))))) else (some (0, (-1)))) else (none)))) else (none)) else (none)) = some (r1, r2) := by first | (rw [hji22] at H; exact H) | (simp only [hji22] at H ⊢; exact H)
      (try rw [hji22] at c21b0)
      (try rw [hji22] at c21b1)
      have hji22w : (IntKind.i64.wrap (a1 + 2)) = ji22 := (i64_w _).trans hji22;obtain ⟨c23, H⟩ := ifn_ H;have c23b0 := dE_ c23;clear c23;obtain ⟨c24, H⟩ := ifn_ H;have c24b0 := dE_ c24;clear c24;rcases ic_ H with ⟨c26, H⟩ | ⟨c26, H⟩
      ·obtain ⟨c26b0, c26b1⟩ := be_ c26;clear c26;obtain ⟨rfl, rfl⟩ := pi_ H;have p25 : 0 ≤ ((ji22) : Int) := dT_;have q25 : (ji22) < (a0.size : Int) := dT_;have hx25 := bt_at a0 (ji22);replace p25 := eq_true p25;replace q25 := eq_true q25;go_wp2
       go_ret2
       exact ⟨by first | rfl | (simp; done) | (simp only [← hji22] <;> (first | rfl | simp)) | (simp [*]; done), d0_⟩
      ·obtain ⟨c26b0, c26b1⟩ := bn_ c26;rcases ic_ H with ⟨c27, H⟩ | ⟨c27, H⟩
       ·have c27b0 : decide ((a0.size : Int) ≤ x7_1) = true := dE_ c27;clear c27;obtain ⟨rfl, rfl⟩ := pi_ H;have p25 : 0 ≤ ((ji22) : Int) := dT_;have q25 : (ji22) < (a0.size : Int) := dT_;have hx25 := bt_at a0 (ji22);replace p25 := eq_true p25;replace q25 := eq_true q25;go_wp2
        go_ret2
        exact ⟨by first | rfl | (simp; done) | (simp only [← hji22] <;> (first | rfl | simp)) | (simp [*]; done), d0_⟩
       ·have c27b0 : decide ((a0.size : Int) ≤ x7_1) = false := dF_ c27;clear c27;obtain ⟨c28, H⟩ := ifn_ H;have c28b0 := dE_ c28;clear c28;rcases ic_ H with ⟨c30, H⟩ | ⟨c30, H⟩
        ·obtain ⟨c30b0, c30b1⟩ := be_ c30;clear c30;obtain ⟨t341, A31, H⟩ := ob_ H;(try dsimp only at H)
         by_cases c32 : t341 = true
         ·subst c32;rw [if_pos rfl] at H;obtain ⟨rfl, rfl⟩ := pi_ H;have p25 : 0 ≤ ((ji22) : Int) := dT_;have q25 : (ji22) < (a0.size : Int) := dT_;have hx25 := bt_at a0 (ji22);replace p25 := eq_true p25;replace q25 := eq_true q25;have p29 : 0 ≤ (x7_1 : Int) := dT_;have q29 : x7_1 < (a0.size : Int) := dT_;have hx29 := bt_at a0 x7_1;replace p29 := eq_true p29;replace q29 := eq_true q29;go_wp2_with (first | (go_at_call 75; (with_reducible refine (spec_IsText.calls x6_1 true _ A31.out).mono ?_); rintro e w' ⟨rfl, ⟨nd, rfl⟩⟩))
          go_ret2
          exact ⟨by first | rfl | (simp; done) | (simp only [← hji22] <;> (first | rfl | simp)) | (simp [*]; done), d0_⟩
         ·replace c32 := bF_ c32;subst c32;rw [if_neg nF_] at H;obtain ⟨rfl, rfl⟩ := pi_ H;have p25 : 0 ≤ ((ji22) : Int) := dT_;have q25 : (ji22) < (a0.size : Int) := dT_;have hx25 := bt_at a0 (ji22);replace p25 := eq_true p25;replace q25 := eq_true q25;have p29 : 0 ≤ (x7_1 : Int) := dT_;have q29 : x7_1 < (a0.size : Int) := dT_;have hx29 := bt_at a0 x7_1;replace p29 := eq_true p29;replace q29 := eq_true q29;go_wp2_with (first | (go_at_call 75; (with_reducible refine (spec_IsText.calls x6_1 false _ A31.out).mono ?_); rintro e w' ⟨rfl, ⟨nd, rfl⟩⟩))
          go_ret2
          exact ⟨by first | rfl | (simp; done) | (simp only [← hji22] <;> (first | rfl | simp)) | (simp [*]; done), d0_⟩
        ·obtain ⟨c30b0, c30b1⟩ := bn_ c30;obtain ⟨rfl, rfl⟩ := pi_ H;have p25 : 0 ≤ ((ji22) : Int) := dT_;have q25 : (ji22) < (a0.size : Int) := dT_;have hx25 := bt_at a0 (ji22);replace p25 := eq_true p25;replace q25 := eq_true q25;have p29 : 0 ≤ (x7_1 : Int) := dT_;have q29 : x7_1 < (a0.size : Int) := dT_;have hx29 := bt_at a0 x7_1;replace p29 := eq_true p29;replace q29 := eq_true q29;go_wp2
         go_ret2
         exact ⟨by first | rfl | (simp; done) | (simp only [← hji22] <;> (first | rfl | simp)) | (simp [*]; done), d0_⟩
   ·have c3b0 := dF_ c3;clear c3;rcases ic_ H with ⟨c33, H⟩ | ⟨c33, H⟩
    ·obtain ⟨c33b0, c33b1⟩ := be_ c33;clear c33;obtain ⟨rfl, rfl⟩ := pi_ H;go_wp2
     go_ret2
     exact ⟨e2_, d0_⟩
    ·obtain ⟨c33b0, c33b1⟩ := bn_ c33;obtain ⟨ji34, hji34⟩ : ∃ j_ : Int, (wrap64 (a1 + 2)) = j_ := ⟨_, rfl⟩;replace H : (if 0 ≤ (ji34) then (if (ji34) < (a0.size : Int) then (if (bt a0 (ji34)) = 48 then (some (0, (-1))) else (if x7_1 ≥ (a0.size : Int) then (some (0, (-1))) else (if 0 ≤ x7_1 then (none) else (none)))) else (none)) else (none)) = some (r1, r2) := by first | (rw [hji34] at H; exact H) | (simp only [hji34] at H ⊢; exact H)
     (try rw [hji34] at c33b0)
     (try rw [hji34] at c33b1)
     have hji34w : (IntKind.i64.wrap (a1 + 2)) = ji34 := (i64_w _).trans hji34;obtain ⟨c35, H⟩ := ifn_ H;have c35b0 := dE_ c35;clear c35;obtain ⟨c36, H⟩ := ifn_ H;have c36b0 := dE_ c36;clear c36;rcases ic_ H with ⟨c38, H⟩ | ⟨c38, H⟩
     ·obtain ⟨c38b0, c38b1⟩ := be_ c38;clear c38;obtain ⟨rfl, rfl⟩ := pi_ H;have p37 : 0 ≤ ((ji34) : Int) := dT_;have q37 : (ji34) < (a0.size : Int) := dT_;have hx37 := bt_at a0 (ji34);replace p37 := eq_true p37;replace q37 := eq_true q37;go_wp2
      go_ret2
      exact ⟨by first | rfl | (simp; done) | (simp only [← hji34] <;> (first | rfl | simp)) | (simp [*]; done), d0_⟩
     ·obtain ⟨c38b0, c38b1⟩ := bn_ c38;rcases ic_ H with ⟨c39, H⟩ | ⟨c39, H⟩
      ·have c39b0 : decide ((a0.size : Int) ≤ x7_1) = true := dE_ c39;clear c39;obtain ⟨rfl, rfl⟩ := pi_ H;have p37 : 0 ≤ ((ji34) : Int) := dT_;have q37 : (ji34) < (a0.size : Int) := dT_;have hx37 := bt_at a0 (ji34);replace p37 := eq_true p37;replace q37 := eq_true q37;go_wp2
       go_ret2
       exact ⟨by first | rfl | (simp; done) | (simp only [← hji34] <;> (first | rfl | simp)) | (simp [*]; done), d0_⟩
      ·have c39b0 : decide ((a0.size : Int) ≤ x7_1) = false := dF_ c39;clear c39;obtain ⟨c40, H⟩ := ifn_ H;exact absurd H si_
end Go.Proofs.YtkmmoheeoblmnaaGreatDoor.A
