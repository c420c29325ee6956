-- joined by wip/tools/shake.py
import Derived.Test.YtkmmoheeoblmnaaGreatDoorVRdTW9
import Derived.Test.YtkmmoheeoblmnaaGreatDoorMRdT0
import Derived.Test.YtkmmoheeoblmnaaGreatDoorMRdT2
set_option maxHeartbeats 16000000
set_option maxRecDepth 100000
namespace Go.Proofs.YtkmmoheeoblmnaaGreatDoor.A
open Go.RowKit Go.Proofs.YtkmmoheeoblmnaaGreatDoorW.PrintWords Go.Proofs.YtkmmoheeoblmnaaGreatDoorW.PrintLast Go.Proofs.YtkmmoheeoblmnaaGreatDoorW.PrintMore
attribute [local go_sem] max2_int min2_int max_two min_two max_three min_three max_four min_four
set_option linter.unusedVariables false
set_option linter.unusedSimpArgs false
def inSp (n : Int) : List (Int × Int) → Bool
 | [] => false
 | p :: r => (decide (p.1 ≤ n) && decide (n ≤ p.2)) || inSp n r
theorem inSp_yes {n : Int} {ps : List (Int × Int)} {j : Nat} (h : j < ps.length) (hc : (decide (ps[j].1 ≤ n) && decide (n ≤ ps[j].2)) = true) : inSp n (ps.drop j) = true := by
 rw [List.drop_eq_getElem_cons h, inSp, hc]; rfl
theorem inSp_no {n : Int} {ps : List (Int × Int)} {j : Nat} (h : j < ps.length) (hc : (decide (ps[j].1 ≤ n) && decide (n ≤ ps[j].2)) = false) : inSp n (ps.drop j) = inSp n (ps.drop (j + 1)) := by
 rw [List.drop_eq_getElem_cons h, inSp, hc]; rfl
theorem inSpans_any (b : Nat) (ps : List (Int × Int)) (n : Int) (w : World) (hl : ps.length ≤ 1000) (hc : ∀ (j : Nat) (h : j < ps.length), w.cell? ⟨b, j * 2, none⟩ = some (.int .i64 ps[j].1) ∧ w.cell? ⟨b, j * 2 + 1, none⟩ = some (.int .i64 ps[j].2)) :
  Calls Tryz.prog 108 #[.int .i64 n, .slice (some ⟨b, 0, none⟩) ps.length ps.length] w fun e w' => e = .returned (.bool (inSp n ps)) ∧ Below w.heap.size w w' := by
 have HC := A_ hc;have HL := A_ hl;clear hc hl;have hu := Tryz.underlying109;have HB := A_ (Below.refl w.heap.size w);go_enter Tryz.func108, Tryz.ntmps108
 go_wp2
 go_loopg [9] ps.length (fun kq v9 wr => ∃ j : Nat, v9 = .int .i64 j ∧ j ≤ ps.length ∧ As9 (kq = ps.length - j) ∧ As9 (inSp n (ps.drop j) = inSp n ps) ∧ As9 (Below w.heap.size w wr))
 case atStart => exact ⟨0, rfl, Nat.zero_le _, ⟨rfl⟩, ⟨rfl⟩, HB⟩
 case round =>
  clear HB;obtain ⟨j, rfl, hj, HM, HE, HB⟩ := hrel;have hl := HL.out;by_cases hlt : j < ps.length
  ·obtain ⟨x0, x1⟩ := HC.out j hlt;have hy := A_ (@inSp_yes n ps j hlt);have hn := A_ (@inSp_no n ps j hlt);generalize ps[j] = p at x0 x1 hy hn;replace x0 := cB_ HB.out x0;replace x1 := cB_ HB.out x1;have HB1 := A_ (bA9 HB.out (.cells #[.int .i64 p.1, .int .i64 p.2] 109));have hwr : wrap64 ((j : Int) + 1) = ((j + 1 : Nat) : Int) := by unfold wrap64; omega
   cases hb : (decide (p.1 ≤ n) && decide (n ≤ p.2)) with
   | true =>
    have hin : impl_inRange.f n p.1 p.2 = some true := by
     unfold impl_inRange.f;simp only [Bool.and_eq_true, decide_eq_true_eq] at hb;rw [if_pos hb.1, dE_ hb.2]
    have Hin := A_ hin;have HY := A_ (hy.out hb);clear hin hb hy hn;go_wp2_with ((go_at_call 53; (with_reducible refine (impl_inRange.calls n p.1 p.2 true _ Hin.out).mono ?_); rintro r w' ⟨rfl, ⟨nd, rfl⟩⟩))
    go_ret
    exact ⟨by rw [← HE.out, HY.out]; rfl, by repeat (first | (with_reducible first | exact HB1.out | apply bA9 | apply bN9 | apply bD9) | exact HB1.out)⟩
   | false =>
    have hin : impl_inRange.f n p.1 p.2 = some false := by
     unfold impl_inRange.f;by_cases h1 : n ≥ p.1
     ·rw [if_pos h1];have : decide (p.1 ≤ n) = true := dE_ h1;rw [this] at hb;simpa using hb
     ·rw [if_neg h1]
    have Hin := A_ hin;have HY := A_ (hn.out hb);clear hin hb hy hn;go_wp2_with ((go_at_call 53; (with_reducible refine (impl_inRange.calls n p.1 p.2 false _ Hin.out).mono ?_); rintro r w' ⟨rfl, ⟨nd, rfl⟩⟩))
    go_roundg (ps.length - (j + 1))
    case measure => have := HM.out; omega
    case rel => exact ⟨j + 1, by first | rfl | rw [hwr], om_, ⟨rfl⟩, ⟨by rw [← HE.out, HY.out]⟩, ⟨by repeat (first | (with_reducible first | exact HB1.out | apply bA9 | apply bN9 | apply bD9) | exact HB1.out)⟩⟩
  ·go_wp2
   go_ret
   exact ⟨by rw [← HE.out, List.drop_of_length_le om_]; rfl, HB.out⟩
theorem spans_cells (l : List (Int × Int)) (cs : List Value) (w : World) (b : Nat) (t : TypeId) (h : w.heap[b]? = some (.cells cs.toArray t (0, 0))) (hc : cs = l.flatMap fun p => [.int .i64 p.1, .int .i64 p.2]) :
  ∀ (j : Nat) (h : j < l.length), w.cell? ⟨b, j * 2, none⟩ = some (.int .i64 l[j].1) ∧ w.cell? ⟨b, j * 2 + 1, none⟩ = some (.int .i64 l[j].2) := by
 subst hc;have key : ∀ (l : List (Int × Int)) (j : Nat) (h : j < l.length), (l.flatMap fun p => [Value.int .i64 p.1, .int .i64 p.2])[j * 2]? = some (.int .i64 l[j].1) ∧ (l.flatMap fun p => [Value.int .i64 p.1, .int .i64 p.2])[j * 2 + 1]? = some (.int .i64 l[j].2) := by
  intro l;induction l with
  | nil => intro j h; simp at h
  | cons p r ih =>
   intro j h;cases j with
   | zero => simp
   | succ j =>
    have := ih j (by simpa using h);simp only [List.flatMap_cons, List.getElem_cons_succ];rw [show (j + 1) * 2 = j * 2 + 1 + 1 by omega, show j * 2 + 1 + 1 + 1 = (j * 2 + 1) + 1 + 1 by omega];simpa using this
 intro j hj;obtain ⟨k1, k2⟩ := key l j hj;have e : ∀ i, w.cell? ⟨b, i, none⟩ = (l.flatMap fun p => [Value.int .i64 p.1, .int .i64 p.2])[i]? := fun i => by rw [blk_cell h]; simp
 rw [e, e];exact ⟨k1, k2⟩
abbrev firstSp : List (Int × Int) := [(192, 214), (216, 246), (248, 767), (880, 893), (895, 8191), (8204, 8205), (8304, 8591), (11264, 12271), (12289, 55295), (63744, 64975), (65008, 65533), (65536, 983039)]
def impl_IsFirst.f (a0 : Int) : Option Bool := (impl_IsLetter.f a0).bind fun b => if b = true then some true else if a0 = 95 then some true else some (inSp a0 firstSp)
theorem impl_IsFirst.calls (a0 : Int) (r : Bool) (w : World) (h : impl_IsFirst.f a0 = some r) :
  Calls Tryz.prog 56 #[.int .i64 a0] w fun e w' => e = .returned (.bool r) ∧ Below w.heap.size w w' := by
 unfold impl_IsFirst.f at h;obtain ⟨b, hb, h⟩ := oB_ h;have Hb := A_ hb;have hu := Tryz.underlying109;have hus := Tryz.underlying110;have HB := A_ (Below.refl w.heap.size w);clear hb;cases b with
 | true =>
  rw [if_pos rfl] at h;obtain rfl := sI_ h;clear h;go_enter Tryz.func56, Tryz.ntmps56
  go_wp2_with ((go_at_call 107; (with_reducible refine (impl_IsLetter.calls a0 true _ Hb.out).mono ?_); rintro r w' ⟨rfl, ⟨nd, rfl⟩⟩))
  go_ret
  exact ⟨rfl, hB_⟩
 | false =>
  rw [if_neg si_] at h;by_cases c : a0 = 95
  ·rw [if_pos c] at h;obtain rfl := sI_ h;have cb : (a0 == 95) = true := bQ_ c;clear h c;go_enter Tryz.func56, Tryz.ntmps56
   go_wp2_with ((go_at_call 107; (with_reducible refine (impl_IsLetter.calls a0 false _ Hb.out).mono ?_); rintro r w' ⟨rfl, ⟨nd, rfl⟩⟩))
   go_ret
   exact ⟨rfl, hB_⟩
  ·rw [if_neg c] at h;obtain rfl := sI_ h;have cb : (a0 == 95) = false := bN_ c;clear h c;go_enter Tryz.func56, Tryz.ntmps56
   go_wp2_with ((go_at_call 107; (with_reducible refine (impl_IsLetter.calls a0 false _ Hb.out).mono ?_); rintro r w' ⟨rfl, ⟨nd, rfl⟩⟩))
   refine (inSpans_any _ firstSp a0 _ de_ (spans_cells firstSp _ _ _ _ (heap_alloc_new _ _) rfl)).mono ?_;rintro r w5 ⟨rfl, hb⟩;have HB5 := A_ (below_step hB_ hb);clear hb;go_wp2
   go_ret
   exact ⟨rfl, HB5.out⟩
abbrev nextSp : List (Int × Int) := [(45, 46), (48, 57), (183, 183), (768, 879), (8255, 8256)]
def impl_IsNext.f (a0 : Int) : Option Bool := (impl_IsFirst.f a0).bind fun b => if b = true then some true else some (inSp a0 nextSp)
theorem impl_IsNext.calls (a0 : Int) (r : Bool) (w : World) (h : impl_IsNext.f a0 = some r) :
  Calls Tryz.prog 57 #[.int .i64 a0] w fun e w' => e = .returned (.bool r) ∧ Below w.heap.size w w' := by
 unfold impl_IsNext.f at h;obtain ⟨b, hb, h⟩ := oB_ h;have Hb := A_ hb;have hu := Tryz.underlying109;have hus := Tryz.underlying110;clear hb;cases b with
 | true =>
  rw [if_pos rfl] at h;obtain rfl := sI_ h;clear h;go_enter Tryz.func57, Tryz.ntmps57
  go_wp2_with ((go_at_call 56; (with_reducible refine (impl_IsFirst.calls a0 true _ Hb.out).mono ?_); rintro r w' ⟨rfl, hb⟩; have HB := A_ hb; clear hb))
  go_ret
  exact ⟨rfl, HB.out⟩
 | false =>
  rw [if_neg si_] at h;obtain rfl := sI_ h;clear h;go_enter Tryz.func57, Tryz.ntmps57
  go_wp2_with ((go_at_call 56; (with_reducible refine (impl_IsFirst.calls a0 false _ Hb.out).mono ?_); rintro r w' ⟨rfl, hb⟩; have HB := A_ hb; clear hb))
  refine (inSpans_any _ nextSp a0 _ de_ (spans_cells nextSp _ _ _ _ (heap_alloc_new _ _) rfl)).mono ?_;rintro r w5 ⟨rfl, hb⟩;have HB5 := A_ (below_step hB_ hb);clear hb;go_wp2
  go_ret
  exact ⟨rfl, HB5.out⟩
def impl_XmlName.l0 : Nat → ByteArray → Int → Int → Option (ByteArray × Int)
 | 0, _, _, _ => none
 | k + 1, x0, x1, x6 => (impl_cleanSign.f k x0 x6).bind fun bt243 => (if bt243.1 < 0 then (if 0 ≤ x1 then (if x1 ≤ x6 then (if x6 ≤ (x0.size : Int) then (some (x0.extract (x1 : Int).toNat (x6 : Int).toNat, x6)) else (none)) else (none)) else (none)) else (if x6 = x1 then ((impl_IsFirst.f bt243.1).bind fun t245 => (if t245 = true then ((impl_IsNext.f bt243.1).bind fun t246 => (if t246 = true then (impl_XmlName.l0 k x0 x1 (wrap64 (x6 + bt243.2))) else (if 0 ≤ x1 then (if x1 ≤ x6 then (if x6 ≤ (x0.size : Int) then (some (x0.extract (x1 : Int).toNat (x6 : Int).toNat, x6)) else (none)) else (none)) else (none)))) else (if 0 ≤ x1 then (if x1 ≤ x6 then (if x6 ≤ (x0.size : Int) then (some (x0.extract (x1 : Int).toNat (x6 : Int).toNat, x6)) else (none)) else (none)) else (none)))) else ((impl_IsNext.f bt243.1).bind fun t247 => (if t247 = true then (impl_XmlName.l0 k x0 x1 (wrap64 (x6 + bt243.2))) else (if 0 ≤ x1 then (if x1 ≤ x6 then (if x6 ≤ (x0.size : Int) then (some (x0.extract (x1 : Int).toNat (x6 : Int).toNat, x6)) else (none)) else (none)) else (none))))))
def impl_XmlName.f (k : Nat) (a0 : BA) (a1 : Int) : Option (ByteArray × Int) := (impl_inRange.f a1 0 (wrap64 ((a0.size : Int) - 1))).bind fun t242 => (if t242 = true then (impl_XmlName.l0 k a0 a1 a1) else (some ((⟨#[]⟩ : BA), a1)))
theorem impl_XmlName.mono_l : ∀ k, (∀ y0 y1 y2, LeO (impl_XmlName.l0 k y0 y1 y2) (impl_XmlName.l0 (k + 1) y0 y1 y2))
 | 0 => fun _ _ _ r h => by simp [impl_XmlName.l0] at h
 | k + 1 => by
  have ih0 := impl_XmlName.mono_l k
  ·intro y0 y1 y2;unfold impl_XmlName.l0;with_reducible repeat' first | exact ih0 _ _ _ | exact impl_cleanSign.mono _ _ _ | apply LeO.refl | apply LeO.none | apply LeO.ite | apply LeO.bind | intro
theorem impl_XmlName.mono : ∀ a0 a1 k, LeO (impl_XmlName.f k a0 a1) (impl_XmlName.f (k + 1) a0 a1) := by
 intro a0 a1 k;have ih0 := impl_XmlName.mono_l k;unfold impl_XmlName.f;with_reducible repeat' first | exact ih0 _ _ _ | exact impl_cleanSign.mono _ _ _ | apply LeO.refl | apply LeO.none | apply LeO.ite | apply LeO.bind | intro
theorem impl_XmlName.calls (k : Nat) (a0 : BA) (a1 : Int) (r1 : BA) (r2 : Int) (w : World) (h : impl_XmlName.f k a0 a1 = some (r1, r2)) :
  Calls Tryz.prog 16 #[.string a0, .int .i64 a1] w fun e w' => e = .returned (.tuple #[.string r1, .int .i64 r2]) ∧ Below w.heap.size w w' := by
 have HB := A_ (Below.refl w.heap.size w);have H : ((impl_inRange.f a1 0 (wrap64 ((a0.size : Int) - 1))).bind fun t242 => (if t242 = true then (impl_XmlName.l0 k a0 a1 a1) else (some ((⟨#[]⟩ : BA), a1)))) = some (r1, r2) := h;clear h;obtain ⟨t242, A3, H⟩ := ob_ H;(try dsimp only at H)
 by_cases c4 : t242 = true
 ·subst c4;rw [if_pos rfl] at H;have H' := A_ H;clear H;go_enter Tryz.func16, Tryz.ntmps16
  go_wp2_with (first | ((with_reducible refine gC_ 53 ?_); refine gL_ 13 Tryz.func53 #[.int .i64 a1, .int .i64 0, .int .i64 (wrap64 ((a0.size : Int) - 1))] ?_; (with_reducible refine (impl_inRange.calls a1 0 (wrap64 ((a0.size : Int) - 1)) true _ A3.out).mono ?_); rintro e w' ⟨rfl, ⟨nd, rfl⟩⟩; refine ⟨_, rfl, ?_⟩))
  go_loopg [6] k (fun kq v6 w' => ∃ (x6_1 : Int), v6 = .int .i64 x6_1 ∧ As9 (impl_XmlName.l0 kq a0 a1 x6_1 = some (r1, r2)) ∧ As9 (kq ≤ k) ∧ As9 (Below w.heap.size w w'))
  case atStart => exact ⟨(a1), e2_, H', ⟨Nat.le_refl _⟩, ⟨hB_⟩⟩
  case round =>
   clear H';try clear c1
   try clear p2
   try clear c4
   obtain ⟨x6_1, rfl, HA, HK1, HB⟩ := hrel;cases gk with
   | zero => exact absurd HA.out (by simp [impl_XmlName.l0])
   | succ k1 =>
    have H := HA.out;clear HA;simp only [impl_XmlName.l0] at H;obtain ⟨⟨t243, t244⟩, A5, H⟩ := ob_ H;(try dsimp only at H)
    rcases ic_ H with ⟨c6, H⟩ | ⟨c6, H⟩
    ·have c6b0 := dE_ c6;clear c6;obtain ⟨c7, H⟩ := ifn_ H;have c7b0 := eq_true c7;have c7b1 := dE_ c7;clear c7;obtain ⟨c8, H⟩ := ifn_ H;have c8b0 := eq_true c8;have c8b1 := dE_ c8;clear c8;obtain ⟨c9, H⟩ := ifn_ H;have c9b0 := eq_true c9;have c9b1 := dE_ c9;clear c9;obtain ⟨rfl, rfl⟩ := pi_ H;go_wp2_with (first | ((with_reducible refine gC_ 55 ?_); refine gL_ 20 Tryz.func55 #[.string a0, .int .i64 x6_1] ?_; refine bm_ (impl_cleanSign.calls k1 a0 x6_1 t243 t244 _ A5.out) ?_; clear HB; intro w10 HB))
     go_ret2
     exact ⟨e1_, hB_⟩
    ·have c6b0 := dF_ c6;clear c6;rcases ic_ H with ⟨c11, H⟩ | ⟨c11, H⟩
     ·obtain ⟨c11b0, c11b1⟩ := be_ c11;clear c11;obtain ⟨t245, A12, H⟩ := ob_ H;(try dsimp only at H)
      by_cases c13 : t245 = true
      ·subst c13;rw [if_pos rfl] at H;obtain ⟨t246, A14, H⟩ := ob_ H;(try dsimp only at H)
       by_cases c15 : t246 = true
       ·subst c15;rw [if_pos rfl] at H;have H' := A_ H;clear H;go_wp2_with (first | ((with_reducible refine gC_ 55 ?_); refine gL_ 20 Tryz.func55 #[.string a0, .int .i64 x6_1] ?_; refine bm_ (impl_cleanSign.calls k1 a0 x6_1 t243 t244 _ A5.out) ?_; clear HB; intro w16 HB) | (go_at_call 56; (with_reducible refine (impl_IsFirst.calls t243 true _ A12.out).mono ?_); rintro e w17 ⟨rfl, hb⟩; replace HB := bS_ hb; clear hb) | (go_at_call 57; (with_reducible refine (impl_IsNext.calls t243 true _ A14.out).mono ?_); rintro e w18 ⟨rfl, hb⟩; replace HB := bS_ hb; clear hb))
        go_roundg k1
        case measure => have := HK1.out; omega
        case rel => exact ⟨(wrap64 (x6_1 + t244)), e2_, H', ⟨by have := HK1.out; omega⟩, ⟨hB_⟩⟩
       ·replace c15 := bF_ c15;subst c15;rw [if_neg nF_] at H;obtain ⟨c19, H⟩ := ifn_ H;have c19b0 := eq_true c19;have c19b1 := dE_ c19;clear c19;obtain ⟨c20, H⟩ := ifn_ H;have c20b0 := eq_true c20;have c20b1 := dE_ c20;clear c20;obtain ⟨c21, H⟩ := ifn_ H;have c21b0 := eq_true c21;have c21b1 := dE_ c21;clear c21;obtain ⟨rfl, rfl⟩ := pi_ H;go_wp2_with (first | ((with_reducible refine gC_ 55 ?_); refine gL_ 20 Tryz.func55 #[.string a0, .int .i64 x6_1] ?_; refine bm_ (impl_cleanSign.calls k1 a0 x6_1 t243 t244 _ A5.out) ?_; clear HB; intro w22 HB) | (go_at_call 56; (with_reducible refine (impl_IsFirst.calls t243 true _ A12.out).mono ?_); rintro e w23 ⟨rfl, hb⟩; replace HB := bS_ hb; clear hb) | (go_at_call 57; (with_reducible refine (impl_IsNext.calls t243 false _ A14.out).mono ?_); rintro e w24 ⟨rfl, hb⟩; replace HB := bS_ hb; clear hb))
        go_ret2
        exact ⟨e1_, hB_⟩
      ·replace c13 := bF_ c13;subst c13;rw [if_neg nF_] at H;obtain ⟨c25, H⟩ := ifn_ H;have c25b0 := eq_true c25;have c25b1 := dE_ c25;clear c25;obtain ⟨c26, H⟩ := ifn_ H;have c26b0 := eq_true c26;have c26b1 := dE_ c26;clear c26;obtain ⟨c27, H⟩ := ifn_ H;have c27b0 := eq_true c27;have c27b1 := dE_ c27;clear c27;obtain ⟨rfl, rfl⟩ := pi_ H;go_wp2_with (first | ((with_reducible refine gC_ 55 ?_); refine gL_ 20 Tryz.func55 #[.string a0, .int .i64 x6_1] ?_; refine bm_ (impl_cleanSign.calls k1 a0 x6_1 t243 t244 _ A5.out) ?_; clear HB; intro w28 HB) | (go_at_call 56; (with_reducible refine (impl_IsFirst.calls t243 false _ A12.out).mono ?_); rintro e w29 ⟨rfl, hb⟩; replace HB := bS_ hb; clear hb))
       go_ret2
       exact ⟨e1_, hB_⟩
     ·obtain ⟨c11b0, c11b1⟩ := bn_ c11;obtain ⟨t247, A30, H⟩ := ob_ H;(try dsimp only at H)
      by_cases c31 : t247 = true
      ·subst c31;rw [if_pos rfl] at H;have H' := A_ H;clear H;go_wp2_with (first | ((with_reducible refine gC_ 55 ?_); refine gL_ 20 Tryz.func55 #[.string a0, .int .i64 x6_1] ?_; refine bm_ (impl_cleanSign.calls k1 a0 x6_1 t243 t244 _ A5.out) ?_; clear HB; intro w32 HB) | (go_at_call 57; (with_reducible refine (impl_IsNext.calls t243 true _ A30.out).mono ?_); rintro e w33 ⟨rfl, hb⟩; replace HB := bS_ hb; clear hb))
       go_roundg k1
       case measure => have := HK1.out; omega
       case rel => exact ⟨(wrap64 (x6_1 + t244)), e2_, H', ⟨by have := HK1.out; omega⟩, ⟨hB_⟩⟩
      ·replace c31 := bF_ c31;subst c31;rw [if_neg nF_] at H;obtain ⟨c34, H⟩ := ifn_ H;have c34b0 := eq_true c34;have c34b1 := dE_ c34;clear c34;obtain ⟨c35, H⟩ := ifn_ H;have c35b0 := eq_true c35;have c35b1 := dE_ c35;clear c35;obtain ⟨c36, H⟩ := ifn_ H;have c36b0 := eq_true c36;have c36b1 := dE_ c36;clear c36;obtain ⟨rfl, rfl⟩ := pi_ H;go_wp2_with (first | ((with_reducible refine gC_ 55 ?_); refine gL_ 20 Tryz.func55 #[.string a0, .int .i64 x6_1] ?_; refine bm_ (impl_cleanSign.calls k1 a0 x6_1 t243 t244 _ A5.out) ?_; clear HB; intro w37 HB) | (go_at_call 57; (with_reducible refine (impl_IsNext.calls t243 false _ A30.out).mono ?_); rintro e w38 ⟨rfl, hb⟩; replace HB := bS_ hb; clear hb))
       go_ret2
       exact ⟨e1_, hB_⟩
 ·replace c4 := bF_ c4;subst c4;rw [if_neg nF_] at H;obtain ⟨rfl, rfl⟩ := pi_ H;go_enter Tryz.func16, Tryz.ntmps16
  go_wp2_with (first | ((with_reducible refine gC_ 53 ?_); refine gL_ 13 Tryz.func53 #[.int .i64 a1, .int .i64 0, .int .i64 (wrap64 ((a0.size : Int) - 1))] ?_; (with_reducible refine (impl_inRange.calls a1 0 (wrap64 ((a0.size : Int) - 1)) false _ A3.out).mono ?_); rintro e w' ⟨rfl, ⟨nd, rfl⟩⟩; refine ⟨_, rfl, ?_⟩))
  go_ret2
  exact ⟨e1_, hB_⟩
def stringslite_HasPrefix.f (a0 : BA) (a1 : BA) : Option (Bool) := if (a0.size : Int) ≥ (a1.size : Int) then (if 0 ≤ (a1.size : Int) then (if (a1.size : Int) ≤ (a0.size : Int) then (some ((a0.extract 0 ((a1.size : Int) : Int).toNat).toList == a1.toList)) else (none)) else (none)) else (some false)
theorem stringslite_HasPrefix.calls (a0 : BA) (a1 : BA) (r : Bool) (w : World) (h : stringslite_HasPrefix.f a0 a1 = some r) :
  Calls Tryz.prog 125 #[.string a0, .string a1] w fun e w' => e = .returned (.bool r) ∧ Drawn0 w w' := by
 have H : (if (a0.size : Int) ≥ (a1.size : Int) then (if 0 ≤ (a1.size : Int) then (if (a1.size : Int) ≤ (a0.size : Int) then (some ((a0.extract 0 ((a1.size : Int) : Int).toNat).toList == a1.toList)) else (none)) else (none)) else (some false)) = some r := h;clear h;rcases ic_ H with ⟨c3, H⟩ | ⟨c3, H⟩
 ·have c3b0 : decide ((a1.size : Int) ≤ (a0.size : Int)) = true := dE_ c3;have c3b1 : decide (a1.size ≤ a0.size) = true := dE_ (Int.ofNat_le.mp c3);clear c3;obtain ⟨c4, H⟩ := ifn_ H;have c4b0 := eq_true c4;have c4b1 := dE_ c4;clear c4;obtain ⟨c5, H⟩ := ifn_ H;have c5b0 := eq_true c5;have c5b1 := dE_ c5;clear c5;obtain rfl := sI_ H;go_enter Tryz.func125, Tryz.ntmps125
  go_wp2
  go_ret
  exact ⟨e2_, d0_⟩
 ·have c3b0 : decide ((a1.size : Int) ≤ (a0.size : Int)) = false := dF_ c3;have c3b1 : decide (a1.size ≤ a0.size) = false := dF_ (fun h => c3 (Int.ofNat_le.mpr h));clear c3;obtain rfl := sI_ H;go_enter Tryz.func125, Tryz.ntmps125
  go_wp2
  go_ret
  exact ⟨e2_, d0_⟩
def strings_HasPrefix.f (a0 : BA) (a1 : BA) : Option (Bool) := (stringslite_HasPrefix.f a0 a1).bind fun t299 => (some t299)
theorem strings_HasPrefix.calls (a0 : BA) (a1 : BA) (r : Bool) (w : World) (h : strings_HasPrefix.f a0 a1 = some r) :
  Calls Tryz.prog 76 #[.string a0, .string a1] w fun e w' => e = .returned (.bool r) ∧ Drawn0 w w' := by
 have H : ((stringslite_HasPrefix.f a0 a1).bind fun t299 => (some t299)) = some r := h;clear h;obtain ⟨t299, A3, H⟩ := ob_ H;obtain rfl := sI_ H;go_enter Tryz.func76, Tryz.ntmps76
 go_wp2_with (first | ((with_reducible refine gC_ 125 ?_); refine gL_ 7 Tryz.func125 #[.string a0, .string a1] ?_; refine dm_ (stringslite_HasPrefix.calls a0 a1 t299 _ A3.out) fun nd => ?_))
 go_ret
 exact ⟨e2_, d0_⟩
def strings_IndexByte.f (a0 : BA) (a1 : Int) : Option Int := some (Lib.indexByte a0.data.toList a1.toNat.toUInt8)
theorem strings_IndexByte.calls (a0 : BA) (a1 : Int) (r : Int) (w : World) (h : strings_IndexByte.f a0 a1 = some r) :
  Calls Tryz.prog 64 #[.string a0, .int .u8 a1] w fun e w' => e = .returned (.int .i64 r) ∧ Drawn0 w w' := by
 obtain rfl := sI_ h;exact (Tryz.strings_IndexByte a0 a1 w).mono fun e w' hh => ⟨hh.1, by rw [hh.2]; exact Drawn0.refl _⟩
def impl_IsText.f (a0 : Int) : Option (Bool) := if a0 = 9 then (some true) else (if a0 = 10 then (some true) else (if a0 = 13 then (some true) else ((impl_SignOk.f a0).bind fun t337 => (if t337 = true then (if a0 ≥ 32 then (if a0 = 65534 then (some false) else (some (a0 != 65535))) else (some false)) else (some false)))))
theorem impl_IsText.calls (a0 : Int) (r : Bool) (w : World) (h : impl_IsText.f a0 = some r) :
  Calls Tryz.prog 67 #[.int .i64 a0] w fun e w' => e = .returned (.bool r) ∧ Drawn0 w w' := by
 have H : (if a0 = 9 then (some true) else (if a0 = 10 then (some true) else (if a0 = 13 then (some true) else ((impl_SignOk.f a0).bind fun t337 => (if t337 = true then (if a0 ≥ 32 then (if a0 = 65534 then (some false) else (some (a0 != 65535))) else (some false)) else (some false)))))) = some r := h;clear h;rcases ic_ H with ⟨c2, H⟩ | ⟨c2, H⟩
 ·obtain ⟨c2b0, c2b1⟩ := be_ c2;clear c2;obtain rfl := sI_ H;go_enter Tryz.func67, Tryz.ntmps67
  go_wp2
  go_ret
  exact ⟨e2_, d0_⟩
 ·obtain ⟨c2b0, c2b1⟩ := bn_ c2;rcases ic_ H with ⟨c3, H⟩ | ⟨c3, H⟩
  ·obtain ⟨c3b0, c3b1⟩ := be_ c3;clear c3;obtain rfl := sI_ H;go_enter Tryz.func67, Tryz.ntmps67
   go_wp2
   go_ret
   exact ⟨e2_, d0_⟩
  ·obtain ⟨c3b0, c3b1⟩ := bn_ c3;rcases ic_ H with ⟨c4, H⟩ | ⟨c4, H⟩
   ·obtain ⟨c4b0, c4b1⟩ := be_ c4;clear c4;obtain rfl := sI_ H;go_enter Tryz.func67, Tryz.ntmps67
    go_wp2
    go_ret
    exact ⟨e2_, d0_⟩
   ·obtain ⟨c4b0, c4b1⟩ := bn_ c4;obtain ⟨t337, A5, H⟩ := ob_ H;(try dsimp only at H)
    by_cases c6 : t337 = true
    ·subst c6;rw [if_pos rfl] at H;rcases ic_ H with ⟨c7, H⟩ | ⟨c7, H⟩
     ·have c7b0 : decide (32 ≤ a0) = true := dE_ c7;clear c7;rcases ic_ H with ⟨c8, H⟩ | ⟨c8, H⟩
      ·obtain ⟨c8b0, c8b1⟩ := be_ c8;clear c8;obtain rfl := sI_ H;go_enter Tryz.func67, Tryz.ntmps67
       go_wp2_with (first | ((with_reducible refine gC_ 120 ?_); refine gL_ 14 Tryz.func120 #[.int .i64 a0] ?_; refine dm_ (impl_SignOk.calls a0 true _ A5.out) fun nd => ?_))
       go_ret
       exact ⟨e2_, d0_⟩
      ·obtain ⟨c8b0, c8b1⟩ := bn_ c8;obtain rfl := sI_ H;go_enter Tryz.func67, Tryz.ntmps67
       go_wp2_with (first | ((with_reducible refine gC_ 120 ?_); refine gL_ 14 Tryz.func120 #[.int .i64 a0] ?_; refine dm_ (impl_SignOk.calls a0 true _ A5.out) fun nd => ?_))
       go_ret
       exact ⟨e2_, d0_⟩
     ·have c7b0 : decide (32 ≤ a0) = false := dF_ c7;clear c7;obtain rfl := sI_ H;go_enter Tryz.func67, Tryz.ntmps67
      go_wp2_with (first | ((with_reducible refine gC_ 120 ?_); refine gL_ 14 Tryz.func120 #[.int .i64 a0] ?_; refine dm_ (impl_SignOk.calls a0 true _ A5.out) fun nd => ?_))
      go_ret
      exact ⟨e2_, d0_⟩
    ·replace c6 := bF_ c6;subst c6;rw [if_neg nF_] at H;obtain rfl := sI_ H;go_enter Tryz.func67, Tryz.ntmps67
     go_wp2_with (first | ((with_reducible refine gC_ 120 ?_); refine gL_ 14 Tryz.func120 #[.int .i64 a0] ?_; refine dm_ (impl_SignOk.calls a0 false _ A5.out) fun nd => ?_))
     go_ret
     exact ⟨e2_, d0_⟩
abbrev nrL : List ByteArray := [(⟨#[38, 97, 109, 112, 59]⟩ : BA), (⟨#[38, 108, 116, 59]⟩ : BA), (⟨#[38, 103, 116, 59]⟩ : BA), (⟨#[38, 113, 117, 111, 116, 59]⟩ : BA), (⟨#[38, 97, 112, 111, 115, 59]⟩ : BA)]
abbrev nsgL : List ByteArray := [(⟨#[38]⟩ : BA), (⟨#[60]⟩ : BA), (⟨#[62]⟩ : BA), (⟨#[34]⟩ : BA), (⟨#[39]⟩ : BA)]
def nrF (s : BA) : List ByteArray → List ByteArray → Option (ByteArray × Int)
 | n :: ns, x :: xs => (strings_HasPrefix.f s n).bind fun b => if b = true then some (x, (n.size : Int)) else nrF s ns xs
 | _, _ => some (⟨#[]⟩, 0)
def impl_namedRef.f (a0 : BA) : Option (ByteArray × Int) := nrF a0 nrL nsgL
theorem nr_at (i : Nat) (h : i < 5) (w : World) : (Instr.index 115 (.agg #[.string ⟨#[38, 97, 109, 112, 59]⟩, .string ⟨#[38, 108, 116, 59]⟩, .string ⟨#[38, 103, 116, 59]⟩, .string ⟨#[38, 113, 117, 111, 116, 59]⟩, .string ⟨#[38, 97, 112, 111, 115, 59]⟩]) (.int .i64 (i : Int))).run Tryz.prog w = .ok (.string (nrL.getD i ⟨#[]⟩)) w := by
 rcases (show i = 0 ∨ i = 1 ∨ i = 2 ∨ i = 3 ∨ i = 4 by omega) with rfl | rfl | rfl | rfl | rfl <;> (clear h; show _ = _; kernel_rfl)
theorem nr_drop (s : BA) (j : Nat) (h : j < 5) : nrF s (nrL.drop j) (nsgL.drop j) = (strings_HasPrefix.f s (nrL.getD j ⟨#[]⟩)).bind fun b => if b = true then some (nsgL.getD j ⟨#[]⟩, ((nrL.getD j ⟨#[]⟩).size : Int)) else nrF s (nrL.drop (j + 1)) (nsgL.drop (j + 1)) := by
 rcases (show j = 0 ∨ j = 1 ∨ j = 2 ∨ j = 3 ∨ j = 4 by omega) with rfl | rfl | rfl | rfl | rfl <;> rfl
theorem impl_namedRef.calls (a0 : BA) (r1 : BA) (r2 : Int) (w : World) (h : impl_namedRef.f a0 = some (r1, r2)) :
  Calls Tryz.prog 62 #[.string a0] w fun e w' => e = .returned (.tuple #[.string r1, .int .i64 r2]) ∧ Below w.heap.size w w' := by
 have HF : As9 (nrF a0 (nrL.drop 0) (nsgL.drop 0) = some (r1, r2)) := ⟨h⟩;clear h;have hu := Tryz.underlying115;have HB := A_ (Below.refl w.heap.size w);go_enter Tryz.func62, Tryz.ntmps62
 go_wp2
 have HB1 := A_ (bA9 (bA9 HB.out (.cells #[.string ⟨#[38, 97, 109, 112, 59]⟩, .string ⟨#[38, 108, 116, 59]⟩, .string ⟨#[38, 103, 116, 59]⟩, .string ⟨#[38, 113, 117, 111, 116, 59]⟩, .string ⟨#[38, 97, 112, 111, 115, 59]⟩] 115)) (.cells #[.string ⟨#[38]⟩, .string ⟨#[60]⟩, .string ⟨#[62]⟩, .string ⟨#[34]⟩, .string ⟨#[39]⟩] 115));have hcs : ∀ j : Nat, j < 5 → ((w.alloc (.cells #[.string ⟨#[38, 97, 109, 112, 59]⟩, .string ⟨#[38, 108, 116, 59]⟩, .string ⟨#[38, 103, 116, 59]⟩, .string ⟨#[38, 113, 117, 111, 116, 59]⟩, .string ⟨#[38, 97, 112, 111, 115, 59]⟩] 115)).alloc (.cells #[.string ⟨#[38]⟩, .string ⟨#[60]⟩, .string ⟨#[62]⟩, .string ⟨#[34]⟩, .string ⟨#[39]⟩] 115)).cell? ⟨w.heap.size + 1, j, none⟩ = some (.string (nsgL.getD j ⟨#[]⟩)) := by
  intro j hj;have hb : ((w.alloc (.cells #[.string ⟨#[38, 97, 109, 112, 59]⟩, .string ⟨#[38, 108, 116, 59]⟩, .string ⟨#[38, 103, 116, 59]⟩, .string ⟨#[38, 113, 117, 111, 116, 59]⟩, .string ⟨#[38, 97, 112, 111, 115, 59]⟩] 115)).alloc (.cells #[.string ⟨#[38]⟩, .string ⟨#[60]⟩, .string ⟨#[62]⟩, .string ⟨#[34]⟩, .string ⟨#[39]⟩] 115)).heap[w.heap.size + 1]? = some (.cells #[.string ⟨#[38]⟩, .string ⟨#[60]⟩, .string ⟨#[62]⟩, .string ⟨#[34]⟩, .string ⟨#[39]⟩] 115 (0, 0)) := by
   have := heap_alloc_new (w.alloc (.cells #[.string ⟨#[38, 97, 109, 112, 59]⟩, .string ⟨#[38, 108, 116, 59]⟩, .string ⟨#[38, 103, 116, 59]⟩, .string ⟨#[38, 113, 117, 111, 116, 59]⟩, .string ⟨#[38, 97, 112, 111, 115, 59]⟩] 115)) (.cells #[.string ⟨#[38]⟩, .string ⟨#[60]⟩, .string ⟨#[62]⟩, .string ⟨#[34]⟩, .string ⟨#[39]⟩] 115);simpa using this
  rw [blk_cell hb];rcases (show j = 0 ∨ j = 1 ∨ j = 2 ∨ j = 3 ∨ j = 4 by omega) with rfl | rfl | rfl | rfl | rfl <;> rfl
 have HCS := A_ hcs;clear hcs HB;generalize ((w.alloc (.cells #[.string ⟨#[38, 97, 109, 112, 59]⟩, .string ⟨#[38, 108, 116, 59]⟩, .string ⟨#[38, 103, 116, 59]⟩, .string ⟨#[38, 113, 117, 111, 116, 59]⟩, .string ⟨#[38, 97, 112, 111, 115, 59]⟩] 115)).alloc (.cells #[.string ⟨#[38]⟩, .string ⟨#[60]⟩, .string ⟨#[62]⟩, .string ⟨#[34]⟩, .string ⟨#[39]⟩] 115)) = w2 at *;go_loopg [11] 5 (fun kq v11 wr => ∃ j : Nat, v11 = .int .i64 j ∧ j ≤ 5 ∧ As9 (kq = 5 - j) ∧ As9 (nrF a0 (nrL.drop j) (nsgL.drop j) = some (r1, r2)) ∧ As9 (∃ n, wr = w2.drewN n))
 case atStart => exact ⟨0, rfl, Nat.zero_le _, ⟨rfl⟩, HF, ⟨0, rfl⟩⟩
 case round =>
  clear HF;obtain ⟨j, rfl, hj, HM, HE, HW⟩ := hrel;obtain ⟨nw, hw⟩ := HW.out;subst hw;clear HW;by_cases hlt : j < 5
  ·have h := HE.out;rw [nr_drop a0 j hlt] at h;have hix := nr_at j hlt;have hx0 := HCS.out j hlt;obtain ⟨b, hb, h⟩ := oB_ h;generalize nrL.getD j ⟨#[]⟩ = nm at hix hb h;generalize nsgL.getD j ⟨#[]⟩ = sg at hx0 h;have Hb := A_ hb;have hlt' : (j : Int) < 5 := om_;have hwr : wrap64 ((j : Int) + 1) = ((j + 1 : Nat) : Int) := by unfold wrap64; omega
   clear hb HE;cases b with
   | true =>
    rw [if_pos rfl] at h;obtain ⟨rfl, rfl⟩ := Prod.mk.inj (sI_ h);clear h;go_wp2_with ((go_at_call 76; (with_reducible refine (strings_HasPrefix.calls a0 nm true _ Hb.out).mono ?_); rintro r w' ⟨rfl, ⟨nd, rfl⟩⟩))
    go_ret2
    exact ⟨rfl, by repeat (first | (with_reducible first | exact HB1.out | apply bA9 | apply bN9 | apply bD9) | exact HB1.out)⟩
   | false =>
    rw [if_neg si_] at h;have HE2 := A_ h;clear h;go_wp2_with ((go_at_call 76; (with_reducible refine (strings_HasPrefix.calls a0 nm false _ Hb.out).mono ?_); rintro r w' ⟨rfl, ⟨nd, rfl⟩⟩))
    go_roundg (5 - (j + 1))
    case measure => have := HM.out; omega
    case rel => exact ⟨j + 1, by first | rfl | rw [hwr], om_, ⟨rfl⟩, HE2, ⟨_, by first | rfl | exact World.drewN_drewN _ _ _⟩⟩
  ·have h := HE.out;obtain rfl : j = 5 := om_;obtain ⟨rfl, rfl⟩ := Prod.mk.inj (sI_ h);clear h HE;go_wp2
   go_ret2
   exact ⟨rfl, by repeat (first | (with_reducible first | exact HB1.out | apply bA9 | apply bN9 | apply bD9) | exact HB1.out)⟩
def stringslite_CutPrefix.f (a0 : BA) (a1 : BA) : Option (ByteArray × Bool) := (stringslite_HasPrefix.f a0 a1).bind fun t300 => (if t300 = true then (if 0 ≤ (a1.size : Int) then (if (a1.size : Int) ≤ (a0.size : Int) then (some (a0.extract ((a1.size : Int) : Int).toNat a0.size, true)) else (none)) else (none)) else (some (a0, false)))
theorem stringslite_CutPrefix.calls (a0 : BA) (a1 : BA) (r1 : BA) (r2 : Bool) (w : World) (h : stringslite_CutPrefix.f a0 a1 = some (r1, r2)) :
  Calls Tryz.prog 115 #[.string a0, .string a1] w fun e w' => e = .returned (.tuple #[.string r1, .bool r2]) ∧ Drawn0 w w' := by
 have H : ((stringslite_HasPrefix.f a0 a1).bind fun t300 => (if t300 = true then (if 0 ≤ (a1.size : Int) then (if (a1.size : Int) ≤ (a0.size : Int) then (some (a0.extract ((a1.size : Int) : Int).toNat a0.size, true)) else (none)) else (none)) else (some (a0, false)))) = some (r1, r2) := h;clear h;obtain ⟨t300, A3, H⟩ := ob_ H;(try dsimp only at H)
 by_cases c4 : t300 = true
 ·subst c4;rw [if_pos rfl] at H;obtain ⟨c5, H⟩ := ifn_ H;have c5b0 := eq_true c5;have c5b1 := dE_ c5;clear c5;obtain ⟨c6, H⟩ := ifn_ H;have c6b0 := eq_true c6;have c6b1 := dE_ c6;clear c6;obtain ⟨rfl, rfl⟩ := pi_ H;go_enter Tryz.func115, Tryz.ntmps115
  go_wp2_with (first | ((with_reducible refine gC_ 125 ?_); refine gL_ 8 Tryz.func125 #[.string a0, .string a1] ?_; refine dm_ (stringslite_HasPrefix.calls a0 a1 true _ A3.out) fun nd => ?_))
  go_ret2
  exact ⟨e2_, d0_⟩
 ·replace c4 := bF_ c4;subst c4;rw [if_neg nF_] at H;obtain ⟨rfl, rfl⟩ := pi_ H;go_enter Tryz.func115, Tryz.ntmps115
  go_wp2_with (first | ((with_reducible refine gC_ 125 ?_); refine gL_ 8 Tryz.func125 #[.string a0, .string a1] ?_; refine dm_ (stringslite_HasPrefix.calls a0 a1 false _ A3.out) fun nd => ?_))
  go_ret2
  exact ⟨e2_, d0_⟩
def strings_CutPrefix.f (a0 : BA) (a1 : BA) : Option (ByteArray × Bool) := (stringslite_CutPrefix.f a0 a1).bind fun bt301 => (some (bt301.1, bt301.2))
theorem strings_CutPrefix.calls (a0 : BA) (a1 : BA) (r1 : BA) (r2 : Bool) (w : World) (h : strings_CutPrefix.f a0 a1 = some (r1, r2)) :
  Calls Tryz.prog 63 #[.string a0, .string a1] w fun e w' => e = .returned (.tuple #[.string r1, .bool r2]) ∧ Drawn0 w w' := by
 have H : ((stringslite_CutPrefix.f a0 a1).bind fun bt301 => (some (bt301.1, bt301.2))) = some (r1, r2) := h;clear h;obtain ⟨⟨t301, t302⟩, A3, H⟩ := ob_ H;(try dsimp only at H)
 obtain ⟨rfl, rfl⟩ := pi_ H;go_enter Tryz.func63, Tryz.ntmps63
 go_wp2_with (first | ((with_reducible refine gC_ 115 ?_); refine gL_ 8 Tryz.func115 #[.string a0, .string a1] ?_; refine dm_ (stringslite_CutPrefix.calls a0 a1 t301 t302 _ A3.out) fun nd => ?_))
 go_ret2
 exact ⟨e2_, d0_⟩
def strconv_Itoa.f (a0 : Int) : Option ByteArray := if -9223372036854775808 ≤ a0 ∧ a0 ≤ 9223372036854775807 then some ⟨(Lib.itoa a0).toArray⟩ else none
theorem below_growdrew (w : World) (k : Nat) (os : Array Obj) : Below w.heap.size w (Sort.grow (w.drewN k) os) :=
 ⟨rfl, rfl, rfl, by simp [Sort.grow], fun j hj => by simp [Sort.grow, Array.getElem?_append, hj]⟩
theorem strconv_Itoa.calls (a0 : Int) (r : BA) (w : World) (hL : LibOk w) (h : strconv_Itoa.f a0 = some r) :
  Calls Tryz.prog 66 #[.int .i64 a0] w fun e w' => e = .returned (.string r) ∧ Below w.heap.size w w' := by
 unfold strconv_Itoa.f at h;split at h
 case isFalse => cases h
 case isTrue hs =>
 obtain rfl := sI_ h;exact (Tryz.strconv_Itoa a0 hs.1 hs.2 w hL.pow10).mono fun e w' hh => ⟨hh.1, by obtain ⟨k, os, rfl⟩ := hh.2; exact below_growdrew w k os⟩
def xrN (k : Nat) (a e : Int) (t : BA) : Option (ByteArray × Int) :=
 match Lib.atoi t.data.toList with
 | none => some (⟨#[]⟩, -1)
 | some n => if Lib.itoa n = t.data.toList then (if n = 0 then some (⟨#[]⟩, -1) else (impl_IsText.f n).bind fun b => if b = true then (impl_PutSign.f k n).bind fun p => some (p, wrap64 (wrap64 (wrap64 (a + 2) + e) + 1)) else some (⟨#[]⟩, -1)) else some (⟨#[]⟩, -1)
def xrB (k : Nat) (a0 : BA) (a1 : Int) : Option (ByteArray × Int) :=
 (impl_namedRef.f (a0.extract a1.toNat a0.size)).bind fun tn =>
  if tn.2 > 0 then some (tn.1, wrap64 (a1 + tn.2))
  else (strings_CutPrefix.f (a0.extract a1.toNat a0.size) ⟨#[38, 35]⟩).bind fun d =>
   (strings_IndexByte.f d.1 59).bind fun e =>
    if d.2 = true then (if 1 ≤ e ∧ e ≤ 7 then (if e ≤ (d.1.size : Int) then xrN k a1 e (d.1.extract 0 e.toNat) else none) else some (⟨#[]⟩, -1))
    else some (⟨#[]⟩, -1)
def impl_XmlRef.f (k : Nat) (a0 : BA) (a1 : Int) : Option (ByteArray × Int) :=
 (impl_inRange.f a1 0 (wrap64 ((a0.size : Int) - 1))).bind fun t => if t = true then (if 0 ≤ a1 ∧ a1 ≤ (a0.size : Int) then xrB k a0 a1 else none) else some (⟨#[]⟩, -1)
theorem impl_XmlRef.mono : ∀ a0 a1 k, LeO (impl_XmlRef.f k a0 a1) (impl_XmlRef.f (k + 1) a0 a1) := by
 intro a0 a1 k;unfold impl_XmlRef.f;refine LeO.bind (LeO.refl _) (fun t => LeO.ite (LeO.ite ?_ (LeO.refl _)) (LeO.refl _));unfold xrB;refine LeO.bind (LeO.refl _) (fun tn => LeO.ite (LeO.refl _) (LeO.bind (LeO.refl _) (fun d => LeO.bind (LeO.refl _) (fun e => LeO.ite (LeO.ite (LeO.ite ?_ (LeO.refl _)) (LeO.refl _)) (LeO.refl _)))));unfold xrN;split
 ·exact LeO.refl _
 ·exact LeO.ite (LeO.ite (LeO.refl _) (LeO.bind (LeO.refl _) (fun b => LeO.ite (LeO.bind (impl_PutSign.mono _ _) (fun _ => LeO.refl _)) (LeO.refl _)))) (LeO.refl _)
theorem decFrom_small : ∀ (l : List UInt8) (acc n : Nat), Lib.decFrom acc l = some n → n < (acc + 1) * 10 ^ l.length
 | [], acc, n, h => by
  obtain rfl : acc = n := by simpa [Lib.decFrom] using h
  simp
 | b :: l, acc, n, h => by
  rw [Lib.decFrom] at h;cases hd : Lib.digitVal b with
  | none => rw [hd] at h; cases h
  | some d =>
   rw [hd] at h;simp only at h;have hd9 : d ≤ 9 := by
    unfold Lib.digitVal at hd;split at hd
    ·injection hd with hd; omega
    ·cases hd
   have := decFrom_small l _ n h;have h2 : (acc * 10 + d + 1) * 10 ^ l.length ≤ ((acc + 1) * 10) * 10 ^ l.length := Nat.mul_le_mul_right _ om_;rw [List.length_cons, Nat.pow_succ, Nat.mul_comm (10 ^ l.length) 10, ← Nat.mul_assoc];omega
theorem decNat_small (l : List UInt8) (n : Nat) (hl : l.length ≤ 7) (h : Lib.decNat l = some n) : n < 10000000 := by
 cases l with
 | nil => simp [Lib.decNat] at h
 | cons b r =>
  have := decFrom_small (b :: r) 0 n (by simpa [Lib.decNat] using h);have h2 : 10 ^ (b :: r).length ≤ 10 ^ 7 := Nat.pow_le_pow_right om_ hl;omega
theorem atoi_small (t : BA) (ht : t.size ≤ 7) (n : Int) (h : Lib.atoi t.data.toList = some n) : -10000000 ≤ n ∧ n ≤ 10000000 := by
 have hl : t.data.toList.length ≤ 7 := by rw [data_length]; exact ht
 generalize t.data.toList = l at h hl;cases l with
 | nil => simp [Lib.atoi] at h
 | cons b r =>
  rw [Lib.atoi] at h;simp only [List.length_cons] at hl;split at h
  ·obtain ⟨m, hm, rfl⟩ := Option.map_eq_some_iff.1 h;have := decNat_small r m om_ hm;omega
  ·split at h
   ·obtain ⟨m, hm, rfl⟩ := Option.map_eq_some_iff.1 h;have := decNat_small r m om_ hm;omega
   ·obtain ⟨m, hm, rfl⟩ := Option.map_eq_some_iff.1 h;have := decNat_small (b :: r) m (by simpa using hl) hm;omega
theorem impl_XmlRef.calls (k : Nat) (a0 : BA) (a1 : Int) (r1 : BA) (r2 : Int) (w : World) (hL : LibOk w) (hE : LibErr w) (h : impl_XmlRef.f k a0 a1 = some (r1, r2)) :
  Calls Tryz.prog 19 #[.string a0, .int .i64 a1] w fun e w' => e = .returned (.tuple #[.string r1, .int .i64 r2]) ∧ Below w.heap.size w w' := by
 have HLL := A_ hL;have HEE := A_ hE;clear hL hE;unfold impl_XmlRef.f at h;have HB := A_ (Below.refl w.heap.size w);obtain ⟨b, hin, h⟩ := oB_ h;have Hin := A_ hin;clear hin;cases b with
 | false =>
  rw [if_neg si_] at h;obtain ⟨rfl, rfl⟩ := Prod.mk.inj (sI_ h);clear h;go_enter Tryz.func19, Tryz.ntmps19
  go_wp2_with ((go_at_call 53; (with_reducible refine (impl_inRange.calls a1 0 (wrap64 ((a0.size : Int) - 1)) false _ Hin.out).mono ?_); rintro r w' ⟨rfl, ⟨nd, rfl⟩⟩))
  go_ret2
  exact ⟨rfl, hB_⟩
 | true =>
  rw [if_pos rfl] at h;split at h
  case isFalse => cases h
  case isTrue hg =>
  obtain ⟨g0, g1⟩ := hg;have p1 := eq_true g0;have q1 := eq_true g1;clear g0 g1;unfold xrB at h;obtain ⟨⟨tn1, tn2⟩, hN, h⟩ := oB_ h;have HN := A_ hN;clear hN;simp only at h;by_cases c1 : tn2 > 0
  ·rw [if_pos c1] at h;obtain ⟨rfl, rfl⟩ := Prod.mk.inj (sI_ h);have c1b : decide (0 < tn2) = true := dE_ c1;clear h c1;go_enter Tryz.func19, Tryz.ntmps19
   go_wp2_with (first | (go_at_call 53; (with_reducible refine (impl_inRange.calls a1 0 (wrap64 ((a0.size : Int) - 1)) true _ Hin.out).mono ?_); rintro r w' ⟨rfl, ⟨nd, rfl⟩⟩) | (go_at_call 62; (with_reducible refine (impl_namedRef.calls (a0.extract a1.toNat a0.size) tn1 tn2 _ HN.out).mono ?_); rintro r w3 ⟨rfl, hb⟩; have HB3 := A_ (below_step hB_ hb); clear hb))
   go_ret2
   exact ⟨rfl, by repeat (first | (with_reducible first | exact HB3.out | apply bA9 | apply bN9 | apply bD9) | exact HB3.out)⟩
  ·rw [if_neg c1] at h;have c1b : decide (0 < tn2) = false := dF_ c1;clear c1;obtain ⟨⟨d1, d2⟩, hC, h⟩ := oB_ h;have HC := A_ hC;clear hC;simp only at h;obtain ⟨e, hI, h⟩ := oB_ h;have HI := A_ hI;clear hI;cases d2 with
   | false =>
    rw [if_neg si_] at h;obtain ⟨rfl, rfl⟩ := Prod.mk.inj (sI_ h);clear h;go_enter Tryz.func19, Tryz.ntmps19
    go_wp2_with (first | (go_at_call 53; (with_reducible refine (impl_inRange.calls a1 0 (wrap64 ((a0.size : Int) - 1)) true _ Hin.out).mono ?_); rintro r w' ⟨rfl, ⟨nd, rfl⟩⟩) | (go_at_call 62; (with_reducible refine (impl_namedRef.calls (a0.extract a1.toNat a0.size) tn1 tn2 _ HN.out).mono ?_); rintro r w3 ⟨rfl, hb⟩; have HB3 := A_ (below_step hB_ hb); clear hb HB) | (go_at_call 63; (with_reducible refine (strings_CutPrefix.calls (a0.extract a1.toNat a0.size) ⟨#[38, 35]⟩ d1 false _ HC.out).mono ?_); rintro r w' ⟨rfl, ⟨nd2, rfl⟩⟩) | (go_at_call 64; (with_reducible refine (strings_IndexByte.calls d1 59 e _ HI.out).mono ?_); rintro r w' ⟨rfl, ⟨nd3, rfl⟩⟩))
    go_ret2
    exact ⟨rfl, by repeat (first | (with_reducible first | exact HB3.out | apply bA9 | apply bN9 | apply bD9) | exact HB3.out)⟩
   | true =>
    rw [if_pos rfl] at h;by_cases c2 : 1 ≤ e ∧ e ≤ 7
    case neg =>
     rw [if_neg c2] at h;obtain ⟨rfl, rfl⟩ := Prod.mk.inj (sI_ h);have hin2 : impl_inRange.f e 1 7 = some false := by
      unfold impl_inRange.f;by_cases h1 : e ≥ 1
      ·rw [if_pos h1, dF_ om_]
      ·rw [if_neg h1]
     have Hin2 := A_ hin2;clear h c2 hin2;go_enter Tryz.func19, Tryz.ntmps19
     go_wp2_with (first | (go_at_call 53; (with_reducible refine (impl_inRange.calls a1 0 (wrap64 ((a0.size : Int) - 1)) true _ Hin.out).mono ?_); rintro r w' ⟨rfl, ⟨nd, rfl⟩⟩) | (go_at_call 62; (with_reducible refine (impl_namedRef.calls (a0.extract a1.toNat a0.size) tn1 tn2 _ HN.out).mono ?_); rintro r w3 ⟨rfl, hb⟩; have HB3 := A_ (below_step hB_ hb); clear hb HB) | (go_at_call 63; (with_reducible refine (strings_CutPrefix.calls (a0.extract a1.toNat a0.size) ⟨#[38, 35]⟩ d1 true _ HC.out).mono ?_); rintro r w' ⟨rfl, ⟨nd2, rfl⟩⟩) | (go_at_call 64; (with_reducible refine (strings_IndexByte.calls d1 59 e _ HI.out).mono ?_); rintro r w' ⟨rfl, ⟨nd3, rfl⟩⟩) | (go_at_call 53; (with_reducible refine (impl_inRange.calls e 1 7 false _ Hin2.out).mono ?_); rintro r w' ⟨rfl, ⟨nd4, rfl⟩⟩))
     go_ret2
     exact ⟨rfl, by repeat (first | (with_reducible first | exact HB3.out | apply bA9 | apply bN9 | apply bD9) | exact HB3.out)⟩
    case pos =>
     rw [if_pos c2] at h;split at h
     case isFalse => cases h
     case isTrue c3 =>
     have hin2 : impl_inRange.f e 1 7 = some true := by
      unfold impl_inRange.f;rw [if_pos c2.1, dE_ c2.2]
     have Hin2 := A_ hin2;clear hin2;have p3 := eq_true (show 0 ≤ e by omega);have q3 := eq_true c3;have ht : (d1.extract 0 e.toNat).size ≤ 7 := by rw [ByteArray.size_extract]; omega
     have HT := A_ ht;clear ht c2 c3;unfold xrN at h;cases hat : Lib.atoi (d1.extract 0 e.toNat).data.toList with
     | none =>
      rw [hat] at h;simp only at h;obtain ⟨rfl, rfl⟩ := Prod.mk.inj (sI_ h);have HAT := A_ hat;clear h hat;go_enter Tryz.func19, Tryz.ntmps19
      go_wp2_with (first | (go_at_call 53; (with_reducible refine (impl_inRange.calls a1 0 (wrap64 ((a0.size : Int) - 1)) true _ Hin.out).mono ?_); rintro r w' ⟨rfl, ⟨nd, rfl⟩⟩) | (go_at_call 62; (with_reducible refine (impl_namedRef.calls (a0.extract a1.toNat a0.size) tn1 tn2 _ HN.out).mono ?_); rintro r w3 ⟨rfl, hb⟩; have HB3 := A_ (below_step hB_ hb); clear hb HB) | (go_at_call 63; (with_reducible refine (strings_CutPrefix.calls (a0.extract a1.toNat a0.size) ⟨#[38, 35]⟩ d1 true _ HC.out).mono ?_); rintro r w' ⟨rfl, ⟨nd2, rfl⟩⟩) | (go_at_call 64; (with_reducible refine (strings_IndexByte.calls d1 59 e _ HI.out).mono ?_); rintro r w' ⟨rfl, ⟨nd3, rfl⟩⟩) | (go_at_call 53; (with_reducible refine (impl_inRange.calls e 1 7 true _ Hin2.out).mono ?_); rintro r w' ⟨rfl, ⟨nd4, rfl⟩⟩))
      generalize hww : World.drewN w3 _ = w5;have HBB : As9 (Below w.heap.size w w5) := ⟨by rw [← hww]; exact bN9 HB3.out _⟩;clear hww;obtain ⟨ev, hv, hev⟩ := (HEE.out.below HBB.out).errSyntax;refine (Tryz.strconv_Atoi_err (d1.extract 0 e.toNat) (by have := HT.out; omega) HAT.out ev _ hv hev).mono ?_;rintro r w6 ⟨N_, rfl, _, _, hb⟩;have HB6 := A_ (below_step HBB.out hb);clear hb hv hev;go_wp2
      go_quiet (fail)
      go_wp2
      go_ret2
      exact ⟨rfl, by repeat (first | (with_reducible first | exact HB6.out | apply bA9 | apply bN9 | apply bD9) | exact HB6.out)⟩
     | some n =>
      rw [hat] at h;simp only at h;have HAT := A_ hat;have HH := A_ h;clear hat;repeat clear h
      go_enter Tryz.func19, Tryz.ntmps19
      go_wp2_with (first | (go_at_call 53; (with_reducible refine (impl_inRange.calls a1 0 (wrap64 ((a0.size : Int) - 1)) true _ Hin.out).mono ?_); rintro r w' ⟨rfl, ⟨nd, rfl⟩⟩) | (go_at_call 62; (with_reducible refine (impl_namedRef.calls (a0.extract a1.toNat a0.size) tn1 tn2 _ HN.out).mono ?_); rintro r w3 ⟨rfl, hb⟩; have HB3 := A_ (below_step hB_ hb); clear hb HB) | (go_at_call 63; (with_reducible refine (strings_CutPrefix.calls (a0.extract a1.toNat a0.size) ⟨#[38, 35]⟩ d1 true _ HC.out).mono ?_); rintro r w' ⟨rfl, ⟨nd2, rfl⟩⟩) | (go_at_call 64; (with_reducible refine (strings_IndexByte.calls d1 59 e _ HI.out).mono ?_); rintro r w' ⟨rfl, ⟨nd3, rfl⟩⟩) | (go_at_call 53; (with_reducible refine (impl_inRange.calls e 1 7 true _ Hin2.out).mono ?_); rintro r w' ⟨rfl, ⟨nd4, rfl⟩⟩))
      generalize hww : World.drewN w3 _ = w5;have HBB : As9 (Below w.heap.size w w5) := ⟨by rw [← hww]; exact bN9 HB3.out _⟩;clear hww;refine (Tryz.strconv_Atoi (d1.extract 0 e.toNat) n (by have := HT.out; omega) HAT.out _).mono ?_;rintro r w6 ⟨rfl, t_, hb⟩;have HB6 := A_ (below_step HBB.out (hb ▸ Lib.bytesWorld_below _ _ _));clear hb;go_wp2
      have hit : strconv_Itoa.f n = some ⟨(Lib.itoa n).toArray⟩ := by
       unfold strconv_Itoa.f;have := atoi_small (d1.extract 0 e.toNat) HT.out n HAT.out;rw [if_pos om_]
      have HIT := A_ hit;clear hit;have hcmp : ((⟨(Lib.itoa n).toArray⟩ : BA).toList = (d1.extract 0 e.toNat).toList) ↔ Lib.itoa n = (d1.extract 0 e.toNat).data.toList := by
       rw [ByteArray.toList_eq, ByteArray.toList_eq]
      generalize (⟨(Lib.itoa n).toArray⟩ : BA) = it at HIT hcmp;have h := HH.out;clear HH;by_cases c5 : Lib.itoa n = (d1.extract 0 e.toNat).data.toList
      case neg =>
       rw [if_neg c5] at h;obtain ⟨rfl, rfl⟩ := Prod.mk.inj (sI_ h);have n1 : (it.toList != (d1.extract 0 e.toNat).toList) = true := nN_ (fun h => c5 (hcmp.mp h));have n2 : (it.toList == (d1.extract 0 e.toNat).toList) = false := bN_ (fun h => c5 (hcmp.mp h));clear h c5 hcmp;have HB7 : As9 (Below w.heap.size w w6.drew) := ⟨bD9 HB6.out⟩;clear HB6;refine start_ (n := 19) (S := fun w' => True) (ds := [18]) (tS 19 0) (by kernel_rfl) rfl rfl trivial (fun hHeld => ?_);generalize World.drew _ = wr0 at HB7 hHeld ⊢;iterate 4 refine pq_ ?_
       refine pg_ 5 (tB 19 47) ?_;refine pg_ 6 (tB 19 111) ?_;refine pg_ 7 (tB 19 239) ?_;refine n1_ 4 (tS 19 8) rfl fun K hK => ?_
       refine gS_ Tryz.func66 #[.int .i64 n] ?_;with_reducible refine (strconv_Itoa.calls n it _ (HLL.out.below HB7.out) HIT.out).mono ?_
       rintro e wr4 ⟨rfl, hb⟩;refine ⟨_, rfl, ?_⟩;have HB8 := A_ (below_step HB7.out hb);clear hb HB7;refine hK.out _ _ trivial (fun hHeld => ?_);clear hK K;refine nm_ ?_;iterate 3 refine pq_ ?_
       refine oq_ ?_;refine oq_ ?_;refine pq_ ?_;refine pq_ ?_;refine oq_ ?_;refine n1_ 16 (tS 19 17) rfl fun K hK => ?_
       show K (Act.put _ (some 71) undef) _;refine hK.out _ _ trivial (fun hHeld => ?_);clear hK K;refine nm_ ?_;refine oq_ ?_;refine pq_ ?_;refine done_ (by kernel_rfl) ?_;go_wp2
       go_ret2
       exact ⟨rfl, by repeat (first | (with_reducible first | exact HB8.out | apply bA9 | apply bN9 | apply bD9) | exact HB8.out)⟩
      case pos =>
      rw [if_pos c5] at h;have n1 : (it.toList != (d1.extract 0 e.toNat).toList) = false := nQ_ (hcmp.mpr c5);have n2 : (it.toList == (d1.extract 0 e.toNat).toList) = true := bQ_ (hcmp.mpr c5);clear c5 hcmp;by_cases c6 : n = 0
      case pos =>
       rw [if_pos c6] at h;obtain ⟨rfl, rfl⟩ := Prod.mk.inj (sI_ h);have n3 : (n == 0) = true := bQ_ c6;clear h c6;have HB7 : As9 (Below w.heap.size w w6.drew) := ⟨bD9 HB6.out⟩;clear HB6;refine start_ (n := 19) (S := fun w' => True) (ds := [18]) (tS 19 0) (by kernel_rfl) rfl rfl trivial (fun hHeld => ?_);generalize World.drew _ = wr0 at HB7 hHeld ⊢;iterate 4 refine pq_ ?_
       refine pg_ 5 (tB 19 47) ?_;refine pg_ 6 (tB 19 111) ?_;refine pg_ 7 (tB 19 239) ?_;refine n1_ 4 (tS 19 8) rfl fun K hK => ?_
       refine gS_ Tryz.func66 #[.int .i64 n] ?_;with_reducible refine (strconv_Itoa.calls n it _ (HLL.out.below HB7.out) HIT.out).mono ?_
       rintro e wr4 ⟨rfl, hb⟩;refine ⟨_, rfl, ?_⟩;have HB8 := A_ (below_step HB7.out hb);clear hb HB7;refine hK.out _ _ trivial (fun hHeld => ?_);clear hK K;refine nm_ ?_;iterate 7 refine pq_ ?_
       refine oq_ ?_;refine n1_ 16 (tS 19 17) rfl fun K hK => ?_
       show K (Act.put _ (some 71) undef) _;refine hK.out _ _ trivial (fun hHeld => ?_);clear hK K;refine nm_ ?_;refine oq_ ?_;refine pq_ ?_;refine done_ (by kernel_rfl) ?_;go_wp2
       go_ret2
       exact ⟨rfl, by repeat (first | (with_reducible first | exact HB8.out | apply bA9 | apply bN9 | apply bD9) | exact HB8.out)⟩
      case neg =>
      rw [if_neg c6] at h;have n3 : (n == 0) = false := bN_ c6;clear c6;obtain ⟨b, hX, h⟩ := oB_ h;have HX := A_ hX;clear hX;cases b with
      | false =>
       rw [if_neg si_] at h;obtain ⟨rfl, rfl⟩ := Prod.mk.inj (sI_ h);clear h;have HB7 : As9 (Below w.heap.size w w6.drew) := ⟨bD9 HB6.out⟩;clear HB6;refine start_ (n := 19) (S := fun w' => True) (ds := [18]) (tS 19 0) (by kernel_rfl) rfl rfl trivial (fun hHeld => ?_);generalize World.drew _ = wr0 at HB7 hHeld ⊢;iterate 4 refine pq_ ?_
       refine pg_ 5 (tB 19 47) ?_;refine pg_ 6 (tB 19 111) ?_;refine pg_ 7 (tB 19 239) ?_;refine n1_ 4 (tS 19 8) rfl fun K hK => ?_
       refine gS_ Tryz.func66 #[.int .i64 n] ?_;with_reducible refine (strconv_Itoa.calls n it _ (HLL.out.below HB7.out) HIT.out).mono ?_
       rintro e wr4 ⟨rfl, hb⟩;refine ⟨_, rfl, ?_⟩;have HB8 := A_ (below_step HB7.out hb);clear hb HB7;refine hK.out _ _ trivial (fun hHeld => ?_);clear hK K;refine nm_ ?_;iterate 8 refine pq_ ?_
       refine n1_ 16 (tS 19 17) rfl fun K hK => ?_
       refine gS_ Tryz.func67 #[.int .i64 n] ?_;with_reducible refine (impl_IsText.calls n false _ HX.out).mono ?_
       rintro e wr16 ⟨rfl, hd⟩;refine ⟨_, rfl, ?_⟩;have HB9 := A_ (below_step HB8.out hd.below);clear hd HB8;refine hK.out _ _ trivial (fun hHeld => ?_);clear hK K;refine nm_ ?_;refine pq_ ?_;refine pq_ ?_;refine done_ (by kernel_rfl) ?_;go_wp2
       go_ret2
       exact ⟨rfl, by repeat (first | (with_reducible first | exact HB9.out | apply bA9 | apply bN9 | apply bD9) | exact HB9.out)⟩
      | true =>
       rw [if_pos rfl] at h;obtain ⟨p, hP, h⟩ := oB_ h;have HP := A_ hP;clear hP;obtain ⟨rfl, rfl⟩ := Prod.mk.inj (sI_ h);clear h;have HB7 : As9 (Below w.heap.size w w6.drew) := ⟨bD9 HB6.out⟩;clear HB6;refine start_ (n := 19) (S := fun w' => True) (ds := [18]) (tS 19 0) (by kernel_rfl) rfl rfl trivial (fun hHeld => ?_);generalize World.drew _ = wr0 at HB7 hHeld ⊢;iterate 4 refine pq_ ?_
       refine pg_ 5 (tB 19 47) ?_;refine pg_ 6 (tB 19 111) ?_;refine pg_ 7 (tB 19 239) ?_;refine n1_ 4 (tS 19 8) rfl fun K hK => ?_
       refine gS_ Tryz.func66 #[.int .i64 n] ?_;with_reducible refine (strconv_Itoa.calls n it _ (HLL.out.below HB7.out) HIT.out).mono ?_
       rintro e wr4 ⟨rfl, hb⟩;refine ⟨_, rfl, ?_⟩;have HB8 := A_ (below_step HB7.out hb);clear hb HB7;refine hK.out _ _ trivial (fun hHeld => ?_);clear hK K;refine nm_ ?_;iterate 8 refine pq_ ?_
       refine n1_ 16 (tS 19 17) rfl fun K hK => ?_
       refine gS_ Tryz.func67 #[.int .i64 n] ?_;with_reducible refine (impl_IsText.calls n true _ HX.out).mono ?_
       rintro e wr16 ⟨rfl, hd⟩;refine ⟨_, rfl, ?_⟩;have HB9 := A_ (below_step HB8.out hd.below);clear hd HB8;refine hK.out _ _ trivial (fun hHeld => ?_);clear hK K;refine nm_ ?_;refine pq_ ?_;refine pq_ ?_;refine done_ (by kernel_rfl) ?_;go_wp2_with ((go_at_call 68; (with_reducible refine (impl_PutSign.calls k n p _ HP.out).mono ?_); rintro r w10 ⟨rfl, hb⟩; have HB10 := A_ (below_step HB9.out hb); clear hb))
       go_ret2
       exact ⟨rfl, HB10.out⟩
def stringslite_HasSuffix.f (a0 : BA) (a1 : BA) : Option (Bool) := if (a0.size : Int) ≥ (a1.size : Int) then (if 0 ≤ (wrap64 ((a0.size : Int) - (a1.size : Int))) then (if (wrap64 ((a0.size : Int) - (a1.size : Int))) ≤ (a0.size : Int) then (some ((a0.extract ((wrap64 ((a0.size : Int) - (a1.size : Int))) : Int).toNat a0.size).toList == a1.toList)) else (none)) else (none)) else (some false)
theorem stringslite_HasSuffix.calls (a0 : BA) (a1 : BA) (r : Bool) (w : World) (h : stringslite_HasSuffix.f a0 a1 = some r) :
  Calls Tryz.prog 124 #[.string a0, .string a1] w fun e w' => e = .returned (.bool r) ∧ Drawn0 w w' := by
 have H : (if (a0.size : Int) ≥ (a1.size : Int) then (if 0 ≤ (wrap64 ((a0.size : Int) - (a1.size : Int))) then (if (wrap64 ((a0.size : Int) - (a1.size : Int))) ≤ (a0.size : Int) then (some ((a0.extract ((wrap64 ((a0.size : Int) - (a1.size : Int))) : Int).toNat a0.size).toList == a1.toList)) else (none)) else (none)) else (some false)) = some r := h;clear h;rcases ic_ H with ⟨c3, H⟩ | ⟨c3, H⟩
 ·have c3b0 : decide ((a1.size : Int) ≤ (a0.size : Int)) = true := dE_ c3;have c3b1 : decide (a1.size ≤ a0.size) = true := dE_ (Int.ofNat_le.mp c3);clear c3;obtain ⟨ji4, hji4⟩ : ∃ j_ : Int, (wrap64 ((a0.size : Int) - (a1.size : Int))) = j_ := ⟨_, rfl⟩;replace H : (if 0 ≤ (ji4) then (if (ji4) ≤ (a0.size : Int) then (some ((a0.extract ((ji4) : Int).toNat a0.size).toList == a1.toList)) else (none)) else (none)) = some r := by first | (rw [hji4] at H; exact H) | (simp only [hji4] at H ⊢; exact H)
  have hji4w : (IntKind.i64.wrap ((a0.size : Int) - (a1.size : Int))) = ji4 := (i64_w _).trans hji4;obtain ⟨c5, H⟩ := ifn_ H;have c5b0 := eq_true c5;have c5b1 := dE_ c5;clear c5;obtain ⟨c6, H⟩ := ifn_ H;have c6b0 := eq_true c6;have c6b1 := dE_ c6;clear c6;obtain rfl := sI_ H;go_enter Tryz.func124, Tryz.ntmps124
  go_wp2
  go_ret
  exact ⟨by first | rfl | (simp; done) | (simp only [← hji4] <;> (first | rfl | simp)) | (simp [*]; done), d0_⟩
 ·have c3b0 : decide ((a1.size : Int) ≤ (a0.size : Int)) = false := dF_ c3;have c3b1 : decide (a1.size ≤ a0.size) = false := dF_ (fun h => c3 (Int.ofNat_le.mpr h));clear c3;obtain rfl := sI_ H;go_enter Tryz.func124, Tryz.ntmps124
  go_wp2
  go_ret
  exact ⟨e2_, d0_⟩
def strings_HasSuffix.f (a0 : BA) (a1 : BA) : Option (Bool) := (stringslite_HasSuffix.f a0 a1).bind fun t368 => (some t368)
theorem strings_HasSuffix.calls (a0 : BA) (a1 : BA) (r : Bool) (w : World) (h : strings_HasSuffix.f a0 a1 = some r) :
  Calls Tryz.prog 72 #[.string a0, .string a1] w fun e w' => e = .returned (.bool r) ∧ Drawn0 w w' := by
 have H : ((stringslite_HasSuffix.f a0 a1).bind fun t368 => (some t368)) = some r := h;clear h;obtain ⟨t368, A3, H⟩ := ob_ H;obtain rfl := sI_ H;go_enter Tryz.func72, Tryz.ntmps72
 go_wp2_with (first | ((with_reducible refine gC_ 124 ?_); refine gL_ 7 Tryz.func124 #[.string a0, .string a1] ?_; refine dm_ (stringslite_HasSuffix.calls a0 a1 t368 _ A3.out) fun nd => ?_))
 go_ret
 exact ⟨e2_, d0_⟩
def xtGo (rec_ : Int → List UInt8 → Option (ByteArray × Int)) (s : BA) (i : Int) (c2 : Int) (out : List UInt8) : Option (ByteArray × Int) :=
 if i ≤ wrap64 (i + c2) ∧ wrap64 (i + c2) ≤ (s.size : Int) ∧ out.length + (s.extract i.toNat (wrap64 (i + c2)).toNat).size ≤ 140737488355327 then rec_ (wrap64 (i + c2)) (out ++ (s.extract i.toNat (wrap64 (i + c2)).toNat).data.toList) else none
def xtSign (rec_ : Int → List UInt8 → Option (ByteArray × Int)) (s : BA) (a i : Int) (c1 c2 : Int) (out : List UInt8) : Option (ByteArray × Int) :=
 if c1 < 0 then some (⟨#[]⟩, -1)
 else (impl_IsText.f c1).bind fun b => if b = true then
  (if c1 = 13 then some (⟨#[]⟩, -1) else if c1 = 60 then some (⟨#[]⟩, -1)
   else if c1 = 62 then (if 0 ≤ a ∧ a ≤ i ∧ i ≤ (s.size : Int) then (strings_HasSuffix.f (s.extract a.toNat i.toNat) ⟨#[93, 93]⟩).bind fun h => if h = true then some (⟨#[]⟩, -1) else xtGo rec_ s i c2 out else none)
   else xtGo rec_ s i c2 out)
  else some (⟨#[]⟩, -1)
def xtL : Nat → ByteArray → Int → ByteArray → Int → List UInt8 → Option (ByteArray × Int)
 | 0, _, _, _, _, _ => none
 | n + 1, s, a, en, i, out =>
  if 0 ≤ i then
   (if i < (s.size : Int) then (strings_IndexByte.f en (bt s i)).bind fun q => if q < 0 then
     (if bt s i = 38 then (impl_XmlRef.f n s i).bind fun tn => if tn.2 < 0 then some (⟨#[]⟩, -1) else if out.length + tn.1.size ≤ 140737488355327 then xtL n s a en tn.2 (out ++ tn.1.data.toList) else none
      else (impl_cleanSign.f n s i).bind fun c => xtSign (xtL n s a en) s a i c.1 c.2 out)
    else some (⟨out.toArray⟩, i)
   else some (⟨out.toArray⟩, i))
  else none
theorem xtGo_mono {f g : Int → List UInt8 → Option (ByteArray × Int)} (h : ∀ i o, LeO (f i o) (g i o)) (s : BA) (i c2 : Int) (out : List UInt8) : LeO (xtGo f s i c2 out) (xtGo g s i c2 out) := by
 unfold xtGo; exact LeO.ite (h _ _) (LeO.refl _)
theorem xtSign_mono {f g : Int → List UInt8 → Option (ByteArray × Int)} (h : ∀ i o, LeO (f i o) (g i o)) (s : BA) (a i c1 c2 : Int) (out : List UInt8) : LeO (xtSign f s a i c1 c2 out) (xtSign g s a i c1 c2 out) := by
 unfold xtSign;exact LeO.ite (LeO.refl _) (LeO.bind (LeO.refl _) (fun b => LeO.ite (LeO.ite (LeO.refl _) (LeO.ite (LeO.refl _) (LeO.ite (LeO.ite (LeO.bind (LeO.refl _) (fun h' => LeO.ite (LeO.refl _) (xtGo_mono h _ _ _ _))) (LeO.refl _)) (xtGo_mono h _ _ _ _)))) (LeO.refl _)))
theorem xtL_mono : ∀ k y0 y1 y2 y3 y4, LeO (xtL k y0 y1 y2 y3 y4) (xtL (k + 1) y0 y1 y2 y3 y4)
 | 0 => fun _ _ _ _ _ r h => by simp [xtL] at h
 | k + 1 => by
  have ih := xtL_mono k;intro y0 y1 y2 y3 y4;rw [xtL, xtL];exact LeO.ite (LeO.ite (LeO.bind (LeO.refl _) (fun q => LeO.ite (LeO.ite (LeO.bind (impl_XmlRef.mono _ _ _) (fun tn => LeO.ite (LeO.refl _) (LeO.ite (ih _ _ _ _ _) (LeO.refl _)))) (LeO.bind (impl_cleanSign.mono _ _ _) (fun c => xtSign_mono (fun i o => ih _ _ _ i o) _ _ _ _ _ _))) (LeO.refl _))) (LeO.refl _)) (LeO.refl _)
def impl_XmlText.f (k : Nat) (a0 : BA) (a1 : Int) (a2 : BA) : Option (ByteArray × Int) :=
 (impl_inRange.f a1 0 (a0.size : Int)).bind fun t => if t = true then xtL k a0 a1 a2 a1 [] else some (⟨#[]⟩, -1)
theorem impl_XmlText.mono : ∀ a0 a1 a2 k, LeO (impl_XmlText.f k a0 a1 a2) (impl_XmlText.f (k + 1) a0 a1 a2) := by
 intro a0 a1 a2 k;unfold impl_XmlText.f;exact LeO.bind (LeO.refl _) (fun t => LeO.ite (xtL_mono k _ _ _ _ _) (LeO.refl _))
theorem impl_XmlText.calls (k : Nat) (a0 : BA) (a1 : Int) (a2 : BA) (r1 : BA) (r2 : Int) (w : World) (hL : LibOk w) (hE : LibErr w) (h : impl_XmlText.f k a0 a1 a2 = some (r1, r2)) :
  Calls Tryz.prog 22 #[.string a0, .int .i64 a1, .string a2] w fun e w' => e = .returned (.tuple #[.string r1, .int .i64 r2]) ∧ Below w.heap.size w w' := by
 have HLL := A_ hL;have HEE := A_ hE;clear hL hE;unfold impl_XmlText.f at h;have hub := Tryz.underlying79;have HB := A_ (Below.refl w.heap.size w);obtain ⟨b, hin, h⟩ := oB_ h;have Hin := A_ hin;clear hin;cases b with
 | false =>
  rw [if_neg si_] at h;obtain ⟨rfl, rfl⟩ := Prod.mk.inj (sI_ h);clear h;go_enter Tryz.func22, Tryz.ntmps22
  go_wp2_with ((go_at_call 53; (with_reducible refine (impl_inRange.calls a1 0 (a0.size : Int) false _ Hin.out).mono ?_); rintro r w' ⟨rfl, ⟨nd, rfl⟩⟩))
  go_ret2
  exact ⟨rfl, hB_⟩
 | true =>
  rw [if_pos rfl] at h;have HF := A_ h;clear h;go_enter Tryz.func22, Tryz.ntmps22
  go_wp2_with ((go_at_call 53; (with_reducible refine (impl_inRange.calls a1 0 (a0.size : Int) true _ Hin.out).mono ?_); rintro r w2 ⟨rfl, hd⟩; have HB2 := A_ (below_step HB.out hd.below); have hsz : As9 (w2.heap.size = w.heap.size) := ⟨by obtain ⟨nd, e⟩ := hd; rw [e]; rfl⟩; clear hd))
  have HN3 : As9 (Bld w.heap.size w2.heap.size (Lib.byteCells []) (w2.alloc (.cells #[.pointer none, .slice none 0 0] 79 (0, 0)))) := ⟨by
   have h1 := bld_new w2;have h2 : ∀ B, w2.heap.size = B → Bld B w2.heap.size (Lib.byteCells []) (w2.alloc (.cells #[.pointer none, .slice none 0 0] 79 (0, 0))) := fun B e => by subst e; exact h1
   exact h2 _ hsz.out⟩
  have HB3 := A_ (bA9 HB2.out (.cells #[.pointer none, .slice none 0 0] 79 (0, 0)));clear hsz;go_loopg [9] k (fun kq v9 wr => ∃ (out : List UInt8) (i : Int), v9 = .int .i64 i ∧ As9 (xtL kq a0 a1 a2 i out = some (r1, r2)) ∧ As9 (Bld w.heap.size w2.heap.size (Lib.byteCells out) wr) ∧ As9 (Below w.heap.size w wr))
  case atStart => exact ⟨[], a1, rfl, HF, HN3, HB3⟩
  case round =>
   clear HF HN3 HB3 HB HB2;obtain ⟨out, i, rfl, HA, HN, HB⟩ := hrel;cases gk with
   | zero => exact absurd HA.out (by simp [xtL])
   | succ n =>
   have h := HA.out;clear HA;rw [xtL] at h;split at h
   case isFalse => cases h
   case isTrue hi0 =>
   have p1 := eq_true hi0;by_cases hlt : i < (a0.size : Int)
   case neg =>
    rw [if_neg hlt] at h;obtain ⟨rfl, rfl⟩ := Prod.mk.inj (sI_ h);have q1 : decide (i < (a0.size : Int)) = false := dF_ hlt;clear h hi0 hlt;go_wp2_with (first | (go_at_call 73; (with_reducible refine (bld_string w.heap.size w2.heap.size out _ HN.out HB.out.size).mono ?_); rintro e w5 ⟨rfl, hb, hk⟩; have HB5 := A_ (HB.out.trans hb); clear hb hk))
    go_ret2
    exact ⟨rfl, HB5.out⟩
   case pos =>
   rw [if_pos hlt] at h;have q1 : decide (i < (a0.size : Int)) = true := dE_ hlt;have q2 := eq_true hlt;obtain ⟨q, hQ, h⟩ := oB_ h;have HQ := A_ hQ;have hx := bt_at a0 i;clear hQ;by_cases hq : q < 0
   case neg =>
    rw [if_neg hq] at h;obtain ⟨rfl, rfl⟩ := Prod.mk.inj (sI_ h);have q3 : decide (q < 0) = false := dF_ hq;clear h hi0 hlt hq;go_wp2_with (first | (go_at_call 64; (with_reducible refine (strings_IndexByte.calls a2 (bt a0 i) q _ HQ.out).mono ?_); rintro r w4 ⟨rfl, hd⟩; have HB4 := A_ (below_step HB.out hd.below); have HN4 := A_ (bld_below HN.out hd.below); clear hd))
    go_wp2_with (first | (go_at_call 73; (with_reducible refine (bld_string w.heap.size w2.heap.size out _ HN4.out HB4.out.size).mono ?_); rintro e w5 ⟨rfl, hb, hk⟩; have HB5 := A_ (HB4.out.trans hb); clear hb hk))
    go_ret2
    exact ⟨rfl, HB5.out⟩
   case pos =>
   rw [if_pos hq] at h;have q3 : decide (q < 0) = true := dE_ hq;clear hq hi0 hlt;by_cases h38 : bt a0 i = 38
   case pos =>
    rw [if_pos h38] at h;have q4 : (bt a0 i == 38) = true := bQ_ h38;obtain ⟨⟨t1, t2⟩, hR, h⟩ := oB_ h;have HR := A_ hR;clear hR h38;simp only at h;by_cases hn : t2 < 0
    case pos =>
     rw [if_pos hn] at h;have q5 : decide (t2 < 0) = true := dE_ hn;clear hn;obtain ⟨rfl, rfl⟩ := Prod.mk.inj (sI_ h);clear h;go_wp2_with (first | (go_at_call 64; (with_reducible refine (strings_IndexByte.calls a2 (bt a0 i) q _ HQ.out).mono ?_); rintro r w4 ⟨rfl, hd⟩; have HB4 := A_ (below_step HB.out hd.below); have HN4 := A_ (bld_below HN.out hd.below); clear hd) | (go_at_call 19; (with_reducible refine (impl_XmlRef.calls n a0 i t1 t2 _ (HLL.out.below HB4.out) (HEE.out.below HB4.out) HR.out).mono ?_); rintro r w5 ⟨rfl, hb⟩; have HB5 := A_ (below_step HB4.out hb); clear hb))
     go_ret2
     exact ⟨rfl, by repeat (first | (with_reducible first | exact HB5.out | apply bA9 | apply bN9 | apply bD9) | exact HB5.out)⟩
    case neg =>
     rw [if_neg hn] at h;have q5 : decide (t2 < 0) = false := dF_ hn;clear hn;split at h
     case isFalse => cases h
     case isTrue hl =>
     have HLM : As9 ((Lib.byteCells out).length + t1.size ≤ 140737488355328) := ⟨by rw [byteCells_len]; omega⟩;have HGN := A_ h;clear h hl;go_wp2_with (first | (go_at_call 64; (with_reducible refine (strings_IndexByte.calls a2 (bt a0 i) q _ HQ.out).mono ?_); rintro r w4 ⟨rfl, hd⟩; have HB4 := A_ (below_step HB.out hd.below); have HN4 := A_ (bld_below HN.out hd.below); clear hd) | (go_at_call 19; (with_reducible refine (impl_XmlRef.calls n a0 i t1 t2 _ (HLL.out.below HB4.out) (HEE.out.below HB4.out) HR.out).mono ?_); rintro r w5 ⟨rfl, hb⟩; have HB5 := A_ (below_step HB4.out hb); have HN5 := A_ (bld_below HN4.out hb); clear hb) | (go_at_call 71; (with_reducible refine (bld_str w.heap.size w2.heap.size (Lib.byteCells out) t1 _ HN5.out HLM.out HB5.out.size).mono ?_); rintro e w8 ⟨rfl, ho, hb, hk⟩; have HN8 := A_ ho; have HB8 := A_ (HB5.out.trans hb); clear ho hb hk))
     go_roundg n
     case measure => omega
     case rel => exact ⟨_, t2, rfl, HGN, ⟨by rw [byteCells_append, ← strCells_bytes]; exact HN8.out⟩, HB8⟩
   case neg =>
   rw [if_neg h38] at h;have q4 : (bt a0 i == 38) = false := bN_ h38;clear h38;obtain ⟨⟨c1, c2⟩, hC, h⟩ := oB_ h;have HCS := A_ hC;clear hC;simp only at h;unfold xtSign at h;by_cases hn : c1 < 0
   case pos =>
    rw [if_pos hn] at h;have q5 : decide (c1 < 0) = true := dE_ hn;clear hn;obtain ⟨rfl, rfl⟩ := Prod.mk.inj (sI_ h);clear h;go_wp2_with (first | (go_at_call 64; (with_reducible refine (strings_IndexByte.calls a2 (bt a0 i) q _ HQ.out).mono ?_); rintro r w4 ⟨rfl, hd⟩; have HB4 := A_ (below_step HB.out hd.below); have HN4 := A_ (bld_below HN.out hd.below); clear hd) | (go_at_call 55; (with_reducible refine (impl_cleanSign.calls n a0 i c1 c2 _ HCS.out).mono ?_); rintro r w5 ⟨rfl, hb⟩; have HB5 := A_ (below_step HB4.out hb); have HN5 := A_ (bld_below HN4.out hb); clear hb))
    go_ret2
    exact ⟨rfl, by repeat (first | (with_reducible first | exact HB5.out | apply bA9 | apply bN9 | apply bD9) | exact HB5.out)⟩
   case neg =>
   rw [if_neg hn] at h;have q5 : decide (c1 < 0) = false := dF_ hn;clear hn;obtain ⟨b, hT, h⟩ := oB_ h;have HT := A_ hT;clear hT;cases b with
   | false =>
    rw [if_neg si_] at h;obtain ⟨rfl, rfl⟩ := Prod.mk.inj (sI_ h);clear h;go_wp2_with (first | (go_at_call 64; (with_reducible refine (strings_IndexByte.calls a2 (bt a0 i) q _ HQ.out).mono ?_); rintro r w4 ⟨rfl, hd⟩; have HB4 := A_ (below_step HB.out hd.below); have HN4 := A_ (bld_below HN.out hd.below); clear hd) | (go_at_call 55; (with_reducible refine (impl_cleanSign.calls n a0 i c1 c2 _ HCS.out).mono ?_); rintro r w5 ⟨rfl, hb⟩; have HB5 := A_ (below_step HB4.out hb); have HN5 := A_ (bld_below HN4.out hb); clear hb) | (go_at_call 67; (with_reducible refine (impl_IsText.calls c1 false _ HT.out).mono ?_); rintro r w6 ⟨rfl, hd⟩; have HB6 := A_ (below_step HB5.out hd.below); have HN6 := A_ (bld_below HN5.out hd.below); clear hd))
    go_ret2
    exact ⟨rfl, by repeat (first | (with_reducible first | exact HB6.out | apply bA9 | apply bN9 | apply bD9) | exact HB6.out)⟩
   | true =>
   rw [if_pos rfl] at h;by_cases h13 : c1 = 13
   case pos =>
    rw [if_pos h13] at h;have q6 : (c1 == 13) = true := bQ_ h13;clear h13;obtain ⟨rfl, rfl⟩ := Prod.mk.inj (sI_ h);clear h;go_wp2_with (first | (go_at_call 64; (with_reducible refine (strings_IndexByte.calls a2 (bt a0 i) q _ HQ.out).mono ?_); rintro r w4 ⟨rfl, hd⟩; have HB4 := A_ (below_step HB.out hd.below); have HN4 := A_ (bld_below HN.out hd.below); clear hd) | (go_at_call 55; (with_reducible refine (impl_cleanSign.calls n a0 i c1 c2 _ HCS.out).mono ?_); rintro r w5 ⟨rfl, hb⟩; have HB5 := A_ (below_step HB4.out hb); have HN5 := A_ (bld_below HN4.out hb); clear hb) | (go_at_call 67; (with_reducible refine (impl_IsText.calls c1 true _ HT.out).mono ?_); rintro r w6 ⟨rfl, hd⟩; have HB6 := A_ (below_step HB5.out hd.below); have HN6 := A_ (bld_below HN5.out hd.below); clear hd))
    go_ret2
    exact ⟨rfl, by repeat (first | (with_reducible first | exact HB6.out | apply bA9 | apply bN9 | apply bD9) | exact HB6.out)⟩
   case neg =>
   rw [if_neg h13] at h;have q6 : (c1 == 13) = false := bN_ h13;clear h13;by_cases h60 : c1 = 60
   case pos =>
    rw [if_pos h60] at h;have q7 : (c1 == 60) = true := bQ_ h60;clear h60;obtain ⟨rfl, rfl⟩ := Prod.mk.inj (sI_ h);clear h;go_wp2_with (first | (go_at_call 64; (with_reducible refine (strings_IndexByte.calls a2 (bt a0 i) q _ HQ.out).mono ?_); rintro r w4 ⟨rfl, hd⟩; have HB4 := A_ (below_step HB.out hd.below); have HN4 := A_ (bld_below HN.out hd.below); clear hd) | (go_at_call 55; (with_reducible refine (impl_cleanSign.calls n a0 i c1 c2 _ HCS.out).mono ?_); rintro r w5 ⟨rfl, hb⟩; have HB5 := A_ (below_step HB4.out hb); have HN5 := A_ (bld_below HN4.out hb); clear hb) | (go_at_call 67; (with_reducible refine (impl_IsText.calls c1 true _ HT.out).mono ?_); rintro r w6 ⟨rfl, hd⟩; have HB6 := A_ (below_step HB5.out hd.below); have HN6 := A_ (bld_below HN5.out hd.below); clear hd))
    go_ret2
    exact ⟨rfl, by repeat (first | (with_reducible first | exact HB6.out | apply bA9 | apply bN9 | apply bD9) | exact HB6.out)⟩
   case neg =>
   rw [if_neg h60] at h;have q7 : (c1 == 60) = false := bN_ h60;clear h60;obtain ⟨ni, hni⟩ : ∃ j_ : Int, wrap64 (i + c2) = j_ := ⟨_, rfl⟩;have hniw : IntKind.i64.wrap (i + c2) = ni := (i64_w _).trans hni;by_cases h62 : c1 = 62
   case pos =>
    rw [if_pos h62] at h;have q8 : (c1 == 62) = true := bQ_ h62;clear h62;split at h
    case isFalse => cases h
    case isTrue hg0 =>
    obtain ⟨u0, u1, u2⟩ := hg0;have s0 := eq_true u0;have s1 := eq_true u1;have s2 := eq_true u2;clear u0 u1 u2;obtain ⟨b, hS, h⟩ := oB_ h;have HSF := A_ hS;clear hS;cases b with
    | true =>
     rw [if_pos rfl] at h;obtain ⟨rfl, rfl⟩ := Prod.mk.inj (sI_ h);clear h;go_wp2_with (first | (go_at_call 64; (with_reducible refine (strings_IndexByte.calls a2 (bt a0 i) q _ HQ.out).mono ?_); rintro r w4 ⟨rfl, hd⟩; have HB4 := A_ (below_step HB.out hd.below); have HN4 := A_ (bld_below HN.out hd.below); clear hd) | (go_at_call 55; (with_reducible refine (impl_cleanSign.calls n a0 i c1 c2 _ HCS.out).mono ?_); rintro r w5 ⟨rfl, hb⟩; have HB5 := A_ (below_step HB4.out hb); have HN5 := A_ (bld_below HN4.out hb); clear hb) | (go_at_call 67; (with_reducible refine (impl_IsText.calls c1 true _ HT.out).mono ?_); rintro r w6 ⟨rfl, hd⟩; have HB6 := A_ (below_step HB5.out hd.below); have HN6 := A_ (bld_below HN5.out hd.below); clear hd) | (go_at_call 72; (with_reducible refine (strings_HasSuffix.calls (a0.extract a1.toNat i.toNat) ⟨#[93, 93]⟩ true _ HSF.out).mono ?_); rintro r w7 ⟨rfl, hd⟩; have HB7 := A_ (below_step HB6.out hd.below); have HN7 := A_ (bld_below HN6.out hd.below); clear hd))
     go_ret2
     exact ⟨rfl, by repeat (first | (with_reducible first | exact HB7.out | apply bA9 | apply bN9 | apply bD9) | exact HB7.out)⟩
    | false =>
     rw [if_neg si_] at h;unfold xtGo at h;rw [hni] at h;split at h
     case isFalse => cases h
     case isTrue hg =>
     obtain ⟨hg1, hg2, hg3⟩ := hg;have HLM : As9 ((Lib.byteCells out).length + (a0.extract i.toNat ni.toNat).size ≤ 140737488355328) := ⟨by rw [byteCells_len]; omega⟩;have pz := eq_true hg1;have qz := eq_true hg2;have HGN := A_ h;clear h hg1 hg2 hg3;go_wp2_with (first | (go_at_call 64; (with_reducible refine (strings_IndexByte.calls a2 (bt a0 i) q _ HQ.out).mono ?_); rintro r w4 ⟨rfl, hd⟩; have HB4 := A_ (below_step HB.out hd.below); have HN4 := A_ (bld_below HN.out hd.below); clear hd) | (go_at_call 55; (with_reducible refine (impl_cleanSign.calls n a0 i c1 c2 _ HCS.out).mono ?_); rintro r w5 ⟨rfl, hb⟩; have HB5 := A_ (below_step HB4.out hb); have HN5 := A_ (bld_below HN4.out hb); clear hb) | (go_at_call 67; (with_reducible refine (impl_IsText.calls c1 true _ HT.out).mono ?_); rintro r w6 ⟨rfl, hd⟩; have HB6 := A_ (below_step HB5.out hd.below); have HN6 := A_ (bld_below HN5.out hd.below); clear hd) | (go_at_call 72; (with_reducible refine (strings_HasSuffix.calls (a0.extract a1.toNat i.toNat) ⟨#[93, 93]⟩ false _ HSF.out).mono ?_); rintro r w7 ⟨rfl, hd⟩; have HB7 := A_ (below_step HB6.out hd.below); have HN7 := A_ (bld_below HN6.out hd.below); clear hd) | (go_at_call 71; (with_reducible refine (bld_str w.heap.size w2.heap.size (Lib.byteCells out) (a0.extract i.toNat ni.toNat) _ HN7.out HLM.out HB7.out.size).mono ?_); rintro e w8 ⟨rfl, ho, hb, hk⟩; have HN8 := A_ ho; have HB8 := A_ (HB7.out.trans hb); clear ho hb hk))
     go_roundg n
     case measure => omega
     case rel => exact ⟨_, ni, by first | rfl | rw [← hni], HGN, ⟨by rw [byteCells_append, ← strCells_bytes]; exact HN8.out⟩, HB8⟩
   case neg =>
    rw [if_neg h62] at h;have q8 : (c1 == 62) = false := bN_ h62;clear h62;unfold xtGo at h;rw [hni] at h;split at h
    case isFalse => cases h
    case isTrue hg =>
    obtain ⟨hg1, hg2, hg3⟩ := hg;have HLM : As9 ((Lib.byteCells out).length + (a0.extract i.toNat ni.toNat).size ≤ 140737488355328) := ⟨by rw [byteCells_len]; omega⟩;have pz := eq_true hg1;have qz := eq_true hg2;have HGN := A_ h;clear h hg1 hg2 hg3;go_wp2_with (first | (go_at_call 64; (with_reducible refine (strings_IndexByte.calls a2 (bt a0 i) q _ HQ.out).mono ?_); rintro r w4 ⟨rfl, hd⟩; have HB4 := A_ (below_step HB.out hd.below); have HN4 := A_ (bld_below HN.out hd.below); clear hd) | (go_at_call 55; (with_reducible refine (impl_cleanSign.calls n a0 i c1 c2 _ HCS.out).mono ?_); rintro r w5 ⟨rfl, hb⟩; have HB5 := A_ (below_step HB4.out hb); have HN5 := A_ (bld_below HN4.out hb); clear hb) | (go_at_call 67; (with_reducible refine (impl_IsText.calls c1 true _ HT.out).mono ?_); rintro r w6 ⟨rfl, hd⟩; have HB6 := A_ (below_step HB5.out hd.below); have HN6 := A_ (bld_below HN5.out hd.below); clear hd) | (go_at_call 71; (with_reducible refine (bld_str w.heap.size w2.heap.size (Lib.byteCells out) (a0.extract i.toNat ni.toNat) _ HN6.out HLM.out HB6.out.size).mono ?_); rintro e w8 ⟨rfl, ho, hb, hk⟩; have HN8 := A_ ho; have HB8 := A_ (HB6.out.trans hb); clear ho hb hk))
    go_roundg n
    case measure => omega
    case rel => exact ⟨_, ni, by first | rfl | rw [← hni], HGN, ⟨by rw [byteCells_append, ← strCells_bytes]; exact HN8.out⟩, HB8⟩
abbrev tnB : ByteArray := ⟨#[9, 10]⟩
theorem enc_facts (r : Int) (h : 128 ≤ r) (hv : Utf8.valid r = true) : ∃ rs : ByteArray, Utf8.encode r = rs ∧ 2 ≤ rs.size ∧ rs.size ≤ 4 ∧ ∀ (j : Nat) (hj : j < rs.size), 128 ≤ (rs[j]'hj).toNat := by
 have key : ∀ n : Nat, 128 ≤ n → n < 256 → 128 ≤ (UInt8.ofNat n).toNat := fun n _ h => by simp; omega
 have hm : r.toNat ≤ 1114111 := by
  simp only [Utf8.valid, Bool.or_eq_true, Bool.and_eq_true, decide_eq_true_eq] at hv;omega
 unfold Utf8.encode;simp only [hv, if_true];rw [if_neg om_];split
 ·refine ⟨_, rfl, by show 2 ≤ 2; decide, by show 2 ≤ 4; decide, fun j hj => ?_⟩;have hj' : j < 2 := hj;rcases (show j = 0 ∨ j = 1 by omega) with rfl | rfl
  ·exact key _ om_ om_
  ·exact key _ om_ om_
 ·split
  ·refine ⟨_, rfl, by show 2 ≤ 3; decide, by show 3 ≤ 4; decide, fun j hj => ?_⟩;have hj' : j < 3 := hj;rcases (show j = 0 ∨ j = 1 ∨ j = 2 by omega) with rfl | rfl | rfl
   ·exact key _ om_ om_
   ·exact key _ om_ om_
   ·exact key _ om_ om_
  ·refine ⟨_, rfl, by show 2 ≤ 4; decide, by show 4 ≤ 4; decide, fun j hj => ?_⟩;have hj' : j < 4 := hj;rcases (show j = 0 ∨ j = 1 ∨ j = 2 ∨ j = 3 by omega) with rfl | rfl | rfl | rfl
   ·exact key _ om_ om_
   ·exact key _ om_ om_
   ·exact key _ om_ om_
   ·exact key _ om_ om_
theorem dec_cont (s : BA) (pos : Nat) (h : pos < s.size) (ha : 128 ≤ (s[pos]'h).toNat) :
  ((Utf8.decode s pos).2 = 1) ∨ ((Utf8.decode s pos).2 = 2 ∧ (pos + 1 < s.size ∧ (s.get! (pos + 1)).toNat / 64 = 2)) ∨
  ((Utf8.decode s pos).2 = 3 ∧ (pos + 1 < s.size ∧ (s.get! (pos + 1)).toNat / 64 = 2) ∧ (pos + 2 < s.size ∧ (s.get! (pos + 2)).toNat / 64 = 2)) ∨
  ((Utf8.decode s pos).2 = 4 ∧ (pos + 1 < s.size ∧ (s.get! (pos + 1)).toNat / 64 = 2) ∧ (pos + 2 < s.size ∧ (s.get! (pos + 2)).toNat / 64 = 2) ∧ (pos + 3 < s.size ∧ (s.get! (pos + 3)).toNat / 64 = 2)) := by
 have hn : ¬ (s[pos]'h).toNat < 128 := om_;simp only [Utf8.decode, get_at s pos h, hn, if_false];repeat' split
 all_goals simp_all
theorem tn_high (b : UInt8) (h : 128 ≤ b.toNat) : tnB.data.toList.contains b = false := by
 have h1 : b ≠ 9 := fun e => by subst e; exact absurd h de_
 have h2 : b ≠ 10 := fun e => by subst e; exact absurd h de_
 simp [tnB, h1, h2]
theorem noAny_dec (s : BA) (i : Nat) (h : i < s.size) (ha : 128 ≤ (s[i]'h).toNat) (hno : Lib.NoAny s.data.toList tnB.data.toList i) :
  Lib.NoAny s.data.toList tnB.data.toList (i + (Utf8.decode s i).2) := by
 have hg : ∀ j (hj : j < s.size), s.get! j = s[j]'hj := fun j hj => by simp [ByteArray.get!, getElem!_pos, hj]; rfl
 have step : ∀ j, j < s.size → 128 ≤ (s.get! j).toNat → Lib.NoAny s.data.toList tnB.data.toList j → Lib.NoAny s.data.toList tnB.data.toList (j + 1) := fun j hj hb hn =>
  hn.succ (Lib.data_getElem? s j hj) (tn_high _ (by rw [← hg j hj]; exact hb))
 have h1 := step i h (by rw [hg i h]; exact ha) hno;rcases dec_cont s i h ha with e | ⟨e, c1⟩ | ⟨e, c1, c2⟩ | ⟨e, c1, c2, c3⟩ <;> rw [e]
 ·exact h1
 ·exact step _ c1.1 om_ h1
 ·exact step _ c2.1 om_ (step _ c1.1 om_ h1)
 ·exact step _ c3.1 om_ (step _ c2.1 om_ (step _ c1.1 om_ h1))
theorem indexRune_tn (r : Int) (h0 : 128 ≤ r) (h1 : r ≤ 2147483647) (w : World) :
  Calls Tryz.prog 158 #[.string tnB, .int .i32 r] w fun e w' => e = .returned (.int .i64 (-1)) ∧ Below w.heap.size w w' := by
 have HB := A_ (Below.refl w.heap.size w);have b0 : decide (r < 128) = false := dF_ om_;have b1 : decide (0 ≤ r) = true := dE_ om_;have b2 : ((0 : Int) ≤ r) = True := eq_true om_;have b3 : (r < 128) = False := eq_false om_;by_cases c : r = 65533
 ·have cb : (r == 65533) = true := bQ_ c;clear c h0 h1;go_enter Tryz.func158, Tryz.ntmps158
  go_wp2
  go_loopg [5, 6] 2 (fun g _ _ wx => ∃ i : Nat, i + g = 2 ∧ wx = w.iter tnB i)
  case atStart => exact ⟨0, om_, rfl⟩
  case round =>
   obtain ⟨i, hig, rfl⟩ := hrel;cases gk with
   | zero =>
    obtain rfl : i = 2 := om_;have hnx := run_next_end (P := Tryz.prog) w tnB 2;go_wp2
    go_ret
    exact ⟨rfl, (Below.refl _ _).alloc (Nat.le_refl _) _⟩
   | succ g =>
    have hi : i < tnB.size := by show i < 2; omega
    have hx128 : (tnB[i]'hi).toNat < 128 := by
     rcases (show i = 0 ∨ i = 1 by omega) with rfl | rfl
     ·exact (by decide : (9 : UInt8).toNat < 128)
     ·exact (by decide : (10 : UInt8).toNat < 128)
    have hq : (((tnB[i]'hi).toNat : Int) == 65533) = false := by
     rcases (show i = 0 ∨ i = 1 by omega) with rfl | rfl
     ·exact (by decide : (((9 : UInt8).toNat : Int) == 65533) = false)
     ·exact (by decide : (((10 : UInt8).toNat : Int) == 65533) = false)
    have hnx := fun ty => run_next_ascii (P := Tryz.prog) w tnB i ty hi hx128
    generalize tnB[i]'hi = x at *;go_wp2
    go_roundg g
    case measure => omega
    case rel => exact ⟨i + 1, om_, rfl⟩
 ·have cb : (r == 65533) = false := bN_ c;have hval := Tryz.utf8_ValidRune r;clear c;cases hv : Lib.validRune r with
  | false =>
   clear h0 h1;go_enter Tryz.func158, Tryz.ntmps158
   go_wp2_with ((go_at_call 189; (with_reducible refine (Tryz.utf8_ValidRune r _).mono ?_); rintro e w' ⟨rfl, hw⟩; rw [hw, hv]))
   go_ret
   exact ⟨rfl, hB_⟩
  | true =>
   obtain ⟨rs, hrs, hs2, hs4, hrb⟩ := enc_facts r h0 (by
    simp only [Lib.validRune, decide_eq_true_eq] at hv;simp only [Utf8.valid, Bool.or_eq_true, Bool.and_eq_true, decide_eq_true_eq];omega)
   go_enter Tryz.func158, Tryz.ntmps158
   go_wp2_with ((go_at_call 189; (with_reducible refine (Tryz.utf8_ValidRune r _).mono ?_); rintro e w' ⟨rfl, hw⟩; rw [hw, hv]))
   go_step3
   have hs1 : 1 < rs.size := om_;have hr1 : ¬ (rs[1]'hs1).toNat < 128 := by have := hrb 1 hs1; omega
   obtain ⟨x1, hx1⟩ : ∃ x : UInt8, rs[1]'hs1 = x := ⟨_, rfl⟩;rw [hx1] at hr1;have hwz : wrap64 ((rs.size : Int) - 1) = (rs.size : Int) - 1 := by unfold wrap64; omega
   by_cases c2 : rs.size = 2
   ·have HR : Aside (∀ (j : Nat) (hj : j < rs.size), 128 ≤ (rs[j]'hj).toNat) := hrb;have hq1 : ((10 : Int) == (x1.toNat : Int)) = false := bN_ om_;have hq2 : (((tnB[1]'de_).toNat : Int) != (x1.toNat : Int)) = true := by
     show (!((10 : Int) == (x1.toNat : Int))) = true;rw [hq1]; rfl
    clear hrb hs2 hs4;go_wp2
    go_loopg [9] 0 (fun _ v wx => v = .int .i64 1 ∧ wx = w)
    case atStart => exact ⟨rfl, rfl⟩
    case round =>
     obtain ⟨rfl, rfl⟩ := hrel;go_wp2
     go_step3
     go_wp2
     go_quiet (fail)
     go_wp2
     have he2 : tnB.extract 2 2 = ByteArray.empty := rfl;go_quiet (first | (go_at_call 64; (with_reducible refine (strings_IndexByte.calls ByteArray.empty (x1.toNat : Int) (-1) _ rfl).mono ?_); rintro e w' ⟨rfl, ⟨nd, rfl⟩⟩; (try exact dd_)))
     go_wp2
     simp only [Exit.noGoto, Exit.inBlock, Exit.then];go_ret
     exact ⟨rfl, hB_⟩
   ·have c3 : decide ((rs.size : Int) - 1 < 2) = false := dF_ om_;clear hrb hs2 hs4 c2;go_wp2
    go_loopg [9] 0 (fun _ v wx => v = .int .i64 (wrap64 ((rs.size : Int) - 1)) ∧ wx = w)
    case atStart => exact ⟨rfl, rfl⟩
    case round =>
     obtain ⟨rfl, rfl⟩ := hrel;go_wp2
     rw [Exit.noGoto_ret];go_ret
     exact ⟨rfl, Below.refl _ _⟩
theorem indexAny_tn_short (s : BA) (w : World) (h8 : s.size ≤ 8) :
  Calls Tryz.prog 126 #[.string s, .string tnB] w fun e w' => e = .returned (.int .i64 (Lib.indexAny s.data.toList tnB.data.toList)) ∧ Below w.heap.size w w' := by
 have h8z : decide ((8 : Int) < (s.size : Int)) = false := dF_ om_;have hw0 := A_ (((Below.refl w.heap.size w).alloc (Nat.le_refl _) (.stringIter s 0)));have hw1 : Aside ((w.iter s 0).heap[w.heap.size]? = some (.stringIter s 0)) := w.iter_heap s 0;go_enter Tryz.func126, Tryz.ntmps126
 go_wp2_with ((go_at_call 159; (with_reducible refine (Tryz.strings_shouldUseASCIISet _ _).mono ?_); rintro e w' ⟨rfl, hw⟩; rw [hw, h8z]))
 go_loopg [9, 10] s.size (fun g _ _ wx => ∃ i : Nat, g = s.size - i ∧ Lib.NoAny s.data.toList tnB.data.toList i ∧ i ≤ s.size ∧ Below w.heap.size w wx ∧ wx.heap[w.heap.size]? = some (.stringIter s i))
 case atStart => exact ⟨0, om_, Lib.NoAny.zero _ _, om_, hw0.out, hw1.out⟩
 case round =>
  obtain ⟨i, hig, hno, hile, hb, hk⟩ := hrel;have HN : Aside (Lib.NoAny s.data.toList tnB.data.toList i) := hno;have HBl := A_ hb;have HK : Aside (wr.heap[w.heap.size]? = some (.stringIter s i)) := hk;have hwk : w.heap.size < wr.heap.size := (Array.getElem?_eq_some_iff.1 hk).1;clear hno hb;by_cases hi : i < s.size
  ·have hbi := Lib.below_iterAt (HBl.out) (Nat.le_refl w.heap.size) s;have hii := fun p => Lib.iterAt_heap wr w.heap.size s i p hk
   by_cases hx128 : (s[i]'hi).toNat < 128
   ·have hnx := fun ty => Lib.run_next_ascii_at (P := Tryz.prog) wr w.heap.size s i ty hk hi hx128
    obtain ⟨x, hx⟩ : ∃ x : UInt8, s[i]'hi = x := ⟨_, rfl⟩;have hxl : s.data.toList[i]? = some x := by rw [← hx]; exact Lib.data_getElem? s i hi
    rw [hx] at hnx hx128;have Hx : Aside (s.data.toList[i]? = some x) := hxl;have HB2 := A_ (hbi (i + 1));have HI2 : Aside ((wr.iterAt w.heap.size s (i + 1)).heap[w.heap.size]? = some (.stringIter s (i + 1))) := hii _;clear hxl hx hbi hii hk;have hcon := Lib.contains_iff_indexByte tnB.data.toList x;have hback : ((x.toNat : Int)).toNat.toUInt8 = x := by simp
    cases hin : tnB.data.toList.contains x
    ·rw [hin] at hcon;have hlt : ¬ ((0 : Int) ≤ Lib.indexByte tnB.data.toList x) := of_decide_eq_false hcon.symm;clear hcon;go_wp2_with (go_at_call 158; refine (Tryz.strings_IndexRune_ascii _ _ _ om_ om_).mono ?_; rintro e w' ⟨rfl, hw⟩; rw [hw, hback])
     go_roundg (s.size - (i + 1))
     case measure => omega
     case rel => exact ⟨i + 1, rfl, HN.out.succ Hx.out hin, om_, HB2.out, HI2.out⟩
    ·rw [hin] at hcon;have hge : (0 : Int) ≤ Lib.indexByte tnB.data.toList x := of_decide_eq_true hcon.symm;clear hcon;go_wp2_with (go_at_call 158; refine (Tryz.strings_IndexRune_ascii _ _ _ om_ om_).mono ?_; rintro e w' ⟨rfl, hw⟩; rw [hw, hback])
     go_ret
     exact ⟨by rw [Lib.indexAny_hit HN.out Hx.out hin]; rfl, HB2.out⟩
   ·have hnx := fun ty => Lib.run_next_any_at (P := Tryz.prog) wr w.heap.size s i ty hk hi
    have hd := decode_high s i hi om_;have hl := decode_le s i;have HN2 : Aside (Lib.NoAny s.data.toList tnB.data.toList (i + (Utf8.decode s i).2)) := noAny_dec s i hi om_ HN.out;have hle2 : i + (Utf8.decode s i).2 ≤ s.size := by
     rcases dec_cont s i hi om_ with e | ⟨e, c1⟩ | ⟨e, c1, c2⟩ | ⟨e, c1, c2, c3⟩ <;> rw [e] <;> omega
    have HB2 := A_ (hbi (i + (Utf8.decode s i).2));have HI2 : Aside ((wr.iterAt w.heap.size s (i + (Utf8.decode s i).2)).heap[w.heap.size]? = some (.stringIter s (i + (Utf8.decode s i).2))) := hii _;obtain ⟨d1, hd1⟩ : ∃ n, (Utf8.decode s i).1 = n := ⟨_, rfl⟩;obtain ⟨d2, hd2⟩ : ∃ n, i + (Utf8.decode s i).2 = n := ⟨_, rfl⟩;have hi2 : i + 1 ≤ d2 := om_;rw [hd1] at hnx hd hl;rw [hd2] at hnx HN2 hle2 HB2 HI2;have hzz : wr.heap.size = (wr.iterAt w.heap.size s d2).heap.size := (Lib.iterAt_size _ _ _ _).symm;clear hbi hii hk hd1 hd2;have hd0 := hd.1;clear hd;generalize wr.iterAt w.heap.size s d2 = wi at *;go_wp2_with (go_at_call 158; refine (indexRune_tn (d1 : Int) om_ om_ _).mono ?_; rintro e w' ⟨rfl, hw3⟩)
    go_roundg (s.size - d2)
    case measure => omega
    case rel => exact ⟨d2, rfl, HN2.out, hle2, HB2.out.trans (hw3.mono om_), (hw3.block _ om_).trans HI2.out⟩
  ·have hnx := fun ty => Lib.run_next_end_at (P := Tryz.prog) wr w.heap.size s i ty hk hi
   clear hk;obtain rfl : i = s.size := om_;go_wp2
   go_ret
   exact ⟨by rw [Lib.indexAny_none (by rw [← Lib.size_eq]; exact HN.out)]; rfl, HBl.out⟩
def strings_ContainsAny.f (a0 : BA) (a1 : BA) : Option Bool := if a1 = tnB ∧ a0.size < 4294967281 then some (Lib.containsAny a0.data.toList a1.data.toList) else none
theorem indexAny_tn (s : BA) (w : World) (hs : s.size < 4294967281) :
  Calls Tryz.prog 126 #[.string s, .string tnB] w fun e w' => e = .returned (.int .i64 (Lib.indexAny s.data.toList tnB.data.toList)) ∧ Below w.heap.size w w' := by
 by_cases h8 : s.size ≤ 8
 ·exact indexAny_tn_short s w h8
 ·refine (Tryz.strings_IndexAny_long ?_ s tnB w de_ om_ hs de_ (fun j b hb => by
   have hm := List.mem_of_getElem? hb;simp [tnB] at hm
   rcases hm with rfl | rfl <;> decide)).mono ?_
  ·exact (zero_of_info (P := Tryz.prog) (by kernel_rfl : _ = some (some (.agg (Array.replicate 256 (.bool false))), 256))).1
  ·rintro e w' ⟨rfl, rfl⟩;exact ⟨rfl, ((Below.refl _ _).alloc (Nat.le_refl _) _).alloc si_ _⟩
theorem strings_ContainsAny.calls (a0 : BA) (a1 : BA) (r : Bool) (w : World) (h : strings_ContainsAny.f a0 a1 = some r) :
  Calls Tryz.prog 77 #[.string a0, .string a1] w fun e w' => e = .returned (.bool r) ∧ Below w.heap.size w w' := by
 unfold strings_ContainsAny.f at h;split at h
 ·next hc =>
  obtain ⟨rfl, hs⟩ := hc;obtain rfl := sI_ h;clear h;have HS : Aside (a0.size < 4294967281) := hs;clear hs;go_enter Tryz.func77, Tryz.ntmps77
  go_wp2_with (go_at_call 126; refine (indexAny_tn a0 _ HS.out).mono ?_; rintro e w' ⟨rfl, hw3⟩)
  go_ret
  exact ⟨rfl, hw3⟩
 ·exact nomatch h
def impl_XmlAttr.j0 : Nat → ByteArray → ByteArray → Int → Bool → Option (ByteArray × ByteArray × Int)
 | 0, _, _, _, _ => none
 | k + 1, x0, x6, x7, x25 => if x25 = true then (some ((⟨#[]⟩ : BA), (⟨#[]⟩ : BA), (-1))) else ((impl_XmlText.f k x0 (wrap64 (x7 + 2)) (⟨#[34]⟩ : BA)).bind fun bt376 => (if bt376.2 < 0 then (some ((⟨#[]⟩ : BA), (⟨#[]⟩ : BA), (-1))) else (if bt376.2 = (x0.size : Int) then (some ((⟨#[]⟩ : BA), (⟨#[]⟩ : BA), (-1))) else (if 0 ≤ (wrap64 (x7 + 2)) then (if (wrap64 (x7 + 2)) ≤ bt376.2 then (if bt376.2 ≤ (x0.size : Int) then ((strings_ContainsAny.f (x0.extract ((wrap64 (x7 + 2)) : Int).toNat (bt376.2 : Int).toNat) (⟨#[9, 10]⟩ : BA)).bind fun t378 => (if t378 = true then (some ((⟨#[]⟩ : BA), (⟨#[]⟩ : BA), (-1))) else (some (x6, bt376.1, wrap64 (bt376.2 + 1))))) else (none)) else (none)) else (none)))))
def impl_XmlAttr.f (k : Nat) (a0 : BA) (a1 : Int) : Option (ByteArray × ByteArray × Int) := (impl_XmlName.f k a0 a1).bind fun bt373 => (if bt373.1.toList = ([] : List UInt8) then (impl_XmlAttr.j0 k a0 bt373.1 bt373.2 true) else (if 0 ≤ bt373.2 then (if bt373.2 ≤ (a0.size : Int) then ((strings_HasPrefix.f (a0.extract (bt373.2 : Int).toNat a0.size) (⟨#[61, 34]⟩ : BA)).bind fun t375 => (impl_XmlAttr.j0 k a0 bt373.1 bt373.2 (!t375))) else (none)) else (none)))
theorem impl_XmlAttr.mono_l : ∀ k, (∀ y0 y1 y2 y3, LeO (impl_XmlAttr.j0 k y0 y1 y2 y3) (impl_XmlAttr.j0 (k + 1) y0 y1 y2 y3))
 | 0 => fun _ _ _ _ r h => by simp [impl_XmlAttr.j0] at h
 | k + 1 => by
  have ih0 := impl_XmlAttr.mono_l k
  ·intro y0 y1 y2 y3;unfold impl_XmlAttr.j0;with_reducible repeat' first | exact ih0 _ _ _ _ | exact impl_XmlName.mono _ _ _ | exact impl_XmlText.mono _ _ _ _ | apply LeO.refl | apply LeO.none | apply LeO.ite | apply LeO.bind | intro
theorem impl_XmlAttr.mono : ∀ a0 a1 k, LeO (impl_XmlAttr.f k a0 a1) (impl_XmlAttr.f (k + 1) a0 a1) := by
 intro a0 a1 k;have ih0 := impl_XmlAttr.mono_l k;unfold impl_XmlAttr.f;with_reducible repeat' first | exact ih0 _ _ _ _ | exact impl_XmlName.mono _ _ _ | exact impl_XmlText.mono _ _ _ _ | apply LeO.refl | apply LeO.none | apply LeO.ite | apply LeO.bind | intro
theorem impl_XmlAttr.calls (k : Nat) (a0 : BA) (a1 : Int) (r1 : BA) (r2 : BA) (r3 : Int) (w : World) (hL : LibOk w) (hE : LibErr w) (h : impl_XmlAttr.f k a0 a1 = some (r1, r2, r3)) :
  Calls Tryz.prog 25 #[.string a0, .int .i64 a1] w fun e w' => e = .returned (.tuple #[.agg #[.string r1, .string r2], .int .i64 r3]) ∧ Below w.heap.size w w' := by
 have hu36 := Tryz.underlying36;have HB := A_ (Below.refl w.heap.size w);have H : ((impl_XmlName.f k a0 a1).bind fun bt373 => (if bt373.1.toList = ([] : List UInt8) then (impl_XmlAttr.j0 k a0 bt373.1 bt373.2 true) else (if 0 ≤ bt373.2 then (if bt373.2 ≤ (a0.size : Int) then ((strings_HasPrefix.f (a0.extract (bt373.2 : Int).toNat a0.size) (⟨#[61, 34]⟩ : BA)).bind fun t375 => (impl_XmlAttr.j0 k a0 bt373.1 bt373.2 (!t375))) else (none)) else (none)))) = some (r1, r2, r3) := h;clear h;obtain ⟨⟨t373, t374⟩, A3, H⟩ := ob_ H;(try dsimp only at H)
 have HC4 := A_ H;clear H;go_enter Tryz.func25, Tryz.ntmps25
 go_upto_region 2 with (first | ((with_reducible refine gate_dst (N := 4) rfl ?_); (try (refine gate_guard (by rfl) ?_; dsimp only)); refine bE_ #[.string (⟨#[]⟩ : BA), .string (⟨#[]⟩ : BA)] 36 ?_; intro gb372 hg w5 hbox hb; have BK372 := A_ (hbox); have GW372 := hs_ hg; have GE372 := hs_ hg; replace HB := bS_ hb; clear hb hbox hg) | ((with_reducible refine gC_ 16 ?_); refine gL_ 14 Tryz.func16 #[.string a0, .int .i64 a1] ?_; (with_reducible refine (impl_XmlName.calls k a0 a1 t373 t374 _ A3.out).mono ?_); rintro e w6 ⟨rfl, hb⟩; refine ⟨_, rfl, ?_⟩; replace BK372 := A_ (blk_below (g := gb372) (o := .cells #[.string (⟨#[]⟩ : BA), .string (⟨#[]⟩ : BA)] 36 (0, 0)) (blk_below BK372.out hR_) hb); replace HB := bS_ hb; clear hb))
 (try simp only [Act.put, List.setIfInBounds_toArray, List.set_cons_zero, List.set_cons_succ])
 go_cut [25] (fun v25 wc => ∃ (kq : Nat) (x25_3 : Bool), v25 = .bool x25_3 ∧ As9 (impl_XmlAttr.j0 kq a0 t373 t374 x25_3 = some (r1, r2, r3)) ∧ As9 (kq ≤ k) ∧ As9 (wc.heap[gb372]? = some (.cells #[.string (⟨#[]⟩ : BA), .string (⟨#[]⟩ : BA)] 36 (0, 0))) ∧ As9 (Below w.heap.size w wc))
 case first =>
  have H := HC4.out;clear HC4;rcases ic_ H with ⟨c7, H⟩ | ⟨c7, H⟩
  ·obtain ⟨c7b0, c7b1⟩ := be_ c7;clear c7;(first | rw [c7b0] | (simp only [i64_w, i32_w]; rw [c7b0]) | skip)
   have H' := A_ H;clear H;go_wp2
   go_meet
   case rel => exact ⟨_, (true), e2_, H', ⟨by first | omega | exact Nat.le_refl _⟩, ⟨blk_below BK372.out hR_⟩, ⟨hB_⟩⟩
  ·obtain ⟨c7b0, c7b1⟩ := bn_ c7;(first | rw [c7b0] | (simp only [i64_w, i32_w]; rw [c7b0]) | skip)
   obtain ⟨c8, H⟩ := ifn_ H;have c8b0 := eq_true c8;have c8b1 := dE_ c8;clear c8;obtain ⟨c9, H⟩ := ifn_ H;have c9b0 := eq_true c9;have c9b1 := dE_ c9;clear c9;obtain ⟨t375, A10, H⟩ := ob_ H;(try dsimp only at H)
   have H' := A_ H;clear H;go_wp2_with (first | (go_at_call 76; (with_reducible refine (strings_HasPrefix.calls (a0.extract (t374 : Int).toNat a0.size) (⟨#[61, 34]⟩ : BA) t375 _ A10.out).mono ?_); rintro e w' ⟨rfl, ⟨nd, rfl⟩⟩))
   go_meet
   case rel => exact ⟨_, (!t375), e2_, H', ⟨by first | omega | exact Nat.le_refl _⟩, ⟨blk_below BK372.out hR_⟩, ⟨hB_⟩⟩
 case rest =>
  clear HC4;try clear c1
  try clear c2
  try clear p2
  try clear c7
  try clear c7b0
  try clear c7b1
  try clear c8
  try clear c8b0
  try clear c8b1
  try clear c9
  try clear c9b0
  try clear c9b1
  obtain ⟨kq, x25_3, rfl, HA, HJ3, BK372, HB⟩ := hcut;cases kq with
  | zero => exact absurd HA.out (by simp [impl_XmlAttr.j0])
  | succ kj3 =>
   have H := HA.out;clear HA;simp only [impl_XmlAttr.j0] at H;by_cases c11 : x25_3 = true
   ·subst c11;rw [if_pos rfl] at H;obtain ⟨rfl, rfl, rfl⟩ := pj_ H;obtain ⟨hcz12_0, hcz12_1, hfz12_0, hfz12_1⟩ := bk2_ BK372.out;go_wp2
    refine bodyPost_ret (results_ct rfl _ _ gb372 36 #[.string (⟨#[]⟩ : BA), .string (⟨#[]⟩ : BA)] (0, 0) _ rfl (by refine kB_ ?_; refine blk_put (cs := #[.string (⟨#[]⟩ : BA), .string (⟨#[]⟩ : BA)]) ?_ 1 _ rfl; refine kB_ ?_; refine blk_put (cs := #[.string (⟨#[]⟩ : BA), .string (⟨#[]⟩ : BA)]) ?_ 0 _ rfl; refine kB_ ?_; exact BK372.out) Tryz.underlying36 rfl (by kernel_rfl)) rfl ?_;exact ⟨e1_, hB_⟩
   ·replace c11 := bF_ c11;subst c11;rw [if_neg nF_] at H;obtain ⟨⟨t376, t377⟩, A13, H⟩ := ob_ H;(try dsimp only at H)
    rcases ic_ H with ⟨c14, H⟩ | ⟨c14, H⟩
    ·have c14b0 := dE_ c14;clear c14;obtain ⟨rfl, rfl, rfl⟩ := pj_ H;go_wp2_with (first | ((with_reducible refine gC_ 22 ?_); refine gL_ 32 Tryz.func22 #[.string a0, .int .i64 (wrap64 (t374 + 2)), .string (⟨#[34]⟩ : BA)] ?_; (with_reducible refine (impl_XmlText.calls kj3 a0 (wrap64 (t374 + 2)) (⟨#[34]⟩ : BA) t376 t377 _ ?side1 ?side2 A13.out).mono ?_); (case side1 => first | exact hL | exact LibOk.below hL hB_); (case side2 => first | exact hE | exact LibErr.below hE hB_); rintro e w15 ⟨rfl, hb⟩; refine ⟨_, rfl, ?_⟩; replace BK372 := A_ (blk_below (g := gb372) (o := .cells #[.string (⟨#[]⟩ : BA), .string (⟨#[]⟩ : BA)] 36 (0, 0)) (blk_below BK372.out hR_) hb); replace HB := bS_ hb; clear hb; obtain ⟨hcz16_0, hcz16_1, hfz16_0, hfz16_1⟩ := bk2_ BK372.out))
     refine bodyPost_ret (results_ct rfl _ _ gb372 36 #[.string (⟨#[]⟩ : BA), .string (⟨#[]⟩ : BA)] (0, 0) _ rfl (by refine kB_ ?_; refine blk_put (cs := #[.string (⟨#[]⟩ : BA), .string (⟨#[]⟩ : BA)]) ?_ 1 _ rfl; refine kB_ ?_; refine blk_put (cs := #[.string (⟨#[]⟩ : BA), .string (⟨#[]⟩ : BA)]) ?_ 0 _ rfl; refine kB_ ?_; exact BK372.out) Tryz.underlying36 rfl (by kernel_rfl)) rfl ?_;exact ⟨e1_, hB_⟩
    ·have c14b0 := dF_ c14;clear c14;rcases ic_ H with ⟨c17, H⟩ | ⟨c17, H⟩
     ·obtain ⟨c17b0, c17b1⟩ := be_ c17;clear c17;obtain ⟨rfl, rfl, rfl⟩ := pj_ H;go_wp2_with (first | ((with_reducible refine gC_ 22 ?_); refine gL_ 32 Tryz.func22 #[.string a0, .int .i64 (wrap64 (t374 + 2)), .string (⟨#[34]⟩ : BA)] ?_; (with_reducible refine (impl_XmlText.calls kj3 a0 (wrap64 (t374 + 2)) (⟨#[34]⟩ : BA) t376 t377 _ ?side1 ?side2 A13.out).mono ?_); (case side1 => first | exact hL | exact LibOk.below hL hB_); (case side2 => first | exact hE | exact LibErr.below hE hB_); rintro e w18 ⟨rfl, hb⟩; refine ⟨_, rfl, ?_⟩; replace BK372 := A_ (blk_below (g := gb372) (o := .cells #[.string (⟨#[]⟩ : BA), .string (⟨#[]⟩ : BA)] 36 (0, 0)) (blk_below BK372.out hR_) hb); replace HB := bS_ hb; clear hb; obtain ⟨hcz19_0, hcz19_1, hfz19_0, hfz19_1⟩ := bk2_ BK372.out))
      refine bodyPost_ret (results_ct rfl _ _ gb372 36 #[.string (⟨#[]⟩ : BA), .string (⟨#[]⟩ : BA)] (0, 0) _ rfl (by refine kB_ ?_; refine blk_put (cs := #[.string (⟨#[]⟩ : BA), .string (⟨#[]⟩ : BA)]) ?_ 1 _ rfl; refine kB_ ?_; refine blk_put (cs := #[.string (⟨#[]⟩ : BA), .string (⟨#[]⟩ : BA)]) ?_ 0 _ rfl; refine kB_ ?_; exact BK372.out) Tryz.underlying36 rfl (by kernel_rfl)) rfl ?_;exact ⟨e1_, hB_⟩
     ·obtain ⟨c17b0, c17b1⟩ := bn_ c17;obtain ⟨ji20, hji20⟩ : ∃ j_ : Int, (wrap64 (t374 + 2)) = j_ := ⟨_, rfl⟩;replace H : (if 0 ≤ (ji20) then (if (ji20) ≤ t377 then (if t377 ≤ (a0.size : Int) then ((strings_ContainsAny.f (a0.extract ((ji20) : Int).toNat (t377 : Int).toNat) (⟨#[9, 10]⟩ : BA)).bind fun t378 => (if t378 = true then (some ((⟨#[]⟩ : BA), (⟨#[]⟩ : BA), (-1))) else (some (t373, t376, wrap64 (t377 + 1))))) else (none)) else (none)) else (none)) = some (r1, r2, r3) := by first | (rw [hji20] at H; exact H) | (simp only [hji20] at H ⊢; exact H)
      (try rw [hji20] at A13)
      have hji20w : (IntKind.i64.wrap (t374 + 2)) = ji20 := (i64_w _).trans hji20;obtain ⟨c21, H⟩ := ifn_ H;have c21b0 := eq_true c21;have c21b1 := dE_ c21;clear c21;obtain ⟨c22, H⟩ := ifn_ H;have c22b0 := eq_true c22;have c22b1 := dE_ c22;clear c22;obtain ⟨c23, H⟩ := ifn_ H;have c23b0 := eq_true c23;have c23b1 := dE_ c23;clear c23;obtain ⟨t378, A24, H⟩ := ob_ H;(try dsimp only at H)
      by_cases c25 : t378 = true
      ·subst c25;rw [if_pos rfl] at H;obtain ⟨rfl, rfl, rfl⟩ := pj_ H;go_wp2_with (first | ((with_reducible refine gC_ 22 ?_); refine goesL_ (some 32) rfl rfl Tryz.func22 (by kernel_rfl) rfl #[.string a0, .int .i64 ji20, .string (⟨#[34]⟩ : BA)] rfl (by (try simp only [List.map_toArray, List.map_cons, List.map_nil]); first | done | (simp only [hji20]; rfl) | rfl | (simp only [List.length_drop, List.length_take]; rfl)) ?_; (with_reducible refine (impl_XmlText.calls kj3 a0 ji20 (⟨#[34]⟩ : BA) t376 t377 _ ?side1 ?side2 A13.out).mono ?_); (case side1 => first | exact hL | exact LibOk.below hL hB_); (case side2 => first | exact hE | exact LibErr.below hE hB_); rintro e w26 ⟨rfl, hb⟩; refine ⟨_, rfl, ?_⟩; replace BK372 := A_ (blk_below (g := gb372) (o := .cells #[.string (⟨#[]⟩ : BA), .string (⟨#[]⟩ : BA)] 36 (0, 0)) (blk_below BK372.out hR_) hb); replace HB := bS_ hb; clear hb) | (go_at_call 77; (with_reducible refine (strings_ContainsAny.calls (a0.extract ((ji20) : Int).toNat (t377 : Int).toNat) (⟨#[9, 10]⟩ : BA) true _ A24.out).mono ?_); rintro e w27 ⟨rfl, hb⟩; replace BK372 := A_ (blk_below (g := gb372) (o := .cells #[.string (⟨#[]⟩ : BA), .string (⟨#[]⟩ : BA)] 36 (0, 0)) (blk_below BK372.out hR_) hb); replace HB := bS_ hb; clear hb; obtain ⟨hcz28_0, hcz28_1, hfz28_0, hfz28_1⟩ := bk2_ BK372.out))
       refine bodyPost_ret (results_ct rfl _ _ gb372 36 #[.string (⟨#[]⟩ : BA), .string (⟨#[]⟩ : BA)] (0, 0) _ rfl (by refine kB_ ?_; refine blk_put (cs := #[.string (⟨#[]⟩ : BA), .string (⟨#[]⟩ : BA)]) ?_ 1 _ rfl; refine kB_ ?_; refine blk_put (cs := #[.string (⟨#[]⟩ : BA), .string (⟨#[]⟩ : BA)]) ?_ 0 _ rfl; refine kB_ ?_; exact BK372.out) Tryz.underlying36 rfl (by kernel_rfl)) rfl ?_;exact ⟨by first | rfl | (simp [errW_none, errW_some] <;> rfl) | (simp only [← hji20]; first | rfl | (simp [errW_none, errW_some] <;> rfl)) | (simp [*, errW_none, errW_some] <;> rfl), hB_⟩
      ·replace c25 := bF_ c25;subst c25;rw [if_neg nF_] at H;obtain ⟨rfl, rfl, rfl⟩ := pj_ H;go_wp2_with (first | ((with_reducible refine gC_ 22 ?_); refine goesL_ (some 32) rfl rfl Tryz.func22 (by kernel_rfl) rfl #[.string a0, .int .i64 ji20, .string (⟨#[34]⟩ : BA)] rfl (by (try simp only [List.map_toArray, List.map_cons, List.map_nil]); first | done | (simp only [hji20]; rfl) | rfl | (simp only [List.length_drop, List.length_take]; rfl)) ?_; (with_reducible refine (impl_XmlText.calls kj3 a0 ji20 (⟨#[34]⟩ : BA) t376 t377 _ ?side1 ?side2 A13.out).mono ?_); (case side1 => first | exact hL | exact LibOk.below hL hB_); (case side2 => first | exact hE | exact LibErr.below hE hB_); rintro e w29 ⟨rfl, hb⟩; refine ⟨_, rfl, ?_⟩; replace BK372 := A_ (blk_below (g := gb372) (o := .cells #[.string (⟨#[]⟩ : BA), .string (⟨#[]⟩ : BA)] 36 (0, 0)) (blk_below BK372.out hR_) hb); replace HB := bS_ hb; clear hb) | (go_at_call 77; (with_reducible refine (strings_ContainsAny.calls (a0.extract ((ji20) : Int).toNat (t377 : Int).toNat) (⟨#[9, 10]⟩ : BA) false _ A24.out).mono ?_); rintro e w30 ⟨rfl, hb⟩; replace BK372 := A_ (blk_below (g := gb372) (o := .cells #[.string (⟨#[]⟩ : BA), .string (⟨#[]⟩ : BA)] 36 (0, 0)) (blk_below BK372.out hR_) hb); replace HB := bS_ hb; clear hb; obtain ⟨hcz31_0, hcz31_1, hfz31_0, hfz31_1⟩ := bk2_ BK372.out))
       refine bodyPost_ret (results_ct rfl _ _ gb372 36 #[.string t373, .string t376] (0, 0) _ rfl (by refine kB_ ?_; refine blk_put (cs := #[.string t373, .string (⟨#[]⟩ : BA)]) ?_ 1 _ rfl; refine kB_ ?_; refine blk_put (cs := #[.string (⟨#[]⟩ : BA), .string (⟨#[]⟩ : BA)]) ?_ 0 _ rfl; refine kB_ ?_; exact BK372.out) Tryz.underlying36 rfl (by kernel_rfl)) rfl ?_;exact ⟨by first | rfl | (simp [errW_none, errW_some] <;> rfl) | (simp only [← hji20]; first | rfl | (simp [errW_none, errW_some] <;> rfl)) | (simp [*, errW_none, errW_some] <;> rfl), hB_⟩
def IsS93 (w0 W : World) (g : Nat) (f0 : BA) (f1 : Int) (f2 : Bool) : Prop := W.heap[g]? = some (.cells #[.string f0, .int .i64 f1, .bool f2] 93 (0, 0)) ∧ w0.heap.size ≤ g
theorem IsS93.grown {w0 W : World} {g : Nat} {f0 : BA} {f1 : Int} {f2 : Bool} {W1 : World} {row : Option Nat} (h : IsS93 w0 W g f0 f1 f2) (hw : W.grownBy W1 row) (hne : some g ≠ row) : IsS93 w0 W1 g f0 f1 f2 := by
 obtain ⟨hb, hg⟩ := h;exact ⟨blk_grown hb hw hne, hg⟩
theorem IsS93.kept {w0 W : World} {g : Nat} {f0 : BA} {f1 : Int} {f2 : Bool} {W1 : World} {S : Nat → Prop} (h : IsS93 w0 W g f0 f1 f2) (hk : Kept W W1 S) (hne : ¬ S g) : IsS93 w0 W1 g f0 f1 f2 := by
 obtain ⟨hb, hg⟩ := h;exact ⟨blk_kept hb hk hne, hg⟩
theorem IsS93.below {w0 W : World} {g : Nat} {f0 : BA} {f1 : Int} {f2 : Bool} {W1 : World} (h : IsS93 w0 W g f0 f1 f2) (hw : Below W.heap.size W W1) : IsS93 w0 W1 g f0 f1 f2 := h.grown (grown_of_below hw none) si_
theorem IsS93.alloc {w0 W : World} {g : Nat} {f0 : BA} {f1 : Int} {f2 : Bool} (h : IsS93 w0 W g f0 f1 f2) (o : Obj) : IsS93 w0 (W.alloc o) g f0 f1 f2 := h.below (bA9 (Below.refl _ _) o)
theorem IsS93.drewN {w0 W : World} {g : Nat} {f0 : BA} {f1 : Int} {f2 : Bool} (h : IsS93 w0 W g f0 f1 f2) (m : Nat) : IsS93 w0 (W.drewN m) g f0 f1 f2 := h
theorem IsS93.drew {w0 W : World} {g : Nat} {f0 : BA} {f1 : Int} {f2 : Bool} (h : IsS93 w0 W g f0 f1 f2) : IsS93 w0 W.drew g f0 f1 f2 := h
theorem IsS93.at_ {w0 W : World} {g : Nat} {f0 : BA} {f1 : Int} {f2 : Bool} {w' : World} {m : Nat} (hq : W.drewN m = w') (h : IsS93 w0 W g f0 f1 f2) : IsS93 w0 w' g f0 f1 f2 := by subst hq; exact IsS93.drewN h m
theorem IsS93.apart {w0 W : World} {g : Nat} {f0 : BA} {f1 : Int} {f2 : Bool} {α : Type} {d : Kd α} {e : Nat} {base : Nat} {ok : Nat → Prop} {v : Value} {xs : List α} (h : IsS93 w0 W g f0 f1 f2) (ho : d.R e W base ok v xs) (ht : ∀ q, q ∈ e :: d.E → q ≠ 93) : d.R e W base (fun k => ok k ∧ k ≠ g) v xs := by
 obtain ⟨hb, hg⟩ := h;exact Kd.R_types ho hb ht
theorem IsS93.own_ne {w0 W : World} {g : Nat} {f0 : BA} {f1 : Int} {f2 : Bool} {α : Type} {d : Kd α} {e : Nat} {base : Nat} {ok : Nat → Prop} {v : Value} {xs : List α} (h : IsS93 w0 W g f0 f1 f2) (ho : d.R e W base ok v xs) (ht : e ≠ 93) : some g ≠ v.ownBlock := by
 obtain ⟨hb, hg⟩ := h;exact Kd.R_ne ho hb ht
theorem IsS93.lt {w0 W : World} {g : Nat} {f0 : BA} {f1 : Int} {f2 : Bool} (h : IsS93 w0 W g f0 f1 f2) : g < W.heap.size := by
 obtain ⟨hb, hg⟩ := h;exact blk_lt hb
theorem IsS93.ge {w0 W : World} {g : Nat} {f0 : BA} {f1 : Int} {f2 : Bool} (h : IsS93 w0 W g f0 f1 f2) : w0.heap.size ≤ g := by
 obtain ⟨hb, hg⟩ := h;exact hg
theorem IsS93.ne_blk {w0 W : World} {g : Nat} {f0 : BA} {f1 : Int} {f2 : Bool} {a : Nat} {cs : Array Value} {t : TypeId} {fr : Nat × Nat} (h : IsS93 w0 W g f0 f1 f2) (hb2 : W.heap[a]? = some (.cells cs t fr)) (ht : t ≠ 93) : g ≠ a := by
 obtain ⟨hb, hg⟩ := h;rintro rfl;rw [hb] at hb2;injection hb2 with hb2
 injection hb2 with _ ht2
 exact ht ht2.symm
theorem IsS93.far {w0 W : World} {g : Nat} {f0 : BA} {f1 : Int} {f2 : Bool} {p : Addr} (h : IsS93 w0 W g f0 f1 f2) (hne : g ≠ p.block) (u : Value) : IsS93 w0 (W.setCell p u) g f0 f1 f2 := by
 obtain ⟨hb, hg⟩ := h;exact ⟨blk_far hb hne u, hg⟩
theorem cellS93_0 {W : World} {g : Nat} {f0 : BA} {f1 : Int} {f2 : Bool} (h : W.heap[g]? = some (.cells #[.string f0, .int .i64 f1, .bool f2] 93 (0, 0))) : W.cell? ⟨g, 0, none⟩ = some (.string f0) := (blk_cell h 0).trans rfl
theorem IsS93.set_0 {w0 W : World} {g : Nat} {f0 : BA} {f1 : Int} {f2 : Bool} (h : IsS93 w0 W g f0 f1 f2) (x : BA) : IsS93 w0 (W.setCell ⟨g, 0, none⟩ (.string x)) g x f1 f2 := by
 obtain ⟨hb, hg⟩ := h;exact ⟨by simpa using blk_set hb 0 (.string x), hg⟩
theorem cellS93_1 {W : World} {g : Nat} {f0 : BA} {f1 : Int} {f2 : Bool} (h : W.heap[g]? = some (.cells #[.string f0, .int .i64 f1, .bool f2] 93 (0, 0))) : W.cell? ⟨g, 1, none⟩ = some (.int .i64 f1) := (blk_cell h 1).trans rfl
theorem IsS93.set_1 {w0 W : World} {g : Nat} {f0 : BA} {f1 : Int} {f2 : Bool} (h : IsS93 w0 W g f0 f1 f2) (x : Int) : IsS93 w0 (W.setCell ⟨g, 1, none⟩ (.int .i64 x)) g f0 x f2 := by
 obtain ⟨hb, hg⟩ := h;exact ⟨by simpa using blk_set hb 1 (.int .i64 x), hg⟩
theorem cellS93_2 {W : World} {g : Nat} {f0 : BA} {f1 : Int} {f2 : Bool} (h : W.heap[g]? = some (.cells #[.string f0, .int .i64 f1, .bool f2] 93 (0, 0))) : W.cell? ⟨g, 2, none⟩ = some (.bool f2) := (blk_cell h 2).trans rfl
theorem IsS93.set_2 {w0 W : World} {g : Nat} {f0 : BA} {f1 : Int} {f2 : Bool} (h : IsS93 w0 W g f0 f1 f2) (x : Bool) : IsS93 w0 (W.setCell ⟨g, 2, none⟩ (.bool x)) g f0 f1 x := by
 obtain ⟨hb, hg⟩ := h;exact ⟨by simpa using blk_set hb 2 (.bool x), hg⟩
theorem IsS93.new (w0 W : World) (f0 : BA) (f1 : Int) (f2 : Bool) (hB : Below w0.heap.size w0 W) : IsS93 w0 (W.alloc (.cells #[.string f0, .int .i64 f1, .bool f2] 93)) W.heap.size f0 f1 f2 := ⟨by simpa using heap_alloc_new W _, hB.size⟩
def impl_reader_is.f (s0_0 : BA) (s0_1 : Int) (s0_2 : Bool) (a1 : BA) : Option (Bool × ByteArray × Int × Bool) := if s0_2 = true then (some (false, s0_0, s0_1, s0_2)) else (if 0 ≤ s0_1 then (if s0_1 ≤ (s0_0.size : Int) then ((strings_HasPrefix.f (s0_0.extract (s0_1 : Int).toNat s0_0.size) a1).bind fun t560 => (some (t560, s0_0, s0_1, s0_2))) else (none)) else (none))
theorem impl_reader_is.calls (g : Nat) (s0_0 : BA) (s0_1 : Int) (s0_2 : Bool) (a1 : BA) (r1 : Bool) (r2 : BA) (r3 : Int) (r4 : Bool) (w0 w : World) (hI : IsS93 w0 w g s0_0 s0_1 s0_2) (hB : Below w0.heap.size w0 w) (h : impl_reader_is.f s0_0 s0_1 s0_2 a1 = some (r1, r2, r3, r4)) :
  Calls Tryz.prog 95 #[.pointer (some ⟨g, 0, none⟩), .string a1] w fun e w' => e = .returned (.bool r1) ∧ IsS93 w0 w' g r2 r3 r4 ∧ Below w0.heap.size w0 w' ∧ KeepBut w w' g none := by
 have HI0 := A_ hI;have HK := A_ (KeepBut.refl w g none);have HL := A_ hB.size;clear hI;have HW0 := A_ hB.size;have HB := A_ hB;clear hB;have H : (if s0_2 = true then (some (false, s0_0, s0_1, s0_2)) else (if 0 ≤ s0_1 then (if s0_1 ≤ (s0_0.size : Int) then ((strings_HasPrefix.f (s0_0.extract (s0_1 : Int).toNat s0_0.size) a1).bind fun t560 => (some (t560, s0_0, s0_1, s0_2))) else (none)) else (none))) = some (r1, r2, r3, r4) := h;clear h;by_cases c3 : s0_2 = true
 ·subst c3;rw [if_pos rfl] at H;simp only [Option.some.injEq, Prod.mk.injEq] at H;obtain ⟨rfl, rfl, rfl, rfl⟩ := H;obtain ⟨HGz4, hgz4⟩ := HI0.out;have hcz4_0 := cellS93_0 HGz4;have hcz4_1 := cellS93_1 HGz4;have hcz4_2 := cellS93_2 HGz4;have hfz4_0 := blk_frozen HGz4 0;have hfz4_1 := blk_frozen HGz4 1;have hfz4_2 := blk_frozen HGz4 2;clear HGz4 hgz4;go_enter Tryz.func95, Tryz.ntmps95
  go_wp2
  repeat (go_quiet (fail); try go_wp2)
  go_ret
  exact ⟨e1_, by repeat (first | (with_reducible first | exact HI0.out | apply IsS93.alloc | apply IsS93.drewN | apply IsS93.drew | apply IsS93.set_0 | apply IsS93.set_1 | apply IsS93.set_2) | exact HI0.out), by repeat (first | (with_reducible first | exact HB.out | apply bA9 | apply bN9 | apply bD9 | refine below_set ?_ (IsS93.ge HI0.out)) | exact HB.out), by repeat (first | (with_reducible first | exact HK.out | apply KeepBut.set_ | apply keep_drewN | apply keep_drew | apply keep_alloc) | exact HK.out)⟩
 ·replace c3 := bF_ c3;subst c3;rw [if_neg nF_] at H;obtain ⟨c5, H⟩ := ifn_ H;have c5b0 := eq_true c5;have c5b1 := dE_ c5;clear c5;obtain ⟨c6, H⟩ := ifn_ H;have c6b0 := eq_true c6;have c6b1 := dE_ c6;clear c6;obtain ⟨t560, A7, H⟩ := ob_ H;(try dsimp only at H)
  simp only [Option.some.injEq, Prod.mk.injEq] at H;obtain ⟨rfl, rfl, rfl, rfl⟩ := H;obtain ⟨HGz8, hgz8⟩ := HI0.out;have hcz8_0 := cellS93_0 HGz8;have hcz8_1 := cellS93_1 HGz8;have hcz8_2 := cellS93_2 HGz8;have hfz8_0 := blk_frozen HGz8 0;have hfz8_1 := blk_frozen HGz8 1;have hfz8_2 := blk_frozen HGz8 2;clear HGz8 hgz8;go_enter Tryz.func95, Tryz.ntmps95
  go_wp2_with (first | (go_at_call 76; (with_reducible refine (strings_HasPrefix.calls (s0_0.extract (s0_1 : Int).toNat s0_0.size) a1 t560 _ A7.out).mono ?_); rintro e w' ⟨rfl, ⟨nd, rfl⟩⟩; (try exact dd_)))
  repeat (go_quiet (first | (go_at_call 76; (with_reducible refine (strings_HasPrefix.calls (s0_0.extract (s0_1 : Int).toNat s0_0.size) a1 t560 _ A7.out).mono ?_); rintro e w' ⟨rfl, ⟨nd, rfl⟩⟩; (try exact dd_))); try go_wp2_with (first | (go_at_call 76; (with_reducible refine (strings_HasPrefix.calls (s0_0.extract (s0_1 : Int).toNat s0_0.size) a1 t560 _ A7.out).mono ?_); rintro e w' ⟨rfl, ⟨nd, rfl⟩⟩; (try exact dd_))))
  go_ret
  exact ⟨e1_, by repeat (first | (with_reducible first | exact HI0.out | apply IsS93.alloc | apply IsS93.drewN | apply IsS93.drew | apply IsS93.set_0 | apply IsS93.set_1 | apply IsS93.set_2) | exact HI0.out), by repeat (first | (with_reducible first | exact HB.out | apply bA9 | apply bN9 | apply bD9 | refine below_set ?_ (IsS93.ge HI0.out)) | exact HB.out), by repeat (first | (with_reducible first | exact HK.out | apply KeepBut.set_ | apply keep_drewN | apply keep_drew | apply keep_alloc) | exact HK.out)⟩
end Go.Proofs.YtkmmoheeoblmnaaGreatDoor.A
