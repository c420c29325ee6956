-- joined by wip/tools/shake.py
import Derived.Test.YtkbbfeckieckoaaGreatDoorVScW9
set_option maxHeartbeats 16000000
set_option maxRecDepth 100000
namespace Go.Proofs.YtkbbfeckieckoaaGreatDoor.A
open Go.RowKit Go.Proofs.YtkbbfeckieckoaaGreatDoorW.PrintWords Go.Proofs.YtkbbfeckieckoaaGreatDoorW.PrintLast Go.Proofs.YtkbbfeckieckoaaGreatDoorW.PrintMore
attribute [local go_sem] max2_int min2_int max_two min_two max_three min_three max_four min_four
set_option linter.unusedVariables false
set_option linter.unusedSimpArgs false
def errW : Option Int → Value
 | none => .nilIface
 | some c => .iface 0 (.int .i64 c)
theorem errW_none : errW none = .nilIface := rfl
theorem errW_some (c : Int) : errW (some c) = .iface 0 (.int .i64 c) := rfl
theorem info3 : (Tryz.prog.info? 3).map (fun i => (i.zero, i.size, i.bytes)) = some (some (.int .i64 0), 1, 8) := by kernel_rfl
theorem info5 : (Tryz.prog.info? 5).map (fun i => (i.zero, i.size, i.bytes)) = some (some (.int .u8 0), 1, 1) := by kernel_rfl
theorem info84 : (Tryz.prog.info? 84).map (fun i => (i.zero, i.size, i.bytes)) = some (some (.agg #[(.string ⟨#[]⟩), (.string ⟨#[]⟩)]), 2, 32) := by kernel_rfl
structure S84 where
 f0 : ByteArray
 f1 : ByteArray
def z84 : S84 := ⟨(⟨#[]⟩ : BA), (⟨#[]⟩ : BA)⟩
def k84 : Kd S84 := Kd.iso (Kd.pair Kd.string Kd.string) (fun x : S84 => (x.f0, x.f1))
theorem k84_open {w : World} {x : S84} {cs : List Value} (h : k84.K w x cs) : cs = [.string x.f0, .string x.f1] := by
 obtain ⟨_, _, rfl, rfl, rfl⟩ := h;exact rfl
theorem k84_openM {w : World} {base : Nat} {ok : Nat → Prop} {x : S84} {cs : List Value} (h : k84.M w base ok x cs) : cs = [.string x.f0, .string x.f1] := by
 obtain ⟨_, _, rfl, rfl, rfl⟩ := h;exact rfl
theorem k84_mkM (w : World) (base : Nat) (ok : Nat → Prop) (x : S84)  : k84.M w base ok x [.string x.f0, .string x.f1] := ⟨[.string x.f0], [.string x.f1], rfl, rfl, rfl⟩
def rd_T84 (xs : List S84) (i : Int) : S84 := xs.getD i.toNat z84
theorem at_T84 {w : World} {A : Option Addr} {n : Nat} {xs : List S84} (h : Kd.C k84 w A n xs) (i : Int) (h0 : 0 ≤ i) (h1 : i < n) : ∃ ad , A = some ad ∧ w.cell? (ad.add (i.toNat * 2)) = some (.string (rd_T84 xs i).f0) ∧ w.cell? ⟨(ad.add (i.toNat * 2)).block, (ad.add (i.toNat * 2)).off + 1, none⟩ = some (.string (rd_T84 xs i).f1) := by
 obtain ⟨ad, c, e, _, hK, hc0⟩ := Kd.C_get h z84 i h0 h1;have hc : ∀ j u, c[j]? = some u → w.cell? (ad.add (i.toNat * 2 + j)) = some u := hc0;obtain rfl := k84_open hK;exact ⟨ad, e, hc 0 _ rfl, by rw [← add_field _ _ 1 om_]; exact hc 1 _ rfl⟩
theorem aW84_ {w w1 : World} {A : Option Addr} {n : Nat} {xs : List S84} (hb : Below w.heap.size w w1) (h : Kd.C k84 w A n xs) (i : Int) (h0 : decide (0 ≤ i) = true := by first | (with_reducible assumption) | assumption) (h1 : decide (i < (n : Int)) = true := by first | (with_reducible assumption) | assumption) : (0 ≤ i) = True ∧ (i < (n : Int)) = True ∧ ∃ ad, A = some ad ∧ w.cell? (ad.add (i.toNat * 2)) = some (.string (rd_T84 xs i).f0) ∧ w.cell? ⟨(ad.add (i.toNat * 2)).block, (ad.add (i.toNat * 2)).off + 1, none⟩ = some (.string (rd_T84 xs i).f1) ∧ w1.cell? (ad.add (i.toNat * 2)) = some (.string (rd_T84 xs i).f0) ∧ w1.cell? ⟨(ad.add (i.toNat * 2)).block, (ad.add (i.toNat * 2)).off + 1, none⟩ = some (.string (rd_T84 xs i).f1) := by
 obtain ⟨ad, e, x0, x1⟩ := at_T84 h i (of_decide_eq_true h0) (of_decide_eq_true h1);exact ⟨eq_true (of_decide_eq_true h0), eq_true (of_decide_eq_true h1), ad, e, x0, x1, cB_ hb x0, cB_ hb x1⟩
structure S43 where
 f0 : Int
 f1 : ByteArray
 f2 : (List S84)
 f3 : ByteArray
 f4 : Bool
def z43 : S43 := ⟨(0 : Int), (⟨#[]⟩ : BA), ([] : List S84), (⟨#[]⟩ : BA), false⟩
def k43 : Kd S43 := Kd.iso (Kd.pair (Kd.int .i64) (Kd.pair Kd.string (Kd.pair (Kd.slice 84 k84) (Kd.pair Kd.string Kd.bool)))) (fun x : S43 => (x.f0, x.f1, x.f2, x.f3, x.f4))
theorem k43_open {w : World} {x : S43} {cs : List Value} (h : k43.K w x cs) : ∃ A2 c2, cs = [.int .i64 x.f0, .string x.f1, .slice A2 x.f2.length c2, .string x.f3, .bool x.f4] ∧ x.f2.length ≤ c2 ∧ k84.C w A2 x.f2.length x.f2 := by
 obtain ⟨_, _, rfl, rfl, ⟨_, _, rfl, rfl, ⟨_, _, rfl, ⟨A2, c2, rfl, l2, g2⟩, ⟨_, _, rfl, rfl, rfl⟩⟩⟩⟩ := h;exact ⟨A2, c2, rfl, l2, g2⟩
theorem k43_openM {w : World} {base : Nat} {ok : Nat → Prop} {x : S43} {cs : List Value} (h : k43.M w base ok x cs) : ∃ v2, cs = [.int .i64 x.f0, .string x.f1, v2, .string x.f3, .bool x.f4] ∧ k84.R 84 w base ok v2 x.f2 := by
 obtain ⟨_, _, rfl, rfl, ⟨_, _, rfl, rfl, ⟨_, _, rfl, ⟨v2, rfl, g2⟩, ⟨_, _, rfl, rfl, rfl⟩⟩⟩⟩ := h;exact ⟨v2, rfl, g2⟩
theorem k43_mkM (w : World) (base : Nat) (ok : Nat → Prop) (x : S43) {v2 : Value} (g2 : k84.R 84 w base ok v2 x.f2) : k43.M w base ok x [.int .i64 x.f0, .string x.f1, v2, .string x.f3, .bool x.f4] := ⟨[.int .i64 x.f0], [.string x.f1, v2, .string x.f3, .bool x.f4], rfl, rfl, ⟨[.string x.f1], [v2, .string x.f3, .bool x.f4], rfl, rfl, ⟨[v2], [.string x.f3, .bool x.f4], rfl, ⟨v2, rfl, g2⟩, ⟨[.string x.f3], [.bool x.f4], rfl, rfl, rfl⟩⟩⟩⟩
def rd_T43 (xs : List S43) (i : Int) : S43 := xs.getD i.toNat z43
theorem at_T43 {w : World} {A : Option Addr} {n : Nat} {xs : List S43} (h : Kd.C k43 w A n xs) (i : Int) (h0 : 0 ≤ i) (h1 : i < n) : ∃ ad A2 c2, A = some ad ∧ w.cell? (ad.add (i.toNat * 5)) = some (.int .i64 (rd_T43 xs i).f0) ∧ w.cell? ⟨(ad.add (i.toNat * 5)).block, (ad.add (i.toNat * 5)).off + 1, none⟩ = some (.string (rd_T43 xs i).f1) ∧ w.cell? ⟨(ad.add (i.toNat * 5)).block, (ad.add (i.toNat * 5)).off + 2, none⟩ = some (.slice A2 (rd_T43 xs i).f2.length c2) ∧ w.cell? ⟨(ad.add (i.toNat * 5)).block, (ad.add (i.toNat * 5)).off + 3, none⟩ = some (.string (rd_T43 xs i).f3) ∧ w.cell? ⟨(ad.add (i.toNat * 5)).block, (ad.add (i.toNat * 5)).off + 4, none⟩ = some (.bool (rd_T43 xs i).f4) ∧ (rd_T43 xs i).f2.length ≤ c2 ∧ k84.C w A2 (rd_T43 xs i).f2.length (rd_T43 xs i).f2 := by
 obtain ⟨ad, c, e, _, hK, hc0⟩ := Kd.C_get h z43 i h0 h1;have hc : ∀ j u, c[j]? = some u → w.cell? (ad.add (i.toNat * 5 + j)) = some u := hc0;obtain ⟨A2, c2, rfl, l2, g2⟩ := k43_open hK;exact ⟨ad, A2, c2, e, hc 0 _ rfl, by rw [← add_field _ _ 1 om_]; exact hc 1 _ rfl, by rw [← add_field _ _ 2 om_]; exact hc 2 _ rfl, by rw [← add_field _ _ 3 om_]; exact hc 3 _ rfl, by rw [← add_field _ _ 4 om_]; exact hc 4 _ rfl, l2, g2⟩
theorem aW43_ {w w1 : World} {A : Option Addr} {n : Nat} {xs : List S43} (hb : Below w.heap.size w w1) (h : Kd.C k43 w A n xs) (i : Int) (h0 : decide (0 ≤ i) = true := by first | (with_reducible assumption) | assumption) (h1 : decide (i < (n : Int)) = true := by first | (with_reducible assumption) | assumption) : (0 ≤ i) = True ∧ (i < (n : Int)) = True ∧ ∃ ad A2 c2, A = some ad ∧ w.cell? (ad.add (i.toNat * 5)) = some (.int .i64 (rd_T43 xs i).f0) ∧ w.cell? ⟨(ad.add (i.toNat * 5)).block, (ad.add (i.toNat * 5)).off + 1, none⟩ = some (.string (rd_T43 xs i).f1) ∧ w.cell? ⟨(ad.add (i.toNat * 5)).block, (ad.add (i.toNat * 5)).off + 2, none⟩ = some (.slice A2 (rd_T43 xs i).f2.length c2) ∧ w.cell? ⟨(ad.add (i.toNat * 5)).block, (ad.add (i.toNat * 5)).off + 3, none⟩ = some (.string (rd_T43 xs i).f3) ∧ w.cell? ⟨(ad.add (i.toNat * 5)).block, (ad.add (i.toNat * 5)).off + 4, none⟩ = some (.bool (rd_T43 xs i).f4) ∧ w1.cell? (ad.add (i.toNat * 5)) = some (.int .i64 (rd_T43 xs i).f0) ∧ w1.cell? ⟨(ad.add (i.toNat * 5)).block, (ad.add (i.toNat * 5)).off + 1, none⟩ = some (.string (rd_T43 xs i).f1) ∧ w1.cell? ⟨(ad.add (i.toNat * 5)).block, (ad.add (i.toNat * 5)).off + 2, none⟩ = some (.slice A2 (rd_T43 xs i).f2.length c2) ∧ w1.cell? ⟨(ad.add (i.toNat * 5)).block, (ad.add (i.toNat * 5)).off + 3, none⟩ = some (.string (rd_T43 xs i).f3) ∧ w1.cell? ⟨(ad.add (i.toNat * 5)).block, (ad.add (i.toNat * 5)).off + 4, none⟩ = some (.bool (rd_T43 xs i).f4) ∧ As9 ((rd_T43 xs i).f2.length ≤ c2) ∧ As9 (k84.C w A2 (rd_T43 xs i).f2.length (rd_T43 xs i).f2) := by
 obtain ⟨ad, A2, c2, e, x0, x1, x2, x3, x4, y0, y1⟩ := at_T43 h i (of_decide_eq_true h0) (of_decide_eq_true h1);exact ⟨eq_true (of_decide_eq_true h0), eq_true (of_decide_eq_true h1), ad, A2, c2, e, x0, x1, x2, x3, x4, cB_ hb x0, cB_ hb x1, cB_ hb x2, cB_ hb x3, cB_ hb x4, ⟨y0⟩, ⟨y1⟩⟩
def spec_Lines.l0 : Nat → ByteArray → List Int → Int → Option (ByteArray)
 | 0, _, _, _ => none
 | k + 1, x0, x3, x4 => if x4 < (x0.size : Int) then (if 0 ≤ x4 then (if (bt x0 x4) = 13 then (if x3.length < 140737488355328 then ((some (x3 ++ [10] : List Int)).bind fun y104 => (if (wrap64 (x4 + 1)) < (x0.size : Int) then (if 0 ≤ (wrap64 (x4 + 1)) then (if (bt x0 (wrap64 (x4 + 1))) = 10 then (spec_Lines.l0 k x0 y104 (wrap64 ((wrap64 (x4 + 1)) + 1))) else (spec_Lines.l0 k x0 y104 (wrap64 (x4 + 1)))) else (none)) else (spec_Lines.l0 k x0 y104 (wrap64 (x4 + 1))))) else (none)) else (if x3.length < 140737488355328 then (spec_Lines.l0 k x0 (x3 ++ [bt x0 x4]) (wrap64 (x4 + 1))) else (none))) else (none)) else (some (strOfNums x3))
def spec_Lines.f (k : Nat) (a0 : BA) : Option (ByteArray) := spec_Lines.l0 k a0 (([] : List Int)) 0
theorem spec_Lines.mono_l : ∀ k, (∀ y0 y1 y2, LeO (spec_Lines.l0 k y0 y1 y2) (spec_Lines.l0 (k + 1) y0 y1 y2))
 | 0 => fun _ _ _ r h => by simp [spec_Lines.l0] at h
 | k + 1 => by
  have ih0 := spec_Lines.mono_l k
  ·intro y0 y1 y2;unfold spec_Lines.l0;with_reducible repeat' first | exact ih0 _ _ _ | apply LeO.refl | apply LeO.none | apply LeO.ite | apply LeO.bind | intro
theorem spec_Lines.mono : ∀ a0 k, LeO (spec_Lines.f k a0) (spec_Lines.f (k + 1) a0) := by
 intro a0 k;have ih0 := spec_Lines.mono_l k;unfold spec_Lines.f;with_reducible repeat' first | exact ih0 _ _ _ | apply LeO.refl | apply LeO.none | apply LeO.ite | apply LeO.bind | intro
theorem spec_Lines.calls (k : Nat) (a0 : BA) (r : BA) (w : World) (h : spec_Lines.f k a0 = some r) :
  Calls Tryz.prog 18 #[.string a0] w fun e w' => e = .returned (.string r) ∧ Below w.heap.size w w' := by
 have HB := A_ (Below.refl w.heap.size w);have H : (spec_Lines.l0 k a0 (([] : List Int)) 0) = some r := h;clear h;obtain ⟨y101, hy101⟩ : ∃ y_ : List Int, y_ = (([] : List Int)) := ⟨_, rfl⟩;replace H : (spec_Lines.l0 k a0 y101 0) = some r := by first | (rw [hy101]; with_reducible exact H) | (have H2_ := (Option.bind_some _ _).symm.trans H; rw [hy101]; with_reducible exact H2_) | (have H2_ := (Option.bind_some _ _).symm.trans H; with_reducible exact H2_) | with_reducible exact H | (rw [hy101]; exact H) | exact H
 have Ny101 := A_ hy101;clear hy101;have H' := A_ H;clear H;go_enter Tryz.func18, Tryz.ntmps18
 go_wp2_with (first | ((with_reducible refine gate_dst (N := 5) rfl ?_); refine rl_ (Kd.int .u8) 5 5 [] [] ?_; intro v102 w2 ho3 hb hg_ hnew_; clear hg_ hnew_; (first | rw [← Ny101.out] at ho3 | (simp only [Int.reduceToNat] at ho3; rw [← Ny101.out] at ho3)); have HO103 := A_ (Kd.R_lower ho3 (below_size hB_)); replace HB := bS_ hb; clear hb ho3))
 go_loopg [3, 4] k (fun kq v3 v4 w' => ∃ (x3_1 : List Int) (x4_1 : Int), v4 = .int .i64 x4_1 ∧ As9 (spec_Lines.l0 kq a0 x3_1 x4_1 = some r) ∧ As9 (kq ≤ k) ∧ As9 (Kd.R (Kd.int .u8) 5 w' w.heap.size (fun _ => True) v3 x3_1) ∧ As9 (Below w.heap.size w w'))
 case atStart => exact ⟨(y101), (0), e2_, H', ⟨Nat.le_refl _⟩, ⟨kQ_ HO103.out⟩, ⟨hB_⟩⟩
 case round =>
  clear H';try clear c1
  try clear p2
  obtain ⟨x3_1, x4_1, rfl, HA, HK1, HO_3, HB⟩ := hrel;cases gk with
  | zero => exact absurd HA.out (by simp [spec_Lines.l0])
  | succ k1 =>
   have H := HA.out;clear HA;simp only [spec_Lines.l0] at H;rcases ic_ H with ⟨c4, H⟩ | ⟨c4, H⟩
   ·have c4b0 := dE_ c4;clear c4;obtain ⟨c5, H⟩ := ifn_ H;have c5b0 := dE_ c5;clear c5;rcases ic_ H with ⟨c7, H⟩ | ⟨c7, H⟩
    ·obtain ⟨c7b0, c7b1⟩ := be_ c7;clear c7;obtain ⟨c8, H⟩ := ifn_ H;have LMc8 := A_ c8;clear c8;obtain ⟨y104, hy104⟩ : ∃ y_ : List Int, y_ = (x3_1 ++ [10]) := ⟨_, rfl⟩;replace H : (if (wrap64 (x4_1 + 1)) < (a0.size : Int) then (if 0 ≤ (wrap64 (x4_1 + 1)) then (if (bt a0 (wrap64 (x4_1 + 1))) = 10 then (spec_Lines.l0 k1 a0 y104 (wrap64 ((wrap64 (x4_1 + 1)) + 1))) else (spec_Lines.l0 k1 a0 y104 (wrap64 (x4_1 + 1)))) else (none)) else (spec_Lines.l0 k1 a0 y104 (wrap64 (x4_1 + 1)))) = some r := by first | (rw [hy104]; with_reducible exact H) | (have H2_ := (Option.bind_some _ _).symm.trans H; rw [hy104]; with_reducible exact H2_) | (have H2_ := (Option.bind_some _ _).symm.trans H; with_reducible exact H2_) | with_reducible exact H | (rw [hy104]; exact H) | exact H
     have Ny104 := A_ hy104;clear hy104;rcases ic_ H with ⟨c9, H⟩ | ⟨c9, H⟩
     ·have c9b0 := dE_ c9;clear c9;obtain ⟨ji10, hji10⟩ : ∃ j_ : Int, (wrap64 (x4_1 + 1)) = j_ := ⟨_, rfl⟩;replace H : (if 0 ≤ (ji10) then (if (bt a0 (ji10)) = 10 then (spec_Lines.l0 k1 a0 y104 (wrap64 ((ji10) + 1))) else (spec_Lines.l0 k1 a0 y104 ji10)) else (none)) = some r := by first | (rw [hji10] at H; exact H) | (simp only [hji10] at H ⊢; exact H)
      (try rw [hji10] at c9b0)
      have hji10w : (IntKind.i64.wrap (x4_1 + 1)) = ji10 := (i64_w _).trans hji10;obtain ⟨c11, H⟩ := ifn_ H;have c11b0 := dE_ c11;clear c11;rcases ic_ H with ⟨c13, H⟩ | ⟨c13, H⟩
      ·obtain ⟨c13b0, c13b1⟩ := be_ c13;clear c13;have H' := A_ H;clear H;have p6 : 0 ≤ (x4_1 : Int) := dT_;have q6 : x4_1 < (a0.size : Int) := dT_;have hx6 := bt_at a0 x4_1;replace p6 := eq_true p6;replace q6 := eq_true q6;go_wp2_with (first | ((with_reducible refine gate_builtin (b := .append) (xs := #[.tmp 22, .tmp 23]) rfl ?_); at_builtin; refine Kd.R_append (Kd.int .u8) (w0 := w) w.heap.size rfl (.tmp 22) (.tmp 23) 27 5 (.int .u8 0) 1 rfl Tryz.underlying27 info5 rfl de_ om_ u3 x3_1 10 [.int .u8 10] (fun _ => True) (fun _ => False) rfl rfl ?aP (fun _ hk => hk.elim) ?aF ?aO ?aB ?aS ?aL ?_; (case aP => exact rfl); (case aB => exact hB_); (case aF => exact (fun _ _ => trivial)); (case aO => exact (kQ_ HO_3.out)); (case aS => exact (below_size hB_)); (case aL => have := LMc8.out; omega); intro v105 w14 ho hb hg hat; rw [← Ny104.out] at ho; replace HB := A_ (hb); have HO106 := A_ (ho); clear HO_3; clear ho hb hg hat; have p12 : 0 ≤ ((ji10) : Int) := dT_; have q12 : (ji10) < (a0.size : Int) := dT_; have hx12 := bt_at a0 (ji10); replace p12 := eq_true p12; replace q12 := eq_true q12))
       go_roundg k1
       case measure => have := HK1.out; omega
       case rel => exact ⟨(y104), (wrap64 ((ji10) + 1)), (by first | rfl | (simp; done) | (simp only [← hji10] <;> (first | rfl | simp)) | (simp [*]; done)), H', ⟨by have := HK1.out; omega⟩, ⟨kQ_ HO106.out⟩, ⟨hB_⟩⟩
      ·obtain ⟨c13b0, c13b1⟩ := bn_ c13;have H' := A_ H;clear H;have p6 : 0 ≤ (x4_1 : Int) := dT_;have q6 : x4_1 < (a0.size : Int) := dT_;have hx6 := bt_at a0 x4_1;replace p6 := eq_true p6;replace q6 := eq_true q6;go_wp2_with (first | ((with_reducible refine gate_builtin (b := .append) (xs := #[.tmp 22, .tmp 23]) rfl ?_); at_builtin; refine Kd.R_append (Kd.int .u8) (w0 := w) w.heap.size rfl (.tmp 22) (.tmp 23) 27 5 (.int .u8 0) 1 rfl Tryz.underlying27 info5 rfl de_ om_ u3 x3_1 10 [.int .u8 10] (fun _ => True) (fun _ => False) rfl rfl ?aP (fun _ hk => hk.elim) ?aF ?aO ?aB ?aS ?aL ?_; (case aP => exact rfl); (case aB => exact hB_); (case aF => exact (fun _ _ => trivial)); (case aO => exact (kQ_ HO_3.out)); (case aS => exact (below_size hB_)); (case aL => have := LMc8.out; omega); intro v105 w15 ho hb hg hat; rw [← Ny104.out] at ho; replace HB := A_ (hb); have HO106 := A_ (ho); clear HO_3; clear ho hb hg hat; have p12 : 0 ≤ ((ji10) : Int) := dT_; have q12 : (ji10) < (a0.size : Int) := dT_; have hx12 := bt_at a0 (ji10); replace p12 := eq_true p12; replace q12 := eq_true q12))
       go_roundg k1
       case measure => have := HK1.out; omega
       case rel => exact ⟨(y104), (ji10), (by first | rfl | (simp; done) | (simp only [← hji10] <;> (first | rfl | simp)) | (simp [*]; done)), H', ⟨by have := HK1.out; omega⟩, ⟨kQ_ HO106.out⟩, ⟨hB_⟩⟩
     ·have c9b0 := dF_ c9;clear c9;have H' := A_ H;clear H;have p6 : 0 ≤ (x4_1 : Int) := dT_;have q6 : x4_1 < (a0.size : Int) := dT_;have hx6 := bt_at a0 x4_1;replace p6 := eq_true p6;replace q6 := eq_true q6;go_wp2_with (first | ((with_reducible refine gate_builtin (b := .append) (xs := #[.tmp 22, .tmp 23]) rfl ?_); at_builtin; refine Kd.R_append (Kd.int .u8) (w0 := w) w.heap.size rfl (.tmp 22) (.tmp 23) 27 5 (.int .u8 0) 1 rfl Tryz.underlying27 info5 rfl de_ om_ u3 x3_1 10 [.int .u8 10] (fun _ => True) (fun _ => False) rfl rfl ?aP (fun _ hk => hk.elim) ?aF ?aO ?aB ?aS ?aL ?_; (case aP => exact rfl); (case aB => exact hB_); (case aF => exact (fun _ _ => trivial)); (case aO => exact (kQ_ HO_3.out)); (case aS => exact (below_size hB_)); (case aL => have := LMc8.out; omega); intro v105 w16 ho hb hg hat; rw [← Ny104.out] at ho; replace HB := A_ (hb); have HO106 := A_ (ho); clear HO_3; clear ho hb hg hat))
      go_roundg k1
      case measure => have := HK1.out; omega
      case rel => exact ⟨(y104), (wrap64 (x4_1 + 1)), e2_, H', ⟨by have := HK1.out; omega⟩, ⟨kQ_ HO106.out⟩, ⟨hB_⟩⟩
    ·obtain ⟨c7b0, c7b1⟩ := bn_ c7;obtain ⟨c18, H⟩ := ifn_ H;have LMc18 := A_ c18;clear c18;obtain ⟨y107, hy107⟩ : ∃ y_ : List Int, y_ = (x3_1 ++ [bt a0 x4_1]) := ⟨_, rfl⟩;replace H : (spec_Lines.l0 k1 a0 y107 (wrap64 (x4_1 + 1))) = some r := by first | (rw [hy107]; with_reducible exact H) | (have H2_ := (Option.bind_some _ _).symm.trans H; rw [hy107]; with_reducible exact H2_) | (have H2_ := (Option.bind_some _ _).symm.trans H; with_reducible exact H2_) | with_reducible exact H | (rw [hy107]; exact H) | exact H
     have Ny107 := A_ hy107;clear hy107;have H' := A_ H;clear H;have p6 : 0 ≤ (x4_1 : Int) := dT_;have q6 : x4_1 < (a0.size : Int) := dT_;have hx6 := bt_at a0 x4_1;replace p6 := eq_true p6;replace q6 := eq_true q6;have p17 : 0 ≤ (x4_1 : Int) := dT_;have q17 : x4_1 < (a0.size : Int) := dT_;have hx17 := bt_at a0 x4_1;replace p17 := eq_true p17;replace q17 := eq_true q17;go_wp2_with (first | ((with_reducible refine gate_builtin (b := .append) (xs := #[.tmp 16, .tmp 20]) rfl ?_); at_builtin; refine Kd.R_append (Kd.int .u8) (w0 := w) w.heap.size rfl (.tmp 16) (.tmp 20) 27 5 (.int .u8 0) 1 rfl Tryz.underlying27 info5 rfl de_ om_ u3 x3_1 (bt a0 x4_1) [.int .u8 (bt a0 x4_1)] (fun _ => True) (fun _ => False) rfl rfl ?aP (fun _ hk => hk.elim) ?aF ?aO ?aB ?aS ?aL ?_; (case aP => exact rfl); (case aB => exact hB_); (case aF => exact (fun _ _ => trivial)); (case aO => exact (kQ_ HO_3.out)); (case aS => exact (below_size hB_)); (case aL => have := LMc18.out; omega); intro v108 w19 ho hb hg hat; rw [← Ny107.out] at ho; replace HB := A_ (hb); have HO109 := A_ (ho); clear HO_3; clear ho hb hg hat))
     go_roundg k1
     case measure => have := HK1.out; omega
     case rel => exact ⟨(y107), (wrap64 (x4_1 + 1)), e2_, H', ⟨by have := HK1.out; omega⟩, ⟨kQ_ HO109.out⟩, ⟨hB_⟩⟩
   ·have c4b0 := dF_ c4;clear c4;obtain rfl := sI_ H;have hcv20 := own_string (P := Tryz.prog) Tryz.underlying27 Tryz.underlying5 Tryz.underlying9 (Kd.own_of_R HO_3.out);go_wp2
    go_ret
    exact ⟨e1_, hB_⟩
def spec_l1In.f (a0 : Int) (a1 : Int) (a2 : Int) : Option (Bool) := if a0 ≥ a1 then (some (decide (a0 ≤ a2))) else (some false)
theorem spec_l1In.calls (a0 : Int) (a1 : Int) (a2 : Int) (r : Bool) (w : World) (h : spec_l1In.f a0 a1 a2 = some r) :
  Calls Tryz.prog 95 #[.int .i64 a0, .int .i64 a1, .int .i64 a2] w fun e w' => e = .returned (.bool r) ∧ Drawn0 w w' := by
 have H : (if a0 ≥ a1 then (some (decide (a0 ≤ a2))) else (some false)) = some r := h;clear h;rcases ic_ H with ⟨c4, H⟩ | ⟨c4, H⟩
 ·have c4b0 : decide (a1 ≤ a0) = true := dE_ c4;clear c4;obtain rfl := sI_ H;go_enter Tryz.func95, Tryz.ntmps95
  go_wp2
  go_ret
  exact ⟨e2_, d0_⟩
 ·have c4b0 : decide (a1 ≤ a0) = false := dF_ c4;clear c4;obtain rfl := sI_ H;go_enter Tryz.func95, Tryz.ntmps95
  go_wp2
  go_ret
  exact ⟨e2_, d0_⟩
def spec_SignOk.f (a0 : Int) : Option (Bool) := (spec_l1In.f a0 0 1114111).bind fun t110 => (if t110 = true then ((spec_l1In.f a0 55296 57343).bind fun t111 => (some (!t111))) else (some false))
theorem spec_SignOk.calls (a0 : Int) (r : Bool) (w : World) (h : spec_SignOk.f a0 = some r) :
  Calls Tryz.prog 127 #[.int .i64 a0] w fun e w' => e = .returned (.bool r) ∧ Drawn0 w w' := by
 have H : ((spec_l1In.f a0 0 1114111).bind fun t110 => (if t110 = true then ((spec_l1In.f a0 55296 57343).bind fun t111 => (some (!t111))) else (some false))) = some r := h;clear h;obtain ⟨t110, A2, H⟩ := ob_ H;(try dsimp only at H)
 by_cases c3 : t110 = true
 ·subst c3;rw [if_pos rfl] at H;obtain ⟨t111, A4, H⟩ := ob_ H;obtain rfl := sI_ H;go_enter Tryz.func127, Tryz.ntmps127
  go_wp2_with (first | ((with_reducible refine gC_ 95 ?_); refine gL_ 4 Tryz.func95 #[.int .i64 a0, .int .i64 0, .int .i64 1114111] ?_; refine dm_ (spec_l1In.calls a0 0 1114111 true _ A2.out) fun nd => ?_) | (go_at_call 95; (with_reducible refine (spec_l1In.calls a0 55296 57343 t111 _ A4.out).mono ?_); rintro e w' ⟨rfl, ⟨nd, rfl⟩⟩))
  go_ret
  exact ⟨e2_, d0_⟩
 ·replace c3 := bF_ c3;subst c3;rw [if_neg nF_] at H;obtain rfl := sI_ H;go_enter Tryz.func127, Tryz.ntmps127
  go_wp2_with (first | ((with_reducible refine gC_ 95 ?_); refine gL_ 4 Tryz.func95 #[.int .i64 a0, .int .i64 0, .int .i64 1114111] ?_; refine dm_ (spec_l1In.calls a0 0 1114111 false _ A2.out) fun nd => ?_))
  go_ret
  exact ⟨e2_, d0_⟩
def spec_PutSign.j0 : Nat → Int → Option (ByteArray)
 | 0, _ => none
 | k + 1, x0 => if x0 < 128 then (some (strOfNums (([(x0) % 256] : List Int)))) else (if x0 < 2048 then (some (strOfNums (([(wrap64 (192 + (x0 / 64))) % 256, (wrap64 (128 + (Go.bits .and .i64 x0 63))) % 256] : List Int)))) else (if x0 < 65536 then (some (strOfNums (([(wrap64 (224 + (x0 / 4096))) % 256, (wrap64 (128 + (Go.bits .and .i64 (x0 / 64) 63))) % 256, (wrap64 (128 + (Go.bits .and .i64 x0 63))) % 256] : List Int)))) else (some (strOfNums (([(wrap64 (240 + (x0 / 262144))) % 256, (wrap64 (128 + (Go.bits .and .i64 (x0 / 4096) 63))) % 256, (wrap64 (128 + (Go.bits .and .i64 (x0 / 64) 63))) % 256, (wrap64 (128 + (Go.bits .and .i64 x0 63))) % 256] : List Int))))))
def spec_PutSign.f (k : Nat) (a0 : Int) : Option (ByteArray) := (spec_SignOk.f a0).bind fun t112 => (if t112 = true then (spec_PutSign.j0 k a0) else (spec_PutSign.j0 k 65533))
theorem spec_PutSign.mono_l : ∀ k, (∀ y0, LeO (spec_PutSign.j0 k y0) (spec_PutSign.j0 (k + 1) y0))
 | 0 => fun _ r h => by simp [spec_PutSign.j0] at h
 | k + 1 => by
  have ih0 := spec_PutSign.mono_l k
  ·intro y0;unfold spec_PutSign.j0;with_reducible repeat' first | exact ih0 _ | apply LeO.refl | apply LeO.none | apply LeO.ite | apply LeO.bind | intro
theorem spec_PutSign.mono : ∀ a0 k, LeO (spec_PutSign.f k a0) (spec_PutSign.f (k + 1) a0) := by
 intro a0 k;have ih0 := spec_PutSign.mono_l k;unfold spec_PutSign.f;with_reducible repeat' first | exact ih0 _ | apply LeO.refl | apply LeO.none | apply LeO.ite | apply LeO.bind | intro
theorem spec_PutSign.calls (k : Nat) (a0 : Int) (r : BA) (w : World) (h : spec_PutSign.f k a0 = some r) :
  Calls Tryz.prog 92 #[.int .i64 a0] w fun e w' => e = .returned (.string r) ∧ Below w.heap.size w w' := by
 have HB := A_ (Below.refl w.heap.size w);have H : ((spec_SignOk.f a0).bind fun t112 => (if t112 = true then (spec_PutSign.j0 k a0) else (spec_PutSign.j0 k 65533))) = some r := h;clear h;obtain ⟨t112, A2, H⟩ := ob_ H;(try dsimp only at H)
 have HC3 := A_ H;clear H;go_enter Tryz.func92, Tryz.ntmps92
 go_upto_if 5 with (first | ((with_reducible refine gC_ 127 ?_); refine gL_ 4 Tryz.func127 #[.int .i64 a0] ?_; refine dm_ (spec_SignOk.calls a0 t112 _ A2.out) fun nd => ?_))
 (try simp only [Act.put, List.setIfInBounds_toArray, List.set_cons_zero, List.set_cons_succ])
 go_cut [0] (fun v0 wc => ∃ (kq : Nat) (x0_2 : Int), v0 = .int .i64 x0_2 ∧ As9 (spec_PutSign.j0 kq x0_2 = some r) ∧ As9 (kq ≤ k) ∧ As9 (Below w.heap.size w wc))
 case first =>
  have H := HC3.out;clear HC3;by_cases c4 : t112 = true
  ·subst c4;rw [if_pos rfl] at H;have H' := A_ H;clear H;go_wp2
   go_meet
   case rel => exact ⟨_, (a0), e2_, H', ⟨by first | omega | exact Nat.le_refl _⟩, ⟨hB_⟩⟩
  ·replace c4 := bF_ c4;subst c4;rw [if_neg nF_] at H;have H' := A_ H;clear H;go_wp2
   go_meet
   case rel => exact ⟨_, (65533), e2_, H', ⟨by first | omega | exact Nat.le_refl _⟩, ⟨hB_⟩⟩
 case rest =>
  clear HC3;try clear c1
  try clear p2
  try clear c4
  obtain ⟨kq, x0_2, rfl, HA, HJ2, HB⟩ := hcut;cases kq with
  | zero => exact absurd HA.out (by simp [spec_PutSign.j0])
  | succ kj2 =>
   have H := HA.out;clear HA;simp only [spec_PutSign.j0] at H;rcases ic_ H with ⟨c5, H⟩ | ⟨c5, H⟩
   ·have c5b0 := dE_ c5;clear c5;obtain ⟨y113, hy113⟩ : ∃ y_ : List Int, y_ = (([(x0_2) % 256] : List Int)) := ⟨_, rfl⟩;replace H : (some (strOfNums y113)) = some r := by first | (rw [hy113]; with_reducible exact H) | (have H2_ := (Option.bind_some _ _).symm.trans H; rw [hy113]; with_reducible exact H2_) | (have H2_ := (Option.bind_some _ _).symm.trans H; with_reducible exact H2_) | with_reducible exact H | (rw [hy113]; exact H) | exact H
    have Ny113 := A_ hy113;clear hy113;obtain rfl := sI_ H;go_wp2_with (first | ((with_reducible refine gate_dst (N := 11) rfl ?_); refine rl_ (Kd.int .u8) 5 11 [(x0_2) % 256] [.int .u8 ((x0_2) % 256)] ?_; intro v114 w6 ho7 hb hg_ hnew_; clear hg_ hnew_; (first | rw [← Ny113.out] at ho7 | (simp only [Int.reduceToNat] at ho7; rw [← Ny113.out] at ho7)); have HO115 := A_ (Kd.R_lower ho7 (below_size hB_)); replace HB := bS_ hb; clear hb ho7; have hcv8 := own_string (P := Tryz.prog) Tryz.underlying27 Tryz.underlying5 Tryz.underlying9 (Kd.own_of_R HO115.out)))
    go_ret
    exact ⟨e1_, hB_⟩
   ·have c5b0 := dF_ c5;clear c5;rcases ic_ H with ⟨c9, H⟩ | ⟨c9, H⟩
    ·have c9b0 := dE_ c9;clear c9;obtain ⟨y116, hy116⟩ : ∃ y_ : List Int, y_ = (([(wrap64 (192 + (x0_2 / 64))) % 256, (wrap64 (128 + (Go.bits .and .i64 x0_2 63))) % 256] : List Int)) := ⟨_, rfl⟩;replace H : (some (strOfNums y116)) = some r := by first | (rw [hy116]; with_reducible exact H) | (have H2_ := (Option.bind_some _ _).symm.trans H; rw [hy116]; with_reducible exact H2_) | (have H2_ := (Option.bind_some _ _).symm.trans H; with_reducible exact H2_) | with_reducible exact H | (rw [hy116]; exact H) | exact H
     have Ny116 := A_ hy116;clear hy116;obtain rfl := sI_ H;go_wp2_with (first | ((with_reducible refine gate_dst (N := 24) rfl ?_); refine rl_ (Kd.int .u8) 5 24 [(wrap64 (192 + (x0_2 / 64))) % 256, (wrap64 (128 + (Go.bits .and .i64 x0_2 63))) % 256] [.int .u8 ((wrap64 (192 + (x0_2 / 64))) % 256), .int .u8 ((wrap64 (128 + (Go.bits .and .i64 x0_2 63))) % 256)] ?_; intro v117 w10 ho11 hb hg_ hnew_; clear hg_ hnew_; (first | rw [← Ny116.out] at ho11 | (simp only [Int.reduceToNat] at ho11; rw [← Ny116.out] at ho11)); have HO118 := A_ (Kd.R_lower ho11 (below_size hB_)); replace HB := bS_ hb; clear hb ho11; have hcv12 := own_string (P := Tryz.prog) Tryz.underlying27 Tryz.underlying5 Tryz.underlying9 (Kd.own_of_R HO118.out)))
     go_ret
     exact ⟨e1_, hB_⟩
    ·have c9b0 := dF_ c9;clear c9;rcases ic_ H with ⟨c13, H⟩ | ⟨c13, H⟩
     ·have c13b0 := dE_ c13;clear c13;obtain ⟨y119, hy119⟩ : ∃ y_ : List Int, y_ = (([(wrap64 (224 + (x0_2 / 4096))) % 256, (wrap64 (128 + (Go.bits .and .i64 (x0_2 / 64) 63))) % 256, (wrap64 (128 + (Go.bits .and .i64 x0_2 63))) % 256] : List Int)) := ⟨_, rfl⟩;replace H : (some (strOfNums y119)) = some r := by first | (rw [hy119]; with_reducible exact H) | (have H2_ := (Option.bind_some _ _).symm.trans H; rw [hy119]; with_reducible exact H2_) | (have H2_ := (Option.bind_some _ _).symm.trans H; with_reducible exact H2_) | with_reducible exact H | (rw [hy119]; exact H) | exact H
      have Ny119 := A_ hy119;clear hy119;obtain rfl := sI_ H;go_wp2_with (first | ((with_reducible refine gate_dst (N := 42) rfl ?_); refine rl_ (Kd.int .u8) 5 42 [(wrap64 (224 + (x0_2 / 4096))) % 256, (wrap64 (128 + (Go.bits .and .i64 (x0_2 / 64) 63))) % 256, (wrap64 (128 + (Go.bits .and .i64 x0_2 63))) % 256] [.int .u8 ((wrap64 (224 + (x0_2 / 4096))) % 256), .int .u8 ((wrap64 (128 + (Go.bits .and .i64 (x0_2 / 64) 63))) % 256), .int .u8 ((wrap64 (128 + (Go.bits .and .i64 x0_2 63))) % 256)] ?_; intro v120 w14 ho15 hb hg_ hnew_; clear hg_ hnew_; (first | rw [← Ny119.out] at ho15 | (simp only [Int.reduceToNat] at ho15; rw [← Ny119.out] at ho15)); have HO121 := A_ (Kd.R_lower ho15 (below_size hB_)); replace HB := bS_ hb; clear hb ho15; have hcv16 := own_string (P := Tryz.prog) Tryz.underlying27 Tryz.underlying5 Tryz.underlying9 (Kd.own_of_R HO121.out)))
      go_ret
      exact ⟨e1_, hB_⟩
     ·have c13b0 := dF_ c13;clear c13;obtain ⟨y122, hy122⟩ : ∃ y_ : List Int, y_ = (([(wrap64 (240 + (x0_2 / 262144))) % 256, (wrap64 (128 + (Go.bits .and .i64 (x0_2 / 4096) 63))) % 256, (wrap64 (128 + (Go.bits .and .i64 (x0_2 / 64) 63))) % 256, (wrap64 (128 + (Go.bits .and .i64 x0_2 63))) % 256] : List Int)) := ⟨_, rfl⟩;replace H : (some (strOfNums y122)) = some r := by first | (rw [hy122]; with_reducible exact H) | (have H2_ := (Option.bind_some _ _).symm.trans H; rw [hy122]; with_reducible exact H2_) | (have H2_ := (Option.bind_some _ _).symm.trans H; with_reducible exact H2_) | with_reducible exact H | (rw [hy122]; exact H) | exact H
      have Ny122 := A_ hy122;clear hy122;obtain rfl := sI_ H;go_wp2_with (first | ((with_reducible refine gate_dst (N := 62) rfl ?_); refine rl_ (Kd.int .u8) 5 62 [(wrap64 (240 + (x0_2 / 262144))) % 256, (wrap64 (128 + (Go.bits .and .i64 (x0_2 / 4096) 63))) % 256, (wrap64 (128 + (Go.bits .and .i64 (x0_2 / 64) 63))) % 256, (wrap64 (128 + (Go.bits .and .i64 x0_2 63))) % 256] [.int .u8 ((wrap64 (240 + (x0_2 / 262144))) % 256), .int .u8 ((wrap64 (128 + (Go.bits .and .i64 (x0_2 / 4096) 63))) % 256), .int .u8 ((wrap64 (128 + (Go.bits .and .i64 (x0_2 / 64) 63))) % 256), .int .u8 ((wrap64 (128 + (Go.bits .and .i64 x0_2 63))) % 256)] ?_; intro v123 w17 ho18 hb hg_ hnew_; clear hg_ hnew_; (first | rw [← Ny122.out] at ho18 | (simp only [Int.reduceToNat] at ho18; rw [← Ny122.out] at ho18)); have HO124 := A_ (Kd.R_lower ho18 (below_size hB_)); replace HB := bS_ hb; clear hb ho18; have hcv19 := own_string (P := Tryz.prog) Tryz.underlying27 Tryz.underlying5 Tryz.underlying9 (Kd.own_of_R HO124.out)))
      go_ret
      exact ⟨e1_, hB_⟩
def impl_inRange.f (a0 : Int) (a1 : Int) (a2 : Int) : Option (Bool) := if a0 ≥ a1 then (some (decide (a0 ≤ a2))) else (some false)
theorem impl_inRange.calls (a0 : Int) (a1 : Int) (a2 : Int) (r : Bool) (w : World) (h : impl_inRange.f a0 a1 a2 = some r) :
  Calls Tryz.prog 144 #[.int .i64 a0, .int .i64 a1, .int .i64 a2] w fun e w' => e = .returned (.bool r) ∧ Drawn0 w w' := by
 have H : (if a0 ≥ a1 then (some (decide (a0 ≤ a2))) else (some false)) = some r := h;clear h;rcases ic_ H with ⟨c4, H⟩ | ⟨c4, H⟩
 ·have c4b0 : decide (a1 ≤ a0) = true := dE_ c4;clear c4;obtain rfl := sI_ H;go_enter Tryz.func144, Tryz.ntmps144
  go_wp2
  go_ret
  exact ⟨e2_, d0_⟩
 ·have c4b0 : decide (a1 ≤ a0) = false := dF_ c4;clear c4;obtain rfl := sI_ H;go_enter Tryz.func144, Tryz.ntmps144
  go_wp2
  go_ret
  exact ⟨e2_, d0_⟩
def impl_SignOk.f (a0 : Int) : Option (Bool) := (impl_inRange.f a0 0 1114111).bind fun t237 => (if t237 = true then ((impl_inRange.f a0 55296 57343).bind fun t238 => (some (!t238))) else (some false))
theorem impl_SignOk.calls (a0 : Int) (r : Bool) (w : World) (h : impl_SignOk.f a0 = some r) :
  Calls Tryz.prog 141 #[.int .i64 a0] w fun e w' => e = .returned (.bool r) ∧ Drawn0 w w' := by
 have H : ((impl_inRange.f a0 0 1114111).bind fun t237 => (if t237 = true then ((impl_inRange.f a0 55296 57343).bind fun t238 => (some (!t238))) else (some false))) = some r := h;clear h;obtain ⟨t237, A2, H⟩ := ob_ H;(try dsimp only at H)
 by_cases c3 : t237 = true
 ·subst c3;rw [if_pos rfl] at H;obtain ⟨t238, A4, H⟩ := ob_ H;obtain rfl := sI_ H;go_enter Tryz.func141, Tryz.ntmps141
  go_wp2_with (first | ((with_reducible refine gC_ 144 ?_); refine gL_ 4 Tryz.func144 #[.int .i64 a0, .int .i64 0, .int .i64 1114111] ?_; refine dm_ (impl_inRange.calls a0 0 1114111 true _ A2.out) fun nd => ?_) | (go_at_call 144; (with_reducible refine (impl_inRange.calls a0 55296 57343 t238 _ A4.out).mono ?_); rintro e w' ⟨rfl, ⟨nd, rfl⟩⟩))
  go_ret
  exact ⟨e2_, d0_⟩
 ·replace c3 := bF_ c3;subst c3;rw [if_neg nF_] at H;obtain rfl := sI_ H;go_enter Tryz.func141, Tryz.ntmps141
  go_wp2_with (first | ((with_reducible refine gC_ 144 ?_); refine gL_ 4 Tryz.func144 #[.int .i64 a0, .int .i64 0, .int .i64 1114111] ?_; refine dm_ (impl_inRange.calls a0 0 1114111 false _ A2.out) fun nd => ?_))
  go_ret
  exact ⟨e2_, d0_⟩
def impl_follow.f (a0 : Int) (a1 : Int) : Option (Int) := if 0 ≤ (IntKind.u64.wrap (a1)) then (some ((Go.bits .or .i64 128 (Go.bits .and .i64 (shr .i64 a0 (IntKind.u64.wrap (a1))) 63)) % 256)) else (none)
theorem impl_follow.calls (a0 : Int) (a1 : Int) (r : Int) (w : World) (h : impl_follow.f a0 a1 = some r) :
  Calls Tryz.prog 142 #[.int .i64 a0, .int .i64 a1] w fun e w' => e = .returned (.int .u8 r) ∧ Drawn0 w w' := by
 have H : (if 0 ≤ (IntKind.u64.wrap (a1)) then (some ((Go.bits .or .i64 128 (Go.bits .and .i64 (shr .i64 a0 (IntKind.u64.wrap (a1))) 63)) % 256)) else (none)) = some r := h;clear h;obtain ⟨ji3, hji3⟩ : ∃ j_ : Int, (IntKind.u64.wrap (a1)) = j_ := ⟨_, rfl⟩;replace H : (if 0 ≤ (ji3) then (some ((Go.bits .or .i64 128 (Go.bits .and .i64 (shr .i64 a0 (ji3)) 63)) % 256)) else (none)) = some r := by first | (rw [hji3] at H; exact H) | (simp only [hji3] at H ⊢; exact H)
 obtain ⟨c4, H⟩ := ifn_ H;have c4b0 := eq_true c4;have c4b1 := dE_ c4;clear c4;obtain ⟨ji5, hji5⟩ : ∃ j_ : Int, (shr .i64 a0 (ji3)) = j_ := ⟨_, rfl⟩;replace H : (some ((Go.bits .or .i64 128 (Go.bits .and .i64 (ji5) 63)) % 256)) = some r := by first | (rw [hji5] at H; exact H) | (simp only [hji5] at H ⊢; exact H)
 have hji5_ : (a0 / 2 ^ min (ji3).toNat 64) = ji5 := hji5;have hji5z : (ji3) ≤ 64 → (a0 / 2 ^ (ji3).toNat) = ji5 := shr_small hji5;obtain rfl := sI_ H;go_enter Tryz.func142, Tryz.ntmps142
 go_wp2
 go_ret
 exact ⟨by first | rfl | (simp; done) | (simp only [← hji3, ← hji5] <;> (first | rfl | simp)) | (simp [*]; done), d0_⟩
def impl_PutSign.j0 : Nat → Int → Option (ByteArray)
 | 0, _ => none
 | k + 1, x0 => if x0 < 128 then (some (strOfNums (([(x0) % 256] : List Int)))) else (if x0 < 2048 then ((impl_follow.f x0 0).bind fun t243 => (some (strOfNums (([(Go.bits .or .i64 192 (x0 / 64)) % 256, t243] : List Int))))) else (if x0 < 65536 then ((impl_follow.f x0 6).bind fun t247 => ((impl_follow.f x0 0).bind fun t248 => (some (strOfNums (([(Go.bits .or .i64 224 (x0 / 4096)) % 256, t247, t248] : List Int)))))) else ((impl_follow.f x0 12).bind fun t252 => ((impl_follow.f x0 6).bind fun t253 => ((impl_follow.f x0 0).bind fun t254 => (some (strOfNums (([(Go.bits .or .i64 240 (x0 / 262144)) % 256, t252, t253, t254] : List Int)))))))))
def impl_PutSign.f (k : Nat) (a0 : Int) : Option (ByteArray) := (impl_SignOk.f a0).bind fun t239 => (if t239 = true then (impl_PutSign.j0 k a0) else (impl_PutSign.j0 k 65533))
theorem impl_PutSign.mono_l : ∀ k, (∀ y0, LeO (impl_PutSign.j0 k y0) (impl_PutSign.j0 (k + 1) y0))
 | 0 => fun _ r h => by simp [impl_PutSign.j0] at h
 | k + 1 => by
  have ih0 := impl_PutSign.mono_l k
  ·intro y0;unfold impl_PutSign.j0;with_reducible repeat' first | exact ih0 _ | apply LeO.refl | apply LeO.none | apply LeO.ite | apply LeO.bind | intro
theorem impl_PutSign.mono : ∀ a0 k, LeO (impl_PutSign.f k a0) (impl_PutSign.f (k + 1) a0) := by
 intro a0 k;have ih0 := impl_PutSign.mono_l k;unfold impl_PutSign.f;with_reducible repeat' first | exact ih0 _ | apply LeO.refl | apply LeO.none | apply LeO.ite | apply LeO.bind | intro
theorem impl_PutSign.calls (k : Nat) (a0 : Int) (r : BA) (w : World) (h : impl_PutSign.f k a0 = some r) :
  Calls Tryz.prog 102 #[.int .i64 a0] w fun e w' => e = .returned (.string r) ∧ Below w.heap.size w w' := by
 have HB := A_ (Below.refl w.heap.size w);have H : ((impl_SignOk.f a0).bind fun t239 => (if t239 = true then (impl_PutSign.j0 k a0) else (impl_PutSign.j0 k 65533))) = some r := h;clear h;obtain ⟨t239, A2, H⟩ := ob_ H;(try dsimp only at H)
 have HC3 := A_ H;clear H;go_enter Tryz.func102, Tryz.ntmps102
 go_upto_if 5 with (first | ((with_reducible refine gC_ 141 ?_); refine gL_ 4 Tryz.func141 #[.int .i64 a0] ?_; refine dm_ (impl_SignOk.calls a0 t239 _ A2.out) fun nd => ?_))
 (try simp only [Act.put, List.setIfInBounds_toArray, List.set_cons_zero, List.set_cons_succ])
 go_cut [0] (fun v0 wc => ∃ (kq : Nat) (x0_2 : Int), v0 = .int .i64 x0_2 ∧ As9 (impl_PutSign.j0 kq x0_2 = some r) ∧ As9 (kq ≤ k) ∧ As9 (Below w.heap.size w wc))
 case first =>
  have H := HC3.out;clear HC3;by_cases c4 : t239 = true
  ·subst c4;rw [if_pos rfl] at H;have H' := A_ H;clear H;go_wp2
   go_meet
   case rel => exact ⟨_, (a0), e2_, H', ⟨by first | omega | exact Nat.le_refl _⟩, ⟨hB_⟩⟩
  ·replace c4 := bF_ c4;subst c4;rw [if_neg nF_] at H;have H' := A_ H;clear H;go_wp2
   go_meet
   case rel => exact ⟨_, (65533), e2_, H', ⟨by first | omega | exact Nat.le_refl _⟩, ⟨hB_⟩⟩
 case rest =>
  clear HC3;try clear c1
  try clear p2
  try clear c4
  obtain ⟨kq, x0_2, rfl, HA, HJ2, HB⟩ := hcut;cases kq with
  | zero => exact absurd HA.out (by simp [impl_PutSign.j0])
  | succ kj2 =>
   have H := HA.out;clear HA;simp only [impl_PutSign.j0] at H;rcases ic_ H with ⟨c5, H⟩ | ⟨c5, H⟩
   ·have c5b0 := dE_ c5;clear c5;obtain ⟨y240, hy240⟩ : ∃ y_ : List Int, y_ = (([(x0_2) % 256] : List Int)) := ⟨_, rfl⟩;replace H : (some (strOfNums y240)) = some r := by first | (rw [hy240]; with_reducible exact H) | (have H2_ := (Option.bind_some _ _).symm.trans H; rw [hy240]; with_reducible exact H2_) | (have H2_ := (Option.bind_some _ _).symm.trans H; with_reducible exact H2_) | with_reducible exact H | (rw [hy240]; exact H) | exact H
    have Ny240 := A_ hy240;clear hy240;obtain rfl := sI_ H;go_wp2_with (first | ((with_reducible refine gate_dst (N := 11) rfl ?_); refine rl_ (Kd.int .u8) 5 11 [(x0_2) % 256] [.int .u8 ((x0_2) % 256)] ?_; intro v241 w6 ho7 hb hg_ hnew_; clear hg_ hnew_; (first | rw [← Ny240.out] at ho7 | (simp only [Int.reduceToNat] at ho7; rw [← Ny240.out] at ho7)); have HO242 := A_ (Kd.R_lower ho7 (below_size hB_)); replace HB := bS_ hb; clear hb ho7; have hcv8 := own_string (P := Tryz.prog) Tryz.underlying27 Tryz.underlying5 Tryz.underlying9 (Kd.own_of_R HO242.out)))
    go_ret
    exact ⟨e1_, hB_⟩
   ·have c5b0 := dF_ c5;clear c5;rcases ic_ H with ⟨c9, H⟩ | ⟨c9, H⟩
    ·have c9b0 := dE_ c9;clear c9;obtain ⟨t243, A10, H⟩ := ob_ H;(try dsimp only at H)
     obtain ⟨y244, hy244⟩ : ∃ y_ : List Int, y_ = (([(Go.bits .or .i64 192 (x0_2 / 64)) % 256, t243] : List Int)) := ⟨_, rfl⟩;replace H : (some (strOfNums y244)) = some r := by first | (rw [hy244]; with_reducible exact H) | (have H2_ := (Option.bind_some _ _).symm.trans H; rw [hy244]; with_reducible exact H2_) | (have H2_ := (Option.bind_some _ _).symm.trans H; with_reducible exact H2_) | with_reducible exact H | (rw [hy244]; exact H) | exact H
     have Ny244 := A_ hy244;clear hy244;obtain rfl := sI_ H;go_wp2_with (first | ((with_reducible refine gC_ 142 ?_); refine gL_ 21 Tryz.func142 #[.int .i64 x0_2, .int .i64 0] ?_; refine dm_ (impl_follow.calls x0_2 0 t243 _ A10.out) fun nd => ?_) | ((with_reducible refine gate_dst (N := 22) rfl ?_); refine rl_ (Kd.int .u8) 5 22 [(Go.bits .or .i64 192 (x0_2 / 64)) % 256, t243] [.int .u8 ((Go.bits .or .i64 192 (x0_2 / 64)) % 256), .int .u8 t243] ?_; intro v245 w11 ho12 hb hg_ hnew_; clear hg_ hnew_; (first | rw [← Ny244.out] at ho12 | (simp only [Int.reduceToNat] at ho12; rw [← Ny244.out] at ho12)); have HO246 := A_ (Kd.R_lower ho12 (below_size hB_)); replace HB := bS_ hb; clear hb ho12; have hcv13 := own_string (P := Tryz.prog) Tryz.underlying27 Tryz.underlying5 Tryz.underlying9 (Kd.own_of_R HO246.out)))
     go_ret
     exact ⟨e1_, hB_⟩
    ·have c9b0 := dF_ c9;clear c9;rcases ic_ H with ⟨c14, H⟩ | ⟨c14, H⟩
     ·have c14b0 := dE_ c14;clear c14;obtain ⟨t247, A15, H⟩ := ob_ H;obtain ⟨t248, A16, H⟩ := ob_ H;(try dsimp only at H)
      obtain ⟨y249, hy249⟩ : ∃ y_ : List Int, y_ = (([(Go.bits .or .i64 224 (x0_2 / 4096)) % 256, t247, t248] : List Int)) := ⟨_, rfl⟩;replace H : (some (strOfNums y249)) = some r := by first | (rw [hy249]; with_reducible exact H) | (have H2_ := (Option.bind_some _ _).symm.trans H; rw [hy249]; with_reducible exact H2_) | (have H2_ := (Option.bind_some _ _).symm.trans H; with_reducible exact H2_) | with_reducible exact H | (rw [hy249]; exact H) | exact H
      have Ny249 := A_ hy249;clear hy249;obtain rfl := sI_ H;go_wp2_with (first | ((with_reducible refine gC_ 142 ?_); refine gL_ 32 Tryz.func142 #[.int .i64 x0_2, .int .i64 6] ?_; refine dm_ (impl_follow.calls x0_2 6 t247 _ A15.out) fun nd => ?_) | ((with_reducible refine gC_ 142 ?_); refine gL_ 34 Tryz.func142 #[.int .i64 x0_2, .int .i64 0] ?_; refine dm_ (impl_follow.calls x0_2 0 t248 _ A16.out) fun nd => ?_) | ((with_reducible refine gate_dst (N := 35) rfl ?_); refine rl_ (Kd.int .u8) 5 35 [(Go.bits .or .i64 224 (x0_2 / 4096)) % 256, t247, t248] [.int .u8 ((Go.bits .or .i64 224 (x0_2 / 4096)) % 256), .int .u8 t247, .int .u8 t248] ?_; intro v250 w17 ho18 hb hg_ hnew_; clear hg_ hnew_; (first | rw [← Ny249.out] at ho18 | (simp only [Int.reduceToNat] at ho18; rw [← Ny249.out] at ho18)); have HO251 := A_ (Kd.R_lower ho18 (below_size hB_)); replace HB := bS_ hb; clear hb ho18; have hcv19 := own_string (P := Tryz.prog) Tryz.underlying27 Tryz.underlying5 Tryz.underlying9 (Kd.own_of_R HO251.out)))
      go_ret
      exact ⟨e1_, hB_⟩
     ·have c14b0 := dF_ c14;clear c14;obtain ⟨t252, A20, H⟩ := ob_ H;obtain ⟨t253, A21, H⟩ := ob_ H;obtain ⟨t254, A22, H⟩ := ob_ H;(try dsimp only at H)
      obtain ⟨y255, hy255⟩ : ∃ y_ : List Int, y_ = (([(Go.bits .or .i64 240 (x0_2 / 262144)) % 256, t252, t253, t254] : List Int)) := ⟨_, rfl⟩;replace H : (some (strOfNums y255)) = some r := by first | (rw [hy255]; with_reducible exact H) | (have H2_ := (Option.bind_some _ _).symm.trans H; rw [hy255]; with_reducible exact H2_) | (have H2_ := (Option.bind_some _ _).symm.trans H; with_reducible exact H2_) | with_reducible exact H | (rw [hy255]; exact H) | exact H
      have Ny255 := A_ hy255;clear hy255;obtain rfl := sI_ H;go_wp2_with (first | ((with_reducible refine gC_ 142 ?_); refine gL_ 42 Tryz.func142 #[.int .i64 x0_2, .int .i64 12] ?_; refine dm_ (impl_follow.calls x0_2 12 t252 _ A20.out) fun nd => ?_) | ((with_reducible refine gC_ 142 ?_); refine gL_ 44 Tryz.func142 #[.int .i64 x0_2, .int .i64 6] ?_; refine dm_ (impl_follow.calls x0_2 6 t253 _ A21.out) fun nd => ?_) | ((with_reducible refine gC_ 142 ?_); refine gL_ 46 Tryz.func142 #[.int .i64 x0_2, .int .i64 0] ?_; refine dm_ (impl_follow.calls x0_2 0 t254 _ A22.out) fun nd => ?_) | ((with_reducible refine gate_dst (N := 47) rfl ?_); refine rl_ (Kd.int .u8) 5 47 [(Go.bits .or .i64 240 (x0_2 / 262144)) % 256, t252, t253, t254] [.int .u8 ((Go.bits .or .i64 240 (x0_2 / 262144)) % 256), .int .u8 t252, .int .u8 t253, .int .u8 t254] ?_; intro v256 w23 ho24 hb hg_ hnew_; clear hg_ hnew_; (first | rw [← Ny255.out] at ho24 | (simp only [Int.reduceToNat] at ho24; rw [← Ny255.out] at ho24)); have HO257 := A_ (Kd.R_lower ho24 (below_size hB_)); replace HB := bS_ hb; clear hb ho24; have hcv25 := own_string (P := Tryz.prog) Tryz.underlying27 Tryz.underlying5 Tryz.underlying9 (Kd.own_of_R HO257.out)))
      go_ret
      exact ⟨e1_, hB_⟩
def sgF (ps : Int → Option ByteArray) : List Int → List UInt8 → Option ByteArray
 | [], o => some ⟨o.toArray⟩
 | n :: r, o => (ps n).bind fun t => if o.length + t.size ≤ 140737488355327 then sgF ps r (o ++ t.data.toList) else none
theorem sgF_mono {ps qs : Int → Option ByteArray} (h : ∀ n, LeO (ps n) (qs n)) : ∀ l o, LeO (sgF ps l o) (sgF qs l o)
 | [], o => LeO.refl _
 | n :: r, o => by
  rw [sgF, sgF];exact LeO.bind (h n) (fun t => LeO.ite (sgF_mono h r _) (LeO.refl _))
def impl_SignText.f (k : Nat) (l0 : List Int) : Option ByteArray := sgF (impl_PutSign.f k) l0 []
theorem impl_SignText.mono : ∀ a0 k, LeO (impl_SignText.f k a0) (impl_SignText.f (k + 1) a0) := fun a0 k => sgF_mono (fun n => impl_PutSign.mono n k) a0 []
theorem drop_rd (l : List Int) (j : Int) (h0 : 0 ≤ j) (h : j < (l.length : Int)) : l.drop j.toNat = rd l j :: l.drop (j + 1).toNat := by
 rw [List.drop_eq_getElem_cons (show j.toNat < l.length by omega), show (j + 1).toNat = j.toNat + 1 by omega];congr 1
 unfold rd;rw [List.getD_eq_getElem?_getD, List.getElem?_eq_getElem (show j.toNat < l.length by omega)];rfl
theorem impl_SignText.calls (k : Nat) (A0 : Option Addr) (c0 : Nat) (l0 : List Int) (r : BA) (w : World) (hr0 : Kd.C (Kd.int .i64) w A0 l0.length l0) (hc0 : l0.length ≤ c0) (h : impl_SignText.f k l0 = some r) :
  Calls Tryz.prog 63 #[.slice A0 l0.length c0] w fun e w' => e = .returned (.string r) ∧ Below w.heap.size w w' := by
 have HH : As9 (sgF (impl_PutSign.f k) (l0.drop (0 : Int).toNat) [] = some r) := ⟨h⟩;have HR := A_ hr0;have HKM := A_ (Kd.C_max hr0);clear h hr0 hc0;have hu := Tryz.underlying51;have HN := A_ (bld_new w);have HB := A_ (bA9 (Below.refl _ _) (.cells #[.pointer none, .slice none 0 0] 51 (0, 0)) : Below w.heap.size w _);go_enter Tryz.func63, Tryz.ntmps63
 go_wp2
 go_loopg [8] l0.length (fun kq v8 wr => ∃ (out : List UInt8) (j : Int), v8 = .int .i64 j ∧ 0 ≤ j ∧ j ≤ (l0.length : Int) ∧ As9 (kq = l0.length - j.toNat) ∧ As9 (sgF (impl_PutSign.f k) (l0.drop j.toNat) out = some r) ∧ As9 (Bld w.heap.size w.heap.size (Lib.byteCells out) wr) ∧ As9 (Below w.heap.size w wr))
 case atStart => exact ⟨[], 0, rfl, Int.le_refl _, om_, ⟨rfl⟩, HH, HN, HB⟩
 case round =>
  clear HH HN HB;obtain ⟨out, j, rfl, j0, hj, HE, HG, HO, HB⟩ := hrel;have hkm := HKM.out;by_cases hlt : j < (l0.length : Int)
  ·obtain ⟨ad, eA, x0⟩ := Kd.at_int HR.out j j0 hlt;subst eA;replace x0 := cB_ HB.out x0;have h := HG.out;rw [drop_rd l0 j j0 hlt, sgF] at h;obtain ⟨t, hP, h⟩ := oB_ h;have hl : out.length + t.size ≤ 140737488355327 := by
    by_cases hl : out.length + t.size ≤ 140737488355327
    ·exact hl
    ·rw [if_neg hl] at h; cases h
   rw [if_pos hl] at h;have HG2 := A_ h;have HP := A_ hP;have HL := A_ hl;have hwr : wrap64 (j + 1) = j + 1 := by unfold wrap64; omega
   clear h hP hl hkm HG;have p7 := eq_true j0;have q7 := eq_true hlt;go_wp2_with (first | (go_at_call 31; (with_reducible refine (bld_str w.heap.size w.heap.size (Lib.byteCells out) t _ HO4.out (by rw [byteCells_len]; have := HL.out; omega) HB4.out.size).mono ?_); rintro e w5 ⟨rfl, ho, hb, hk⟩; have HO5 := A_ ho; have HB5 := A_ (HB4.out.trans hb); clear ho hb hk) | (go_at_call 102; (with_reducible refine (impl_PutSign.calls k (rd l0 j) t _ HP.out).mono ?_); rintro e w4 ⟨rfl, hb⟩; have HB4 := A_ (below_step HB.out hb); have HO4 := A_ (bld_below HO.out hb); clear hb))
   go_roundg (l0.length - (j + 1).toNat)
   case measure => have := HE.out; omega
   case rel => exact ⟨_, j + 1, by rw [hwr], om_, om_, ⟨rfl⟩, HG2, ⟨by rw [byteCells_append, ← strCells_bytes]; exact HO5.out⟩, HB5⟩
  ·have h := HG.out;rw [List.drop_eq_nil_of_le om_, sgF] at h;obtain rfl := sI_ h;clear h HG;go_wp2_with (go_at_call 36; (with_reducible refine (bld_string w.heap.size w.heap.size out _ HO.out HB.out.size).mono ?_); rintro e w5 ⟨rfl, hb, hk⟩; have HB5 := A_ (HB.out.trans hb); clear hb hk)
   go_ret
   exact ⟨rfl, HB5.out⟩
def spec_SignText.f (k : Nat) (l0 : List Int) : Option ByteArray := sgF (spec_PutSign.f k) l0 []
theorem spec_SignText.mono : ∀ a0 k, LeO (spec_SignText.f k a0) (spec_SignText.f (k + 1) a0) := fun a0 k => sgF_mono (fun n => spec_PutSign.mono n k) a0 []
theorem sgInts (o : List UInt8) : strOfNums (bytesOf ⟨o.toArray⟩) = ⟨o.toArray⟩ := by
 unfold strOfNums bytesOf;simp
 exact (List.map_congr_left (fun b _ => by simp)).trans (List.map_id o)
theorem sgInts_app (o : List UInt8) (t : BA) : bytesOf ⟨(o ++ t.data.toList).toArray⟩ = bytesOf ⟨o.toArray⟩ ++ bytesOf t := by
 unfold bytesOf;simp
theorem spec_SignText.calls (k : Nat) (A0 : Option Addr) (c0 : Nat) (l0 : List Int) (r : BA) (w : World) (hr0 : Kd.C (Kd.int .i64) w A0 l0.length l0) (hc0 : l0.length ≤ c0) (h : spec_SignText.f k l0 = some r) :
  Calls Tryz.prog 51 #[.slice A0 l0.length c0] w fun e w' => e = .returned (.string r) ∧ Below w.heap.size w w' := by
 have HH : As9 (sgF (spec_PutSign.f k) (l0.drop (0 : Int).toNat) [] = some r) := ⟨h⟩;have HR := A_ hr0;have HKM := A_ (Kd.C_max hr0);clear h hr0 hc0;go_enter Tryz.func51, Tryz.ntmps51
 go_wp2_with ((with_reducible refine gate_dst (N := 5) rfl ?_); refine rl_ (Kd.int .u8) 5 5 [] [] ?_; intro v9 w2 ho hb hg_ hnew_; clear hg_ hnew_; have HO := A_ ho; have HB := A_ hb; clear ho hb)
 go_loopg [3, 4] l0.length (fun kq v3 v4 wr => ∃ (out : List UInt8) (j : Int), v4 = .int .i64 j ∧ 0 ≤ j ∧ j ≤ (l0.length : Int) ∧ As9 (kq = l0.length - j.toNat) ∧ As9 (sgF (spec_PutSign.f k) (l0.drop j.toNat) out = some r) ∧ As9 (Kd.R (Kd.int .u8) 5 wr w.heap.size (fun _ => True) v3 (bytesOf ⟨out.toArray⟩)) ∧ As9 (Below w.heap.size w wr))
 case atStart => exact ⟨[], 0, rfl, Int.le_refl _, om_, ⟨rfl⟩, HH, HO, HB⟩
 case round =>
  clear HH HO HB;obtain ⟨out, j, rfl, j0, hj, HE, HG, HO, HB⟩ := hrel;have hkm := HKM.out;by_cases hlt : j < (l0.length : Int)
  ·obtain ⟨ad, eA, x0⟩ := Kd.at_int HR.out j j0 hlt;subst eA;replace x0 := cB_ HB.out x0;have h := HG.out;rw [drop_rd l0 j j0 hlt, sgF] at h;obtain ⟨tx, hP, h⟩ := oB_ h;have hl : out.length + tx.size ≤ 140737488355327 := by
    by_cases hl : out.length + tx.size ≤ 140737488355327
    ·exact hl
    ·rw [if_neg hl] at h; cases h
   rw [if_pos hl] at h;have HG2 := A_ h;have HP := A_ hP;have HL := A_ hl;have HZ : As9 ((bytesOf ⟨out.toArray⟩).length = out.length) := ⟨by rw [bytesOf_length]; simp [ByteArray.size]⟩;have hwr : wrap64 (j + 1) = j + 1 := by unfold wrap64; omega
   clear h hP hl hkm HG;have p7 := eq_true j0;have q7 := eq_true hlt;go_wp2_with (first | ((with_reducible refine gate_builtin (b := .append) (xs := #[.tmp 12, .tmp 18]) rfl ?_); at_builtin; refine Kd.R_append_rows (Kd.int .u8) (w0 := w) w.heap.size rfl (.tmp 12) (.tmp 18) 27 5 (.int .u8 0) 1 rfl Tryz.underlying27 info5 rfl de_ om_ _ (bytesOf ⟨out.toArray⟩) (bytesOf tx) _ _ _ (fun _ => True) (fun _ => False) rfl rfl ?aO ?aR (fun _ _ h => h) (fun _ h => h.elim) ?aF ?aB ?aS ?aL ?_; (case aO => exact HO5.out); (case aR => exact HC5.out); (case aF => exact fun _ _ => trivial); (case aB => exact HB5.out); (case aS => exact below_size HB5.out); (case aL => have := HL.out; have := HZ.out; omega); intro v6 w6 ho hb hg hat; have HO6 := A_ ho; have HB6 := A_ hb; clear ho hb hg hat) | (go_at_call 92; (with_reducible refine (spec_PutSign.calls k (rd l0 j) tx _ HP.out).mono ?_); rintro e w4 ⟨rfl, hb⟩; have HB4 := A_ (below_step HB.out hb); have HO4 := A_ (Kd.R_below HO.out hb); clear hb; have hcv := print_bytes (P := Tryz.prog) 9 27 5 Tryz.underlying9 Tryz.underlying27 Tryz.underlying5 tx w4; have HC5 := A_ (txt_C (TxtRow.new w4 tx (by have := HL.out; omega))); have hb5 := (bytes_below (Below.refl w4.heap.size w4) (Nat.le_refl _) 5 tx); have HO5 := A_ (Kd.R_below HO4.out hb5); have HB5 := A_ (below_step HB4.out hb5); clear hb5 HO4; rw [bytesOf_length] at HC5; generalize Lib.bytesWorld w4 5 tx = w5 at hcv HC5 HO5 HB5; generalize grownCap w4 tx.size 0 5 = cp at hcv))
   go_roundg (l0.length - (j + 1).toNat)
   case measure => have := HE.out; omega
   case rel => exact ⟨_, j + 1, by rw [hwr], om_, om_, ⟨rfl⟩, HG2, ⟨by rw [sgInts_app]; exact HO6.out⟩, HB6⟩
  ·have h := HG.out;rw [List.drop_eq_nil_of_le om_, sgF] at h;obtain rfl := sI_ h;clear h HG;obtain ⟨A5, c5, rfl⟩ := Kd.R_slice HO.out;have hback := Kd.C_string (P := Tryz.prog) (src := 27) (dst := 9) (c := c5) Tryz.underlying27 Tryz.underlying5 Tryz.underlying9 (Kd.R_reads' HO.out).2.2;rw [sgInts] at hback;go_wp2
   go_ret
   exact ⟨rfl, HB.out⟩
def spec_l1Many.f (a0 : Int) : Option (Int) := if a0 < 128 then (some 1) else ((spec_l1In.f a0 194 223).bind fun t125 => (if t125 = true then (some 2) else ((spec_l1In.f a0 224 239).bind fun t126 => (if t126 = true then (some 3) else ((spec_l1In.f a0 240 244).bind fun t127 => (if t127 = true then (some 4) else (some 0)))))))
theorem spec_l1Many.calls (a0 : Int) (r : Int) (w : World) (h : spec_l1Many.f a0 = some r) :
  Calls Tryz.prog 128 #[.int .i64 a0] w fun e w' => e = .returned (.int .i64 r) ∧ Drawn0 w w' := by
 have H : (if a0 < 128 then (some 1) else ((spec_l1In.f a0 194 223).bind fun t125 => (if t125 = true then (some 2) else ((spec_l1In.f a0 224 239).bind fun t126 => (if t126 = true then (some 3) else ((spec_l1In.f a0 240 244).bind fun t127 => (if t127 = true then (some 4) else (some 0)))))))) = some r := h;clear h;rcases ic_ H with ⟨c2, H⟩ | ⟨c2, H⟩
 ·have c2b0 := dE_ c2;clear c2;obtain rfl := sI_ H;go_enter Tryz.func128, Tryz.ntmps128
  go_wp2
  go_ret
  exact ⟨e2_, d0_⟩
 ·have c2b0 := dF_ c2;clear c2;obtain ⟨t125, A3, H⟩ := ob_ H;(try dsimp only at H)
  by_cases c4 : t125 = true
  ·subst c4;rw [if_pos rfl] at H;obtain rfl := sI_ H;go_enter Tryz.func128, Tryz.ntmps128
   go_wp2_with (first | ((with_reducible refine gC_ 95 ?_); refine gL_ 8 Tryz.func95 #[.int .i64 a0, .int .i64 194, .int .i64 223] ?_; refine dm_ (spec_l1In.calls a0 194 223 true _ A3.out) fun nd => ?_))
   go_ret
   exact ⟨e2_, d0_⟩
  ·replace c4 := bF_ c4;subst c4;rw [if_neg nF_] at H;obtain ⟨t126, A5, H⟩ := ob_ H;(try dsimp only at H)
   by_cases c6 : t126 = true
   ·subst c6;rw [if_pos rfl] at H;obtain rfl := sI_ H;go_enter Tryz.func128, Tryz.ntmps128
    go_wp2_with (first | ((with_reducible refine gC_ 95 ?_); refine gL_ 8 Tryz.func95 #[.int .i64 a0, .int .i64 194, .int .i64 223] ?_; refine dm_ (spec_l1In.calls a0 194 223 false _ A3.out) fun nd => ?_) | ((with_reducible refine gC_ 95 ?_); refine gL_ 11 Tryz.func95 #[.int .i64 a0, .int .i64 224, .int .i64 239] ?_; refine dm_ (spec_l1In.calls a0 224 239 true _ A5.out) fun nd => ?_))
    go_ret
    exact ⟨e2_, d0_⟩
   ·replace c6 := bF_ c6;subst c6;rw [if_neg nF_] at H;obtain ⟨t127, A7, H⟩ := ob_ H;(try dsimp only at H)
    by_cases c8 : t127 = true
    ·subst c8;rw [if_pos rfl] at H;obtain rfl := sI_ H;go_enter Tryz.func128, Tryz.ntmps128
     go_wp2_with (first | ((with_reducible refine gC_ 95 ?_); refine gL_ 8 Tryz.func95 #[.int .i64 a0, .int .i64 194, .int .i64 223] ?_; refine dm_ (spec_l1In.calls a0 194 223 false _ A3.out) fun nd => ?_) | ((with_reducible refine gC_ 95 ?_); refine gL_ 11 Tryz.func95 #[.int .i64 a0, .int .i64 224, .int .i64 239] ?_; refine dm_ (spec_l1In.calls a0 224 239 false _ A5.out) fun nd => ?_) | ((with_reducible refine gC_ 95 ?_); refine gL_ 14 Tryz.func95 #[.int .i64 a0, .int .i64 240, .int .i64 244] ?_; refine dm_ (spec_l1In.calls a0 240 244 true _ A7.out) fun nd => ?_))
     go_ret
     exact ⟨e2_, d0_⟩
    ·replace c8 := bF_ c8;subst c8;rw [if_neg nF_] at H;obtain rfl := sI_ H;go_enter Tryz.func128, Tryz.ntmps128
     go_wp2_with (first | ((with_reducible refine gC_ 95 ?_); refine gL_ 8 Tryz.func95 #[.int .i64 a0, .int .i64 194, .int .i64 223] ?_; refine dm_ (spec_l1In.calls a0 194 223 false _ A3.out) fun nd => ?_) | ((with_reducible refine gC_ 95 ?_); refine gL_ 11 Tryz.func95 #[.int .i64 a0, .int .i64 224, .int .i64 239] ?_; refine dm_ (spec_l1In.calls a0 224 239 false _ A5.out) fun nd => ?_) | ((with_reducible refine gC_ 95 ?_); refine gL_ 14 Tryz.func95 #[.int .i64 a0, .int .i64 240, .int .i64 244] ?_; refine dm_ (spec_l1In.calls a0 240 244 false _ A7.out) fun nd => ?_))
     go_ret
     exact ⟨e2_, d0_⟩
def spec_l1Second.f (a0 : Int) (a1 : Int) : Option (Bool) := if a0 = 224 then ((spec_l1In.f a1 160 191).bind fun t128 => (some t128)) else (if a0 = 237 then ((spec_l1In.f a1 128 159).bind fun t129 => (some t129)) else (if a0 = 240 then ((spec_l1In.f a1 144 191).bind fun t130 => (some t130)) else (if a0 = 244 then ((spec_l1In.f a1 128 143).bind fun t131 => (some t131)) else ((spec_l1In.f a1 128 191).bind fun t132 => (some t132)))))
theorem spec_l1Second.calls (a0 : Int) (a1 : Int) (r : Bool) (w : World) (h : spec_l1Second.f a0 a1 = some r) :
  Calls Tryz.prog 129 #[.int .i64 a0, .int .i64 a1] w fun e w' => e = .returned (.bool r) ∧ Drawn0 w w' := by
 have H : (if a0 = 224 then ((spec_l1In.f a1 160 191).bind fun t128 => (some t128)) else (if a0 = 237 then ((spec_l1In.f a1 128 159).bind fun t129 => (some t129)) else (if a0 = 240 then ((spec_l1In.f a1 144 191).bind fun t130 => (some t130)) else (if a0 = 244 then ((spec_l1In.f a1 128 143).bind fun t131 => (some t131)) else ((spec_l1In.f a1 128 191).bind fun t132 => (some t132)))))) = some r := h;clear h;rcases ic_ H with ⟨c3, H⟩ | ⟨c3, H⟩
 ·obtain ⟨c3b0, c3b1⟩ := be_ c3;clear c3;obtain ⟨t128, A4, H⟩ := ob_ H;obtain rfl := sI_ H;go_enter Tryz.func129, Tryz.ntmps129
  go_wp2_with (first | ((with_reducible refine gC_ 95 ?_); refine gL_ 19 Tryz.func95 #[.int .i64 a1, .int .i64 160, .int .i64 191] ?_; refine dm_ (spec_l1In.calls a1 160 191 t128 _ A4.out) fun nd => ?_))
  go_ret
  exact ⟨e2_, d0_⟩
 ·obtain ⟨c3b0, c3b1⟩ := bn_ c3;rcases ic_ H with ⟨c5, H⟩ | ⟨c5, H⟩
  ·obtain ⟨c5b0, c5b1⟩ := be_ c5;clear c5;obtain ⟨t129, A6, H⟩ := ob_ H;obtain rfl := sI_ H;go_enter Tryz.func129, Tryz.ntmps129
   go_wp2_with (first | ((with_reducible refine gC_ 95 ?_); refine gL_ 19 Tryz.func95 #[.int .i64 a1, .int .i64 128, .int .i64 159] ?_; refine dm_ (spec_l1In.calls a1 128 159 t129 _ A6.out) fun nd => ?_))
   go_ret
   exact ⟨e2_, d0_⟩
  ·obtain ⟨c5b0, c5b1⟩ := bn_ c5;rcases ic_ H with ⟨c7, H⟩ | ⟨c7, H⟩
   ·obtain ⟨c7b0, c7b1⟩ := be_ c7;clear c7;obtain ⟨t130, A8, H⟩ := ob_ H;obtain rfl := sI_ H;go_enter Tryz.func129, Tryz.ntmps129
    go_wp2_with (first | ((with_reducible refine gC_ 95 ?_); refine gL_ 19 Tryz.func95 #[.int .i64 a1, .int .i64 144, .int .i64 191] ?_; refine dm_ (spec_l1In.calls a1 144 191 t130 _ A8.out) fun nd => ?_))
    go_ret
    exact ⟨e2_, d0_⟩
   ·obtain ⟨c7b0, c7b1⟩ := bn_ c7;rcases ic_ H with ⟨c9, H⟩ | ⟨c9, H⟩
    ·obtain ⟨c9b0, c9b1⟩ := be_ c9;clear c9;obtain ⟨t131, A10, H⟩ := ob_ H;obtain rfl := sI_ H;go_enter Tryz.func129, Tryz.ntmps129
     go_wp2_with (first | ((with_reducible refine gC_ 95 ?_); refine gL_ 19 Tryz.func95 #[.int .i64 a1, .int .i64 128, .int .i64 143] ?_; refine dm_ (spec_l1In.calls a1 128 143 t131 _ A10.out) fun nd => ?_))
     go_ret
     exact ⟨e2_, d0_⟩
    ·obtain ⟨c9b0, c9b1⟩ := bn_ c9;obtain ⟨t132, A11, H⟩ := ob_ H;obtain rfl := sI_ H;go_enter Tryz.func129, Tryz.ntmps129
     go_wp2_with (first | ((with_reducible refine gC_ 95 ?_); refine gL_ 19 Tryz.func95 #[.int .i64 a1, .int .i64 128, .int .i64 191] ?_; refine dm_ (spec_l1In.calls a1 128 191 t132 _ A11.out) fun nd => ?_))
     go_ret
     exact ⟨e2_, d0_⟩
mutual
def spec_GetSign.j0 : Nat → ByteArray → Int → Bool → Option (Int × Int)
 | 0, _, _, _ => none
 | k + 1, x0, x1, x17 => if x17 = true then (some (0, 0)) else (if 0 ≤ x1 then (if x1 < (x0.size : Int) then ((spec_l1Many.f (wrap64 (bt x0 x1))).bind fun t133 => (if t133 < 2 then (if t133 = 1 then (some (wrap64 (bt x0 x1), 1)) else (some (65533, 1))) else (if 0 ≤ t133 then (spec_GetSign.l0 k x0 x1 (wrap64 (bt x0 x1)) t133 (Go.bits .and .i64 (wrap64 (bt x0 x1)) (shr .i64 127 t133)) 1) else (none)))) else (none)) else (none))
def spec_GetSign.l0 : Nat → ByteArray → Int → Int → Int → Int → Int → Option (Int × Int)
 | 0, _, _, _, _, _, _ => none
 | k + 1, x0, x1, x6, x7, x8, x9 => if x9 < x7 then (if (wrap64 (x1 + x9)) ≥ (x0.size : Int) then (some (65533, x9)) else (if x9 = 1 then (if 0 ≤ (wrap64 (x1 + 1)) then (if (wrap64 (x1 + 1)) < (x0.size : Int) then ((spec_l1Second.f x6 (wrap64 (bt x0 (wrap64 (x1 + 1))))).bind fun t134 => (if t134 = true then (if 0 ≤ (wrap64 (x1 + x9)) then (if (wrap64 (x1 + x9)) < (x0.size : Int) then ((spec_l1In.f (wrap64 (bt x0 (wrap64 (x1 + x9)))) 128 191).bind fun t135 => (if t135 = true then (spec_GetSign.l0 k x0 x1 x6 x7 (wrap64 ((wrap64 (x8 * 64)) + (Go.bits .and .i64 (wrap64 (bt x0 (wrap64 (x1 + x9)))) 63))) (wrap64 (x9 + 1))) else (some (65533, x9)))) else (none)) else (none)) else (some (65533, x9)))) else (none)) else (none)) else (if 0 ≤ (wrap64 (x1 + x9)) then (if (wrap64 (x1 + x9)) < (x0.size : Int) then ((spec_l1In.f (wrap64 (bt x0 (wrap64 (x1 + x9)))) 128 191).bind fun t136 => (if t136 = true then (spec_GetSign.l0 k x0 x1 x6 x7 (wrap64 ((wrap64 (x8 * 64)) + (Go.bits .and .i64 (wrap64 (bt x0 (wrap64 (x1 + x9)))) 63))) (wrap64 (x9 + 1))) else (some (65533, x9)))) else (none)) else (none)))) else (some (x8, x7))
end
def spec_GetSign.f (k : Nat) (a0 : BA) (a1 : Int) : Option (Int × Int) := if a1 < 0 then (spec_GetSign.j0 k a0 a1 true) else (spec_GetSign.j0 k a0 a1 (decide (a1 ≥ (a0.size : Int))))
theorem spec_GetSign.mono_l : ∀ k, (∀ y0 y1 y2, LeO (spec_GetSign.j0 k y0 y1 y2) (spec_GetSign.j0 (k + 1) y0 y1 y2)) ∧ (∀ y0 y1 y2 y3 y4 y5, LeO (spec_GetSign.l0 k y0 y1 y2 y3 y4 y5) (spec_GetSign.l0 (k + 1) y0 y1 y2 y3 y4 y5))
 | 0 => ⟨fun _ _ _ r h => by simp [spec_GetSign.j0] at h, fun _ _ _ _ _ _ r h => by simp [spec_GetSign.l0] at h⟩
 | k + 1 => by
  obtain ⟨ih0, ih1⟩ := spec_GetSign.mono_l k;refine ⟨?_, ?_⟩
  ·intro y0 y1 y2;unfold spec_GetSign.j0;with_reducible repeat' first | exact ih0 _ _ _ | exact ih1 _ _ _ _ _ _ | apply LeO.refl | apply LeO.none | apply LeO.ite | apply LeO.bind | intro
  ·intro y0 y1 y2 y3 y4 y5;unfold spec_GetSign.l0;with_reducible repeat' first | exact ih0 _ _ _ | exact ih1 _ _ _ _ _ _ | apply LeO.refl | apply LeO.none | apply LeO.ite | apply LeO.bind | intro
theorem spec_GetSign.mono : ∀ a0 a1 k, LeO (spec_GetSign.f k a0 a1) (spec_GetSign.f (k + 1) a0 a1) := by
 intro a0 a1 k;obtain ⟨ih0, ih1⟩ := spec_GetSign.mono_l k;unfold spec_GetSign.f;with_reducible repeat' first | exact ih0 _ _ _ | exact ih1 _ _ _ _ _ _ | apply LeO.refl | apply LeO.none | apply LeO.ite | apply LeO.bind | intro
theorem spec_GetSign.calls (k : Nat) (a0 : BA) (a1 : Int) (r1 : Int) (r2 : Int) (w : World) (h : spec_GetSign.f k a0 a1 = some (r1, r2)) :
  Calls Tryz.prog 93 #[.string a0, .int .i64 a1] w fun e w' => e = .returned (.tuple #[.int .i64 r1, .int .i64 r2]) ∧ Drawn0 w w' := by
 have H : (if a1 < 0 then (spec_GetSign.j0 k a0 a1 true) else (spec_GetSign.j0 k a0 a1 (decide (a1 ≥ (a0.size : Int))))) = some (r1, r2) := h;clear h;have HC3 := A_ H;clear H;go_enter Tryz.func93, Tryz.ntmps93
 go_upto_region 1 with (fail)
 go_cut [17] (fun v17 wc => ∃ (kq : Nat) (x17_2 : Bool), v17 = .bool x17_2 ∧ As9 (spec_GetSign.j0 kq a0 a1 x17_2 = some (r1, r2)) ∧ As9 (kq ≤ k) ∧ Drawn0 w wc)
 case first =>
  have H := HC3.out;clear HC3;rcases ic_ H with ⟨c4, H⟩ | ⟨c4, H⟩
  ·have c4b0 := dE_ c4;clear c4;(first | rw [c4b0] | (simp only [i64_w, i32_w]; rw [c4b0]) | skip)
   have H' := A_ H;clear H;go_wp2
   go_meet
   case rel => exact ⟨_, (true), e2_, H', ⟨by first | omega | exact Nat.le_refl _⟩, d0_⟩
  ·have c4b0 := dF_ c4;clear c4;(first | rw [c4b0] | (simp only [i64_w, i32_w]; rw [c4b0]) | skip)
   have H' := A_ H;clear H;go_wp2
   go_meet
   case rel => exact ⟨_, (decide (a1 ≥ (a0.size : Int))), e2_, H', ⟨by first | omega | exact Nat.le_refl _⟩, d0_⟩
 case rest =>
  clear HC3;try clear p2
  try clear c4
  try clear c4b0
  obtain ⟨kq, x17_2, rfl, HA, HJ2, ⟨mc2, rfl⟩⟩ := hcut;cases kq with
  | zero => exact absurd HA.out (by simp [spec_GetSign.j0])
  | succ kj2 =>
   have H := HA.out;clear HA;simp only [spec_GetSign.j0] at H;by_cases c5 : x17_2 = true
   ·subst c5;rw [if_pos rfl] at H;obtain ⟨rfl, rfl⟩ := pi_ H;go_wp2
    go_ret2
    exact ⟨e2_, d0_⟩
   ·replace c5 := bF_ c5;subst c5;rw [if_neg nF_] at H;obtain ⟨c6, H⟩ := ifn_ H;have c6b0 := dE_ c6;clear c6;obtain ⟨c7, H⟩ := ifn_ H;have c7b0 := dE_ c7;clear c7;obtain ⟨t133, A9, H⟩ := ob_ H;rcases ic_ H with ⟨c10, H⟩ | ⟨c10, H⟩
    ·have c10b0 := dE_ c10;clear c10;rcases ic_ H with ⟨c11, H⟩ | ⟨c11, H⟩
     ·obtain ⟨c11b0, c11b1⟩ := be_ c11;clear c11;obtain ⟨rfl, rfl⟩ := pi_ H;have p8 : 0 ≤ (a1 : Int) := dT_;have q8 : a1 < (a0.size : Int) := dT_;have hx8 := bt_at a0 a1;replace p8 := eq_true p8;replace q8 := eq_true q8;go_wp2_with (first | ((with_reducible refine gC_ 128 ?_); refine gL_ 23 Tryz.func128 #[.int .i64 (wrap64 (bt a0 a1))] ?_; refine dm_ (spec_l1Many.calls (wrap64 (bt a0 a1)) t133 _ A9.out) fun nd => ?_))
      go_ret2
      exact ⟨e2_, d0_⟩
     ·obtain ⟨c11b0, c11b1⟩ := bn_ c11;obtain ⟨rfl, rfl⟩ := pi_ H;have p8 : 0 ≤ (a1 : Int) := dT_;have q8 : a1 < (a0.size : Int) := dT_;have hx8 := bt_at a0 a1;replace p8 := eq_true p8;replace q8 := eq_true q8;go_wp2_with (first | ((with_reducible refine gC_ 128 ?_); refine gL_ 23 Tryz.func128 #[.int .i64 (wrap64 (bt a0 a1))] ?_; refine dm_ (spec_l1Many.calls (wrap64 (bt a0 a1)) t133 _ A9.out) fun nd => ?_))
      go_ret2
      exact ⟨e2_, d0_⟩
    ·have c10b0 := dF_ c10;clear c10;obtain ⟨c12, H⟩ := ifn_ H;have c12b0 := eq_true c12;have c12b1 := dE_ c12;clear c12;obtain ⟨ji13, hji13⟩ : ∃ j_ : Int, (shr .i64 127 t133) = j_ := ⟨_, rfl⟩;replace H : (spec_GetSign.l0 kj2 a0 a1 (wrap64 (bt a0 a1)) t133 (Go.bits .and .i64 (wrap64 (bt a0 a1)) (ji13)) 1) = some (r1, r2) := by first | (rw [hji13] at H; exact H) | (simp only [hji13] at H ⊢; exact H)
     (try rw [hji13] at A9)
     have hji13_ : (127 / 2 ^ min t133.toNat 64) = ji13 := hji13;have hji13z : t133 ≤ 64 → (127 / 2 ^ t133.toNat) = ji13 := shr_small hji13;have H' := A_ H;clear H;have p8 : 0 ≤ (a1 : Int) := dT_;have q8 : a1 < (a0.size : Int) := dT_;have hx8 := bt_at a0 a1;replace p8 := eq_true p8;replace q8 := eq_true q8;go_wp2_with (first | ((with_reducible refine gC_ 128 ?_); refine gL_ 23 Tryz.func128 #[.int .i64 (wrap64 (bt a0 a1))] ?_; refine dm_ (spec_l1Many.calls (wrap64 (bt a0 a1)) t133 _ A9.out) fun nd => ?_))
     go_loopg [8, 9] kj2 (fun kq v8 v9 w' => ∃ (x8_2 : Int) (x9_2 : Int), v8 = .int .i64 x8_2 ∧ v9 = .int .i64 x9_2 ∧ As9 (spec_GetSign.l0 kq a0 a1 (wrap64 (bt a0 a1)) t133 x8_2 x9_2 = some (r1, r2)) ∧ As9 (kq ≤ kj2) ∧ Drawn0 w w')
     case atStart => exact ⟨(Go.bits .and .i64 (wrap64 (bt a0 a1)) (ji13)), (1), (by first | rfl | (simp; done) | (simp only [← hji13] <;> (first | rfl | simp)) | (simp [*]; done)), e2_, H', ⟨Nat.le_refl _⟩, d0_⟩
     case round =>
      clear H';try clear c1
      try clear c2
      try clear p2
      try clear c4
      try clear c4b0
      try clear c5
      try clear c6
      try clear c6b0
      try clear p6
      try clear c7
      try clear c7b0
      try clear p8
      try clear q8
      try clear hx8
      try clear c9
      try clear c10
      try clear c10b0
      try clear c11
      try clear c11b0
      try clear c11b1
      try clear c12
      try clear c12b0
      try clear c12b1
      try clear p2
      try clear p8
      try clear q8
      obtain ⟨x8_2, x9_2, rfl, rfl, HA, HK2, ⟨m2, rfl⟩⟩ := hrel;cases gk with
      | zero => exact absurd HA.out (by simp [spec_GetSign.l0])
      | succ k2 =>
       have H := HA.out;clear HA;simp only [spec_GetSign.l0] at H;rcases ic_ H with ⟨c14, H⟩ | ⟨c14, H⟩
       ·have c14b0 := dE_ c14;clear c14;rcases ic_ H with ⟨c15, H⟩ | ⟨c15, H⟩
        ·have c15b0 : decide ((a0.size : Int) ≤ (wrap64 (a1 + x9_2))) = true := dE_ c15;clear c15;obtain ⟨rfl, rfl⟩ := pi_ H;go_wp2
         go_ret2
         exact ⟨by first | rfl | (simp; done) | (simp only [← hji13] <;> (first | rfl | simp)) | (simp [*]; done), d0_⟩
        ·have c15b0 : decide ((a0.size : Int) ≤ (wrap64 (a1 + x9_2))) = false := dF_ c15;clear c15;rcases ic_ H with ⟨c16, H⟩ | ⟨c16, H⟩
         ·obtain ⟨c16b0, c16b1⟩ := be_ c16;clear c16;obtain ⟨ji17, hji17⟩ : ∃ j_ : Int, (wrap64 (a1 + 1)) = j_ := ⟨_, rfl⟩;replace H : (if 0 ≤ (ji17) then (if (ji17) < (a0.size : Int) then ((spec_l1Second.f (wrap64 (bt a0 a1)) (wrap64 (bt a0 (ji17)))).bind fun t134 => (if t134 = true then (if 0 ≤ (wrap64 (a1 + x9_2)) then (if (wrap64 (a1 + x9_2)) < (a0.size : Int) then ((spec_l1In.f (wrap64 (bt a0 (wrap64 (a1 + x9_2)))) 128 191).bind fun t135 => (if t135 = true then (spec_GetSign.l0 k2 a0 a1 (wrap64 (bt a0 a1)) t133 (wrap64 ((wrap64 (x8_2 * 64)) + (Go.bits .and .i64 (wrap64 (bt a0 (wrap64 (a1 + x9_2)))) 63))) (wrap64 (x9_2 + 1))) else (some (65533, x9_2)))) else (none)) else (none)) else (some (65533, x9_2)))) else (none)) else (none)) = some (r1, r2) := by first | (rw [hji17] at H; exact H) | (simp only [hji17] at H ⊢; exact H)
          have hji17w : (IntKind.i64.wrap (a1 + 1)) = ji17 := (i64_w _).trans hji17;obtain ⟨c18, H⟩ := ifn_ H;have c18b0 := dE_ c18;clear c18;obtain ⟨c19, H⟩ := ifn_ H;have c19b0 := dE_ c19;clear c19;obtain ⟨t134, A21, H⟩ := ob_ H;(try dsimp only at H)
          by_cases c22 : t134 = true
          ·subst c22;rw [if_pos rfl] at H;obtain ⟨ji23, hji23⟩ : ∃ j_ : Int, (wrap64 (a1 + x9_2)) = j_ := ⟨_, rfl⟩;replace H : (if 0 ≤ (ji23) then (if (ji23) < (a0.size : Int) then ((spec_l1In.f (wrap64 (bt a0 (ji23))) 128 191).bind fun t135 => (if t135 = true then (spec_GetSign.l0 k2 a0 a1 (wrap64 (bt a0 a1)) t133 (wrap64 ((wrap64 (x8_2 * 64)) + (Go.bits .and .i64 (wrap64 (bt a0 (ji23))) 63))) (wrap64 (x9_2 + 1))) else (some (65533, x9_2)))) else (none)) else (none)) = some (r1, r2) := by first | (rw [hji23] at H; exact H) | (simp only [hji23] at H ⊢; exact H)
           (try rw [hji23] at c15b0)
           (try rw [hji23] at A21)
           have hji23w : (IntKind.i64.wrap (a1 + x9_2)) = ji23 := (i64_w _).trans hji23;obtain ⟨c24, H⟩ := ifn_ H;have c24b0 := dE_ c24;clear c24;obtain ⟨c25, H⟩ := ifn_ H;have c25b0 := dE_ c25;clear c25;obtain ⟨t135, A27, H⟩ := ob_ H;(try dsimp only at H)
           by_cases c28 : t135 = true
           ·subst c28;rw [if_pos rfl] at H;have H' := A_ H;clear H;have p20 : 0 ≤ ((ji17) : Int) := dT_;have q20 : (ji17) < (a0.size : Int) := dT_;have hx20 := bt_at a0 (ji17);replace p20 := eq_true p20;replace q20 := eq_true q20;go_wp2_with (first | (go_at_call 129; (with_reducible refine (spec_l1Second.calls (wrap64 (bt a0 a1)) (wrap64 (bt a0 (ji17))) true _ A21.out).mono ?_); rintro e w' ⟨rfl, ⟨nd, rfl⟩⟩; have p26 : 0 ≤ ((ji23) : Int) := dT_; have q26 : (ji23) < (a0.size : Int) := dT_; have hx26 := bt_at a0 (ji23); replace p26 := eq_true p26; replace q26 := eq_true q26) | (go_at_call 95; (with_reducible refine (spec_l1In.calls (wrap64 (bt a0 (ji23))) 128 191 true _ A27.out).mono ?_); rintro e w' ⟨rfl, ⟨nd, rfl⟩⟩; have p29 : 0 ≤ ((ji23) : Int) := dT_; have q29 : (ji23) < (a0.size : Int) := dT_; have hx29 := bt_at a0 (ji23); replace p29 := eq_true p29; replace q29 := eq_true q29))
            go_roundg k2
            case measure => have := HJ2.out; have := HK2.out; omega
            case rel => exact ⟨(wrap64 ((wrap64 (x8_2 * 64)) + (Go.bits .and .i64 (wrap64 (bt a0 (ji23))) 63))), (wrap64 (x9_2 + 1)), (by first | rfl | (simp; done) | (simp only [← hji23] <;> (first | rfl | simp)) | (simp [*]; done)), e2_, H', ⟨by have := HJ2.out; have := HK2.out; omega⟩, d0_⟩
           ·replace c28 := bF_ c28;subst c28;rw [if_neg nF_] at H;obtain ⟨rfl, rfl⟩ := pi_ H;have p20 : 0 ≤ ((ji17) : Int) := dT_;have q20 : (ji17) < (a0.size : Int) := dT_;have hx20 := bt_at a0 (ji17);replace p20 := eq_true p20;replace q20 := eq_true q20;go_wp2_with (first | (go_at_call 129; (with_reducible refine (spec_l1Second.calls (wrap64 (bt a0 a1)) (wrap64 (bt a0 (ji17))) true _ A21.out).mono ?_); rintro e w' ⟨rfl, ⟨nd, rfl⟩⟩; have p26 : 0 ≤ ((ji23) : Int) := dT_; have q26 : (ji23) < (a0.size : Int) := dT_; have hx26 := bt_at a0 (ji23); replace p26 := eq_true p26; replace q26 := eq_true q26) | (go_at_call 95; (with_reducible refine (spec_l1In.calls (wrap64 (bt a0 (ji23))) 128 191 false _ A27.out).mono ?_); rintro e w' ⟨rfl, ⟨nd, rfl⟩⟩))
            go_ret2
            exact ⟨by first | rfl | (simp; done) | (simp only [← hji13, ← hji17, ← hji23] <;> (first | rfl | simp)) | (simp [*]; done), d0_⟩
          ·replace c22 := bF_ c22;subst c22;rw [if_neg nF_] at H;obtain ⟨rfl, rfl⟩ := pi_ H;have p20 : 0 ≤ ((ji17) : Int) := dT_;have q20 : (ji17) < (a0.size : Int) := dT_;have hx20 := bt_at a0 (ji17);replace p20 := eq_true p20;replace q20 := eq_true q20;go_wp2_with (first | (go_at_call 129; (with_reducible refine (spec_l1Second.calls (wrap64 (bt a0 a1)) (wrap64 (bt a0 (ji17))) false _ A21.out).mono ?_); rintro e w' ⟨rfl, ⟨nd, rfl⟩⟩))
           go_ret2
           exact ⟨by first | rfl | (simp; done) | (simp only [← hji13, ← hji17] <;> (first | rfl | simp)) | (simp [*]; done), d0_⟩
         ·obtain ⟨c16b0, c16b1⟩ := bn_ c16;obtain ⟨ji30, hji30⟩ : ∃ j_ : Int, (wrap64 (a1 + x9_2)) = j_ := ⟨_, rfl⟩;replace H : (if 0 ≤ (ji30) then (if (ji30) < (a0.size : Int) then ((spec_l1In.f (wrap64 (bt a0 (ji30))) 128 191).bind fun t136 => (if t136 = true then (spec_GetSign.l0 k2 a0 a1 (wrap64 (bt a0 a1)) t133 (wrap64 ((wrap64 (x8_2 * 64)) + (Go.bits .and .i64 (wrap64 (bt a0 (ji30))) 63))) (wrap64 (x9_2 + 1))) else (some (65533, x9_2)))) else (none)) else (none)) = some (r1, r2) := by first | (rw [hji30] at H; exact H) | (simp only [hji30] at H ⊢; exact H)
          (try rw [hji30] at c15b0)
          have hji30w : (IntKind.i64.wrap (a1 + x9_2)) = ji30 := (i64_w _).trans hji30;obtain ⟨c31, H⟩ := ifn_ H;have c31b0 := dE_ c31;clear c31;obtain ⟨c32, H⟩ := ifn_ H;have c32b0 := dE_ c32;clear c32;obtain ⟨t136, A34, H⟩ := ob_ H;(try dsimp only at H)
          by_cases c35 : t136 = true
          ·subst c35;rw [if_pos rfl] at H;have H' := A_ H;clear H;have p33 : 0 ≤ ((ji30) : Int) := dT_;have q33 : (ji30) < (a0.size : Int) := dT_;have hx33 := bt_at a0 (ji30);replace p33 := eq_true p33;replace q33 := eq_true q33;go_wp2_with (first | (go_at_call 95; (with_reducible refine (spec_l1In.calls (wrap64 (bt a0 (ji30))) 128 191 true _ A34.out).mono ?_); rintro e w' ⟨rfl, ⟨nd, rfl⟩⟩; have p36 : 0 ≤ ((ji30) : Int) := dT_; have q36 : (ji30) < (a0.size : Int) := dT_; have hx36 := bt_at a0 (ji30); replace p36 := eq_true p36; replace q36 := eq_true q36))
           go_roundg k2
           case measure => have := HJ2.out; have := HK2.out; omega
           case rel => exact ⟨(wrap64 ((wrap64 (x8_2 * 64)) + (Go.bits .and .i64 (wrap64 (bt a0 (ji30))) 63))), (wrap64 (x9_2 + 1)), (by first | rfl | (simp; done) | (simp only [← hji30] <;> (first | rfl | simp)) | (simp [*]; done)), e2_, H', ⟨by have := HJ2.out; have := HK2.out; omega⟩, d0_⟩
          ·replace c35 := bF_ c35;subst c35;rw [if_neg nF_] at H;obtain ⟨rfl, rfl⟩ := pi_ H;have p33 : 0 ≤ ((ji30) : Int) := dT_;have q33 : (ji30) < (a0.size : Int) := dT_;have hx33 := bt_at a0 (ji30);replace p33 := eq_true p33;replace q33 := eq_true q33;go_wp2_with (first | (go_at_call 95; (with_reducible refine (spec_l1In.calls (wrap64 (bt a0 (ji30))) 128 191 false _ A34.out).mono ?_); rintro e w' ⟨rfl, ⟨nd, rfl⟩⟩))
           go_ret2
           exact ⟨by first | rfl | (simp; done) | (simp only [← hji13, ← hji30] <;> (first | rfl | simp)) | (simp [*]; done), d0_⟩
       ·have c14b0 := dF_ c14;clear c14;obtain ⟨rfl, rfl⟩ := pi_ H;go_wp2
        go_ret2
        exact ⟨by first | rfl | (simp; done) | (simp only [← hji13] <;> (first | rfl | simp)) | (simp [*]; done), d0_⟩
def spec_Signs.l0 : Nat → ByteArray → List Int → Int → Option (List Int)
 | 0, _, _, _ => none
 | k + 1, x0, x3, x4 => if x4 < (x0.size : Int) then ((spec_GetSign.f k x0 x4).bind fun bt140 => (if x3.length < 17592186044416 then (spec_Signs.l0 k x0 (x3 ++ [bt140.1]) (wrap64 (x4 + bt140.2))) else (none))) else (some x3)
def spec_Signs.f (k : Nat) (a0 : BA) : Option (List Int) := spec_Signs.l0 k a0 (([] : List Int)) 0
theorem spec_Signs.mono_l : ∀ k, (∀ y0 y1 y2, LeO (spec_Signs.l0 k y0 y1 y2) (spec_Signs.l0 (k + 1) y0 y1 y2))
 | 0 => fun _ _ _ r h => by simp [spec_Signs.l0] at h
 | k + 1 => by
  have ih0 := spec_Signs.mono_l k
  ·intro y0 y1 y2;unfold spec_Signs.l0;with_reducible repeat' first | exact ih0 _ _ _ | exact spec_GetSign.mono _ _ _ | apply LeO.refl | apply LeO.none | apply LeO.ite | apply LeO.bind | intro
theorem spec_Signs.mono : ∀ a0 k, LeO (spec_Signs.f k a0) (spec_Signs.f (k + 1) a0) := by
 intro a0 k;have ih0 := spec_Signs.mono_l k;unfold spec_Signs.f;with_reducible repeat' first | exact ih0 _ _ _ | exact spec_GetSign.mono _ _ _ | apply LeO.refl | apply LeO.none | apply LeO.ite | apply LeO.bind | intro
theorem spec_Signs.calls (k : Nat) (a0 : BA) (r : List Int) (w : World) (h : spec_Signs.f k a0 = some r) :
  Calls Tryz.prog 52 #[.string a0] w fun e w' => ∃ v0_ : Value, e = .returned (v0_) ∧ Kd.R (Kd.int .i64) 3 w' w.heap.size (fun _ => True) v0_ r ∧ Below w.heap.size w w' := by
 have HB := A_ (Below.refl w.heap.size w);have H : (spec_Signs.l0 k a0 (([] : List Int)) 0) = some r := h;clear h;obtain ⟨y137, hy137⟩ : ∃ y_ : List Int, y_ = (([] : List Int)) := ⟨_, rfl⟩;replace H : (spec_Signs.l0 k a0 y137 0) = some r := by first | (rw [hy137]; with_reducible exact H) | (have H2_ := (Option.bind_some _ _).symm.trans H; rw [hy137]; with_reducible exact H2_) | (have H2_ := (Option.bind_some _ _).symm.trans H; with_reducible exact H2_) | with_reducible exact H | (rw [hy137]; exact H) | exact H
 have Ny137 := A_ hy137;clear hy137;have H' := A_ H;clear H;go_enter Tryz.func52, Tryz.ntmps52
 go_wp2_with (first | ((with_reducible refine gate_dst (N := 7) rfl ?_); refine rl_ (Kd.int .i64) 3 7 [] [] ?_; intro v138 w2 ho3 hb hg_ hnew_; clear hg_ hnew_; (first | rw [← Ny137.out] at ho3 | (simp only [Int.reduceToNat] at ho3; rw [← Ny137.out] at ho3)); have HO139 := A_ (Kd.R_lower ho3 (below_size hB_)); replace HB := bS_ hb; clear hb ho3))
 go_loopg [3, 4] k (fun kq v3 v4 w' => ∃ (x3_1 : List Int) (x4_1 : Int), v4 = .int .i64 x4_1 ∧ As9 (spec_Signs.l0 kq a0 x3_1 x4_1 = some r) ∧ As9 (kq ≤ k) ∧ As9 (Kd.R (Kd.int .i64) 3 w' w.heap.size (fun _ => True) v3 x3_1) ∧ As9 (Below w.heap.size w w'))
 case atStart => exact ⟨(y137), (0), e2_, H', ⟨Nat.le_refl _⟩, ⟨kQ_ HO139.out⟩, ⟨hB_⟩⟩
 case round =>
  clear H';try clear p2
  obtain ⟨x3_1, x4_1, rfl, HA, HK1, HO_3, HB⟩ := hrel;cases gk with
  | zero => exact absurd HA.out (by simp [spec_Signs.l0])
  | succ k1 =>
   have H := HA.out;clear HA;simp only [spec_Signs.l0] at H;rcases ic_ H with ⟨c4, H⟩ | ⟨c4, H⟩
   ·have c4b0 := dE_ c4;clear c4;obtain ⟨⟨t140, t141⟩, A5, H⟩ := ob_ H;(try dsimp only at H)
    obtain ⟨c6, H⟩ := ifn_ H;have LMc6 := A_ c6;clear c6;obtain ⟨y142, hy142⟩ : ∃ y_ : List Int, y_ = (x3_1 ++ [t140]) := ⟨_, rfl⟩;replace H : (spec_Signs.l0 k1 a0 y142 (wrap64 (x4_1 + t141))) = some r := by first | (rw [hy142]; with_reducible exact H) | (have H2_ := (Option.bind_some _ _).symm.trans H; rw [hy142]; with_reducible exact H2_) | (have H2_ := (Option.bind_some _ _).symm.trans H; with_reducible exact H2_) | with_reducible exact H | (rw [hy142]; exact H) | exact H
    have Ny142 := A_ hy142;clear hy142;have H' := A_ H;clear H;go_wp2_with (first | ((with_reducible refine gC_ 93 ?_); refine gL_ 15 Tryz.func93 #[.string a0, .int .i64 x4_1] ?_; refine dm_ (spec_GetSign.calls k1 a0 x4_1 t140 t141 _ A5.out) fun nd => ?_) | ((with_reducible refine gate_builtin (b := .append) (xs := #[.tmp 18, .tmp 20]) rfl ?_); at_builtin; refine Kd.R_append (Kd.int .i64) (w0 := w) w.heap.size rfl (.tmp 18) (.tmp 20) 71 3 (.int .i64 0) 8 rfl Tryz.underlying71 info3 rfl de_ om_ u3 x3_1 t140 [.int .i64 t140] (fun _ => True) (fun _ => False) rfl rfl ?aP (fun _ hk => hk.elim) ?aF ?aO ?aB ?aS ?aL ?_; (case aP => exact rfl); (case aB => exact hB_); (case aF => exact (fun _ _ => trivial)); (case aO => exact (kQ_ HO_3.out)); (case aS => exact (below_size hB_)); (case aL => have := LMc6.out; omega); intro v143 w7 ho hb hg hat; rw [← Ny142.out] at ho; replace HB := A_ (hb); have HO144 := A_ (ho); clear HO_3; clear ho hb hg hat))
    go_roundg k1
    case measure => have := HK1.out; omega
    case rel => exact ⟨(y142), (wrap64 (x4_1 + t141)), e2_, H', ⟨by have := HK1.out; omega⟩, ⟨kQ_ HO144.out⟩, ⟨hB_⟩⟩
   ·have c4b0 := dF_ c4;clear c4;obtain rfl := sI_ H;go_wp2
    go_ret
    exact ⟨_, e1_, kQ_ HO_3.out, hB_⟩
def spec_Clean.f (k : Nat) (a0 : BA) : Option (ByteArray) := (spec_Signs.f k a0).bind fun t145 => ((spec_SignText.f k t145).bind fun t148 => (some t148))
theorem spec_Clean.mono : ∀ a0 k, LeO (spec_Clean.f k a0) (spec_Clean.f (k + 1) a0) := by
 intro a0 k;unfold spec_Clean.f;with_reducible repeat' first | exact spec_SignText.mono _ _ | exact spec_Signs.mono _ _ | apply LeO.refl | apply LeO.none | apply LeO.ite | apply LeO.bind | intro
theorem spec_Clean.calls (k : Nat) (a0 : BA) (r : BA) (w : World) (h : spec_Clean.f k a0 = some r) :
  Calls Tryz.prog 19 #[.string a0] w fun e w' => e = .returned (.string r) ∧ Below w.heap.size w w' := by
 have HB := A_ (Below.refl w.heap.size w);have H : ((spec_Signs.f k a0).bind fun t145 => ((spec_SignText.f k t145).bind fun t148 => (some t148))) = some r := h;clear h;obtain ⟨t145, A2, H⟩ := ob_ H;obtain ⟨t148, A3, H⟩ := ob_ H;obtain rfl := sI_ H;go_enter Tryz.func19, Tryz.ntmps19
 go_wp2_with (first | ((with_reducible refine gC_ 52 ?_); refine gL_ 4 Tryz.func52 #[.string a0] ?_; (with_reducible refine (spec_Signs.calls k a0 t145 _ A2.out).mono ?_); rintro e w4 ⟨v146, rfl, ho0, hb⟩; refine ⟨_, rfl, ?_⟩; have HO147 := A_ (Kd.R_lower ho0 (below_size hB_)); replace HB := bS_ hb; clear hb; (try clear ho0); obtain ⟨Ao5, co5, eo5⟩ := Kd.R_slice HO147.out; subst eo5) | ((with_reducible refine gC_ 51 ?_); refine gL_ 5 Tryz.func51 #[.slice Ao5 t145.length co5] ?_; (with_reducible refine (spec_SignText.calls k _ _ t145 t148 _ ?side1 ?side2 A3.out).mono ?_); (case side1 => repeat (first | exact (Kd.R_reads' HO147.out).2.2 | (with_reducible refine Kd.C_alloc ?_ _) | (with_reducible refine Kd.C_drewN ?_ _) | (with_reducible refine Kd.C_drew ?_))); (case side2 => exact (Kd.R_reads' HO147.out).2.1); rintro e w6 ⟨rfl, hb⟩; refine ⟨_, rfl, ?_⟩; replace HO147 := A_ (Kd.R_below (kQ_ HO147.out) hb); replace HB := bS_ hb; clear hb))
 go_ret
 exact ⟨e1_, hB_⟩
def spec_IsLetter.f (a0 : Int) : Option (Bool) := (spec_l1In.f a0 97 122).bind fun t149 => (if t149 = true then (some true) else ((spec_l1In.f a0 65 90).bind fun t150 => (some t150)))
theorem spec_IsLetter.calls (a0 : Int) (r : Bool) (w : World) (h : spec_IsLetter.f a0 = some r) :
  Calls Tryz.prog 59 #[.int .i64 a0] w fun e w' => e = .returned (.bool r) ∧ Drawn0 w w' := by
 have H : ((spec_l1In.f a0 97 122).bind fun t149 => (if t149 = true then (some true) else ((spec_l1In.f a0 65 90).bind fun t150 => (some t150)))) = some r := h;clear h;obtain ⟨t149, A2, H⟩ := ob_ H;(try dsimp only at H)
 by_cases c3 : t149 = true
 ·subst c3;rw [if_pos rfl] at H;obtain rfl := sI_ H;go_enter Tryz.func59, Tryz.ntmps59
  go_wp2_with (first | ((with_reducible refine gC_ 95 ?_); refine gL_ 4 Tryz.func95 #[.int .i64 a0, .int .i64 97, .int .i64 122] ?_; refine dm_ (spec_l1In.calls a0 97 122 true _ A2.out) fun nd => ?_))
  go_ret
  exact ⟨e2_, d0_⟩
 ·replace c3 := bF_ c3;subst c3;rw [if_neg nF_] at H;obtain ⟨t150, A4, H⟩ := ob_ H;obtain rfl := sI_ H;go_enter Tryz.func59, Tryz.ntmps59
  go_wp2_with (first | ((with_reducible refine gC_ 95 ?_); refine gL_ 4 Tryz.func95 #[.int .i64 a0, .int .i64 97, .int .i64 122] ?_; refine dm_ (spec_l1In.calls a0 97 122 false _ A2.out) fun nd => ?_) | (go_at_call 95; (with_reducible refine (spec_l1In.calls a0 65 90 t150 _ A4.out).mono ?_); rintro e w' ⟨rfl, ⟨nd, rfl⟩⟩))
  go_ret
  exact ⟨e2_, d0_⟩
def spec_l5Begins.f (a0 : BA) (a1 : Int) : Option (Bool) := if 0 ≤ a1 then (if a1 < (a0.size : Int) then (if (bt a0 a1) = 60 then (if (wrap64 (a1 + 1)) ≥ (a0.size : Int) then (some false) else (if 0 ≤ (wrap64 (a1 + 1)) then (if (wrap64 (a1 + 1)) < (a0.size : Int) then (if (bt a0 (wrap64 (a1 + 1))) = 33 then (some true) else (if (bt a0 (wrap64 (a1 + 1))) = 63 then (some true) else (if (bt a0 (wrap64 (a1 + 1))) = 47 then (some true) else ((spec_IsLetter.f (wrap64 (bt a0 (wrap64 (a1 + 1))))).bind fun t151 => (some t151))))) else (none)) else (none))) else (some false)) else (none)) else (none)
theorem spec_l5Begins.calls (a0 : BA) (a1 : Int) (r : Bool) (w : World) (h : spec_l5Begins.f a0 a1 = some r) :
  Calls Tryz.prog 53 #[.string a0, .int .i64 a1] w fun e w' => e = .returned (.bool r) ∧ Drawn0 w w' := by
 have H : (if 0 ≤ a1 then (if a1 < (a0.size : Int) then (if (bt a0 a1) = 60 then (if (wrap64 (a1 + 1)) ≥ (a0.size : Int) then (some false) else (if 0 ≤ (wrap64 (a1 + 1)) then (if (wrap64 (a1 + 1)) < (a0.size : Int) then (if (bt a0 (wrap64 (a1 + 1))) = 33 then (some true) else (if (bt a0 (wrap64 (a1 + 1))) = 63 then (some true) else (if (bt a0 (wrap64 (a1 + 1))) = 47 then (some true) else ((spec_IsLetter.f (wrap64 (bt a0 (wrap64 (a1 + 1))))).bind fun t151 => (some t151))))) else (none)) else (none))) else (some false)) else (none)) else (none)) = some r := h;clear h;obtain ⟨c3, H⟩ := ifn_ H;have c3b0 := dE_ c3;clear c3;obtain ⟨c4, H⟩ := ifn_ H;have c4b0 := dE_ c4;clear c4;rcases ic_ H with ⟨c6, H⟩ | ⟨c6, H⟩
 ·obtain ⟨c6b0, c6b1⟩ := be_ c6;clear c6;rcases ic_ H with ⟨c7, H⟩ | ⟨c7, H⟩
  ·have c7b0 : decide ((a0.size : Int) ≤ (wrap64 (a1 + 1))) = true := dE_ c7;clear c7;obtain rfl := sI_ H;have p5 : 0 ≤ (a1 : Int) := dT_;have q5 : a1 < (a0.size : Int) := dT_;have hx5 := bt_at a0 a1;replace p5 := eq_true p5;replace q5 := eq_true q5;go_enter Tryz.func53, Tryz.ntmps53
   go_wp2
   go_ret
   exact ⟨e2_, d0_⟩
  ·have c7b0 : decide ((a0.size : Int) ≤ (wrap64 (a1 + 1))) = false := dF_ c7;clear c7;obtain ⟨ji8, hji8⟩ : ∃ j_ : Int, (wrap64 (a1 + 1)) = j_ := ⟨_, rfl⟩;replace H : (if 0 ≤ (ji8) then (if (ji8) < (a0.size : Int) then (if (bt a0 (ji8)) = 33 then (some true) else (if (bt a0 (ji8)) = 63 then (some true) else (if (bt a0 (ji8)) = 47 then (some true) else ((spec_IsLetter.f (wrap64 (bt a0 (ji8)))).bind fun t151 => (some t151))))) else (none)) else (none)) = some r := by first | (rw [hji8] at H; exact H) | (simp only [hji8] at H ⊢; exact H)
   (try rw [hji8] at c7b0)
   have hji8w : (IntKind.i64.wrap (a1 + 1)) = ji8 := (i64_w _).trans hji8;obtain ⟨c9, H⟩ := ifn_ H;have c9b0 := dE_ c9;clear c9;obtain ⟨c10, H⟩ := ifn_ H;have c10b0 := dE_ c10;clear c10;rcases ic_ H with ⟨c12, H⟩ | ⟨c12, H⟩
   ·obtain ⟨c12b0, c12b1⟩ := be_ c12;clear c12;obtain rfl := sI_ H;have p5 : 0 ≤ (a1 : Int) := dT_;have q5 : a1 < (a0.size : Int) := dT_;have hx5 := bt_at a0 a1;replace p5 := eq_true p5;replace q5 := eq_true q5;have p11 : 0 ≤ ((ji8) : Int) := dT_;have q11 : (ji8) < (a0.size : Int) := dT_;have hx11 := bt_at a0 (ji8);replace p11 := eq_true p11;replace q11 := eq_true q11;go_enter Tryz.func53, Tryz.ntmps53
    go_wp2
    go_ret
    exact ⟨by first | rfl | (simp; done) | (simp only [← hji8] <;> (first | rfl | simp)) | (simp [*]; done), d0_⟩
   ·obtain ⟨c12b0, c12b1⟩ := bn_ c12;rcases ic_ H with ⟨c13, H⟩ | ⟨c13, H⟩
    ·obtain ⟨c13b0, c13b1⟩ := be_ c13;clear c13;obtain rfl := sI_ H;have p5 : 0 ≤ (a1 : Int) := dT_;have q5 : a1 < (a0.size : Int) := dT_;have hx5 := bt_at a0 a1;replace p5 := eq_true p5;replace q5 := eq_true q5;have p11 : 0 ≤ ((ji8) : Int) := dT_;have q11 : (ji8) < (a0.size : Int) := dT_;have hx11 := bt_at a0 (ji8);replace p11 := eq_true p11;replace q11 := eq_true q11;go_enter Tryz.func53, Tryz.ntmps53
     go_wp2
     go_ret
     exact ⟨by first | rfl | (simp; done) | (simp only [← hji8] <;> (first | rfl | simp)) | (simp [*]; done), d0_⟩
    ·obtain ⟨c13b0, c13b1⟩ := bn_ c13;rcases ic_ H with ⟨c14, H⟩ | ⟨c14, H⟩
     ·obtain ⟨c14b0, c14b1⟩ := be_ c14;clear c14;obtain rfl := sI_ H;have p5 : 0 ≤ (a1 : Int) := dT_;have q5 : a1 < (a0.size : Int) := dT_;have hx5 := bt_at a0 a1;replace p5 := eq_true p5;replace q5 := eq_true q5;have p11 : 0 ≤ ((ji8) : Int) := dT_;have q11 : (ji8) < (a0.size : Int) := dT_;have hx11 := bt_at a0 (ji8);replace p11 := eq_true p11;replace q11 := eq_true q11;go_enter Tryz.func53, Tryz.ntmps53
      go_wp2
      go_ret
      exact ⟨by first | rfl | (simp; done) | (simp only [← hji8] <;> (first | rfl | simp)) | (simp [*]; done), d0_⟩
     ·obtain ⟨c14b0, c14b1⟩ := bn_ c14;obtain ⟨t151, A15, H⟩ := ob_ H;obtain rfl := sI_ H;have p5 : 0 ≤ (a1 : Int) := dT_;have q5 : a1 < (a0.size : Int) := dT_;have hx5 := bt_at a0 a1;replace p5 := eq_true p5;replace q5 := eq_true q5;have p11 : 0 ≤ ((ji8) : Int) := dT_;have q11 : (ji8) < (a0.size : Int) := dT_;have hx11 := bt_at a0 (ji8);replace p11 := eq_true p11;replace q11 := eq_true q11;go_enter Tryz.func53, Tryz.ntmps53
      go_wp2_with (first | (go_at_call 59; (with_reducible refine (spec_IsLetter.calls (wrap64 (bt a0 (ji8))) t151 _ A15.out).mono ?_); rintro e w' ⟨rfl, ⟨nd, rfl⟩⟩))
      go_ret
      exact ⟨by first | rfl | (simp; done) | (simp only [← hji8] <;> (first | rfl | simp)) | (simp [*]; done), d0_⟩
 ·obtain ⟨c6b0, c6b1⟩ := bn_ c6;obtain rfl := sI_ H;have p5 : 0 ≤ (a1 : Int) := dT_;have q5 : a1 < (a0.size : Int) := dT_;have hx5 := bt_at a0 a1;replace p5 := eq_true p5;replace q5 := eq_true q5;go_enter Tryz.func53, Tryz.ntmps53
  go_wp2
  go_ret
  exact ⟨e2_, d0_⟩
end Go.Proofs.YtkbbfeckieckoaaGreatDoor.A
