-- joined by wip/tools/shake.py
import Derived.Test.YtkmmoheeoblmnaaGreatDoorVReTW9
set_option maxHeartbeats 16000000
set_option maxRecDepth 100000
namespace Go.Proofs.YtkmmoheeoblmnaaGreatDoor.A
open Go.RowKit Go.Proofs.YtkmmoheeoblmnaaGreatDoorW.PrintWords Go.Proofs.YtkmmoheeoblmnaaGreatDoorW.PrintLast Go.Proofs.YtkmmoheeoblmnaaGreatDoorW.PrintMore
attribute [local go_sem] max2_int min2_int max_two min_two max_three min_three max_four min_four
set_option linter.unusedVariables false
set_option linter.unusedSimpArgs false
def errW : Option Int → Value
 | none => .nilIface
 | some c => .iface 138 (.int .i64 c)
theorem errW_none : errW none = .nilIface := rfl
theorem errW_some (c : Int) : errW (some c) = .iface 138 (.int .i64 c) := rfl
theorem info3 : (Tryz.prog.info? 3).map (fun i => (i.zero, i.size, i.bytes)) = some (some (.int .i64 0), 1, 8) := by kernel_rfl
theorem info5 : (Tryz.prog.info? 5).map (fun i => (i.zero, i.size, i.bytes)) = some (some (.int .u8 0), 1, 1) := by kernel_rfl
theorem info36 : (Tryz.prog.info? 36).map (fun i => (i.zero, i.size, i.bytes)) = some (some (.agg #[(.string ⟨#[]⟩), (.string ⟨#[]⟩)]), 2, 32) := by kernel_rfl
structure S36 where
 f0 : ByteArray
 f1 : ByteArray
def z36 : S36 := ⟨(⟨#[]⟩ : BA), (⟨#[]⟩ : BA)⟩
def k36 : Kd S36 := Kd.iso (Kd.pair Kd.string Kd.string) (fun x : S36 => (x.f0, x.f1))
theorem k36_open {w : World} {x : S36} {cs : List Value} (h : k36.K w x cs) : cs = [.string x.f0, .string x.f1] := by
 obtain ⟨_, _, rfl, rfl, rfl⟩ := h;exact rfl
theorem k36_openM {w : World} {base : Nat} {ok : Nat → Prop} {x : S36} {cs : List Value} (h : k36.M w base ok x cs) : cs = [.string x.f0, .string x.f1] := by
 obtain ⟨_, _, rfl, rfl, rfl⟩ := h;exact rfl
theorem k36_mkM (w : World) (base : Nat) (ok : Nat → Prop) (x : S36)  : k36.M w base ok x [.string x.f0, .string x.f1] := ⟨[.string x.f0], [.string x.f1], rfl, rfl, rfl⟩
def rd_T36 (xs : List S36) (i : Int) : S36 := xs.getD i.toNat z36
theorem at_T36 {w : World} {A : Option Addr} {n : Nat} {xs : List S36} (h : Kd.C k36 w A n xs) (i : Int) (h0 : 0 ≤ i) (h1 : i < n) : ∃ ad , A = some ad ∧ w.cell? (ad.add (i.toNat * 2)) = some (.string (rd_T36 xs i).f0) ∧ w.cell? ⟨(ad.add (i.toNat * 2)).block, (ad.add (i.toNat * 2)).off + 1, none⟩ = some (.string (rd_T36 xs i).f1) := by
 obtain ⟨ad, c, e, _, hK, hc0⟩ := Kd.C_get h z36 i h0 h1;have hc : ∀ j u, c[j]? = some u → w.cell? (ad.add (i.toNat * 2 + j)) = some u := hc0;obtain rfl := k36_open hK;exact ⟨ad, e, hc 0 _ rfl, by rw [← add_field _ _ 1 om_]; exact hc 1 _ rfl⟩
theorem aB36_ {w w1 : World} {A : Option Addr} {n : Nat} {xs : List S36} (hb : Below w.heap.size w w1) (h : Kd.C k36 w A n xs) (i : Int) (h0 : decide (0 ≤ i) = true := by first | (with_reducible assumption) | assumption) (h1 : decide (i < (n : Int)) = true := by first | (with_reducible assumption) | assumption) : (0 ≤ i) = True ∧ (i < (n : Int)) = True ∧ ∃ ad, A = some ad ∧ w1.cell? (ad.add (i.toNat * 2)) = some (.string (rd_T36 xs i).f0) ∧ w1.cell? ⟨(ad.add (i.toNat * 2)).block, (ad.add (i.toNat * 2)).off + 1, none⟩ = some (.string (rd_T36 xs i).f1) := by
 obtain ⟨ad, e, x0, x1⟩ := at_T36 h i (of_decide_eq_true h0) (of_decide_eq_true h1);exact ⟨eq_true (of_decide_eq_true h0), eq_true (of_decide_eq_true h1), ad, e, cB_ hb x0, cB_ hb x1⟩
theorem aW36_ {w w1 : World} {A : Option Addr} {n : Nat} {xs : List S36} (hb : Below w.heap.size w w1) (h : Kd.C k36 w A n xs) (i : Int) (h0 : decide (0 ≤ i) = true := by first | (with_reducible assumption) | assumption) (h1 : decide (i < (n : Int)) = true := by first | (with_reducible assumption) | assumption) : (0 ≤ i) = True ∧ (i < (n : Int)) = True ∧ ∃ ad, A = some ad ∧ w.cell? (ad.add (i.toNat * 2)) = some (.string (rd_T36 xs i).f0) ∧ w.cell? ⟨(ad.add (i.toNat * 2)).block, (ad.add (i.toNat * 2)).off + 1, none⟩ = some (.string (rd_T36 xs i).f1) ∧ w1.cell? (ad.add (i.toNat * 2)) = some (.string (rd_T36 xs i).f0) ∧ w1.cell? ⟨(ad.add (i.toNat * 2)).block, (ad.add (i.toNat * 2)).off + 1, none⟩ = some (.string (rd_T36 xs i).f1) := by
 obtain ⟨ad, e, x0, x1⟩ := at_T36 h i (of_decide_eq_true h0) (of_decide_eq_true h1);exact ⟨eq_true (of_decide_eq_true h0), eq_true (of_decide_eq_true h1), ad, e, x0, x1, cB_ hb x0, cB_ hb x1⟩
structure S43 where
 f0 : Int
 f1 : Int
 f2 : ByteArray
 f3 : (List S36)
 f4 : ByteArray
 f5 : (List S43)
def z43 : S43 := ⟨(0 : Int), (0 : Int), (⟨#[]⟩ : BA), ([] : List S36), (⟨#[]⟩ : BA), ([] : List S43)⟩
def F43 (d : Kd S43) : Kd S43 := Kd.iso (Kd.pair (Kd.int .i64) (Kd.pair (Kd.int .i64) (Kd.pair Kd.string (Kd.pair (Kd.slice 36 k36) (Kd.pair Kd.string (Kd.slice 43 d)))))) (fun x : S43 => (x.f0, x.f1, x.f2, x.f3, x.f4, x.f5))
theorem mono43 : Kd.Mono F43 := Kd.mono_iso _ (Kd.mono_pair (Kd.mono_const _) (Kd.mono_pair (Kd.mono_const _) (Kd.mono_pair (Kd.mono_const _) (Kd.mono_pair (Kd.mono_const _) (Kd.mono_pair (Kd.mono_const _) (Kd.mono_slice 43 Kd.mono_id))))))
theorem sub43 : Kd.Sub F43 [36, 43] := Kd.sub_iso _ (Kd.sub_pair (Kd.sub_const _ de_) (Kd.sub_pair (Kd.sub_const _ de_) (Kd.sub_pair (Kd.sub_const _ de_) (Kd.sub_pair (Kd.sub_const _ de_) (Kd.sub_pair (Kd.sub_const _ de_) (Kd.sub_slice 43 de_ Kd.sub_id))))))
theorem sz43 : ∀ n, (Kd.upto F43 6 [36, 43] n).sz = 6 := Kd.upto_sz (fun _ => rfl)
def k43 : Kd S43 := Kd.fix F43 6 [36, 43] sz43 (Kd.upto_E sub43)
theorem k43_open {w : World} {x : S43} {cs : List Value} (h : k43.K w x cs) : ∃ A3 c3 A5 c5, cs = [.int .i64 x.f0, .int .i64 x.f1, .string x.f2, .slice A3 x.f3.length c3, .string x.f4, .slice A5 x.f5.length c5] ∧ x.f3.length ≤ c3 ∧ k36.C w A3 x.f3.length x.f3 ∧ x.f5.length ≤ c5 ∧ k43.C w A5 x.f5.length x.f5 := by
 obtain ⟨n, h⟩ := h;cases n with
 | zero => exact h.elim
 | succ n =>
  obtain ⟨_, _, rfl, rfl, ⟨_, _, rfl, rfl, ⟨_, _, rfl, rfl, ⟨_, _, rfl, ⟨A3, c3, rfl, l3, g3⟩, ⟨_, _, rfl, rfl, ⟨A5, c5, rfl, l5, g5⟩⟩⟩⟩⟩⟩ := h;exact ⟨A3, c3, A5, c5, rfl, l3, g3, l5, Kd.fix_C g5⟩
theorem k43_openM {w : World} {base : Nat} {ok : Nat → Prop} {x : S43} {cs : List Value} (h : k43.M w base ok x cs) : ∃ v3 v5, cs = [.int .i64 x.f0, .int .i64 x.f1, .string x.f2, v3, .string x.f4, v5] ∧ k36.R 36 w base ok v3 x.f3 ∧ k43.R 43 w base ok v5 x.f5 := by
 obtain ⟨n, h⟩ := h;cases n with
 | zero => exact h.elim
 | succ n =>
  obtain ⟨_, _, rfl, rfl, ⟨_, _, rfl, rfl, ⟨_, _, rfl, rfl, ⟨_, _, rfl, ⟨v3, rfl, g3⟩, ⟨_, _, rfl, rfl, ⟨v5, rfl, g5⟩⟩⟩⟩⟩⟩ := h;exact ⟨v3, v5, rfl, g3, Kd.fix_R g5⟩
theorem k43_mkM (w : World) (base : Nat) (ok : Nat → Prop) (x : S43) {v3 : Value} (g3 : k36.R 36 w base ok v3 x.f3) {v5 : Value} (g5 : k43.R 43 w base ok v5 x.f5) : k43.M w base ok x [.int .i64 x.f0, .int .i64 x.f1, .string x.f2, v3, .string x.f4, v5] := by
 obtain ⟨n5, q5⟩ := Kd.fix_R_back mono43 g5;have r5 := Kd.upto_R_le mono43 sz43 (show n5 ≤ n5 by omega) q5;exact ⟨n5 + 1, ⟨[.int .i64 x.f0], [.int .i64 x.f1, .string x.f2, v3, .string x.f4, v5], rfl, rfl, ⟨[.int .i64 x.f1], [.string x.f2, v3, .string x.f4, v5], rfl, rfl, ⟨[.string x.f2], [v3, .string x.f4, v5], rfl, rfl, ⟨[v3], [.string x.f4, v5], rfl, ⟨v3, rfl, g3⟩, ⟨[.string x.f4], [v5], rfl, rfl, ⟨v5, rfl, r5⟩⟩⟩⟩⟩⟩⟩
def rd_T43 (xs : List S43) (i : Int) : S43 := xs.getD i.toNat z43
theorem at_T43 {w : World} {A : Option Addr} {n : Nat} {xs : List S43} (h : Kd.C k43 w A n xs) (i : Int) (h0 : 0 ≤ i) (h1 : i < n) : ∃ ad A3 c3 A5 c5, A = some ad ∧ w.cell? (ad.add (i.toNat * 6)) = some (.int .i64 (rd_T43 xs i).f0) ∧ w.cell? ⟨(ad.add (i.toNat * 6)).block, (ad.add (i.toNat * 6)).off + 1, none⟩ = some (.int .i64 (rd_T43 xs i).f1) ∧ w.cell? ⟨(ad.add (i.toNat * 6)).block, (ad.add (i.toNat * 6)).off + 2, none⟩ = some (.string (rd_T43 xs i).f2) ∧ w.cell? ⟨(ad.add (i.toNat * 6)).block, (ad.add (i.toNat * 6)).off + 3, none⟩ = some (.slice A3 (rd_T43 xs i).f3.length c3) ∧ w.cell? ⟨(ad.add (i.toNat * 6)).block, (ad.add (i.toNat * 6)).off + 4, none⟩ = some (.string (rd_T43 xs i).f4) ∧ w.cell? ⟨(ad.add (i.toNat * 6)).block, (ad.add (i.toNat * 6)).off + 5, none⟩ = some (.slice A5 (rd_T43 xs i).f5.length c5) ∧ (rd_T43 xs i).f3.length ≤ c3 ∧ k36.C w A3 (rd_T43 xs i).f3.length (rd_T43 xs i).f3 ∧ (rd_T43 xs i).f5.length ≤ c5 ∧ k43.C w A5 (rd_T43 xs i).f5.length (rd_T43 xs i).f5 := by
 obtain ⟨ad, c, e, _, hK, hc0⟩ := Kd.C_get h z43 i h0 h1;have hc : ∀ j u, c[j]? = some u → w.cell? (ad.add (i.toNat * 6 + j)) = some u := hc0;obtain ⟨A3, c3, A5, c5, rfl, l3, g3, l5, g5⟩ := k43_open hK;exact ⟨ad, A3, c3, A5, c5, e, hc 0 _ rfl, by rw [← add_field _ _ 1 om_]; exact hc 1 _ rfl, by rw [← add_field _ _ 2 om_]; exact hc 2 _ rfl, by rw [← add_field _ _ 3 om_]; exact hc 3 _ rfl, by rw [← add_field _ _ 4 om_]; exact hc 4 _ rfl, by rw [← add_field _ _ 5 om_]; exact hc 5 _ rfl, l3, g3, l5, g5⟩
theorem aB43_ {w w1 : World} {A : Option Addr} {n : Nat} {xs : List S43} (hb : Below w.heap.size w w1) (h : Kd.C k43 w A n xs) (i : Int) (h0 : decide (0 ≤ i) = true := by first | (with_reducible assumption) | assumption) (h1 : decide (i < (n : Int)) = true := by first | (with_reducible assumption) | assumption) : (0 ≤ i) = True ∧ (i < (n : Int)) = True ∧ ∃ ad A3 c3 A5 c5, A = some ad ∧ w1.cell? (ad.add (i.toNat * 6)) = some (.int .i64 (rd_T43 xs i).f0) ∧ w1.cell? ⟨(ad.add (i.toNat * 6)).block, (ad.add (i.toNat * 6)).off + 1, none⟩ = some (.int .i64 (rd_T43 xs i).f1) ∧ w1.cell? ⟨(ad.add (i.toNat * 6)).block, (ad.add (i.toNat * 6)).off + 2, none⟩ = some (.string (rd_T43 xs i).f2) ∧ w1.cell? ⟨(ad.add (i.toNat * 6)).block, (ad.add (i.toNat * 6)).off + 3, none⟩ = some (.slice A3 (rd_T43 xs i).f3.length c3) ∧ w1.cell? ⟨(ad.add (i.toNat * 6)).block, (ad.add (i.toNat * 6)).off + 4, none⟩ = some (.string (rd_T43 xs i).f4) ∧ w1.cell? ⟨(ad.add (i.toNat * 6)).block, (ad.add (i.toNat * 6)).off + 5, none⟩ = some (.slice A5 (rd_T43 xs i).f5.length c5) ∧ As9 ((rd_T43 xs i).f3.length ≤ c3) ∧ As9 (k36.C w A3 (rd_T43 xs i).f3.length (rd_T43 xs i).f3) ∧ As9 ((rd_T43 xs i).f5.length ≤ c5) ∧ As9 (k43.C w A5 (rd_T43 xs i).f5.length (rd_T43 xs i).f5) := by
 obtain ⟨ad, A3, c3, A5, c5, e, x0, x1, x2, x3, x4, x5, y0, y1, y2, y3⟩ := at_T43 h i (of_decide_eq_true h0) (of_decide_eq_true h1);exact ⟨eq_true (of_decide_eq_true h0), eq_true (of_decide_eq_true h1), ad, A3, c3, A5, c5, e, cB_ hb x0, cB_ hb x1, cB_ hb x2, cB_ hb x3, cB_ hb x4, cB_ hb x5, ⟨y0⟩, ⟨y1⟩, ⟨y2⟩, ⟨y3⟩⟩
def strings_Index.f (a0 : BA) (a1 : BA) : Option Int := if a0.size < 4294967281 then some (Lib.index a0.data.toList a1.data.toList) else none
theorem strings_Index.calls (a0 : BA) (a1 : BA) (r : Int) (w : World) (hL : LibOk w) (h : strings_Index.f a0 a1 = some r) :
  Calls Tryz.prog 78 #[.string a0, .string a1] w fun e w' => e = .returned (.int .i64 r) ∧ Drawn0 w w' := by
 unfold strings_Index.f at h;have hs : a0.size < 4294967281 := by
  by_cases hs : a0.size < 4294967281
  ·exact hs
  ·rw [if_neg hs] at h; cases h
 rw [if_pos hs] at h;obtain rfl := sI_ h;obtain ⟨m, hm⟩ := hL.maxLen;exact (Tryz.strings_Index a0 a1 m w hs hm).mono fun e w' hh => ⟨hh.1, by rw [hh.2]; exact Drawn0.refl _⟩
def impl_inRange.f (a0 : Int) (a1 : Int) (a2 : Int) : Option (Bool) := if a0 ≥ a1 then (some (decide (a0 ≤ a2))) else (some false)
theorem impl_inRange.calls (a0 : Int) (a1 : Int) (a2 : Int) (r : Bool) (w : World) (h : impl_inRange.f a0 a1 a2 = some r) :
  Calls Tryz.prog 53 #[.int .i64 a0, .int .i64 a1, .int .i64 a2] w fun e w' => e = .returned (.bool r) ∧ Drawn0 w w' := by
 have H : (if a0 ≥ a1 then (some (decide (a0 ≤ a2))) else (some false)) = some r := h;clear h;rcases ic_ H with ⟨c4, H⟩ | ⟨c4, H⟩
 ·have c4b0 : decide (a1 ≤ a0) = true := dE_ c4;clear c4;obtain rfl := sI_ H;go_enter Tryz.func53, Tryz.ntmps53
  go_wp2
  go_ret
  exact ⟨e2_, d0_⟩
 ·have c4b0 : decide (a1 ≤ a0) = false := dF_ c4;clear c4;obtain rfl := sI_ H;go_enter Tryz.func53, Tryz.ntmps53
  go_wp2
  go_ret
  exact ⟨e2_, d0_⟩
def stringslite_HasPrefix.f (a0 : BA) (a1 : BA) : Option (Bool) := if (a0.size : Int) ≥ (a1.size : Int) then (if 0 ≤ (a1.size : Int) then (if (a1.size : Int) ≤ (a0.size : Int) then (some ((a0.extract 0 ((a1.size : Int) : Int).toNat).toList == a1.toList)) else (none)) else (none)) else (some false)
theorem stringslite_HasPrefix.calls (a0 : BA) (a1 : BA) (r : Bool) (w : World) (h : stringslite_HasPrefix.f a0 a1 = some r) :
  Calls Tryz.prog 125 #[.string a0, .string a1] w fun e w' => e = .returned (.bool r) ∧ Drawn0 w w' := by
 have H : (if (a0.size : Int) ≥ (a1.size : Int) then (if 0 ≤ (a1.size : Int) then (if (a1.size : Int) ≤ (a0.size : Int) then (some ((a0.extract 0 ((a1.size : Int) : Int).toNat).toList == a1.toList)) else (none)) else (none)) else (some false)) = some r := h;clear h;rcases ic_ H with ⟨c3, H⟩ | ⟨c3, H⟩
 ·have c3b0 : decide ((a1.size : Int) ≤ (a0.size : Int)) = true := dE_ c3;have c3b1 : decide (a1.size ≤ a0.size) = true := dE_ (Int.ofNat_le.mp c3);clear c3;obtain ⟨c4, H⟩ := ifn_ H;have c4b0 := eq_true c4;have c4b1 := dE_ c4;clear c4;obtain ⟨c5, H⟩ := ifn_ H;have c5b0 := eq_true c5;have c5b1 := dE_ c5;clear c5;obtain rfl := sI_ H;go_enter Tryz.func125, Tryz.ntmps125
  go_wp2
  go_ret
  exact ⟨e2_, d0_⟩
 ·have c3b0 : decide ((a1.size : Int) ≤ (a0.size : Int)) = false := dF_ c3;have c3b1 : decide (a1.size ≤ a0.size) = false := dF_ (fun h => c3 (Int.ofNat_le.mpr h));clear c3;obtain rfl := sI_ H;go_enter Tryz.func125, Tryz.ntmps125
  go_wp2
  go_ret
  exact ⟨e2_, d0_⟩
def strings_HasPrefix.f (a0 : BA) (a1 : BA) : Option (Bool) := (stringslite_HasPrefix.f a0 a1).bind fun t299 => (some t299)
theorem strings_HasPrefix.calls (a0 : BA) (a1 : BA) (r : Bool) (w : World) (h : strings_HasPrefix.f a0 a1 = some r) :
  Calls Tryz.prog 76 #[.string a0, .string a1] w fun e w' => e = .returned (.bool r) ∧ Drawn0 w w' := by
 have H : ((stringslite_HasPrefix.f a0 a1).bind fun t299 => (some t299)) = some r := h;clear h;obtain ⟨t299, A3, H⟩ := ob_ H;obtain rfl := sI_ H;go_enter Tryz.func76, Tryz.ntmps76
 go_wp2_with (first | ((with_reducible refine gC_ 125 ?_); refine gL_ 7 Tryz.func125 #[.string a0, .string a1] ?_; refine dm_ (stringslite_HasPrefix.calls a0 a1 t299 _ A3.out) fun nd => ?_))
 go_ret
 exact ⟨e2_, d0_⟩
def stringslite_CutPrefix.f (a0 : BA) (a1 : BA) : Option (ByteArray × Bool) := (stringslite_HasPrefix.f a0 a1).bind fun t300 => (if t300 = true then (if 0 ≤ (a1.size : Int) then (if (a1.size : Int) ≤ (a0.size : Int) then (some (a0.extract ((a1.size : Int) : Int).toNat a0.size, true)) else (none)) else (none)) else (some (a0, false)))
theorem stringslite_CutPrefix.calls (a0 : BA) (a1 : BA) (r1 : BA) (r2 : Bool) (w : World) (h : stringslite_CutPrefix.f a0 a1 = some (r1, r2)) :
  Calls Tryz.prog 115 #[.string a0, .string a1] w fun e w' => e = .returned (.tuple #[.string r1, .bool r2]) ∧ Drawn0 w w' := by
 have H : ((stringslite_HasPrefix.f a0 a1).bind fun t300 => (if t300 = true then (if 0 ≤ (a1.size : Int) then (if (a1.size : Int) ≤ (a0.size : Int) then (some (a0.extract ((a1.size : Int) : Int).toNat a0.size, true)) else (none)) else (none)) else (some (a0, false)))) = some (r1, r2) := h;clear h;obtain ⟨t300, A3, H⟩ := ob_ H;(try dsimp only at H)
 by_cases c4 : t300 = true
 ·subst c4;rw [if_pos rfl] at H;obtain ⟨c5, H⟩ := ifn_ H;have c5b0 := eq_true c5;have c5b1 := dE_ c5;clear c5;obtain ⟨c6, H⟩ := ifn_ H;have c6b0 := eq_true c6;have c6b1 := dE_ c6;clear c6;obtain ⟨rfl, rfl⟩ := pi_ H;go_enter Tryz.func115, Tryz.ntmps115
  go_wp2_with (first | ((with_reducible refine gC_ 125 ?_); refine gL_ 8 Tryz.func125 #[.string a0, .string a1] ?_; refine dm_ (stringslite_HasPrefix.calls a0 a1 true _ A3.out) fun nd => ?_))
  go_ret2
  exact ⟨e2_, d0_⟩
 ·replace c4 := bF_ c4;subst c4;rw [if_neg nF_] at H;obtain ⟨rfl, rfl⟩ := pi_ H;go_enter Tryz.func115, Tryz.ntmps115
  go_wp2_with (first | ((with_reducible refine gC_ 125 ?_); refine gL_ 8 Tryz.func125 #[.string a0, .string a1] ?_; refine dm_ (stringslite_HasPrefix.calls a0 a1 false _ A3.out) fun nd => ?_))
  go_ret2
  exact ⟨e2_, d0_⟩
def strings_CutPrefix.f (a0 : BA) (a1 : BA) : Option (ByteArray × Bool) := (stringslite_CutPrefix.f a0 a1).bind fun bt301 => (some (bt301.1, bt301.2))
theorem strings_CutPrefix.calls (a0 : BA) (a1 : BA) (r1 : BA) (r2 : Bool) (w : World) (h : strings_CutPrefix.f a0 a1 = some (r1, r2)) :
  Calls Tryz.prog 63 #[.string a0, .string a1] w fun e w' => e = .returned (.tuple #[.string r1, .bool r2]) ∧ Drawn0 w w' := by
 have H : ((stringslite_CutPrefix.f a0 a1).bind fun bt301 => (some (bt301.1, bt301.2))) = some (r1, r2) := h;clear h;obtain ⟨⟨t301, t302⟩, A3, H⟩ := ob_ H;(try dsimp only at H)
 obtain ⟨rfl, rfl⟩ := pi_ H;go_enter Tryz.func63, Tryz.ntmps63
 go_wp2_with (first | ((with_reducible refine gC_ 115 ?_); refine gL_ 8 Tryz.func115 #[.string a0, .string a1] ?_; refine dm_ (stringslite_CutPrefix.calls a0 a1 t301 t302 _ A3.out) fun nd => ?_))
 go_ret2
 exact ⟨e2_, d0_⟩
def stringslite_HasSuffix.f (a0 : BA) (a1 : BA) : Option (Bool) := if (a0.size : Int) ≥ (a1.size : Int) then (if 0 ≤ (wrap64 ((a0.size : Int) - (a1.size : Int))) then (if (wrap64 ((a0.size : Int) - (a1.size : Int))) ≤ (a0.size : Int) then (some ((a0.extract ((wrap64 ((a0.size : Int) - (a1.size : Int))) : Int).toNat a0.size).toList == a1.toList)) else (none)) else (none)) else (some false)
theorem stringslite_HasSuffix.calls (a0 : BA) (a1 : BA) (r : Bool) (w : World) (h : stringslite_HasSuffix.f a0 a1 = some r) :
  Calls Tryz.prog 124 #[.string a0, .string a1] w fun e w' => e = .returned (.bool r) ∧ Drawn0 w w' := by
 have H : (if (a0.size : Int) ≥ (a1.size : Int) then (if 0 ≤ (wrap64 ((a0.size : Int) - (a1.size : Int))) then (if (wrap64 ((a0.size : Int) - (a1.size : Int))) ≤ (a0.size : Int) then (some ((a0.extract ((wrap64 ((a0.size : Int) - (a1.size : Int))) : Int).toNat a0.size).toList == a1.toList)) else (none)) else (none)) else (some false)) = some r := h;clear h;rcases ic_ H with ⟨c3, H⟩ | ⟨c3, H⟩
 ·have c3b0 : decide ((a1.size : Int) ≤ (a0.size : Int)) = true := dE_ c3;have c3b1 : decide (a1.size ≤ a0.size) = true := dE_ (Int.ofNat_le.mp c3);clear c3;obtain ⟨ji4, hji4⟩ : ∃ j_ : Int, (wrap64 ((a0.size : Int) - (a1.size : Int))) = j_ := ⟨_, rfl⟩;replace H : (if 0 ≤ (ji4) then (if (ji4) ≤ (a0.size : Int) then (some ((a0.extract ((ji4) : Int).toNat a0.size).toList == a1.toList)) else (none)) else (none)) = some r := by first | (rw [hji4] at H; exact H) | (simp only [hji4] at H ⊢; exact H)
  have hji4w : (IntKind.i64.wrap ((a0.size : Int) - (a1.size : Int))) = ji4 := (i64_w _).trans hji4;obtain ⟨c5, H⟩ := ifn_ H;have c5b0 := eq_true c5;have c5b1 := dE_ c5;clear c5;obtain ⟨c6, H⟩ := ifn_ H;have c6b0 := eq_true c6;have c6b1 := dE_ c6;clear c6;obtain rfl := sI_ H;go_enter Tryz.func124, Tryz.ntmps124
  go_wp2
  go_ret
  exact ⟨by first | rfl | (simp; done) | (simp only [← hji4] <;> (first | rfl | simp)) | (simp [*]; done), d0_⟩
 ·have c3b0 : decide ((a1.size : Int) ≤ (a0.size : Int)) = false := dF_ c3;have c3b1 : decide (a1.size ≤ a0.size) = false := dF_ (fun h => c3 (Int.ofNat_le.mpr h));clear c3;obtain rfl := sI_ H;go_enter Tryz.func124, Tryz.ntmps124
  go_wp2
  go_ret
  exact ⟨e2_, d0_⟩
def strings_HasSuffix.f (a0 : BA) (a1 : BA) : Option (Bool) := (stringslite_HasSuffix.f a0 a1).bind fun t368 => (some t368)
theorem strings_HasSuffix.calls (a0 : BA) (a1 : BA) (r : Bool) (w : World) (h : strings_HasSuffix.f a0 a1 = some r) :
  Calls Tryz.prog 72 #[.string a0, .string a1] w fun e w' => e = .returned (.bool r) ∧ Drawn0 w w' := by
 have H : ((stringslite_HasSuffix.f a0 a1).bind fun t368 => (some t368)) = some r := h;clear h;obtain ⟨t368, A3, H⟩ := ob_ H;obtain rfl := sI_ H;go_enter Tryz.func72, Tryz.ntmps72
 go_wp2_with (first | ((with_reducible refine gC_ 124 ?_); refine gL_ 7 Tryz.func124 #[.string a0, .string a1] ?_; refine dm_ (stringslite_HasSuffix.calls a0 a1 t368 _ A3.out) fun nd => ?_))
 go_ret
 exact ⟨e2_, d0_⟩
def impl_SignOk.f (a0 : Int) : Option (Bool) := (impl_inRange.f a0 0 1114111).bind fun t212 => (if t212 = true then ((impl_inRange.f a0 55296 57343).bind fun t213 => (some (!t213))) else (some false))
theorem impl_SignOk.calls (a0 : Int) (r : Bool) (w : World) (h : impl_SignOk.f a0 = some r) :
  Calls Tryz.prog 120 #[.int .i64 a0] w fun e w' => e = .returned (.bool r) ∧ Drawn0 w w' := by
 have H : ((impl_inRange.f a0 0 1114111).bind fun t212 => (if t212 = true then ((impl_inRange.f a0 55296 57343).bind fun t213 => (some (!t213))) else (some false))) = some r := h;clear h;obtain ⟨t212, A2, H⟩ := ob_ H;(try dsimp only at H)
 by_cases c3 : t212 = true
 ·subst c3;rw [if_pos rfl] at H;obtain ⟨t213, A4, H⟩ := ob_ H;obtain rfl := sI_ H;go_enter Tryz.func120, Tryz.ntmps120
  go_wp2_with (first | ((with_reducible refine gC_ 53 ?_); refine gL_ 4 Tryz.func53 #[.int .i64 a0, .int .i64 0, .int .i64 1114111] ?_; refine dm_ (impl_inRange.calls a0 0 1114111 true _ A2.out) fun nd => ?_) | (go_at_call 53; (with_reducible refine (impl_inRange.calls a0 55296 57343 t213 _ A4.out).mono ?_); rintro e w' ⟨rfl, ⟨nd, rfl⟩⟩))
  go_ret
  exact ⟨e2_, d0_⟩
 ·replace c3 := bF_ c3;subst c3;rw [if_neg nF_] at H;obtain rfl := sI_ H;go_enter Tryz.func120, Tryz.ntmps120
  go_wp2_with (first | ((with_reducible refine gC_ 53 ?_); refine gL_ 4 Tryz.func53 #[.int .i64 a0, .int .i64 0, .int .i64 1114111] ?_; refine dm_ (impl_inRange.calls a0 0 1114111 false _ A2.out) fun nd => ?_))
  go_ret
  exact ⟨e2_, d0_⟩
def impl_IsText.f (a0 : Int) : Option (Bool) := if a0 = 9 then (some true) else (if a0 = 10 then (some true) else (if a0 = 13 then (some true) else ((impl_SignOk.f a0).bind fun t337 => (if t337 = true then (if a0 ≥ 32 then (if a0 = 65534 then (some false) else (some (a0 != 65535))) else (some false)) else (some false)))))
theorem impl_IsText.calls (a0 : Int) (r : Bool) (w : World) (h : impl_IsText.f a0 = some r) :
  Calls Tryz.prog 67 #[.int .i64 a0] w fun e w' => e = .returned (.bool r) ∧ Drawn0 w w' := by
 have H : (if a0 = 9 then (some true) else (if a0 = 10 then (some true) else (if a0 = 13 then (some true) else ((impl_SignOk.f a0).bind fun t337 => (if t337 = true then (if a0 ≥ 32 then (if a0 = 65534 then (some false) else (some (a0 != 65535))) else (some false)) else (some false)))))) = some r := h;clear h;rcases ic_ H with ⟨c2, H⟩ | ⟨c2, H⟩
 ·obtain ⟨c2b0, c2b1⟩ := be_ c2;clear c2;obtain rfl := sI_ H;go_enter Tryz.func67, Tryz.ntmps67
  go_wp2
  go_ret
  exact ⟨e2_, d0_⟩
 ·obtain ⟨c2b0, c2b1⟩ := bn_ c2;rcases ic_ H with ⟨c3, H⟩ | ⟨c3, H⟩
  ·obtain ⟨c3b0, c3b1⟩ := be_ c3;clear c3;obtain rfl := sI_ H;go_enter Tryz.func67, Tryz.ntmps67
   go_wp2
   go_ret
   exact ⟨e2_, d0_⟩
  ·obtain ⟨c3b0, c3b1⟩ := bn_ c3;rcases ic_ H with ⟨c4, H⟩ | ⟨c4, H⟩
   ·obtain ⟨c4b0, c4b1⟩ := be_ c4;clear c4;obtain rfl := sI_ H;go_enter Tryz.func67, Tryz.ntmps67
    go_wp2
    go_ret
    exact ⟨e2_, d0_⟩
   ·obtain ⟨c4b0, c4b1⟩ := bn_ c4;obtain ⟨t337, A5, H⟩ := ob_ H;(try dsimp only at H)
    by_cases c6 : t337 = true
    ·subst c6;rw [if_pos rfl] at H;rcases ic_ H with ⟨c7, H⟩ | ⟨c7, H⟩
     ·have c7b0 : decide (32 ≤ a0) = true := dE_ c7;clear c7;rcases ic_ H with ⟨c8, H⟩ | ⟨c8, H⟩
      ·obtain ⟨c8b0, c8b1⟩ := be_ c8;clear c8;obtain rfl := sI_ H;go_enter Tryz.func67, Tryz.ntmps67
       go_wp2_with (first | ((with_reducible refine gC_ 120 ?_); refine gL_ 14 Tryz.func120 #[.int .i64 a0] ?_; refine dm_ (impl_SignOk.calls a0 true _ A5.out) fun nd => ?_))
       go_ret
       exact ⟨e2_, d0_⟩
      ·obtain ⟨c8b0, c8b1⟩ := bn_ c8;obtain rfl := sI_ H;go_enter Tryz.func67, Tryz.ntmps67
       go_wp2_with (first | ((with_reducible refine gC_ 120 ?_); refine gL_ 14 Tryz.func120 #[.int .i64 a0] ?_; refine dm_ (impl_SignOk.calls a0 true _ A5.out) fun nd => ?_))
       go_ret
       exact ⟨e2_, d0_⟩
     ·have c7b0 : decide (32 ≤ a0) = false := dF_ c7;clear c7;obtain rfl := sI_ H;go_enter Tryz.func67, Tryz.ntmps67
      go_wp2_with (first | ((with_reducible refine gC_ 120 ?_); refine gL_ 14 Tryz.func120 #[.int .i64 a0] ?_; refine dm_ (impl_SignOk.calls a0 true _ A5.out) fun nd => ?_))
      go_ret
      exact ⟨e2_, d0_⟩
    ·replace c6 := bF_ c6;subst c6;rw [if_neg nF_] at H;obtain rfl := sI_ H;go_enter Tryz.func67, Tryz.ntmps67
     go_wp2_with (first | ((with_reducible refine gC_ 120 ?_); refine gL_ 14 Tryz.func120 #[.int .i64 a0] ?_; refine dm_ (impl_SignOk.calls a0 false _ A5.out) fun nd => ?_))
     go_ret
     exact ⟨e2_, d0_⟩
def impl_beginning.j0 : Nat → Int → Bool → Option (Int × Int × Int × Int)
 | 0, _, _ => none
 | k + 1, x0, x11 => if x11 = true then (some ((-1), 0, 0, 0)) else (if x0 < 224 then (some (1, wrap64 (Go.bits .and .u8 x0 31), 128, 191)) else (if x0 = 224 then (some (2, 0, 160, 191)) else (if x0 = 237 then (some (2, 13, 128, 159)) else (if x0 < 240 then (some (2, wrap64 (Go.bits .and .u8 x0 15), 128, 191)) else (if x0 = 240 then (some (3, 0, 144, 191)) else (if x0 = 244 then (some (3, 4, 128, 143)) else (some (3, wrap64 (Go.bits .and .u8 x0 7), 128, 191))))))))
def impl_beginning.f (k : Nat) (a0 : Int) : Option (Int × Int × Int × Int) := if a0 < 128 then (some (0, wrap64 (a0), 0, 0)) else (if a0 < 194 then (impl_beginning.j0 k a0 true) else (impl_beginning.j0 k a0 (decide (a0 > 244))))
theorem impl_beginning.mono_l : ∀ k, (∀ y0 y1, LeO (impl_beginning.j0 k y0 y1) (impl_beginning.j0 (k + 1) y0 y1))
 | 0 => fun _ _ r h => by simp [impl_beginning.j0] at h
 | k + 1 => by
  have ih0 := impl_beginning.mono_l k
  ·intro y0 y1;unfold impl_beginning.j0;with_reducible repeat' first | exact ih0 _ _ | apply LeO.refl | apply LeO.none | apply LeO.ite | apply LeO.bind | intro
theorem impl_beginning.mono : ∀ a0 k, LeO (impl_beginning.f k a0) (impl_beginning.f (k + 1) a0) := by
 intro a0 k;have ih0 := impl_beginning.mono_l k;unfold impl_beginning.f;with_reducible repeat' first | exact ih0 _ _ | apply LeO.refl | apply LeO.none | apply LeO.ite | apply LeO.bind | intro
theorem impl_beginning.calls (k : Nat) (a0 : Int) (r1 : Int) (r2 : Int) (r3 : Int) (r4 : Int) (w : World) (h : impl_beginning.f k a0 = some (r1, r2, r3, r4)) :
  Calls Tryz.prog 149 #[.int .u8 a0] w fun e w' => e = .returned (.tuple #[.int .i64 r1, .int .i64 r2, .int .u8 r3, .int .u8 r4]) ∧ Drawn0 w w' := by
 have H : (if a0 < 128 then (some (0, wrap64 (a0), 0, 0)) else (if a0 < 194 then (impl_beginning.j0 k a0 true) else (impl_beginning.j0 k a0 (decide (a0 > 244))))) = some (r1, r2, r3, r4) := h;clear h;rcases ic_ H with ⟨c2, H⟩ | ⟨c2, H⟩
 ·have c2b0 := dE_ c2;clear c2;simp only [Option.some.injEq, Prod.mk.injEq] at H;obtain ⟨rfl, rfl, rfl, rfl⟩ := H;go_enter Tryz.func149, Tryz.ntmps149
  go_wp2
  refine bodyPost_ret (results_list (rs := [.tmp 2, .tmp 3, .tmp 4, .tmp 5]) rfl si_ (.tmp (.tmp (.tmp (.tmp .nil))))) rfl ?_;exact ⟨e2_, d0_⟩
 ·have c2b0 := dF_ c2;clear c2;have HC3 := A_ H;clear H;go_enter Tryz.func149, Tryz.ntmps149
  go_upto_region 3 with (fail)
  go_cut [11] (fun v11 wc => ∃ (kq : Nat) (x11_2 : Bool), v11 = .bool x11_2 ∧ As9 (impl_beginning.j0 kq a0 x11_2 = some (r1, r2, r3, r4)) ∧ As9 (kq ≤ k) ∧ Drawn0 w wc)
  case first =>
   have H := HC3.out;clear HC3;rcases ic_ H with ⟨c4, H⟩ | ⟨c4, H⟩
   ·have c4b0 := dE_ c4;clear c4;(first | rw [c4b0] | (simp only [i64_w, i32_w]; rw [c4b0]) | skip)
    have H' := A_ H;clear H;go_wp2
    go_meet
    case rel => exact ⟨_, (true), e2_, H', ⟨by first | omega | exact Nat.le_refl _⟩, d0_⟩
   ·have c4b0 := dF_ c4;clear c4;(first | rw [c4b0] | (simp only [i64_w, i32_w]; rw [c4b0]) | skip)
    have H' := A_ H;clear H;go_wp2
    go_meet
    case rel => exact ⟨_, (decide (a0 > 244)), e2_, H', ⟨by first | omega | exact Nat.le_refl _⟩, d0_⟩
  case rest =>
   clear HC3;try clear c1
   try clear c2
   try clear c2b0
   try clear p2
   try clear c4
   try clear c4b0
   obtain ⟨kq, x11_2, rfl, HA, HJ2, ⟨mc2, rfl⟩⟩ := hcut;cases kq with
   | zero => exact absurd HA.out (by simp [impl_beginning.j0])
   | succ kj2 =>
    have H := HA.out;clear HA;simp only [impl_beginning.j0] at H;by_cases c5 : x11_2 = true
    ·subst c5;rw [if_pos rfl] at H;simp only [Option.some.injEq, Prod.mk.injEq] at H;obtain ⟨rfl, rfl, rfl, rfl⟩ := H;go_wp2
     refine bodyPost_ret (results_list (rs := [.tmp 2, .tmp 3, .tmp 4, .tmp 5]) rfl si_ (.tmp (.tmp (.tmp (.tmp .nil))))) rfl ?_;exact ⟨e2_, d0_⟩
    ·replace c5 := bF_ c5;subst c5;rw [if_neg nF_] at H;rcases ic_ H with ⟨c6, H⟩ | ⟨c6, H⟩
     ·have c6b0 := dE_ c6;clear c6;simp only [Option.some.injEq, Prod.mk.injEq] at H;obtain ⟨rfl, rfl, rfl, rfl⟩ := H;go_wp2
      refine bodyPost_ret (results_list (rs := [.tmp 2, .tmp 3, .tmp 4, .tmp 5]) rfl si_ (.tmp (.tmp (.tmp (.tmp .nil))))) rfl ?_;exact ⟨e2_, d0_⟩
     ·have c6b0 := dF_ c6;clear c6;rcases ic_ H with ⟨c7, H⟩ | ⟨c7, H⟩
      ·obtain ⟨c7b0, c7b1⟩ := be_ c7;clear c7;simp only [Option.some.injEq, Prod.mk.injEq] at H;obtain ⟨rfl, rfl, rfl, rfl⟩ := H;go_wp2
       refine bodyPost_ret (results_list (rs := [.tmp 2, .tmp 3, .tmp 4, .tmp 5]) rfl si_ (.tmp (.tmp (.tmp (.tmp .nil))))) rfl ?_;exact ⟨e2_, d0_⟩
      ·obtain ⟨c7b0, c7b1⟩ := bn_ c7;rcases ic_ H with ⟨c8, H⟩ | ⟨c8, H⟩
       ·obtain ⟨c8b0, c8b1⟩ := be_ c8;clear c8;simp only [Option.some.injEq, Prod.mk.injEq] at H;obtain ⟨rfl, rfl, rfl, rfl⟩ := H;go_wp2
        refine bodyPost_ret (results_list (rs := [.tmp 2, .tmp 3, .tmp 4, .tmp 5]) rfl si_ (.tmp (.tmp (.tmp (.tmp .nil))))) rfl ?_;exact ⟨e2_, d0_⟩
       ·obtain ⟨c8b0, c8b1⟩ := bn_ c8;rcases ic_ H with ⟨c9, H⟩ | ⟨c9, H⟩
        ·have c9b0 := dE_ c9;clear c9;simp only [Option.some.injEq, Prod.mk.injEq] at H;obtain ⟨rfl, rfl, rfl, rfl⟩ := H;go_wp2
         refine bodyPost_ret (results_list (rs := [.tmp 2, .tmp 3, .tmp 4, .tmp 5]) rfl si_ (.tmp (.tmp (.tmp (.tmp .nil))))) rfl ?_;exact ⟨e2_, d0_⟩
        ·have c9b0 := dF_ c9;clear c9;rcases ic_ H with ⟨c10, H⟩ | ⟨c10, H⟩
         ·obtain ⟨c10b0, c10b1⟩ := be_ c10;clear c10;simp only [Option.some.injEq, Prod.mk.injEq] at H;obtain ⟨rfl, rfl, rfl, rfl⟩ := H;go_wp2
          refine bodyPost_ret (results_list (rs := [.tmp 2, .tmp 3, .tmp 4, .tmp 5]) rfl si_ (.tmp (.tmp (.tmp (.tmp .nil))))) rfl ?_;exact ⟨e2_, d0_⟩
         ·obtain ⟨c10b0, c10b1⟩ := bn_ c10;rcases ic_ H with ⟨c11, H⟩ | ⟨c11, H⟩
          ·obtain ⟨c11b0, c11b1⟩ := be_ c11;clear c11;simp only [Option.some.injEq, Prod.mk.injEq] at H;obtain ⟨rfl, rfl, rfl, rfl⟩ := H;go_wp2
           refine bodyPost_ret (results_list (rs := [.tmp 2, .tmp 3, .tmp 4, .tmp 5]) rfl si_ (.tmp (.tmp (.tmp (.tmp .nil))))) rfl ?_;exact ⟨e2_, d0_⟩
          ·obtain ⟨c11b0, c11b1⟩ := bn_ c11;simp only [Option.some.injEq, Prod.mk.injEq] at H;obtain ⟨rfl, rfl, rfl, rfl⟩ := H;go_wp2
           refine bodyPost_ret (results_list (rs := [.tmp 2, .tmp 3, .tmp 4, .tmp 5]) rfl si_ (.tmp (.tmp (.tmp (.tmp .nil))))) rfl ?_;exact ⟨e2_, d0_⟩
def impl_getSign.l0 : Nat → ByteArray → Int → Int → Int → Int → Int → Int → Option (Int × Int)
 | 0, _, _, _, _, _, _, _ => none
 | k + 1, x0, x1, x6, x7, x8, x9, x10 => if x10 ≤ x6 then (if (wrap64 (x1 + x10)) ≥ (x0.size : Int) then (some (65533, x10)) else (if 0 ≤ (wrap64 (x1 + x10)) then (if (wrap64 (x1 + x10)) < (x0.size : Int) then (if (bt x0 (wrap64 (x1 + x10))) < x8 then (some (65533, x10)) else (if (bt x0 (wrap64 (x1 + x10))) > x9 then (some (65533, x10)) else (impl_getSign.l0 k x0 x1 x6 (Go.bits .or .i64 (wrap64 (x7 * 64)) (wrap64 (Go.bits .and .u8 (bt x0 (wrap64 (x1 + x10))) 63))) 128 191 (wrap64 (x10 + 1))))) else (none)) else (none))) else (some (x7, wrap64 (x6 + 1)))
def impl_getSign.f (k : Nat) (a0 : BA) (a1 : Int) : Option (Int × Int) := if 0 ≤ a1 then (if a1 < (a0.size : Int) then ((impl_beginning.f k (bt a0 a1)).bind fun bt233 => (if bt233.1 < 0 then (some (65533, 1)) else (impl_getSign.l0 k a0 a1 bt233.1 bt233.2.1 bt233.2.2.1 bt233.2.2.2 1))) else (none)) else (none)
theorem impl_getSign.mono_l : ∀ k, (∀ y0 y1 y2 y3 y4 y5 y6, LeO (impl_getSign.l0 k y0 y1 y2 y3 y4 y5 y6) (impl_getSign.l0 (k + 1) y0 y1 y2 y3 y4 y5 y6))
 | 0 => fun _ _ _ _ _ _ _ r h => by simp [impl_getSign.l0] at h
 | k + 1 => by
  have ih0 := impl_getSign.mono_l k
  ·intro y0 y1 y2 y3 y4 y5 y6;unfold impl_getSign.l0;with_reducible repeat' first | exact ih0 _ _ _ _ _ _ _ | exact impl_beginning.mono _ _ | apply LeO.refl | apply LeO.none | apply LeO.ite | apply LeO.bind | intro
theorem impl_getSign.mono : ∀ a0 a1 k, LeO (impl_getSign.f k a0 a1) (impl_getSign.f (k + 1) a0 a1) := by
 intro a0 a1 k;have ih0 := impl_getSign.mono_l k;unfold impl_getSign.f;with_reducible repeat' first | exact ih0 _ _ _ _ _ _ _ | exact impl_beginning.mono _ _ | apply LeO.refl | apply LeO.none | apply LeO.ite | apply LeO.bind | intro
theorem impl_getSign.calls (k : Nat) (a0 : BA) (a1 : Int) (r1 : Int) (r2 : Int) (w : World) (h : impl_getSign.f k a0 a1 = some (r1, r2)) :
  Calls Tryz.prog 106 #[.string a0, .int .i64 a1] w fun e w' => e = .returned (.tuple #[.int .i64 r1, .int .i64 r2]) ∧ Drawn0 w w' := by
 have H : (if 0 ≤ a1 then (if a1 < (a0.size : Int) then ((impl_beginning.f k (bt a0 a1)).bind fun bt233 => (if bt233.1 < 0 then (some (65533, 1)) else (impl_getSign.l0 k a0 a1 bt233.1 bt233.2.1 bt233.2.2.1 bt233.2.2.2 1))) else (none)) else (none)) = some (r1, r2) := h;clear h;obtain ⟨c3, H⟩ := ifn_ H;have c3b0 := dE_ c3;clear c3;obtain ⟨c4, H⟩ := ifn_ H;have c4b0 := dE_ c4;clear c4;obtain ⟨⟨t233, t234, t235, t236⟩, A6, H⟩ := ob_ H;(try dsimp only at H)
 rcases ic_ H with ⟨c7, H⟩ | ⟨c7, H⟩
 ·have c7b0 := dE_ c7;clear c7;obtain ⟨rfl, rfl⟩ := pi_ H;have p5 : 0 ≤ (a1 : Int) := dT_;have q5 : a1 < (a0.size : Int) := dT_;have hx5 := bt_at a0 a1;replace p5 := eq_true p5;replace q5 := eq_true q5;go_enter Tryz.func106, Tryz.ntmps106
  go_wp2_with (first | ((with_reducible refine gC_ 149 ?_); refine gL_ 15 Tryz.func149 #[.int .u8 (bt a0 a1)] ?_; refine dm_ (impl_beginning.calls k (bt a0 a1) t233 t234 t235 t236 _ A6.out) fun nd => ?_))
  go_ret2
  exact ⟨e2_, d0_⟩
 ·have c7b0 := dF_ c7;clear c7;have H' := A_ H;clear H;have p5 : 0 ≤ (a1 : Int) := dT_;have q5 : a1 < (a0.size : Int) := dT_;have hx5 := bt_at a0 a1;replace p5 := eq_true p5;replace q5 := eq_true q5;go_enter Tryz.func106, Tryz.ntmps106
  go_wp2_with (first | ((with_reducible refine gC_ 149 ?_); refine gL_ 15 Tryz.func149 #[.int .u8 (bt a0 a1)] ?_; refine dm_ (impl_beginning.calls k (bt a0 a1) t233 t234 t235 t236 _ A6.out) fun nd => ?_))
  go_loopg [7, 8, 9, 10] k (fun kq v7 v8 v9 v10 w' => ∃ (x7_1 : Int) (x8_1 : Int) (x9_1 : Int) (x10_1 : Int), v7 = .int .i64 x7_1 ∧ v8 = .int .u8 x8_1 ∧ v9 = .int .u8 x9_1 ∧ v10 = .int .i64 x10_1 ∧ As9 (impl_getSign.l0 kq a0 a1 t233 x7_1 x8_1 x9_1 x10_1 = some (r1, r2)) ∧ As9 (kq ≤ k) ∧ Drawn0 w w')
  case atStart => exact ⟨(t234), (t235), (t236), (1), e2_, e2_, e2_, e2_, H', ⟨Nat.le_refl _⟩, d0_⟩
  case round =>
   clear H';try clear c1
   try clear p2
   try clear c3
   try clear c3b0
   try clear c4
   try clear c4b0
   try clear p5
   try clear q5
   try clear hx5
   try clear c7
   try clear c7b0
   try clear p5
   try clear q5
   obtain ⟨x7_1, x8_1, x9_1, x10_1, rfl, rfl, rfl, rfl, HA, HK1, ⟨m1, rfl⟩⟩ := hrel;cases gk with
   | zero => exact absurd HA.out (by simp [impl_getSign.l0])
   | succ k1 =>
    have H := HA.out;clear HA;simp only [impl_getSign.l0] at H;rcases ic_ H with ⟨c8, H⟩ | ⟨c8, H⟩
    ·have c8b0 := dE_ c8;clear c8;rcases ic_ H with ⟨c9, H⟩ | ⟨c9, H⟩
     ·have c9b0 : decide ((a0.size : Int) ≤ (wrap64 (a1 + x10_1))) = true := dE_ c9;clear c9;obtain ⟨rfl, rfl⟩ := pi_ H;go_wp2
      go_ret2
      exact ⟨e2_, d0_⟩
     ·have c9b0 : decide ((a0.size : Int) ≤ (wrap64 (a1 + x10_1))) = false := dF_ c9;clear c9;obtain ⟨ji10, hji10⟩ : ∃ j_ : Int, (wrap64 (a1 + x10_1)) = j_ := ⟨_, rfl⟩;replace H : (if 0 ≤ (ji10) then (if (ji10) < (a0.size : Int) then (if (bt a0 (ji10)) < x8_1 then (some (65533, x10_1)) else (if (bt a0 (ji10)) > x9_1 then (some (65533, x10_1)) else (impl_getSign.l0 k1 a0 a1 t233 (Go.bits .or .i64 (wrap64 (x7_1 * 64)) (wrap64 (Go.bits .and .u8 (bt a0 (ji10)) 63))) 128 191 (wrap64 (x10_1 + 1))))) else (none)) else (none)) = some (r1, r2) := by first | (rw [hji10] at H; exact H) | (simp only [hji10] at H ⊢; exact H)
      (try rw [hji10] at c9b0)
      have hji10w : (IntKind.i64.wrap (a1 + x10_1)) = ji10 := (i64_w _).trans hji10;obtain ⟨c11, H⟩ := ifn_ H;have c11b0 := dE_ c11;clear c11;obtain ⟨c12, H⟩ := ifn_ H;have c12b0 := dE_ c12;clear c12;rcases ic_ H with ⟨c14, H⟩ | ⟨c14, H⟩
      ·have c14b0 := dE_ c14;clear c14;obtain ⟨rfl, rfl⟩ := pi_ H;have p13 : 0 ≤ ((ji10) : Int) := dT_;have q13 : (ji10) < (a0.size : Int) := dT_;have hx13 := bt_at a0 (ji10);replace p13 := eq_true p13;replace q13 := eq_true q13;go_wp2
       go_ret2
       exact ⟨by first | rfl | (simp; done) | (simp only [← hji10] <;> (first | rfl | simp)) | (simp [*]; done), d0_⟩
      ·have c14b0 := dF_ c14;clear c14;rcases ic_ H with ⟨c16, H⟩ | ⟨c16, H⟩
       ·have c16b0 : decide (x9_1 < (bt a0 (ji10))) = true := dE_ c16;clear c16;obtain ⟨rfl, rfl⟩ := pi_ H;have p13 : 0 ≤ ((ji10) : Int) := dT_;have q13 : (ji10) < (a0.size : Int) := dT_;have hx13 := bt_at a0 (ji10);replace p13 := eq_true p13;replace q13 := eq_true q13;have p15 : 0 ≤ ((ji10) : Int) := dT_;have q15 : (ji10) < (a0.size : Int) := dT_;have hx15 := bt_at a0 (ji10);replace p15 := eq_true p15;replace q15 := eq_true q15;go_wp2
        go_ret2
        exact ⟨by first | rfl | (simp; done) | (simp only [← hji10] <;> (first | rfl | simp)) | (simp [*]; done), d0_⟩
       ·have c16b0 : decide (x9_1 < (bt a0 (ji10))) = false := dF_ c16;clear c16;have H' := A_ H;clear H;have p13 : 0 ≤ ((ji10) : Int) := dT_;have q13 : (ji10) < (a0.size : Int) := dT_;have hx13 := bt_at a0 (ji10);replace p13 := eq_true p13;replace q13 := eq_true q13;have p15 : 0 ≤ ((ji10) : Int) := dT_;have q15 : (ji10) < (a0.size : Int) := dT_;have hx15 := bt_at a0 (ji10);replace p15 := eq_true p15;replace q15 := eq_true q15;have p17 : 0 ≤ ((ji10) : Int) := dT_;have q17 : (ji10) < (a0.size : Int) := dT_;have hx17 := bt_at a0 (ji10);replace p17 := eq_true p17;replace q17 := eq_true q17;go_wp2
        go_roundg k1
        case measure => have := HK1.out; omega
        case rel => exact ⟨(Go.bits .or .i64 (wrap64 (x7_1 * 64)) (wrap64 (Go.bits .and .u8 (bt a0 (ji10)) 63))), (128), (191), (wrap64 (x10_1 + 1)), (by first | rfl | (simp; done) | (simp only [← hji10] <;> (first | rfl | simp)) | (simp [*]; done)), e2_, e2_, e2_, H', ⟨by have := HK1.out; omega⟩, d0_⟩
    ·have c8b0 := dF_ c8;clear c8;obtain ⟨rfl, rfl⟩ := pi_ H;go_wp2
     go_ret2
     exact ⟨e2_, d0_⟩
def impl_Signs.l0 : Nat → ByteArray → List Int → Int → Option (List Int)
 | 0, _, _, _ => none
 | k + 1, x0, x3, x4 => if x4 < (x0.size : Int) then ((impl_getSign.f k x0 x4).bind fun bt389 => (if x3.length < 17592186044416 then (impl_Signs.l0 k x0 (x3 ++ [bt389.1]) (wrap64 (x4 + bt389.2))) else (none))) else (some x3)
def impl_Signs.f (k : Nat) (a0 : BA) : Option (List Int) := impl_Signs.l0 k a0 ([] : List Int) 0
theorem impl_Signs.mono_l : ∀ k, (∀ y0 y1 y2, LeO (impl_Signs.l0 k y0 y1 y2) (impl_Signs.l0 (k + 1) y0 y1 y2))
 | 0 => fun _ _ _ r h => by simp [impl_Signs.l0] at h
 | k + 1 => by
  have ih0 := impl_Signs.mono_l k
  ·intro y0 y1 y2;unfold impl_Signs.l0;with_reducible repeat' first | exact ih0 _ _ _ | exact impl_getSign.mono _ _ _ | apply LeO.refl | apply LeO.none | apply LeO.ite | apply LeO.bind | intro
theorem impl_Signs.mono : ∀ a0 k, LeO (impl_Signs.f k a0) (impl_Signs.f (k + 1) a0) := by
 intro a0 k;have ih0 := impl_Signs.mono_l k;unfold impl_Signs.f;with_reducible repeat' first | exact ih0 _ _ _ | exact impl_getSign.mono _ _ _ | apply LeO.refl | apply LeO.none | apply LeO.ite | apply LeO.bind | intro
theorem impl_Signs.calls (k : Nat) (a0 : BA) (r : List Int) (w : World) (h : impl_Signs.f k a0 = some r) :
  Calls Tryz.prog 82 #[.string a0] w fun e w' => ∃ v0_ : Value, e = .returned (v0_) ∧ Kd.R (Kd.int .i64) 3 w' w.heap.size (fun _ => True) v0_ r ∧ Below w.heap.size w w' := by
 have HB := A_ (Below.refl w.heap.size w);have H : (impl_Signs.l0 k a0 ([] : List Int) 0) = some r := h;clear h;have H' := A_ H;clear H;go_enter Tryz.func82, Tryz.ntmps82
 go_wp2
 go_loopg [3, 4] k (fun kq v3 v4 w' => ∃ (x3_1 : List Int) (x4_1 : Int), v4 = .int .i64 x4_1 ∧ As9 (impl_Signs.l0 kq a0 x3_1 x4_1 = some r) ∧ As9 (kq ≤ k) ∧ As9 (Kd.R (Kd.int .i64) 3 w' w.heap.size (fun _ => True) v3 x3_1) ∧ As9 (Below w.heap.size w w'))
 case atStart => exact ⟨(([] : List Int)), (0), e2_, H', ⟨Nat.le_refl _⟩, ⟨by first | exact Kd.R_nil _ _ _ _ _ | exact Kd.N_nil _ _ _ _ _ | exact Kd.V_nil _ _ _ _ _ | exact Kd.Q_nil _ _ _ _ _ | exact Kd.S_nil _ _ _ _ _⟩, ⟨hB_⟩⟩
 case round =>
  clear H';obtain ⟨x3_1, x4_1, rfl, HA, HK1, HO_3, HB⟩ := hrel;cases gk with
  | zero => exact absurd HA.out (by simp [impl_Signs.l0])
  | succ k1 =>
   have H := HA.out;clear HA;simp only [impl_Signs.l0] at H;rcases ic_ H with ⟨c2, H⟩ | ⟨c2, H⟩
   ·have c2b0 := dE_ c2;clear c2;obtain ⟨⟨t389, t390⟩, A3, H⟩ := ob_ H;(try dsimp only at H)
    obtain ⟨c4, H⟩ := ifn_ H;have LMc4 := A_ c4;clear c4;obtain ⟨y391, hy391⟩ : ∃ y_ : List Int, y_ = (x3_1 ++ [t389]) := ⟨_, rfl⟩;replace H : (impl_Signs.l0 k1 a0 y391 (wrap64 (x4_1 + t390))) = some r := by first | (rw [hy391]; with_reducible exact H) | (have H2_ := (Option.bind_some _ _).symm.trans H; rw [hy391]; with_reducible exact H2_) | (have H2_ := (Option.bind_some _ _).symm.trans H; with_reducible exact H2_) | with_reducible exact H | (rw [hy391]; exact H) | exact H
    have Ny391 := A_ hy391;clear hy391;have H' := A_ H;clear H;go_wp2_with (first | ((with_reducible refine gC_ 106 ?_); refine gL_ 14 Tryz.func106 #[.string a0, .int .i64 x4_1] ?_; refine dm_ (impl_getSign.calls k1 a0 x4_1 t389 t390 _ A3.out) fun nd => ?_) | ((with_reducible refine gate_builtin (b := .append) (xs := #[.tmp 17, .tmp 19]) rfl ?_); at_builtin; refine Kd.R_append (Kd.int .i64) (w0 := w) w.heap.size rfl (.tmp 17) (.tmp 19) 85 3 (.int .i64 0) 8 rfl Tryz.underlying85 info3 rfl de_ om_ u3 x3_1 t389 [.int .i64 t389] (fun _ => True) (fun _ => False) rfl rfl ?aP (fun _ hk => hk.elim) ?aF ?aO ?aB ?aS ?aL ?_; (case aP => exact rfl); (case aB => exact hB_); (case aF => exact (fun _ _ => trivial)); (case aO => exact (kQ_ HO_3.out)); (case aS => exact (below_size hB_)); (case aL => have := LMc4.out; omega); intro v392 w5 ho hb hg hat; rw [← Ny391.out] at ho; replace HB := A_ (hb); have HO393 := A_ (ho); clear HO_3; clear ho hb hg hat))
    go_roundg k1
    case measure => have := HK1.out; omega
    case rel => exact ⟨(y391), (wrap64 (x4_1 + t390)), e2_, H', ⟨by have := HK1.out; omega⟩, ⟨kQ_ HO393.out⟩, ⟨hB_⟩⟩
   ·have c2b0 := dF_ c2;clear c2;obtain rfl := sI_ H;go_wp2
    go_ret
    exact ⟨_, e1_, kQ_ HO_3.out, hB_⟩
def impl_follow.f (a0 : Int) (a1 : Int) : Option (Int) := if 0 ≤ (IntKind.u64.wrap (a1)) then (some ((Go.bits .or .i64 128 (Go.bits .and .i64 (shr .i64 a0 (IntKind.u64.wrap (a1))) 63)) % 256)) else (none)
theorem impl_follow.calls (a0 : Int) (a1 : Int) (r : Int) (w : World) (h : impl_follow.f a0 a1 = some r) :
  Calls Tryz.prog 121 #[.int .i64 a0, .int .i64 a1] w fun e w' => e = .returned (.int .u8 r) ∧ Drawn0 w w' := by
 have H : (if 0 ≤ (IntKind.u64.wrap (a1)) then (some ((Go.bits .or .i64 128 (Go.bits .and .i64 (shr .i64 a0 (IntKind.u64.wrap (a1))) 63)) % 256)) else (none)) = some r := h;clear h;obtain ⟨ji3, hji3⟩ : ∃ j_ : Int, (IntKind.u64.wrap (a1)) = j_ := ⟨_, rfl⟩;replace H : (if 0 ≤ (ji3) then (some ((Go.bits .or .i64 128 (Go.bits .and .i64 (shr .i64 a0 (ji3)) 63)) % 256)) else (none)) = some r := by first | (rw [hji3] at H; exact H) | (simp only [hji3] at H ⊢; exact H)
 obtain ⟨c4, H⟩ := ifn_ H;have c4b0 := eq_true c4;have c4b1 := dE_ c4;clear c4;obtain ⟨ji5, hji5⟩ : ∃ j_ : Int, (shr .i64 a0 (ji3)) = j_ := ⟨_, rfl⟩;replace H : (some ((Go.bits .or .i64 128 (Go.bits .and .i64 (ji5) 63)) % 256)) = some r := by first | (rw [hji5] at H; exact H) | (simp only [hji5] at H ⊢; exact H)
 have hji5_ : (a0 / 2 ^ min (ji3).toNat 64) = ji5 := hji5;have hji5z : (ji3) ≤ 64 → (a0 / 2 ^ (ji3).toNat) = ji5 := shr_small hji5;obtain rfl := sI_ H;go_enter Tryz.func121, Tryz.ntmps121
 go_wp2
 go_ret
 exact ⟨by first | rfl | (simp; done) | (simp only [← hji3, ← hji5] <;> (first | rfl | simp)) | (simp [*]; done), d0_⟩
def impl_PutSign.j0 : Nat → Int → Option (ByteArray)
 | 0, _ => none
 | k + 1, x0 => if x0 < 128 then (some (strOfNums (([(x0) % 256] : List Int)))) else (if x0 < 2048 then ((impl_follow.f x0 0).bind fun t218 => (some (strOfNums (([(Go.bits .or .i64 192 (x0 / 64)) % 256, t218] : List Int))))) else (if x0 < 65536 then ((impl_follow.f x0 6).bind fun t222 => ((impl_follow.f x0 0).bind fun t223 => (some (strOfNums (([(Go.bits .or .i64 224 (x0 / 4096)) % 256, t222, t223] : List Int)))))) else ((impl_follow.f x0 12).bind fun t227 => ((impl_follow.f x0 6).bind fun t228 => ((impl_follow.f x0 0).bind fun t229 => (some (strOfNums (([(Go.bits .or .i64 240 (x0 / 262144)) % 256, t227, t228, t229] : List Int)))))))))
def impl_PutSign.f (k : Nat) (a0 : Int) : Option (ByteArray) := (impl_SignOk.f a0).bind fun t214 => (if t214 = true then (impl_PutSign.j0 k a0) else (impl_PutSign.j0 k 65533))
theorem impl_PutSign.mono_l : ∀ k, (∀ y0, LeO (impl_PutSign.j0 k y0) (impl_PutSign.j0 (k + 1) y0))
 | 0 => fun _ r h => by simp [impl_PutSign.j0] at h
 | k + 1 => by
  have ih0 := impl_PutSign.mono_l k
  ·intro y0;unfold impl_PutSign.j0;with_reducible repeat' first | exact ih0 _ | apply LeO.refl | apply LeO.none | apply LeO.ite | apply LeO.bind | intro
theorem impl_PutSign.mono : ∀ a0 k, LeO (impl_PutSign.f k a0) (impl_PutSign.f (k + 1) a0) := by
 intro a0 k;have ih0 := impl_PutSign.mono_l k;unfold impl_PutSign.f;with_reducible repeat' first | exact ih0 _ | apply LeO.refl | apply LeO.none | apply LeO.ite | apply LeO.bind | intro
theorem impl_PutSign.calls (k : Nat) (a0 : Int) (r : BA) (w : World) (h : impl_PutSign.f k a0 = some r) :
  Calls Tryz.prog 68 #[.int .i64 a0] w fun e w' => e = .returned (.string r) ∧ Below w.heap.size w w' := by
 have HB := A_ (Below.refl w.heap.size w);have H : ((impl_SignOk.f a0).bind fun t214 => (if t214 = true then (impl_PutSign.j0 k a0) else (impl_PutSign.j0 k 65533))) = some r := h;clear h;obtain ⟨t214, A2, H⟩ := ob_ H;(try dsimp only at H)
 have HC3 := A_ H;clear H;go_enter Tryz.func68, Tryz.ntmps68
 go_upto_if 5 with (first | ((with_reducible refine gC_ 120 ?_); refine gL_ 4 Tryz.func120 #[.int .i64 a0] ?_; refine dm_ (impl_SignOk.calls a0 t214 _ A2.out) fun nd => ?_))
 (try simp only [Act.put, List.setIfInBounds_toArray, List.set_cons_zero, List.set_cons_succ])
 go_cut [0] (fun v0 wc => ∃ (kq : Nat) (x0_2 : Int), v0 = .int .i64 x0_2 ∧ As9 (impl_PutSign.j0 kq x0_2 = some r) ∧ As9 (kq ≤ k) ∧ As9 (Below w.heap.size w wc))
 case first =>
  have H := HC3.out;clear HC3;by_cases c4 : t214 = true
  ·subst c4;rw [if_pos rfl] at H;have H' := A_ H;clear H;go_wp2
   go_meet
   case rel => exact ⟨_, (a0), e2_, H', ⟨by first | omega | exact Nat.le_refl _⟩, ⟨hB_⟩⟩
  ·replace c4 := bF_ c4;subst c4;rw [if_neg nF_] at H;have H' := A_ H;clear H;go_wp2
   go_meet
   case rel => exact ⟨_, (65533), e2_, H', ⟨by first | omega | exact Nat.le_refl _⟩, ⟨hB_⟩⟩
 case rest =>
  clear HC3;try clear c1
  try clear p2
  try clear c4
  obtain ⟨kq, x0_2, rfl, HA, HJ2, HB⟩ := hcut;cases kq with
  | zero => exact absurd HA.out (by simp [impl_PutSign.j0])
  | succ kj2 =>
   have H := HA.out;clear HA;simp only [impl_PutSign.j0] at H;rcases ic_ H with ⟨c5, H⟩ | ⟨c5, H⟩
   ·have c5b0 := dE_ c5;clear c5;obtain ⟨y215, hy215⟩ : ∃ y_ : List Int, y_ = (([(x0_2) % 256] : List Int)) := ⟨_, rfl⟩;replace H : (some (strOfNums y215)) = some r := by first | (rw [hy215]; with_reducible exact H) | (have H2_ := (Option.bind_some _ _).symm.trans H; rw [hy215]; with_reducible exact H2_) | (have H2_ := (Option.bind_some _ _).symm.trans H; with_reducible exact H2_) | with_reducible exact H | (rw [hy215]; exact H) | exact H
    have Ny215 := A_ hy215;clear hy215;obtain rfl := sI_ H;go_wp2_with (first | ((with_reducible refine gate_dst (N := 11) rfl ?_); refine rl_ (Kd.int .u8) 5 11 [(x0_2) % 256] [.int .u8 ((x0_2) % 256)] ?_; intro v216 w6 ho7 hb hg_ hnew_; clear hg_ hnew_; (first | rw [← Ny215.out] at ho7 | (simp only [Int.reduceToNat] at ho7; rw [← Ny215.out] at ho7)); have HO217 := A_ (Kd.R_lower ho7 (below_size hB_)); replace HB := bS_ hb; clear hb ho7; have hcv8 := own_string (P := Tryz.prog) Tryz.underlying22 Tryz.underlying5 Tryz.underlying9 (Kd.own_of_R HO217.out)))
    go_ret
    exact ⟨e1_, hB_⟩
   ·have c5b0 := dF_ c5;clear c5;rcases ic_ H with ⟨c9, H⟩ | ⟨c9, H⟩
    ·have c9b0 := dE_ c9;clear c9;obtain ⟨t218, A10, H⟩ := ob_ H;(try dsimp only at H)
     obtain ⟨y219, hy219⟩ : ∃ y_ : List Int, y_ = (([(Go.bits .or .i64 192 (x0_2 / 64)) % 256, t218] : List Int)) := ⟨_, rfl⟩;replace H : (some (strOfNums y219)) = some r := by first | (rw [hy219]; with_reducible exact H) | (have H2_ := (Option.bind_some _ _).symm.trans H; rw [hy219]; with_reducible exact H2_) | (have H2_ := (Option.bind_some _ _).symm.trans H; with_reducible exact H2_) | with_reducible exact H | (rw [hy219]; exact H) | exact H
     have Ny219 := A_ hy219;clear hy219;obtain rfl := sI_ H;go_wp2_with (first | ((with_reducible refine gC_ 121 ?_); refine gL_ 21 Tryz.func121 #[.int .i64 x0_2, .int .i64 0] ?_; refine dm_ (impl_follow.calls x0_2 0 t218 _ A10.out) fun nd => ?_) | ((with_reducible refine gate_dst (N := 22) rfl ?_); refine rl_ (Kd.int .u8) 5 22 [(Go.bits .or .i64 192 (x0_2 / 64)) % 256, t218] [.int .u8 ((Go.bits .or .i64 192 (x0_2 / 64)) % 256), .int .u8 t218] ?_; intro v220 w11 ho12 hb hg_ hnew_; clear hg_ hnew_; (first | rw [← Ny219.out] at ho12 | (simp only [Int.reduceToNat] at ho12; rw [← Ny219.out] at ho12)); have HO221 := A_ (Kd.R_lower ho12 (below_size hB_)); replace HB := bS_ hb; clear hb ho12; have hcv13 := own_string (P := Tryz.prog) Tryz.underlying22 Tryz.underlying5 Tryz.underlying9 (Kd.own_of_R HO221.out)))
     go_ret
     exact ⟨e1_, hB_⟩
    ·have c9b0 := dF_ c9;clear c9;rcases ic_ H with ⟨c14, H⟩ | ⟨c14, H⟩
     ·have c14b0 := dE_ c14;clear c14;obtain ⟨t222, A15, H⟩ := ob_ H;obtain ⟨t223, A16, H⟩ := ob_ H;(try dsimp only at H)
      obtain ⟨y224, hy224⟩ : ∃ y_ : List Int, y_ = (([(Go.bits .or .i64 224 (x0_2 / 4096)) % 256, t222, t223] : List Int)) := ⟨_, rfl⟩;replace H : (some (strOfNums y224)) = some r := by first | (rw [hy224]; with_reducible exact H) | (have H2_ := (Option.bind_some _ _).symm.trans H; rw [hy224]; with_reducible exact H2_) | (have H2_ := (Option.bind_some _ _).symm.trans H; with_reducible exact H2_) | with_reducible exact H | (rw [hy224]; exact H) | exact H
      have Ny224 := A_ hy224;clear hy224;obtain rfl := sI_ H;go_wp2_with (first | ((with_reducible refine gC_ 121 ?_); refine gL_ 32 Tryz.func121 #[.int .i64 x0_2, .int .i64 6] ?_; refine dm_ (impl_follow.calls x0_2 6 t222 _ A15.out) fun nd => ?_) | ((with_reducible refine gC_ 121 ?_); refine gL_ 34 Tryz.func121 #[.int .i64 x0_2, .int .i64 0] ?_; refine dm_ (impl_follow.calls x0_2 0 t223 _ A16.out) fun nd => ?_) | ((with_reducible refine gate_dst (N := 35) rfl ?_); refine rl_ (Kd.int .u8) 5 35 [(Go.bits .or .i64 224 (x0_2 / 4096)) % 256, t222, t223] [.int .u8 ((Go.bits .or .i64 224 (x0_2 / 4096)) % 256), .int .u8 t222, .int .u8 t223] ?_; intro v225 w17 ho18 hb hg_ hnew_; clear hg_ hnew_; (first | rw [← Ny224.out] at ho18 | (simp only [Int.reduceToNat] at ho18; rw [← Ny224.out] at ho18)); have HO226 := A_ (Kd.R_lower ho18 (below_size hB_)); replace HB := bS_ hb; clear hb ho18; have hcv19 := own_string (P := Tryz.prog) Tryz.underlying22 Tryz.underlying5 Tryz.underlying9 (Kd.own_of_R HO226.out)))
      go_ret
      exact ⟨e1_, hB_⟩
     ·have c14b0 := dF_ c14;clear c14;obtain ⟨t227, A20, H⟩ := ob_ H;obtain ⟨t228, A21, H⟩ := ob_ H;obtain ⟨t229, A22, H⟩ := ob_ H;(try dsimp only at H)
      obtain ⟨y230, hy230⟩ : ∃ y_ : List Int, y_ = (([(Go.bits .or .i64 240 (x0_2 / 262144)) % 256, t227, t228, t229] : List Int)) := ⟨_, rfl⟩;replace H : (some (strOfNums y230)) = some r := by first | (rw [hy230]; with_reducible exact H) | (have H2_ := (Option.bind_some _ _).symm.trans H; rw [hy230]; with_reducible exact H2_) | (have H2_ := (Option.bind_some _ _).symm.trans H; with_reducible exact H2_) | with_reducible exact H | (rw [hy230]; exact H) | exact H
      have Ny230 := A_ hy230;clear hy230;obtain rfl := sI_ H;go_wp2_with (first | ((with_reducible refine gC_ 121 ?_); refine gL_ 42 Tryz.func121 #[.int .i64 x0_2, .int .i64 12] ?_; refine dm_ (impl_follow.calls x0_2 12 t227 _ A20.out) fun nd => ?_) | ((with_reducible refine gC_ 121 ?_); refine gL_ 44 Tryz.func121 #[.int .i64 x0_2, .int .i64 6] ?_; refine dm_ (impl_follow.calls x0_2 6 t228 _ A21.out) fun nd => ?_) | ((with_reducible refine gC_ 121 ?_); refine gL_ 46 Tryz.func121 #[.int .i64 x0_2, .int .i64 0] ?_; refine dm_ (impl_follow.calls x0_2 0 t229 _ A22.out) fun nd => ?_) | ((with_reducible refine gate_dst (N := 47) rfl ?_); refine rl_ (Kd.int .u8) 5 47 [(Go.bits .or .i64 240 (x0_2 / 262144)) % 256, t227, t228, t229] [.int .u8 ((Go.bits .or .i64 240 (x0_2 / 262144)) % 256), .int .u8 t227, .int .u8 t228, .int .u8 t229] ?_; intro v231 w23 ho24 hb hg_ hnew_; clear hg_ hnew_; (first | rw [← Ny230.out] at ho24 | (simp only [Int.reduceToNat] at ho24; rw [← Ny230.out] at ho24)); have HO232 := A_ (Kd.R_lower ho24 (below_size hB_)); replace HB := bS_ hb; clear hb ho24; have hcv25 := own_string (P := Tryz.prog) Tryz.underlying22 Tryz.underlying5 Tryz.underlying9 (Kd.own_of_R HO232.out)))
      go_ret
      exact ⟨e1_, hB_⟩
def sgF (ps : Int → Option ByteArray) : List Int → List UInt8 → Option ByteArray
 | [], o => some ⟨o.toArray⟩
 | n :: r, o => (ps n).bind fun t => if o.length + t.size ≤ 140737488355327 then sgF ps r (o ++ t.data.toList) else none
theorem sgF_mono {ps qs : Int → Option ByteArray} (h : ∀ n, LeO (ps n) (qs n)) : ∀ l o, LeO (sgF ps l o) (sgF qs l o)
 | [], o => LeO.refl _
 | n :: r, o => by
  rw [sgF, sgF];exact LeO.bind (h n) (fun t => LeO.ite (sgF_mono h r _) (LeO.refl _))
def impl_SignText.f (k : Nat) (l0 : List Int) : Option ByteArray := sgF (impl_PutSign.f k) l0 []
theorem impl_SignText.mono : ∀ a0 k, LeO (impl_SignText.f k a0) (impl_SignText.f (k + 1) a0) := fun a0 k => sgF_mono (fun n => impl_PutSign.mono n k) a0 []
theorem drop_rd (l : List Int) (j : Int) (h0 : 0 ≤ j) (h : j < (l.length : Int)) : l.drop j.toNat = rd l j :: l.drop (j + 1).toNat := by
 rw [List.drop_eq_getElem_cons (show j.toNat < l.length by omega), show (j + 1).toNat = j.toNat + 1 by omega];congr 1
 unfold rd;rw [List.getD_eq_getElem?_getD, List.getElem?_eq_getElem (show j.toNat < l.length by omega)];rfl
theorem impl_SignText.calls (k : Nat) (A0 : Option Addr) (c0 : Nat) (l0 : List Int) (r : BA) (w : World) (hr0 : Kd.C (Kd.int .i64) w A0 l0.length l0) (hc0 : l0.length ≤ c0) (h : impl_SignText.f k l0 = some r) :
  Calls Tryz.prog 167 #[.slice A0 l0.length c0] w fun e w' => e = .returned (.string r) ∧ Below w.heap.size w w' := by
 have HH : As9 (sgF (impl_PutSign.f k) (l0.drop (0 : Int).toNat) [] = some r) := ⟨h⟩;have HR := A_ hr0;have HKM := A_ (Kd.C_max hr0);clear h hr0 hc0;have hu := Tryz.underlying79;have HN := A_ (bld_new w);have HB := A_ (bA9 (Below.refl _ _) (.cells #[.pointer none, .slice none 0 0] 79 (0, 0)) : Below w.heap.size w _);go_enter Tryz.func167, Tryz.ntmps167
 go_wp2
 go_loopg [8] l0.length (fun kq v8 wr => ∃ (out : List UInt8) (j : Int), v8 = .int .i64 j ∧ 0 ≤ j ∧ j ≤ (l0.length : Int) ∧ As9 (kq = l0.length - j.toNat) ∧ As9 (sgF (impl_PutSign.f k) (l0.drop j.toNat) out = some r) ∧ As9 (Bld w.heap.size w.heap.size (Lib.byteCells out) wr) ∧ As9 (Below w.heap.size w wr))
 case atStart => exact ⟨[], 0, rfl, Int.le_refl _, om_, ⟨rfl⟩, HH, HN, HB⟩
 case round =>
  clear HH HN HB;obtain ⟨out, j, rfl, j0, hj, HE, HG, HO, HB⟩ := hrel;have hkm := HKM.out;by_cases hlt : j < (l0.length : Int)
  ·obtain ⟨ad, eA, x0⟩ := Kd.at_int HR.out j j0 hlt;subst eA;replace x0 := cB_ HB.out x0;have h := HG.out;rw [drop_rd l0 j j0 hlt, sgF] at h;obtain ⟨t, hP, h⟩ := oB_ h;have hl : out.length + t.size ≤ 140737488355327 := by
    by_cases hl : out.length + t.size ≤ 140737488355327
    ·exact hl
    ·rw [if_neg hl] at h; cases h
   rw [if_pos hl] at h;have HG2 := A_ h;have HP := A_ hP;have HL := A_ hl;have hwr : wrap64 (j + 1) = j + 1 := by unfold wrap64; omega
   clear h hP hl hkm HG;have p7 := eq_true j0;have q7 := eq_true hlt;go_wp2_with (first | (go_at_call 71; (with_reducible refine (bld_str w.heap.size w.heap.size (Lib.byteCells out) t _ HO4.out (by rw [byteCells_len]; have := HL.out; omega) HB4.out.size).mono ?_); rintro e w5 ⟨rfl, ho, hb, hk⟩; have HO5 := A_ ho; have HB5 := A_ (HB4.out.trans hb); clear ho hb hk) | (go_at_call 68; (with_reducible refine (impl_PutSign.calls k (rd l0 j) t _ HP.out).mono ?_); rintro e w4 ⟨rfl, hb⟩; have HB4 := A_ (below_step HB.out hb); have HO4 := A_ (bld_below HO.out hb); clear hb))
   go_roundg (l0.length - (j + 1).toNat)
   case measure => have := HE.out; omega
   case rel => exact ⟨_, j + 1, by rw [hwr], om_, om_, ⟨rfl⟩, HG2, ⟨by rw [byteCells_append, ← strCells_bytes]; exact HO5.out⟩, HB5⟩
  ·have h := HG.out;rw [List.drop_eq_nil_of_le om_, sgF] at h;obtain rfl := sI_ h;clear h HG;go_wp2_with (go_at_call 73; (with_reducible refine (bld_string w.heap.size w.heap.size out _ HO.out HB.out.size).mono ?_); rintro e w5 ⟨rfl, hb, hk⟩; have HB5 := A_ (HB.out.trans hb); clear hb hk)
   go_ret
   exact ⟨rfl, HB5.out⟩
def impl_Clean.f (k : Nat) (a0 : BA) : Option (ByteArray) := (impl_Signs.f k a0).bind fun t394 => ((impl_SignText.f k t394).bind fun t397 => (some t397))
theorem impl_Clean.mono : ∀ a0 k, LeO (impl_Clean.f k a0) (impl_Clean.f (k + 1) a0) := by
 intro a0 k;unfold impl_Clean.f;with_reducible repeat' first | exact impl_SignText.mono _ _ | exact impl_Signs.mono _ _ | apply LeO.refl | apply LeO.none | apply LeO.ite | apply LeO.bind | intro
theorem impl_Clean.calls (k : Nat) (a0 : BA) (r : BA) (w : World) (h : impl_Clean.f k a0 = some r) :
  Calls Tryz.prog 130 #[.string a0] w fun e w' => e = .returned (.string r) ∧ Below w.heap.size w w' := by
 have HB := A_ (Below.refl w.heap.size w);have H : ((impl_Signs.f k a0).bind fun t394 => ((impl_SignText.f k t394).bind fun t397 => (some t397))) = some r := h;clear h;obtain ⟨t394, A2, H⟩ := ob_ H;obtain ⟨t397, A3, H⟩ := ob_ H;obtain rfl := sI_ H;go_enter Tryz.func130, Tryz.ntmps130
 go_wp2_with (first | ((with_reducible refine gC_ 82 ?_); refine gL_ 4 Tryz.func82 #[.string a0] ?_; (with_reducible refine (impl_Signs.calls k a0 t394 _ A2.out).mono ?_); rintro e w4 ⟨v395, rfl, ho0, hb⟩; refine ⟨_, rfl, ?_⟩; have HO396 := A_ (Kd.R_lower ho0 (below_size hB_)); replace HB := bS_ hb; clear hb; (try clear ho0); obtain ⟨Ao5, co5, eo5⟩ := Kd.R_slice HO396.out; subst eo5) | ((with_reducible refine gC_ 167 ?_); refine gL_ 5 Tryz.func167 #[.slice Ao5 t394.length co5] ?_; (with_reducible refine (impl_SignText.calls k _ _ t394 t397 _ ?side1 ?side2 A3.out).mono ?_); (case side1 => repeat (first | exact (Kd.R_reads' HO396.out).2.2 | (with_reducible refine Kd.C_alloc ?_ _) | (with_reducible refine Kd.C_drewN ?_ _) | (with_reducible refine Kd.C_drew ?_))); (case side2 => exact (Kd.R_reads' HO396.out).2.1); rintro e w6 ⟨rfl, hb⟩; refine ⟨_, rfl, ?_⟩; replace HO396 := A_ (Kd.R_below (kQ_ HO396.out) hb); replace HB := bS_ hb; clear hb))
 go_ret
 exact ⟨e1_, hB_⟩
def impl_CleanOk.f (k : Nat) (a0 : BA) : Option (Bool) := (impl_Clean.f k a0).bind fun t398 => (some (t398.toList == a0.toList))
theorem impl_CleanOk.mono : ∀ a0 k, LeO (impl_CleanOk.f k a0) (impl_CleanOk.f (k + 1) a0) := by
 intro a0 k;unfold impl_CleanOk.f;with_reducible repeat' first | exact impl_Clean.mono _ _ | apply LeO.refl | apply LeO.none | apply LeO.ite | apply LeO.bind | intro
theorem impl_CleanOk.calls (k : Nat) (a0 : BA) (r : Bool) (w : World) (h : impl_CleanOk.f k a0 = some r) :
  Calls Tryz.prog 83 #[.string a0] w fun e w' => e = .returned (.bool r) ∧ Below w.heap.size w w' := by
 have HB := A_ (Below.refl w.heap.size w);have H : ((impl_Clean.f k a0).bind fun t398 => (some (t398.toList == a0.toList))) = some r := h;clear h;obtain ⟨t398, A2, H⟩ := ob_ H;obtain rfl := sI_ H;go_enter Tryz.func83, Tryz.ntmps83
 go_wp2_with (first | ((with_reducible refine gC_ 130 ?_); refine gL_ 4 Tryz.func130 #[.string a0] ?_; refine bm_ (impl_Clean.calls k a0 t398 _ A2.out) ?_; clear HB; intro w3 HB))
 go_ret
 exact ⟨e1_, hB_⟩
def impl_TextOk.l0 : Nat → ByteArray → List Int → Int → Int → Option (Bool)
 | 0, _, _, _, _ => none
 | k + 1, x0, x6, x7, x8 => if x8 < x7 then (if 0 ≤ x8 then (if x8 < (x6.length : Int) then ((impl_IsText.f (rd x6 x8)).bind fun t403 => (if t403 = true then (impl_TextOk.l0 k x0 x6 x7 (wrap64 (x8 + 1))) else (some false))) else (none)) else (none)) else ((impl_CleanOk.f k x0).bind fun t404 => (some t404))
def impl_TextOk.f (k : Nat) (a0 : BA) : Option (Bool) := (impl_Signs.f k a0).bind fun t399 => (impl_TextOk.l0 k a0 t399 (t399.length : Int) 0)
theorem impl_TextOk.mono_l : ∀ k, (∀ y0 y1 y2 y3, LeO (impl_TextOk.l0 k y0 y1 y2 y3) (impl_TextOk.l0 (k + 1) y0 y1 y2 y3))
 | 0 => fun _ _ _ _ r h => by simp [impl_TextOk.l0] at h
 | k + 1 => by
  have ih0 := impl_TextOk.mono_l k
  ·intro y0 y1 y2 y3;unfold impl_TextOk.l0;with_reducible repeat' first | exact ih0 _ _ _ _ | exact impl_CleanOk.mono _ _ | exact impl_Signs.mono _ _ | apply LeO.refl | apply LeO.none | apply LeO.ite | apply LeO.bind | intro
theorem impl_TextOk.mono : ∀ a0 k, LeO (impl_TextOk.f k a0) (impl_TextOk.f (k + 1) a0) := by
 intro a0 k;have ih0 := impl_TextOk.mono_l k;unfold impl_TextOk.f;with_reducible repeat' first | exact ih0 _ _ _ _ | exact impl_CleanOk.mono _ _ | exact impl_Signs.mono _ _ | apply LeO.refl | apply LeO.none | apply LeO.ite | apply LeO.bind | intro
theorem impl_TextOk.calls (k : Nat) (a0 : BA) (r : Bool) (w : World) (h : impl_TextOk.f k a0 = some r) :
  Calls Tryz.prog 30 #[.string a0] w fun e w' => e = .returned (.bool r) ∧ Below w.heap.size w w' := by
 have HB := A_ (Below.refl w.heap.size w);have H : ((impl_Signs.f k a0).bind fun t399 => (impl_TextOk.l0 k a0 t399 (t399.length : Int) 0)) = some r := h;clear h;obtain ⟨t399, A2, H⟩ := ob_ H;(try dsimp only at H)
 have H' := A_ H;clear H;go_enter Tryz.func30, Tryz.ntmps30
 go_wp2_with (first | ((with_reducible refine gC_ 82 ?_); refine gL_ 6 Tryz.func82 #[.string a0] ?_; (with_reducible refine (impl_Signs.calls k a0 t399 _ A2.out).mono ?_); rintro e w3 ⟨v400, rfl, ho0, hb⟩; refine ⟨_, rfl, ?_⟩; have HO401 := A_ (Kd.R_lower ho0 (below_size hB_)); replace HB := bS_ hb; clear hb; (try clear ho0); obtain ⟨Ao4, co4, eo4⟩ := Kd.R_slice HO401.out; subst eo4))
 go_loopg [8] k (fun kq v8 w' => ∃ (x8_1 : Int), v8 = .int .i64 x8_1 ∧ As9 (impl_TextOk.l0 kq a0 t399 (t399.length : Int) x8_1 = some r) ∧ As9 (kq ≤ k) ∧ As9 (Kd.R (Kd.int .i64) 3 w' w.heap.size (fun _ => True) (.slice Ao4 t399.length co4) t399) ∧ As9 (Below w.heap.size w w'))
 case atStart => exact ⟨(0), e2_, H', ⟨Nat.le_refl _⟩, ⟨kQ_ HO401.out⟩, ⟨hB_⟩⟩
 case round =>
  clear H';try clear p2
  try clear c3
  obtain ⟨x8_1, rfl, HA, HK1, HO_6, HB⟩ := hrel;cases gk with
  | zero => exact absurd HA.out (by simp [impl_TextOk.l0])
  | succ k1 =>
   have H := HA.out;clear HA;simp only [impl_TextOk.l0] at H;rcases ic_ H with ⟨c5, H⟩ | ⟨c5, H⟩
   ·have c5b0 := dE_ c5;clear c5;obtain ⟨c6, H⟩ := ifn_ H;have c6b0 := dE_ c6;clear c6;obtain ⟨c7, H⟩ := ifn_ H;have c7b0 := dE_ c7;clear c7;obtain ⟨t403, A8, H⟩ := ob_ H;(try dsimp only at H)
    by_cases c9 : t403 = true
    ·subst c9;rw [if_pos rfl] at H;have H' := A_ H;clear H;have p402 : 0 ≤ (x8_1 : Int) := dT_;have q402 : x8_1 < (t399.length : Int) := dT_;obtain ⟨ad402, e402, hx402_0⟩ := Kd.at_int (Kd.R_reads' HO_6.out).2.2 x8_1 p402 q402;cases e402;replace p402 := eq_true p402;replace q402 := eq_true q402;go_wp2_with (first | ((with_reducible refine gC_ 67 ?_); refine gL_ 13 Tryz.func67 #[.int .i64 (rd t399 x8_1)] ?_; refine dm_ (impl_IsText.calls (rd t399 x8_1) true _ A8.out) fun nd => ?_))
     go_roundg k1
     case measure => have := HK1.out; omega
     case rel => exact ⟨(wrap64 (x8_1 + 1)), e2_, H', ⟨by have := HK1.out; omega⟩, ⟨kQ_ HO_6.out⟩, ⟨hB_⟩⟩
    ·replace c9 := bF_ c9;subst c9;rw [if_neg nF_] at H;obtain rfl := sI_ H;have p402 : 0 ≤ (x8_1 : Int) := dT_;have q402 : x8_1 < (t399.length : Int) := dT_;obtain ⟨ad402, e402, hx402_0⟩ := Kd.at_int (Kd.R_reads' HO_6.out).2.2 x8_1 p402 q402;cases e402;replace p402 := eq_true p402;replace q402 := eq_true q402;go_wp2_with (first | ((with_reducible refine gC_ 67 ?_); refine gL_ 13 Tryz.func67 #[.int .i64 (rd t399 x8_1)] ?_; refine dm_ (impl_IsText.calls (rd t399 x8_1) false _ A8.out) fun nd => ?_))
     go_ret
     exact ⟨e1_, hB_⟩
   ·have c5b0 := dF_ c5;clear c5;obtain ⟨t404, A10, H⟩ := ob_ H;obtain rfl := sI_ H;go_wp2_with (first | ((with_reducible refine gC_ 83 ?_); refine gL_ 17 Tryz.func83 #[.string a0] ?_; (with_reducible refine (impl_CleanOk.calls k1 a0 t404 _ A10.out).mono ?_); rintro e w11 ⟨rfl, hb⟩; refine ⟨_, rfl, ?_⟩; replace HO_6 := A_ (Kd.R_below (kQ_ HO_6.out) hb); replace HB := bS_ hb; clear hb))
    go_ret
    exact ⟨e1_, hB_⟩
def strings_Contains.f (a0 : BA) (a1 : BA) : Option Bool := if a0.size < 4294967281 then some (Lib.contains a0.data.toList a1.data.toList) else none
theorem strings_Contains.calls (a0 : BA) (a1 : BA) (r : Bool) (w : World) (hL : LibOk w) (h : strings_Contains.f a0 a1 = some r) :
  Calls Tryz.prog 128 #[.string a0, .string a1] w fun e w' => e = .returned (.bool r) ∧ Drawn0 w w' := by
 unfold strings_Contains.f at h;have hs : a0.size < 4294967281 := by
  by_cases hs : a0.size < 4294967281
  ·exact hs
  ·rw [if_neg hs] at h; cases h
 rw [if_pos hs] at h;obtain rfl := sI_ h;obtain ⟨m, hm⟩ := hL.maxLen;exact (Tryz.strings_Contains a0 a1 m w hs hm).mono fun e w' hh => ⟨hh.1, by rw [hh.2]; exact Drawn0.refl _⟩
def impl_NoteOk.f (k : Nat) (a0 : BA) : Option (Bool) := (impl_TextOk.f k a0).bind fun t405 => (if t405 = true then ((strings_Contains.f a0 (⟨#[13]⟩ : BA)).bind fun t406 => (if t406 = true then (some false) else ((strings_Contains.f a0 (⟨#[45, 45]⟩ : BA)).bind fun t407 => (if t407 = true then (some false) else ((strings_HasSuffix.f a0 (⟨#[45]⟩ : BA)).bind fun t408 => (some (!t408))))))) else (some false))
theorem impl_NoteOk.mono : ∀ a0 k, LeO (impl_NoteOk.f k a0) (impl_NoteOk.f (k + 1) a0) := by
 intro a0 k;unfold impl_NoteOk.f;with_reducible repeat' first | exact impl_TextOk.mono _ _ | apply LeO.refl | apply LeO.none | apply LeO.ite | apply LeO.bind | intro
theorem impl_NoteOk.calls (k : Nat) (a0 : BA) (r : Bool) (w : World) (hL : LibOk w) (h : impl_NoteOk.f k a0 = some r) :
  Calls Tryz.prog 79 #[.string a0] w fun e w' => e = .returned (.bool r) ∧ Below w.heap.size w w' := by
 have HB := A_ (Below.refl w.heap.size w);have H : ((impl_TextOk.f k a0).bind fun t405 => (if t405 = true then ((strings_Contains.f a0 (⟨#[13]⟩ : BA)).bind fun t406 => (if t406 = true then (some false) else ((strings_Contains.f a0 (⟨#[45, 45]⟩ : BA)).bind fun t407 => (if t407 = true then (some false) else ((strings_HasSuffix.f a0 (⟨#[45]⟩ : BA)).bind fun t408 => (some (!t408))))))) else (some false))) = some r := h;clear h;obtain ⟨t405, A2, H⟩ := ob_ H;(try dsimp only at H)
 by_cases c3 : t405 = true
 ·subst c3;rw [if_pos rfl] at H;obtain ⟨t406, A4, H⟩ := ob_ H;(try dsimp only at H)
  by_cases c5 : t406 = true
  ·subst c5;rw [if_pos rfl] at H;obtain rfl := sI_ H;go_enter Tryz.func79, Tryz.ntmps79
   go_wp2_with (first | ((with_reducible refine gC_ 30 ?_); refine gL_ 4 Tryz.func30 #[.string a0] ?_; refine bm_ (impl_TextOk.calls k a0 true _ A2.out) ?_; clear HB; intro w6 HB) | (go_at_call 128; (with_reducible refine (strings_Contains.calls a0 (⟨#[13]⟩ : BA) true _ ?side1 A4.out).mono ?_); (case side1 => first | exact hL | exact LibOk.below hL hB_); rintro e w' ⟨rfl, ⟨nd, rfl⟩⟩))
   go_ret
   exact ⟨e1_, hB_⟩
  ·replace c5 := bF_ c5;subst c5;rw [if_neg nF_] at H;obtain ⟨t407, A7, H⟩ := ob_ H;(try dsimp only at H)
   by_cases c8 : t407 = true
   ·subst c8;rw [if_pos rfl] at H;obtain rfl := sI_ H;go_enter Tryz.func79, Tryz.ntmps79
    go_wp2_with (first | ((with_reducible refine gC_ 30 ?_); refine gL_ 4 Tryz.func30 #[.string a0] ?_; refine bm_ (impl_TextOk.calls k a0 true _ A2.out) ?_; clear HB; intro w9 HB) | (go_at_call 128; (with_reducible refine (strings_Contains.calls a0 (⟨#[13]⟩ : BA) false _ ?side1 A4.out).mono ?_); (case side1 => first | exact hL | exact LibOk.below hL hB_); rintro e w' ⟨rfl, ⟨nd, rfl⟩⟩) | (go_at_call 128; (with_reducible refine (strings_Contains.calls a0 (⟨#[45, 45]⟩ : BA) true _ ?side1 A7.out).mono ?_); (case side1 => first | exact hL | exact LibOk.below hL hB_); rintro e w' ⟨rfl, ⟨nd, rfl⟩⟩))
    go_ret
    exact ⟨e1_, hB_⟩
   ·replace c8 := bF_ c8;subst c8;rw [if_neg nF_] at H;obtain ⟨t408, A10, H⟩ := ob_ H;obtain rfl := sI_ H;go_enter Tryz.func79, Tryz.ntmps79
    go_wp2_with (first | ((with_reducible refine gC_ 30 ?_); refine gL_ 4 Tryz.func30 #[.string a0] ?_; refine bm_ (impl_TextOk.calls k a0 true _ A2.out) ?_; clear HB; intro w11 HB) | (go_at_call 128; (with_reducible refine (strings_Contains.calls a0 (⟨#[13]⟩ : BA) false _ ?side1 A4.out).mono ?_); (case side1 => first | exact hL | exact LibOk.below hL hB_); rintro e w' ⟨rfl, ⟨nd, rfl⟩⟩) | (go_at_call 128; (with_reducible refine (strings_Contains.calls a0 (⟨#[45, 45]⟩ : BA) false _ ?side1 A7.out).mono ?_); (case side1 => first | exact hL | exact LibOk.below hL hB_); rintro e w' ⟨rfl, ⟨nd, rfl⟩⟩) | (go_at_call 72; (with_reducible refine (strings_HasSuffix.calls a0 (⟨#[45]⟩ : BA) t408 _ A10.out).mono ?_); rintro e w' ⟨rfl, ⟨nd, rfl⟩⟩))
    go_ret
    exact ⟨e1_, hB_⟩
 ·replace c3 := bF_ c3;subst c3;rw [if_neg nF_] at H;obtain rfl := sI_ H;go_enter Tryz.func79, Tryz.ntmps79
  go_wp2_with (first | ((with_reducible refine gC_ 30 ?_); refine gL_ 4 Tryz.func30 #[.string a0] ?_; refine bm_ (impl_TextOk.calls k a0 false _ A2.out) ?_; clear HB; intro w12 HB))
  go_ret
  exact ⟨e1_, hB_⟩
def impl_XmlNote.f (k : Nat) (a0 : BA) (a1 : Int) : Option (ByteArray × Int) := (impl_inRange.f a1 0 (wrap64 ((a0.size : Int) - 1))).bind fun t409 => (if t409 = true then (if 0 ≤ a1 then (if a1 ≤ (a0.size : Int) then ((strings_CutPrefix.f (a0.extract (a1 : Int).toNat a0.size) (⟨#[60, 33, 45, 45]⟩ : BA)).bind fun bt410 => ((strings_Index.f bt410.1 (⟨#[45, 45]⟩ : BA)).bind fun t412 => (if bt410.2 = true then (if t412 < 0 then (some ((⟨#[]⟩ : BA), (-1))) else (if 0 ≤ t412 then (if t412 ≤ (bt410.1.size : Int) then ((impl_NoteOk.f k (bt410.1.extract 0 (t412 : Int).toNat)).bind fun t413 => (if t413 = true then ((strings_HasPrefix.f (bt410.1.extract (t412 : Int).toNat bt410.1.size) (⟨#[45, 45, 62]⟩ : BA)).bind fun t414 => (if t414 = true then (some (bt410.1.extract 0 (t412 : Int).toNat, wrap64 ((wrap64 ((wrap64 (a1 + 4)) + t412)) + 3))) else (some ((⟨#[]⟩ : BA), (-1))))) else (some ((⟨#[]⟩ : BA), (-1))))) else (none)) else (none))) else (some ((⟨#[]⟩ : BA), (-1)))))) else (none)) else (none)) else (some ((⟨#[]⟩ : BA), (-1))))
theorem impl_XmlNote.mono : ∀ a0 a1 k, LeO (impl_XmlNote.f k a0 a1) (impl_XmlNote.f (k + 1) a0 a1) := by
 intro a0 a1 k;unfold impl_XmlNote.f;with_reducible repeat' first | exact impl_NoteOk.mono _ _ | apply LeO.refl | apply LeO.none | apply LeO.ite | apply LeO.bind | intro
theorem impl_XmlNote.calls (k : Nat) (a0 : BA) (a1 : Int) (r1 : BA) (r2 : Int) (w : World) (hL : LibOk w) (h : impl_XmlNote.f k a0 a1 = some (r1, r2)) :
  Calls Tryz.prog 28 #[.string a0, .int .i64 a1] w fun e w' => e = .returned (.tuple #[.string r1, .int .i64 r2]) ∧ Below w.heap.size w w' := by
 have HB := A_ (Below.refl w.heap.size w);have H : ((impl_inRange.f a1 0 (wrap64 ((a0.size : Int) - 1))).bind fun t409 => (if t409 = true then (if 0 ≤ a1 then (if a1 ≤ (a0.size : Int) then ((strings_CutPrefix.f (a0.extract (a1 : Int).toNat a0.size) (⟨#[60, 33, 45, 45]⟩ : BA)).bind fun bt410 => ((strings_Index.f bt410.1 (⟨#[45, 45]⟩ : BA)).bind fun t412 => (if bt410.2 = true then (if t412 < 0 then (some ((⟨#[]⟩ : BA), (-1))) else (if 0 ≤ t412 then (if t412 ≤ (bt410.1.size : Int) then ((impl_NoteOk.f k (bt410.1.extract 0 (t412 : Int).toNat)).bind fun t413 => (if t413 = true then ((strings_HasPrefix.f (bt410.1.extract (t412 : Int).toNat bt410.1.size) (⟨#[45, 45, 62]⟩ : BA)).bind fun t414 => (if t414 = true then (some (bt410.1.extract 0 (t412 : Int).toNat, wrap64 ((wrap64 ((wrap64 (a1 + 4)) + t412)) + 3))) else (some ((⟨#[]⟩ : BA), (-1))))) else (some ((⟨#[]⟩ : BA), (-1))))) else (none)) else (none))) else (some ((⟨#[]⟩ : BA), (-1)))))) else (none)) else (none)) else (some ((⟨#[]⟩ : BA), (-1))))) = some (r1, r2) := h;clear h;obtain ⟨t409, A3, H⟩ := ob_ H;(try dsimp only at H)
 by_cases c4 : t409 = true
 ·subst c4;rw [if_pos rfl] at H;obtain ⟨c5, H⟩ := ifn_ H;have c5b0 := eq_true c5;have c5b1 := dE_ c5;clear c5;obtain ⟨c6, H⟩ := ifn_ H;have c6b0 := eq_true c6;have c6b1 := dE_ c6;clear c6;obtain ⟨⟨t410, t411⟩, A7, H⟩ := ob_ H;(try dsimp only at H)
  obtain ⟨t412, A8, H⟩ := ob_ H;(try dsimp only at H)
  by_cases c9 : t411 = true
  ·subst c9;rw [if_pos rfl] at H;rcases ic_ H with ⟨c10, H⟩ | ⟨c10, H⟩
   ·have c10b0 := dE_ c10;clear c10;obtain ⟨rfl, rfl⟩ := pi_ H;go_enter Tryz.func28, Tryz.ntmps28
    go_wp2_with (first | ((with_reducible refine gC_ 53 ?_); refine gL_ 13 Tryz.func53 #[.int .i64 a1, .int .i64 0, .int .i64 (wrap64 ((a0.size : Int) - 1))] ?_; (with_reducible refine (impl_inRange.calls a1 0 (wrap64 ((a0.size : Int) - 1)) true _ A3.out).mono ?_); rintro e w' ⟨rfl, ⟨nd, rfl⟩⟩; refine ⟨_, rfl, ?_⟩) | ((with_reducible refine gC_ 63 ?_); refine gL_ 19 Tryz.func63 #[.string (a0.extract (a1 : Int).toNat a0.size), .string (⟨#[60, 33, 45, 45]⟩ : BA)] ?_; refine dm_ (strings_CutPrefix.calls (a0.extract (a1 : Int).toNat a0.size) (⟨#[60, 33, 45, 45]⟩ : BA) t410 true _ A7.out) fun nd => ?_) | ((with_reducible refine gC_ 78 ?_); refine gL_ 23 Tryz.func78 #[.string t410, .string (⟨#[45, 45]⟩ : BA)] ?_; (with_reducible refine (strings_Index.calls t410 (⟨#[45, 45]⟩ : BA) t412 _ ?side1 A8.out).mono ?_); (case side1 => first | exact hL | exact LibOk.below hL hB_); rintro e w' ⟨rfl, ⟨nd, rfl⟩⟩; refine ⟨_, rfl, ?_⟩))
    go_ret2
    exact ⟨e1_, hB_⟩
   ·have c10b0 := dF_ c10;clear c10;obtain ⟨c11, H⟩ := ifn_ H;have c11b0 := eq_true c11;have c11b1 := dE_ c11;clear c11;obtain ⟨c12, H⟩ := ifn_ H;have c12b0 := eq_true c12;have c12b1 := dE_ c12;clear c12;obtain ⟨t413, A13, H⟩ := ob_ H;(try dsimp only at H)
    by_cases c14 : t413 = true
    ·subst c14;rw [if_pos rfl] at H;have c15b0 := eq_true (dT_ : 0 ≤ t412);have c16b0 := eq_true (dT_ : t412 ≤ (t410.size : Int));obtain ⟨t414, A17, H⟩ := ob_ H;(try dsimp only at H)
     by_cases c18 : t414 = true
     ·subst c18;rw [if_pos rfl] at H;have c19b0 := eq_true (dT_ : 0 ≤ t412);have c20b0 := eq_true (dT_ : t412 ≤ (t410.size : Int));obtain ⟨rfl, rfl⟩ := pi_ H;go_enter Tryz.func28, Tryz.ntmps28
      go_wp2_with (first | ((with_reducible refine gC_ 53 ?_); refine gL_ 13 Tryz.func53 #[.int .i64 a1, .int .i64 0, .int .i64 (wrap64 ((a0.size : Int) - 1))] ?_; (with_reducible refine (impl_inRange.calls a1 0 (wrap64 ((a0.size : Int) - 1)) true _ A3.out).mono ?_); rintro e w' ⟨rfl, ⟨nd, rfl⟩⟩; refine ⟨_, rfl, ?_⟩) | ((with_reducible refine gC_ 63 ?_); refine gL_ 19 Tryz.func63 #[.string (a0.extract (a1 : Int).toNat a0.size), .string (⟨#[60, 33, 45, 45]⟩ : BA)] ?_; refine dm_ (strings_CutPrefix.calls (a0.extract (a1 : Int).toNat a0.size) (⟨#[60, 33, 45, 45]⟩ : BA) t410 true _ A7.out) fun nd => ?_) | ((with_reducible refine gC_ 78 ?_); refine gL_ 23 Tryz.func78 #[.string t410, .string (⟨#[45, 45]⟩ : BA)] ?_; (with_reducible refine (strings_Index.calls t410 (⟨#[45, 45]⟩ : BA) t412 _ ?side1 A8.out).mono ?_); (case side1 => first | exact hL | exact LibOk.below hL hB_); rintro e w' ⟨rfl, ⟨nd, rfl⟩⟩; refine ⟨_, rfl, ?_⟩) | (go_at_call 79; (with_reducible refine (impl_NoteOk.calls k (t410.extract 0 (t412 : Int).toNat) true _ ?side1 A13.out).mono ?_); (case side1 => first | exact hL | exact LibOk.below hL hB_); rintro e w21 ⟨rfl, hb⟩; replace HB := bS_ hb; clear hb) | (go_at_call 76; (with_reducible refine (strings_HasPrefix.calls (t410.extract (t412 : Int).toNat t410.size) (⟨#[45, 45, 62]⟩ : BA) true _ A17.out).mono ?_); rintro e w' ⟨rfl, ⟨nd, rfl⟩⟩))
      go_ret2
      exact ⟨e1_, hB_⟩
     ·replace c18 := bF_ c18;subst c18;rw [if_neg nF_] at H;obtain ⟨rfl, rfl⟩ := pi_ H;go_enter Tryz.func28, Tryz.ntmps28
      go_wp2_with (first | ((with_reducible refine gC_ 53 ?_); refine gL_ 13 Tryz.func53 #[.int .i64 a1, .int .i64 0, .int .i64 (wrap64 ((a0.size : Int) - 1))] ?_; (with_reducible refine (impl_inRange.calls a1 0 (wrap64 ((a0.size : Int) - 1)) true _ A3.out).mono ?_); rintro e w' ⟨rfl, ⟨nd, rfl⟩⟩; refine ⟨_, rfl, ?_⟩) | ((with_reducible refine gC_ 63 ?_); refine gL_ 19 Tryz.func63 #[.string (a0.extract (a1 : Int).toNat a0.size), .string (⟨#[60, 33, 45, 45]⟩ : BA)] ?_; refine dm_ (strings_CutPrefix.calls (a0.extract (a1 : Int).toNat a0.size) (⟨#[60, 33, 45, 45]⟩ : BA) t410 true _ A7.out) fun nd => ?_) | ((with_reducible refine gC_ 78 ?_); refine gL_ 23 Tryz.func78 #[.string t410, .string (⟨#[45, 45]⟩ : BA)] ?_; (with_reducible refine (strings_Index.calls t410 (⟨#[45, 45]⟩ : BA) t412 _ ?side1 A8.out).mono ?_); (case side1 => first | exact hL | exact LibOk.below hL hB_); rintro e w' ⟨rfl, ⟨nd, rfl⟩⟩; refine ⟨_, rfl, ?_⟩) | (go_at_call 79; (with_reducible refine (impl_NoteOk.calls k (t410.extract 0 (t412 : Int).toNat) true _ ?side1 A13.out).mono ?_); (case side1 => first | exact hL | exact LibOk.below hL hB_); rintro e w22 ⟨rfl, hb⟩; replace HB := bS_ hb; clear hb) | (go_at_call 76; (with_reducible refine (strings_HasPrefix.calls (t410.extract (t412 : Int).toNat t410.size) (⟨#[45, 45, 62]⟩ : BA) false _ A17.out).mono ?_); rintro e w' ⟨rfl, ⟨nd, rfl⟩⟩))
      go_ret2
      exact ⟨e1_, hB_⟩
    ·replace c14 := bF_ c14;subst c14;rw [if_neg nF_] at H;obtain ⟨rfl, rfl⟩ := pi_ H;go_enter Tryz.func28, Tryz.ntmps28
     go_wp2_with (first | ((with_reducible refine gC_ 53 ?_); refine gL_ 13 Tryz.func53 #[.int .i64 a1, .int .i64 0, .int .i64 (wrap64 ((a0.size : Int) - 1))] ?_; (with_reducible refine (impl_inRange.calls a1 0 (wrap64 ((a0.size : Int) - 1)) true _ A3.out).mono ?_); rintro e w' ⟨rfl, ⟨nd, rfl⟩⟩; refine ⟨_, rfl, ?_⟩) | ((with_reducible refine gC_ 63 ?_); refine gL_ 19 Tryz.func63 #[.string (a0.extract (a1 : Int).toNat a0.size), .string (⟨#[60, 33, 45, 45]⟩ : BA)] ?_; refine dm_ (strings_CutPrefix.calls (a0.extract (a1 : Int).toNat a0.size) (⟨#[60, 33, 45, 45]⟩ : BA) t410 true _ A7.out) fun nd => ?_) | ((with_reducible refine gC_ 78 ?_); refine gL_ 23 Tryz.func78 #[.string t410, .string (⟨#[45, 45]⟩ : BA)] ?_; (with_reducible refine (strings_Index.calls t410 (⟨#[45, 45]⟩ : BA) t412 _ ?side1 A8.out).mono ?_); (case side1 => first | exact hL | exact LibOk.below hL hB_); rintro e w' ⟨rfl, ⟨nd, rfl⟩⟩; refine ⟨_, rfl, ?_⟩) | (go_at_call 79; (with_reducible refine (impl_NoteOk.calls k (t410.extract 0 (t412 : Int).toNat) false _ ?side1 A13.out).mono ?_); (case side1 => first | exact hL | exact LibOk.below hL hB_); rintro e w23 ⟨rfl, hb⟩; replace HB := bS_ hb; clear hb))
     go_ret2
     exact ⟨e1_, hB_⟩
  ·replace c9 := bF_ c9;subst c9;rw [if_neg nF_] at H;obtain ⟨rfl, rfl⟩ := pi_ H;go_enter Tryz.func28, Tryz.ntmps28
   go_wp2_with (first | ((with_reducible refine gC_ 53 ?_); refine gL_ 13 Tryz.func53 #[.int .i64 a1, .int .i64 0, .int .i64 (wrap64 ((a0.size : Int) - 1))] ?_; (with_reducible refine (impl_inRange.calls a1 0 (wrap64 ((a0.size : Int) - 1)) true _ A3.out).mono ?_); rintro e w' ⟨rfl, ⟨nd, rfl⟩⟩; refine ⟨_, rfl, ?_⟩) | ((with_reducible refine gC_ 63 ?_); refine gL_ 19 Tryz.func63 #[.string (a0.extract (a1 : Int).toNat a0.size), .string (⟨#[60, 33, 45, 45]⟩ : BA)] ?_; refine dm_ (strings_CutPrefix.calls (a0.extract (a1 : Int).toNat a0.size) (⟨#[60, 33, 45, 45]⟩ : BA) t410 false _ A7.out) fun nd => ?_) | ((with_reducible refine gC_ 78 ?_); refine gL_ 23 Tryz.func78 #[.string t410, .string (⟨#[45, 45]⟩ : BA)] ?_; (with_reducible refine (strings_Index.calls t410 (⟨#[45, 45]⟩ : BA) t412 _ ?side1 A8.out).mono ?_); (case side1 => first | exact hL | exact LibOk.below hL hB_); rintro e w' ⟨rfl, ⟨nd, rfl⟩⟩; refine ⟨_, rfl, ?_⟩))
   go_ret2
   exact ⟨e1_, hB_⟩
 ·replace c4 := bF_ c4;subst c4;rw [if_neg nF_] at H;obtain ⟨rfl, rfl⟩ := pi_ H;go_enter Tryz.func28, Tryz.ntmps28
  go_wp2_with (first | ((with_reducible refine gC_ 53 ?_); refine gL_ 13 Tryz.func53 #[.int .i64 a1, .int .i64 0, .int .i64 (wrap64 ((a0.size : Int) - 1))] ?_; (with_reducible refine (impl_inRange.calls a1 0 (wrap64 ((a0.size : Int) - 1)) false _ A3.out).mono ?_); rintro e w' ⟨rfl, ⟨nd, rfl⟩⟩; refine ⟨_, rfl, ?_⟩))
  go_ret2
  exact ⟨e1_, hB_⟩
def IsS93 (w0 W : World) (g : Nat) (f0 : BA) (f1 : Int) (f2 : Bool) : Prop := W.heap[g]? = some (.cells #[.string f0, .int .i64 f1, .bool f2] 93 (0, 0)) ∧ w0.heap.size ≤ g
theorem IsS93.grown {w0 W : World} {g : Nat} {f0 : BA} {f1 : Int} {f2 : Bool} {W1 : World} {row : Option Nat} (h : IsS93 w0 W g f0 f1 f2) (hw : W.grownBy W1 row) (hne : some g ≠ row) : IsS93 w0 W1 g f0 f1 f2 := by
 obtain ⟨hb, hg⟩ := h;exact ⟨blk_grown hb hw hne, hg⟩
theorem IsS93.kept {w0 W : World} {g : Nat} {f0 : BA} {f1 : Int} {f2 : Bool} {W1 : World} {S : Nat → Prop} (h : IsS93 w0 W g f0 f1 f2) (hk : Kept W W1 S) (hne : ¬ S g) : IsS93 w0 W1 g f0 f1 f2 := by
 obtain ⟨hb, hg⟩ := h;exact ⟨blk_kept hb hk hne, hg⟩
theorem IsS93.below {w0 W : World} {g : Nat} {f0 : BA} {f1 : Int} {f2 : Bool} {W1 : World} (h : IsS93 w0 W g f0 f1 f2) (hw : Below W.heap.size W W1) : IsS93 w0 W1 g f0 f1 f2 := h.grown (grown_of_below hw none) si_
theorem IsS93.alloc {w0 W : World} {g : Nat} {f0 : BA} {f1 : Int} {f2 : Bool} (h : IsS93 w0 W g f0 f1 f2) (o : Obj) : IsS93 w0 (W.alloc o) g f0 f1 f2 := h.below (bA9 (Below.refl _ _) o)
theorem IsS93.drewN {w0 W : World} {g : Nat} {f0 : BA} {f1 : Int} {f2 : Bool} (h : IsS93 w0 W g f0 f1 f2) (m : Nat) : IsS93 w0 (W.drewN m) g f0 f1 f2 := h
theorem IsS93.drew {w0 W : World} {g : Nat} {f0 : BA} {f1 : Int} {f2 : Bool} (h : IsS93 w0 W g f0 f1 f2) : IsS93 w0 W.drew g f0 f1 f2 := h
theorem IsS93.at_ {w0 W : World} {g : Nat} {f0 : BA} {f1 : Int} {f2 : Bool} {w' : World} {m : Nat} (hq : W.drewN m = w') (h : IsS93 w0 W g f0 f1 f2) : IsS93 w0 w' g f0 f1 f2 := by subst hq; exact IsS93.drewN h m
theorem IsS93.apart {w0 W : World} {g : Nat} {f0 : BA} {f1 : Int} {f2 : Bool} {α : Type} {d : Kd α} {e : Nat} {base : Nat} {ok : Nat → Prop} {v : Value} {xs : List α} (h : IsS93 w0 W g f0 f1 f2) (ho : d.R e W base ok v xs) (ht : ∀ q, q ∈ e :: d.E → q ≠ 93) : d.R e W base (fun k => ok k ∧ k ≠ g) v xs := by
 obtain ⟨hb, hg⟩ := h;exact Kd.R_types ho hb ht
theorem IsS93.own_ne {w0 W : World} {g : Nat} {f0 : BA} {f1 : Int} {f2 : Bool} {α : Type} {d : Kd α} {e : Nat} {base : Nat} {ok : Nat → Prop} {v : Value} {xs : List α} (h : IsS93 w0 W g f0 f1 f2) (ho : d.R e W base ok v xs) (ht : e ≠ 93) : some g ≠ v.ownBlock := by
 obtain ⟨hb, hg⟩ := h;exact Kd.R_ne ho hb ht
theorem IsS93.lt {w0 W : World} {g : Nat} {f0 : BA} {f1 : Int} {f2 : Bool} (h : IsS93 w0 W g f0 f1 f2) : g < W.heap.size := by
 obtain ⟨hb, hg⟩ := h;exact blk_lt hb
theorem IsS93.ge {w0 W : World} {g : Nat} {f0 : BA} {f1 : Int} {f2 : Bool} (h : IsS93 w0 W g f0 f1 f2) : w0.heap.size ≤ g := by
 obtain ⟨hb, hg⟩ := h;exact hg
theorem IsS93.ne_blk {w0 W : World} {g : Nat} {f0 : BA} {f1 : Int} {f2 : Bool} {a : Nat} {cs : Array Value} {t : TypeId} {fr : Nat × Nat} (h : IsS93 w0 W g f0 f1 f2) (hb2 : W.heap[a]? = some (.cells cs t fr)) (ht : t ≠ 93) : g ≠ a := by
 obtain ⟨hb, hg⟩ := h;rintro rfl;rw [hb] at hb2;injection hb2 with hb2
 injection hb2 with _ ht2
 exact ht ht2.symm
theorem IsS93.far {w0 W : World} {g : Nat} {f0 : BA} {f1 : Int} {f2 : Bool} {p : Addr} (h : IsS93 w0 W g f0 f1 f2) (hne : g ≠ p.block) (u : Value) : IsS93 w0 (W.setCell p u) g f0 f1 f2 := by
 obtain ⟨hb, hg⟩ := h;exact ⟨blk_far hb hne u, hg⟩
theorem cellS93_0 {W : World} {g : Nat} {f0 : BA} {f1 : Int} {f2 : Bool} (h : W.heap[g]? = some (.cells #[.string f0, .int .i64 f1, .bool f2] 93 (0, 0))) : W.cell? ⟨g, 0, none⟩ = some (.string f0) := (blk_cell h 0).trans rfl
theorem IsS93.set_0 {w0 W : World} {g : Nat} {f0 : BA} {f1 : Int} {f2 : Bool} (h : IsS93 w0 W g f0 f1 f2) (x : BA) : IsS93 w0 (W.setCell ⟨g, 0, none⟩ (.string x)) g x f1 f2 := by
 obtain ⟨hb, hg⟩ := h;exact ⟨by simpa using blk_set hb 0 (.string x), hg⟩
theorem cellS93_1 {W : World} {g : Nat} {f0 : BA} {f1 : Int} {f2 : Bool} (h : W.heap[g]? = some (.cells #[.string f0, .int .i64 f1, .bool f2] 93 (0, 0))) : W.cell? ⟨g, 1, none⟩ = some (.int .i64 f1) := (blk_cell h 1).trans rfl
theorem IsS93.set_1 {w0 W : World} {g : Nat} {f0 : BA} {f1 : Int} {f2 : Bool} (h : IsS93 w0 W g f0 f1 f2) (x : Int) : IsS93 w0 (W.setCell ⟨g, 1, none⟩ (.int .i64 x)) g f0 x f2 := by
 obtain ⟨hb, hg⟩ := h;exact ⟨by simpa using blk_set hb 1 (.int .i64 x), hg⟩
theorem cellS93_2 {W : World} {g : Nat} {f0 : BA} {f1 : Int} {f2 : Bool} (h : W.heap[g]? = some (.cells #[.string f0, .int .i64 f1, .bool f2] 93 (0, 0))) : W.cell? ⟨g, 2, none⟩ = some (.bool f2) := (blk_cell h 2).trans rfl
theorem IsS93.set_2 {w0 W : World} {g : Nat} {f0 : BA} {f1 : Int} {f2 : Bool} (h : IsS93 w0 W g f0 f1 f2) (x : Bool) : IsS93 w0 (W.setCell ⟨g, 2, none⟩ (.bool x)) g f0 f1 x := by
 obtain ⟨hb, hg⟩ := h;exact ⟨by simpa using blk_set hb 2 (.bool x), hg⟩
theorem IsS93.new (w0 W : World) (f0 : BA) (f1 : Int) (f2 : Bool) (hB : Below w0.heap.size w0 W) : IsS93 w0 (W.alloc (.cells #[.string f0, .int .i64 f1, .bool f2] 93)) W.heap.size f0 f1 f2 := ⟨by simpa using heap_alloc_new W _, hB.size⟩
def impl_reader_is.f (s0_0 : BA) (s0_1 : Int) (s0_2 : Bool) (a1 : BA) : Option (Bool × ByteArray × Int × Bool) := if s0_2 = true then (some (false, s0_0, s0_1, s0_2)) else (if 0 ≤ s0_1 then (if s0_1 ≤ (s0_0.size : Int) then ((strings_HasPrefix.f (s0_0.extract (s0_1 : Int).toNat s0_0.size) a1).bind fun t560 => (some (t560, s0_0, s0_1, s0_2))) else (none)) else (none))
theorem impl_reader_is.calls (g : Nat) (s0_0 : BA) (s0_1 : Int) (s0_2 : Bool) (a1 : BA) (r1 : Bool) (r2 : BA) (r3 : Int) (r4 : Bool) (w0 w : World) (hI : IsS93 w0 w g s0_0 s0_1 s0_2) (hB : Below w0.heap.size w0 w) (h : impl_reader_is.f s0_0 s0_1 s0_2 a1 = some (r1, r2, r3, r4)) :
  Calls Tryz.prog 95 #[.pointer (some ⟨g, 0, none⟩), .string a1] w fun e w' => e = .returned (.bool r1) ∧ IsS93 w0 w' g r2 r3 r4 ∧ Below w0.heap.size w0 w' ∧ KeepBut w w' g none := by
 have HI0 := A_ hI;have HK := A_ (KeepBut.refl w g none);have HL := A_ hB.size;clear hI;have HW0 := A_ hB.size;have HB := A_ hB;clear hB;have H : (if s0_2 = true then (some (false, s0_0, s0_1, s0_2)) else (if 0 ≤ s0_1 then (if s0_1 ≤ (s0_0.size : Int) then ((strings_HasPrefix.f (s0_0.extract (s0_1 : Int).toNat s0_0.size) a1).bind fun t560 => (some (t560, s0_0, s0_1, s0_2))) else (none)) else (none))) = some (r1, r2, r3, r4) := h;clear h;by_cases c3 : s0_2 = true
 ·subst c3;rw [if_pos rfl] at H;simp only [Option.some.injEq, Prod.mk.injEq] at H;obtain ⟨rfl, rfl, rfl, rfl⟩ := H;obtain ⟨HGz4, hgz4⟩ := HI0.out;have hcz4_0 := cellS93_0 HGz4;have hcz4_1 := cellS93_1 HGz4;have hcz4_2 := cellS93_2 HGz4;have hfz4_0 := blk_frozen HGz4 0;have hfz4_1 := blk_frozen HGz4 1;have hfz4_2 := blk_frozen HGz4 2;clear HGz4 hgz4;go_enter Tryz.func95, Tryz.ntmps95
  go_wp2
  repeat (go_quiet (fail); try go_wp2)
  go_ret
  exact ⟨e1_, by repeat (first | (with_reducible first | exact HI0.out | apply IsS93.alloc | apply IsS93.drewN | apply IsS93.drew | apply IsS93.set_0 | apply IsS93.set_1 | apply IsS93.set_2) | exact HI0.out), by repeat (first | (with_reducible first | exact HB.out | apply bA9 | apply bN9 | apply bD9 | refine below_set ?_ (IsS93.ge HI0.out)) | exact HB.out), by repeat (first | (with_reducible first | exact HK.out | apply KeepBut.set_ | apply keep_drewN | apply keep_drew | apply keep_alloc) | exact HK.out)⟩
 ·replace c3 := bF_ c3;subst c3;rw [if_neg nF_] at H;obtain ⟨c5, H⟩ := ifn_ H;have c5b0 := eq_true c5;have c5b1 := dE_ c5;clear c5;obtain ⟨c6, H⟩ := ifn_ H;have c6b0 := eq_true c6;have c6b1 := dE_ c6;clear c6;obtain ⟨t560, A7, H⟩ := ob_ H;(try dsimp only at H)
  simp only [Option.some.injEq, Prod.mk.injEq] at H;obtain ⟨rfl, rfl, rfl, rfl⟩ := H;obtain ⟨HGz8, hgz8⟩ := HI0.out;have hcz8_0 := cellS93_0 HGz8;have hcz8_1 := cellS93_1 HGz8;have hcz8_2 := cellS93_2 HGz8;have hfz8_0 := blk_frozen HGz8 0;have hfz8_1 := blk_frozen HGz8 1;have hfz8_2 := blk_frozen HGz8 2;clear HGz8 hgz8;go_enter Tryz.func95, Tryz.ntmps95
  go_wp2_with (first | (go_at_call 76; (with_reducible refine (strings_HasPrefix.calls (s0_0.extract (s0_1 : Int).toNat s0_0.size) a1 t560 _ A7.out).mono ?_); rintro e w' ⟨rfl, ⟨nd, rfl⟩⟩; (try exact dd_)))
  repeat (go_quiet (first | (go_at_call 76; (with_reducible refine (strings_HasPrefix.calls (s0_0.extract (s0_1 : Int).toNat s0_0.size) a1 t560 _ A7.out).mono ?_); rintro e w' ⟨rfl, ⟨nd, rfl⟩⟩; (try exact dd_))); try go_wp2_with (first | (go_at_call 76; (with_reducible refine (strings_HasPrefix.calls (s0_0.extract (s0_1 : Int).toNat s0_0.size) a1 t560 _ A7.out).mono ?_); rintro e w' ⟨rfl, ⟨nd, rfl⟩⟩; (try exact dd_))))
  go_ret
  exact ⟨e1_, by repeat (first | (with_reducible first | exact HI0.out | apply IsS93.alloc | apply IsS93.drewN | apply IsS93.drew | apply IsS93.set_0 | apply IsS93.set_1 | apply IsS93.set_2) | exact HI0.out), by repeat (first | (with_reducible first | exact HB.out | apply bA9 | apply bN9 | apply bD9 | refine below_set ?_ (IsS93.ge HI0.out)) | exact HB.out), by repeat (first | (with_reducible first | exact HK.out | apply KeepBut.set_ | apply keep_drewN | apply keep_drew | apply keep_alloc) | exact HK.out)⟩
theorem blk_six {w : World} {g : Nat} {t : TypeId} {a0 a1 a2 a3 a4 a5 : Value} (h : w.heap[g]? = some (.cells #[a0, a1, a2, a3, a4, a5] t (0, 0))) (u0 u1 u2 u3 u4 u5 : Value) :
  ((((((w.setCell ⟨g, 0, none⟩ u0).setCell ⟨g, 1, none⟩ u1).setCell ⟨g, 2, none⟩ u2).setCell ⟨g, 3, none⟩ u3).setCell ⟨g, 4, none⟩ u4).setCell ⟨g, 5, none⟩ u5).heap[g]? = some (.cells #[u0, u1, u2, u3, u4, u5] t (0, 0)) :=
 blk_put (blk_put (blk_put (blk_put (blk_put (blk_put h 0 u0 rfl) 1 u1 rfl) 2 u2 rfl) 3 u3 rfl) 4 u4 rfl) 5 u5 rfl
theorem st_six {w0 w : World} {g gx : Nat} {s : BA} {p : Int} {b : Bool} (h : IsS93 w0 w g s p b) (hne : g ≠ gx) (u0 u1 u2 u3 u4 u5 : Value) :
  IsS93 w0 ((((((w.setCell ⟨gx, 0, none⟩ u0).setCell ⟨gx, 1, none⟩ u1).setCell ⟨gx, 2, none⟩ u2).setCell ⟨gx, 3, none⟩ u3).setCell ⟨gx, 4, none⟩ u4).setCell ⟨gx, 5, none⟩ u5) g s p b :=
 (((((h.far (p := ⟨gx, 0, none⟩) hne u0).far (p := ⟨gx, 1, none⟩) hne u1).far (p := ⟨gx, 2, none⟩) hne u2).far (p := ⟨gx, 3, none⟩) hne u3).far (p := ⟨gx, 4, none⟩) hne u4).far (p := ⟨gx, 5, none⟩) hne u5
theorem below_six {w0 w : World} {gx : Nat} (h : Below w0.heap.size w0 w) (hg : w0.heap.size ≤ gx) (u0 u1 u2 u3 u4 u5 : Value) :
  Below w0.heap.size w0 ((((((w.setCell ⟨gx, 0, none⟩ u0).setCell ⟨gx, 1, none⟩ u1).setCell ⟨gx, 2, none⟩ u2).setCell ⟨gx, 3, none⟩ u3).setCell ⟨gx, 4, none⟩ u4).setCell ⟨gx, 5, none⟩ u5) :=
 below_set (below_set (below_set (below_set (below_set (below_set h hg) hg) hg) hg) hg) hg
theorem keep_six {w W : World} {g gx : Nat} (h : KeepBut w W g none) (hg : w.heap.size ≤ gx) (u0 u1 u2 u3 u4 u5 : Value) :
  KeepBut w ((((((W.setCell ⟨gx, 0, none⟩ u0).setCell ⟨gx, 1, none⟩ u1).setCell ⟨gx, 2, none⟩ u2).setCell ⟨gx, 3, none⟩ u3).setCell ⟨gx, 4, none⟩ u4).setCell ⟨gx, 5, none⟩ u5) g none :=
 keep_far (p := ⟨gx, 5, none⟩) (keep_far (p := ⟨gx, 4, none⟩) (keep_far (p := ⟨gx, 3, none⟩) (keep_far (p := ⟨gx, 2, none⟩) (keep_far (p := ⟨gx, 1, none⟩) (keep_far (p := ⟨gx, 0, none⟩) h hg u0) hg u1) hg u2) hg u3) hg u4) hg u5
def impl_reader_note.f (k : Nat) (s : BA) (p : Int) (b : Bool) : Option (Int × ByteArray × ByteArray × Int × Bool) :=
 (impl_XmlNote.f k s p).bind fun q => if q.2 < 0 then some (0, ⟨#[]⟩, s, p, true) else some (3, q.1, s, q.2, b)
theorem impl_reader_note.mono : ∀ s p b k, LeO (impl_reader_note.f k s p b) (impl_reader_note.f (k + 1) s p b) := fun s p b k => LeO.bind (impl_XmlNote.mono _ _ _) (fun _ => LeO.refl _)
theorem impl_reader_note.calls (k : Nat) (g : Nat) (s : BA) (p : Int) (b : Bool) (r0 : Int) (r1 r2 : BA) (r3 : Int) (r4 : Bool) (w0 w : World) (hI : IsS93 w0 w g s p b) (hB : Below w0.heap.size w0 w) (hL : LibOk w0) (h : impl_reader_note.f k s p b = some (r0, r1, r2, r3, r4)) :
  Calls Tryz.prog 96 #[.pointer (some ⟨g, 0, none⟩)] w fun e w' => e = .returned (.agg #[.int .i64 r0, .int .i64 0, .string ⟨#[]⟩, .slice none 0 0, .string r1, .slice none 0 0]) ∧ IsS93 w0 w' g r2 r3 r4 ∧ Below w0.heap.size w0 w' ∧ KeepBut w w' g none := by
 unfold impl_reader_note.f at h;have hu := Tryz.underlying43;obtain ⟨q, hq, h⟩ := oB_ h;have HQ := A_ hq;have HH := A_ h;have HLL := A_ hL;clear hq h hL;have hz : (.cells #[.int .i64 0, .int .i64 0, .string ⟨#[]⟩, .slice none 0 0, .string ⟨#[]⟩, .slice none 0 0] 43 : Obj) = .cells #[.int .i64 0, .int .i64 0, .string ⟨#[]⟩, .slice none 0 0, .string ⟨#[]⟩, .slice none 0 0] 43 := rfl;clear hz;obtain ⟨W1, hW1⟩ : ∃ W1, W1 = w.alloc (.cells #[.int .i64 0, .int .i64 0, .string ⟨#[]⟩, .slice none 0 0, .string ⟨#[]⟩, .slice none 0 0] 43) := ⟨_, rfl⟩;have HI1 : As9 (IsS93 w0 W1.drew g s p b) := ⟨by rw [hW1]; exact (hI.alloc _).drew⟩;have HB1 : As9 (Below w0.heap.size w0 W1.drew) := ⟨by rw [hW1]; exact below_drew (bA9 hB _)⟩;have HK1 : As9 (KeepBut w W1.drew g none) := ⟨by rw [hW1]; exact keep_drew (keep_alloc (KeepBut.refl w g none) _)⟩;have HX1 : As9 (W1.drew.heap[w.heap.size]? = some (.cells #[.int .i64 0, .int .i64 0, .string ⟨#[]⟩, .slice none 0 0, .string ⟨#[]⟩, .slice none 0 0] 43 (0, 0))) := ⟨by rw [hW1]; exact heap_alloc_new w _⟩;obtain ⟨gx, hgx⟩ : ∃ gx, gx = w.heap.size := ⟨_, rfl⟩;rw [← hgx] at HX1;have HGX : As9 (gx = w.heap.size ∧ g < gx) := ⟨hgx, by rw [hgx]; exact hI.lt⟩;obtain ⟨HG, hge⟩ := HI1.out;have hc0 := cellS93_0 HG;have hc1 := cellS93_1 HG;clear HG hge hB hI;go_enter Tryz.func96, Tryz.ntmps96
 go_wp2
 rw [← hW1, ← hgx];clear hW1 hgx;refine start_ (n := 14) (S := fun w' => w'.cell? ⟨g, 0, none⟩ = some (.string s) ∧ w'.cell? ⟨g, 1, none⟩ = some (.int .i64 p)) (ds := [8]) (tS 14 0) (by kernel_rfl) rfl rfl ⟨hc0, hc1⟩ (fun hHeld => ?_);generalize World.drew _ = wr0 at HI1 HB1 HK1 HX1 hHeld ⊢;iterate 3 refine pq_ ?_
 refine pg_ 4 (tB 14 23) ?_;refine pg_ 5 (tB 14 55) ?_;refine pg_ 6 (tB 14 119) ?_;refine tg_ 3 (tS 14 7) rfl (by rintro w' ⟨s0, s1⟩; go_simp; with_reducible rfl) ?_;refine tq_ rfl (by rintro w' ⟨s0, s1⟩; go_simp; with_reducible rfl) ?_;refine last_ (i := 8) (N := some 14) (tS 14 9) rfl rfl (by kernel_rfl) de_ (fun K hK => ?_);refine gS_ Tryz.func28 #[.string s, .int .i64 p] ?_;with_reducible refine (impl_XmlNote.calls k s p q.1 q.2 _ (HLL.out.below HB1.out) HQ.out).mono ?_
 rintro e wr8 ⟨rfl, hb⟩;refine ⟨_, rfl, ?_⟩;have HI2 := A_ (HI1.out.below hb);have HB2 := A_ (below_step HB1.out hb);have HK2 := A_ (HK1.out.trans (KeepBut.of_below hb g none) (.inl rfl));have HX2 := A_ (blk_below HX1.out hb);clear hb HI1 HB1 HK1 HX1;refine hK.out _ _ ?_;clear hK K;refine nm_ ?_;iterate 5 refine pq_ ?_
 refine done_ (by kernel_rfl) ?_;obtain ⟨HG, hge⟩ := HI2.out;have hc0' := cellS93_0 HG;have hc1' := cellS93_1 HG;have hc2' := cellS93_2 HG;have hf1 := blk_frozen HG 1;have hf2 := blk_frozen HG 2;clear HG hge;obtain ⟨hz0, hz1, hz2, hz3, hz4, hz5, hy0, hy1, hy2, hy3, hy4, hy5⟩ := bk6_ HX2.out;have hne1 : (g = gx) = False := eq_false (Nat.ne_of_lt HGX.out.2);have hne2 : (gx = g) = False := eq_false (Nat.ne_of_gt HGX.out.2);have H := HH.out;rcases ic_ H with ⟨c, H⟩ | ⟨c, H⟩
 ·simp only [Option.some.injEq, Prod.mk.injEq] at H;obtain ⟨rfl, rfl, rfl, rfl, rfl⟩ := H;go_wp2
  refine bodyPost_ret (results_single rfl (.cell gx 43 #[.int .i64 0, .int .i64 0, .string ⟨#[]⟩, .slice none 0 0, .string ⟨#[]⟩, .slice none 0 0] (0, 0) _ rfl (blk_six (blk_far HX2.out (p := ⟨g, 2, none⟩) (Nat.ne_of_gt HGX.out.2) _) _ _ _ _ _ _) hu rfl (by kernel_rfl) .nil)) rfl ?_;exact ⟨rfl, st_six (HI2.out.set_2 _) (Nat.ne_of_lt HGX.out.2) _ _ _ _ _ _, below_six (below_set HB2.out HI2.out.2) (Nat.le_trans (Nat.le_trans HI2.out.2 (Nat.le_of_lt HGX.out.2)) (Nat.le_refl _)) _ _ _ _ _ _, keep_six (HK2.out.set_ _ _) (Nat.le_of_eq HGX.out.1.symm) _ _ _ _ _ _⟩
 ·simp only [Option.some.injEq, Prod.mk.injEq] at H;obtain ⟨rfl, rfl, rfl, rfl, rfl⟩ := H;go_wp2
  refine bodyPost_ret (results_single rfl (.cell gx 43 #[.int .i64 3, .int .i64 0, .string ⟨#[]⟩, .slice none 0 0, .string q.1, .slice none 0 0] (0, 0) _ rfl (blk_six (blk_far HX2.out (p := ⟨g, 1, none⟩) (Nat.ne_of_gt HGX.out.2) _) _ _ _ _ _ _) hu rfl (by kernel_rfl) .nil)) rfl ?_;exact ⟨rfl, st_six (HI2.out.set_1 _) (Nat.ne_of_lt HGX.out.2) _ _ _ _ _ _, below_six (below_set HB2.out HI2.out.2) (Nat.le_trans (Nat.le_trans HI2.out.2 (Nat.le_of_lt HGX.out.2)) (Nat.le_refl _)) _ _ _ _ _ _, keep_six (HK2.out.set_ _ _) (Nat.le_of_eq HGX.out.1.symm) _ _ _ _ _ _⟩
end Go.Proofs.YtkmmoheeoblmnaaGreatDoor.A
