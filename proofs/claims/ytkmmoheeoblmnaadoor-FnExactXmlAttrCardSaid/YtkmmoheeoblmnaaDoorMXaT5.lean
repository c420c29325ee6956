-- joined by wip/tools/shake.py
import Derived.Test.YtkmmoheeoblmnaaDoorMXaT0
import Derived.Test.YtkmmoheeoblmnaaDoorMXaT4
namespace Go.Proofs.YtkmmoheeoblmnaaDoor.A
open Go.RowKit Go.Proofs.YtkmmoheeoblmnaaDoorW.PrintWords Go.Proofs.YtkmmoheeoblmnaaDoorW.PrintLast Go.Proofs.YtkmmoheeoblmnaaDoorW.PrintMore
attribute [local go_sem] max2_int min2_int max_two min_two max_three min_three max_four min_four   -- for this text's walks alone
set_option linter.unusedVariables false
set_option linter.unusedSimpArgs false
def stringslite_CutPrefix.f (a0 : ByteArray) (a1 : ByteArray) : Option (ByteArray × Bool) := (stringslite_HasPrefix.f a0 a1).bind fun t341 => (if t341 = true then (if 0 ≤ (a1.size : Int) then (if (a1.size : Int) ≤ (a0.size : Int) then (some (a0.extract ((a1.size : Int) : Int).toNat a0.size, true)) else (none)) else (none)) else (some (a0, false)))
set_option maxHeartbeats 8000000 in
set_option maxRecDepth 100000 in
theorem stringslite_CutPrefix.calls (a0 : ByteArray) (a1 : ByteArray) (r1 : ByteArray) (r2 : Bool) (w : World) (h : stringslite_CutPrefix.f a0 a1 = some (r1, r2)) :
  Calls Tryd.prog 89 #[.string a0, .string a1] w fun e w' => e = .returned (.tuple #[.string r1, .bool r2]) ∧ Drawn0 w w' := by
 have H : ((stringslite_HasPrefix.f a0 a1).bind fun t341 => (if t341 = true then (if 0 ≤ (a1.size : Int) then (if (a1.size : Int) ≤ (a0.size : Int) then (some (a0.extract ((a1.size : Int) : Int).toNat a0.size, true)) else (none)) else (none)) else (some (a0, false)))) = some (r1, r2) := h
 clear h
 replace H := Option.bind_eq_some_iff.mp H
 obtain ⟨t341, A30, H⟩ := H
 replace H : (if t341 = true then (if 0 ≤ (a1.size : Int) then (if (a1.size : Int) ≤ (a0.size : Int) then (some (a0.extract ((a1.size : Int) : Int).toNat a0.size, true)) else (none)) else (none)) else (some (a0, false))) = some (r1, r2) := H
 have A3 := Aside0.mk A30
 clear A30
 by_cases c4 : t341 = true
 ·subst c4
  have H1 : (if 0 ≤ (a1.size : Int) then (if (a1.size : Int) ≤ (a0.size : Int) then (some (a0.extract ((a1.size : Int) : Int).toNat a0.size, true)) else (none)) else (none)) = some (r1, r2) := by rw [if_pos rfl] at H; exact H
  clear H
  have H := H1
  clear H1
  by_cases c5 : 0 ≤ (a1.size : Int)
  ·rw [if_pos c5] at H
   have c5b0 := eq_true c5
   have c5b1 : decide (0 ≤ (a1.size : Int)) = true := decide_eq_true c5
   clear c5
   by_cases c6 : (a1.size : Int) ≤ (a0.size : Int)
   ·rw [if_pos c6] at H
    have c6b0 := eq_true c6
    have c6b1 : decide ((a1.size : Int) ≤ (a0.size : Int)) = true := decide_eq_true c6
    clear c6
    simp only [Option.some.injEq, Prod.mk.injEq] at H
    obtain ⟨rfl, rfl⟩ := H
    go_enter Tryd.func89, Tryd.ntmps89
    go_wp2_with (first | ((with_reducible refine gate_callee (f := 52) rfl ?_); refine goesL_ (some 8) rfl rfl Tryd.func52 (by kernel_rfl) rfl #[.string a0, .string a1] rfl (by (try simp only [List.map_toArray, List.map_cons, List.map_nil]); first | done | rfl | (simp only [List.length_drop, List.length_take]; rfl)) ?_; (with_reducible refine (stringslite_HasPrefix.calls a0 a1 true _ A3.out).mono ?_); rintro e w' ⟨rfl, ⟨nd, rfl⟩⟩; refine ⟨_, rfl, ?_⟩))
    go_ret2
    exact ⟨by first | rfl | (simp; done) | (simp [*]; done), by repeat (first | exact Drawn0.refl _ | apply Drawn0.step)⟩
   ·rw [if_neg c6] at H
    exact absurd H (by simp)
  ·rw [if_neg c5] at H
   exact absurd H (by simp)
 ·replace c4 := Bool.eq_false_iff.mpr c4
  subst c4
  have H1 : (some (a0, false)) = some (r1, r2) := by rw [if_neg (show ¬ (false = true) by decide)] at H; exact H
  clear H
  have H := H1
  clear H1
  simp only [Option.some.injEq, Prod.mk.injEq] at H
  obtain ⟨rfl, rfl⟩ := H
  go_enter Tryd.func89, Tryd.ntmps89
  go_wp2_with (first | ((with_reducible refine gate_callee (f := 52) rfl ?_); refine goesL_ (some 8) rfl rfl Tryd.func52 (by kernel_rfl) rfl #[.string a0, .string a1] rfl (by (try simp only [List.map_toArray, List.map_cons, List.map_nil]); first | done | rfl | (simp only [List.length_drop, List.length_take]; rfl)) ?_; (with_reducible refine (stringslite_HasPrefix.calls a0 a1 false _ A3.out).mono ?_); rintro e w' ⟨rfl, ⟨nd, rfl⟩⟩; refine ⟨_, rfl, ?_⟩))
  go_ret2
  exact ⟨by first | rfl | (simp; done) | (simp [*]; done), by repeat (first | exact Drawn0.refl _ | apply Drawn0.step)⟩
end Go.Proofs.YtkmmoheeoblmnaaDoor.A
namespace Go.Proofs.YtkmmoheeoblmnaaDoor.A
open Go.RowKit Go.Proofs.YtkmmoheeoblmnaaDoorW.PrintWords Go.Proofs.YtkmmoheeoblmnaaDoorW.PrintLast Go.Proofs.YtkmmoheeoblmnaaDoorW.PrintMore
attribute [local go_sem] max2_int min2_int max_two min_two max_three min_three max_four min_four   -- for this text's walks alone
set_option linter.unusedVariables false
set_option linter.unusedSimpArgs false
def strings_CutPrefix.f (a0 : ByteArray) (a1 : ByteArray) : Option (ByteArray × Bool) := (stringslite_CutPrefix.f a0 a1).bind fun bt342 => (some (bt342.1, bt342.2))
set_option maxHeartbeats 8000000 in
set_option maxRecDepth 100000 in
theorem strings_CutPrefix.calls (a0 : ByteArray) (a1 : ByteArray) (r1 : ByteArray) (r2 : Bool) (w : World) (h : strings_CutPrefix.f a0 a1 = some (r1, r2)) :
  Calls Tryd.prog 73 #[.string a0, .string a1] w fun e w' => e = .returned (.tuple #[.string r1, .bool r2]) ∧ Drawn0 w w' := by
 have H : ((stringslite_CutPrefix.f a0 a1).bind fun bt342 => (some (bt342.1, bt342.2))) = some (r1, r2) := h
 clear h
 replace H := Option.bind_eq_some_iff.mp H
 obtain ⟨⟨t342, t343⟩, A30, H⟩ := H
 replace H : (some (t342, t343)) = some (r1, r2) := H
 have A3 := Aside0.mk A30
 clear A30
 simp only [Option.some.injEq, Prod.mk.injEq] at H
 obtain ⟨rfl, rfl⟩ := H
 go_enter Tryd.func73, Tryd.ntmps73
 go_wp2_with (first | ((with_reducible refine gate_callee (f := 89) rfl ?_); refine goesL_ (some 8) rfl rfl Tryd.func89 (by kernel_rfl) rfl #[.string a0, .string a1] rfl (by (try simp only [List.map_toArray, List.map_cons, List.map_nil]); first | done | rfl | (simp only [List.length_drop, List.length_take]; rfl)) ?_; (with_reducible refine (stringslite_CutPrefix.calls a0 a1 t342 t343 _ A3.out).mono ?_); rintro e w' ⟨rfl, ⟨nd, rfl⟩⟩; refine ⟨_, rfl, ?_⟩))
 go_ret2
 exact ⟨by first | rfl | (simp; done) | (simp [*]; done), by repeat (first | exact Drawn0.refl _ | apply Drawn0.step)⟩
end Go.Proofs.YtkmmoheeoblmnaaDoor.A
namespace Go.Proofs.YtkmmoheeoblmnaaDoor.A
open Go.RowKit Go.Proofs.YtkmmoheeoblmnaaDoorW.PrintWords Go.Proofs.YtkmmoheeoblmnaaDoorW.PrintLast Go.Proofs.YtkmmoheeoblmnaaDoorW.PrintMore
attribute [local go_sem] max2_int min2_int max_two min_two max_three min_three max_four min_four   -- for this text's walks alone
set_option linter.unusedVariables false
set_option linter.unusedSimpArgs false
def xrN (k : Nat) (a e : Int) (t : ByteArray) : Option (ByteArray × Int) :=
 match Lib.atoi t.data.toList with
 | none => some (⟨#[]⟩, -1)
 | some n => if Lib.itoa n = t.data.toList then (if n = 0 then some (⟨#[]⟩, -1) else (impl_IsText.f n).bind fun b => if b = true then (impl_PutSign.f k n).bind fun p => some (p, wrap64 (wrap64 (wrap64 (a + 2) + e) + 1)) else some (⟨#[]⟩, -1)) else some (⟨#[]⟩, -1)
def xrB (k : Nat) (a0 : ByteArray) (a1 : Int) : Option (ByteArray × Int) :=
 (impl_namedRef.f (a0.extract a1.toNat a0.size)).bind fun tn =>
  if tn.2 > 0 then some (tn.1, wrap64 (a1 + tn.2))
  else (strings_CutPrefix.f (a0.extract a1.toNat a0.size) ⟨#[38, 35]⟩).bind fun d =>
   (strings_IndexByte.f d.1 59).bind fun e =>
    if d.2 = true then (if 1 ≤ e ∧ e ≤ 7 then (if e ≤ (d.1.size : Int) then xrN k a1 e (d.1.extract 0 e.toNat) else none) else some (⟨#[]⟩, -1))
    else some (⟨#[]⟩, -1)
def impl_XmlRef.f (k : Nat) (a0 : ByteArray) (a1 : Int) : Option (ByteArray × Int) :=
 (impl_inRange.f a1 0 (wrap64 ((a0.size : Int) - 1))).bind fun t => if t = true then (if 0 ≤ a1 ∧ a1 ≤ (a0.size : Int) then xrB k a0 a1 else none) else some (⟨#[]⟩, -1)
theorem impl_XmlRef.mono : ∀ a0 a1 k, LeO (impl_XmlRef.f k a0 a1) (impl_XmlRef.f (k + 1) a0 a1) := by
 intro a0 a1 k
 unfold impl_XmlRef.f
 refine LeO.bind (LeO.refl _) (fun t => LeO.ite (LeO.ite ?_ (LeO.refl _)) (LeO.refl _))
 unfold xrB
 refine LeO.bind (LeO.refl _) (fun tn => LeO.ite (LeO.refl _) (LeO.bind (LeO.refl _) (fun d => LeO.bind (LeO.refl _) (fun e => LeO.ite (LeO.ite (LeO.ite ?_ (LeO.refl _)) (LeO.refl _)) (LeO.refl _)))))
 unfold xrN
 split
 ·exact LeO.refl _
 ·exact LeO.ite (LeO.ite (LeO.refl _) (LeO.bind (LeO.refl _) (fun b => LeO.ite (LeO.bind (impl_PutSign.mono _ _) (fun _ => LeO.refl _)) (LeO.refl _)))) (LeO.refl _)
theorem decFrom_small : ∀ (l : List UInt8) (acc n : Nat), Lib.decFrom acc l = some n → n < (acc + 1) * 10 ^ l.length
 | [], acc, n, h => by
  obtain rfl : acc = n := by simpa [Lib.decFrom] using h
  simp
 | b :: l, acc, n, h => by
  rw [Lib.decFrom] at h
  cases hd : Lib.digitVal b with
  | none => rw [hd] at h; cases h
  | some d =>
   rw [hd] at h
   simp only at h
   have hd9 : d ≤ 9 := by
    unfold Lib.digitVal at hd
    split at hd
    ·injection hd with hd; omega
    ·cases hd
   have := decFrom_small l _ n h
   have h2 : (acc * 10 + d + 1) * 10 ^ l.length ≤ ((acc + 1) * 10) * 10 ^ l.length := Nat.mul_le_mul_right _ (by omega)
   rw [List.length_cons, Nat.pow_succ, Nat.mul_comm (10 ^ l.length) 10, ← Nat.mul_assoc]
   omega
theorem decNat_small (l : List UInt8) (n : Nat) (hl : l.length ≤ 7) (h : Lib.decNat l = some n) : n < 10000000 := by
 cases l with
 | nil => simp [Lib.decNat] at h
 | cons b r =>
  have := decFrom_small (b :: r) 0 n (by simpa [Lib.decNat] using h)
  have h2 : 10 ^ (b :: r).length ≤ 10 ^ 7 := Nat.pow_le_pow_right (by omega) hl
  omega
theorem atoi_small (t : ByteArray) (ht : t.size ≤ 7) (n : Int) (h : Lib.atoi t.data.toList = some n) : -10000000 ≤ n ∧ n ≤ 10000000 := by
 have hl : t.data.toList.length ≤ 7 := by rw [data_length]; exact ht
 generalize t.data.toList = l at h hl
 cases l with
 | nil => simp [Lib.atoi] at h
 | cons b r =>
  rw [Lib.atoi] at h
  simp only [List.length_cons] at hl
  split at h
  ·obtain ⟨m, hm, rfl⟩ := Option.map_eq_some_iff.1 h
   have := decNat_small r m (by omega) hm
   omega
  ·split at h
   ·obtain ⟨m, hm, rfl⟩ := Option.map_eq_some_iff.1 h
    have := decNat_small r m (by omega) hm
    omega
   ·obtain ⟨m, hm, rfl⟩ := Option.map_eq_some_iff.1 h
    have := decNat_small (b :: r) m (by simpa using hl) hm
    omega
set_option maxHeartbeats 8000000 in
set_option maxRecDepth 100000 in
theorem impl_XmlRef.calls (k : Nat) (a0 : ByteArray) (a1 : Int) (r1 : ByteArray) (r2 : Int) (w : World) (hL : LibOk w) (hE : LibErr w) (h : impl_XmlRef.f k a0 a1 = some (r1, r2)) :
  Calls Tryd.prog 54 #[.string a0, .int .i64 a1] w fun e w' => e = .returned (.tuple #[.string r1, .int .i64 r2]) ∧ Below w.heap.size w w' := by
 have HLL := Aside0.mk hL
 have HEE := Aside0.mk hE
 clear hL hE
 unfold impl_XmlRef.f at h
 have HB := Aside0.mk (Below.refl w.heap.size w)
 obtain ⟨b, hin, h⟩ := Option.bind_eq_some_iff.mp h
 have Hin := Aside0.mk hin
 clear hin
 cases b with
 | false =>
  rw [if_neg (by simp)] at h
  obtain ⟨rfl, rfl⟩ := Prod.mk.inj (Option.some.inj h)
  clear h
  go_enter Tryd.func54, Tryd.ntmps54
  go_wp2_with ((go_at_call 40; (with_reducible refine (impl_inRange.calls a1 0 (wrap64 ((a0.size : Int) - 1)) false _ Hin.out).mono ?_); rintro r w' ⟨rfl, ⟨nd, rfl⟩⟩))
  go_ret2
  exact ⟨rfl, by repeat (first | (with_reducible first | exact HB.out | apply below_alloc | apply pw_below_drewN | apply below_drew1) | exact HB.out)⟩
 | true =>
  rw [if_pos rfl] at h
  split at h
  case isFalse => cases h
  case isTrue hg =>
  obtain ⟨g0, g1⟩ := hg
  have p1 := eq_true g0
  have q1 := eq_true g1
  clear g0 g1
  unfold xrB at h
  obtain ⟨⟨tn1, tn2⟩, hN, h⟩ := Option.bind_eq_some_iff.mp h
  have HN := Aside0.mk hN
  clear hN
  simp only at h
  by_cases c1 : tn2 > 0
  ·rw [if_pos c1] at h
   obtain ⟨rfl, rfl⟩ := Prod.mk.inj (Option.some.inj h)
   have c1b : decide (0 < tn2) = true := decide_eq_true c1
   clear h c1
   go_enter Tryd.func54, Tryd.ntmps54
   go_wp2_with (first | (go_at_call 40; (with_reducible refine (impl_inRange.calls a1 0 (wrap64 ((a0.size : Int) - 1)) true _ Hin.out).mono ?_); rintro r w' ⟨rfl, ⟨nd, rfl⟩⟩) | (go_at_call 72; (with_reducible refine (impl_namedRef.calls (a0.extract a1.toNat a0.size) tn1 tn2 _ HN.out).mono ?_); rintro r w3 ⟨rfl, hb⟩; have HB3 := Aside0.mk (below_step (by repeat (first | (with_reducible first | exact HB.out | apply below_alloc | apply pw_below_drewN | apply below_drew1) | exact HB.out)) hb); clear hb))
   go_ret2
   exact ⟨rfl, by repeat (first | (with_reducible first | exact HB3.out | apply below_alloc | apply pw_below_drewN | apply below_drew1) | exact HB3.out)⟩
  ·rw [if_neg c1] at h
   have c1b : decide (0 < tn2) = false := decide_eq_false c1
   clear c1
   obtain ⟨⟨d1, d2⟩, hC, h⟩ := Option.bind_eq_some_iff.mp h
   have HC := Aside0.mk hC
   clear hC
   simp only at h
   obtain ⟨e, hI, h⟩ := Option.bind_eq_some_iff.mp h
   have HI := Aside0.mk hI
   clear hI
   cases d2 with
   | false =>
    rw [if_neg (by simp)] at h
    obtain ⟨rfl, rfl⟩ := Prod.mk.inj (Option.some.inj h)
    clear h
    go_enter Tryd.func54, Tryd.ntmps54
    go_wp2_with (first | (go_at_call 40; (with_reducible refine (impl_inRange.calls a1 0 (wrap64 ((a0.size : Int) - 1)) true _ Hin.out).mono ?_); rintro r w' ⟨rfl, ⟨nd, rfl⟩⟩) | (go_at_call 72; (with_reducible refine (impl_namedRef.calls (a0.extract a1.toNat a0.size) tn1 tn2 _ HN.out).mono ?_); rintro r w3 ⟨rfl, hb⟩; have HB3 := Aside0.mk (below_step (by repeat (first | (with_reducible first | exact HB.out | apply below_alloc | apply pw_below_drewN | apply below_drew1) | exact HB.out)) hb); clear hb HB) | (go_at_call 73; (with_reducible refine (strings_CutPrefix.calls (a0.extract a1.toNat a0.size) ⟨#[38, 35]⟩ d1 false _ HC.out).mono ?_); rintro r w' ⟨rfl, ⟨nd2, rfl⟩⟩) | (go_at_call 53; (with_reducible refine (strings_IndexByte.calls d1 59 e _ HI.out).mono ?_); rintro r w' ⟨rfl, ⟨nd3, rfl⟩⟩))
    go_ret2
    exact ⟨rfl, by repeat (first | (with_reducible first | exact HB3.out | apply below_alloc | apply pw_below_drewN | apply below_drew1) | exact HB3.out)⟩
   | true =>
    rw [if_pos rfl] at h
    by_cases c2 : 1 ≤ e ∧ e ≤ 7
    case neg =>
     rw [if_neg c2] at h
     obtain ⟨rfl, rfl⟩ := Prod.mk.inj (Option.some.inj h)
     have hin2 : impl_inRange.f e 1 7 = some false := by
      unfold impl_inRange.f
      by_cases h1 : e ≥ 1
      ·rw [if_pos h1, decide_eq_false (by omega)]
      ·rw [if_neg h1]
     have Hin2 := Aside0.mk hin2
     clear h c2 hin2
     go_enter Tryd.func54, Tryd.ntmps54
     go_wp2_with (first | (go_at_call 40; (with_reducible refine (impl_inRange.calls a1 0 (wrap64 ((a0.size : Int) - 1)) true _ Hin.out).mono ?_); rintro r w' ⟨rfl, ⟨nd, rfl⟩⟩) | (go_at_call 72; (with_reducible refine (impl_namedRef.calls (a0.extract a1.toNat a0.size) tn1 tn2 _ HN.out).mono ?_); rintro r w3 ⟨rfl, hb⟩; have HB3 := Aside0.mk (below_step (by repeat (first | (with_reducible first | exact HB.out | apply below_alloc | apply pw_below_drewN | apply below_drew1) | exact HB.out)) hb); clear hb HB) | (go_at_call 73; (with_reducible refine (strings_CutPrefix.calls (a0.extract a1.toNat a0.size) ⟨#[38, 35]⟩ d1 true _ HC.out).mono ?_); rintro r w' ⟨rfl, ⟨nd2, rfl⟩⟩) | (go_at_call 53; (with_reducible refine (strings_IndexByte.calls d1 59 e _ HI.out).mono ?_); rintro r w' ⟨rfl, ⟨nd3, rfl⟩⟩) | (go_at_call 40; (with_reducible refine (impl_inRange.calls e 1 7 false _ Hin2.out).mono ?_); rintro r w' ⟨rfl, ⟨nd4, rfl⟩⟩))
     go_ret2
     exact ⟨rfl, by repeat (first | (with_reducible first | exact HB3.out | apply below_alloc | apply pw_below_drewN | apply below_drew1) | exact HB3.out)⟩
    case pos =>
     rw [if_pos c2] at h
     split at h
     case isFalse => cases h
     case isTrue c3 =>
     have hin2 : impl_inRange.f e 1 7 = some true := by
      unfold impl_inRange.f
      rw [if_pos c2.1, decide_eq_true c2.2]
     have Hin2 := Aside0.mk hin2
     clear hin2
     have p3 := eq_true (show 0 ≤ e by omega)
     have q3 := eq_true c3
     have ht : (d1.extract 0 e.toNat).size ≤ 7 := by rw [ByteArray.size_extract]; omega
     have HT := Aside0.mk ht
     clear ht c2 c3
     unfold xrN at h
     cases hat : Lib.atoi (d1.extract 0 e.toNat).data.toList with
     | none =>
      rw [hat] at h
      simp only at h
      obtain ⟨rfl, rfl⟩ := Prod.mk.inj (Option.some.inj h)
      have HAT := Aside0.mk hat
      clear h hat
      go_enter Tryd.func54, Tryd.ntmps54
      go_wp2_with (first | (go_at_call 40; (with_reducible refine (impl_inRange.calls a1 0 (wrap64 ((a0.size : Int) - 1)) true _ Hin.out).mono ?_); rintro r w' ⟨rfl, ⟨nd, rfl⟩⟩) | (go_at_call 72; (with_reducible refine (impl_namedRef.calls (a0.extract a1.toNat a0.size) tn1 tn2 _ HN.out).mono ?_); rintro r w3 ⟨rfl, hb⟩; have HB3 := Aside0.mk (below_step (by repeat (first | (with_reducible first | exact HB.out | apply below_alloc | apply pw_below_drewN | apply below_drew1) | exact HB.out)) hb); clear hb HB) | (go_at_call 73; (with_reducible refine (strings_CutPrefix.calls (a0.extract a1.toNat a0.size) ⟨#[38, 35]⟩ d1 true _ HC.out).mono ?_); rintro r w' ⟨rfl, ⟨nd2, rfl⟩⟩) | (go_at_call 53; (with_reducible refine (strings_IndexByte.calls d1 59 e _ HI.out).mono ?_); rintro r w' ⟨rfl, ⟨nd3, rfl⟩⟩) | (go_at_call 40; (with_reducible refine (impl_inRange.calls e 1 7 true _ Hin2.out).mono ?_); rintro r w' ⟨rfl, ⟨nd4, rfl⟩⟩))
      generalize hww : World.drewN w3 _ = w5
      have HBB : Aside0 (Below w.heap.size w w5) := ⟨by rw [← hww]; exact pw_below_drewN HB3.out _⟩
      clear hww
      obtain ⟨ev, hv, hev⟩ := (HEE.out.below HBB.out).errSyntax
      refine (Tryd.strconv_Atoi_err (d1.extract 0 e.toNat) (by have := HT.out; omega) HAT.out ev _ hv hev).mono ?_
      rintro r w6 ⟨N_, rfl, _, _, hb⟩
      have HB6 := Aside0.mk (below_step HBB.out hb)
      clear hb hv hev
      go_wp2
      go_quiet (fail)
      go_wp2
      go_ret2
      exact ⟨rfl, by repeat (first | (with_reducible first | exact HB6.out | apply below_alloc | apply pw_below_drewN | apply below_drew1) | exact HB6.out)⟩
     | some n =>
      rw [hat] at h
      simp only at h
      have HAT := Aside0.mk hat
      have HH := Aside0.mk h
      clear hat
      repeat clear h
      go_enter Tryd.func54, Tryd.ntmps54
      go_wp2_with (first | (go_at_call 40; (with_reducible refine (impl_inRange.calls a1 0 (wrap64 ((a0.size : Int) - 1)) true _ Hin.out).mono ?_); rintro r w' ⟨rfl, ⟨nd, rfl⟩⟩) | (go_at_call 72; (with_reducible refine (impl_namedRef.calls (a0.extract a1.toNat a0.size) tn1 tn2 _ HN.out).mono ?_); rintro r w3 ⟨rfl, hb⟩; have HB3 := Aside0.mk (below_step (by repeat (first | (with_reducible first | exact HB.out | apply below_alloc | apply pw_below_drewN | apply below_drew1) | exact HB.out)) hb); clear hb HB) | (go_at_call 73; (with_reducible refine (strings_CutPrefix.calls (a0.extract a1.toNat a0.size) ⟨#[38, 35]⟩ d1 true _ HC.out).mono ?_); rintro r w' ⟨rfl, ⟨nd2, rfl⟩⟩) | (go_at_call 53; (with_reducible refine (strings_IndexByte.calls d1 59 e _ HI.out).mono ?_); rintro r w' ⟨rfl, ⟨nd3, rfl⟩⟩) | (go_at_call 40; (with_reducible refine (impl_inRange.calls e 1 7 true _ Hin2.out).mono ?_); rintro r w' ⟨rfl, ⟨nd4, rfl⟩⟩))
      generalize hww : World.drewN w3 _ = w5
      have HBB : Aside0 (Below w.heap.size w w5) := ⟨by rw [← hww]; exact pw_below_drewN HB3.out _⟩
      clear hww
      refine (Tryd.strconv_Atoi (d1.extract 0 e.toNat) n (by have := HT.out; omega) HAT.out _).mono ?_
      rintro r w6 ⟨rfl, t_, hb⟩
      have HB6 := Aside0.mk (below_step HBB.out (hb ▸ Lib.bytesWorld_below _ _ _))
      clear hb
      go_wp2
      have hit : strconv_Itoa.f n = some ⟨(Lib.itoa n).toArray⟩ := by
       unfold strconv_Itoa.f
       have := atoi_small (d1.extract 0 e.toNat) HT.out n HAT.out
       rw [if_pos (by omega)]
      have HIT := Aside0.mk hit
      clear hit
      have hcmp : ((⟨(Lib.itoa n).toArray⟩ : ByteArray).toList = (d1.extract 0 e.toNat).toList) ↔ Lib.itoa n = (d1.extract 0 e.toNat).data.toList := by
       rw [ByteArray.toList_eq, ByteArray.toList_eq]
      generalize (⟨(Lib.itoa n).toArray⟩ : ByteArray) = it at HIT hcmp
      have h := HH.out
      clear HH
      by_cases c5 : Lib.itoa n = (d1.extract 0 e.toNat).data.toList
      case neg =>
       rw [if_neg c5] at h
       obtain ⟨rfl, rfl⟩ := Prod.mk.inj (Option.some.inj h)
       have n1 : (it.toList != (d1.extract 0 e.toNat).toList) = true := bne_iff_ne.mpr (fun h => c5 (hcmp.mp h))
       have n2 : (it.toList == (d1.extract 0 e.toNat).toList) = false := beq_eq_false_iff_ne.mpr (fun h => c5 (hcmp.mp h))
       clear h c5 hcmp
       have HB7 : Aside0 (Below w.heap.size w w6.drew) := ⟨below_drew1 HB6.out⟩
       clear HB6
       refine start_ (n := 19) (S := fun w' => True) (ds := [18]) #[false, false, false, false, false, false, false, false, false, false, false, false, false, false, false, false, false, false, false] (by kernel_rfl) rfl rfl trivial (fun hHeld => ?_)
       generalize World.drew _ = wr0 at HB7 hHeld ⊢
       refine pure_ (i := 0) (N := some 55) (v := ?_) (a' := ?_) #[true, false, false, false, false, false, false, false, false, false, false, false, false, false, false, false, false, false, false] rfl rfl (by kernel_rfl) (fun _ _ _ h => h) (Or.inl ⟨by rfl, ?_⟩) ?_ ?_
       rotate_left
       ·intro w'
        go_simp
        with_reducible rfl
       rotate_left
       ·simp only [Act.put, List.setIfInBounds_toArray, List.set_cons_zero, List.set_cons_succ, i64_w, i32_w]
        rfl
       refine pure_ (i := 1) (N := some 56) (v := ?_) (a' := ?_) #[true, true, false, false, false, false, false, false, false, false, false, false, false, false, false, false, false, false, false] rfl rfl (by kernel_rfl) (fun _ _ _ h => h) (Or.inl ⟨by rfl, ?_⟩) ?_ ?_
       rotate_left
       ·intro w'
        go_simp
        with_reducible rfl
       rotate_left
       ·simp only [Act.put, List.setIfInBounds_toArray, List.set_cons_zero, List.set_cons_succ, i64_w, i32_w]
        rfl
       refine pure_ (i := 2) (N := some 57) (v := ?_) (a' := ?_) #[true, true, true, false, false, false, false, false, false, false, false, false, false, false, false, false, false, false, false] rfl rfl (by kernel_rfl) (fun _ _ _ h => h) (Or.inl ⟨by rfl, ?_⟩) ?_ ?_
       rotate_left
       ·intro w'
        go_simp
        with_reducible rfl
       rotate_left
       ·simp only [Act.put, List.setIfInBounds_toArray, List.set_cons_zero, List.set_cons_succ, i64_w, i32_w]
        rfl
       refine pure_ (i := 3) (N := some 58) (v := ?_) (a' := ?_) #[true, true, true, true, false, false, false, false, false, false, false, false, false, false, false, false, false, false, false] rfl rfl (by kernel_rfl) (fun _ _ _ h => h) (Or.inl ⟨by rfl, ?_⟩) ?_ ?_
       rotate_left
       ·intro w'
        go_simp
        with_reducible rfl
       rotate_left
       ·simp only [Act.put, List.setIfInBounds_toArray, List.set_cons_zero, List.set_cons_succ, i64_w, i32_w]
        rfl
       refine pure_ (i := 5) (N := some 60) (v := ?_) (a' := ?_) #[true, true, true, true, false, true, false, false, false, false, false, false, false, false, false, false, false, false, false] rfl rfl (by kernel_rfl) (fun _ _ _ h => h) (Or.inl ⟨by rfl, ?_⟩) ?_ ?_
       rotate_left
       ·intro w'
        go_simp
        with_reducible rfl
       rotate_left
       ·simp only [Act.put, List.setIfInBounds_toArray, List.set_cons_zero, List.set_cons_succ, i64_w, i32_w]
        rfl
       refine pure_ (i := 6) (N := some 61) (v := ?_) (a' := ?_) #[true, true, true, true, false, true, true, false, false, false, false, false, false, false, false, false, false, false, false] rfl rfl (by kernel_rfl) (fun _ _ _ h => h) (Or.inl ⟨by rfl, ?_⟩) ?_ ?_
       rotate_left
       ·intro w'
        go_simp
        with_reducible rfl
       rotate_left
       ·simp only [Act.put, List.setIfInBounds_toArray, List.set_cons_zero, List.set_cons_succ, i64_w, i32_w]
        rfl
       refine pure_ (i := 7) (N := some 62) (v := ?_) (a' := ?_) #[true, true, true, true, false, true, true, true, false, false, false, false, false, false, false, false, false, false, false] rfl rfl (by kernel_rfl) (fun _ _ _ h => h) (Or.inl ⟨by rfl, ?_⟩) ?_ ?_
       rotate_left
       ·intro w'
        go_simp
        with_reducible rfl
       rotate_left
       ·simp only [Act.put, List.setIfInBounds_toArray, List.set_cons_zero, List.set_cons_succ, i64_w, i32_w]
        rfl
       refine one_ (i := 4) (N := some 59) #[true, true, true, true, true, true, true, true, false, false, false, false, false, false, false, false, false, false, false] rfl rfl (by kernel_rfl) (by decide) (fun K hK => ?_)
       refine goes_ Tryd.func26 (by kernel_rfl) rfl #[.int .i64 n] (by rfl) rfl rfl (by (try simp only [List.map_toArray, List.map_cons, List.map_nil]); first | done | rfl | (simp only [List.length_drop, List.length_take]; rfl)) ?_
       with_reducible refine (strconv_Itoa.calls n it _ (HLL.out.below HB7.out) HIT.out).mono ?_
       rintro e wr4 ⟨rfl, hb⟩
       refine ⟨_, rfl, ?_⟩
       have HB8 := Aside0.mk (below_step HB7.out hb)
       clear hb HB7
       refine hK.out _ _ trivial (fun hHeld => ?_)
       clear hK K
       refine norm_ (a' := ?_) ?_ ?_
       rotate_left
       ·show Act.put _ (some 59) _ = _
        simp only [Act.put, List.setIfInBounds_toArray, List.set_cons_zero, List.set_cons_succ, i64_w, i32_w]
        rfl
       refine pure_ (i := 8) (N := some 63) (v := ?_) (a' := ?_) #[true, true, true, true, true, true, true, true, true, false, false, false, false, false, false, false, false, false, false] rfl rfl (by kernel_rfl) (fun _ _ _ h => h) (Or.inl ⟨by rfl, ?_⟩) ?_ ?_
       rotate_left
       ·intro w'
        go_simp
        with_reducible rfl
       rotate_left
       ·simp only [Act.put, List.setIfInBounds_toArray, List.set_cons_zero, List.set_cons_succ, i64_w, i32_w]
        rfl
       refine pure_ (i := 9) (N := some 64) (v := ?_) (a' := ?_) #[true, true, true, true, true, true, true, true, true, true, false, false, false, false, false, false, false, false, false] rfl rfl (by kernel_rfl) (fun _ _ _ h => h) (Or.inl ⟨by rfl, ?_⟩) ?_ ?_
       rotate_left
       ·intro w'
        go_simp
        with_reducible rfl
       rotate_left
       ·simp only [Act.put, List.setIfInBounds_toArray, List.set_cons_zero, List.set_cons_succ, i64_w, i32_w]
        rfl
       refine pure_ (i := 10) (N := some 65) (v := ?_) (a' := ?_) #[true, true, true, true, true, true, true, true, true, true, true, false, false, false, false, false, false, false, false] rfl rfl (by kernel_rfl) (fun _ _ _ h => h) (Or.inl ⟨by rfl, ?_⟩) ?_ ?_
       rotate_left
       ·intro w'
        go_simp
        with_reducible rfl
       rotate_left
       ·simp only [Act.put, List.setIfInBounds_toArray, List.set_cons_zero, List.set_cons_succ, i64_w, i32_w]
        rfl
       refine pure_ (i := 11) (N := some 66) (v := undef) (a' := ?_) #[true, true, true, true, true, true, true, true, true, true, true, true, false, false, false, false, false, false, false] rfl rfl (by kernel_rfl) (fun _ _ _ h => h) (Or.inr ⟨by rfl, rfl⟩) ?_ ?_
       rotate_left
       ·simp only [Act.put, List.setIfInBounds_toArray, List.set_cons_zero, List.set_cons_succ, i64_w, i32_w]
        rfl
       refine pure_ (i := 12) (N := some 67) (v := undef) (a' := ?_) #[true, true, true, true, true, true, true, true, true, true, true, true, true, false, false, false, false, false, false] rfl rfl (by kernel_rfl) (fun _ _ _ h => h) (Or.inr ⟨by rfl, rfl⟩) ?_ ?_
       rotate_left
       ·simp only [Act.put, List.setIfInBounds_toArray, List.set_cons_zero, List.set_cons_succ, i64_w, i32_w]
        rfl
       refine pure_ (i := 13) (N := some 68) (v := ?_) (a' := ?_) #[true, true, true, true, true, true, true, true, true, true, true, true, true, true, false, false, false, false, false] rfl rfl (by kernel_rfl) (fun _ _ _ h => h) (Or.inl ⟨by rfl, ?_⟩) ?_ ?_
       rotate_left
       ·intro w'
        go_simp
        with_reducible rfl
       rotate_left
       ·simp only [Act.put, List.setIfInBounds_toArray, List.set_cons_zero, List.set_cons_succ, i64_w, i32_w]
        rfl
       refine pure_ (i := 14) (N := some 69) (v := ?_) (a' := ?_) #[true, true, true, true, true, true, true, true, true, true, true, true, true, true, true, false, false, false, false] rfl rfl (by kernel_rfl) (fun _ _ _ h => h) (Or.inl ⟨by rfl, ?_⟩) ?_ ?_
       rotate_left
       ·intro w'
        go_simp
        with_reducible rfl
       rotate_left
       ·simp only [Act.put, List.setIfInBounds_toArray, List.set_cons_zero, List.set_cons_succ, i64_w, i32_w]
        rfl
       refine pure_ (i := 15) (N := some 70) (v := undef) (a' := ?_) #[true, true, true, true, true, true, true, true, true, true, true, true, true, true, true, true, false, false, false] rfl rfl (by kernel_rfl) (fun _ _ _ h => h) (Or.inr ⟨by rfl, rfl⟩) ?_ ?_
       rotate_left
       ·simp only [Act.put, List.setIfInBounds_toArray, List.set_cons_zero, List.set_cons_succ, i64_w, i32_w]
        rfl
       refine one_ (i := 16) (N := some 71) #[true, true, true, true, true, true, true, true, true, true, true, true, true, true, true, true, true, false, false] rfl rfl (by kernel_rfl) (by decide) (fun K hK => ?_)
       show K (Act.put _ (some 71) undef) _
       refine hK.out _ _ trivial (fun hHeld => ?_)
       clear hK K
       refine norm_ (a' := ?_) ?_ ?_
       rotate_left
       ·show Act.put _ (some 71) _ = _
        simp only [Act.put, List.setIfInBounds_toArray, List.set_cons_zero, List.set_cons_succ, i64_w, i32_w]
        rfl
       refine pure_ (i := 17) (N := some 72) (v := undef) (a' := ?_) #[true, true, true, true, true, true, true, true, true, true, true, true, true, true, true, true, true, true, false] rfl rfl (by kernel_rfl) (fun _ _ _ h => h) (Or.inr ⟨by rfl, rfl⟩) ?_ ?_
       rotate_left
       ·simp only [Act.put, List.setIfInBounds_toArray, List.set_cons_zero, List.set_cons_succ, i64_w, i32_w]
        rfl
       refine pure_ (i := 18) (N := some 73) (v := ?_) (a' := ?_) #[true, true, true, true, true, true, true, true, true, true, true, true, true, true, true, true, true, true, true] rfl rfl (by kernel_rfl) (fun _ _ _ h => h) (Or.inl ⟨by rfl, ?_⟩) ?_ ?_
       rotate_left
       ·intro w'
        go_simp
        with_reducible rfl
       rotate_left
       ·simp only [Act.put, List.setIfInBounds_toArray, List.set_cons_zero, List.set_cons_succ, i64_w, i32_w]
        rfl
       refine done_ (by kernel_rfl) ?_
       go_wp2
       go_ret2
       exact ⟨rfl, by repeat (first | (with_reducible first | exact HB8.out | apply below_alloc | apply pw_below_drewN | apply below_drew1) | exact HB8.out)⟩
      case pos =>
      rw [if_pos c5] at h
      have n1 : (it.toList != (d1.extract 0 e.toNat).toList) = false := bne_eq_false_iff_eq.mpr (hcmp.mpr c5)
      have n2 : (it.toList == (d1.extract 0 e.toNat).toList) = true := beq_iff_eq.mpr (hcmp.mpr c5)
      clear c5 hcmp
      by_cases c6 : n = 0
      case pos =>
       rw [if_pos c6] at h
       obtain ⟨rfl, rfl⟩ := Prod.mk.inj (Option.some.inj h)
       have n3 : (n == 0) = true := beq_iff_eq.mpr c6
       clear h c6
       have HB7 : Aside0 (Below w.heap.size w w6.drew) := ⟨below_drew1 HB6.out⟩
       clear HB6
       refine start_ (n := 19) (S := fun w' => True) (ds := [18]) #[false, false, false, false, false, false, false, false, false, false, false, false, false, false, false, false, false, false, false] (by kernel_rfl) rfl rfl trivial (fun hHeld => ?_)
       generalize World.drew _ = wr0 at HB7 hHeld ⊢
       refine pure_ (i := 0) (N := some 55) (v := ?_) (a' := ?_) #[true, false, false, false, false, false, false, false, false, false, false, false, false, false, false, false, false, false, false] rfl rfl (by kernel_rfl) (fun _ _ _ h => h) (Or.inl ⟨by rfl, ?_⟩) ?_ ?_
       rotate_left
       ·intro w'
        go_simp
        with_reducible rfl
       rotate_left
       ·simp only [Act.put, List.setIfInBounds_toArray, List.set_cons_zero, List.set_cons_succ, i64_w, i32_w]
        rfl
       refine pure_ (i := 1) (N := some 56) (v := ?_) (a' := ?_) #[true, true, false, false, false, false, false, false, false, false, false, false, false, false, false, false, false, false, false] rfl rfl (by kernel_rfl) (fun _ _ _ h => h) (Or.inl ⟨by rfl, ?_⟩) ?_ ?_
       rotate_left
       ·intro w'
        go_simp
        with_reducible rfl
       rotate_left
       ·simp only [Act.put, List.setIfInBounds_toArray, List.set_cons_zero, List.set_cons_succ, i64_w, i32_w]
        rfl
       refine pure_ (i := 2) (N := some 57) (v := ?_) (a' := ?_) #[true, true, true, false, false, false, false, false, false, false, false, false, false, false, false, false, false, false, false] rfl rfl (by kernel_rfl) (fun _ _ _ h => h) (Or.inl ⟨by rfl, ?_⟩) ?_ ?_
       rotate_left
       ·intro w'
        go_simp
        with_reducible rfl
       rotate_left
       ·simp only [Act.put, List.setIfInBounds_toArray, List.set_cons_zero, List.set_cons_succ, i64_w, i32_w]
        rfl
       refine pure_ (i := 3) (N := some 58) (v := ?_) (a' := ?_) #[true, true, true, true, false, false, false, false, false, false, false, false, false, false, false, false, false, false, false] rfl rfl (by kernel_rfl) (fun _ _ _ h => h) (Or.inl ⟨by rfl, ?_⟩) ?_ ?_
       rotate_left
       ·intro w'
        go_simp
        with_reducible rfl
       rotate_left
       ·simp only [Act.put, List.setIfInBounds_toArray, List.set_cons_zero, List.set_cons_succ, i64_w, i32_w]
        rfl
       refine pure_ (i := 5) (N := some 60) (v := ?_) (a' := ?_) #[true, true, true, true, false, true, false, false, false, false, false, false, false, false, false, false, false, false, false] rfl rfl (by kernel_rfl) (fun _ _ _ h => h) (Or.inl ⟨by rfl, ?_⟩) ?_ ?_
       rotate_left
       ·intro w'
        go_simp
        with_reducible rfl
       rotate_left
       ·simp only [Act.put, List.setIfInBounds_toArray, List.set_cons_zero, List.set_cons_succ, i64_w, i32_w]
        rfl
       refine pure_ (i := 6) (N := some 61) (v := ?_) (a' := ?_) #[true, true, true, true, false, true, true, false, false, false, false, false, false, false, false, false, false, false, false] rfl rfl (by kernel_rfl) (fun _ _ _ h => h) (Or.inl ⟨by rfl, ?_⟩) ?_ ?_
       rotate_left
       ·intro w'
        go_simp
        with_reducible rfl
       rotate_left
       ·simp only [Act.put, List.setIfInBounds_toArray, List.set_cons_zero, List.set_cons_succ, i64_w, i32_w]
        rfl
       refine pure_ (i := 7) (N := some 62) (v := ?_) (a' := ?_) #[true, true, true, true, false, true, true, true, false, false, false, false, false, false, false, false, false, false, false] rfl rfl (by kernel_rfl) (fun _ _ _ h => h) (Or.inl ⟨by rfl, ?_⟩) ?_ ?_
       rotate_left
       ·intro w'
        go_simp
        with_reducible rfl
       rotate_left
       ·simp only [Act.put, List.setIfInBounds_toArray, List.set_cons_zero, List.set_cons_succ, i64_w, i32_w]
        rfl
       refine one_ (i := 4) (N := some 59) #[true, true, true, true, true, true, true, true, false, false, false, false, false, false, false, false, false, false, false] rfl rfl (by kernel_rfl) (by decide) (fun K hK => ?_)
       refine goes_ Tryd.func26 (by kernel_rfl) rfl #[.int .i64 n] (by rfl) rfl rfl (by (try simp only [List.map_toArray, List.map_cons, List.map_nil]); first | done | rfl | (simp only [List.length_drop, List.length_take]; rfl)) ?_
       with_reducible refine (strconv_Itoa.calls n it _ (HLL.out.below HB7.out) HIT.out).mono ?_
       rintro e wr4 ⟨rfl, hb⟩
       refine ⟨_, rfl, ?_⟩
       have HB8 := Aside0.mk (below_step HB7.out hb)
       clear hb HB7
       refine hK.out _ _ trivial (fun hHeld => ?_)
       clear hK K
       refine norm_ (a' := ?_) ?_ ?_
       rotate_left
       ·show Act.put _ (some 59) _ = _
        simp only [Act.put, List.setIfInBounds_toArray, List.set_cons_zero, List.set_cons_succ, i64_w, i32_w]
        rfl
       refine pure_ (i := 8) (N := some 63) (v := ?_) (a' := ?_) #[true, true, true, true, true, true, true, true, true, false, false, false, false, false, false, false, false, false, false] rfl rfl (by kernel_rfl) (fun _ _ _ h => h) (Or.inl ⟨by rfl, ?_⟩) ?_ ?_
       rotate_left
       ·intro w'
        go_simp
        with_reducible rfl
       rotate_left
       ·simp only [Act.put, List.setIfInBounds_toArray, List.set_cons_zero, List.set_cons_succ, i64_w, i32_w]
        rfl
       refine pure_ (i := 9) (N := some 64) (v := ?_) (a' := ?_) #[true, true, true, true, true, true, true, true, true, true, false, false, false, false, false, false, false, false, false] rfl rfl (by kernel_rfl) (fun _ _ _ h => h) (Or.inl ⟨by rfl, ?_⟩) ?_ ?_
       rotate_left
       ·intro w'
        go_simp
        with_reducible rfl
       rotate_left
       ·simp only [Act.put, List.setIfInBounds_toArray, List.set_cons_zero, List.set_cons_succ, i64_w, i32_w]
        rfl
       refine pure_ (i := 10) (N := some 65) (v := ?_) (a' := ?_) #[true, true, true, true, true, true, true, true, true, true, true, false, false, false, false, false, false, false, false] rfl rfl (by kernel_rfl) (fun _ _ _ h => h) (Or.inl ⟨by rfl, ?_⟩) ?_ ?_
       rotate_left
       ·intro w'
        go_simp
        with_reducible rfl
       rotate_left
       ·simp only [Act.put, List.setIfInBounds_toArray, List.set_cons_zero, List.set_cons_succ, i64_w, i32_w]
        rfl
       refine pure_ (i := 11) (N := some 66) (v := ?_) (a' := ?_) #[true, true, true, true, true, true, true, true, true, true, true, true, false, false, false, false, false, false, false] rfl rfl (by kernel_rfl) (fun _ _ _ h => h) (Or.inl ⟨by rfl, ?_⟩) ?_ ?_
       rotate_left
       ·intro w'
        go_simp
        with_reducible rfl
       rotate_left
       ·simp only [Act.put, List.setIfInBounds_toArray, List.set_cons_zero, List.set_cons_succ, i64_w, i32_w]
        rfl
       refine pure_ (i := 12) (N := some 67) (v := ?_) (a' := ?_) #[true, true, true, true, true, true, true, true, true, true, true, true, true, false, false, false, false, false, false] rfl rfl (by kernel_rfl) (fun _ _ _ h => h) (Or.inl ⟨by rfl, ?_⟩) ?_ ?_
       rotate_left
       ·intro w'
        go_simp
        with_reducible rfl
       rotate_left
       ·simp only [Act.put, List.setIfInBounds_toArray, List.set_cons_zero, List.set_cons_succ, i64_w, i32_w]
        rfl
       refine pure_ (i := 13) (N := some 68) (v := ?_) (a' := ?_) #[true, true, true, true, true, true, true, true, true, true, true, true, true, true, false, false, false, false, false] rfl rfl (by kernel_rfl) (fun _ _ _ h => h) (Or.inl ⟨by rfl, ?_⟩) ?_ ?_
       rotate_left
       ·intro w'
        go_simp
        with_reducible rfl
       rotate_left
       ·simp only [Act.put, List.setIfInBounds_toArray, List.set_cons_zero, List.set_cons_succ, i64_w, i32_w]
        rfl
       refine pure_ (i := 14) (N := some 69) (v := ?_) (a' := ?_) #[true, true, true, true, true, true, true, true, true, true, true, true, true, true, true, false, false, false, false] rfl rfl (by kernel_rfl) (fun _ _ _ h => h) (Or.inl ⟨by rfl, ?_⟩) ?_ ?_
       rotate_left
       ·intro w'
        go_simp
        with_reducible rfl
       rotate_left
       ·simp only [Act.put, List.setIfInBounds_toArray, List.set_cons_zero, List.set_cons_succ, i64_w, i32_w]
        rfl
       refine pure_ (i := 15) (N := some 70) (v := undef) (a' := ?_) #[true, true, true, true, true, true, true, true, true, true, true, true, true, true, true, true, false, false, false] rfl rfl (by kernel_rfl) (fun _ _ _ h => h) (Or.inr ⟨by rfl, rfl⟩) ?_ ?_
       rotate_left
       ·simp only [Act.put, List.setIfInBounds_toArray, List.set_cons_zero, List.set_cons_succ, i64_w, i32_w]
        rfl
       refine one_ (i := 16) (N := some 71) #[true, true, true, true, true, true, true, true, true, true, true, true, true, true, true, true, true, false, false] rfl rfl (by kernel_rfl) (by decide) (fun K hK => ?_)
       show K (Act.put _ (some 71) undef) _
       refine hK.out _ _ trivial (fun hHeld => ?_)
       clear hK K
       refine norm_ (a' := ?_) ?_ ?_
       rotate_left
       ·show Act.put _ (some 71) _ = _
        simp only [Act.put, List.setIfInBounds_toArray, List.set_cons_zero, List.set_cons_succ, i64_w, i32_w]
        rfl
       refine pure_ (i := 17) (N := some 72) (v := undef) (a' := ?_) #[true, true, true, true, true, true, true, true, true, true, true, true, true, true, true, true, true, true, false] rfl rfl (by kernel_rfl) (fun _ _ _ h => h) (Or.inr ⟨by rfl, rfl⟩) ?_ ?_
       rotate_left
       ·simp only [Act.put, List.setIfInBounds_toArray, List.set_cons_zero, List.set_cons_succ, i64_w, i32_w]
        rfl
       refine pure_ (i := 18) (N := some 73) (v := ?_) (a' := ?_) #[true, true, true, true, true, true, true, true, true, true, true, true, true, true, true, true, true, true, true] rfl rfl (by kernel_rfl) (fun _ _ _ h => h) (Or.inl ⟨by rfl, ?_⟩) ?_ ?_
       rotate_left
       ·intro w'
        go_simp
        with_reducible rfl
       rotate_left
       ·simp only [Act.put, List.setIfInBounds_toArray, List.set_cons_zero, List.set_cons_succ, i64_w, i32_w]
        rfl
       refine done_ (by kernel_rfl) ?_
       go_wp2
       go_ret2
       exact ⟨rfl, by repeat (first | (with_reducible first | exact HB8.out | apply below_alloc | apply pw_below_drewN | apply below_drew1) | exact HB8.out)⟩
      case neg =>
      rw [if_neg c6] at h
      have n3 : (n == 0) = false := beq_eq_false_iff_ne.mpr c6
      clear c6
      obtain ⟨b, hX, h⟩ := Option.bind_eq_some_iff.mp h
      have HX := Aside0.mk hX
      clear hX
      cases b with
      | false =>
       rw [if_neg (by simp)] at h
       obtain ⟨rfl, rfl⟩ := Prod.mk.inj (Option.some.inj h)
       clear h
       have HB7 : Aside0 (Below w.heap.size w w6.drew) := ⟨below_drew1 HB6.out⟩
       clear HB6
       refine start_ (n := 19) (S := fun w' => True) (ds := [18]) #[false, false, false, false, false, false, false, false, false, false, false, false, false, false, false, false, false, false, false] (by kernel_rfl) rfl rfl trivial (fun hHeld => ?_)
       generalize World.drew _ = wr0 at HB7 hHeld ⊢
       refine pure_ (i := 0) (N := some 55) (v := ?_) (a' := ?_) #[true, false, false, false, false, false, false, false, false, false, false, false, false, false, false, false, false, false, false] rfl rfl (by kernel_rfl) (fun _ _ _ h => h) (Or.inl ⟨by rfl, ?_⟩) ?_ ?_
       rotate_left
       ·intro w'
        go_simp
        with_reducible rfl
       rotate_left
       ·simp only [Act.put, List.setIfInBounds_toArray, List.set_cons_zero, List.set_cons_succ, i64_w, i32_w]
        rfl
       refine pure_ (i := 1) (N := some 56) (v := ?_) (a' := ?_) #[true, true, false, false, false, false, false, false, false, false, false, false, false, false, false, false, false, false, false] rfl rfl (by kernel_rfl) (fun _ _ _ h => h) (Or.inl ⟨by rfl, ?_⟩) ?_ ?_
       rotate_left
       ·intro w'
        go_simp
        with_reducible rfl
       rotate_left
       ·simp only [Act.put, List.setIfInBounds_toArray, List.set_cons_zero, List.set_cons_succ, i64_w, i32_w]
        rfl
       refine pure_ (i := 2) (N := some 57) (v := ?_) (a' := ?_) #[true, true, true, false, false, false, false, false, false, false, false, false, false, false, false, false, false, false, false] rfl rfl (by kernel_rfl) (fun _ _ _ h => h) (Or.inl ⟨by rfl, ?_⟩) ?_ ?_
       rotate_left
       ·intro w'
        go_simp
        with_reducible rfl
       rotate_left
       ·simp only [Act.put, List.setIfInBounds_toArray, List.set_cons_zero, List.set_cons_succ, i64_w, i32_w]
        rfl
       refine pure_ (i := 3) (N := some 58) (v := ?_) (a' := ?_) #[true, true, true, true, false, false, false, false, false, false, false, false, false, false, false, false, false, false, false] rfl rfl (by kernel_rfl) (fun _ _ _ h => h) (Or.inl ⟨by rfl, ?_⟩) ?_ ?_
       rotate_left
       ·intro w'
        go_simp
        with_reducible rfl
       rotate_left
       ·simp only [Act.put, List.setIfInBounds_toArray, List.set_cons_zero, List.set_cons_succ, i64_w, i32_w]
        rfl
       refine pure_ (i := 5) (N := some 60) (v := ?_) (a' := ?_) #[true, true, true, true, false, true, false, false, false, false, false, false, false, false, false, false, false, false, false] rfl rfl (by kernel_rfl) (fun _ _ _ h => h) (Or.inl ⟨by rfl, ?_⟩) ?_ ?_
       rotate_left
       ·intro w'
        go_simp
        with_reducible rfl
       rotate_left
       ·simp only [Act.put, List.setIfInBounds_toArray, List.set_cons_zero, List.set_cons_succ, i64_w, i32_w]
        rfl
       refine pure_ (i := 6) (N := some 61) (v := ?_) (a' := ?_) #[true, true, true, true, false, true, true, false, false, false, false, false, false, false, false, false, false, false, false] rfl rfl (by kernel_rfl) (fun _ _ _ h => h) (Or.inl ⟨by rfl, ?_⟩) ?_ ?_
       rotate_left
       ·intro w'
        go_simp
        with_reducible rfl
       rotate_left
       ·simp only [Act.put, List.setIfInBounds_toArray, List.set_cons_zero, List.set_cons_succ, i64_w, i32_w]
        rfl
       refine pure_ (i := 7) (N := some 62) (v := ?_) (a' := ?_) #[true, true, true, true, false, true, true, true, false, false, false, false, false, false, false, false, false, false, false] rfl rfl (by kernel_rfl) (fun _ _ _ h => h) (Or.inl ⟨by rfl, ?_⟩) ?_ ?_
       rotate_left
       ·intro w'
        go_simp
        with_reducible rfl
       rotate_left
       ·simp only [Act.put, List.setIfInBounds_toArray, List.set_cons_zero, List.set_cons_succ, i64_w, i32_w]
        rfl
       refine one_ (i := 4) (N := some 59) #[true, true, true, true, true, true, true, true, false, false, false, false, false, false, false, false, false, false, false] rfl rfl (by kernel_rfl) (by decide) (fun K hK => ?_)
       refine goes_ Tryd.func26 (by kernel_rfl) rfl #[.int .i64 n] (by rfl) rfl rfl (by (try simp only [List.map_toArray, List.map_cons, List.map_nil]); first | done | rfl | (simp only [List.length_drop, List.length_take]; rfl)) ?_
       with_reducible refine (strconv_Itoa.calls n it _ (HLL.out.below HB7.out) HIT.out).mono ?_
       rintro e wr4 ⟨rfl, hb⟩
       refine ⟨_, rfl, ?_⟩
       have HB8 := Aside0.mk (below_step HB7.out hb)
       clear hb HB7
       refine hK.out _ _ trivial (fun hHeld => ?_)
       clear hK K
       refine norm_ (a' := ?_) ?_ ?_
       rotate_left
       ·show Act.put _ (some 59) _ = _
        simp only [Act.put, List.setIfInBounds_toArray, List.set_cons_zero, List.set_cons_succ, i64_w, i32_w]
        rfl
       refine pure_ (i := 8) (N := some 63) (v := ?_) (a' := ?_) #[true, true, true, true, true, true, true, true, true, false, false, false, false, false, false, false, false, false, false] rfl rfl (by kernel_rfl) (fun _ _ _ h => h) (Or.inl ⟨by rfl, ?_⟩) ?_ ?_
       rotate_left
       ·intro w'
        go_simp
        with_reducible rfl
       rotate_left
       ·simp only [Act.put, List.setIfInBounds_toArray, List.set_cons_zero, List.set_cons_succ, i64_w, i32_w]
        rfl
       refine pure_ (i := 9) (N := some 64) (v := ?_) (a' := ?_) #[true, true, true, true, true, true, true, true, true, true, false, false, false, false, false, false, false, false, false] rfl rfl (by kernel_rfl) (fun _ _ _ h => h) (Or.inl ⟨by rfl, ?_⟩) ?_ ?_
       rotate_left
       ·intro w'
        go_simp
        with_reducible rfl
       rotate_left
       ·simp only [Act.put, List.setIfInBounds_toArray, List.set_cons_zero, List.set_cons_succ, i64_w, i32_w]
        rfl
       refine pure_ (i := 10) (N := some 65) (v := ?_) (a' := ?_) #[true, true, true, true, true, true, true, true, true, true, true, false, false, false, false, false, false, false, false] rfl rfl (by kernel_rfl) (fun _ _ _ h => h) (Or.inl ⟨by rfl, ?_⟩) ?_ ?_
       rotate_left
       ·intro w'
        go_simp
        with_reducible rfl
       rotate_left
       ·simp only [Act.put, List.setIfInBounds_toArray, List.set_cons_zero, List.set_cons_succ, i64_w, i32_w]
        rfl
       refine pure_ (i := 11) (N := some 66) (v := ?_) (a' := ?_) #[true, true, true, true, true, true, true, true, true, true, true, true, false, false, false, false, false, false, false] rfl rfl (by kernel_rfl) (fun _ _ _ h => h) (Or.inl ⟨by rfl, ?_⟩) ?_ ?_
       rotate_left
       ·intro w'
        go_simp
        with_reducible rfl
       rotate_left
       ·simp only [Act.put, List.setIfInBounds_toArray, List.set_cons_zero, List.set_cons_succ, i64_w, i32_w]
        rfl
       refine pure_ (i := 12) (N := some 67) (v := ?_) (a' := ?_) #[true, true, true, true, true, true, true, true, true, true, true, true, true, false, false, false, false, false, false] rfl rfl (by kernel_rfl) (fun _ _ _ h => h) (Or.inl ⟨by rfl, ?_⟩) ?_ ?_
       rotate_left
       ·intro w'
        go_simp
        with_reducible rfl
       rotate_left
       ·simp only [Act.put, List.setIfInBounds_toArray, List.set_cons_zero, List.set_cons_succ, i64_w, i32_w]
        rfl
       refine pure_ (i := 13) (N := some 68) (v := ?_) (a' := ?_) #[true, true, true, true, true, true, true, true, true, true, true, true, true, true, false, false, false, false, false] rfl rfl (by kernel_rfl) (fun _ _ _ h => h) (Or.inl ⟨by rfl, ?_⟩) ?_ ?_
       rotate_left
       ·intro w'
        go_simp
        with_reducible rfl
       rotate_left
       ·simp only [Act.put, List.setIfInBounds_toArray, List.set_cons_zero, List.set_cons_succ, i64_w, i32_w]
        rfl
       refine pure_ (i := 14) (N := some 69) (v := ?_) (a' := ?_) #[true, true, true, true, true, true, true, true, true, true, true, true, true, true, true, false, false, false, false] rfl rfl (by kernel_rfl) (fun _ _ _ h => h) (Or.inl ⟨by rfl, ?_⟩) ?_ ?_
       rotate_left
       ·intro w'
        go_simp
        with_reducible rfl
       rotate_left
       ·simp only [Act.put, List.setIfInBounds_toArray, List.set_cons_zero, List.set_cons_succ, i64_w, i32_w]
        rfl
       refine pure_ (i := 15) (N := some 70) (v := ?_) (a' := ?_) #[true, true, true, true, true, true, true, true, true, true, true, true, true, true, true, true, false, false, false] rfl rfl (by kernel_rfl) (fun _ _ _ h => h) (Or.inl ⟨by rfl, ?_⟩) ?_ ?_
       rotate_left
       ·intro w'
        go_simp
        with_reducible rfl
       rotate_left
       ·simp only [Act.put, List.setIfInBounds_toArray, List.set_cons_zero, List.set_cons_succ, i64_w, i32_w]
        rfl
       refine one_ (i := 16) (N := some 71) #[true, true, true, true, true, true, true, true, true, true, true, true, true, true, true, true, true, false, false] rfl rfl (by kernel_rfl) (by decide) (fun K hK => ?_)
       refine goes_ Tryd.func55 (by kernel_rfl) rfl #[.int .i64 n] (by rfl) rfl rfl (by (try simp only [List.map_toArray, List.map_cons, List.map_nil]); first | done | rfl | (simp only [List.length_drop, List.length_take]; rfl)) ?_
       with_reducible refine (impl_IsText.calls n false _ HX.out).mono ?_
       rintro e wr16 ⟨rfl, hd⟩
       refine ⟨_, rfl, ?_⟩
       have HB9 := Aside0.mk (below_step HB8.out hd.below)
       clear hd HB8
       refine hK.out _ _ trivial (fun hHeld => ?_)
       clear hK K
       refine norm_ (a' := ?_) ?_ ?_
       rotate_left
       ·show Act.put _ (some 71) _ = _
        simp only [Act.put, List.setIfInBounds_toArray, List.set_cons_zero, List.set_cons_succ, i64_w, i32_w]
        rfl
       refine pure_ (i := 17) (N := some 72) (v := ?_) (a' := ?_) #[true, true, true, true, true, true, true, true, true, true, true, true, true, true, true, true, true, true, false] rfl rfl (by kernel_rfl) (fun _ _ _ h => h) (Or.inl ⟨by rfl, ?_⟩) ?_ ?_
       rotate_left
       ·intro w'
        go_simp
        with_reducible rfl
       rotate_left
       ·simp only [Act.put, List.setIfInBounds_toArray, List.set_cons_zero, List.set_cons_succ, i64_w, i32_w]
        rfl
       refine pure_ (i := 18) (N := some 73) (v := ?_) (a' := ?_) #[true, true, true, true, true, true, true, true, true, true, true, true, true, true, true, true, true, true, true] rfl rfl (by kernel_rfl) (fun _ _ _ h => h) (Or.inl ⟨by rfl, ?_⟩) ?_ ?_
       rotate_left
       ·intro w'
        go_simp
        with_reducible rfl
       rotate_left
       ·simp only [Act.put, List.setIfInBounds_toArray, List.set_cons_zero, List.set_cons_succ, i64_w, i32_w]
        rfl
       refine done_ (by kernel_rfl) ?_
       go_wp2
       go_ret2
       exact ⟨rfl, by repeat (first | (with_reducible first | exact HB9.out | apply below_alloc | apply pw_below_drewN | apply below_drew1) | exact HB9.out)⟩
      | true =>
       rw [if_pos rfl] at h
       obtain ⟨p, hP, h⟩ := Option.bind_eq_some_iff.mp h
       have HP := Aside0.mk hP
       clear hP
       obtain ⟨rfl, rfl⟩ := Prod.mk.inj (Option.some.inj h)
       clear h
       have HB7 : Aside0 (Below w.heap.size w w6.drew) := ⟨below_drew1 HB6.out⟩
       clear HB6
       refine start_ (n := 19) (S := fun w' => True) (ds := [18]) #[false, false, false, false, false, false, false, false, false, false, false, false, false, false, false, false, false, false, false] (by kernel_rfl) rfl rfl trivial (fun hHeld => ?_)
       generalize World.drew _ = wr0 at HB7 hHeld ⊢
       refine pure_ (i := 0) (N := some 55) (v := ?_) (a' := ?_) #[true, false, false, false, false, false, false, false, false, false, false, false, false, false, false, false, false, false, false] rfl rfl (by kernel_rfl) (fun _ _ _ h => h) (Or.inl ⟨by rfl, ?_⟩) ?_ ?_
       rotate_left
       ·intro w'
        go_simp
        with_reducible rfl
       rotate_left
       ·simp only [Act.put, List.setIfInBounds_toArray, List.set_cons_zero, List.set_cons_succ, i64_w, i32_w]
        rfl
       refine pure_ (i := 1) (N := some 56) (v := ?_) (a' := ?_) #[true, true, false, false, false, false, false, false, false, false, false, false, false, false, false, false, false, false, false] rfl rfl (by kernel_rfl) (fun _ _ _ h => h) (Or.inl ⟨by rfl, ?_⟩) ?_ ?_
       rotate_left
       ·intro w'
        go_simp
        with_reducible rfl
       rotate_left
       ·simp only [Act.put, List.setIfInBounds_toArray, List.set_cons_zero, List.set_cons_succ, i64_w, i32_w]
        rfl
       refine pure_ (i := 2) (N := some 57) (v := ?_) (a' := ?_) #[true, true, true, false, false, false, false, false, false, false, false, false, false, false, false, false, false, false, false] rfl rfl (by kernel_rfl) (fun _ _ _ h => h) (Or.inl ⟨by rfl, ?_⟩) ?_ ?_
       rotate_left
       ·intro w'
        go_simp
        with_reducible rfl
       rotate_left
       ·simp only [Act.put, List.setIfInBounds_toArray, List.set_cons_zero, List.set_cons_succ, i64_w, i32_w]
        rfl
       refine pure_ (i := 3) (N := some 58) (v := ?_) (a' := ?_) #[true, true, true, true, false, false, false, false, false, false, false, false, false, false, false, false, false, false, false] rfl rfl (by kernel_rfl) (fun _ _ _ h => h) (Or.inl ⟨by rfl, ?_⟩) ?_ ?_
       rotate_left
       ·intro w'
        go_simp
        with_reducible rfl
       rotate_left
       ·simp only [Act.put, List.setIfInBounds_toArray, List.set_cons_zero, List.set_cons_succ, i64_w, i32_w]
        rfl
       refine pure_ (i := 5) (N := some 60) (v := ?_) (a' := ?_) #[true, true, true, true, false, true, false, false, false, false, false, false, false, false, false, false, false, false, false] rfl rfl (by kernel_rfl) (fun _ _ _ h => h) (Or.inl ⟨by rfl, ?_⟩) ?_ ?_
       rotate_left
       ·intro w'
        go_simp
        with_reducible rfl
       rotate_left
       ·simp only [Act.put, List.setIfInBounds_toArray, List.set_cons_zero, List.set_cons_succ, i64_w, i32_w]
        rfl
       refine pure_ (i := 6) (N := some 61) (v := ?_) (a' := ?_) #[true, true, true, true, false, true, true, false, false, false, false, false, false, false, false, false, false, false, false] rfl rfl (by kernel_rfl) (fun _ _ _ h => h) (Or.inl ⟨by rfl, ?_⟩) ?_ ?_
       rotate_left
       ·intro w'
        go_simp
        with_reducible rfl
       rotate_left
       ·simp only [Act.put, List.setIfInBounds_toArray, List.set_cons_zero, List.set_cons_succ, i64_w, i32_w]
        rfl
       refine pure_ (i := 7) (N := some 62) (v := ?_) (a' := ?_) #[true, true, true, true, false, true, true, true, false, false, false, false, false, false, false, false, false, false, false] rfl rfl (by kernel_rfl) (fun _ _ _ h => h) (Or.inl ⟨by rfl, ?_⟩) ?_ ?_
       rotate_left
       ·intro w'
        go_simp
        with_reducible rfl
       rotate_left
       ·simp only [Act.put, List.setIfInBounds_toArray, List.set_cons_zero, List.set_cons_succ, i64_w, i32_w]
        rfl
       refine one_ (i := 4) (N := some 59) #[true, true, true, true, true, true, true, true, false, false, false, false, false, false, false, false, false, false, false] rfl rfl (by kernel_rfl) (by decide) (fun K hK => ?_)
       refine goes_ Tryd.func26 (by kernel_rfl) rfl #[.int .i64 n] (by rfl) rfl rfl (by (try simp only [List.map_toArray, List.map_cons, List.map_nil]); first | done | rfl | (simp only [List.length_drop, List.length_take]; rfl)) ?_
       with_reducible refine (strconv_Itoa.calls n it _ (HLL.out.below HB7.out) HIT.out).mono ?_
       rintro e wr4 ⟨rfl, hb⟩
       refine ⟨_, rfl, ?_⟩
       have HB8 := Aside0.mk (below_step HB7.out hb)
       clear hb HB7
       refine hK.out _ _ trivial (fun hHeld => ?_)
       clear hK K
       refine norm_ (a' := ?_) ?_ ?_
       rotate_left
       ·show Act.put _ (some 59) _ = _
        simp only [Act.put, List.setIfInBounds_toArray, List.set_cons_zero, List.set_cons_succ, i64_w, i32_w]
        rfl
       refine pure_ (i := 8) (N := some 63) (v := ?_) (a' := ?_) #[true, true, true, true, true, true, true, true, true, false, false, false, false, false, false, false, false, false, false] rfl rfl (by kernel_rfl) (fun _ _ _ h => h) (Or.inl ⟨by rfl, ?_⟩) ?_ ?_
       rotate_left
       ·intro w'
        go_simp
        with_reducible rfl
       rotate_left
       ·simp only [Act.put, List.setIfInBounds_toArray, List.set_cons_zero, List.set_cons_succ, i64_w, i32_w]
        rfl
       refine pure_ (i := 9) (N := some 64) (v := ?_) (a' := ?_) #[true, true, true, true, true, true, true, true, true, true, false, false, false, false, false, false, false, false, false] rfl rfl (by kernel_rfl) (fun _ _ _ h => h) (Or.inl ⟨by rfl, ?_⟩) ?_ ?_
       rotate_left
       ·intro w'
        go_simp
        with_reducible rfl
       rotate_left
       ·simp only [Act.put, List.setIfInBounds_toArray, List.set_cons_zero, List.set_cons_succ, i64_w, i32_w]
        rfl
       refine pure_ (i := 10) (N := some 65) (v := ?_) (a' := ?_) #[true, true, true, true, true, true, true, true, true, true, true, false, false, false, false, false, false, false, false] rfl rfl (by kernel_rfl) (fun _ _ _ h => h) (Or.inl ⟨by rfl, ?_⟩) ?_ ?_
       rotate_left
       ·intro w'
        go_simp
        with_reducible rfl
       rotate_left
       ·simp only [Act.put, List.setIfInBounds_toArray, List.set_cons_zero, List.set_cons_succ, i64_w, i32_w]
        rfl
       refine pure_ (i := 11) (N := some 66) (v := ?_) (a' := ?_) #[true, true, true, true, true, true, true, true, true, true, true, true, false, false, false, false, false, false, false] rfl rfl (by kernel_rfl) (fun _ _ _ h => h) (Or.inl ⟨by rfl, ?_⟩) ?_ ?_
       rotate_left
       ·intro w'
        go_simp
        with_reducible rfl
       rotate_left
       ·simp only [Act.put, List.setIfInBounds_toArray, List.set_cons_zero, List.set_cons_succ, i64_w, i32_w]
        rfl
       refine pure_ (i := 12) (N := some 67) (v := ?_) (a' := ?_) #[true, true, true, true, true, true, true, true, true, true, true, true, true, false, false, false, false, false, false] rfl rfl (by kernel_rfl) (fun _ _ _ h => h) (Or.inl ⟨by rfl, ?_⟩) ?_ ?_
       rotate_left
       ·intro w'
        go_simp
        with_reducible rfl
       rotate_left
       ·simp only [Act.put, List.setIfInBounds_toArray, List.set_cons_zero, List.set_cons_succ, i64_w, i32_w]
        rfl
       refine pure_ (i := 13) (N := some 68) (v := ?_) (a' := ?_) #[true, true, true, true, true, true, true, true, true, true, true, true, true, true, false, false, false, false, false] rfl rfl (by kernel_rfl) (fun _ _ _ h => h) (Or.inl ⟨by rfl, ?_⟩) ?_ ?_
       rotate_left
       ·intro w'
        go_simp
        with_reducible rfl
       rotate_left
       ·simp only [Act.put, List.setIfInBounds_toArray, List.set_cons_zero, List.set_cons_succ, i64_w, i32_w]
        rfl
       refine pure_ (i := 14) (N := some 69) (v := ?_) (a' := ?_) #[true, true, true, true, true, true, true, true, true, true, true, true, true, true, true, false, false, false, false] rfl rfl (by kernel_rfl) (fun _ _ _ h => h) (Or.inl ⟨by rfl, ?_⟩) ?_ ?_
       rotate_left
       ·intro w'
        go_simp
        with_reducible rfl
       rotate_left
       ·simp only [Act.put, List.setIfInBounds_toArray, List.set_cons_zero, List.set_cons_succ, i64_w, i32_w]
        rfl
       refine pure_ (i := 15) (N := some 70) (v := ?_) (a' := ?_) #[true, true, true, true, true, true, true, true, true, true, true, true, true, true, true, true, false, false, false] rfl rfl (by kernel_rfl) (fun _ _ _ h => h) (Or.inl ⟨by rfl, ?_⟩) ?_ ?_
       rotate_left
       ·intro w'
        go_simp
        with_reducible rfl
       rotate_left
       ·simp only [Act.put, List.setIfInBounds_toArray, List.set_cons_zero, List.set_cons_succ, i64_w, i32_w]
        rfl
       refine one_ (i := 16) (N := some 71) #[true, true, true, true, true, true, true, true, true, true, true, true, true, true, true, true, true, false, false] rfl rfl (by kernel_rfl) (by decide) (fun K hK => ?_)
       refine goes_ Tryd.func55 (by kernel_rfl) rfl #[.int .i64 n] (by rfl) rfl rfl (by (try simp only [List.map_toArray, List.map_cons, List.map_nil]); first | done | rfl | (simp only [List.length_drop, List.length_take]; rfl)) ?_
       with_reducible refine (impl_IsText.calls n true _ HX.out).mono ?_
       rintro e wr16 ⟨rfl, hd⟩
       refine ⟨_, rfl, ?_⟩
       have HB9 := Aside0.mk (below_step HB8.out hd.below)
       clear hd HB8
       refine hK.out _ _ trivial (fun hHeld => ?_)
       clear hK K
       refine norm_ (a' := ?_) ?_ ?_
       rotate_left
       ·show Act.put _ (some 71) _ = _
        simp only [Act.put, List.setIfInBounds_toArray, List.set_cons_zero, List.set_cons_succ, i64_w, i32_w]
        rfl
       refine pure_ (i := 17) (N := some 72) (v := ?_) (a' := ?_) #[true, true, true, true, true, true, true, true, true, true, true, true, true, true, true, true, true, true, false] rfl rfl (by kernel_rfl) (fun _ _ _ h => h) (Or.inl ⟨by rfl, ?_⟩) ?_ ?_
       rotate_left
       ·intro w'
        go_simp
        with_reducible rfl
       rotate_left
       ·simp only [Act.put, List.setIfInBounds_toArray, List.set_cons_zero, List.set_cons_succ, i64_w, i32_w]
        rfl
       refine pure_ (i := 18) (N := some 73) (v := ?_) (a' := ?_) #[true, true, true, true, true, true, true, true, true, true, true, true, true, true, true, true, true, true, true] rfl rfl (by kernel_rfl) (fun _ _ _ h => h) (Or.inl ⟨by rfl, ?_⟩) ?_ ?_
       rotate_left
       ·intro w'
        go_simp
        with_reducible rfl
       rotate_left
       ·simp only [Act.put, List.setIfInBounds_toArray, List.set_cons_zero, List.set_cons_succ, i64_w, i32_w]
        rfl
       refine done_ (by kernel_rfl) ?_
       go_wp2_with ((go_at_call 68; (with_reducible refine (impl_PutSign.calls k n p _ HP.out).mono ?_); rintro r w10 ⟨rfl, hb⟩; have HB10 := Aside0.mk (below_step HB9.out hb); clear hb))
       go_ret2
       exact ⟨rfl, HB10.out⟩
end Go.Proofs.YtkmmoheeoblmnaaDoor.A
namespace Go.Proofs.YtkmmoheeoblmnaaDoor.A
open Go.RowKit Go.Proofs.YtkmmoheeoblmnaaDoorW.PrintWords Go.Proofs.YtkmmoheeoblmnaaDoorW.PrintLast Go.Proofs.YtkmmoheeoblmnaaDoorW.PrintMore
attribute [local go_sem] max2_int min2_int max_two min_two max_three min_three max_four min_four   -- for this text's walks alone
set_option linter.unusedVariables false
set_option linter.unusedSimpArgs false
def stringslite_HasSuffix.f (a0 : ByteArray) (a1 : ByteArray) : Option (Bool) := if (a0.size : Int) ≥ (a1.size : Int) then (if 0 ≤ (wrap64 ((a0.size : Int) - (a1.size : Int))) then (if (wrap64 ((a0.size : Int) - (a1.size : Int))) ≤ (a0.size : Int) then (some ((a0.extract ((wrap64 ((a0.size : Int) - (a1.size : Int))) : Int).toNat a0.size).toList == a1.toList)) else (none)) else (none)) else (some false)
set_option maxHeartbeats 8000000 in
set_option maxRecDepth 100000 in
theorem stringslite_HasSuffix.calls (a0 : ByteArray) (a1 : ByteArray) (r : Bool) (w : World) (h : stringslite_HasSuffix.f a0 a1 = some r) :
  Calls Tryd.prog 76 #[.string a0, .string a1] w fun e w' => e = .returned (.bool r) ∧ Drawn0 w w' := by
 have H : (if (a0.size : Int) ≥ (a1.size : Int) then (if 0 ≤ (wrap64 ((a0.size : Int) - (a1.size : Int))) then (if (wrap64 ((a0.size : Int) - (a1.size : Int))) ≤ (a0.size : Int) then (some ((a0.extract ((wrap64 ((a0.size : Int) - (a1.size : Int))) : Int).toNat a0.size).toList == a1.toList)) else (none)) else (none)) else (some false)) = some r := h
 clear h
 by_cases c3 : (a0.size : Int) ≥ (a1.size : Int)
 ·rw [if_pos c3] at H
  have c3b0 : decide ((a1.size : Int) ≤ (a0.size : Int)) = true := decide_eq_true c3
  have c3b1 : decide (a1.size ≤ a0.size) = true := decide_eq_true (Int.ofNat_le.mp c3)
  clear c3
  obtain ⟨ji4, hji4⟩ : ∃ j_ : Int, (wrap64 ((a0.size : Int) - (a1.size : Int))) = j_ := ⟨_, rfl⟩
  replace H : (if 0 ≤ (ji4) then (if (ji4) ≤ (a0.size : Int) then (some ((a0.extract ((ji4) : Int).toNat a0.size).toList == a1.toList)) else (none)) else (none)) = some r := by first | (rw [hji4] at H; exact H) | (simp only [hji4] at H ⊢; exact H)
  have hji4w : (IntKind.i64.wrap ((a0.size : Int) - (a1.size : Int))) = ji4 := (i64_w _).trans hji4
  by_cases c5 : 0 ≤ (ji4)
  ·rw [if_pos c5] at H
   have c5b0 := eq_true c5
   have c5b1 : decide (0 ≤ (ji4)) = true := decide_eq_true c5
   clear c5
   by_cases c6 : (ji4) ≤ (a0.size : Int)
   ·rw [if_pos c6] at H
    have c6b0 := eq_true c6
    have c6b1 : decide ((ji4) ≤ (a0.size : Int)) = true := decide_eq_true c6
    clear c6
    obtain rfl := Option.some.inj H
    go_enter Tryd.func76, Tryd.ntmps76
    go_wp2
    go_ret
    exact ⟨by first | rfl | (simp; done) | (simp only [← hji4] <;> (first | rfl | simp)) | (simp [*]; done), by repeat (first | exact Drawn0.refl _ | apply Drawn0.step)⟩
   ·rw [if_neg c6] at H
    exact absurd H (by simp)
  ·rw [if_neg c5] at H
   exact absurd H (by simp)
 ·rw [if_neg c3] at H
  have c3b0 : decide ((a1.size : Int) ≤ (a0.size : Int)) = false := decide_eq_false c3
  have c3b1 : decide (a1.size ≤ a0.size) = false := decide_eq_false (fun h => c3 (Int.ofNat_le.mpr h))
  clear c3
  obtain rfl := Option.some.inj H
  go_enter Tryd.func76, Tryd.ntmps76
  go_wp2
  go_ret
  exact ⟨by first | rfl | (simp; done) | (simp [*]; done), by repeat (first | exact Drawn0.refl _ | apply Drawn0.step)⟩
end Go.Proofs.YtkmmoheeoblmnaaDoor.A
namespace Go.Proofs.YtkmmoheeoblmnaaDoor.A
open Go.RowKit Go.Proofs.YtkmmoheeoblmnaaDoorW.PrintWords Go.Proofs.YtkmmoheeoblmnaaDoorW.PrintLast Go.Proofs.YtkmmoheeoblmnaaDoorW.PrintMore
attribute [local go_sem] max2_int min2_int max_two min_two max_three min_three max_four min_four   -- for this text's walks alone
set_option linter.unusedVariables false
set_option linter.unusedSimpArgs false
def strings_HasSuffix.f (a0 : ByteArray) (a1 : ByteArray) : Option (Bool) := (stringslite_HasSuffix.f a0 a1).bind fun t359 => (some t359)
set_option maxHeartbeats 8000000 in
set_option maxRecDepth 100000 in
theorem strings_HasSuffix.calls (a0 : ByteArray) (a1 : ByteArray) (r : Bool) (w : World) (h : strings_HasSuffix.f a0 a1 = some r) :
  Calls Tryd.prog 56 #[.string a0, .string a1] w fun e w' => e = .returned (.bool r) ∧ Drawn0 w w' := by
 have H : ((stringslite_HasSuffix.f a0 a1).bind fun t359 => (some t359)) = some r := h
 clear h
 replace H := Option.bind_eq_some_iff.mp H
 obtain ⟨t359, A30, H⟩ := H
 replace H : (some t359) = some r := H
 have A3 := Aside0.mk A30
 clear A30
 obtain rfl := Option.some.inj H
 go_enter Tryd.func56, Tryd.ntmps56
 go_wp2_with (first | ((with_reducible refine gate_callee (f := 76) rfl ?_); refine goesL_ (some 7) rfl rfl Tryd.func76 (by kernel_rfl) rfl #[.string a0, .string a1] rfl (by (try simp only [List.map_toArray, List.map_cons, List.map_nil]); first | done | rfl | (simp only [List.length_drop, List.length_take]; rfl)) ?_; (with_reducible refine (stringslite_HasSuffix.calls a0 a1 t359 _ A3.out).mono ?_); rintro e w' ⟨rfl, ⟨nd, rfl⟩⟩; refine ⟨_, rfl, ?_⟩))
 go_ret
 exact ⟨by first | rfl | (simp; done) | (simp [*]; done), by repeat (first | exact Drawn0.refl _ | apply Drawn0.step)⟩
end Go.Proofs.YtkmmoheeoblmnaaDoor.A
namespace Go.Proofs.YtkmmoheeoblmnaaDoor.A
open Go.RowKit Go.Proofs.YtkmmoheeoblmnaaDoorW.PrintWords Go.Proofs.YtkmmoheeoblmnaaDoorW.PrintLast Go.Proofs.YtkmmoheeoblmnaaDoorW.PrintMore
attribute [local go_sem] max2_int min2_int max_two min_two max_three min_three max_four min_four   -- for this text's walks alone
set_option linter.unusedVariables false
set_option linter.unusedSimpArgs false
def xtGo (rec_ : Int → List UInt8 → Option (ByteArray × Int)) (s : ByteArray) (i : Int) (c2 : Int) (out : List UInt8) : Option (ByteArray × Int) :=
 if i ≤ wrap64 (i + c2) ∧ wrap64 (i + c2) ≤ (s.size : Int) ∧ out.length + (s.extract i.toNat (wrap64 (i + c2)).toNat).size ≤ 140737488355327 then rec_ (wrap64 (i + c2)) (out ++ (s.extract i.toNat (wrap64 (i + c2)).toNat).data.toList) else none
def xtSign (rec_ : Int → List UInt8 → Option (ByteArray × Int)) (s : ByteArray) (a i : Int) (c1 c2 : Int) (out : List UInt8) : Option (ByteArray × Int) :=
 if c1 < 0 then some (⟨#[]⟩, -1)
 else (impl_IsText.f c1).bind fun b => if b = true then
  (if c1 = 13 then some (⟨#[]⟩, -1) else if c1 = 60 then some (⟨#[]⟩, -1)
   else if c1 = 62 then (if 0 ≤ a ∧ a ≤ i ∧ i ≤ (s.size : Int) then (strings_HasSuffix.f (s.extract a.toNat i.toNat) ⟨#[93, 93]⟩).bind fun h => if h = true then some (⟨#[]⟩, -1) else xtGo rec_ s i c2 out else none)
   else xtGo rec_ s i c2 out)
  else some (⟨#[]⟩, -1)
def xtL : Nat → ByteArray → Int → ByteArray → Int → List UInt8 → Option (ByteArray × Int)
 | 0, _, _, _, _, _ => none
 | n + 1, s, a, en, i, out =>
  if 0 ≤ i then
   (if i < (s.size : Int) then (strings_IndexByte.f en (bt s i)).bind fun q => if q < 0 then
     (if bt s i = 38 then (impl_XmlRef.f n s i).bind fun tn => if tn.2 < 0 then some (⟨#[]⟩, -1) else if out.length + tn.1.size ≤ 140737488355327 then xtL n s a en tn.2 (out ++ tn.1.data.toList) else none
      else (impl_cleanSign.f n s i).bind fun c => xtSign (xtL n s a en) s a i c.1 c.2 out)
    else some (⟨out.toArray⟩, i)
   else some (⟨out.toArray⟩, i))
  else none
theorem xtGo_mono {f g : Int → List UInt8 → Option (ByteArray × Int)} (h : ∀ i o, LeO (f i o) (g i o)) (s : ByteArray) (i c2 : Int) (out : List UInt8) : LeO (xtGo f s i c2 out) (xtGo g s i c2 out) := by
 unfold xtGo; exact LeO.ite (h _ _) (LeO.refl _)
theorem xtSign_mono {f g : Int → List UInt8 → Option (ByteArray × Int)} (h : ∀ i o, LeO (f i o) (g i o)) (s : ByteArray) (a i c1 c2 : Int) (out : List UInt8) : LeO (xtSign f s a i c1 c2 out) (xtSign g s a i c1 c2 out) := by
 unfold xtSign
 exact LeO.ite (LeO.refl _) (LeO.bind (LeO.refl _) (fun b => LeO.ite (LeO.ite (LeO.refl _) (LeO.ite (LeO.refl _) (LeO.ite (LeO.ite (LeO.bind (LeO.refl _) (fun h' => LeO.ite (LeO.refl _) (xtGo_mono h _ _ _ _))) (LeO.refl _)) (xtGo_mono h _ _ _ _)))) (LeO.refl _)))
theorem xtL_mono : ∀ k y0 y1 y2 y3 y4, LeO (xtL k y0 y1 y2 y3 y4) (xtL (k + 1) y0 y1 y2 y3 y4)
 | 0 => fun _ _ _ _ _ r h => by simp [xtL] at h
 | k + 1 => by
  have ih := xtL_mono k
  intro y0 y1 y2 y3 y4
  rw [xtL, xtL]
  exact LeO.ite (LeO.ite (LeO.bind (LeO.refl _) (fun q => LeO.ite (LeO.ite (LeO.bind (impl_XmlRef.mono _ _ _) (fun tn => LeO.ite (LeO.refl _) (LeO.ite (ih _ _ _ _ _) (LeO.refl _)))) (LeO.bind (impl_cleanSign.mono _ _ _) (fun c => xtSign_mono (fun i o => ih _ _ _ i o) _ _ _ _ _ _))) (LeO.refl _))) (LeO.refl _)) (LeO.refl _)
def impl_XmlText.f (k : Nat) (a0 : ByteArray) (a1 : Int) (a2 : ByteArray) : Option (ByteArray × Int) :=
 (impl_inRange.f a1 0 (a0.size : Int)).bind fun t => if t = true then xtL k a0 a1 a2 a1 [] else some (⟨#[]⟩, -1)
theorem impl_XmlText.mono : ∀ a0 a1 a2 k, LeO (impl_XmlText.f k a0 a1 a2) (impl_XmlText.f (k + 1) a0 a1 a2) := by
 intro a0 a1 a2 k
 unfold impl_XmlText.f
 exact LeO.bind (LeO.refl _) (fun t => LeO.ite (xtL_mono k _ _ _ _ _) (LeO.refl _))
set_option maxHeartbeats 8000000 in
set_option maxRecDepth 100000 in
theorem impl_XmlText.calls (k : Nat) (a0 : ByteArray) (a1 : Int) (a2 : ByteArray) (r1 : ByteArray) (r2 : Int) (w : World) (hL : LibOk w) (hE : LibErr w) (h : impl_XmlText.f k a0 a1 a2 = some (r1, r2)) :
  Calls Tryd.prog 36 #[.string a0, .int .i64 a1, .string a2] w fun e w' => e = .returned (.tuple #[.string r1, .int .i64 r2]) ∧ Below w.heap.size w w' := by
 have HLL := Aside0.mk hL
 have HEE := Aside0.mk hE
 clear hL hE
 unfold impl_XmlText.f at h
 have hub := Tryd.underlying56
 have HB := Aside0.mk (Below.refl w.heap.size w)
 obtain ⟨b, hin, h⟩ := Option.bind_eq_some_iff.mp h
 have Hin := Aside0.mk hin
 clear hin
 cases b with
 | false =>
  rw [if_neg (by simp)] at h
  obtain ⟨rfl, rfl⟩ := Prod.mk.inj (Option.some.inj h)
  clear h
  go_enter Tryd.func36, Tryd.ntmps36
  go_wp2_with ((go_at_call 40; (with_reducible refine (impl_inRange.calls a1 0 (a0.size : Int) false _ Hin.out).mono ?_); rintro r w' ⟨rfl, ⟨nd, rfl⟩⟩))
  go_ret2
  exact ⟨rfl, by repeat (first | (with_reducible first | exact HB.out | apply below_alloc | apply pw_below_drewN | apply below_drew1) | exact HB.out)⟩
 | true =>
  rw [if_pos rfl] at h
  have HF := Aside0.mk h
  clear h
  go_enter Tryd.func36, Tryd.ntmps36
  go_wp2_with ((go_at_call 40; (with_reducible refine (impl_inRange.calls a1 0 (a0.size : Int) true _ Hin.out).mono ?_); rintro r w2 ⟨rfl, hd⟩; have HB2 := Aside0.mk (below_step HB.out hd.below); have hsz : Aside0 (w2.heap.size = w.heap.size) := ⟨by obtain ⟨nd, e⟩ := hd; rw [e]; rfl⟩; clear hd))
  have HN3 : Aside0 (Bld w.heap.size w2.heap.size (Lib.byteCells []) (w2.alloc (.cells #[.pointer none, .slice none 0 0] 56 (0, 0)))) := ⟨by
   have h1 := bld_new w2
   have h2 : ∀ B, w2.heap.size = B → Bld B w2.heap.size (Lib.byteCells []) (w2.alloc (.cells #[.pointer none, .slice none 0 0] 56 (0, 0))) := fun B e => by subst e; exact h1
   exact h2 _ hsz.out⟩
  have HB3 := Aside0.mk (below_alloc HB2.out (.cells #[.pointer none, .slice none 0 0] 56 (0, 0)))
  clear hsz
  go_loopg [9] k (fun kq v9 wr => ∃ (out : List UInt8) (i : Int), v9 = .int .i64 i ∧ Aside0 (xtL kq a0 a1 a2 i out = some (r1, r2)) ∧ Aside0 (Bld w.heap.size w2.heap.size (Lib.byteCells out) wr) ∧ Aside0 (Below w.heap.size w wr))
  case atStart => exact ⟨[], a1, rfl, HF, HN3, HB3⟩
  case round =>
   clear HF HN3 HB3 HB HB2
   obtain ⟨out, i, rfl, HA, HN, HB⟩ := hrel
   cases gk with
   | zero => exact absurd HA.out (by simp [xtL])
   | succ n =>
   have h := HA.out
   clear HA
   rw [xtL] at h
   split at h
   case isFalse => cases h
   case isTrue hi0 =>
   have p1 := eq_true hi0
   by_cases hlt : i < (a0.size : Int)
   case neg =>
    rw [if_neg hlt] at h
    obtain ⟨rfl, rfl⟩ := Prod.mk.inj (Option.some.inj h)
    have q1 : decide (i < (a0.size : Int)) = false := decide_eq_false hlt
    clear h hi0 hlt
    go_wp2_with (first | (go_at_call 29; (with_reducible refine (bld_string w.heap.size w2.heap.size out _ HN.out HB.out.size).mono ?_); rintro e w5 ⟨rfl, hb, hk⟩; have HB5 := Aside0.mk (HB.out.trans hb); clear hb hk))
    go_ret2
    exact ⟨rfl, HB5.out⟩
   case pos =>
   rw [if_pos hlt] at h
   have q1 : decide (i < (a0.size : Int)) = true := decide_eq_true hlt
   have q2 := eq_true hlt
   obtain ⟨q, hQ, h⟩ := Option.bind_eq_some_iff.mp h
   have HQ := Aside0.mk hQ
   have hx := bt_at a0 i
   clear hQ
   by_cases hq : q < 0
   case neg =>
    rw [if_neg hq] at h
    obtain ⟨rfl, rfl⟩ := Prod.mk.inj (Option.some.inj h)
    have q3 : decide (q < 0) = false := decide_eq_false hq
    clear h hi0 hlt hq
    go_wp2_with (first | (go_at_call 53; (with_reducible refine (strings_IndexByte.calls a2 (bt a0 i) q _ HQ.out).mono ?_); rintro r w4 ⟨rfl, hd⟩; have HB4 := Aside0.mk (below_step HB.out hd.below); have HN4 := Aside0.mk (bld_below HN.out hd.below); clear hd))
    go_wp2_with (first | (go_at_call 29; (with_reducible refine (bld_string w.heap.size w2.heap.size out _ HN4.out HB4.out.size).mono ?_); rintro e w5 ⟨rfl, hb, hk⟩; have HB5 := Aside0.mk (HB4.out.trans hb); clear hb hk))
    go_ret2
    exact ⟨rfl, HB5.out⟩
   case pos =>
   rw [if_pos hq] at h
   have q3 : decide (q < 0) = true := decide_eq_true hq
   clear hq hi0 hlt
   by_cases h38 : bt a0 i = 38
   case pos =>
    rw [if_pos h38] at h
    have q4 : (bt a0 i == 38) = true := beq_iff_eq.mpr h38
    obtain ⟨⟨t1, t2⟩, hR, h⟩ := Option.bind_eq_some_iff.mp h
    have HR := Aside0.mk hR
    clear hR h38
    simp only at h
    by_cases hn : t2 < 0
    case pos =>
     rw [if_pos hn] at h
     have q5 : decide (t2 < 0) = true := decide_eq_true hn
     clear hn
     obtain ⟨rfl, rfl⟩ := Prod.mk.inj (Option.some.inj h)
     clear h
     go_wp2_with (first | (go_at_call 53; (with_reducible refine (strings_IndexByte.calls a2 (bt a0 i) q _ HQ.out).mono ?_); rintro r w4 ⟨rfl, hd⟩; have HB4 := Aside0.mk (below_step HB.out hd.below); have HN4 := Aside0.mk (bld_below HN.out hd.below); clear hd) | (go_at_call 54; (with_reducible refine (impl_XmlRef.calls n a0 i t1 t2 _ (HLL.out.below HB4.out) (HEE.out.below HB4.out) HR.out).mono ?_); rintro r w5 ⟨rfl, hb⟩; have HB5 := Aside0.mk (below_step HB4.out hb); clear hb))
     go_ret2
     exact ⟨rfl, by repeat (first | (with_reducible first | exact HB5.out | apply below_alloc | apply pw_below_drewN | apply below_drew1) | exact HB5.out)⟩
    case neg =>
     rw [if_neg hn] at h
     have q5 : decide (t2 < 0) = false := decide_eq_false hn
     clear hn
     split at h
     case isFalse => cases h
     case isTrue hl =>
     have HLM : Aside0 ((Lib.byteCells out).length + t1.size ≤ 140737488355328) := ⟨by rw [byteCells_len]; omega⟩
     have HGN := Aside0.mk h
     clear h hl
     go_wp2_with (first | (go_at_call 53; (with_reducible refine (strings_IndexByte.calls a2 (bt a0 i) q _ HQ.out).mono ?_); rintro r w4 ⟨rfl, hd⟩; have HB4 := Aside0.mk (below_step HB.out hd.below); have HN4 := Aside0.mk (bld_below HN.out hd.below); clear hd) | (go_at_call 54; (with_reducible refine (impl_XmlRef.calls n a0 i t1 t2 _ (HLL.out.below HB4.out) (HEE.out.below HB4.out) HR.out).mono ?_); rintro r w5 ⟨rfl, hb⟩; have HB5 := Aside0.mk (below_step HB4.out hb); have HN5 := Aside0.mk (bld_below HN4.out hb); clear hb) | (go_at_call 28; (with_reducible refine (bld_str w.heap.size w2.heap.size (Lib.byteCells out) t1 _ HN5.out HLM.out HB5.out.size).mono ?_); rintro e w8 ⟨rfl, ho, hb, hk⟩; have HN8 := Aside0.mk ho; have HB8 := Aside0.mk (HB5.out.trans hb); clear ho hb hk))
     go_roundg n
     case measure => omega
     case rel => exact ⟨_, t2, rfl, HGN, ⟨by rw [byteCells_append, ← strCells_bytes]; exact HN8.out⟩, HB8⟩
   case neg =>
   rw [if_neg h38] at h
   have q4 : (bt a0 i == 38) = false := beq_eq_false_iff_ne.mpr h38
   clear h38
   obtain ⟨⟨c1, c2⟩, hC, h⟩ := Option.bind_eq_some_iff.mp h
   have HCS := Aside0.mk hC
   clear hC
   simp only at h
   unfold xtSign at h
   by_cases hn : c1 < 0
   case pos =>
    rw [if_pos hn] at h
    have q5 : decide (c1 < 0) = true := decide_eq_true hn
    clear hn
    obtain ⟨rfl, rfl⟩ := Prod.mk.inj (Option.some.inj h)
    clear h
    go_wp2_with (first | (go_at_call 53; (with_reducible refine (strings_IndexByte.calls a2 (bt a0 i) q _ HQ.out).mono ?_); rintro r w4 ⟨rfl, hd⟩; have HB4 := Aside0.mk (below_step HB.out hd.below); have HN4 := Aside0.mk (bld_below HN.out hd.below); clear hd) | (go_at_call 49; (with_reducible refine (impl_cleanSign.calls n a0 i c1 c2 _ HCS.out).mono ?_); rintro r w5 ⟨rfl, hb⟩; have HB5 := Aside0.mk (below_step HB4.out hb); have HN5 := Aside0.mk (bld_below HN4.out hb); clear hb))
    go_ret2
    exact ⟨rfl, by repeat (first | (with_reducible first | exact HB5.out | apply below_alloc | apply pw_below_drewN | apply below_drew1) | exact HB5.out)⟩
   case neg =>
   rw [if_neg hn] at h
   have q5 : decide (c1 < 0) = false := decide_eq_false hn
   clear hn
   obtain ⟨b, hT, h⟩ := Option.bind_eq_some_iff.mp h
   have HT := Aside0.mk hT
   clear hT
   cases b with
   | false =>
    rw [if_neg (by simp)] at h
    obtain ⟨rfl, rfl⟩ := Prod.mk.inj (Option.some.inj h)
    clear h
    go_wp2_with (first | (go_at_call 53; (with_reducible refine (strings_IndexByte.calls a2 (bt a0 i) q _ HQ.out).mono ?_); rintro r w4 ⟨rfl, hd⟩; have HB4 := Aside0.mk (below_step HB.out hd.below); have HN4 := Aside0.mk (bld_below HN.out hd.below); clear hd) | (go_at_call 49; (with_reducible refine (impl_cleanSign.calls n a0 i c1 c2 _ HCS.out).mono ?_); rintro r w5 ⟨rfl, hb⟩; have HB5 := Aside0.mk (below_step HB4.out hb); have HN5 := Aside0.mk (bld_below HN4.out hb); clear hb) | (go_at_call 55; (with_reducible refine (impl_IsText.calls c1 false _ HT.out).mono ?_); rintro r w6 ⟨rfl, hd⟩; have HB6 := Aside0.mk (below_step HB5.out hd.below); have HN6 := Aside0.mk (bld_below HN5.out hd.below); clear hd))
    go_ret2
    exact ⟨rfl, by repeat (first | (with_reducible first | exact HB6.out | apply below_alloc | apply pw_below_drewN | apply below_drew1) | exact HB6.out)⟩
   | true =>
   rw [if_pos rfl] at h
   by_cases h13 : c1 = 13
   case pos =>
    rw [if_pos h13] at h
    have q6 : (c1 == 13) = true := beq_iff_eq.mpr h13
    clear h13
    obtain ⟨rfl, rfl⟩ := Prod.mk.inj (Option.some.inj h)
    clear h
    go_wp2_with (first | (go_at_call 53; (with_reducible refine (strings_IndexByte.calls a2 (bt a0 i) q _ HQ.out).mono ?_); rintro r w4 ⟨rfl, hd⟩; have HB4 := Aside0.mk (below_step HB.out hd.below); have HN4 := Aside0.mk (bld_below HN.out hd.below); clear hd) | (go_at_call 49; (with_reducible refine (impl_cleanSign.calls n a0 i c1 c2 _ HCS.out).mono ?_); rintro r w5 ⟨rfl, hb⟩; have HB5 := Aside0.mk (below_step HB4.out hb); have HN5 := Aside0.mk (bld_below HN4.out hb); clear hb) | (go_at_call 55; (with_reducible refine (impl_IsText.calls c1 true _ HT.out).mono ?_); rintro r w6 ⟨rfl, hd⟩; have HB6 := Aside0.mk (below_step HB5.out hd.below); have HN6 := Aside0.mk (bld_below HN5.out hd.below); clear hd))
    go_ret2
    exact ⟨rfl, by repeat (first | (with_reducible first | exact HB6.out | apply below_alloc | apply pw_below_drewN | apply below_drew1) | exact HB6.out)⟩
   case neg =>
   rw [if_neg h13] at h
   have q6 : (c1 == 13) = false := beq_eq_false_iff_ne.mpr h13
   clear h13
   by_cases h60 : c1 = 60
   case pos =>
    rw [if_pos h60] at h
    have q7 : (c1 == 60) = true := beq_iff_eq.mpr h60
    clear h60
    obtain ⟨rfl, rfl⟩ := Prod.mk.inj (Option.some.inj h)
    clear h
    go_wp2_with (first | (go_at_call 53; (with_reducible refine (strings_IndexByte.calls a2 (bt a0 i) q _ HQ.out).mono ?_); rintro r w4 ⟨rfl, hd⟩; have HB4 := Aside0.mk (below_step HB.out hd.below); have HN4 := Aside0.mk (bld_below HN.out hd.below); clear hd) | (go_at_call 49; (with_reducible refine (impl_cleanSign.calls n a0 i c1 c2 _ HCS.out).mono ?_); rintro r w5 ⟨rfl, hb⟩; have HB5 := Aside0.mk (below_step HB4.out hb); have HN5 := Aside0.mk (bld_below HN4.out hb); clear hb) | (go_at_call 55; (with_reducible refine (impl_IsText.calls c1 true _ HT.out).mono ?_); rintro r w6 ⟨rfl, hd⟩; have HB6 := Aside0.mk (below_step HB5.out hd.below); have HN6 := Aside0.mk (bld_below HN5.out hd.below); clear hd))
    go_ret2
    exact ⟨rfl, by repeat (first | (with_reducible first | exact HB6.out | apply below_alloc | apply pw_below_drewN | apply below_drew1) | exact HB6.out)⟩
   case neg =>
   rw [if_neg h60] at h
   have q7 : (c1 == 60) = false := beq_eq_false_iff_ne.mpr h60
   clear h60
   obtain ⟨ni, hni⟩ : ∃ j_ : Int, wrap64 (i + c2) = j_ := ⟨_, rfl⟩
   have hniw : IntKind.i64.wrap (i + c2) = ni := (i64_w _).trans hni
   by_cases h62 : c1 = 62
   case pos =>
    rw [if_pos h62] at h
    have q8 : (c1 == 62) = true := beq_iff_eq.mpr h62
    clear h62
    split at h
    case isFalse => cases h
    case isTrue hg0 =>
    obtain ⟨u0, u1, u2⟩ := hg0
    have s0 := eq_true u0
    have s1 := eq_true u1
    have s2 := eq_true u2
    clear u0 u1 u2
    obtain ⟨b, hS, h⟩ := Option.bind_eq_some_iff.mp h
    have HSF := Aside0.mk hS
    clear hS
    cases b with
    | true =>
     rw [if_pos rfl] at h
     obtain ⟨rfl, rfl⟩ := Prod.mk.inj (Option.some.inj h)
     clear h
     go_wp2_with (first | (go_at_call 53; (with_reducible refine (strings_IndexByte.calls a2 (bt a0 i) q _ HQ.out).mono ?_); rintro r w4 ⟨rfl, hd⟩; have HB4 := Aside0.mk (below_step HB.out hd.below); have HN4 := Aside0.mk (bld_below HN.out hd.below); clear hd) | (go_at_call 49; (with_reducible refine (impl_cleanSign.calls n a0 i c1 c2 _ HCS.out).mono ?_); rintro r w5 ⟨rfl, hb⟩; have HB5 := Aside0.mk (below_step HB4.out hb); have HN5 := Aside0.mk (bld_below HN4.out hb); clear hb) | (go_at_call 55; (with_reducible refine (impl_IsText.calls c1 true _ HT.out).mono ?_); rintro r w6 ⟨rfl, hd⟩; have HB6 := Aside0.mk (below_step HB5.out hd.below); have HN6 := Aside0.mk (bld_below HN5.out hd.below); clear hd) | (go_at_call 56; (with_reducible refine (strings_HasSuffix.calls (a0.extract a1.toNat i.toNat) ⟨#[93, 93]⟩ true _ HSF.out).mono ?_); rintro r w7 ⟨rfl, hd⟩; have HB7 := Aside0.mk (below_step HB6.out hd.below); have HN7 := Aside0.mk (bld_below HN6.out hd.below); clear hd))
     go_ret2
     exact ⟨rfl, by repeat (first | (with_reducible first | exact HB7.out | apply below_alloc | apply pw_below_drewN | apply below_drew1) | exact HB7.out)⟩
    | false =>
     rw [if_neg (by simp)] at h
     unfold xtGo at h
     rw [hni] at h
     split at h
     case isFalse => cases h
     case isTrue hg =>
     obtain ⟨hg1, hg2, hg3⟩ := hg
     have HLM : Aside0 ((Lib.byteCells out).length + (a0.extract i.toNat ni.toNat).size ≤ 140737488355328) := ⟨by rw [byteCells_len]; omega⟩
     have pz := eq_true hg1
     have qz := eq_true hg2
     have HGN := Aside0.mk h
     clear h hg1 hg2 hg3
     go_wp2_with (first | (go_at_call 53; (with_reducible refine (strings_IndexByte.calls a2 (bt a0 i) q _ HQ.out).mono ?_); rintro r w4 ⟨rfl, hd⟩; have HB4 := Aside0.mk (below_step HB.out hd.below); have HN4 := Aside0.mk (bld_below HN.out hd.below); clear hd) | (go_at_call 49; (with_reducible refine (impl_cleanSign.calls n a0 i c1 c2 _ HCS.out).mono ?_); rintro r w5 ⟨rfl, hb⟩; have HB5 := Aside0.mk (below_step HB4.out hb); have HN5 := Aside0.mk (bld_below HN4.out hb); clear hb) | (go_at_call 55; (with_reducible refine (impl_IsText.calls c1 true _ HT.out).mono ?_); rintro r w6 ⟨rfl, hd⟩; have HB6 := Aside0.mk (below_step HB5.out hd.below); have HN6 := Aside0.mk (bld_below HN5.out hd.below); clear hd) | (go_at_call 56; (with_reducible refine (strings_HasSuffix.calls (a0.extract a1.toNat i.toNat) ⟨#[93, 93]⟩ false _ HSF.out).mono ?_); rintro r w7 ⟨rfl, hd⟩; have HB7 := Aside0.mk (below_step HB6.out hd.below); have HN7 := Aside0.mk (bld_below HN6.out hd.below); clear hd) | (go_at_call 28; (with_reducible refine (bld_str w.heap.size w2.heap.size (Lib.byteCells out) (a0.extract i.toNat ni.toNat) _ HN7.out HLM.out HB7.out.size).mono ?_); rintro e w8 ⟨rfl, ho, hb, hk⟩; have HN8 := Aside0.mk ho; have HB8 := Aside0.mk (HB7.out.trans hb); clear ho hb hk))
     go_roundg n
     case measure => omega
     case rel => exact ⟨_, ni, by first | rfl | rw [← hni], HGN, ⟨by rw [byteCells_append, ← strCells_bytes]; exact HN8.out⟩, HB8⟩
   case neg =>
    rw [if_neg h62] at h
    have q8 : (c1 == 62) = false := beq_eq_false_iff_ne.mpr h62
    clear h62
    unfold xtGo at h
    rw [hni] at h
    split at h
    case isFalse => cases h
    case isTrue hg =>
    obtain ⟨hg1, hg2, hg3⟩ := hg
    have HLM : Aside0 ((Lib.byteCells out).length + (a0.extract i.toNat ni.toNat).size ≤ 140737488355328) := ⟨by rw [byteCells_len]; omega⟩
    have pz := eq_true hg1
    have qz := eq_true hg2
    have HGN := Aside0.mk h
    clear h hg1 hg2 hg3
    go_wp2_with (first | (go_at_call 53; (with_reducible refine (strings_IndexByte.calls a2 (bt a0 i) q _ HQ.out).mono ?_); rintro r w4 ⟨rfl, hd⟩; have HB4 := Aside0.mk (below_step HB.out hd.below); have HN4 := Aside0.mk (bld_below HN.out hd.below); clear hd) | (go_at_call 49; (with_reducible refine (impl_cleanSign.calls n a0 i c1 c2 _ HCS.out).mono ?_); rintro r w5 ⟨rfl, hb⟩; have HB5 := Aside0.mk (below_step HB4.out hb); have HN5 := Aside0.mk (bld_below HN4.out hb); clear hb) | (go_at_call 55; (with_reducible refine (impl_IsText.calls c1 true _ HT.out).mono ?_); rintro r w6 ⟨rfl, hd⟩; have HB6 := Aside0.mk (below_step HB5.out hd.below); have HN6 := Aside0.mk (bld_below HN5.out hd.below); clear hd) | (go_at_call 28; (with_reducible refine (bld_str w.heap.size w2.heap.size (Lib.byteCells out) (a0.extract i.toNat ni.toNat) _ HN6.out HLM.out HB6.out.size).mono ?_); rintro e w8 ⟨rfl, ho, hb, hk⟩; have HN8 := Aside0.mk ho; have HB8 := Aside0.mk (HB6.out.trans hb); clear ho hb hk))
    go_roundg n
    case measure => omega
    case rel => exact ⟨_, ni, by first | rfl | rw [← hni], HGN, ⟨by rw [byteCells_append, ← strCells_bytes]; exact HN8.out⟩, HB8⟩
end Go.Proofs.YtkmmoheeoblmnaaDoor.A
namespace Go.Proofs.YtkmmoheeoblmnaaDoor.A
open Go.RowKit Go.Proofs.YtkmmoheeoblmnaaDoorW.PrintWords Go.Proofs.YtkmmoheeoblmnaaDoorW.PrintLast Go.Proofs.YtkmmoheeoblmnaaDoorW.PrintMore
attribute [local go_sem] max2_int min2_int max_two min_two max_three min_three max_four min_four   -- for this text's walks alone
set_option linter.unusedVariables false
set_option linter.unusedSimpArgs false
abbrev tnB : ByteArray := ⟨#[9, 10]⟩
theorem enc_facts (r : Int) (h : 128 ≤ r) (hv : Utf8.valid r = true) : ∃ rs : ByteArray, Utf8.encode r = rs ∧ 2 ≤ rs.size ∧ rs.size ≤ 4 ∧ ∀ (j : Nat) (hj : j < rs.size), 128 ≤ (rs[j]'hj).toNat := by
 have key : ∀ n : Nat, 128 ≤ n → n < 256 → 128 ≤ (UInt8.ofNat n).toNat := fun n _ h => by simp; omega
 have hm : r.toNat ≤ 1114111 := by
  simp only [Utf8.valid, Bool.or_eq_true, Bool.and_eq_true, decide_eq_true_eq] at hv
  omega
 unfold Utf8.encode
 simp only [hv, if_true]
 rw [if_neg (by omega)]
 split
 ·refine ⟨_, rfl, by show 2 ≤ 2; decide, by show 2 ≤ 4; decide, fun j hj => ?_⟩
  have hj' : j < 2 := hj
  rcases (show j = 0 ∨ j = 1 by omega) with rfl | rfl
  ·exact key _ (by omega) (by omega)
  ·exact key _ (by omega) (by omega)
 ·split
  ·refine ⟨_, rfl, by show 2 ≤ 3; decide, by show 3 ≤ 4; decide, fun j hj => ?_⟩
   have hj' : j < 3 := hj
   rcases (show j = 0 ∨ j = 1 ∨ j = 2 by omega) with rfl | rfl | rfl
   ·exact key _ (by omega) (by omega)
   ·exact key _ (by omega) (by omega)
   ·exact key _ (by omega) (by omega)
  ·refine ⟨_, rfl, by show 2 ≤ 4; decide, by show 4 ≤ 4; decide, fun j hj => ?_⟩
   have hj' : j < 4 := hj
   rcases (show j = 0 ∨ j = 1 ∨ j = 2 ∨ j = 3 by omega) with rfl | rfl | rfl | rfl
   ·exact key _ (by omega) (by omega)
   ·exact key _ (by omega) (by omega)
   ·exact key _ (by omega) (by omega)
   ·exact key _ (by omega) (by omega)
theorem dec_cont (s : ByteArray) (pos : Nat) (h : pos < s.size) (ha : 128 ≤ (s[pos]'h).toNat) :
  ((Utf8.decode s pos).2 = 1) ∨ ((Utf8.decode s pos).2 = 2 ∧ (pos + 1 < s.size ∧ (s.get! (pos + 1)).toNat / 64 = 2)) ∨
  ((Utf8.decode s pos).2 = 3 ∧ (pos + 1 < s.size ∧ (s.get! (pos + 1)).toNat / 64 = 2) ∧ (pos + 2 < s.size ∧ (s.get! (pos + 2)).toNat / 64 = 2)) ∨
  ((Utf8.decode s pos).2 = 4 ∧ (pos + 1 < s.size ∧ (s.get! (pos + 1)).toNat / 64 = 2) ∧ (pos + 2 < s.size ∧ (s.get! (pos + 2)).toNat / 64 = 2) ∧ (pos + 3 < s.size ∧ (s.get! (pos + 3)).toNat / 64 = 2)) := by
 have hn : ¬ (s[pos]'h).toNat < 128 := by omega
 simp only [Utf8.decode, get_at s pos h, hn, if_false]
 repeat' split
 all_goals simp_all
theorem tn_high (b : UInt8) (h : 128 ≤ b.toNat) : tnB.data.toList.contains b = false := by
 have h1 : b ≠ 9 := fun e => by subst e; exact absurd h (by decide)
 have h2 : b ≠ 10 := fun e => by subst e; exact absurd h (by decide)
 simp [tnB, h1, h2]
theorem noAny_dec (s : ByteArray) (i : Nat) (h : i < s.size) (ha : 128 ≤ (s[i]'h).toNat) (hno : Lib.NoAny s.data.toList tnB.data.toList i) :
  Lib.NoAny s.data.toList tnB.data.toList (i + (Utf8.decode s i).2) := by
 have hg : ∀ j (hj : j < s.size), s.get! j = s[j]'hj := fun j hj => by simp [ByteArray.get!, getElem!_pos, hj]; rfl
 have step : ∀ j, j < s.size → 128 ≤ (s.get! j).toNat → Lib.NoAny s.data.toList tnB.data.toList j → Lib.NoAny s.data.toList tnB.data.toList (j + 1) := fun j hj hb hn =>
  hn.succ (Lib.data_getElem? s j hj) (tn_high _ (by rw [← hg j hj]; exact hb))
 have h1 := step i h (by rw [hg i h]; exact ha) hno
 rcases dec_cont s i h ha with e | ⟨e, c1⟩ | ⟨e, c1, c2⟩ | ⟨e, c1, c2, c3⟩ <;> rw [e]
 ·exact h1
 ·exact step _ c1.1 (by omega) h1
 ·exact step _ c2.1 (by omega) (step _ c1.1 (by omega) h1)
 ·exact step _ c3.1 (by omega) (step _ c2.1 (by omega) (step _ c1.1 (by omega) h1))
set_option maxHeartbeats 8000000 in
set_option maxRecDepth 1000000 in
theorem indexRune_tn (r : Int) (h0 : 128 ≤ r) (h1 : r ≤ 2147483647) (w : World) :
  Calls Tryd.prog 77 #[.string tnB, .int .i32 r] w fun e w' => e = .returned (.int .i64 (-1)) ∧ Below w.heap.size w w' := by
 have HB := Aside0.mk (Below.refl w.heap.size w)
 have b0 : decide (r < 128) = false := decide_eq_false (by omega)
 have b1 : decide (0 ≤ r) = true := decide_eq_true (by omega)
 have b2 : ((0 : Int) ≤ r) = True := eq_true (by omega)
 have b3 : (r < 128) = False := eq_false (by omega)
 by_cases c : r = 65533
 ·have cb : (r == 65533) = true := beq_iff_eq.mpr c
  clear c h0 h1
  go_enter Tryd.func77, Tryd.ntmps77
  go_wp2
  go_loopg [5, 6] 2 (fun g _ _ wx => ∃ i : Nat, i + g = 2 ∧ wx = w.iter tnB i)
  case atStart => exact ⟨0, by omega, rfl⟩
  case round =>
   obtain ⟨i, hig, rfl⟩ := hrel
   cases gk with
   | zero =>
    obtain rfl : i = 2 := by omega
    have hnx := run_next_end (P := Tryd.prog) w tnB 2
    go_wp2
    go_ret
    exact ⟨rfl, (Below.refl _ _).alloc (Nat.le_refl _) _⟩
   | succ g =>
    have hi : i < tnB.size := by show i < 2; omega
    have hx128 : (tnB[i]'hi).toNat < 128 := by
     rcases (show i = 0 ∨ i = 1 by omega) with rfl | rfl
     ·exact (by decide : (9 : UInt8).toNat < 128)
     ·exact (by decide : (10 : UInt8).toNat < 128)
    have hq : (((tnB[i]'hi).toNat : Int) == 65533) = false := by
     rcases (show i = 0 ∨ i = 1 by omega) with rfl | rfl
     ·exact (by decide : (((9 : UInt8).toNat : Int) == 65533) = false)
     ·exact (by decide : (((10 : UInt8).toNat : Int) == 65533) = false)
    have hnx := fun ty => run_next_ascii (P := Tryd.prog) w tnB i ty hi hx128
    generalize tnB[i]'hi = x at *
    go_wp2
    go_roundg g
    case measure => omega
    case rel => exact ⟨i + 1, by omega, rfl⟩
 ·have cb : (r == 65533) = false := beq_eq_false_iff_ne.mpr c
  have hval := Tryd.utf8_ValidRune r
  clear c
  cases hv : Lib.validRune r with
  | false =>
   clear h0 h1
   go_enter Tryd.func77, Tryd.ntmps77
   go_wp2_with ((go_at_call 92; (with_reducible refine (Tryd.utf8_ValidRune r _).mono ?_); rintro e w' ⟨rfl, hw⟩; rw [hw, hv]))
   go_ret
   exact ⟨rfl, by repeat (first | (with_reducible first | exact HB.out | apply below_alloc | apply pw_below_drewN | apply below_drew1) | exact HB.out)⟩
  | true =>
   obtain ⟨rs, hrs, hs2, hs4, hrb⟩ := enc_facts r h0 (by
    simp only [Lib.validRune, decide_eq_true_eq] at hv
    simp only [Utf8.valid, Bool.or_eq_true, Bool.and_eq_true, decide_eq_true_eq]
    omega)
   go_enter Tryd.func77, Tryd.ntmps77
   go_wp2_with ((go_at_call 92; (with_reducible refine (Tryd.utf8_ValidRune r _).mono ?_); rintro e w' ⟨rfl, hw⟩; rw [hw, hv]))
   go_step3
   have hs1 : 1 < rs.size := by omega
   have hr1 : ¬ (rs[1]'hs1).toNat < 128 := by have := hrb 1 hs1; omega
   obtain ⟨x1, hx1⟩ : ∃ x : UInt8, rs[1]'hs1 = x := ⟨_, rfl⟩
   rw [hx1] at hr1
   have hwz : wrap64 ((rs.size : Int) - 1) = (rs.size : Int) - 1 := by unfold wrap64; omega
   by_cases c2 : rs.size = 2
   ·have HR : Aside (∀ (j : Nat) (hj : j < rs.size), 128 ≤ (rs[j]'hj).toNat) := hrb
    have hq1 : ((10 : Int) == (x1.toNat : Int)) = false := beq_eq_false_iff_ne.mpr (by omega)
    have hq2 : (((tnB[1]'(by decide)).toNat : Int) != (x1.toNat : Int)) = true := by
     show (!((10 : Int) == (x1.toNat : Int))) = true
     rw [hq1]; rfl
    clear hrb hs2 hs4
    go_wp2
    go_loopg [9] 0 (fun _ v wx => v = .int .i64 1 ∧ wx = w)
    case atStart => exact ⟨rfl, rfl⟩
    case round =>
     obtain ⟨rfl, rfl⟩ := hrel
     go_wp2
     go_step3
     go_wp2
     go_quiet (fail)
     go_wp2
     have he2 : tnB.extract 2 2 = ByteArray.empty := rfl
     go_quiet (first | (go_at_call 53; (with_reducible refine (strings_IndexByte.calls ByteArray.empty (x1.toNat : Int) (-1) _ rfl).mono ?_); rintro e w' ⟨rfl, ⟨nd, rfl⟩⟩; (try first | exact ⟨rfl, _, World.drewN_drewN _ _ _⟩ | exact ⟨rfl, _, Eq.trans (World.drewN_drewN _ _ _) (congrArg (World.drewN _) (Nat.add_assoc _ _ _))⟩)))
     go_wp2
     simp only [Exit.noGoto, Exit.inBlock, Exit.then]
     go_ret
     exact ⟨rfl, by repeat (first | (with_reducible first | exact HB.out | apply below_alloc | apply pw_below_drewN | apply below_drew1) | exact HB.out)⟩
   ·have c3 : decide ((rs.size : Int) - 1 < 2) = false := decide_eq_false (by omega)
    clear hrb hs2 hs4 c2
    go_wp2
    go_loopg [9] 0 (fun _ v wx => v = .int .i64 (wrap64 ((rs.size : Int) - 1)) ∧ wx = w)
    case atStart => exact ⟨rfl, rfl⟩
    case round =>
     obtain ⟨rfl, rfl⟩ := hrel
     go_wp2
     rw [Exit.noGoto_ret]
     go_ret
     exact ⟨rfl, Below.refl _ _⟩
set_option maxHeartbeats 8000000 in
set_option maxRecDepth 1000000 in
theorem indexAny_tn_short (s : ByteArray) (w : World) (h8 : s.size ≤ 8) :
  Calls Tryd.prog 57 #[.string s, .string tnB] w fun e w' => e = .returned (.int .i64 (Lib.indexAny s.data.toList tnB.data.toList)) ∧ Below w.heap.size w w' := by
 have h8z : decide ((8 : Int) < (s.size : Int)) = false := decide_eq_false (by omega)
 have hw0 := Aside0.mk (((Below.refl w.heap.size w).alloc (Nat.le_refl _) (.stringIter s 0)))
 have hw1 : Aside ((w.iter s 0).heap[w.heap.size]? = some (.stringIter s 0)) := w.iter_heap s 0
 go_enter Tryd.func57, Tryd.ntmps57
 go_wp2_with ((go_at_call 78; (with_reducible refine (Tryd.strings_shouldUseASCIISet _ _).mono ?_); rintro e w' ⟨rfl, hw⟩; rw [hw, h8z]))
 go_loopg [9, 10] s.size (fun g _ _ wx => ∃ i : Nat, g = s.size - i ∧ Lib.NoAny s.data.toList tnB.data.toList i ∧ i ≤ s.size ∧ Below w.heap.size w wx ∧ wx.heap[w.heap.size]? = some (.stringIter s i))
 case atStart => exact ⟨0, by omega, Lib.NoAny.zero _ _, by omega, hw0.out, hw1.out⟩
 case round =>
  obtain ⟨i, hig, hno, hile, hb, hk⟩ := hrel
  have HN : Aside (Lib.NoAny s.data.toList tnB.data.toList i) := hno
  have HBl := Aside0.mk hb
  have HK : Aside (wr.heap[w.heap.size]? = some (.stringIter s i)) := hk
  have hwk : w.heap.size < wr.heap.size := (Array.getElem?_eq_some_iff.1 hk).1
  clear hno hb
  by_cases hi : i < s.size
  ·have hbi := Lib.below_iterAt (HBl.out) (Nat.le_refl w.heap.size) s
   have hii := fun p => Lib.iterAt_heap wr w.heap.size s i p hk
   by_cases hx128 : (s[i]'hi).toNat < 128
   ·have hnx := fun ty => Lib.run_next_ascii_at (P := Tryd.prog) wr w.heap.size s i ty hk hi hx128
    obtain ⟨x, hx⟩ : ∃ x : UInt8, s[i]'hi = x := ⟨_, rfl⟩
    have hxl : s.data.toList[i]? = some x := by rw [← hx]; exact Lib.data_getElem? s i hi
    rw [hx] at hnx hx128
    have Hx : Aside (s.data.toList[i]? = some x) := hxl
    have HB2 := Aside0.mk (hbi (i + 1))
    have HI2 : Aside ((wr.iterAt w.heap.size s (i + 1)).heap[w.heap.size]? = some (.stringIter s (i + 1))) := hii _
    clear hxl hx hbi hii hk
    have hcon := Lib.contains_iff_indexByte tnB.data.toList x
    have hback : ((x.toNat : Int)).toNat.toUInt8 = x := by simp
    cases hin : tnB.data.toList.contains x
    ·rw [hin] at hcon
     have hlt : ¬ ((0 : Int) ≤ Lib.indexByte tnB.data.toList x) := of_decide_eq_false hcon.symm
     clear hcon
     go_wp2_with (go_at_call 77; refine (Tryd.strings_IndexRune_ascii _ _ _ (by omega) (by omega)).mono ?_; rintro e w' ⟨rfl, hw⟩; rw [hw, hback])
     go_roundg (s.size - (i + 1))
     case measure => omega
     case rel => exact ⟨i + 1, rfl, HN.out.succ Hx.out hin, by omega, HB2.out, HI2.out⟩
    ·rw [hin] at hcon
     have hge : (0 : Int) ≤ Lib.indexByte tnB.data.toList x := of_decide_eq_true hcon.symm
     clear hcon
     go_wp2_with (go_at_call 77; refine (Tryd.strings_IndexRune_ascii _ _ _ (by omega) (by omega)).mono ?_; rintro e w' ⟨rfl, hw⟩; rw [hw, hback])
     go_ret
     exact ⟨by rw [Lib.indexAny_hit HN.out Hx.out hin]; rfl, HB2.out⟩
   ·have hnx := fun ty => Lib.run_next_any_at (P := Tryd.prog) wr w.heap.size s i ty hk hi
    have hd := decode_high s i hi (by omega)
    have hl := decode_le s i
    have HN2 : Aside (Lib.NoAny s.data.toList tnB.data.toList (i + (Utf8.decode s i).2)) := noAny_dec s i hi (by omega) HN.out
    have hle2 : i + (Utf8.decode s i).2 ≤ s.size := by
     rcases dec_cont s i hi (by omega) with e | ⟨e, c1⟩ | ⟨e, c1, c2⟩ | ⟨e, c1, c2, c3⟩ <;> rw [e] <;> omega
    have HB2 := Aside0.mk (hbi (i + (Utf8.decode s i).2))
    have HI2 : Aside ((wr.iterAt w.heap.size s (i + (Utf8.decode s i).2)).heap[w.heap.size]? = some (.stringIter s (i + (Utf8.decode s i).2))) := hii _
    obtain ⟨d1, hd1⟩ : ∃ n, (Utf8.decode s i).1 = n := ⟨_, rfl⟩
    obtain ⟨d2, hd2⟩ : ∃ n, i + (Utf8.decode s i).2 = n := ⟨_, rfl⟩
    have hi2 : i + 1 ≤ d2 := by omega
    rw [hd1] at hnx hd hl
    rw [hd2] at hnx HN2 hle2 HB2 HI2
    have hzz : wr.heap.size = (wr.iterAt w.heap.size s d2).heap.size := (Lib.iterAt_size _ _ _ _).symm
    clear hbi hii hk hd1 hd2
    have hd0 := hd.1
    clear hd
    generalize wr.iterAt w.heap.size s d2 = wi at *
    go_wp2_with (go_at_call 77; refine (indexRune_tn (d1 : Int) (by omega) (by omega) _).mono ?_; rintro e w' ⟨rfl, hw3⟩)
    go_roundg (s.size - d2)
    case measure => omega
    case rel => exact ⟨d2, rfl, HN2.out, hle2, HB2.out.trans (hw3.mono (by omega)), (hw3.block _ (by omega)).trans HI2.out⟩
  ·have hnx := fun ty => Lib.run_next_end_at (P := Tryd.prog) wr w.heap.size s i ty hk hi
   clear hk
   obtain rfl : i = s.size := by omega
   go_wp2
   go_ret
   exact ⟨by rw [Lib.indexAny_none (by rw [← Lib.size_eq]; exact HN.out)]; rfl, HBl.out⟩
def strings_ContainsAny.f (a0 : ByteArray) (a1 : ByteArray) : Option Bool := if a1 = tnB ∧ a0.size < 4294967281 then some (Lib.containsAny a0.data.toList a1.data.toList) else none
theorem indexAny_tn (s : ByteArray) (w : World) (hs : s.size < 4294967281) :
  Calls Tryd.prog 57 #[.string s, .string tnB] w fun e w' => e = .returned (.int .i64 (Lib.indexAny s.data.toList tnB.data.toList)) ∧ Below w.heap.size w w' := by
 by_cases h8 : s.size ≤ 8
 ·exact indexAny_tn_short s w h8
 ·refine (Tryd.strings_IndexAny_long ?_ s tnB w (by decide) (by omega) hs (by decide) (fun j b hb => by
   have hm := List.mem_of_getElem? hb
   simp [tnB] at hm
   rcases hm with rfl | rfl <;> decide)).mono ?_
  ·exact (zero_of_info (P := Tryd.prog) (by kernel_rfl : _ = some (some (.agg (Array.replicate 256 (.bool false))), 256))).1
  ·rintro e w' ⟨rfl, rfl⟩
   exact ⟨rfl, ((Below.refl _ _).alloc (Nat.le_refl _) _).alloc (by simp) _⟩
set_option maxHeartbeats 8000000 in
set_option maxRecDepth 1000000 in
theorem strings_ContainsAny.calls (a0 : ByteArray) (a1 : ByteArray) (r : Bool) (w : World) (h : strings_ContainsAny.f a0 a1 = some r) :
  Calls Tryd.prog 37 #[.string a0, .string a1] w fun e w' => e = .returned (.bool r) ∧ Below w.heap.size w w' := by
 unfold strings_ContainsAny.f at h
 split at h
 ·next hc =>
  obtain ⟨rfl, hs⟩ := hc
  obtain rfl := Option.some.inj h
  clear h
  have HS : Aside (a0.size < 4294967281) := hs
  clear hs
  go_enter Tryd.func37, Tryd.ntmps37
  go_wp2_with (go_at_call 57; refine (indexAny_tn a0 _ HS.out).mono ?_; rintro e w' ⟨rfl, hw3⟩)
  go_ret
  exact ⟨rfl, hw3⟩
 ·exact nomatch h
end Go.Proofs.YtkmmoheeoblmnaaDoor.A
namespace Go.Proofs.YtkmmoheeoblmnaaDoor.A
open Go.RowKit Go.Proofs.YtkmmoheeoblmnaaDoorW.PrintWords Go.Proofs.YtkmmoheeoblmnaaDoorW.PrintLast Go.Proofs.YtkmmoheeoblmnaaDoorW.PrintMore
attribute [local go_sem] max2_int min2_int max_two min_two max_three min_three max_four min_four   -- for this text's walks alone
set_option linter.unusedVariables false
set_option linter.unusedSimpArgs false
def impl_XmlAttr.j0 : Nat → ByteArray → ByteArray → Int → Bool → Option (ByteArray × ByteArray × Int)
 | 0, _, _, _, _ => none
 | k + 1, x0, x6, x7, x25 => if x25 = true then (some ((⟨#[]⟩ : ByteArray), (⟨#[]⟩ : ByteArray), (-1))) else ((impl_XmlText.f k x0 (wrap64 (x7 + 2)) (⟨#[34]⟩ : ByteArray)).bind fun bt365 => (if bt365.2 < 0 then (some ((⟨#[]⟩ : ByteArray), (⟨#[]⟩ : ByteArray), (-1))) else (if bt365.2 = (x0.size : Int) then (some ((⟨#[]⟩ : ByteArray), (⟨#[]⟩ : ByteArray), (-1))) else (if 0 ≤ (wrap64 (x7 + 2)) then (if (wrap64 (x7 + 2)) ≤ bt365.2 then (if bt365.2 ≤ (x0.size : Int) then ((strings_ContainsAny.f (x0.extract ((wrap64 (x7 + 2)) : Int).toNat (bt365.2 : Int).toNat) (⟨#[9, 10]⟩ : ByteArray)).bind fun t367 => (if t367 = true then (some ((⟨#[]⟩ : ByteArray), (⟨#[]⟩ : ByteArray), (-1))) else (some (x6, bt365.1, wrap64 (bt365.2 + 1))))) else (none)) else (none)) else (none)))))
def impl_XmlAttr.f (k : Nat) (a0 : ByteArray) (a1 : Int) : Option (ByteArray × ByteArray × Int) := (impl_XmlName.f k a0 a1).bind fun bt362 => (if bt362.1.toList = ([] : List UInt8) then (impl_XmlAttr.j0 k a0 bt362.1 bt362.2 true) else (if 0 ≤ bt362.2 then (if bt362.2 ≤ (a0.size : Int) then ((strings_HasPrefix.f (a0.extract (bt362.2 : Int).toNat a0.size) (⟨#[61, 34]⟩ : ByteArray)).bind fun t364 => (impl_XmlAttr.j0 k a0 bt362.1 bt362.2 (!t364))) else (none)) else (none)))
theorem impl_XmlAttr.mono_l : ∀ k, (∀ y0 y1 y2 y3, LeO (impl_XmlAttr.j0 k y0 y1 y2 y3) (impl_XmlAttr.j0 (k + 1) y0 y1 y2 y3))
 | 0 => fun _ _ _ _ r h => by simp [impl_XmlAttr.j0] at h
 | k + 1 => by
  have ih0 := impl_XmlAttr.mono_l k
  ·intro y0 y1 y2 y3
   unfold impl_XmlAttr.j0
   repeat' first
   | (with_reducible exact ih0 _ _ _ _)
   | (with_reducible exact impl_XmlName.mono _ _ _)
   | (with_reducible exact impl_XmlText.mono _ _ _ _)
   | (with_reducible exact LeO.refl _)
   | (with_reducible exact LeO.none _)
   | (with_reducible refine LeO.ite ?_ ?_)
   | (with_reducible refine LeO.bind ?_ (fun _ => ?_))
   | exact ih0 _ _ _ _
   | exact impl_XmlName.mono _ _ _
   | exact impl_XmlText.mono _ _ _ _
   | exact LeO.none _
   | refine LeO.ite ?_ ?_
   | refine LeO.bind ?_ (fun _ => ?_)
theorem impl_XmlAttr.mono : ∀ a0 a1 k, LeO (impl_XmlAttr.f k a0 a1) (impl_XmlAttr.f (k + 1) a0 a1) := by
 intro a0 a1 k
 have ih0 := impl_XmlAttr.mono_l k
 unfold impl_XmlAttr.f
 repeat' first
   | (with_reducible exact ih0 _ _ _ _)
   | (with_reducible exact impl_XmlName.mono _ _ _)
   | (with_reducible exact impl_XmlText.mono _ _ _ _)
   | (with_reducible exact LeO.refl _)
   | (with_reducible exact LeO.none _)
   | (with_reducible refine LeO.ite ?_ ?_)
   | (with_reducible refine LeO.bind ?_ (fun _ => ?_))
   | exact ih0 _ _ _ _
   | exact impl_XmlName.mono _ _ _
   | exact impl_XmlText.mono _ _ _ _
   | exact LeO.none _
   | refine LeO.ite ?_ ?_
   | refine LeO.bind ?_ (fun _ => ?_)
set_option maxHeartbeats 8000000 in
set_option maxRecDepth 100000 in
theorem impl_XmlAttr.calls (k : Nat) (a0 : ByteArray) (a1 : Int) (r1 : ByteArray) (r2 : ByteArray) (r3 : Int) (w : World) (hL : LibOk w) (hE : LibErr w) (h : impl_XmlAttr.f k a0 a1 = some (r1, r2, r3)) :
  Calls Tryd.prog 17 #[.string a0, .int .i64 a1] w fun e w' => e = .returned (.tuple #[.agg #[.string r1, .string r2], .int .i64 r3]) ∧ Below w.heap.size w w' := by
 have hu41 := Tryd.underlying41
 have HB := Aside0.mk (Below.refl w.heap.size w)
 have H : ((impl_XmlName.f k a0 a1).bind fun bt362 => (if bt362.1.toList = ([] : List UInt8) then (impl_XmlAttr.j0 k a0 bt362.1 bt362.2 true) else (if 0 ≤ bt362.2 then (if bt362.2 ≤ (a0.size : Int) then ((strings_HasPrefix.f (a0.extract (bt362.2 : Int).toNat a0.size) (⟨#[61, 34]⟩ : ByteArray)).bind fun t364 => (impl_XmlAttr.j0 k a0 bt362.1 bt362.2 (!t364))) else (none)) else (none)))) = some (r1, r2, r3) := h
 clear h
 replace H := Option.bind_eq_some_iff.mp H
 obtain ⟨⟨t362, t363⟩, A30, H⟩ := H
 replace H : (if t362.toList = ([] : List UInt8) then (impl_XmlAttr.j0 k a0 t362 t363 true) else (if 0 ≤ t363 then (if t363 ≤ (a0.size : Int) then ((strings_HasPrefix.f (a0.extract (t363 : Int).toNat a0.size) (⟨#[61, 34]⟩ : ByteArray)).bind fun t364 => (impl_XmlAttr.j0 k a0 t362 t363 (!t364))) else (none)) else (none))) = some (r1, r2, r3) := H
 have A3 := Aside0.mk A30
 clear A30
 have HC4 := Aside0.mk H
 clear H
 go_enter Tryd.func17, Tryd.ntmps17
 go_upto_region 2 with (first | ((with_reducible refine gate_dst (N := 4) rfl ?_); (try (refine gate_guard (by rfl) ?_; dsimp only)); refine box_event ?hg (N := 4) ?hd (cs := #[.string (⟨#[]⟩ : ByteArray), .string (⟨#[]⟩ : ByteArray)]) (t := 41) ?hr ?_; (case hd => rfl); (case hg => rfl); (case hr => first | (go_simp; done) | (go_simp; rfl)); intro gb361 hg w5 hbox hb; have n0_ := Aside0.mk (below_step (by repeat (first | (with_reducible first | exact HB.out | apply below_alloc | apply pw_below_drewN | apply below_drew1) | exact HB.out)) hb); have n1_ := Aside0.mk (hbox); have n2_ := Aside0.mk ((by rw [hg]; exact (below_size (by repeat (first | (with_reducible first | exact HB.out | apply below_alloc | apply pw_below_drewN | apply below_drew1) | exact HB.out))) : w.heap.size ≤ gb361)); have n3_ := Aside0.mk ((by rw [hg]; exact (below_size (by repeat (first | (with_reducible first | exact HB.out | apply below_alloc | apply pw_below_drewN | apply below_drew1) | exact HB.out))) : w.heap.size ≤ gb361)); clear HB; have HB := n0_; have BK361 := n1_; have GW361 := n2_; have GE361 := n3_; clear n0_ n1_ n2_ n3_; clear hb hbox hg) | ((with_reducible refine gate_callee (f := 34) rfl ?_); refine goesL_ (some 14) rfl rfl Tryd.func34 (by kernel_rfl) rfl #[.string a0, .int .i64 a1] rfl (by (try simp only [List.map_toArray, List.map_cons, List.map_nil]); first | done | rfl | (simp only [List.length_drop, List.length_take]; rfl)) ?_; (with_reducible refine (impl_XmlName.calls k a0 a1 t362 t363 _ A3.out).mono ?_); rintro e w6 ⟨rfl, hb⟩; refine ⟨_, rfl, ?_⟩; have n0_ := Aside0.mk (blk_below (g := gb361) (o := .cells #[.string (⟨#[]⟩ : ByteArray), .string (⟨#[]⟩ : ByteArray)] 41 (0, 0)) (by (with_reducible repeat (first | refine blk_drewN ?_ _ | refine blk_drew ?_ | refine blk_alloc ?_ _)); exact BK361.out) hb); have n1_ := Aside0.mk (below_step (by repeat (first | (with_reducible first | exact HB.out | apply below_alloc | apply pw_below_drewN | apply below_drew1 | refine below_set ?_ GE361.out) | exact HB.out)) hb); clear BK361; clear HB; have BK361 := n0_; have HB := n1_; clear n0_ n1_; (try clear hb); (try clear hb2); (try clear hk); (try clear hi)))
 (try simp only [Act.put, List.setIfInBounds_toArray, List.set_cons_zero, List.set_cons_succ])
 go_cut [25] (fun v25 wc => ∃ (kq : Nat) (x25_3 : Bool), v25 = .bool x25_3 ∧ Aside0 (impl_XmlAttr.j0 kq a0 t362 t363 x25_3 = some (r1, r2, r3)) ∧ Aside0 (kq ≤ k) ∧ Aside0 (wc.heap[gb361]? = some (.cells #[.string (⟨#[]⟩ : ByteArray), .string (⟨#[]⟩ : ByteArray)] 41 (0, 0))) ∧ Aside0 (Below w.heap.size w wc))
 case first =>
  have H := HC4.out
  clear HC4
  by_cases c7 : t362.toList = ([] : List UInt8)
  ·rw [if_pos c7] at H
   have c7b0 : (t362.toList == ([] : List UInt8)) = true := beq_iff_eq.mpr c7
   have c7b1 : (t362.toList != ([] : List UInt8)) = false := bne_eq_false_iff_eq.mpr c7
   clear c7
   (first | rw [c7b0] | (simp only [i64_w, i32_w]; rw [c7b0]) | skip)
   have H' := Aside0.mk H
   clear H
   go_wp2
   go_meet
   case rel => exact ⟨_, (true), (by first | rfl | (simp; done) | (simp [*]; done)), H', ⟨by first | omega | exact Nat.le_refl _⟩, ⟨by (with_reducible repeat (first | refine blk_drewN ?_ _ | refine blk_drew ?_ | refine blk_alloc ?_ _)); exact BK361.out⟩, ⟨by repeat (first | (with_reducible first | exact HB.out | apply below_alloc | apply pw_below_drewN | apply below_drew1 | refine below_set ?_ GE361.out) | exact HB.out)⟩⟩
  ·rw [if_neg c7] at H
   have c7b0 : (t362.toList == ([] : List UInt8)) = false := beq_eq_false_iff_ne.mpr c7
   have c7b1 : (t362.toList != ([] : List UInt8)) = true := bne_iff_ne.mpr c7
   (first | rw [c7b0] | (simp only [i64_w, i32_w]; rw [c7b0]) | skip)
   by_cases c8 : 0 ≤ t363
   ·rw [if_pos c8] at H
    have c8b0 := eq_true c8
    have c8b1 : decide (0 ≤ t363) = true := decide_eq_true c8
    clear c8
    by_cases c9 : t363 ≤ (a0.size : Int)
    ·rw [if_pos c9] at H
     have c9b0 := eq_true c9
     have c9b1 : decide (t363 ≤ (a0.size : Int)) = true := decide_eq_true c9
     clear c9
     replace H := Option.bind_eq_some_iff.mp H
     obtain ⟨t364, A100, H⟩ := H
     replace H : (impl_XmlAttr.j0 k a0 t362 t363 (!t364)) = some (r1, r2, r3) := H
     have A10 := Aside0.mk A100
     clear A100
     have H' := Aside0.mk H
     clear H
     go_wp2_with (first | (go_at_call 35; (with_reducible refine (strings_HasPrefix.calls (a0.extract (t363 : Int).toNat a0.size) (⟨#[61, 34]⟩ : ByteArray) t364 _ A10.out).mono ?_); rintro e w' ⟨rfl, ⟨nd, rfl⟩⟩))
     go_meet
     case rel => exact ⟨_, (!t364), (by first | rfl | (simp; done) | (simp [*]; done)), H', ⟨by first | omega | exact Nat.le_refl _⟩, ⟨by (with_reducible repeat (first | refine blk_drewN ?_ _ | refine blk_drew ?_ | refine blk_alloc ?_ _)); exact BK361.out⟩, ⟨by repeat (first | (with_reducible first | exact HB.out | apply below_alloc | apply pw_below_drewN | apply below_drew1 | refine below_set ?_ GE361.out) | exact HB.out)⟩⟩
    ·rw [if_neg c9] at H
     exact absurd H (by simp)
   ·rw [if_neg c8] at H
    exact absurd H (by simp)
 case rest =>
  clear HC4
  try clear c1
  try clear p2
  try clear c3
  try clear c7
  try clear c7b0
  try clear c7b1
  try clear c8
  try clear c8b0
  try clear c8b1
  try clear c9
  try clear c9b0
  try clear c9b1
  obtain ⟨kq, x25_3, rfl, HA, HJ3, BK361, HB⟩ := hcut
  cases kq with
  | zero => exact absurd HA.out (by simp [impl_XmlAttr.j0])
  | succ kj3 =>
   have H := HA.out
   clear HA
   simp only [impl_XmlAttr.j0] at H
   by_cases c11 : x25_3 = true
   ·subst c11
    have H1 : (some ((⟨#[]⟩ : ByteArray), (⟨#[]⟩ : ByteArray), (-1))) = some (r1, r2, r3) := by rw [if_pos rfl] at H; exact H
    clear H
    have H := H1
    clear H1
    simp only [Option.some.injEq, Prod.mk.injEq] at H
    obtain ⟨rfl, rfl, rfl⟩ := H
    have hcz12_0 : wc.cell? ⟨gb361, 0, none⟩ = some (.string (⟨#[]⟩ : ByteArray)) := (blk_cell BK361.out 0).trans rfl
    have hcz12_1 : wc.cell? ⟨gb361, 1, none⟩ = some (.string (⟨#[]⟩ : ByteArray)) := (blk_cell BK361.out 1).trans rfl
    have hfz12_0 := blk_frozen BK361.out 0
    have hfz12_1 := blk_frozen BK361.out 1
    go_wp2
    refine bodyPost_ret (results_ct rfl _ _ gb361 41 #[.string (⟨#[]⟩ : ByteArray), .string (⟨#[]⟩ : ByteArray)] (0, 0) _ rfl (by (with_reducible repeat (first | refine blk_drewN ?_ _ | refine blk_drew ?_ | refine blk_alloc ?_ _)); refine blk_put (cs := #[.string (⟨#[]⟩ : ByteArray), .string (⟨#[]⟩ : ByteArray)]) ?_ 1 _ rfl; (with_reducible repeat (first | refine blk_drewN ?_ _ | refine blk_drew ?_ | refine blk_alloc ?_ _)); refine blk_put (cs := #[.string (⟨#[]⟩ : ByteArray), .string (⟨#[]⟩ : ByteArray)]) ?_ 0 _ rfl; (with_reducible repeat (first | refine blk_drewN ?_ _ | refine blk_drew ?_ | refine blk_alloc ?_ _)); exact BK361.out) Tryd.underlying41 rfl (by kernel_rfl)) rfl ?_
    exact ⟨by first | rfl | (simp [errW_none, errW_some] <;> rfl) | (simp [*, errW_none, errW_some] <;> rfl), by repeat (first | (with_reducible first | exact HB.out | apply below_alloc | apply pw_below_drewN | apply below_drew1 | refine below_set ?_ GE361.out) | exact HB.out)⟩
   ·replace c11 := Bool.eq_false_iff.mpr c11
    subst c11
    have H1 : ((impl_XmlText.f kj3 a0 (wrap64 (t363 + 2)) (⟨#[34]⟩ : ByteArray)).bind fun bt365 => (if bt365.2 < 0 then (some ((⟨#[]⟩ : ByteArray), (⟨#[]⟩ : ByteArray), (-1))) else (if bt365.2 = (a0.size : Int) then (some ((⟨#[]⟩ : ByteArray), (⟨#[]⟩ : ByteArray), (-1))) else (if 0 ≤ (wrap64 (t363 + 2)) then (if (wrap64 (t363 + 2)) ≤ bt365.2 then (if bt365.2 ≤ (a0.size : Int) then ((strings_ContainsAny.f (a0.extract ((wrap64 (t363 + 2)) : Int).toNat (bt365.2 : Int).toNat) (⟨#[9, 10]⟩ : ByteArray)).bind fun t367 => (if t367 = true then (some ((⟨#[]⟩ : ByteArray), (⟨#[]⟩ : ByteArray), (-1))) else (some (t362, bt365.1, wrap64 (bt365.2 + 1))))) else (none)) else (none)) else (none))))) = some (r1, r2, r3) := by rw [if_neg (show ¬ (false = true) by decide)] at H; exact H
    clear H
    have H := H1
    clear H1
    replace H := Option.bind_eq_some_iff.mp H
    obtain ⟨⟨t365, t366⟩, A130, H⟩ := H
    replace H : (if t366 < 0 then (some ((⟨#[]⟩ : ByteArray), (⟨#[]⟩ : ByteArray), (-1))) else (if t366 = (a0.size : Int) then (some ((⟨#[]⟩ : ByteArray), (⟨#[]⟩ : ByteArray), (-1))) else (if 0 ≤ (wrap64 (t363 + 2)) then (if (wrap64 (t363 + 2)) ≤ t366 then (if t366 ≤ (a0.size : Int) then ((strings_ContainsAny.f (a0.extract ((wrap64 (t363 + 2)) : Int).toNat (t366 : Int).toNat) (⟨#[9, 10]⟩ : ByteArray)).bind fun t367 => (if t367 = true then (some ((⟨#[]⟩ : ByteArray), (⟨#[]⟩ : ByteArray), (-1))) else (some (t362, t365, wrap64 (t366 + 1))))) else (none)) else (none)) else (none)))) = some (r1, r2, r3) := H
    have A13 := Aside0.mk A130
    clear A130
    by_cases c14 : t366 < 0
    ·rw [if_pos c14] at H
     have c14b0 : decide (t366 < 0) = true := decide_eq_true c14
     clear c14
     simp only [Option.some.injEq, Prod.mk.injEq] at H
     obtain ⟨rfl, rfl, rfl⟩ := H
     go_wp2_with (first | ((with_reducible refine gate_callee (f := 36) rfl ?_); refine goesL_ (some 32) rfl rfl Tryd.func36 (by kernel_rfl) rfl #[.string a0, .int .i64 (wrap64 (t363 + 2)), .string (⟨#[34]⟩ : ByteArray)] rfl (by (try simp only [List.map_toArray, List.map_cons, List.map_nil]); first | done | rfl | (simp only [List.length_drop, List.length_take]; rfl)) ?_; (with_reducible refine (impl_XmlText.calls kj3 a0 (wrap64 (t363 + 2)) (⟨#[34]⟩ : ByteArray) t365 t366 _ ?side1 ?side2 A13.out).mono ?_); (case side1 => first | exact hL | exact LibOk.below hL (by repeat (first | (with_reducible first | exact HB.out | apply below_alloc | apply pw_below_drewN | apply below_drew1 | refine below_set ?_ GE361.out) | exact HB.out))); (case side2 => first | exact hE | exact LibErr.below hE (by repeat (first | (with_reducible first | exact HB.out | apply below_alloc | apply pw_below_drewN | apply below_drew1 | refine below_set ?_ GE361.out) | exact HB.out))); rintro e w15 ⟨rfl, hb⟩; refine ⟨_, rfl, ?_⟩; have n0_ := Aside0.mk (blk_below (g := gb361) (o := .cells #[.string (⟨#[]⟩ : ByteArray), .string (⟨#[]⟩ : ByteArray)] 41 (0, 0)) (by (with_reducible repeat (first | refine blk_drewN ?_ _ | refine blk_drew ?_ | refine blk_alloc ?_ _)); exact BK361.out) hb); have n1_ := Aside0.mk (below_step (by repeat (first | (with_reducible first | exact HB.out | apply below_alloc | apply pw_below_drewN | apply below_drew1 | refine below_set ?_ GE361.out) | exact HB.out)) hb); clear BK361; clear HB; have BK361 := n0_; have HB := n1_; clear n0_ n1_; (try clear hb); (try clear hb2); (try clear hk); (try clear hi); have hcz16_0 : w15.cell? ⟨gb361, 0, none⟩ = some (.string (⟨#[]⟩ : ByteArray)) := (blk_cell BK361.out 0).trans rfl; have hcz16_1 : w15.cell? ⟨gb361, 1, none⟩ = some (.string (⟨#[]⟩ : ByteArray)) := (blk_cell BK361.out 1).trans rfl; have hfz16_0 := blk_frozen BK361.out 0; have hfz16_1 := blk_frozen BK361.out 1))
     refine bodyPost_ret (results_ct rfl _ _ gb361 41 #[.string (⟨#[]⟩ : ByteArray), .string (⟨#[]⟩ : ByteArray)] (0, 0) _ rfl (by (with_reducible repeat (first | refine blk_drewN ?_ _ | refine blk_drew ?_ | refine blk_alloc ?_ _)); refine blk_put (cs := #[.string (⟨#[]⟩ : ByteArray), .string (⟨#[]⟩ : ByteArray)]) ?_ 1 _ rfl; (with_reducible repeat (first | refine blk_drewN ?_ _ | refine blk_drew ?_ | refine blk_alloc ?_ _)); refine blk_put (cs := #[.string (⟨#[]⟩ : ByteArray), .string (⟨#[]⟩ : ByteArray)]) ?_ 0 _ rfl; (with_reducible repeat (first | refine blk_drewN ?_ _ | refine blk_drew ?_ | refine blk_alloc ?_ _)); exact BK361.out) Tryd.underlying41 rfl (by kernel_rfl)) rfl ?_
     exact ⟨by first | rfl | (simp [errW_none, errW_some] <;> rfl) | (simp [*, errW_none, errW_some] <;> rfl), by repeat (first | (with_reducible first | exact HB.out | apply below_alloc | apply pw_below_drewN | apply below_drew1 | refine below_set ?_ GE361.out) | exact HB.out)⟩
    ·rw [if_neg c14] at H
     have c14b0 : decide (t366 < 0) = false := decide_eq_false c14
     clear c14
     by_cases c17 : t366 = (a0.size : Int)
     ·rw [if_pos c17] at H
      have c17b0 : (t366 == (a0.size : Int)) = true := beq_iff_eq.mpr c17
      have c17b1 : (t366 != (a0.size : Int)) = false := bne_eq_false_iff_eq.mpr c17
      clear c17
      simp only [Option.some.injEq, Prod.mk.injEq] at H
      obtain ⟨rfl, rfl, rfl⟩ := H
      go_wp2_with (first | ((with_reducible refine gate_callee (f := 36) rfl ?_); refine goesL_ (some 32) rfl rfl Tryd.func36 (by kernel_rfl) rfl #[.string a0, .int .i64 (wrap64 (t363 + 2)), .string (⟨#[34]⟩ : ByteArray)] rfl (by (try simp only [List.map_toArray, List.map_cons, List.map_nil]); first | done | rfl | (simp only [List.length_drop, List.length_take]; rfl)) ?_; (with_reducible refine (impl_XmlText.calls kj3 a0 (wrap64 (t363 + 2)) (⟨#[34]⟩ : ByteArray) t365 t366 _ ?side1 ?side2 A13.out).mono ?_); (case side1 => first | exact hL | exact LibOk.below hL (by repeat (first | (with_reducible first | exact HB.out | apply below_alloc | apply pw_below_drewN | apply below_drew1 | refine below_set ?_ GE361.out) | exact HB.out))); (case side2 => first | exact hE | exact LibErr.below hE (by repeat (first | (with_reducible first | exact HB.out | apply below_alloc | apply pw_below_drewN | apply below_drew1 | refine below_set ?_ GE361.out) | exact HB.out))); rintro e w18 ⟨rfl, hb⟩; refine ⟨_, rfl, ?_⟩; have n0_ := Aside0.mk (blk_below (g := gb361) (o := .cells #[.string (⟨#[]⟩ : ByteArray), .string (⟨#[]⟩ : ByteArray)] 41 (0, 0)) (by (with_reducible repeat (first | refine blk_drewN ?_ _ | refine blk_drew ?_ | refine blk_alloc ?_ _)); exact BK361.out) hb); have n1_ := Aside0.mk (below_step (by repeat (first | (with_reducible first | exact HB.out | apply below_alloc | apply pw_below_drewN | apply below_drew1 | refine below_set ?_ GE361.out) | exact HB.out)) hb); clear BK361; clear HB; have BK361 := n0_; have HB := n1_; clear n0_ n1_; (try clear hb); (try clear hb2); (try clear hk); (try clear hi); have hcz19_0 : w18.cell? ⟨gb361, 0, none⟩ = some (.string (⟨#[]⟩ : ByteArray)) := (blk_cell BK361.out 0).trans rfl; have hcz19_1 : w18.cell? ⟨gb361, 1, none⟩ = some (.string (⟨#[]⟩ : ByteArray)) := (blk_cell BK361.out 1).trans rfl; have hfz19_0 := blk_frozen BK361.out 0; have hfz19_1 := blk_frozen BK361.out 1))
      refine bodyPost_ret (results_ct rfl _ _ gb361 41 #[.string (⟨#[]⟩ : ByteArray), .string (⟨#[]⟩ : ByteArray)] (0, 0) _ rfl (by (with_reducible repeat (first | refine blk_drewN ?_ _ | refine blk_drew ?_ | refine blk_alloc ?_ _)); refine blk_put (cs := #[.string (⟨#[]⟩ : ByteArray), .string (⟨#[]⟩ : ByteArray)]) ?_ 1 _ rfl; (with_reducible repeat (first | refine blk_drewN ?_ _ | refine blk_drew ?_ | refine blk_alloc ?_ _)); refine blk_put (cs := #[.string (⟨#[]⟩ : ByteArray), .string (⟨#[]⟩ : ByteArray)]) ?_ 0 _ rfl; (with_reducible repeat (first | refine blk_drewN ?_ _ | refine blk_drew ?_ | refine blk_alloc ?_ _)); exact BK361.out) Tryd.underlying41 rfl (by kernel_rfl)) rfl ?_
      exact ⟨by first | rfl | (simp [errW_none, errW_some] <;> rfl) | (simp [*, errW_none, errW_some] <;> rfl), by repeat (first | (with_reducible first | exact HB.out | apply below_alloc | apply pw_below_drewN | apply below_drew1 | refine below_set ?_ GE361.out) | exact HB.out)⟩
     ·rw [if_neg c17] at H
      have c17b0 : (t366 == (a0.size : Int)) = false := beq_eq_false_iff_ne.mpr c17
      have c17b1 : (t366 != (a0.size : Int)) = true := bne_iff_ne.mpr c17
      obtain ⟨ji20, hji20⟩ : ∃ j_ : Int, (wrap64 (t363 + 2)) = j_ := ⟨_, rfl⟩
      replace H : (if 0 ≤ (ji20) then (if (ji20) ≤ t366 then (if t366 ≤ (a0.size : Int) then ((strings_ContainsAny.f (a0.extract ((ji20) : Int).toNat (t366 : Int).toNat) (⟨#[9, 10]⟩ : ByteArray)).bind fun t367 => (if t367 = true then (some ((⟨#[]⟩ : ByteArray), (⟨#[]⟩ : ByteArray), (-1))) else (some (t362, t365, wrap64 (t366 + 1))))) else (none)) else (none)) else (none)) = some (r1, r2, r3) := by first | (rw [hji20] at H; exact H) | (simp only [hji20] at H ⊢; exact H)
      (try rw [hji20] at A13)
      have hji20w : (IntKind.i64.wrap (t363 + 2)) = ji20 := (i64_w _).trans hji20
      by_cases c21 : 0 ≤ (ji20)
      ·rw [if_pos c21] at H
       have c21b0 := eq_true c21
       have c21b1 : decide (0 ≤ (ji20)) = true := decide_eq_true c21
       clear c21
       by_cases c22 : (ji20) ≤ t366
       ·rw [if_pos c22] at H
        have c22b0 := eq_true c22
        have c22b1 : decide ((ji20) ≤ t366) = true := decide_eq_true c22
        clear c22
        by_cases c23 : t366 ≤ (a0.size : Int)
        ·rw [if_pos c23] at H
         have c23b0 := eq_true c23
         have c23b1 : decide (t366 ≤ (a0.size : Int)) = true := decide_eq_true c23
         clear c23
         replace H := Option.bind_eq_some_iff.mp H
         obtain ⟨t367, A240, H⟩ := H
         replace H : (if t367 = true then (some ((⟨#[]⟩ : ByteArray), (⟨#[]⟩ : ByteArray), (-1))) else (some (t362, t365, wrap64 (t366 + 1)))) = some (r1, r2, r3) := H
         have A24 := Aside0.mk A240
         clear A240
         by_cases c25 : t367 = true
         ·subst c25
          have H1 : (some ((⟨#[]⟩ : ByteArray), (⟨#[]⟩ : ByteArray), (-1))) = some (r1, r2, r3) := by rw [if_pos rfl] at H; exact H
          clear H
          have H := H1
          clear H1
          simp only [Option.some.injEq, Prod.mk.injEq] at H
          obtain ⟨rfl, rfl, rfl⟩ := H
          go_wp2_with (first | ((with_reducible refine gate_callee (f := 36) rfl ?_); refine goesL_ (some 32) rfl rfl Tryd.func36 (by kernel_rfl) rfl #[.string a0, .int .i64 ji20, .string (⟨#[34]⟩ : ByteArray)] rfl (by (try simp only [List.map_toArray, List.map_cons, List.map_nil]); first | done | (simp only [hji20]; rfl) | rfl | (simp only [List.length_drop, List.length_take]; rfl)) ?_; (with_reducible refine (impl_XmlText.calls kj3 a0 ji20 (⟨#[34]⟩ : ByteArray) t365 t366 _ ?side1 ?side2 A13.out).mono ?_); (case side1 => first | exact hL | exact LibOk.below hL (by repeat (first | (with_reducible first | exact HB.out | apply below_alloc | apply pw_below_drewN | apply below_drew1 | refine below_set ?_ GE361.out) | exact HB.out))); (case side2 => first | exact hE | exact LibErr.below hE (by repeat (first | (with_reducible first | exact HB.out | apply below_alloc | apply pw_below_drewN | apply below_drew1 | refine below_set ?_ GE361.out) | exact HB.out))); rintro e w26 ⟨rfl, hb⟩; refine ⟨_, rfl, ?_⟩; have n0_ := Aside0.mk (blk_below (g := gb361) (o := .cells #[.string (⟨#[]⟩ : ByteArray), .string (⟨#[]⟩ : ByteArray)] 41 (0, 0)) (by (with_reducible repeat (first | refine blk_drewN ?_ _ | refine blk_drew ?_ | refine blk_alloc ?_ _)); exact BK361.out) hb); have n1_ := Aside0.mk (below_step (by repeat (first | (with_reducible first | exact HB.out | apply below_alloc | apply pw_below_drewN | apply below_drew1 | refine below_set ?_ GE361.out) | exact HB.out)) hb); clear BK361; clear HB; have BK361 := n0_; have HB := n1_; clear n0_ n1_; (try clear hb); (try clear hb2); (try clear hk); (try clear hi)) | (go_at_call 37; (with_reducible refine (strings_ContainsAny.calls (a0.extract ((ji20) : Int).toNat (t366 : Int).toNat) (⟨#[9, 10]⟩ : ByteArray) true _ A24.out).mono ?_); rintro e w27 ⟨rfl, hb⟩; have n0_ := Aside0.mk (blk_below (g := gb361) (o := .cells #[.string (⟨#[]⟩ : ByteArray), .string (⟨#[]⟩ : ByteArray)] 41 (0, 0)) (by (with_reducible repeat (first | refine blk_drewN ?_ _ | refine blk_drew ?_ | refine blk_alloc ?_ _)); exact BK361.out) hb); have n1_ := Aside0.mk (below_step (by repeat (first | (with_reducible first | exact HB.out | apply below_alloc | apply pw_below_drewN | apply below_drew1 | refine below_set ?_ GE361.out) | exact HB.out)) hb); clear BK361; clear HB; have BK361 := n0_; have HB := n1_; clear n0_ n1_; (try clear hb); (try clear hb2); (try clear hk); (try clear hi); have hcz28_0 : w27.cell? ⟨gb361, 0, none⟩ = some (.string (⟨#[]⟩ : ByteArray)) := (blk_cell BK361.out 0).trans rfl; have hcz28_1 : w27.cell? ⟨gb361, 1, none⟩ = some (.string (⟨#[]⟩ : ByteArray)) := (blk_cell BK361.out 1).trans rfl; have hfz28_0 := blk_frozen BK361.out 0; have hfz28_1 := blk_frozen BK361.out 1))
          refine bodyPost_ret (results_ct rfl _ _ gb361 41 #[.string (⟨#[]⟩ : ByteArray), .string (⟨#[]⟩ : ByteArray)] (0, 0) _ rfl (by (with_reducible repeat (first | refine blk_drewN ?_ _ | refine blk_drew ?_ | refine blk_alloc ?_ _)); refine blk_put (cs := #[.string (⟨#[]⟩ : ByteArray), .string (⟨#[]⟩ : ByteArray)]) ?_ 1 _ rfl; (with_reducible repeat (first | refine blk_drewN ?_ _ | refine blk_drew ?_ | refine blk_alloc ?_ _)); refine blk_put (cs := #[.string (⟨#[]⟩ : ByteArray), .string (⟨#[]⟩ : ByteArray)]) ?_ 0 _ rfl; (with_reducible repeat (first | refine blk_drewN ?_ _ | refine blk_drew ?_ | refine blk_alloc ?_ _)); exact BK361.out) Tryd.underlying41 rfl (by kernel_rfl)) rfl ?_
          exact ⟨by first | rfl | (simp [errW_none, errW_some] <;> rfl) | (simp only [← hji20]; first | rfl | (simp [errW_none, errW_some] <;> rfl)) | (simp [*, errW_none, errW_some] <;> rfl), by repeat (first | (with_reducible first | exact HB.out | apply below_alloc | apply pw_below_drewN | apply below_drew1 | refine below_set ?_ GE361.out) | exact HB.out)⟩
         ·replace c25 := Bool.eq_false_iff.mpr c25
          subst c25
          have H1 : (some (t362, t365, wrap64 (t366 + 1))) = some (r1, r2, r3) := by rw [if_neg (show ¬ (false = true) by decide)] at H; exact H
          clear H
          have H := H1
          clear H1
          simp only [Option.some.injEq, Prod.mk.injEq] at H
          obtain ⟨rfl, rfl, rfl⟩ := H
          go_wp2_with (first | ((with_reducible refine gate_callee (f := 36) rfl ?_); refine goesL_ (some 32) rfl rfl Tryd.func36 (by kernel_rfl) rfl #[.string a0, .int .i64 ji20, .string (⟨#[34]⟩ : ByteArray)] rfl (by (try simp only [List.map_toArray, List.map_cons, List.map_nil]); first | done | (simp only [hji20]; rfl) | rfl | (simp only [List.length_drop, List.length_take]; rfl)) ?_; (with_reducible refine (impl_XmlText.calls kj3 a0 ji20 (⟨#[34]⟩ : ByteArray) t365 t366 _ ?side1 ?side2 A13.out).mono ?_); (case side1 => first | exact hL | exact LibOk.below hL (by repeat (first | (with_reducible first | exact HB.out | apply below_alloc | apply pw_below_drewN | apply below_drew1 | refine below_set ?_ GE361.out) | exact HB.out))); (case side2 => first | exact hE | exact LibErr.below hE (by repeat (first | (with_reducible first | exact HB.out | apply below_alloc | apply pw_below_drewN | apply below_drew1 | refine below_set ?_ GE361.out) | exact HB.out))); rintro e w29 ⟨rfl, hb⟩; refine ⟨_, rfl, ?_⟩; have n0_ := Aside0.mk (blk_below (g := gb361) (o := .cells #[.string (⟨#[]⟩ : ByteArray), .string (⟨#[]⟩ : ByteArray)] 41 (0, 0)) (by (with_reducible repeat (first | refine blk_drewN ?_ _ | refine blk_drew ?_ | refine blk_alloc ?_ _)); exact BK361.out) hb); have n1_ := Aside0.mk (below_step (by repeat (first | (with_reducible first | exact HB.out | apply below_alloc | apply pw_below_drewN | apply below_drew1 | refine below_set ?_ GE361.out) | exact HB.out)) hb); clear BK361; clear HB; have BK361 := n0_; have HB := n1_; clear n0_ n1_; (try clear hb); (try clear hb2); (try clear hk); (try clear hi)) | (go_at_call 37; (with_reducible refine (strings_ContainsAny.calls (a0.extract ((ji20) : Int).toNat (t366 : Int).toNat) (⟨#[9, 10]⟩ : ByteArray) false _ A24.out).mono ?_); rintro e w30 ⟨rfl, hb⟩; have n0_ := Aside0.mk (blk_below (g := gb361) (o := .cells #[.string (⟨#[]⟩ : ByteArray), .string (⟨#[]⟩ : ByteArray)] 41 (0, 0)) (by (with_reducible repeat (first | refine blk_drewN ?_ _ | refine blk_drew ?_ | refine blk_alloc ?_ _)); exact BK361.out) hb); have n1_ := Aside0.mk (below_step (by repeat (first | (with_reducible first | exact HB.out | apply below_alloc | apply pw_below_drewN | apply below_drew1 | refine below_set ?_ GE361.out) | exact HB.out)) hb); clear BK361; clear HB; have BK361 := n0_; have HB := n1_; clear n0_ n1_; (try clear hb); (try clear hb2); (try clear hk); (try clear hi); have hcz31_0 : w30.cell? ⟨gb361, 0, none⟩ = some (.string (⟨#[]⟩ : ByteArray)) := (blk_cell BK361.out 0).trans rfl; have hcz31_1 : w30.cell? ⟨gb361, 1, none⟩ = some (.string (⟨#[]⟩ : ByteArray)) := (blk_cell BK361.out 1).trans rfl; have hfz31_0 := blk_frozen BK361.out 0; have hfz31_1 := blk_frozen BK361.out 1))
          refine bodyPost_ret (results_ct rfl _ _ gb361 41 #[.string t362, .string t365] (0, 0) _ rfl (by (with_reducible repeat (first | refine blk_drewN ?_ _ | refine blk_drew ?_ | refine blk_alloc ?_ _)); refine blk_put (cs := #[.string t362, .string (⟨#[]⟩ : ByteArray)]) ?_ 1 _ rfl; (with_reducible repeat (first | refine blk_drewN ?_ _ | refine blk_drew ?_ | refine blk_alloc ?_ _)); refine blk_put (cs := #[.string (⟨#[]⟩ : ByteArray), .string (⟨#[]⟩ : ByteArray)]) ?_ 0 _ rfl; (with_reducible repeat (first | refine blk_drewN ?_ _ | refine blk_drew ?_ | refine blk_alloc ?_ _)); exact BK361.out) Tryd.underlying41 rfl (by kernel_rfl)) rfl ?_
          exact ⟨by first | rfl | (simp [errW_none, errW_some] <;> rfl) | (simp only [← hji20]; first | rfl | (simp [errW_none, errW_some] <;> rfl)) | (simp [*, errW_none, errW_some] <;> rfl), by repeat (first | (with_reducible first | exact HB.out | apply below_alloc | apply pw_below_drewN | apply below_drew1 | refine below_set ?_ GE361.out) | exact HB.out)⟩
        ·rw [if_neg c23] at H
         exact absurd H (by simp)
       ·rw [if_neg c22] at H
        exact absurd H (by simp)
      ·rw [if_neg c21] at H
       exact absurd H (by simp)
end Go.Proofs.YtkmmoheeoblmnaaDoor.A
