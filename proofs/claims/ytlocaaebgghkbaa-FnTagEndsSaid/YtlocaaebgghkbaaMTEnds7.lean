-- joined by wip/tools/shake.py
import Derived.Test.YtlocaaebgghkbaaVTEndsK
import Derived.Test.YtlocaaebgghkbaaMTEnds3
import Derived.Test.YtlocaaebgghkbaaMTEnds1
import Derived.Laws.Bits128
import Derived.Test.YtlocaaebgghkbaaMTEnds4
import Derived.Test.YtlocaaebgghkbaaMTEnds5
import Derived.Test.YtlocaaebgghkbaaMTEnds0
import Derived.Lib.IndexLaws
import Derived.Test.YtlocaaebgghkbaaMTEnds2
import Derived.Laws.Strings
import Derived.Test.YtlocaaebgghkbaaMTEnds6
namespace Go.Proofs.Ytlocaaebgghkbaa.A
open Go.RowKit Go.Proofs.YtlocaaebgghkbaaW.PrintWords Go.Proofs.YtlocaaebgghkbaaW.PrintLast Go.Proofs.YtlocaaebgghkbaaW.PrintMore
set_option linter.unusedVariables false
theorem Ev.ifp {α : Type} {c : Prop} [Decidable c] {f g : Nat → Option α} {r : α} (hc : c) (h : Ev f r) : Ev (fun k => if c then f k else g k) r := Ev.congr (fun k => if_pos hc) h
theorem Ev.ifn {α : Type} {c : Prop} [Decidable c] {f g : Nat → Option α} {r : α} (hc : ¬ c) (h : Ev g r) : Ev (fun k => if c then f k else g k) r := Ev.congr (fun k => if_neg hc) h
theorem Ev.bindc {α β : Type} {x : Option α} {a : α} {f : Nat → α → Option β} {r : β} (hx : x = some a) (h : Ev (fun n => f n a) r) : Ev (fun n => x.bind (f n)) r := Ev.congr (fun k => by rw [hx, Option.bind_some]) h
theorem Ev.up {α : Type} {f : Nat → Option α} {r : α} (m : Nat) (h : ∀ k, f (k + m) = some r) : Ev f r := ⟨m, fun k hk => by have := h (k - m); rwa [Nat.sub_add_cancel hk] at this⟩
end Go.Proofs.Ytlocaaebgghkbaa.A
namespace Go.Proofs.Ytlocaaebgghkbaa.A
open Go.RowKit Go.Proofs.YtlocaaebgghkbaaW.PrintWords Go.Proofs.YtlocaaebgghkbaaW.PrintLast Go.Proofs.YtlocaaebgghkbaaW.PrintMore
set_option linter.unusedVariables false
theorem i64_and63 (n : Int) : bits .and .i64 n 63 = n % 64 := by
  have h63 : (BitVec.ofInt 64 63).toNat = 2 ^ 6 - 1 := by decide
  have key : (BitVec.ofInt 64 n &&& BitVec.ofInt 64 63).toNat = (n % ((2 ^ 64 : Nat) : Int)).toNat % 2 ^ 6 := by
    rw [BitVec.toNat_and, BitVec.toNat_ofInt, h63, Nat.and_two_pow_sub_one_eq_mod]
  show IntKind.i64.wrap ((BitVec.ofInt 64 n &&& BitVec.ofInt 64 63).toNat : Nat) = n % 64
  rw [key, IntKind.wrap_i64]
  omega
theorem or128_nat : ∀ c : Nat, c < 64 → bits .or .i64 128 (c : Int) = 128 + (c : Int) := by decide
theorem or192_nat : ∀ c : Nat, c < 32 → bits .or .i64 192 (c : Int) = 192 + (c : Int) := by decide
theorem or224_nat : ∀ c : Nat, c < 16 → bits .or .i64 224 (c : Int) = 224 + (c : Int) := by decide
theorem or240_nat : ∀ c : Nat, c < 8 → bits .or .i64 240 (c : Int) = 240 + (c : Int) := by decide
theorem or_of {a : Int} {m : Nat} (h : ∀ c : Nat, c < m → bits .or .i64 a (c : Int) = a + (c : Int)) {x : Int} (h0 : 0 ≤ x) (h1 : x < m) : bits .or .i64 a x = a + x := by
  have := h x.toNat (by omega)
  rwa [show ((x.toNat : Nat) : Int) = x by omega] at this
def signOk (n : Int) : Bool := decide (0 ≤ n ∧ n ≤ 1114111) && !decide (55296 ≤ n ∧ n ≤ 57343)
theorem inRange_f (n a b : Int) : impl_inRange.f n a b = some (decide (a ≤ n ∧ n ≤ b)) := by
  unfold impl_inRange.f
  by_cases h : n ≥ a
  · rw [if_pos h]
    by_cases h2 : n ≤ b
    · rw [decide_eq_true h2, decide_eq_true (show a ≤ n ∧ n ≤ b from ⟨h, h2⟩)]
    · rw [decide_eq_false h2, decide_eq_false (show ¬ (a ≤ n ∧ n ≤ b) from fun hh => h2 hh.2)]
  · rw [if_neg h, decide_eq_false (show ¬ (a ≤ n ∧ n ≤ b) from fun hh => h hh.1)]
theorem l1In_f (n a b : Int) : spec_l1In.f n a b = some (decide (a ≤ n ∧ n ≤ b)) := inRange_f n a b
theorem implSignOk_f (n : Int) : impl_SignOk.f n = some (signOk n) := by
  unfold impl_SignOk.f signOk
  rw [inRange_f, inRange_f]
  simp only [Option.bind_some]
  by_cases h : decide (0 ≤ n ∧ n ≤ 1114111) = true
  · rw [if_pos h, h]; rfl
  · rw [if_neg h, Bool.eq_false_iff.mpr h]; rfl
theorem specSignOk_f (n : Int) : spec_SignOk.f n = some (signOk n) := by
  unfold spec_SignOk.f signOk
  rw [l1In_f, l1In_f]
  simp only [Option.bind_some]
  by_cases h : decide (0 ≤ n ∧ n ≤ 1114111) = true
  · rw [if_pos h, h]; rfl
  · rw [if_neg h, Bool.eq_false_iff.mpr h]; rfl
def put0 (x : Int) : ByteArray :=
  if x < 128 then strOfNums [x % 256]
  else if x < 2048 then strOfNums [(192 + x / 64) % 256, (128 + x % 64) % 256]
  else if x < 65536 then strOfNums [(224 + x / 4096) % 256, (128 + x / 64 % 64) % 256, (128 + x % 64) % 256]
  else strOfNums [(240 + x / 262144) % 256, (128 + x / 4096 % 64) % 256, (128 + x / 64 % 64) % 256, (128 + x % 64) % 256]
theorem follow_f (x : Int) (b : Nat) (hb : b = 0 ∨ b = 6 ∨ b = 12) : impl_follow.f x (b : Int) = some ((128 + x / 2 ^ b % 64) % 256) := by
  unfold impl_follow.f
  have hw : IntKind.u64.wrap (b : Int) = (b : Int) := by rcases hb with rfl | rfl | rfl <;> decide
  rw [hw, if_pos (by omega), i64_and63]
  have hs : shr .i64 x (b : Int) = x / 2 ^ b := by
    unfold shr
    rcases hb with rfl | rfl | rfl <;> rfl
  rw [hs, or_of or128_nat (by omega) (by omega)]
theorem specPut0_f (k : Nat) (x : Int) (h0 : 0 ≤ x) (h1 : x ≤ 1114111) : spec_PutSign.j0 (k + 1) x = some (put0 x) := by
  have hw : ∀ a : Int, 0 ≤ a → a ≤ 1000000 → wrap64 a = a := fun a _ _ => by unfold wrap64; omega
  simp only [spec_PutSign.j0, put0, i64_and63]
  rw [hw (192 + x / 64) (by omega) (by omega), hw (128 + x % 64) (by omega) (by omega), hw (224 + x / 4096) (by omega) (by omega), hw (128 + x / 64 % 64) (by omega) (by omega), hw (240 + x / 262144) (by omega) (by omega), hw (128 + x / 4096 % 64) (by omega) (by omega)]
  by_cases c1 : x < 128
  · simp [c1]
  · by_cases c2 : x < 2048
    · simp [c1, c2]
    · by_cases c3 : x < 65536 <;> simp [c1, c2, c3]
theorem implPut0_f (k : Nat) (x : Int) (h0 : 0 ≤ x) (h1 : x ≤ 1114111) : impl_PutSign.j0 (k + 1) x = some (put0 x) := by
  have f0 : impl_follow.f x 0 = some ((128 + x % 64) % 256) := by
    have := follow_f x 0 (.inl rfl)
    rwa [show (2 : Int) ^ 0 = 1 from rfl, Int.ediv_one] at this
  have f6 : impl_follow.f x 6 = some ((128 + x / 64 % 64) % 256) := follow_f x 6 (.inr (.inl rfl))
  have f12 : impl_follow.f x 12 = some ((128 + x / 4096 % 64) % 256) := follow_f x 12 (.inr (.inr rfl))
  simp only [impl_PutSign.j0, put0]
  by_cases c1 : x < 128
  · simp [c1]
  · by_cases c2 : x < 2048
    · rw [if_neg c1, if_neg c1, if_pos c2, if_pos c2, or_of or192_nat (by omega) (by omega)]
      rw [f0]
      rfl
    · by_cases c3 : x < 65536
      · rw [if_neg c1, if_neg c1, if_neg c2, if_neg c2, if_pos c3, if_pos c3, or_of or224_nat (by omega) (by omega)]
        rw [f0, f6]
        rfl
      · rw [if_neg c1, if_neg c1, if_neg c2, if_neg c2, if_neg c3, if_neg c3, or_of or240_nat (by omega) (by omega)]
        rw [f0, f6, f12]
        rfl
def putF (n : Int) : ByteArray := if signOk n = true then put0 n else put0 65533
theorem specPut_f (k : Nat) (n : Int) : spec_PutSign.f (k + 1) n = some (putF n) := by
  unfold spec_PutSign.f putF
  rw [specSignOk_f, Option.bind_some]
  by_cases h : signOk n = true
  · have h' := h
    simp only [signOk, Bool.and_eq_true, decide_eq_true_eq] at h'
    rw [if_pos h, if_pos h, specPut0_f k n (by omega) (by omega)]
  · rw [if_neg h, if_neg h, specPut0_f k 65533 (by omega) (by omega)]
theorem implPut_f (k : Nat) (n : Int) : impl_PutSign.f (k + 1) n = some (putF n) := by
  unfold impl_PutSign.f putF
  rw [implSignOk_f, Option.bind_some]
  by_cases h : signOk n = true
  · have h' := h
    simp only [signOk, Bool.and_eq_true, decide_eq_true_eq] at h'
    rw [if_pos h, if_pos h, implPut0_f k n (by omega) (by omega)]
  · rw [if_neg h, if_neg h, implPut0_f k 65533 (by omega) (by omega)]
theorem putF_size (n : Int) : (putF n).size ≤ 4 := by
  have hp : ∀ x, (put0 x).size ≤ 4 := by
    intro x
    unfold put0
    split
    · exact Nat.le_trans (Nat.le_of_eq (show _ = 1 from rfl)) (by omega)
    · split
      · exact Nat.le_trans (Nat.le_of_eq (show _ = 2 from rfl)) (by omega)
      · split
        · exact Nat.le_trans (Nat.le_of_eq (show _ = 3 from rfl)) (by omega)
        · exact Nat.le_trans (Nat.le_of_eq (show _ = 4 from rfl)) (by omega)
  unfold putF
  split <;> exact hp _
end Go.Proofs.Ytlocaaebgghkbaa.A
namespace Go.Proofs.Ytlocaaebgghkbaa.A
open Go.RowKit Go.Proofs.YtlocaaebgghkbaaW.PrintWords Go.Proofs.YtlocaaebgghkbaaW.PrintLast Go.Proofs.YtlocaaebgghkbaaW.PrintMore
set_option linter.unusedVariables false
def Ez {α : Type} (f : Nat → Option α) (P : α → Prop) : Prop := ∃ r, Ev f r ∧ P r
theorem Ez.bind {α β : Type} {g : Nat → Option α} {f : Nat → α → Option β} {P : α → Prop} {Q : β → Prop} (h : Ez g P) (k : ∀ a, P a → Ez (fun n => f n a) Q) : Ez (fun n => (g n).bind (f n)) Q := by
  obtain ⟨a, ha, pa⟩ := h
  obtain ⟨b, hb, qb⟩ := k a pa
  exact ⟨b, Ev.bind ha hb, qb⟩
theorem Ez.bindc {α β : Type} {x : Option α} {f : Nat → α → Option β} {P : α → Prop} {Q : β → Prop} (h : ∃ a, x = some a ∧ P a) (k : ∀ a, P a → Ez (fun n => f n a) Q) : Ez (fun n => x.bind (f n)) Q := by
  obtain ⟨a, ha, pa⟩ := h
  obtain ⟨b, hb, qb⟩ := k a pa
  exact ⟨b, Ev.bindc ha hb, qb⟩
theorem Ez.now {α : Type} {r : α} {P : α → Prop} (h : P r) : Ez (fun _ => some r) P := ⟨r, Ev.now r, h⟩
theorem Ez.ifp {α : Type} {c : Prop} [Decidable c] {f g : Nat → Option α} {P : α → Prop} (hc : c) (h : Ez f P) : Ez (fun k => if c then f k else g k) P := by
  obtain ⟨r, e, p⟩ := h; exact ⟨r, Ev.ifp hc e, p⟩
theorem Ez.ifn {α : Type} {c : Prop} [Decidable c] {f g : Nat → Option α} {P : α → Prop} (hc : ¬ c) (h : Ez g P) : Ez (fun k => if c then f k else g k) P := by
  obtain ⟨r, e, p⟩ := h; exact ⟨r, Ev.ifn hc e, p⟩
theorem Ez.step {α : Type} {f g : Nat → Option α} {P : α → Prop} (h : ∀ k, g (k + 1) = f k) (hf : Ez f P) : Ez g P := by
  obtain ⟨r, e, p⟩ := hf; exact ⟨r, Ev.step h e, p⟩
theorem Ez.mono {α : Type} {f : Nat → Option α} {P Q : α → Prop} (h : Ez f P) (k : ∀ a, P a → Q a) : Ez f Q := by
  obtain ⟨r, e, p⟩ := h; exact ⟨r, e, k r p⟩
theorem i64_and255 (n : Int) : bits .and .i64 n 255 = n % 256 := by
  have h255 : (BitVec.ofInt 64 255).toNat = 2 ^ 8 - 1 := by decide
  have key : (BitVec.ofInt 64 n &&& BitVec.ofInt 64 255).toNat = (n % ((2 ^ 64 : Nat) : Int)).toNat % 2 ^ 8 := by
    rw [BitVec.toNat_and, BitVec.toNat_ofInt, h255, Nat.and_two_pow_sub_one_eq_mod]
  show IntKind.i64.wrap ((BitVec.ofInt 64 n &&& BitVec.ofInt 64 255).toNat : Nat) = n % 256
  rw [key, IntKind.wrap_i64]
  omega
theorem and255_range (n : Int) : 0 ≤ bits .and .i64 n 255 ∧ bits .and .i64 n 255 ≤ 255 := by
  rw [i64_and255]; omega
theorem l1Byte_ok (l : List Int) (i h : Int) (h0 : 0 ≤ i) (hl : l.length ≤ 1048576) : ∃ r, spec_l1Byte.f l i h = some r ∧ 0 ≤ r.1 ∧ r.1 ≤ 255 ∧ 0 ≤ r.2.1 := by
  unfold spec_l1Byte.f
  by_cases c : i < (l.length : Int)
  · rw [if_pos c, if_pos h0]
    exact ⟨_, rfl, (and255_range _).1, (and255_range _).2, by show 0 ≤ wrap64 (i + 1); unfold wrap64; omega⟩
  · rw [if_neg c]
    exact ⟨_, rfl, (and255_range _).1, (and255_range _).2, h0⟩
theorem l1Below_ok (l : List Int) (i h n : Int) (h0 : 0 ≤ i) (hl : l.length ≤ 1048576) (hn : 0 < n) (hn1 : n ≤ 256) : ∃ r, spec_l1Below.f l i h n = some r ∧ 0 ≤ r.1 ∧ r.1 < n ∧ 0 ≤ r.2.1 := by
  obtain ⟨r, e, a, b, c⟩ := l1Byte_ok l i h h0 hl
  unfold spec_l1Below.f
  rw [if_neg (by omega), if_pos hn1, e, Option.bind_some, if_neg (by omega)]
  exact ⟨_, rfl, Int.tmod_nonneg _ a, Int.tmod_lt_of_pos _ hn, c⟩
theorem getD_mem {α : Type} (ls : List α) (d : α) (j : Int) (h0 : 0 ≤ j) (h1 : j < (ls.length : Int)) : ls.getD j.toNat d ∈ ls := by
  rw [List.getD_eq_getElem?_getD, List.getElem?_eq_getElem (show j.toNat < ls.length by omega), Option.getD_some]
  exact List.getElem_mem _
theorem l1Pick_ok (l : List Int) (i h : Int) (ls : List ByteArray) (h0 : 0 ≤ i) (hl : l.length ≤ 1048576) (hn : 0 < ls.length) (hn1 : ls.length ≤ 256) : ∃ r, spec_l1Pick.f l i h ls = some r ∧ r.1 ∈ ls ∧ 0 ≤ r.2.1 := by
  obtain ⟨r, e, a, b, c⟩ := l1Below_ok l i h (ls.length : Int) h0 hl (by omega) (by omega)
  unfold spec_l1Pick.f
  rw [e, Option.bind_some, if_pos a, if_pos b]
  exact ⟨_, rfl, getD_mem ls _ _ a b, c⟩
theorem l1PickInt_ok (l : List Int) (i h : Int) (ls : List Int) (h0 : 0 ≤ i) (hl : l.length ≤ 1048576) (hn : 0 < ls.length) (hn1 : ls.length ≤ 256) : ∃ r, spec_l1PickInt.f l i h ls = some r ∧ r.1 ∈ ls ∧ 0 ≤ r.2.1 := by
  obtain ⟨r, e, a, b, c⟩ := l1Below_ok l i h (ls.length : Int) h0 hl (by omega) (by omega)
  unfold spec_l1PickInt.f
  rw [e, Option.bind_some, if_pos a, if_pos b]
  exact ⟨_, rfl, getD_mem ls _ _ a b, c⟩
theorem l1New_l (l : List Int) (hl : l.length ≤ 1048576) (d : Nat) : ∀ (i h : Int), 0 ≤ i → l.length - i.toNat = d → Ez (fun k => spec_l1New.l0 k l h i) (fun r => r.1 = l ∧ r.2.1 = 0) := by
  induction d with
  | zero =>
    intro i h h0 hd
    refine Ez.step (fun k => by simp only [spec_l1New.l0]; rfl) (Ez.ifn (by omega) (Ez.now ⟨rfl, rfl⟩))
  | succ d ih =>
    intro i h h0 hd
    refine Ez.step (fun k => by simp only [spec_l1New.l0]; rfl) (Ez.ifp (by omega) ?_)
    by_cases c : i < 4000
    · refine Ez.ifp c (Ez.ifp h0 ?_)
      have hw : wrap64 (i + 1) = i + 1 := by unfold wrap64; omega
      rw [hw]
      exact ih (i + 1) _ (by omega) (by omega)
    · exact Ez.ifn c (Ez.now ⟨rfl, rfl⟩)
theorem l1New_ok (l : List Int) (hl : l.length ≤ 1048576) : Ez (fun k => spec_l1New.f k l) (fun r => r.1 = l ∧ r.2.1 = 0) :=
  l1New_l l hl _ 0 _ (by omega) rfl
theorem pick_size {ls : List ByteArray} {m : Nat} (h : ls.all (fun x => decide (x.size ≤ m)) = true) {x : ByteArray} (hx : x ∈ ls) : x.size ≤ m := by
  have := List.all_eq_true.mp h x hx
  simpa using this
theorem pick_long {ls : List ByteArray} {m : Nat} (h : ls.all (fun x => decide (m ≤ x.size)) = true) {x : ByteArray} (hx : x ∈ ls) : m ≤ x.size := by
  have := List.all_eq_true.mp h x hx
  simpa using this
theorem l4DrawTag_l (l : List Int) (hl : l.length ≤ 1048576) (d : Nat) : ∀ (x3 : ByteArray) (x4 i h : Int), 0 ≤ x4 → x4 ≤ 5 → 0 ≤ i → (5 - x4).toNat = d → 2 ≤ x3.size → (x3.size : Int) ≤ 20 + 20 * x4 →
    Ez (fun k => spec_l4DrawTag.l0 k x3 x4 l i h) (fun r => 2 ≤ r.1.size ∧ r.1.size ≤ 200 ∧ 0 ≤ r.2.1) := by
  induction d with
  | zero =>
    intro x3 x4 i h h0 h5 hi hd hs2 hs
    refine Ez.step (fun k => by simp only [spec_l4DrawTag.l0]; rfl) (Ez.bindc (l1Below_ok l i h 5 hi hl (by omega) (by omega)) ?_)
    intro a ⟨a0, a1, a2⟩
    refine Ez.ifn (by omega) (Ez.bindc (l1Pick_ok l _ _ _ a2 hl (by decide) (by decide)) ?_)
    intro b ⟨hb, b2⟩
    have hz := pick_size (m := 3) (by decide) hb
    refine Ez.ifp (by omega) (Ez.now ⟨?_, ?_, b2⟩)
    · show 2 ≤ (x3 ++ b.1).size; rw [ByteArray.size_append]; omega
    · show (x3 ++ b.1).size ≤ 200; rw [ByteArray.size_append]; omega
  | succ d ih =>
    intro x3 x4 i h h0 h5 hi hd hs2 hs
    refine Ez.step (fun k => by simp only [spec_l4DrawTag.l0]; rfl) (Ez.bindc (l1Below_ok l i h 5 hi hl (by omega) (by omega)) ?_)
    intro a ⟨a0, a1, a2⟩
    by_cases c : x4 < a.1
    · refine Ez.ifp c (Ez.bindc (l1Pick_ok l _ _ _ a2 hl (by decide) (by decide)) ?_)
      intro b ⟨hb, b2⟩
      have hz := pick_size (m := 11) (by decide) hb
      refine Ez.ifp (by omega) ?_
      have hw : wrap64 (x4 + 1) = x4 + 1 := by unfold wrap64; omega
      rw [hw]
      refine ih (x3 ++ b.1) (x4 + 1) b.2.1 b.2.2 (by omega) (by omega) b2 (by omega) ?_ ?_
      · rw [ByteArray.size_append]; omega
      · rw [ByteArray.size_append]; omega
    · refine Ez.ifn c (Ez.bindc (l1Pick_ok l _ _ _ a2 hl (by decide) (by decide)) ?_)
      intro b ⟨hb, b2⟩
      have hz := pick_size (m := 3) (by decide) hb
      refine Ez.ifp (by omega) (Ez.now ⟨?_, ?_, b2⟩)
      · show 2 ≤ (x3 ++ b.1).size; rw [ByteArray.size_append]; omega
      · show (x3 ++ b.1).size ≤ 200; rw [ByteArray.size_append]; omega
theorem l4DrawTag_ok (l : List Int) (hl : l.length ≤ 1048576) (i h : Int) (hi : 0 ≤ i) : Ez (fun k => spec_l4DrawTag.f k l i h) (fun r => 2 ≤ r.1.size ∧ r.1.size ≤ 200 ∧ 0 ≤ r.2.1) := by
  unfold spec_l4DrawTag.f
  refine Ez.bindc (l1Pick_ok l i h _ hi hl (by decide) (by decide)) ?_
  intro b ⟨hb, b2⟩
  have hz := pick_size (m := 20) (by decide) hb
  have hy := pick_long (m := 2) (by decide) hb
  exact l4DrawTag_l l hl _ b.1 0 b.2.1 b.2.2 (by omega) (by omega) b2 rfl hy (by omega)
theorem drawTagEnd_ok (l : List Int) (hl : l.length ≤ 1048576) : Ez (fun k => spec_DrawTagEnd.f k l) (fun r => r.1.size ≤ 1000 ∧ -1 ≤ r.2 ∧ r.2 ≤ 1000) := by
  unfold spec_DrawTagEnd.f
  refine Ez.bind (l1New_ok l hl) ?_
  rintro ⟨l', i, h⟩ ⟨rfl, rfl⟩
  refine Ez.bindc (l1Pick_ok _ _ _ _ (Int.le_refl 0) hl (by decide) (by decide)) ?_
  intro a ⟨ha, a2⟩
  have hz := pick_size (m := 1) (by decide) ha
  refine Ez.bind (l4DrawTag_ok _ hl _ _ a2) ?_
  intro b ⟨b0, b1, b2⟩
  have hs : (a.1 ++ b.1).size = a.1.size + b.1.size := ByteArray.size_append
  refine Ez.ifp (by omega) (Ez.bindc (l1PickInt_ok _ _ _ _ b2 hl (by simp) (by simp)) ?_)
  intro c ⟨hc, c2⟩
  refine Ez.now ⟨?_, ?_⟩
  · show (a.1 ++ b.1).size ≤ 1000; omega
  · show -1 ≤ c.1 ∧ c.1 ≤ 1000
    simp only [List.mem_cons, List.not_mem_nil, or_false] at hc
    omega
theorem drawAttrs_ok (l : List Int) (hl : l.length ≤ 1048576) : Ez (fun k => spec_DrawAttrs.f k l) (fun r => r.size ≤ 1000) := by
  unfold spec_DrawAttrs.f
  refine Ez.bind (l1New_ok l hl) ?_
  rintro ⟨l', i, h⟩ ⟨rfl, rfl⟩
  refine Ez.bind (l4DrawTag_ok _ hl _ _ (Int.le_refl 0)) ?_
  intro b ⟨b0, b1, b2⟩
  refine Ez.ifp (by omega) (Ez.now ?_)
  rw [ByteArray.size_extract]
  omega
def rawWords : List ByteArray := [(⟨#[115, 99, 114, 105, 112, 116]⟩ : ByteArray), (⟨#[115, 116, 121, 108, 101]⟩ : ByteArray), (⟨#[116, 105, 116, 108, 101]⟩ : ByteArray), (⟨#[116, 101, 120, 116, 97, 114, 101, 97]⟩ : ByteArray), (⟨#[112]⟩ : ByteArray), (⟨#[]⟩ : ByteArray), (⟨#[83, 99, 114, 105, 112, 116]⟩ : ByteArray)]
theorem drawRaw_ok (l : List Int) (hl : l.length ≤ 1048576) : Ez (fun k => spec_DrawRaw.f k l) (fun r => r ∈ rawWords) := by
  unfold spec_DrawRaw.f
  refine Ez.bind (l1New_ok l hl) ?_
  rintro ⟨l', i, h⟩ ⟨rfl, rfl⟩
  refine Ez.bindc (l1Pick_ok _ _ _ _ (Int.le_refl 0) hl (by decide) (by decide)) ?_
  intro a ⟨ha, a2⟩
  exact Ez.now ha
theorem drawRawEnd_l (l : List Int) (hl : l.length ≤ 1048576) (d : Nat) : ∀ (x6 : ByteArray) (x7 i h : Int), 0 ≤ x7 → x7 ≤ 5 → 0 ≤ i → (5 - x7).toNat = d → (x6.size : Int) ≤ 20 * x7 →
    Ez (fun k => spec_DrawRawEnd.l0 k x6 x7 l i h) (fun r => r.1.size ≤ 1000 ∧ -1 ≤ r.2.1 ∧ r.2.1 ≤ 1000 ∧ r.2.2.size ≤ 1000) := by
  induction d with
  | zero =>
    intro x6 x7 i h h0 h5 hi hd hs
    refine Ez.step (fun k => by simp only [spec_DrawRawEnd.l0]; rfl) (Ez.bindc (l1Below_ok l i h 5 hi hl (by omega) (by omega)) ?_)
    intro a ⟨a0, a1, a2⟩
    refine Ez.ifn (by omega) (Ez.bindc (l1PickInt_ok l _ _ _ a2 hl (by decide) (by decide)) ?_)
    intro b ⟨hb, b2⟩
    refine Ez.bindc (l1Pick_ok l _ _ _ b2 hl (by decide) (by decide)) ?_
    intro c ⟨hc, c2⟩
    have hz := pick_size (m := 10) (by decide) hc
    simp only [List.mem_cons, List.not_mem_nil, or_false] at hb
    exact Ez.now ⟨by show x6.size ≤ 1000; omega, by show -1 ≤ b.1; omega, by show b.1 ≤ 1000; omega, by show c.1.size ≤ 1000; omega⟩
  | succ d ih =>
    intro x6 x7 i h h0 h5 hi hd hs
    refine Ez.step (fun k => by simp only [spec_DrawRawEnd.l0]; rfl) (Ez.bindc (l1Below_ok l i h 5 hi hl (by omega) (by omega)) ?_)
    intro a ⟨a0, a1, a2⟩
    by_cases c : x7 < a.1
    · refine Ez.ifp c (Ez.bindc (l1Pick_ok l _ _ _ a2 hl (by decide) (by decide)) ?_)
      intro b ⟨hb, b2⟩
      have hz := pick_size (m := 11) (by decide) hb
      refine Ez.ifp (by omega) ?_
      have hw : wrap64 (x7 + 1) = x7 + 1 := by unfold wrap64; omega
      rw [hw]
      refine ih (x6 ++ b.1) (x7 + 1) b.2.1 b.2.2 (by omega) (by omega) b2 (by omega) ?_
      rw [ByteArray.size_append]; omega
    · refine Ez.ifn c (Ez.bindc (l1PickInt_ok l _ _ _ a2 hl (by decide) (by decide)) ?_)
      intro b ⟨hb, b2⟩
      refine Ez.bindc (l1Pick_ok l _ _ _ b2 hl (by decide) (by decide)) ?_
      intro c ⟨hc, c2⟩
      have hz := pick_size (m := 10) (by decide) hc
      simp only [List.mem_cons, List.not_mem_nil, or_false] at hb
      exact Ez.now ⟨by show x6.size ≤ 1000; omega, by show -1 ≤ b.1; omega, by show b.1 ≤ 1000; omega, by show c.1.size ≤ 1000; omega⟩
theorem drawRawEnd_ok (l : List Int) (hl : l.length ≤ 1048576) : Ez (fun k => spec_DrawRawEnd.f k l) (fun r => r.1.size ≤ 1000 ∧ -1 ≤ r.2.1 ∧ r.2.1 ≤ 1000 ∧ r.2.2.size ≤ 1000) := by
  unfold spec_DrawRawEnd.f
  refine Ez.bind (l1New_ok l hl) ?_
  rintro ⟨l', i, h⟩ ⟨rfl, rfl⟩
  exact drawRawEnd_l _ hl _ _ 0 0 _ (by omega) (by omega) (by omega) rfl (by decide)
end Go.Proofs.Ytlocaaebgghkbaa.A
namespace Go.Proofs.Ytlocaaebgghkbaa.A
open Go.RowKit Go.Proofs.YtlocaaebgghkbaaW.PrintWords Go.Proofs.YtlocaaebgghkbaaW.PrintLast Go.Proofs.YtlocaaebgghkbaaW.PrintMore
set_option linter.unusedVariables false
theorem w1 {i : Int} {n : Nat} (h0 : 0 ≤ i) (h1 : i ≤ (n : Int)) (hm : n ≤ 140737488351232) : wrap64 (i + 1) = i + 1 := by unfold wrap64; omega
theorem l4Blank_f (c : Int) (h0 : 0 ≤ c) (h1 : c ≤ 255) : spec_l4Blank.f c = some (blk c) := by
  have hw : wrap64 c = c := by unfold wrap64; omega
  unfold spec_l4Blank.f spec_IsBlank.f blk
  rw [hw]
  by_cases a1 : c = 9
  · simp [a1]
  by_cases a2 : c = 10
  · simp [a2]
  by_cases a3 : c = 12
  · simp [a3]
  by_cases a4 : c = 13
  · simp [a4]
  simp [a1, a2, a3, a4]
theorem l4Blanks_l (s : ByteArray) (hm : s.size ≤ 140737488351232) (d : Nat) : ∀ (k : Nat) (i : Int), 0 ≤ i → i ≤ s.size → ((s.size : Int) - i).toNat = d → d < k → spec_l4Blanks.l0 k s i = some (pastB s i) := by
  induction d with
  | zero =>
    intro k i h0 h1 hd hk
    obtain ⟨k, rfl⟩ : ∃ m, k = m + 1 := ⟨k - 1, by omega⟩
    simp only [spec_l4Blanks.l0]
    rw [if_neg (by omega), pastB_stop (.inl (by omega))]
  | succ d ih =>
    intro k i h0 h1 hd hk
    obtain ⟨k, rfl⟩ : ∃ m, k = m + 1 := ⟨k - 1, by omega⟩
    have hr := bt_range s i
    simp only [spec_l4Blanks.l0]
    rw [if_pos (by omega), if_pos h0, l4Blank_f _ hr.1 hr.2]
    simp only [Option.bind_some]
    by_cases c1 : blk (bt s i) = true
    · rw [if_pos c1, w1 h0 h1 hm, pastB_go (by omega) c1]
      exact ih k (i + 1) (by omega) (by omega) (by omega) (by omega)
    · rw [if_neg c1, pastB_stop (.inr (by simpa using c1))]
theorem l4Skip_l (s : ByteArray) (hm : s.size ≤ 140737488351232) (d : Nat) : ∀ (k : Nat) (i : Int) (b : Bool), 0 ≤ i → i ≤ s.size → ((s.size : Int) - i).toNat = d → d < k → spec_l4Skip.l0 k s i = some (sepF s true i b).1 := by
  induction d with
  | zero =>
    intro k i b h0 h1 hd hk
    obtain ⟨k, rfl⟩ : ∃ m, k = m + 1 := ⟨k - 1, by omega⟩
    simp only [spec_l4Skip.l0]
    rw [if_neg (by omega), sepF_stop (.inl (by omega))]
  | succ d ih =>
    intro k i b h0 h1 hd hk
    obtain ⟨k, rfl⟩ : ∃ m, k = m + 1 := ⟨k - 1, by omega⟩
    have hr := bt_range s i
    have hlt : i < (s.size : Int) := by omega
    simp only [spec_l4Skip.l0]
    rw [if_pos hlt, if_pos h0, l4Blank_f _ hr.1 hr.2]
    simp only [Option.bind_some]
    by_cases c1 : blk (bt s i) = true
    · have ho : ovr s i true = false := by
        have : bt s i ≠ 62 := fun h => by rw [h] at c1; exact absurd c1 (by decide)
        simp [ovr, this]; omega
      rw [if_pos c1, w1 h0 h1 hm, sepF_go hlt ho (.inl c1)]
      exact ih k (i + 1) _ (by omega) (by omega) (by omega) (by omega)
    rw [if_neg c1]
    by_cases c2 : bt s i = 47
    · have ho : ovr s i true = false := by simp [ovr, c2]; omega
      rw [if_pos c2, w1 h0 h1 hm, sepF_go hlt ho (.inr c2)]
      exact ih k (i + 1) _ (by omega) (by omega) (by omega) (by omega)
    · rw [if_neg c2, sepF_stop (.inr (fun h => h.2.elim c1 c2))]
theorem l4Name_l (s : ByteArray) (f : Int) (e : Bool) (hm : s.size ≤ 140737488351232) (d : Nat) : ∀ (k : Nat) (i : Int), 0 ≤ i → f ≤ i → i ≤ s.size → ((s.size : Int) - i).toNat = d → d < k → spec_l4Name.l0 k s f e i = some (nmF s e f i) := by
  induction d with
  | zero =>
    intro k i h0 hf h1 hd hk
    obtain ⟨k, rfl⟩ : ∃ m, k = m + 1 := ⟨k - 1, by omega⟩
    simp only [spec_l4Name.l0]
    rw [if_neg (by omega), nmF_stop (.inl (by omega))]
  | succ d ih =>
    intro k i h0 hf h1 hd hk
    obtain ⟨k, rfl⟩ : ∃ m, k = m + 1 := ⟨k - 1, by omega⟩
    have hr := bt_range s i
    have hlt : i < (s.size : Int) := by omega
    simp only [spec_l4Name.l0]
    rw [if_pos hlt, if_pos h0, l4Blank_f _ hr.1 hr.2]
    simp only [Option.bind_some]
    have goon : ovr s i e = false → inNm s f i = true → spec_l4Name.l0 k s f e (wrap64 (i + 1)) = some (nmF s e f i) := fun ho hi => by
      rw [w1 h0 h1 hm, nmF_go hlt ho hi]; exact ih k (i + 1) (by omega) (by omega) (by omega) (by omega) (by omega)
    by_cases c1 : blk (bt s i) = true
    · rw [if_pos c1, nmF_stop (.inr (by simp [inNm, c1]))]
    rw [if_neg c1]
    have c1' : blk (bt s i) = false := by simpa using c1
    by_cases c2 : bt s i = 47
    · rw [if_pos c2, nmF_stop (.inr (by simp [inNm, c2]))]
    rw [if_neg c2]
    have hov : ∀ b, e = b → ovr s i e = (b && bt s i == 62) := fun b hb => by
      have : decide ((s.size : Int) ≤ i) = false := decide_eq_false (by omega)
      subst hb; simp only [ovr, this, Bool.false_or]
    by_cases c3 : bt s i = 61
    · rw [if_pos c3]
      have h62 : ¬ ((bt s i) = 62) := by omega
      have ho : ovr s i e = false := by rw [hov e rfl]; simp [c3]
      by_cases c4 : i = f
      · have hi : inNm s f i = true := by
          have : decide (f < i) = false := decide_eq_false (by omega)
          simp only [inNm, c1', c3, this]; rfl
        rw [if_pos c4]
        cases e
        · rw [if_neg (by simp)]; exact goon ho hi
        · rw [if_pos rfl, if_neg h62]; exact goon ho hi
      · rw [if_neg c4, nmF_stop (.inr (fun h => by
          have : decide (f < i) = true := decide_eq_true (by omega)
          have h2 := h.2
          simp only [inNm, c1', c3, this] at h2
          exact absurd h2 (by decide)))]
    · rw [if_neg c3]
      have hi : inNm s f i = true := by simp [inNm, c1', c2, c3]
      cases e
      · rw [if_neg (by simp)]; exact goon (by rw [hov false rfl]; rfl) hi
      · rw [if_pos rfl]
        by_cases h62 : bt s i = 62
        · rw [if_pos h62, nmF_stop (.inr (fun h => by have h1 := h.1; rw [hov true rfl, h62] at h1; exact absurd h1 (by decide)))]
        · rw [if_neg h62]; exact goon (by rw [hov true rfl]; simp [h62]) hi
theorem l4Plain_l (s : ByteArray) (e : Bool) (hm : s.size ≤ 140737488351232) (d : Nat) : ∀ (k : Nat) (i : Int), 0 ≤ i → i ≤ s.size → ((s.size : Int) - i).toNat = d → d < k → spec_l4Plain.l0 k s i e = some (plF s e i) := by
  induction d with
  | zero =>
    intro k i h0 h1 hd hk
    obtain ⟨k, rfl⟩ : ∃ m, k = m + 1 := ⟨k - 1, by omega⟩
    simp only [spec_l4Plain.l0]
    rw [if_neg (by omega), plF_stop (fun h => by have := ovr_lt h.1; omega)]
  | succ d ih =>
    intro k i h0 h1 hd hk
    obtain ⟨k, rfl⟩ : ∃ m, k = m + 1 := ⟨k - 1, by omega⟩
    have hr := bt_range s i
    have hlt : i < (s.size : Int) := by omega
    simp only [spec_l4Plain.l0]
    rw [if_pos hlt, if_pos h0, l4Blank_f _ hr.1 hr.2]
    simp only [Option.bind_some]
    have hd0 : decide ((s.size : Int) ≤ i) = false := decide_eq_false (by omega)
    by_cases c1 : blk (bt s i) = true
    · rw [if_pos c1, plF_stop (by rw [c1]; simp)]
    rw [if_neg c1]
    have c1' : blk (bt s i) = false := by simpa using c1
    cases e
    · have ho : ovr s i false = false := by simp only [ovr, hd0]; rfl
      rw [if_neg (by simp), w1 h0 h1 hm, plF_go hlt ho c1']
      exact ih k (i + 1) (by omega) (by omega) (by omega) (by omega)
    · rw [if_pos rfl]
      by_cases h62 : bt s i = 62
      · rw [if_pos h62, plF_stop (fun h => by have h1 := h.1; simp only [ovr, hd0, h62] at h1; exact absurd h1 (by decide))]
      · have ho : ovr s i true = false := by simp [ovr, hd0, h62]
        rw [if_neg h62, w1 h0 h1 hm, plF_go hlt ho c1']
        exact ih k (i + 1) (by omega) (by omega) (by omega) (by omega)
def fndF (s : ByteArray) (i c : Int) : Int :=
  if i < (s.size : Int) then if bt s i = c then i else fndF s (i + 1) c else -1
termination_by ((s.size : Int) - i).toNat
decreasing_by omega
theorem l4Find_l (s : ByteArray) (c : Int) (hm : s.size ≤ 140737488351232) (d : Nat) : ∀ (k : Nat) (i : Int), 0 ≤ i → i ≤ s.size → ((s.size : Int) - i).toNat = d → d < k → spec_l4Find.l0 k s i c = some (fndF s i c) := by
  induction d with
  | zero =>
    intro k i h0 h1 hd hk
    obtain ⟨k, rfl⟩ : ∃ m, k = m + 1 := ⟨k - 1, by omega⟩
    simp only [spec_l4Find.l0]
    rw [if_neg (by omega), fndF, if_neg (by omega)]
  | succ d ih =>
    intro k i h0 h1 hd hk
    obtain ⟨k, rfl⟩ : ∃ m, k = m + 1 := ⟨k - 1, by omega⟩
    have hlt : i < (s.size : Int) := by omega
    simp only [spec_l4Find.l0]
    rw [if_pos hlt, if_pos h0, fndF, if_pos hlt]
    by_cases c1 : bt s i = c
    · rw [if_pos c1, if_pos c1]
    · rw [if_neg c1, if_neg c1, w1 h0 h1 hm]
      exact ih k (i + 1) (by omega) (by omega) (by omega) (by omega)
end Go.Proofs.Ytlocaaebgghkbaa.A
namespace Go.Proofs.Ytlocaaebgghkbaa.A
open Go.RowKit Go.Proofs.YtlocaaebgghkbaaW.PrintWords Go.Proofs.YtlocaaebgghkbaaW.PrintLast Go.Proofs.YtlocaaebgghkbaaW.PrintMore
set_option linter.unusedVariables false
theorem extract_list (s : ByteArray) (a b : Nat) : (s.extract a b).data.toList = (s.data.toList.drop a).take (b - a) := by
  rw [ByteArray.data_extract, Array.toList_extract, List.extract_eq_take_drop]
theorem extract_end (s : ByteArray) (a : Nat) : (s.extract a s.size).data.toList = s.data.toList.drop a := by
  rw [extract_list, List.take_of_length_le (by rw [List.length_drop, data_length]; omega)]
theorem drop_cons (s : ByteArray) (i : Nat) (h : i < s.size) : s.data.toList.drop i = s[i] :: s.data.toList.drop (i + 1) := by
  have h' : i < s.data.toList.length := by rw [data_length]; exact h
  rw [List.drop_eq_getElem_cons h']
  rfl
theorem fnd_ix (s : ByteArray) (c : Int) (hc0 : 0 ≤ c) (hc1 : c ≤ 255) (d : Nat) : ∀ (i : Int), 0 ≤ i → i ≤ s.size → ((s.size : Int) - i).toNat = d →
    fndF s i c = if Lib.indexByte (s.data.toList.drop i.toNat) c.toNat.toUInt8 < 0 then -1 else i + Lib.indexByte (s.data.toList.drop i.toNat) c.toNat.toUInt8 := by
  induction d with
  | zero =>
    intro i h0 h1 hd
    rw [fndF, if_neg (by omega), List.drop_of_length_le (by rw [data_length]; omega)]
    rfl
  | succ d ih =>
    intro i h0 h1 hd
    have hlt : i < (s.size : Int) := by omega
    have hn : i.toNat < s.size := by omega
    have hb := bt_at s i hn
    rw [fndF, if_pos hlt, drop_cons s i.toNat hn]
    have e1 : (i + 1).toNat = i.toNat + 1 := by omega
    have ih1 := ih (i + 1) (by omega) (by omega) (by omega)
    rw [e1] at ih1
    have hge := Lib.indexByte_ge (s.data.toList.drop (i.toNat + 1)) c.toNat.toUInt8
    generalize hx : Lib.indexByte (s.data.toList.drop (i.toNat + 1)) c.toNat.toUInt8 = x at *
    have hcc : (c.toNat.toUInt8.toNat : Int) = c := by
      have : c.toNat.toUInt8.toNat = c.toNat := by simp; omega
      omega
    unfold Lib.indexByte
    by_cases h : bt s i = c
    · have hs : s[i.toNat] = c.toNat.toUInt8 := by
        apply UInt8.toNat_inj.mp
        have h9 : (s[i.toNat].toNat : Int) = c.toNat.toUInt8.toNat := by rw [hcc, ← h]; exact hb
        exact Int.ofNat.inj h9
      rw [if_pos h, hs]; simp
    · have hs : ¬ s[i.toNat] = c.toNat.toUInt8 := fun he => h (by rw [← hb, he, hcc])
      rw [if_neg h, ih1, hx]
      simp only [beq_iff_eq, if_neg hs]
      by_cases hm1 : x = -1
      · subst hm1; simp
      · rw [if_neg hm1, if_neg (by omega), if_neg (by omega)]; omega
theorem nm_more {s : ByteArray} {j : Int} (h : j < (s.size : Int)) (ho : ovr s j true = false) (h1 : blk (bt s j) = false) (h2 : bt s j ≠ 47) : nmF s true j j = nmF s true j (j + 1) := by
  refine nmF_go h ho ?_
  have : decide (j < j) = false := decide_eq_false (by omega)
  simp [inNm, h1, h2]
theorem nmF_le {s : ByteArray} {e : Bool} {f : Int} : ∀ (d : Nat) (k : Int), ((s.size : Int) - k).toNat = d → k ≤ s.size → k ≤ nmF s e f k ∧ nmF s e f k ≤ s.size := by
  intro d
  induction d with
  | zero => intro k hd hk; rw [nmF_stop (.inl (by omega))]; omega
  | succ d ih =>
    intro k hd hk
    by_cases h : ovr s k e = false ∧ inNm s f k = true
    · rw [nmF_go (by omega) h.1 h.2]
      have := ih (k + 1) (by omega) (by omega)
      omega
    · rw [nmF_stop (.inr h)]; omega
theorem plF_le {s : ByteArray} {e : Bool} : ∀ (d : Nat) (k : Int), ((s.size : Int) - k).toNat = d → k ≤ s.size → k ≤ plF s e k ∧ plF s e k ≤ s.size := by
  intro d
  induction d with
  | zero => intro k hd hk; rw [plF_stop (fun h => by have := ovr_lt h.1; omega)]; omega
  | succ d ih =>
    intro k hd hk
    by_cases h : ovr s k e = false ∧ blk (bt s k) = false
    · rw [plF_go (by omega) h.1 h.2]
      have := ih (k + 1) (by omega) (by omega)
      omega
    · rw [plF_stop h]; omega
theorem sep_at {s : ByteArray} {e : Bool} : ∀ (d : Nat) (k : Int) (sl : Bool), ((s.size : Int) - k).toNat = d → k ≤ s.size → ovr s (sepF s e k sl).1 e = false → blk (bt s (sepF s e k sl).1) = false ∧ bt s (sepF s e k sl).1 ≠ 47 := by
  intro d
  induction d with
  | zero => intro k sl hd hk ho; rw [sepF_stop (.inl (by omega))] at ho; have := ovr_lt ho; simp only at this; omega
  | succ d ih =>
    intro k sl hd hk ho
    by_cases h : ovr s k e = false ∧ (blk (bt s k) = true ∨ bt s k = 47)
    · rw [sepF_go (by omega) h.1 h.2] at ho ⊢
      exact ih _ _ (by omega) (by omega) ho
    · rw [sepF_stop (.inr h)] at ho ⊢
      simp only at ho ⊢
      exact ⟨by cases hb : blk (bt s k) with
        | false => rfl
        | true => exact absurd ⟨ho, .inl hb⟩ h, fun he => h ⟨ho, .inr he⟩⟩
theorem quoted_f (s : ByteArray) (k : Int) (e sl : Bool) (hm : s.size ≤ 140737488351232) (h0 : 0 ≤ k) (h1 : k < (s.size : Int)) :
    impl_tagger_quoted.f s k e sl = if fndF s (k + 1) (bt s k) < 0 then some (s.extract (k + 1).toNat s.size, false, s, (s.size : Int), e, sl)
      else some (s.extract (k + 1).toNat (fndF s (k + 1) (bt s k)).toNat, true, s, fndF s (k + 1) (bt s k) + 1, e, sl) := by
  have hw := w1 (n := s.size) h0 (by omega) hm
  have hr := bt_range s k
  unfold impl_tagger_quoted.f strings_IndexByte.f
  rw [hw, if_pos h0, if_pos h1, if_pos (by omega), if_pos (by omega), extract_end]
  simp only [Option.bind_some]
  have hf := fnd_ix s (bt s k) hr.1 hr.2 _ (k + 1) (by omega) (by omega) rfl
  have hub : Lib.indexByte (s.data.toList.drop (k + 1).toNat) (bt s k).toNat.toUInt8 < 0 ∨ (k + 1) + Lib.indexByte (s.data.toList.drop (k + 1).toNat) (bt s k).toNat.toUInt8 < s.size := by
    by_cases hn : Lib.indexByte (s.data.toList.drop (k + 1).toNat) (bt s k).toNat.toUInt8 < 0
    · exact .inl hn
    · obtain ⟨o, ho⟩ : ∃ o : Nat, Lib.indexByte (s.data.toList.drop (k + 1).toNat) (bt s k).toNat.toUInt8 = o := ⟨_, (Int.toNat_of_nonneg (by omega)).symm⟩
      have h9 := (Lib.indexByte_some ho).1
      have h8 : o < (s.data.toList.drop (k + 1).toNat).length := by
        rcases Nat.lt_or_ge o (s.data.toList.drop (k + 1).toNat).length with h | h
        · exact h
        · rw [List.getElem?_eq_none h] at h9; cases h9
      rw [List.length_drop, data_length] at h8
      right; rw [ho]; omega
  generalize Lib.indexByte (s.data.toList.drop (k + 1).toNat) (bt s k).toNat.toUInt8 = x at *
  by_cases hx : x < 0
  · rw [if_pos hx] at hf
    rw [if_pos hx, hf, if_pos (by omega)]
  · rw [if_neg hx] at hf
    have h7 := hub.resolve_left hx
    have e1 : wrap64 (k + 1 + x) = k + 1 + x := by unfold wrap64; omega
    have e2 : wrap64 (k + 1 + x + 1) = k + 1 + x + 1 := by unfold wrap64; omega
    rw [if_neg hx, hf, e1, e2, if_pos (by omega), if_pos (by omega), if_neg (by omega)]
theorem ev_skip (s : ByteArray) (hm : s.size ≤ 140737488351232) (i : Int) (b : Bool) (h0 : 0 ≤ i) (h1 : i ≤ s.size) : Ev (fun k => spec_l4Skip.f k s i) (sepF s true i b).1 :=
  Ev.of (spec_l4Skip.mono s i) (k := ((s.size : Int) - i).toNat + 1) (l4Skip_l s hm _ _ i b h0 h1 rfl (Nat.lt_succ_self _))
theorem ev_blanks (s : ByteArray) (hm : s.size ≤ 140737488351232) (i : Int) (h0 : 0 ≤ i) (h1 : i ≤ s.size) : Ev (fun k => spec_l4Blanks.f k s i) (pastB s i) :=
  Ev.of (spec_l4Blanks.mono s i) (k := ((s.size : Int) - i).toNat + 1) (l4Blanks_l s hm _ _ i h0 h1 rfl (Nat.lt_succ_self _))
theorem ev_name (s : ByteArray) (hm : s.size ≤ 140737488351232) (i : Int) (e : Bool) (h0 : 0 ≤ i) (h1 : i ≤ s.size) : Ev (fun k => spec_l4Name.f k s i e) (nmF s e i i) :=
  Ev.of (spec_l4Name.mono s i e) (k := ((s.size : Int) - i).toNat + 1) (l4Name_l s i e hm _ _ i h0 (Int.le_refl _) h1 rfl (Nat.lt_succ_self _))
theorem ev_plain (s : ByteArray) (hm : s.size ≤ 140737488351232) (i : Int) (e : Bool) (h0 : 0 ≤ i) (h1 : i ≤ s.size) : Ev (fun k => spec_l4Plain.f k s i e) (plF s e i) :=
  Ev.of (spec_l4Plain.mono s i e) (k := ((s.size : Int) - i).toNat + 1) (l4Plain_l s e hm _ _ i h0 h1 rfl (Nat.lt_succ_self _))
theorem ev_find (s : ByteArray) (hm : s.size ≤ 140737488351232) (i c : Int) (h0 : 0 ≤ i) (h1 : i ≤ s.size) : Ev (fun k => spec_l4Find.f k s i c) (fndF s i c) :=
  Ev.of (spec_l4Find.mono s i c) (k := ((s.size : Int) - i).toNat + 1) (l4Find_l s c hm _ _ i h0 h1 rfl (Nat.lt_succ_self _))
theorem fnd_le {s : ByteArray} {c : Int} : ∀ (d : Nat) (k : Int), ((s.size : Int) - k).toNat = d → 0 ≤ k → ¬ fndF s k c < 0 → k ≤ fndF s k c ∧ fndF s k c < s.size := by
  intro d
  induction d with
  | zero => intro k hd h0 h; rw [fndF, if_neg (by omega)] at h; omega
  | succ d ih =>
    intro k hd h0 h
    rw [fndF, if_pos (by omega)] at h ⊢
    by_cases hc : bt s k = c
    · rw [if_pos hc]; omega
    · rw [if_neg hc] at h ⊢
      have := ih (k + 1) (by omega) (by omega) h
      omega
end Go.Proofs.Ytlocaaebgghkbaa.A
namespace Go.Proofs.Ytlocaaebgghkbaa.A
open Go.RowKit Go.Proofs.YtlocaaebgghkbaaW.PrintWords Go.Proofs.YtlocaaebgghkbaaW.PrintLast Go.Proofs.YtlocaaebgghkbaaW.PrintMore
set_option linter.unusedVariables false
def numF (n : Int) : Int := if 128 ≤ n ∧ n ≤ 159 then rd numL (n - 128) else if n = 0 then 65533 else if signOk n = true then n else 65533
theorem implNumbered_f (n : Int) : impl_Numbered.f n = some (numF n) := by
  unfold impl_Numbered.f numF
  by_cases h : 128 ≤ n ∧ n ≤ 159
  · rw [if_pos h, if_pos h]
  · rw [if_neg h, if_neg h]
    by_cases h0 : n = 0
    · rw [if_pos h0, if_pos h0]
    · rw [if_neg h0, if_neg h0, implSignOk_f, Option.bind_some]
      by_cases hs : signOk n = true
      · rw [if_pos hs, if_pos hs]
      · rw [if_neg hs, if_neg hs]
theorem specNumbered_f (k : Nat) (n : Int) : spec_Numbered.f (k + 1) n = some (numF n) := by
  unfold spec_Numbered.f numF
  simp only [Option.bind_some, spec_Numbered.j0, l1In_f, specSignOk_f]
  by_cases h0 : n = 0
  · subst h0; rfl
  · rw [if_neg h0, if_neg h0]
    by_cases h : 128 ≤ n ∧ n ≤ 159
    · have hs : signOk n = true := by simp [signOk]; omega
      have hw : wrap64 (n - 128) = n - 128 := by unfold wrap64; omega
      rw [if_pos h, hs, if_neg (by simp), if_pos (decide_eq_true h), hw, if_pos (by omega), if_pos (by show n - 128 < 32; omega)]
      rfl
    · rw [if_neg h, if_neg (show ¬ (decide (128 ≤ n ∧ n ≤ 159) = true) by simpa using h)]
      cases signOk n <;> rfl
end Go.Proofs.Ytlocaaebgghkbaa.A
namespace Go.Proofs.Ytlocaaebgghkbaa.A
open Go.RowKit Go.Proofs.YtlocaaebgghkbaaW.PrintWords Go.Proofs.YtlocaaebgghkbaaW.PrintLast Go.Proofs.YtlocaaebgghkbaaW.PrintMore
set_option linter.unusedVariables false
def digF (b : Int) (hex : Bool) : Int := if 48 ≤ b ∧ b ≤ 57 then b - 48 else if hex = true ∧ 97 ≤ b ∧ b ≤ 102 then b - 87 else if hex = true ∧ 65 ≤ b ∧ b ≤ 70 then b - 55 else -1
def bas (hex : Bool) : Int := if hex = true then 16 else 10
theorem digF_range (b : Int) (hex : Bool) : -1 ≤ digF b hex ∧ digF b hex ≤ 15 := by
  unfold digF
  split
  · omega
  · split
    · omega
    · split <;> omega
theorem digit_tab : ∀ b : Nat, b < 256 → impl_digitOf.f 3 (b : Int) 10 = some (digF b false) ∧ impl_digitOf.f 3 (b : Int) 16 = some (digF b true) ∧ spec_l3Digit.f 2 (b : Int) false = some (digF b false) ∧ spec_l3Digit.f 2 (b : Int) true = some (digF b true) := by decide +kernel
theorem ev_specDigit (b : Int) (hex : Bool) (h0 : 0 ≤ b) (h1 : b ≤ 255) : Ev (fun k => spec_l3Digit.f k b hex) (digF b hex) := by
  have := digit_tab b.toNat (by omega)
  rw [show ((b.toNat : Nat) : Int) = b by omega] at this
  refine Ev.of (spec_l3Digit.mono b hex) (k := 2) ?_
  cases hex
  · exact this.2.2.1
  · exact this.2.2.2
theorem ev_implDigit (b : Int) (hex : Bool) (h0 : 0 ≤ b) (h1 : b ≤ 255) : Ev (fun k => impl_digitOf.f k b (bas hex)) (digF b hex) := by
  have := digit_tab b.toNat (by omega)
  rw [show ((b.toNat : Nat) : Int) = b by omega] at this
  refine Ev.of (impl_digitOf.mono b (bas hex)) (k := 3) ?_
  cases hex
  · exact this.1
  · exact this.2.1
def addF (n d : Int) (hex : Bool) : Int := if n * bas hex + d < 1114112 then n * bas hex + d else 1114112
def numE (s : ByteArray) (hex : Bool) (i n : Int) : Int × Int :=
  if i < (s.size : Int) then if digF (bt s i) hex ≥ 0 then numE s hex (i + 1) (addF n (digF (bt s i) hex) hex) else (i, n) else (i, n)
termination_by ((s.size : Int) - i).toNat
decreasing_by omega
def numR (s : ByteArray) (p from_ : Int) (e : Int × Int) : ByteArray × Int :=
  if e.1 = from_ then (⟨#[]⟩, 0) else (putF (numF e.2), (if e.1 < (s.size : Int) ∧ bt s e.1 = 59 then e.1 + 1 else e.1) - p)
theorem addF_range {n d : Int} {hex : Bool} (h0 : 0 ≤ n) (h1 : 0 ≤ d) : 0 ≤ addF n d hex ∧ addF n d hex ≤ 1114112 := by
  have : 0 ≤ n * bas hex := Int.mul_nonneg h0 (by unfold bas; split <;> omega)
  unfold addF
  split <;> omega
theorem mul_range {n : Int} {hex : Bool} (h0 : 0 ≤ n) (h1 : n ≤ 1114112) : 0 ≤ n * bas hex ∧ n * bas hex ≤ 20000000 := by
  unfold bas
  split <;> omega
theorem numE_le {s : ByteArray} {hex : Bool} : ∀ (d : Nat) (i n : Int), ((s.size : Int) - i).toNat = d → i ≤ s.size → i ≤ (numE s hex i n).1 ∧ (numE s hex i n).1 ≤ s.size := by
  intro d
  induction d with
  | zero => intro i n hd hi; rw [numE, if_neg (by omega)]; exact ⟨Int.le_refl _, hi⟩
  | succ d ih =>
    intro i n hd hi
    rw [numE, if_pos (by omega)]
    split
    · have := ih (i + 1) (addF n (digF (bt s i) hex) hex) (by omega) (by omega)
      omega
    · exact ⟨Int.le_refl _, hi⟩
theorem ev_specEnd (s : ByteArray) (hm : s.size ≤ 140737488351232) (p from_ i n : Int) (hex : Bool) (p0 : 0 ≤ p) (hp : p ≤ i) (h0 : 0 ≤ i) (h1 : i ≤ s.size) :
    Ev (fun k => if i = from_ then (some ((⟨#[]⟩ : ByteArray), (0 : Int))) else (if i < (s.size : Int) then (if 0 ≤ i then (spec_l3Number.j4 k p i n ((bt s i) == 59)) else (none)) else (spec_l3Number.j4 k p i n false))) (numR s p from_ (i, n)) := by
  unfold numR
  dsimp only
  by_cases c : i = from_
  · rw [if_pos c]; exact Ev.ifp c (Ev.now _)
  · rw [if_neg c]
    refine Ev.ifn c ?_
    have hw : wrap64 (i - p) = i - p := by unfold wrap64; omega
    have hw2 : wrap64 (i + 1 - p) = i + 1 - p := by unfold wrap64; omega
    have hw1 : wrap64 (i + 1) = i + 1 := by unfold wrap64; omega
    have j4 : ∀ b : Bool, Ev (fun k => spec_l3Number.j4 k p i n b) (putF (numF n), (if b = true then i + 1 else i) - p) := by
      intro b
      refine Ev.step (fun k => by simp only [spec_l3Number.j4]; rfl) ?_
      cases b
      · refine Ev.ifn (by simp) (Ev.bind (Ev.up 1 (fun k => specNumbered_f k n)) (Ev.bind (Ev.up 1 (fun k => specPut_f k _)) ?_))
        rw [hw]; exact Ev.now _
      · refine Ev.ifp (rfl : true = true) (Ev.bind (Ev.up 1 (fun k => specNumbered_f k n)) (Ev.bind (Ev.up 1 (fun k => specPut_f k _)) ?_))
        rw [hw1, hw2]; exact Ev.now _
    by_cases c2 : i < (s.size : Int)
    · refine Ev.ifp c2 (Ev.ifp h0 ?_)
      have := j4 (bt s i == 59)
      by_cases c3 : bt s i = 59
      · rw [if_pos ⟨c2, c3⟩]; simpa [c3] using this
      · rw [if_neg (fun h => c3 h.2)]; simpa [c3] using this
    · rw [if_neg (fun h => c2 h.1)]
      exact Ev.ifn c2 (by simpa using j4 false)
theorem ev_specNum (s : ByteArray) (hm : s.size ≤ 140737488351232) (p from_ : Int) (hex : Bool) (p0 : 0 ≤ p) (d : Nat) : ∀ (i n : Int), p ≤ i → 0 ≤ i → i ≤ s.size → 0 ≤ n → n ≤ 1114112 → ((s.size : Int) - i).toNat = d →
    Ev (fun k => spec_l3Number.l0 k s p i hex (bas hex) from_ n) (numR s p from_ (numE s hex i n)) := by
  induction d with
  | zero =>
    intro i n hp h0 h1 n0 n1 hd
    rw [numE, if_neg (by omega)]
    refine Ev.step (fun k => by simp only [spec_l3Number.l0]; rfl) (Ev.ifn (by omega) ?_)
    refine Ev.step (fun k => by simp only [spec_l3Number.j3]; rfl) (Ev.ifn (by simp) ?_)
    exact ev_specEnd s hm p from_ i n hex p0 hp h0 h1
  | succ d ih =>
    intro i n hp h0 h1 n0 n1 hd
    have hb := bt_range s i
    have hi : i < (s.size : Int) := by omega
    have hdr := digF_range (bt s i) hex
    have hmul := mul_range (hex := hex) n0 n1
    rw [numE, if_pos hi]
    refine Ev.step (fun k => by simp only [spec_l3Number.l0]; rfl) (Ev.ifp hi (Ev.ifp h0 (Ev.bind (ev_specDigit _ hex hb.1 hb.2) ?_)))
    by_cases c : digF (bt s i) hex ≥ 0
    · rw [if_pos c, decide_eq_true c]
      refine Ev.step (fun k => by simp only [spec_l3Number.j3]; rfl) (Ev.ifp (rfl : true = true) (Ev.ifp h0 (Ev.ifp hi (Ev.bind (ev_specDigit _ hex hb.1 hb.2) ?_))))
      have hw : wrap64 (wrap64 (n * bas hex) + digF (bt s i) hex) = n * bas hex + digF (bt s i) hex := by unfold wrap64; omega
      have hw1 : wrap64 (i + 1) = i + 1 := by unfold wrap64; omega
      have hmin : spec_l1Min.f (wrap64 (wrap64 (n * bas hex) + digF (bt s i) hex)) 1114112 = some (addF n (digF (bt s i) hex) hex) := by
        rw [hw]; unfold spec_l1Min.f addF; split <;> rfl
      refine Ev.bindc hmin ?_
      rw [hw1]
      have ha := addF_range (hex := hex) n0 c
      exact ih (i + 1) _ (by omega) (by omega) (by omega) ha.1 ha.2 (by omega)
    · rw [if_neg c, decide_eq_false c]
      refine Ev.step (fun k => by simp only [spec_l3Number.j3]; rfl) (Ev.ifn (by simp) ?_)
      exact ev_specEnd s hm p from_ i n hex p0 hp h0 h1
theorem withEnd_f (s : ByteArray) (i : Int) (hm : s.size ≤ 140737488351232) (h0 : 0 ≤ i) (h1 : i ≤ s.size) : impl_withEnd.f s i = some (if i < (s.size : Int) ∧ bt s i = 59 then i + 1 else i) := by
  unfold impl_withEnd.f
  have hw1 : wrap64 (i + 1) = i + 1 := by unfold wrap64; omega
  by_cases c2 : i < (s.size : Int)
  · rw [if_pos c2, if_pos h0]
    by_cases c3 : bt s i = 59
    · rw [if_pos c3, if_pos ⟨c2, c3⟩, hw1]
    · rw [if_neg c3, if_neg (fun h => c3 h.2)]
  · rw [if_neg c2, if_neg (fun h => c2 h.1)]
theorem ev_implEnd (s : ByteArray) (hm : s.size ≤ 140737488351232) (p from_ i n : Int) (p0 : 0 ≤ p) (hp : p ≤ i) (h0 : 0 ≤ i) (h1 : i ≤ s.size) :
    Ev (fun k => impl_numberRef.j3 k s p from_ n i) (numR s p from_ (i, n)) := by
  unfold numR
  dsimp only
  refine Ev.step (fun k => by simp only [impl_numberRef.j3]; rfl) ?_
  by_cases c : i = from_
  · rw [if_pos c]; exact Ev.ifp c (Ev.now _)
  · rw [if_neg c]
    refine Ev.ifn c (Ev.bindc (implNumbered_f n) (Ev.bind (Ev.up 1 (fun k => implPut_f k _)) (Ev.bindc (withEnd_f s i hm h0 h1) ?_)))
    have hw : wrap64 ((if i < (s.size : Int) ∧ bt s i = 59 then i + 1 else i) - p) = (if i < (s.size : Int) ∧ bt s i = 59 then i + 1 else i) - p := by
      unfold wrap64; split <;> omega
    rw [hw]
    exact Ev.now _
theorem ev_implNum (s : ByteArray) (hm : s.size ≤ 140737488351232) (p from_ : Int) (hex : Bool) (p0 : 0 ≤ p) (d : Nat) : ∀ (i n : Int), p ≤ i → 0 ≤ i → i ≤ s.size → 0 ≤ n → n ≤ 1114112 → ((s.size : Int) - i).toNat = d →
    Ev (fun k => impl_numberRef.l0 k s p from_ (bas hex) n i) (numR s p from_ (numE s hex i n)) := by
  induction d with
  | zero =>
    intro i n hp h0 h1 n0 n1 hd
    rw [numE, if_neg (by omega)]
    refine Ev.step (fun k => by simp only [impl_numberRef.l0]; rfl) (Ev.ifn (by omega) ?_)
    exact ev_implEnd s hm p from_ i n p0 hp h0 h1
  | succ d ih =>
    intro i n hp h0 h1 n0 n1 hd
    have hb := bt_range s i
    have hi : i < (s.size : Int) := by omega
    have hmul := mul_range (hex := hex) n0 n1
    have hdr := digF_range (bt s i) hex
    rw [numE, if_pos hi]
    refine Ev.step (fun k => by simp only [impl_numberRef.l0]; rfl) (Ev.ifp hi (Ev.ifp h0 (Ev.bind (ev_implDigit _ hex hb.1 hb.2) ?_)))
    by_cases c : digF (bt s i) hex ≥ 0
    · rw [if_pos c]
      refine Ev.ifp c (Ev.bind (ev_implDigit _ hex hb.1 hb.2) ?_)
      have hw : wrap64 (wrap64 (n * bas hex) + digF (bt s i) hex) = n * bas hex + digF (bt s i) hex := by unfold wrap64; omega
      have hw1 : wrap64 (i + 1) = i + 1 := by unfold wrap64; omega
      have hmn : mn (wrap64 (wrap64 (n * bas hex) + digF (bt s i) hex)) 1114112 = addF n (digF (bt s i) hex) hex := by
        rw [hw]; unfold mn addF; split <;> split <;> omega
      rw [hmn, hw1]
      have ha := addF_range (hex := hex) n0 c
      exact ih (i + 1) _ (by omega) (by omega) (by omega) ha.1 ha.2 (by omega)
    · rw [if_neg c]
      refine Ev.ifn c ?_
      exact ev_implEnd s hm p from_ i n p0 hp h0 h1
end Go.Proofs.Ytlocaaebgghkbaa.A
namespace Go.Proofs.Ytlocaaebgghkbaa.A
open Go.RowKit Go.Proofs.YtlocaaebgghkbaaW.PrintWords Go.Proofs.YtlocaaebgghkbaaW.PrintLast Go.Proofs.YtlocaaebgghkbaaW.PrintMore
set_option linter.unusedVariables false
def standsAt (s : ByteArray) (p : Int) (nm : ByteArray) : Prop := p + nm.size ≤ s.size ∧ (s.extract p.toNat (p + nm.size).toNat).toList = nm.toList
instance (s : ByteArray) (p : Int) (nm : ByteArray) : Decidable (standsAt s p nm) := by unfold standsAt; infer_instance
theorem hasPrefix_f (s : ByteArray) (p : Int) (nm : ByteArray) (h0 : 0 ≤ p) (hp : p ≤ s.size) : strings_HasPrefix.f (s.extract p.toNat s.size) nm = some (decide (standsAt s p nm)) := by
  unfold strings_HasPrefix.f stringslite_HasPrefix.f
  have hsz : (s.extract p.toNat s.size).size = s.size - p.toNat := by rw [ByteArray.size_extract]; omega
  rw [hsz]
  by_cases c : p + nm.size ≤ s.size
  · have hx : (s.extract p.toNat s.size).extract 0 ((nm.size : Int)).toNat = s.extract p.toNat (p + nm.size).toNat := by
      rw [ByteArray.extract_extract]
      congr 1
      omega
    rw [if_pos (by omega), if_pos (by omega), if_pos (by omega), Option.bind_some, hx]
    congr 1
    by_cases h : (s.extract p.toNat (p + nm.size).toNat).toList = nm.toList
    · rw [decide_eq_true (show standsAt s p nm from ⟨c, h⟩)]; exact beq_iff_eq.mpr h
    · rw [decide_eq_false (show ¬ standsAt s p nm from fun hh => h hh.2)]; exact beq_eq_false_iff_ne.mpr h
  · rw [if_neg (by omega), Option.bind_some, decide_eq_false (show ¬ standsAt s p nm from fun hh => c hh.1)]
def longF (s : ByteArray) (p : Int) : List ByteArray → ByteArray → ByteArray
  | [], b => b
  | n :: ns, b => if n.size > b.size ∧ standsAt s p n then longF s p ns n else longF s p ns b
theorem longF_ok (s : ByteArray) (p : Int) : ∀ (L : List ByteArray) (b : ByteArray), standsAt s p b → standsAt s p (longF s p L b)
  | [], b, h => h
  | n :: ns, b, h => by
    unfold longF
    split
    · rename_i hh; exact longF_ok s p ns n hh.2
    · exact longF_ok s p ns b h
theorem longF_le (s : ByteArray) (p : Int) (m : Nat) : ∀ (L : List ByteArray) (b : ByteArray), (∀ n ∈ L, n.size ≤ m) → b.size ≤ m → (longF s p L b).size ≤ m
  | [], b, _, h => h
  | n :: ns, b, hL, h => by
    unfold longF
    split
    · exact longF_le s p m ns n (fun x hx => hL x (List.mem_cons_of_mem _ hx)) (hL n List.mem_cons_self)
    · exact longF_le s p m ns b (fun x hx => hL x (List.mem_cons_of_mem _ hx)) h
theorem rdOf_at (L : List ByteArray) (j : Int) (h : j.toNat < L.length) : rdOf ByteArray.empty L j = L[j.toNat] := by
  unfold rdOf; rw [List.getD_eq_getElem?_getD, List.getElem?_eq_getElem h]; rfl
theorem ev_longest (s : ByteArray) (hm : s.size ≤ 140737488351232) (p : Int) (p0 : 0 ≤ p) (p1 : p ≤ s.size) (L : List ByteArray) (hL : ∀ n ∈ L, n.size ≤ 100) (hl : L.length ≤ 1000) (d : Nat) : ∀ (j : Int) (b : ByteArray), 0 ≤ j → L.length - j.toNat = d → j ≤ L.length →
    Ev (fun k => spec_l3Longest.l0 k s p b L j) (longF s p (L.drop j.toNat) b) := by
  induction d with
  | zero =>
    intro j b h0 hd hj
    rw [List.drop_of_length_le (by omega)]
    exact Ev.step (fun k => by simp only [spec_l3Longest.l0]; rfl) (Ev.ifn (by omega) (Ev.now _))
  | succ d ih =>
    intro j b h0 hd hj
    have hjl : j.toNat < L.length := by omega
    have hsz := hL _ (List.getElem_mem hjl)
    have hw1 : wrap64 (j + 1) = j + 1 := by unfold wrap64; omega
    have hj1 : (j + 1).toNat = j.toNat + 1 := by omega
    rw [List.drop_eq_getElem_cons hjl]
    unfold longF
    refine Ev.step (fun k => by simp only [spec_l3Longest.l0]; rfl) (Ev.ifp (by omega) (Ev.ifp h0 ?_))
    rw [rdOf_at L j hjl, hw1]
    generalize hn : L[j.toNat] = n at *
    have hw : wrap64 (p + (n.size : Int)) = p + (n.size : Int) := by unfold wrap64; omega
    rw [hw]
    have ih2 := fun b => ih (j + 1) b (by omega) (by omega) (by omega)
    rw [hj1] at ih2
    by_cases c1 : (n.size : Int) > (b.size : Int)
    · refine Ev.ifp c1 ?_
      by_cases c2 : p + (n.size : Int) ≤ (s.size : Int)
      · refine Ev.ifp c2 (Ev.ifp p0 (Ev.ifp (by omega) ?_))
        by_cases c3 : (s.extract p.toNat (p + n.size).toNat).toList = n.toList
        · rw [if_pos ⟨by omega, c2, c3⟩]
          exact Ev.ifp c3 (ih2 n)
        · rw [if_neg (fun h => c3 h.2.2)]
          exact Ev.ifn c3 (ih2 b)
      · rw [if_neg (fun h => c2 h.2.1)]
        exact Ev.ifn c2 (ih2 b)
    · rw [if_neg (fun h => c1 (by have := h.1; omega))]
      exact Ev.ifn c1 (ih2 b)
theorem specNamed_f : spec_Named.f = some namedL := rfl
theorem named_le : ∀ n ∈ namedL, n.size ≤ 100 := by
  intro n hn
  simp only [namedL, List.mem_cons, List.not_mem_nil, or_false] at hn
  rcases hn with rfl | rfl | rfl | rfl | rfl | rfl | rfl | rfl | rfl | rfl | rfl | rfl | rfl | rfl <;> decide
theorem ev_nameSign (nm : ByteArray) (d : Nat) : ∀ (j : Int), 0 ≤ j → 14 - j.toNat = d → j ≤ 14 → Ev (fun k => spec_NameSign.l0 k nm signL namedL j) (nsL (namedL.drop j.toNat) (signL.drop j.toNat) nm) := by
  have hl : namedL.length = 14 := rfl
  have hl2 : signL.length = 14 := rfl
  induction d with
  | zero =>
    intro j h0 hd hj
    rw [List.drop_of_length_le (by omega)]
    exact Ev.step (fun k => by simp only [spec_NameSign.l0]; rfl) (Ev.ifn (by omega) (Ev.now _))
  | succ d ih =>
    intro j h0 hd hj
    have hjl : j.toNat < namedL.length := by omega
    have hw1 : wrap64 (j + 1) = j + 1 := by unfold wrap64; omega
    have hj1 : (j + 1).toNat = j.toNat + 1 := by omega
    rw [ns_drop nm namedL signL j.toNat rfl hjl]
    refine Ev.step (fun k => by simp only [spec_NameSign.l0]; rfl) (Ev.ifp (by omega) (Ev.ifp h0 ?_))
    rw [rdOf_at namedL j hjl, hw1]
    have ih2 := ih (j + 1) (by omega) (by omega) (by omega)
    rw [hj1] at ih2
    by_cases c : namedL[j.toNat].toList = nm.toList
    · rw [if_pos c]; exact Ev.ifp c (Ev.ifp (by omega) (Ev.now _))
    · rw [if_neg c]; exact Ev.ifn c ih2
def sgnF (nm : ByteArray) : Int := nsL namedL signL nm
theorem ev_specSign (nm : ByteArray) : Ev (fun k => spec_NameSign.f k nm) (sgnF nm) := by
  refine Ev.congr (fun k => by unfold spec_NameSign.f; rw [specNamed_f, Option.bind_some]; rfl) (ev_nameSign nm 14 0 (by omega) rfl (by omega))
def letF (c : Int) : Bool := decide (97 ≤ c ∧ c ≤ 122) || decide (65 ≤ c ∧ c ≤ 90)
theorem implLetter_f (c : Int) : impl_IsLetter.f c = some (letF c) := by
  unfold impl_IsLetter.f letF
  rw [inRange_f, inRange_f]
  simp only [Option.bind_some]
  by_cases h : decide (97 ≤ c ∧ c ≤ 122) = true
  · rw [if_pos h, h]; rfl
  · rw [if_neg h, Bool.eq_false_iff.mpr h]; rfl
theorem specLetter_f (c : Int) : spec_IsLetter.f c = some (letF c) := by
  unfold spec_IsLetter.f letF
  rw [l1In_f, l1In_f]
  simp only [Option.bind_some]
  by_cases h : decide (97 ≤ c ∧ c ≤ 122) = true
  · rw [if_pos h, h]; rfl
  · rw [if_neg h, Bool.eq_false_iff.mpr h]; rfl
def aftF (s : ByteArray) (i : Int) : Bool := if i < (s.size : Int) then (if bt s i = 61 then true else if letF (bt s i) = true then true else decide (digF (bt s i) false ≥ 0)) else false
theorem ev_isAfter (s : ByteArray) (i : Int) (h0 : 0 ≤ i) : Ev (fun k => impl_isAfter.f k s i) (aftF s i) := by
  have hb := bt_range s i
  have hw : wrap64 (bt s i) = bt s i := by unfold wrap64; omega
  unfold impl_isAfter.f aftF
  rw [hw]
  by_cases c : i < (s.size : Int)
  · rw [if_pos c]
    refine Ev.ifp c (Ev.ifp h0 ?_)
    by_cases c1 : bt s i = 61
    · rw [if_pos c1]; exact Ev.ifp c1 (Ev.now _)
    · rw [if_neg c1]
      refine Ev.ifn c1 (Ev.bindc (implLetter_f _) ?_)
      by_cases c2 : letF (bt s i) = true
      · rw [if_pos c2]; exact Ev.ifp c2 (Ev.now _)
      · rw [if_neg c2]
        exact Ev.ifn c2 (Ev.bind (ev_implDigit (bt s i) false hb.1 hb.2) (Ev.now _))
  · rw [if_neg c]; exact Ev.ifn c (Ev.now _)
def semi (s : ByteArray) (i : Int) : Int := if i < (s.size : Int) ∧ bt s i = 59 then i + 1 else i
def refT (s : ByteArray) (p : Int) (v : Bool) (b : ByteArray) : ByteArray × Int :=
  if b.toList = [] then (⟨#[]⟩, 0)
  else if semi s (p + 1 + b.size) = p + 1 + b.size ∧ v = true ∧ aftF s (p + 1 + b.size) = true then (⟨#[]⟩, 0)
  else (putF (sgnF b), semi s (p + 1 + b.size) - p)
theorem semi_or (s : ByteArray) (i : Int) : semi s i = i ∨ semi s i = i + 1 := by unfold semi; split <;> simp
theorem ev_specTail (s : ByteArray) (hm : s.size ≤ 140737488351232) (p : Int) (p0 : 0 ≤ p) (v : Bool) (b : ByteArray) (hb : p + 1 + b.size ≤ s.size) (hs : b.size ≤ 100) :
    Ev (fun k => if b.toList = ([] : List UInt8) then (some ((⟨#[]⟩ : ByteArray), (0 : Int))) else (if (wrap64 ((wrap64 (p + 1)) + (b.size : Int))) < (s.size : Int) then (if 0 ≤ (wrap64 ((wrap64 (p + 1)) + (b.size : Int))) then (spec_Ref.j2 k s p v b (wrap64 ((wrap64 (p + 1)) + (b.size : Int))) ((bt s (wrap64 ((wrap64 (p + 1)) + (b.size : Int)))) == 59)) else (none)) else (spec_Ref.j2 k s p v b (wrap64 ((wrap64 (p + 1)) + (b.size : Int))) false))) (refT s p v b) := by
  have hw1 : wrap64 (p + 1) = p + 1 := by unfold wrap64; omega
  have hw : wrap64 (p + 1 + (b.size : Int)) = p + 1 + (b.size : Int) := by unfold wrap64; omega
  rw [hw1, hw]
  unfold refT
  generalize hq : p + 1 + (b.size : Int) = q at *
  have hq0 : 0 ≤ q := by omega
  have hbt := bt_range s q
  by_cases c0 : b.toList = []
  · rw [if_pos c0]; exact Ev.ifp c0 (Ev.now _)
  rw [if_neg c0]
  refine Ev.ifn c0 ?_
  have j3 : Ev (fun k => spec_Ref.j3 k p b q false) (putF (sgnF b), q - p) := by
    refine Ev.step (fun k => by simp only [spec_Ref.j3]; rfl) (Ev.ifn (by simp) (Ev.bind (ev_specSign b) (Ev.bind (Ev.up 1 (fun k => specPut_f k _)) ?_)))
    rw [show wrap64 (q - p) = q - p by unfold wrap64; omega]
    exact Ev.now _
  have j3t : Ev (fun k => spec_Ref.j3 k p b q true) ((⟨#[]⟩ : ByteArray), (0 : Int)) :=
    Ev.step (fun k => by simp only [spec_Ref.j3]; rfl) (Ev.ifp (rfl : true = true) (Ev.now _))
  have j2f : semi s q = q → Ev (fun k => spec_Ref.j2 k s p v b q false) (if semi s q = q ∧ v = true ∧ aftF s q = true then (⟨#[]⟩, 0) else (putF (sgnF b), semi s q - p)) := by
    intro hsm
    rw [hsm]
    refine Ev.step (fun k => by simp only [spec_Ref.j2]; rfl) (Ev.ifn (by simp) ?_)
    cases v
    · rw [if_neg (by simp)]; exact Ev.ifn (by simp) j3
    · refine Ev.ifp (rfl : true = true) ?_
      unfold aftF
      by_cases c : q < (s.size : Int)
      · rw [if_pos c]
        refine Ev.ifp c (Ev.ifp hq0 ?_)
        by_cases c1 : bt s q = 61
        · rw [if_pos c1, if_pos ⟨rfl, rfl, rfl⟩]; exact Ev.ifp c1 j3t
        · rw [if_neg c1, show wrap64 (bt s q) = bt s q by unfold wrap64; omega]
          refine Ev.ifn c1 (Ev.bindc (specLetter_f _) ?_)
          by_cases c2 : letF (bt s q) = true
          · rw [if_pos c2, if_pos ⟨rfl, rfl, rfl⟩]; exact Ev.ifp c2 j3t
          · rw [if_neg c2]
            refine Ev.ifn c2 (Ev.bind (ev_specDigit (bt s q) false hbt.1 hbt.2) ?_)
            by_cases c3 : digF (bt s q) false ≥ 0
            · rw [decide_eq_true c3, if_pos ⟨rfl, rfl, rfl⟩]; exact j3t
            · rw [decide_eq_false c3, if_neg (by simp)]; exact j3
      · rw [if_neg c, if_neg (by simp)]
        exact Ev.ifn c j3
  by_cases c : q < (s.size : Int)
  · refine Ev.ifp c (Ev.ifp hq0 ?_)
    by_cases c1 : bt s q = 59
    · have hsm : semi s q = q + 1 := by unfold semi; rw [if_pos ⟨c, c1⟩]
      rw [hsm, if_neg (fun h => by have := h.1; omega), show (bt s q == 59) = true from beq_iff_eq.mpr c1]
      refine Ev.step (fun k => by simp only [spec_Ref.j2]; rfl) (Ev.ifp (rfl : true = true) (Ev.bind (ev_specSign b) (Ev.bind (Ev.up 1 (fun k => specPut_f k _)) ?_)))
      rw [show wrap64 (q + 1) = q + 1 by unfold wrap64; omega, show wrap64 (q + 1 - p) = q + 1 - p by unfold wrap64; omega]
      exact Ev.now _
    · rw [show (bt s q == 59) = false from beq_eq_false_iff_ne.mpr c1]
      exact j2f (by unfold semi; rw [if_neg (fun h => c1 h.2)])
  · exact Ev.ifn c (j2f (by unfold semi; rw [if_neg (fun h => c h.1)]))
end Go.Proofs.Ytlocaaebgghkbaa.A
namespace Go.Proofs.Ytlocaaebgghkbaa.A
open Go.RowKit Go.Proofs.YtlocaaebgghkbaaW.PrintWords Go.Proofs.YtlocaaebgghkbaaW.PrintLast Go.Proofs.YtlocaaebgghkbaaW.PrintMore
set_option linter.unusedVariables false
theorem ev_implTail (s : ByteArray) (hm : s.size ≤ 140737488351232) (p : Int) (p0 : 0 ≤ p) (v : Bool) (b : ByteArray) (hb : p + 1 + b.size ≤ s.size) (hs : b.size ≤ 100) :
    Ev (fun k => if b.toList = ([] : List UInt8) then (some ((⟨#[]⟩ : ByteArray), (0 : Int))) else ((impl_withEnd.f s (wrap64 ((wrap64 (p + 1)) + (b.size : Int)))).bind fun t308 => (if t308 = (wrap64 ((wrap64 (p + 1)) + (b.size : Int))) then (if v = true then ((impl_isAfter.f k s (wrap64 ((wrap64 (p + 1)) + (b.size : Int)))).bind fun t309 => (impl_Ref.j2 k s p b (wrap64 ((wrap64 (p + 1)) + (b.size : Int))) t309)) else (impl_Ref.j2 k s p b (wrap64 ((wrap64 (p + 1)) + (b.size : Int))) false)) else (impl_Ref.j2 k s p b (wrap64 ((wrap64 (p + 1)) + (b.size : Int))) false)))) (refT s p v b) := by
  have hw1 : wrap64 (p + 1) = p + 1 := by unfold wrap64; omega
  have hw : wrap64 (p + 1 + (b.size : Int)) = p + 1 + (b.size : Int) := by unfold wrap64; omega
  rw [hw1, hw]
  unfold refT
  generalize hq : p + 1 + (b.size : Int) = q at *
  have hq0 : 0 ≤ q := by omega
  by_cases c0 : b.toList = []
  · rw [if_pos c0]; exact Ev.ifp c0 (Ev.now _)
  rw [if_neg c0]
  refine Ev.ifn c0 ?_
  have hwe : impl_withEnd.f s q = some (semi s q) := withEnd_f s q hm hq0 hb
  have j2f : Ev (fun k => impl_Ref.j2 k s p b q false) (putF (sgnF b), semi s q - p) := by
    refine Ev.step (fun k => by simp only [impl_Ref.j2]; rfl) (Ev.ifn (by simp) (Ev.bindc (show impl_NameSign.f b = some (sgnF b) from rfl) (Ev.bind (a := putF (sgnF b)) (Ev.up 1 (fun k => implPut_f k _)) ?_)))
    refine Ev.bindc (f := fun _ t => some (putF (sgnF b), wrap64 (t - p))) hwe ?_
    have hsm := semi_or s q
    rw [show wrap64 (semi s q - p) = semi s q - p by unfold wrap64; omega]
    exact Ev.now _
  have j2t : Ev (fun k => impl_Ref.j2 k s p b q true) ((⟨#[]⟩ : ByteArray), (0 : Int)) :=
    Ev.step (fun k => by simp only [impl_Ref.j2]; rfl) (Ev.ifp (rfl : true = true) (Ev.now _))
  refine Ev.bindc hwe ?_
  by_cases c1 : semi s q = q
  · refine Ev.ifp c1 ?_
    cases v
    · rw [if_neg (by simp)]; exact Ev.ifn (by simp) j2f
    · refine Ev.ifp (rfl : true = true) (Ev.bind (ev_isAfter s q hq0) ?_)
      by_cases c2 : aftF s q = true
      · rw [if_pos ⟨c1, rfl, c2⟩, c2]; exact j2t
      · rw [if_neg (fun h => c2 h.2.2), Bool.eq_false_iff.mpr c2]; exact j2f
  · rw [if_neg (fun h => c1 h.1)]
    exact Ev.ifn c1 j2f
theorem ev_implLoop (s : ByteArray) (hm : s.size ≤ 140737488351232) (p : Int) (v : Bool) (p0 : 0 ≤ p) (p1 : p + 1 ≤ s.size) (L : List ByteArray) (hL : ∀ n ∈ L, n.size ≤ 100) (hl : L.length ≤ 1000) (d : Nat) : ∀ (j : Int) (b : ByteArray), 0 ≤ j → L.length - j.toNat = d → j ≤ L.length → standsAt s (p + 1) b → b.size ≤ 100 →
    Ev (fun k => impl_Ref.l0 k s p v (s.extract (p + 1).toNat s.size) b L (L.length : Int) j) (refT s p v (longF s (p + 1) (L.drop j.toNat) b)) := by
  induction d with
  | zero =>
    intro j b h0 hd hj hst hsz
    rw [List.drop_of_length_le (by omega)]
    exact Ev.step (fun k => by simp only [impl_Ref.l0]; rfl) (Ev.ifn (by omega) (ev_implTail s hm p p0 v b (by have := hst.1; omega) hsz))
  | succ d ih =>
    intro j b h0 hd hj hst hsz
    have hjl : j.toNat < L.length := by omega
    have hszn := hL _ (List.getElem_mem hjl)
    have hw1 : wrap64 (j + 1) = j + 1 := by unfold wrap64; omega
    have hj1 : (j + 1).toNat = j.toNat + 1 := by omega
    rw [List.drop_eq_getElem_cons hjl]
    unfold longF
    refine Ev.step (fun k => by simp only [impl_Ref.l0]; rfl) (Ev.ifp (by omega) (Ev.ifp h0 (Ev.ifp (by omega) ?_)))
    rw [rdOf_at L j hjl, hw1]
    generalize hn : L[j.toNat] = n at *
    have ih2 := fun b => ih (j + 1) b (by omega) (by omega) (by omega)
    rw [hj1] at ih2
    by_cases c1 : (n.size : Int) > (b.size : Int)
    · refine Ev.ifp c1 (Ev.bindc (hasPrefix_f s (p + 1) n (by omega) p1) ?_)
      by_cases c3 : standsAt s (p + 1) n
      · rw [if_pos ⟨by omega, c3⟩, decide_eq_true c3]
        exact Ev.ifp (rfl : true = true) (ih2 n c3 hszn)
      · rw [if_neg (fun h => c3 h.2), decide_eq_false c3]
        exact Ev.ifn (by simp) (ih2 b hst hsz)
    · rw [if_neg (fun h => c1 (by have := h.1; omega))]
      exact Ev.ifn c1 (ih2 b hst hsz)
theorem bt_byte (s : ByteArray) (q : Int) (h0 : 0 ≤ q) (h1 : q < (s.size : Int)) : ((s[q.toNat]'(by omega)).toNat : Int) = bt s q := bt_at s q (by omega)
theorem stands_one (s : ByteArray) (q : Int) (c : UInt8) (h0 : 0 ≤ q) : standsAt s q (⟨#[c]⟩ : ByteArray) ↔ q < (s.size : Int) ∧ bt s q = (c.toNat : Int) := by
  unfold standsAt
  have h1 : (⟨#[c]⟩ : ByteArray).size = 1 := rfl
  have h2 : (⟨#[c]⟩ : ByteArray).toList = [c] := by rw [ByteArray.toList_eq]
  rw [h1, h2, ByteArray.toList_eq, extract_list]
  constructor
  · rintro ⟨ha, hb⟩
    have hq : q.toNat < s.size := by omega
    refine ⟨by omega, ?_⟩
    rw [drop_cons s q.toNat hq, show (q + ((1 : Nat) : Int)).toNat - q.toNat = 1 by omega] at hb
    simp at hb
    rw [← bt_byte s q h0 (by omega), hb]
  · rintro ⟨ha, hb⟩
    have hq : q.toNat < s.size := by omega
    refine ⟨by omega, ?_⟩
    rw [drop_cons s q.toNat hq, show (q + ((1 : Nat) : Int)).toNat - q.toNat = 1 by omega]
    have := bt_byte s q h0 ha
    rw [hb] at this
    simp
    exact UInt8.toNat_inj.mp (by omega)
def hexF (s : ByteArray) (i : Int) : Bool := decide (i < (s.size : Int) ∧ (bt s i = 120 ∨ bt s i = 88))
def froF (s : ByteArray) (p : Int) : Int := if hexF s (p + 2) = true then p + 3 else p + 2
def numberF (s : ByteArray) (p : Int) : ByteArray × Int := numR s p (froF s p) (numE s (hexF s (p + 2)) (froF s p) 0)
theorem froF_le (s : ByteArray) (p : Int) (h : p + 2 ≤ s.size) : p + 2 ≤ froF s p ∧ froF s p ≤ s.size := by
  unfold froF hexF
  split
  · rename_i hh
    have := (of_decide_eq_true hh).1
    omega
  · omega
theorem ev_specNumber (s : ByteArray) (hm : s.size ≤ 140737488351232) (p : Int) (p0 : 0 ≤ p) (h : p + 2 ≤ s.size) : Ev (fun k => spec_l3Number.f k s p) (numberF s p) := by
  have hw : wrap64 (p + 2) = p + 2 := by unfold wrap64; omega
  have hfl := froF_le s p h
  have run : ∀ hex : Bool, Ev (fun k => spec_l3Number.j0 k s p (p + 2) hex) (numR s p (if hex = true then p + 3 else p + 2) (numE s hex (if hex = true then p + 3 else p + 2) 0)) ∨ ¬ ((if hex = true then p + 3 else p + 2) ≤ (s.size : Int)) := by
    intro hex
    by_cases hc : (if hex = true then p + 3 else p + 2) ≤ (s.size : Int)
    · left
      refine Ev.step (fun k => by simp only [spec_l3Number.j0]; rfl) ?_
      cases hex
      · refine Ev.ifn (by simp) (Ev.step (fun k => by simp only [spec_l3Number.j1]; rfl) ?_)
        simp only [Bool.false_eq_true, if_false] at hc ⊢
        exact ev_specNum s hm p (p + 2) false p0 _ (p + 2) 0 (by omega) (by omega) hc (by omega) (by omega) rfl
      · refine Ev.ifp (rfl : true = true) (Ev.step (fun k => by simp only [spec_l3Number.j1]; rfl) ?_)
        simp only [if_true] at hc ⊢
        rw [show wrap64 (p + 2 + 1) = p + 3 by unfold wrap64; omega]
        exact ev_specNum s hm p (p + 3) true p0 _ (p + 3) 0 (by omega) (by omega) hc (by omega) (by omega) rfl
    · exact .inr hc
  have fin : Ev (fun k => spec_l3Number.j0 k s p (p + 2) (hexF s (p + 2))) (numberF s p) := by
    rcases run (hexF s (p + 2)) with h1 | h1
    · exact h1
    · exact absurd hfl.2 h1
  unfold spec_l3Number.f
  rw [hw]
  by_cases c : p + 2 < (s.size : Int)
  · refine Ev.ifp c (Ev.ifp (by omega) ?_)
    by_cases c1 : bt s (p + 2) = 120
    · have : hexF s (p + 2) = true := by unfold hexF; exact decide_eq_true ⟨c, .inl c1⟩
      rw [this] at fin
      exact Ev.ifp c1 fin
    · have : hexF s (p + 2) = (bt s (p + 2) == 88) := by
        unfold hexF
        by_cases c2 : bt s (p + 2) = 88
        · rw [decide_eq_true ⟨c, .inr c2⟩, c2]; rfl
        · rw [decide_eq_false (by omega)]; exact (beq_eq_false_iff_ne.mpr c2).symm
      rw [this] at fin
      exact Ev.ifn c1 fin
  · have : hexF s (p + 2) = false := by unfold hexF; exact decide_eq_false (fun h => c h.1)
    rw [this] at fin
    exact Ev.ifn c fin
theorem ev_implNumber (s : ByteArray) (hm : s.size ≤ 140737488351232) (p : Int) (p0 : 0 ≤ p) (h : p + 2 ≤ s.size) : Ev (fun k => impl_numberRef.f k s p) (numberF s p) := by
  have hw : wrap64 (p + 2) = p + 2 := by unfold wrap64; omega
  have hfl := froF_le s p h
  have run : ∀ hex : Bool, Ev (fun k => impl_numberRef.j0 k s p (p + 2) 10 hex) (numR s p (if hex = true then p + 3 else p + 2) (numE s hex (if hex = true then p + 3 else p + 2) 0)) ∨ ¬ ((if hex = true then p + 3 else p + 2) ≤ (s.size : Int)) := by
    intro hex
    by_cases hc : (if hex = true then p + 3 else p + 2) ≤ (s.size : Int)
    · left
      refine Ev.step (fun k => by simp only [impl_numberRef.j0]; rfl) ?_
      cases hex
      · refine Ev.ifn (by simp) (Ev.step (fun k => by simp only [impl_numberRef.j1]; rfl) ?_)
        simp only [Bool.false_eq_true, if_false] at hc ⊢
        exact ev_implNum s hm p (p + 2) false p0 _ (p + 2) 0 (by omega) (by omega) hc (by omega) (by omega) rfl
      · refine Ev.ifp (rfl : true = true) (Ev.step (fun k => by simp only [impl_numberRef.j1]; rfl) ?_)
        simp only [if_true] at hc ⊢
        rw [show wrap64 (p + 2 + 1) = p + 3 by unfold wrap64; omega]
        exact ev_implNum s hm p (p + 3) true p0 _ (p + 3) 0 (by omega) (by omega) hc (by omega) (by omega) rfl
    · exact .inr hc
  have fin : Ev (fun k => impl_numberRef.j0 k s p (p + 2) 10 (hexF s (p + 2))) (numberF s p) := by
    rcases run (hexF s (p + 2)) with h1 | h1
    · exact h1
    · exact absurd hfl.2 h1
  unfold impl_numberRef.f
  rw [hw]
  by_cases c : p + 2 < (s.size : Int)
  · refine Ev.ifp c (Ev.ifp (by omega) ?_)
    by_cases c1 : bt s (p + 2) = 120
    · have : hexF s (p + 2) = true := by unfold hexF; exact decide_eq_true ⟨c, .inl c1⟩
      rw [this] at fin
      exact Ev.ifp c1 fin
    · have : hexF s (p + 2) = (bt s (p + 2) == 88) := by
        unfold hexF
        by_cases c2 : bt s (p + 2) = 88
        · rw [decide_eq_true ⟨c, .inr c2⟩, c2]; rfl
        · rw [decide_eq_false (by omega)]; exact (beq_eq_false_iff_ne.mpr c2).symm
      rw [this] at fin
      exact Ev.ifn c1 fin
  · have : hexF s (p + 2) = false := by unfold hexF; exact decide_eq_false (fun h => c h.1)
    rw [this] at fin
    exact Ev.ifn c fin
end Go.Proofs.Ytlocaaebgghkbaa.A
namespace Go.Proofs.Ytlocaaebgghkbaa.A
open Go.RowKit Go.Proofs.YtlocaaebgghkbaaW.PrintWords Go.Proofs.YtlocaaebgghkbaaW.PrintLast Go.Proofs.YtlocaaebgghkbaaW.PrintMore
set_option linter.unusedVariables false
def refA (s : ByteArray) (p : Int) (v : Bool) : ByteArray × Int :=
  if bt s p = 38 then (if p + 1 < (s.size : Int) ∧ bt s (p + 1) = 35 then numberF s p else refT s p v (longF s (p + 1) namedL ⟨#[]⟩)) else (⟨#[]⟩, 0)
theorem stands_nil (s : ByteArray) (q : Int) (h0 : 0 ≤ q) (h1 : q ≤ s.size) : standsAt s q (⟨#[]⟩ : ByteArray) := by
  refine ⟨by show q + ((0 : Nat) : Int) ≤ _; omega, ?_⟩
  rw [ByteArray.toList_eq, ByteArray.toList_eq, extract_list, show (q + ((⟨#[]⟩ : ByteArray).size : Int)).toNat - q.toNat = 0 by show (q + ((0 : Nat) : Int)).toNat - q.toNat = 0; omega]
  simp
theorem ev_specRef (s : ByteArray) (hm : s.size ≤ 140737488351232) (p : Int) (v : Bool) (p0 : 0 ≤ p) (p1 : p < (s.size : Int)) : Ev (fun k => spec_Ref.f k s p v) (refA s p v) := by
  have hw1 : wrap64 (p + 1) = p + 1 := by unfold wrap64; omega
  unfold spec_Ref.f refA
  refine Ev.ifn (by omega) (Ev.ifn (by omega) (Ev.ifp p0 (Ev.ifp p1 ?_)))
  by_cases c : bt s p = 38
  · rw [if_pos c, show (bt s p != 38) = false by rw [c]; rfl]
    refine Ev.step (fun k => by simp only [spec_Ref.j0]; rfl) (Ev.ifn (by simp) ?_)
    rw [hw1]
    have j1f : ¬ (p + 1 < (s.size : Int) ∧ bt s (p + 1) = 35) → Ev (fun k => spec_Ref.j1 k s p v false) (refT s p v (longF s (p + 1) namedL ⟨#[]⟩)) := by
      intro hn
      refine Ev.step (fun k => by simp only [spec_Ref.j1]; rfl) (Ev.ifn (by simp) (Ev.bind (a := longF s (p + 1) namedL ⟨#[]⟩) ?_ ?_))
      · rw [hw1]
        refine Ev.congr (fun k => by unfold spec_l3Longest.f; rw [specNamed_f, Option.bind_some]) ?_
        exact ev_longest s hm (p + 1) (by omega) (by omega) namedL named_le (by decide) 14 0 ⟨#[]⟩ (by omega) rfl (by decide)
      · have hst := longF_ok s (p + 1) namedL ⟨#[]⟩ (stands_nil s (p + 1) (by omega) (by omega))
        have hsz := longF_le s (p + 1) 100 namedL ⟨#[]⟩ named_le (by show 0 ≤ 100; omega)
        exact ev_specTail s hm p p0 v _ (by have := hst.1; omega) hsz
    by_cases c1 : p + 1 < (s.size : Int)
    · refine Ev.ifp c1 (Ev.ifp (by omega) ?_)
      by_cases c2 : bt s (p + 1) = 35
      · rw [if_pos ⟨c1, c2⟩, show (bt s (p + 1) == 35) = true by rw [c2]; rfl]
        refine Ev.step (fun k => by simp only [spec_Ref.j1]; rfl) (Ev.ifp (rfl : true = true) (Ev.bind (ev_specNumber s hm p p0 (by omega)) (Ev.now _)))
      · rw [if_neg (fun h => c2 h.2), show (bt s (p + 1) == 35) = false from beq_eq_false_iff_ne.mpr c2]
        exact j1f (fun h => c2 h.2)
    · rw [if_neg (fun h => c1 h.1)]
      exact Ev.ifn c1 (j1f (fun h => c1 h.1))
  · rw [if_neg c, show (bt s p != 38) = true from bne_iff_ne.mpr c]
    exact Ev.step (fun k => by simp only [spec_Ref.j0]; rfl) (Ev.ifp (rfl : true = true) (Ev.now _))
theorem ev_implRef (s : ByteArray) (hm : s.size ≤ 140737488351232) (p : Int) (v : Bool) (p0 : 0 ≤ p) (p1 : p < (s.size : Int)) : Ev (fun k => impl_Ref.f k s p v) (refA s p v) := by
  have hw1 : wrap64 (p + 1) = p + 1 := by unfold wrap64; omega
  have hw2 : wrap64 ((s.size : Int) - 1) = (s.size : Int) - 1 := by unfold wrap64; omega
  unfold impl_Ref.f refA
  refine Ev.bindc (inRange_f _ _ _) ?_
  rw [hw2, decide_eq_true (show 0 ≤ p ∧ p ≤ (s.size : Int) - 1 by omega)]
  refine Ev.ifp (rfl : true = true) (Ev.ifp p0 (Ev.ifp p1 ?_))
  by_cases c : bt s p = 38
  · rw [if_pos c, show (bt s p != 38) = false by rw [c]; rfl]
    refine Ev.step (fun k => by simp only [impl_Ref.j0]; rfl) (Ev.ifn (by simp) ?_)
    rw [hw1]
    refine Ev.ifp (by omega) (Ev.ifp (by omega) (Ev.bindc (hasPrefix_f s (p + 1) ⟨#[35]⟩ (by omega) (by omega)) ?_))
    have h35 := stands_one s (p + 1) 35 (by omega)
    by_cases c2 : p + 1 < (s.size : Int) ∧ bt s (p + 1) = 35
    · rw [if_pos c2, decide_eq_true (h35.mpr c2)]
      exact Ev.ifp (rfl : true = true) (Ev.bind (ev_implNumber s hm p p0 (by omega)) (Ev.now _))
    · rw [if_neg c2, decide_eq_false (fun h => c2 (h35.mp h))]
      refine Ev.ifn (by simp) (Ev.bindc named_f ?_)
      exact ev_implLoop s hm p v p0 (by omega) namedL named_le (by decide) 14 0 ⟨#[]⟩ (by omega) rfl (by decide) (stands_nil s (p + 1) (by omega) (by omega)) (by show 0 ≤ 100; omega)
  · rw [if_neg c, show (bt s p != 38) = true from bne_iff_ne.mpr c]
    exact Ev.step (fun k => by simp only [impl_Ref.j0]; rfl) (Ev.ifp (rfl : true = true) (Ev.now _))
theorem semi_le (s : ByteArray) (i : Int) (h : i ≤ s.size) : i ≤ semi s i ∧ semi s i ≤ s.size := by
  unfold semi
  split
  · rename_i hh; have := hh.1; omega
  · omega
theorem refA_le (s : ByteArray) (p : Int) (v : Bool) (p0 : 0 ≤ p) (p1 : p < (s.size : Int)) : 0 ≤ (refA s p v).2 ∧ p + (refA s p v).2 ≤ s.size ∧ (refA s p v).1.size ≤ 4 := by
  have hz : (⟨#[]⟩ : ByteArray).size = 0 := rfl
  unfold refA
  split
  · split
    · rename_i h
      have hf := froF_le s p (by omega)
      have he := numE_le (s := s) (hex := hexF s (p + 2)) _ (froF s p) 0 rfl hf.2
      unfold numberF numR
      generalize numE s (hexF s (p + 2)) (froF s p) 0 = e at *
      have hs := semi_le s e.1 he.2
      have hput := putF_size (numF e.2)
      unfold semi at hs
      split
      · simp only [hz]; omega
      · simp only; omega
    · have hst := longF_ok s (p + 1) namedL ⟨#[]⟩ (stands_nil s (p + 1) (by omega) (by omega))
      unfold refT
      generalize longF s (p + 1) namedL ⟨#[]⟩ = b at *
      have hs := semi_le s (p + 1 + b.size) hst.1
      have hput := putF_size (sgnF b)
      split
      · simp only [hz]; omega
      · split
        · simp only [hz]; omega
        · simp only; omega
  · simp only [hz]; omega
def refsF (s : ByteArray) (v : Bool) (j : Int) : List UInt8 :=
  if j < (s.size : Int) then (if (refA s j v).2 > 0 then (refA s j v).1.data.toList ++ refsF s v (j + (refA s j v).2) else byU s j :: refsF s v (j + 1)) else []
termination_by ((s.size : Int) - j).toNat
decreasing_by all_goals omega
def asInts (l : List UInt8) : List Int := l.map fun b => (b.toNat : Int)
theorem strOf_asInts (l : List UInt8) : strOfNums (asInts l) = ⟨l.toArray⟩ := by
  unfold strOfNums asInts
  congr 2
  rw [List.map_map]
  conv => rhs; rw [← List.map_id l]
  apply List.map_congr_left
  intro b _
  simp
theorem ev_refs (s : ByteArray) (v : Bool) (hm : s.size ≤ 1048576) (d : Nat) : ∀ (j : Int) (out : List UInt8), 0 ≤ j → ((s.size : Int) - j).toNat ≤ d → out.length + 4 * d ≤ 140737488355000 →
    Ev (fun k => spec_Refs.l0 k s v (asInts out) j) (⟨(out ++ refsF s v j).toArray⟩) ∧ Ev (fun k => impl_Refs.l0 k s v out j) (⟨(out ++ refsF s v j).toArray⟩) := by
  induction d with
  | zero =>
    intro j out h0 hd hl
    rw [refsF, if_neg (by omega), List.append_nil]
    constructor
    · rw [← strOf_asInts]
      exact Ev.step (fun k => by simp only [spec_Refs.l0]; rfl) (Ev.ifn (by omega) (Ev.now _))
    · exact Ev.step (fun k => by simp only [impl_Refs.l0]; rfl) (Ev.ifn (by omega) (Ev.now _))
  | succ d ih =>
    intro j out h0 hd hl
    by_cases hj : j < (s.size : Int)
    · have hle := refA_le s j v h0 hj
      have e1 := ev_specRef s (by omega) j v h0 hj
      have e2 := ev_implRef s (by omega) j v h0 hj
      rw [refsF, if_pos hj]
      have hsz : (refA s j v).1.size = (refA s j v).1.data.toList.length := (data_length _).symm
      generalize refA s j v = t at *
      have hlen : (asInts out).length = out.length := by simp [asInts]
      by_cases hu : t.2 > 0
      · have hw : wrap64 (j + t.2) = j + t.2 := by unfold wrap64; omega
        have ih2 := ih (j + t.2) (out ++ t.1.data.toList) (by omega) (by omega) (by rw [List.length_append]; omega)
        rw [if_pos hu, ← List.append_assoc]
        constructor
        · refine Ev.step (fun k => by simp only [spec_Refs.l0]; rfl) (Ev.ifp hj (Ev.bind e1 (Ev.ifp hu (Ev.ifp (show (asInts out).length + t.1.size ≤ 140737488355327 by rw [hlen]; omega) ?_))))
          rw [hw, show asInts out ++ bytesOf t.1 = asInts (out ++ t.1.data.toList) by simp [asInts, bytesOf]]
          exact ih2.1
        · refine Ev.step (fun k => by simp only [impl_Refs.l0]; rfl) (Ev.ifp hj (Ev.bind e2 (Ev.ifn (show ¬ t.2 = 0 by omega) (Ev.ifp (show out.length + t.1.size ≤ 140737488355328 by omega) ?_))))
          rw [hw]
          exact ih2.2
      · have hw : wrap64 (j + 1) = j + 1 := by unfold wrap64; omega
        have ih2 := ih (j + 1) (out ++ [byU s j]) (by omega) (by omega) (by rw [List.length_append, List.length_singleton]; omega)
        rw [if_neg hu, show out ++ byU s j :: refsF s v (j + 1) = (out ++ [byU s j]) ++ refsF s v (j + 1) by simp]
        constructor
        · refine Ev.step (fun k => by simp only [spec_Refs.l0]; rfl) (Ev.ifp hj (Ev.bind e1 (Ev.ifn hu (Ev.ifp h0 (Ev.ifp (show (asInts out).length < 140737488355328 by rw [hlen]; omega) ?_)))))
          rw [hw, show asInts out ++ [bt s j] = asInts (out ++ [byU s j]) by simp [asInts, byU_bt]]
          exact ih2.1
        · refine Ev.step (fun k => by simp only [impl_Refs.l0]; rfl) (Ev.ifp hj (Ev.bind e2 (Ev.ifp (show t.2 = 0 by omega) (Ev.ifp h0 (Ev.ifp (show out.length + 1 ≤ 140737488355328 by omega) ?_)))))
          rw [hw]
          exact ih2.2
    · rw [refsF, if_neg hj, List.append_nil]
      constructor
      · rw [← strOf_asInts]
        exact Ev.step (fun k => by simp only [spec_Refs.l0]; rfl) (Ev.ifn hj (Ev.now _))
      · exact Ev.step (fun k => by simp only [impl_Refs.l0]; rfl) (Ev.ifn hj (Ev.now _))
def refsB (s : ByteArray) (v : Bool) : ByteArray := ⟨(refsF s v 0).toArray⟩
theorem ev_specRefs (s : ByteArray) (v : Bool) (hm : s.size ≤ 1048576) : Ev (fun k => spec_Refs.f k s v) (refsB s v) :=
  (ev_refs s v hm s.size 0 [] (by omega) (by omega) (by simp; omega)).1
theorem ev_implRefs (s : ByteArray) (v : Bool) (hm : s.size ≤ 1048576) : Ev (fun k => impl_Refs.f k s v) (refsB s v) :=
  (ev_refs s v hm s.size 0 [] (by omega) (by omega) (by simp; omega)).2
end Go.Proofs.Ytlocaaebgghkbaa.A
namespace Go.Proofs.Ytlocaaebgghkbaa.A
open Go.RowKit Go.Proofs.YtlocaaebgghkbaaW.PrintWords Go.Proofs.YtlocaaebgghkbaaW.PrintLast Go.Proofs.YtlocaaebgghkbaaW.PrintMore
set_option linter.unusedVariables false
theorem ovr_f {s : ByteArray} {k : Int} (h : k < (s.size : Int)) : ovr s k false = false := by simp [ovr]; omega
theorem ovr_t {s : ByteArray} {k : Int} (h : k < (s.size : Int)) (h1 : blk (bt s k) = true ∨ bt s k = 47) : ovr s k true = false := by
  have h62 : ¬ (bt s k = 62) := by
    rintro h62
    rw [h62] at h1
    rcases h1 with h1 | h1
    · simp [blk] at h1
    · omega
  simp [ovr, h62]; omega
theorem sep_tf (s : ByteArray) (d : Nat) : ∀ (k : Int) (b : Bool), ((s.size : Int) - k).toNat = d → sepF s true k b = sepF s false k b := by
  induction d with
  | zero => intro k b hd; rw [sepF_stop (.inl (by omega)), sepF_stop (.inl (by omega))]
  | succ d ih =>
    intro k b hd
    by_cases h : blk (bt s k) = true ∨ bt s k = 47
    · rw [sepF_go (by omega) (ovr_t (by omega) h) h, sepF_go (by omega) (ovr_f (by omega)) h]
      exact ih (k + 1) _ (by omega)
    · rw [sepF_stop (.inr (fun hh => h hh.2)), sepF_stop (.inr (fun hh => h hh.2))]
theorem sep_flag (s : ByteArray) (d : Nat) : ∀ (k : Int) (b : Bool), ((s.size : Int) - k).toNat = d → (sepF s false k b).2 = if (sepF s false k b).1 > k then (bt s ((sepF s false k b).1 - 1) == 47) else b := by
  induction d with
  | zero => intro k b hd; rw [sepF_stop (.inl (by omega)), if_neg (by simp only; omega)]
  | succ d ih =>
    intro k b hd
    by_cases h : blk (bt s k) = true ∨ bt s k = 47
    · rw [sepF_go (by omega) (ovr_f (by omega)) h]
      have hle := sepF_le (s := s) (e := false) _ (k + 1) (bt s k == 47) rfl (by omega)
      rw [ih (k + 1) _ (by omega)]
      by_cases c : (sepF s false (k + 1) (bt s k == 47)).1 > k + 1
      · rw [if_pos c, if_pos (by omega)]
      · have he : (sepF s false (k + 1) (bt s k == 47)).1 = k + 1 := by omega
        rw [if_neg c, if_pos (by omega), he, show k + 1 - 1 = k by omega]
    · rw [sepF_stop (.inr (fun hh => h hh.2)), if_neg (by simp only; omega)]
theorem sep_past (s : ByteArray) (d : Nat) : ∀ (k : Int), ((s.size : Int) - k).toNat = d → sepF s false (pastB s k) false = sepF s false k false := by
  induction d with
  | zero => intro k hd; rw [pastB_stop (.inl (by omega))]
  | succ d ih =>
    intro k hd
    by_cases h : blk (bt s k) = true
    · have h47 : (bt s k == 47) = false := by
        refine beq_eq_false_iff_ne.mpr (fun hh => ?_)
        rw [hh] at h
        simp [blk] at h
      rw [pastB_go (by omega) h, ih (k + 1) (by omega), sepF_go (k := k) (by omega) (ovr_f (by omega)) (.inl h), h47]
    · rw [pastB_stop (.inr (by simpa using h))]
theorem has_any (l : List (S53)) (nm : ByteArray) (hl : l.length ≤ 140737488351232) (d : Nat) : ∀ (j : Int), 0 ≤ j → l.length - j.toNat = d → j ≤ l.length → Ev (fun k => spec_l4Has.l0 k l nm j) ((l.drop j.toNat).any fun x => x.f0.toList == nm.toList) := by
  induction d with
  | zero =>
    intro j h0 hd hj
    rw [List.drop_of_length_le (by omega)]
    exact Ev.step (fun k => by simp only [spec_l4Has.l0]; rfl) (Ev.ifn (show ¬ j < (l.length : Int) by omega) (Ev.now _))
  | succ d ih =>
    intro j h0 hd hj
    have hjl : j.toNat < l.length := by omega
    have hw1 : wrap64 (j + 1) = j + 1 := by unfold wrap64; omega
    have hrd : rd_T53 l j = l[j.toNat] := by unfold rd_T53; rw [List.getD_eq_getElem?_getD, List.getElem?_eq_getElem hjl]; rfl
    rw [List.drop_eq_getElem_cons hjl, List.any_cons]
    refine Ev.step (fun k => by simp only [spec_l4Has.l0]; rfl) (Ev.ifp (show j < (l.length : Int) by omega) (Ev.ifp h0 ?_))
    rw [hrd, hw1]
    have ih2 := ih (j + 1) (by omega) (by omega) (by omega)
    rw [show (j + 1).toNat = j.toNat + 1 by omega] at ih2
    by_cases c : (l[j.toNat]).f0.toList = nm.toList
    · rw [show ((l[j.toNat]).f0.toList == nm.toList) = true from beq_iff_eq.mpr c, Bool.true_or]
      exact Ev.ifp c (Ev.now _)
    · rw [show ((l[j.toNat]).f0.toList == nm.toList) = false from beq_eq_false_iff_ne.mpr c, Bool.false_or]
      exact Ev.ifn c ih2
theorem ev_has (l : List (S53)) (nm : ByteArray) (hl : l.length ≤ 140737488351232) : Ev (fun k => spec_l4Has.f k l nm) (l.any fun x => x.f0.toList == nm.toList) := by
  have := has_any l nm hl l.length 0 (by omega) (by simp) (by omega)
  unfold spec_l4Has.f
  simpa using this
theorem nm_moreF {s : ByteArray} {j : Int} (h : j < (s.size : Int)) (h1 : blk (bt s j) = false) (h2 : bt s j ≠ 47) : nmF s false j j = nmF s false j (j + 1) := by
  refine nmF_go h (ovr_f h) ?_
  have : decide (j < j) = false := decide_eq_false (by omega)
  simp [inNm, h1, h2]
theorem extract_none (s : ByteArray) (a : Nat) : s.extract a a = ⟨#[]⟩ := by
  apply ByteArray.ext
  rw [ByteArray.data_extract]
  apply Array.ext'
  rw [Array.toList_extract, List.extract_eq_take_drop]
  simp
theorem ext_size (s : ByteArray) (a b : Nat) (h : b ≤ s.size) : (s.extract a b).size ≤ s.size := by rw [ByteArray.size_extract]; omega
theorem value_f (s : ByteArray) (ne : Int) (sa : Bool) (hm : s.size ≤ 1048576) (h0 : 0 ≤ ne) (h1 : ne ≤ s.size) :
    ∃ (t : ByteArray) (g : Bool) (q : Int), impl_tagger_value.f s ne false sa = some (t, g, s, q, false, sa) ∧ ne ≤ q ∧ q ≤ s.size ∧ t.size ≤ s.size ∧
      ((pastB s ne < (s.size : Int) ∧ bt s (pastB s ne) = 61 ∧ Ev (fun k => spec_l4Value.f k s (pastB s (pastB s ne + 1))) (t, q)) ∨ (¬ (pastB s ne < (s.size : Int) ∧ bt s (pastB s ne) = 61) ∧ t = ⟨#[]⟩ ∧ q = pastB s ne)) := by
  have hm' : s.size ≤ 140737488351232 := by omega
  unfold impl_tagger_value.f
  rw [if_pos ⟨h0, h1, hm'⟩]
  obtain ⟨c1, c2⟩ := pastB_le (s := s) _ ne rfl h1
  generalize pastB s ne = k1 at *
  by_cases c : k1 < (s.size : Int) ∧ bt s k1 = 61
  · rw [if_pos ⟨ovr_f c.1, c.2⟩]
    obtain ⟨d1, d2⟩ := pastB_le (s := s) _ (k1 + 1) rfl (by omega)
    generalize pastB s (k1 + 1) = k2 at *
    by_cases e1 : k2 < (s.size : Int)
    · have hb := bt_range s k2
      have hw : wrap64 (k2 + 1) = k2 + 1 := by unfold wrap64; omega
      rw [ovr_f e1, if_neg (by simp)]
      by_cases e2 : bt s k2 = 34 ∨ bt s k2 = 39
      · rw [if_pos e2, quoted_f s k2 false sa hm' (by omega) e1]
        have hj0 : ∀ r, Ev (fun k => spec_l4Value.j0 k s k2 true) r → Ev (fun k => spec_l4Value.f k s k2) r := by
          intro r hr
          unfold spec_l4Value.f
          refine Ev.ifp e1 (Ev.ifp (by omega) ?_)
          by_cases e3 : bt s k2 = 34
          · exact Ev.ifp e3 hr
          · have e4 : bt s k2 = 39 := e2.resolve_left e3
            rw [show (bt s k2 == 39) = true by rw [e4]; rfl]
            exact Ev.ifn e3 hr
        have hfn := ev_find s hm' (k2 + 1) (bt s k2) (by omega) (by omega)
        have hle := fnd_le (s := s) (c := bt s k2) _ (k2 + 1) rfl (by omega)
        generalize fndF s (k2 + 1) (bt s k2) = fn at *
        by_cases e5 : fn < 0
        · rw [if_pos e5]
          refine ⟨_, _, _, rfl, by omega, by omega, ext_size _ _ _ (Nat.le_refl _), .inl ⟨c.1, c.2, hj0 _ ?_⟩⟩
          refine Ev.step (fun k => by simp only [spec_l4Value.j0]; rfl) (Ev.ifp (rfl : true = true) (Ev.ifp (show 0 ≤ k2 by omega) (Ev.ifp e1 ?_)))
          rw [hw]
          exact Ev.bind hfn (Ev.ifn (show ¬ fn ≥ 0 by omega) (Ev.ifp (show 0 ≤ k2 + 1 by omega) (Ev.ifp (show k2 + 1 ≤ (s.size : Int) by omega) (Ev.now _))))
        · have hle2 := hle e5
          rw [if_neg e5]
          refine ⟨_, _, _, rfl, by omega, by omega, ext_size _ _ _ (by omega), .inl ⟨c.1, c.2, hj0 _ ?_⟩⟩
          refine Ev.step (fun k => by simp only [spec_l4Value.j0]; rfl) (Ev.ifp (rfl : true = true) (Ev.ifp (show 0 ≤ k2 by omega) (Ev.ifp e1 ?_)))
          rw [hw]
          refine Ev.bind hfn (Ev.ifp (show fn ≥ 0 by omega) (Ev.ifp (show 0 ≤ k2 + 1 by omega) (Ev.ifp (show k2 + 1 ≤ fn by omega) (Ev.ifp (show fn ≤ (s.size : Int) by omega) ?_))))
          rw [show wrap64 (fn + 1) = fn + 1 by unfold wrap64; omega]
          exact Ev.now _
      · rw [if_neg e2]
        have hpl := plF_le (s := s) (e := false) _ k2 rfl d2
        have evp := ev_plain s hm' k2 false (by omega) d2
        generalize plF s false k2 = q at *
        refine ⟨_, _, _, rfl, by omega, by omega, ext_size _ _ _ (by omega), .inl ⟨c.1, c.2, ?_⟩⟩
        unfold spec_l4Value.f
        refine Ev.ifp e1 (Ev.ifp (show 0 ≤ k2 by omega) (Ev.ifn (fun h => e2 (.inl h)) ?_))
        rw [show (bt s k2 == 39) = false from beq_eq_false_iff_ne.mpr (fun h => e2 (.inr h))]
        exact Ev.step (fun k => by simp only [spec_l4Value.j0]; rfl) (Ev.ifn (by simp) (Ev.bind evp (Ev.ifp (show 0 ≤ k2 by omega) (Ev.ifp hpl.1 (Ev.ifp hpl.2 (Ev.now _))))))
    · have ho : ovr s k2 false = true := by simp [ovr]; omega
      rw [if_pos ho]
      refine ⟨_, _, _, rfl, by omega, by omega, Nat.zero_le _, .inl ⟨c.1, c.2, ?_⟩⟩
      have evp := ev_plain s hm' k2 false (by omega) d2
      have hst : plF s false k2 = k2 := by rw [plF, if_neg e1]
      rw [hst] at evp
      unfold spec_l4Value.f
      refine Ev.ifn e1 (Ev.step (fun k => by simp only [spec_l4Value.j0]; rfl) (Ev.ifn (by simp) (Ev.bind evp (Ev.ifp (show 0 ≤ k2 by omega) (Ev.ifp (Int.le_refl _) (Ev.ifp d2 ?_))))))
      rw [extract_none]
      exact Ev.now _
  · have hn : ¬ (ovr s k1 false = false ∧ bt s k1 = 61) := fun h => c ⟨ovr_lt h.1, h.2⟩
    rw [if_neg hn]
    exact ⟨_, _, _, rfl, by omega, by omega, Nat.zero_le _, .inr ⟨c, rfl, rfl⟩⟩
end Go.Proofs.Ytlocaaebgghkbaa.A
namespace Go.Proofs.Ytlocaaebgghkbaa.A
open Go.RowKit Go.Proofs.YtlocaaebgghkbaaW.PrintWords Go.Proofs.YtlocaaebgghkbaaW.PrintLast Go.Proofs.YtlocaaebgghkbaaW.PrintMore
set_option linter.unusedVariables false
theorem refsB_nil (v : Bool) : refsB ⟨#[]⟩ v = ⟨#[]⟩ := by
  unfold refsB
  rw [refsF, if_neg (show ¬ ((0 : Int) < (((⟨#[]⟩ : ByteArray).size : Nat) : Int)) by show ¬ ((0 : Int) < ((0 : Nat) : Int)); omega)]
def smallB (s : ByteArray) : ByteArray := strOfNums ((bytesOf s).map lowB)
theorem implSmall_f (s : ByteArray) (h : s.size ≤ 140737488351232) : impl_Small.f s = some (smallB s) := by unfold impl_Small.f; rw [if_pos (by omega)]; rfl
theorem specSmall_f (s : ByteArray) (h : s.size ≤ 140737488351232) : spec_Small.f s = some (smallB s) := by unfold spec_Small.f; rw [if_pos (by omega)]; rfl
theorem implHas_f (l : List (S53)) (nm : ByteArray) (hl : l.length ≤ 140737488351232) : impl_hasAttr.f l nm = some (l.any fun x => x.f0.toList == nm.toList) := by unfold impl_hasAttr.f; rw [if_pos (by omega)]
theorem attrs_both (s : ByteArray) (hm : s.size ≤ 1048576) (d : Nat) : ∀ (j j' : Int) (out : List (S53)), 0 ≤ j → j ≤ j' → j' ≤ s.size → sepF s false j' false = sepF s false j false → ((s.size : Int) - j).toNat ≤ d → (out.length : Int) ≤ j →
    ∃ R : List (S53) × Bool, Ev (fun k => attL k s j' out) R ∧ Ev (fun k => spec_Attrs.l0 k s out false j) R ∧ (R.1.length : Int) ≤ s.size := by
  have hm' : s.size ≤ 140737488351232 := by omega
  have base : ∀ (j j' : Int) (out : List (S53)), 0 ≤ j → j ≤ j' → j' ≤ s.size → sepF s false j' false = sepF s false j false → ¬ j < (s.size : Int) → (out.length : Int) ≤ j →
      ∃ R : List (S53) × Bool, Ev (fun k => attL k s j' out) R ∧ Ev (fun k => spec_Attrs.l0 k s out false j) R ∧ (R.1.length : Int) ≤ s.size := by
    intro j j' out h0 hjj hj' hsp hd hl
    refine ⟨(out, false), ?_, ?_, by simp only; omega⟩
    · refine Ev.step (fun k => by simp only [attL]; rfl) (Ev.ifp (show 0 ≤ j' ∧ j' ≤ (s.size : Int) ∧ s.size ≤ 140737488351232 from ⟨by omega, hj', hm'⟩) ?_)
      rw [sepF_stop (s := s) (e := false) (k := j') (sl := false) (.inl (by omega))]
      exact Ev.ifp (by simp [ovr]; omega) (Ev.now _)
    · exact Ev.step (fun k => by simp only [spec_Attrs.l0]; rfl) (Ev.ifn hd (Ev.now _))
  induction d with
  | zero => intro j j' out h0 hjj hj' hsp hd hl; exact base j j' out h0 hjj hj' hsp (by omega) hl
  | succ d ih =>
    intro j j' out h0 hjj hj' hsp hd hl
    by_cases hj : j < (s.size : Int)
    case neg => exact base j j' out h0 hjj hj' hsp hj hl
    have evs := ev_skip s hm' j false h0 (by omega)
    rw [sep_tf s _ j false rfl] at evs
    have hle := sepF_le (s := s) (e := false) _ j false rfl (by omega)
    have hfl := sep_flag s _ j false rfl
    have hat := sep_at (s := s) (e := false) _ j false rfl (by omega)
    have impl : ∀ R, Ev (fun n => (if ovr s (sepF s false j false).1 false = true then some (out, (sepF s false j false).2)
      else (impl_Small.f (s.extract (sepF s false j false).1.toNat (nmF s false (sepF s false j false).1 (sepF s false j false).1).toNat)).bind fun nm =>
        (impl_tagger_value.f s (nmF s false (sepF s false j false).1 (sepF s false j false).1) false (sepF s false j false).2).bind fun v =>
        (if v.2.2.1 = s ∧ v.2.2.2.2.1 = false then
          (impl_hasAttr.f out nm).bind fun b =>
            (if b = true then attL n s v.2.2.2.1 out
            else (impl_Refs.f n v.1 true).bind fun rv => (if out.length < 4398046511104 then attL n s v.2.2.2.1 (out ++ [⟨nm, rv⟩]) else none))
        else none))) R → Ev (fun k => attL k s j' out) R := by
      intro R hR
      refine Ev.step (fun k => by simp only [attL]; rfl) (Ev.ifp (show 0 ≤ j' ∧ j' ≤ (s.size : Int) ∧ s.size ≤ 140737488351232 from ⟨by omega, hj', hm'⟩) ?_)
      rw [hsp]
      exact hR
    generalize sepF s false j false = J at *
    obtain ⟨ja, sa⟩ := J
    simp only at evs hle hfl hat impl
    have hw1 : wrap64 (ja - 1) = ja - 1 := by unfold wrap64; omega
    by_cases hja : ja = s.size
    · refine ⟨(out, sa), impl _ (Ev.ifp (by simp [ovr]; omega) (Ev.now _)), ?_, by simp only; omega⟩
      rw [if_pos (by omega)] at hfl
      refine Ev.step (fun k => by simp only [spec_Attrs.l0]; rfl) (Ev.ifp hj (Ev.bind evs (Ev.ifp hja (Ev.ifp (show ja > j by omega) ?_))))
      rw [hw1, ← hfl]
      refine Ev.ifp (show 0 ≤ ja - 1 by omega) (Ev.ifp (show ja - 1 < (s.size : Int) by omega) ?_)
      exact Ev.step (fun k => by simp only [spec_Attrs.j1]; rfl) (Ev.ifp hja (Ev.now _))
    have hjl : ja < (s.size : Int) := by omega
    obtain ⟨b1, b2⟩ := hat (ovr_f hjl)
    have evn := ev_name s hm' ja false (by omega) (by omega)
    have hnl := nmF_le (s := s) (e := false) (f := ja) _ (ja + 1) rfl (by omega)
    rw [← nm_moreF hjl b1 b2] at hnl
    generalize nmF s false ja ja = ne at *
    obtain ⟨t, g, q, hv, q1, q2, tsz, hcase⟩ := value_f s ne sa hm (by omega) hnl.2
    have hnm := implSmall_f (s.extract ja.toNat ne.toNat) (by rw [ByteArray.size_extract]; omega)
    have hnm2 := specSmall_f (s.extract ja.toNat ne.toNat) (by rw [ByteArray.size_extract]; omega)
    generalize smallB (s.extract ja.toNat ne.toNat) = nm at *
    have hhas := implHas_f out nm (by omega)
    have evh := ev_has out nm (by omega)
    generalize (out.any fun x => x.f0.toList == nm.toList) = hb at *
    have evb := ev_blanks s hm' ne (by omega) hnl.2
    obtain ⟨c1, c2⟩ := pastB_le (s := s) _ ne rfl hnl.2
    have hpast := sep_past s _ ne rfl
    have ho : ¬ (ovr s ja false = true) := by rw [ovr_f hjl]; simp
    have evr := ev_implRefs t true (by omega)
    have evr2 := ev_specRefs t true (by omega)
    -- where both go on
    have next : ∀ (sj : Int) (out' : List (S53)), (sj = q ∨ (sj = ne ∧ q = pastB s ne)) → (out'.length : Int) ≤ ne →
        ∃ R : List (S53) × Bool, Ev (fun k => attL k s q out') R ∧ Ev (fun k => spec_Attrs.l0 k s out' false sj) R ∧ (R.1.length : Int) ≤ s.size := by
      intro sj out' hs' hl'
      refine ih sj q out' (by omega) (by omega) (by omega) ?_ (by omega) (by omega)
      rcases hs' with rfl | ⟨rfl, rfl⟩
      · rfl
      · exact hpast
    have im1 : ∀ R, hb = true → Ev (fun k => attL k s q out) R → Ev (fun k => attL k s j' out) R := by
      intro R hbt hR
      refine impl R (Ev.ifn ho (Ev.bindc hnm (Ev.bindc hv (Ev.ifp (show s = s ∧ false = false from ⟨rfl, rfl⟩) (Ev.bindc hhas ?_)))))
      rw [hbt]
      exact Ev.ifp (rfl : true = true) hR
    have im2 : ∀ R, hb = false → Ev (fun k => attL k s q (out ++ [⟨nm, refsB t true⟩])) R → Ev (fun k => attL k s j' out) R := by
      intro R hbt hR
      refine impl R (Ev.ifn ho (Ev.bindc hnm (Ev.bindc hv (Ev.ifp (show s = s ∧ false = false from ⟨rfl, rfl⟩) (Ev.bindc hhas ?_)))))
      rw [hbt]
      exact Ev.ifn (by simp) (Ev.bind evr (Ev.ifp (show out.length < 4398046511104 by omega) hR))
    have sp : ∀ R, Ev (fun k => spec_Attrs.j1 k s out false ja) R → Ev (fun k => spec_Attrs.l0 k s out false j) R := by
      intro R hR
      exact Ev.step (fun k => by simp only [spec_Attrs.l0]; rfl) (Ev.ifp hj (Ev.bind evs (Ev.ifn hja hR)))
    have sp2 : ∀ R, Ev (fun k => if pastB s ne < (s.size : Int) then (if 0 ≤ pastB s ne then (spec_Attrs.j2 k s out false ne (pastB s ne) ((bt s (pastB s ne)) == 61) nm (⟨#[]⟩ : ByteArray)) else (none)) else (spec_Attrs.j2 k s out false ne (pastB s ne) false nm (⟨#[]⟩ : ByteArray))) R → Ev (fun k => spec_Attrs.j1 k s out false ja) R := by
      intro R hR
      exact Ev.step (fun k => by simp only [spec_Attrs.j1]; rfl) (Ev.ifn hja (Ev.bind evn (Ev.ifp (show 0 ≤ ja by omega) (Ev.ifp (show ja ≤ ne by omega) (Ev.ifp hnl.2 (Ev.bindc hnm2 (Ev.bind evb hR)))))))
    have hlen : ((out ++ [(⟨nm, refsB t true⟩ : S53)]).length : Int) ≤ ne := by rw [List.length_append, List.length_singleton]; omega
    rcases hcase with ⟨e1, e2, evv⟩ | ⟨e1, rfl, hq⟩
    · have hw2 : wrap64 (pastB s ne + 1) = pastB s ne + 1 := by unfold wrap64; omega
      have evb2 := ev_blanks s hm' (pastB s ne + 1) (by omega) (by omega)
      have j2 : ∀ R, Ev (fun k => (if hb = true then (spec_Attrs.l0 k s out false q) else (if out.length < 4398046511104 then (spec_Attrs.l0 k s (out ++ [(⟨nm, refsB t true⟩ : S53)]) false q) else (none)))) R → Ev (fun k => spec_Attrs.l0 k s out false j) R := by
        intro R hR
        refine sp R (sp2 R (Ev.ifp e1 (Ev.ifp (show 0 ≤ pastB s ne by omega) ?_)))
        rw [show (bt s (pastB s ne) == 61) = true by rw [e2]; rfl]
        refine Ev.step (fun k => by simp only [spec_Attrs.j2]; rfl) (Ev.ifp (rfl : true = true) ?_)
        rw [hw2]
        exact Ev.bind evb2 (Ev.bind evv (Ev.bind evr2 (Ev.bind evh hR)))
      by_cases hbt : hb = true
      · obtain ⟨R, r1, r2, r3⟩ := next q out (.inl rfl) (by omega)
        exact ⟨R, im1 R hbt r1, j2 R (Ev.ifp hbt r2), r3⟩
      · obtain ⟨R, r1, r2, r3⟩ := next q _ (.inl rfl) hlen
        exact ⟨R, im2 R (Bool.eq_false_iff.mpr hbt) r1, j2 R (Ev.ifn hbt (Ev.ifp (show out.length < 4398046511104 by omega) r2)), r3⟩
    · rw [refsB_nil] at hlen im2
      have j2 : ∀ R, Ev (fun k => (if hb = true then (spec_Attrs.l0 k s out false ne) else (if out.length < 4398046511104 then (spec_Attrs.l0 k s (out ++ [(⟨nm, ⟨#[]⟩⟩ : S53)]) false ne) else (none)))) R → Ev (fun k => spec_Attrs.l0 k s out false j) R := by
        intro R hR
        have jj : Ev (fun k => spec_Attrs.j2 k s out false ne (pastB s ne) false nm (⟨#[]⟩ : ByteArray)) R :=
          Ev.step (fun k => by simp only [spec_Attrs.j2]; rfl) (Ev.ifn (by simp) (Ev.bind evh hR))
        refine sp R (sp2 R ?_)
        by_cases hk : pastB s ne < (s.size : Int)
        · refine Ev.ifp hk (Ev.ifp (show 0 ≤ pastB s ne by omega) ?_)
          rw [show (bt s (pastB s ne) == 61) = false from beq_eq_false_iff_ne.mpr (fun h => e1 ⟨hk, h⟩)]
          exact jj
        · exact Ev.ifn hk jj
      by_cases hbt : hb = true
      · obtain ⟨R, r1, r2, r3⟩ := next ne out (.inr ⟨rfl, hq⟩) (by omega)
        exact ⟨R, im1 R hbt r1, j2 R (Ev.ifp hbt r2), r3⟩
      · obtain ⟨R, r1, r2, r3⟩ := next ne _ (.inr ⟨rfl, hq⟩) hlen
        exact ⟨R, im2 R (Bool.eq_false_iff.mpr hbt) r1, j2 R (Ev.ifn hbt (Ev.ifp (show out.length < 4398046511104 by omega) r2)), r3⟩
theorem Attrs_both (s : ByteArray) (hm : s.size ≤ 1048576) : ∃ R : List (S53) × Bool, Ev (fun k => impl_Attrs.f k s) R ∧ Ev (fun k => spec_Attrs.f k s) R ∧ (R.1.length : Int) ≤ s.size :=
  attrs_both s hm s.size 0 0 [] (by omega) (by omega) (by omega) rfl (by omega) (by simp)
end Go.Proofs.Ytlocaaebgghkbaa.A
namespace Go.Proofs.Ytlocaaebgghkbaa.A
open Go.RowKit Go.Proofs.YtlocaaebgghkbaaW.PrintWords Go.Proofs.YtlocaaebgghkbaaW.PrintLast Go.Proofs.YtlocaaebgghkbaaW.PrintMore
set_option linter.unusedVariables false
theorem raw_both (n : ByteArray) (h : n ∈ rawWords) : ∃ b, impl_Raw.f n = some b ∧ spec_Raw.f n = some b := by
  simp only [rawWords, List.mem_cons, List.not_mem_nil, or_false] at h
  rcases h with rfl | rfl | rfl | rfl | rfl | rfl | rfl
  · exact ⟨true, by decide +kernel, by decide +kernel⟩
  · exact ⟨true, by decide +kernel, by decide +kernel⟩
  · exact ⟨true, by decide +kernel, by decide +kernel⟩
  · exact ⟨true, by decide +kernel, by decide +kernel⟩
  · exact ⟨false, by decide +kernel, by decide +kernel⟩
  · exact ⟨false, by decide +kernel, by decide +kernel⟩
  · exact ⟨false, by decide +kernel, by decide +kernel⟩
def low8 (b : UInt8) : UInt8 := if 65 ≤ b.toNat ∧ b.toNat ≤ 90 then b + 32 else b
theorem lowB_low8 (b : UInt8) : lowB (b.toNat : Int) = ((low8 b).toNat : Int) := by
  have h : ∀ n : Fin 256, lowB (((UInt8.ofNat n.val).toNat : Nat) : Int) = ((low8 (UInt8.ofNat n.val)).toNat : Int) := by decide +kernel
  have := h ⟨b.toNat, b.toNat_lt⟩
  simpa using this
theorem small_list (s : ByteArray) : (smallB s).toList = s.data.toList.map low8 := by
  rw [ByteArray.toList_eq]
  unfold smallB strOfNums bytesOf
  simp only [List.map_map]
  rw [List.map_congr_left (g := low8)]
  intro b hb
  show UInt8.ofNat (lowB (b.toNat : Int)).toNat = low8 b
  rw [lowB_low8]
  simp
theorem small_size (s : ByteArray) : (smallB s).size = s.size := by
  rw [← data_length, ← ByteArray.toList_eq, small_list, List.length_map, data_length]
theorem low8_60 (b : UInt8) : low8 b = 60 ↔ b = 60 := by
  have h : ∀ n : Fin 256, low8 (UInt8.ofNat n.val) = 60 ↔ UInt8.ofNat n.val = 60 := by decide +kernel
  have := h ⟨b.toNat, b.toNat_lt⟩
  simpa using this
theorem low8_47 (b : UInt8) : low8 b = 47 ↔ b = 47 := by
  have h : ∀ n : Fin 256, low8 (UInt8.ofNat n.val) = 47 ↔ UInt8.ofNat n.val = 47 := by decide +kernel
  have := h ⟨b.toNat, b.toNat_lt⟩
  simpa using this
theorem bt_get (s : ByteArray) (i : Nat) (h : i < s.size) (c : UInt8) : bt s (i : Int) = (c.toNat : Int) ↔ s[i] = c := by
  have := bt_at s (i : Int) (by simpa using h)
  rw [← this]
  constructor
  · intro e
    have : (s[(i : Int).toNat]'(by simpa using h)).toNat = c.toNat := by omega
    exact UInt8.toNat.inj this
  · intro e
    subst e
    rfl
theorem begin_iff (s nm : ByteArray) (i : Nat) (hs : i + 2 + nm.size < s.size) :
    (smallB (s.extract i (i + 2 + nm.size))).toList = ((⟨#[60, 47]⟩ : ByteArray) ++ smallB nm).toList ↔
    (bt s (i : Int) = 60 ∧ bt s ((i + 1 : Nat) : Int) = 47) ∧ (smallB (s.extract (i + 2) (i + 2 + nm.size))).toList = (smallB nm).toList := by
  have e1 : ((⟨#[60, 47]⟩ : ByteArray) ++ smallB nm).toList = 60 :: 47 :: (smallB nm).toList := by
    rw [ByteArray.toList_eq, ByteArray.toList_eq, ByteArray.data_append, Array.toList_append]
    rfl
  have e2 : (s.extract i (i + 2 + nm.size)).data.toList = s[i] :: s[i + 1] :: (s.extract (i + 2) (i + 2 + nm.size)).data.toList := by
    rw [extract_list, extract_list, drop_cons s i (by omega), drop_cons s (i + 1) (by omega)]
    rw [show i + 2 + nm.size - i = nm.size + 1 + 1 by omega, show i + 2 + nm.size - (i + 2) = nm.size by omega]
    rfl
  have c0 : bt s (i : Int) = 60 ↔ s[i] = 60 := bt_get s i (by omega) 60
  have c1 : bt s ((i + 1 : Nat) : Int) = 47 ↔ s[i + 1] = 47 := bt_get s (i + 1) (by omega) 47
  rw [e1, small_list, e2, small_list, small_list, List.map_cons, List.map_cons, List.cons.injEq, List.cons.injEq, low8_60, low8_47, c0, c1]
  exact and_assoc.symm
theorem rawEnd_l (s nm : ByteArray) (hs : s.size ≤ 1048576) (hn : nm.size ≤ 1048576) (d : Nat) : ∀ i : Nat, i ≤ 2000000 → s.size - i ≤ d →
    ∃ r, Ev (fun k => impl_RawEnd.l0 k s ((⟨#[60, 47]⟩ : ByteArray) ++ smallB nm) (i : Int)) r ∧ Ev (fun k => spec_RawEnd.l0 k s nm (nm.size : Int) (i : Int)) r := by
  have hz : ((⟨#[60, 47]⟩ : ByteArray) ++ smallB nm).size = 2 + nm.size := by rw [ByteArray.size_append, small_size]; rfl
  induction d with
  | zero =>
    intro i hi hd
    have w1 : wrap64 ((i : Int) + (((⟨#[60, 47]⟩ : ByteArray) ++ smallB nm).size : Int)) = ((i + 2 + nm.size : Nat) : Int) := by rw [hz]; unfold wrap64; omega
    have w2 : wrap64 (wrap64 ((i : Int) + 2) + (nm.size : Int)) = ((i + 2 + nm.size : Nat) : Int) := by unfold wrap64; omega
    refine ⟨(s.size : Int), Ev.step (fun k => by simp only [impl_RawEnd.l0]; rfl) ?_, Ev.step (fun k => by simp only [spec_RawEnd.l0]; rfl) ?_⟩
    · rw [w1]; exact Ev.ifn (by omega) (Ev.now _)
    · rw [w2]; exact Ev.ifn (by omega) (Ev.now _)
  | succ d ih =>
    intro i hi hd
    have w1 : wrap64 ((i : Int) + (((⟨#[60, 47]⟩ : ByteArray) ++ smallB nm).size : Int)) = ((i + 2 + nm.size : Nat) : Int) := by rw [hz]; unfold wrap64; omega
    have w2 : wrap64 (((i + 2 : Nat) : Int) + (nm.size : Int)) = ((i + 2 + nm.size : Nat) : Int) := by unfold wrap64; omega
    have w3 : wrap64 ((i : Int) + 2) = ((i + 2 : Nat) : Int) := by unfold wrap64; omega
    have w4 : wrap64 ((i : Int) + 1) = ((i + 1 : Nat) : Int) := by unfold wrap64; omega
    by_cases c : i + 2 + nm.size < s.size
    case neg =>
      refine ⟨(s.size : Int), Ev.step (fun k => by simp only [impl_RawEnd.l0]; rfl) ?_, Ev.step (fun k => by simp only [spec_RawEnd.l0]; rfl) ?_⟩
      · rw [w1]; exact Ev.ifn (by omega) (Ev.now _)
      · rw [w3, w2]; exact Ev.ifn (by omega) (Ev.now _)
    obtain ⟨r, f1, f2⟩ := ih (i + 1) (by omega) (by omega)
    have hb := begin_iff s nm i c
    have hx := ext_size s i (i + 2 + nm.size) (by omega)
    have hx2 := ext_size s (i + 2) (i + 2 + nm.size) (by omega)
    have hr := bt_range s ((i + 2 + nm.size : Nat) : Int)
    by_cases c1 : bt s (i : Int) = 60
    case neg =>
      refine ⟨r, Ev.step (fun k => by simp only [impl_RawEnd.l0]; rfl) ?_, Ev.step (fun k => by simp only [spec_RawEnd.l0]; rfl) ?_⟩
      · rw [w1, w4]; exact Ev.ifp (by omega) (Ev.ifp (by omega) (Ev.ifp (by omega) (Ev.ifp (by omega) (Ev.ifn c1 f1))))
      · rw [w3, w2, w4]; exact Ev.ifp (by omega) (Ev.ifp (by omega) (Ev.ifp (by omega) (Ev.ifn c1 f2)))
    by_cases c2 : bt s ((i + 1 : Nat) : Int) = 47 ∧ (smallB (s.extract (i + 2) (i + 2 + nm.size))).toList = (smallB nm).toList
    case neg =>
      have hb' : ¬ (smallB (s.extract i (i + 2 + nm.size))).toList = ((⟨#[60, 47]⟩ : ByteArray) ++ smallB nm).toList := fun e => c2 ⟨(hb.mp e).1.2, (hb.mp e).2⟩
      refine ⟨r, Ev.step (fun k => by simp only [impl_RawEnd.l0]; rfl) ?_, Ev.step (fun k => by simp only [spec_RawEnd.l0]; rfl) ?_⟩
      · rw [w1, w4]
        refine Ev.ifp (by omega) (Ev.ifp (by omega) (Ev.ifp (by omega) (Ev.ifp (by omega) (Ev.ifp c1 (Ev.ifp (by omega) (Ev.ifp (by omega) ?_))))))
        rw [Int.toNat_natCast, Int.toNat_natCast]
        exact Ev.bindc (implSmall_f _ (by omega)) (Ev.ifn hb' f1)
      · rw [w3, w2, w4]
        refine Ev.ifp (by omega) (Ev.ifp (by omega) (Ev.ifp (by omega) (Ev.ifp c1 (Ev.ifp (by omega) (Ev.ifp (by omega) ?_)))))
        by_cases c3 : bt s ((i + 1 : Nat) : Int) = 47
        · refine Ev.ifp c3 (Ev.ifp (by omega) (Ev.ifp (by omega) (Ev.ifp (by omega) ?_)))
          rw [Int.toNat_natCast, Int.toNat_natCast]
          exact Ev.bindc (specSmall_f _ (by omega)) (Ev.bindc (specSmall_f _ (by omega)) (Ev.ifn (fun e => c2 ⟨c3, e⟩) f2))
        · exact Ev.ifn c3 f2
    have hb' := hb.mpr ⟨⟨c1, c2.1⟩, c2.2⟩
    have key : ∀ q, ((blk (bt s ((i + 2 + nm.size : Nat) : Int)) = true ∨ bt s ((i + 2 + nm.size : Nat) : Int) = 47 ∨ bt s ((i + 2 + nm.size : Nat) : Int) = 62) → q = (i : Int)) → (¬ (blk (bt s ((i + 2 + nm.size : Nat) : Int)) = true ∨ bt s ((i + 2 + nm.size : Nat) : Int) = 47 ∨ bt s ((i + 2 + nm.size : Nat) : Int) = 62) → q = r) →
        Ev (fun k => impl_RawEnd.l0 k s ((⟨#[60, 47]⟩ : ByteArray) ++ smallB nm) (i : Int)) q ∧ Ev (fun k => spec_RawEnd.l0 k s nm (nm.size : Int) (i : Int)) q := by
      intro q h1 h2
      refine ⟨Ev.step (fun k => by simp only [impl_RawEnd.l0]; rfl) ?_, Ev.step (fun k => by simp only [spec_RawEnd.l0]; rfl) ?_⟩
      · rw [w1, w4]
        refine Ev.ifp (by omega) (Ev.ifp (by omega) (Ev.ifp (by omega) (Ev.ifp (by omega) (Ev.ifp c1 (Ev.ifp (by omega) (Ev.ifp (by omega) ?_))))))
        rw [Int.toNat_natCast, Int.toNat_natCast]
        refine Ev.bindc (implSmall_f _ (by omega)) (Ev.ifp hb' (Ev.bindc (isBlankByte_f _ hr.1 hr.2) ?_))
        by_cases d1 : blk (bt s ((i + 2 + nm.size : Nat) : Int)) = true
        · obtain rfl := h1 (.inl d1); exact Ev.ifp d1 (Ev.now _)
        refine Ev.ifn d1 ?_
        by_cases d2 : bt s ((i + 2 + nm.size : Nat) : Int) = 47
        · obtain rfl := h1 (.inr (.inl d2)); exact Ev.ifp d2 (Ev.now _)
        refine Ev.ifn d2 ?_
        by_cases d3 : bt s ((i + 2 + nm.size : Nat) : Int) = 62
        · obtain rfl := h1 (.inr (.inr d3)); exact Ev.ifp d3 (Ev.now _)
        obtain rfl := h2 (fun e => e.elim d1 (fun e => e.elim d2 d3))
        exact Ev.ifn d3 f1
      · rw [w3, w2, w4]
        refine Ev.ifp (by omega) (Ev.ifp (by omega) (Ev.ifp (by omega) (Ev.ifp c1 (Ev.ifp (by omega) (Ev.ifp (by omega) (Ev.ifp c2.1 (Ev.ifp (by omega) (Ev.ifp (by omega) (Ev.ifp (by omega) ?_)))))))))
        rw [Int.toNat_natCast, Int.toNat_natCast]
        refine Ev.bindc (specSmall_f _ (by omega)) (Ev.bindc (specSmall_f _ (by omega)) (Ev.ifp c2.2 (Ev.ifp (by omega) (Ev.bindc (l4Blank_f _ hr.1 hr.2) ?_))))
        by_cases d1 : blk (bt s ((i + 2 + nm.size : Nat) : Int)) = true
        · obtain rfl := h1 (.inl d1); exact Ev.ifp d1 (Ev.now _)
        refine Ev.ifn d1 ?_
        by_cases d2 : bt s ((i + 2 + nm.size : Nat) : Int) = 47
        · obtain rfl := h1 (.inr (.inl d2)); exact Ev.ifp d2 (Ev.now _)
        refine Ev.ifn d2 ?_
        by_cases d3 : bt s ((i + 2 + nm.size : Nat) : Int) = 62
        · obtain rfl := h1 (.inr (.inr d3)); exact Ev.ifp d3 (Ev.now _)
        obtain rfl := h2 (fun e => e.elim d1 (fun e => e.elim d2 d3))
        exact Ev.ifn d3 f2
    by_cases g : blk (bt s ((i + 2 + nm.size : Nat) : Int)) = true ∨ bt s ((i + 2 + nm.size : Nat) : Int) = 47 ∨ bt s ((i + 2 + nm.size : Nat) : Int) = 62
    · exact ⟨_, key (i : Int) (fun _ => rfl) (fun h => absurd g h)⟩
    · exact ⟨_, key r (fun h => absurd h g) (fun _ => rfl)⟩
theorem RawEnd_both (s nm : ByteArray) (i : Int) (hs : s.size ≤ 1000) (hn : nm.size ≤ 1000) (h0 : -1 ≤ i) (h1 : i ≤ 1000) :
    ∃ r, Ev (fun k => impl_RawEnd.f k s i nm) r ∧ Ev (fun k => spec_RawEnd.f k s i nm) r := by
  have hm : mx i 0 = ((max i 0).toNat : Int) := by unfold mx; omega
  have hz : (smallB nm).size = nm.size := small_size nm
  obtain ⟨r, f1, f2⟩ := rawEnd_l s nm (by omega) (by omega) _ (max i 0).toNat (by omega) (Nat.le_refl _)
  by_cases c : i ≥ (s.size : Int)
  · refine ⟨(s.size : Int), ?_, Ev.ifp c (Ev.now _)⟩
    unfold impl_RawEnd.f
    refine Ev.bindc (implSmall_f nm (by omega)) (Ev.ifp (by omega) ?_)
    rw [hm]
    refine Ev.step (fun k => by simp only [impl_RawEnd.l0]; rfl) (Ev.ifn ?_ (Ev.now _))
    rw [ByteArray.size_append, hz, show (⟨#[60, 47]⟩ : ByteArray).size = 2 from rfl]
    unfold wrap64
    omega
  · refine ⟨r, ?_, Ev.ifn c (Ev.bindc (a := max i 0) ?_ ?_)⟩
    · unfold impl_RawEnd.f
      refine Ev.bindc (implSmall_f nm (by omega)) (Ev.ifp (by omega) ?_)
      rw [hm]
      exact f1
    · unfold spec_l1Max.f
      by_cases h : i > 0
      · rw [if_pos h]; congr 1; omega
      · rw [if_neg h]; congr 1; omega
    · rw [show max i 0 = ((max i 0).toNat : Int) by omega]
      exact f2
end Go.Proofs.Ytlocaaebgghkbaa.A
namespace Go.Proofs.Ytlocaaebgghkbaa.A
open Go.RowKit Go.Proofs.YtlocaaebgghkbaaW.PrintWords Go.Proofs.YtlocaaebgghkbaaW.PrintLast Go.Proofs.YtlocaaebgghkbaaW.PrintMore
set_option linter.unusedVariables false
theorem l4Tag_l (s : ByteArray) (hm : s.size ≤ 140737488351232) (d : Nat) : ∀ (k : Nat) (i : Int), 0 ≤ i → i ≤ s.size → ((s.size : Int) - i).toNat = d → d < k → spec_l4Tag.l0 k s i = some (tnE s i) := by
  induction d with
  | zero =>
    intro k i h0 h1 hd hk
    obtain ⟨k, rfl⟩ : ∃ m, k = m + 1 := ⟨k - 1, by omega⟩
    simp only [spec_l4Tag.l0]
    rw [if_neg (by omega), tnE_stop (.inl (by omega))]
  | succ d ih =>
    intro k i h0 h1 hd hk
    obtain ⟨k, rfl⟩ : ∃ m, k = m + 1 := ⟨k - 1, by omega⟩
    have hr := bt_range s i
    simp only [spec_l4Tag.l0]
    rw [if_pos (by omega), if_pos h0, l4Blank_f _ hr.1 hr.2]
    simp only [Option.bind_some]
    by_cases c1 : blk (bt s i) = true
    · rw [if_pos c1, tnE_stop (.inr (by simp [inTn, c1]))]
    rw [if_neg c1]
    have c1' : blk (bt s i) = false := by simpa using c1
    by_cases c2 : bt s i = 47
    · rw [if_pos c2, tnE_stop (.inr (by simp [inTn, c2]))]
    rw [if_neg c2]
    by_cases c3 : bt s i = 62
    · rw [if_pos c3, tnE_stop (.inr (by simp [inTn, c3]))]
    rw [if_neg c3, w1 h0 h1 hm, tnE_go (by omega) (by simp [inTn, c1', c2, c3])]
    exact ih k (i + 1) (by omega) (by omega) (by omega) (by omega)
theorem ev_tag (s : ByteArray) (hm : s.size ≤ 140737488351232) (i : Int) (h0 : 0 ≤ i) (h1 : i ≤ s.size) : Ev (fun k => spec_l4Tag.f k s i) (tnE s i) :=
  Ev.of (spec_l4Tag.mono s i) (k := ((s.size : Int) - i).toNat + 1) (l4Tag_l s hm _ _ i h0 h1 rfl (Nat.lt_succ_self _))
theorem tag_both (s : ByteArray) (hm : s.size ≤ 140737488351232) (d : Nat) : ∀ (j : Int) (sl : Bool), 0 ≤ j → j ≤ s.size → ((s.size : Int) - j).toNat ≤ d → ∀ m, d < m →
    ∃ r, tagL m s j sl = some r ∧ Ev (fun k => spec_TagEnd.l0 k s j) r := by
  induction d with
  | zero =>
    intro j sl h0 h1 hd m hk
    obtain ⟨m, rfl⟩ : ∃ q, m = q + 1 := ⟨m - 1, by omega⟩
    have hj : j = s.size := by omega
    have hs : sepF s true j sl = (j, sl) := sepF_stop (.inl (by omega))
    have ho : ovr s j true = true := by simp [ovr, hj]
    refine ⟨-1, ?_, ?_⟩
    · simp only [tagL]
      rw [if_pos ⟨h0, h1, hm⟩, hs, if_pos ho, if_pos (by omega)]
    · refine Ev.step (fun k => by simp only [spec_TagEnd.l0]; rfl) (Ev.bind (ev_skip s hm j sl h0 h1) ?_)
      rw [hs]
      exact Ev.congr (fun k => if_pos (show j ≥ (s.size : Int) by omega)) (Ev.now _)
  | succ d ih =>
    intro j sl h0 h1 hd m hk
    obtain ⟨m, rfl⟩ : ∃ q, m = q + 1 := ⟨m - 1, by omega⟩
    obtain ⟨a1, a2⟩ := sepF_le (s := s) (e := true) _ j sl rfl h1
    have hat := sep_at (s := s) (e := true) _ j sl rfl h1
    have hev := ev_skip s hm j sl h0 h1
    have step : ∀ r, Ev (fun k => if (sepF s true j sl).1 ≥ (s.size : Int) then (some (-1)) else (if 0 ≤ (sepF s true j sl).1 then (if (sepF s true j sl).1 < (s.size : Int) then (if (bt s (sepF s true j sl).1) = 62 then (some (sepF s true j sl).1) else ((spec_l4Name.f k s (sepF s true j sl).1 true).bind fun t110 => ((spec_l4Blanks.f k s t110).bind fun t111 => (if t111 ≥ (s.size : Int) then (spec_TagEnd.j2 k s t111 true) else (if 0 ≤ t111 then (if t111 < (s.size : Int) then (spec_TagEnd.j2 k s t111 ((bt s t111) != 61)) else (none)) else (none)))))) else (none)) else (none))) r → Ev (fun k => spec_TagEnd.l0 k s j) r := fun r hr =>
      Ev.step (fun k => by simp only [spec_TagEnd.l0]; rfl) (Ev.bind hev hr)
    have impl : ∀ v, (if ovr s (sepF s true j sl).1 true = true then (if (sepF s true j sl).1 ≥ s.size then some (-1) else some (sepF s true j sl).1) else (impl_tagger_value.f s (nmF s true (sepF s true j sl).1 (sepF s true j sl).1) true (sepF s true j sl).2).bind fun v => if v.2.1 = true then (if v.2.2.1 = s ∧ v.2.2.2.2.1 = true then tagL m s v.2.2.2.1 v.2.2.2.2.2 else none) else some (-1)) = v → tagL (m + 1) s j sl = v := fun v hv => by
      simp only [tagL]; rw [if_pos ⟨h0, h1, hm⟩]; exact hv
    generalize (sepF s true j sl).2 = sa at *
    generalize (sepF s true j sl).1 = j1 at *
    have j10 : 0 ≤ j1 := by omega
    by_cases ho : ovr s j1 true = true
    · by_cases hz : j1 ≥ (s.size : Int)
      · exact ⟨-1, impl _ (by rw [if_pos ho, if_pos hz]), step _ (Ev.congr (fun k => if_pos hz) (Ev.now _))⟩
      · have h62 : bt s j1 = 62 := by
          have hd0 : decide ((s.size : Int) ≤ j1) = false := decide_eq_false (by omega)
          simpa [ovr, hd0] using ho
        exact ⟨j1, impl _ (by rw [if_pos ho, if_neg hz]), step _ (Ev.congr (fun k => by rw [if_neg hz, if_pos j10, if_pos (by omega), if_pos h62]) (Ev.now _))⟩
    have ho' : ovr s j1 true = false := by simpa using ho
    have hlt := ovr_lt ho'
    have h62 : ¬ (bt s j1 = 62) := fun h => by simp [ovr, h] at ho'
    obtain ⟨b1, b2⟩ := hat ho'
    have hnm := nm_more hlt ho' b1 b2
    have hnl := nmF_le (s := s) (e := true) (f := j1) _ (j1 + 1) rfl (by omega)
    rw [← hnm] at hnl
    have evn := ev_name s hm j1 true j10 a2
    generalize nmF s true j1 j1 = jn at *
    have evb := ev_blanks s hm jn (by omega) hnl.2
    obtain ⟨c1, c2⟩ := pastB_le (s := s) _ jn rfl hnl.2
    have hval : impl_tagger_value.f s jn true sa = if ovr s (pastB s jn) true = false ∧ bt s (pastB s jn) = 61 then
      if ovr s (pastB s (pastB s jn + 1)) true = true then some (⟨#[]⟩, true, s, pastB s (pastB s jn + 1), true, sa)
      else if bt s (pastB s (pastB s jn + 1)) = 34 ∨ bt s (pastB s (pastB s jn + 1)) = 39 then impl_tagger_quoted.f s (pastB s (pastB s jn + 1)) true sa
      else some (s.extract (pastB s (pastB s jn + 1)).toNat (plF s true (pastB s (pastB s jn + 1))).toNat, true, s, plF s true (pastB s (pastB s jn + 1)), true, sa)
    else some (⟨#[]⟩, true, s, pastB s jn, true, sa) := by
      unfold impl_tagger_value.f; rw [if_pos ⟨by omega, hnl.2, hm⟩]
    generalize pastB s jn = k1 at *
    -- what is left: behind the name's blanks
    have step2 : ∀ r, Ev (fun k => if k1 ≥ (s.size : Int) then (spec_TagEnd.j2 k s k1 true) else (if 0 ≤ k1 then (if k1 < (s.size : Int) then (spec_TagEnd.j2 k s k1 ((bt s k1) != 61)) else (none)) else (none))) r → ∃ r', r' = r ∧ Ev (fun k => spec_TagEnd.l0 k s j) r' := fun r hr =>
      ⟨r, rfl, step r (Ev.congr (fun k => by rw [if_neg (by omega), if_pos j10, if_pos hlt, if_neg h62]) (Ev.bind evn (Ev.bind evb hr)))⟩
    have done : ∀ (k2 : Int) (v : ByteArray), k1 ≤ k2 → k2 ≤ s.size → impl_tagger_value.f s jn true sa = some (v, true, s, k2, true, sa) → (∀ r, Ev (fun k => spec_TagEnd.l0 k s k2) r → Ev (fun k => if k1 ≥ (s.size : Int) then (spec_TagEnd.j2 k s k1 true) else (if 0 ≤ k1 then (if k1 < (s.size : Int) then (spec_TagEnd.j2 k s k1 ((bt s k1) != 61)) else (none)) else (none))) r) →
        ∃ r, tagL (m + 1) s j sl = some r ∧ Ev (fun k => spec_TagEnd.l0 k s j) r := by
      intro k2 v e1 e2 hv hk2
      obtain ⟨r, q1, q2⟩ := ih k2 sa (by omega) e2 (by omega) m (by omega)
      obtain ⟨r', rfl, q3⟩ := step2 r (hk2 r q2)
      refine ⟨_, impl _ ?_, q3⟩
      rw [if_neg ho, hv]
      simp only [Option.bind_some, and_self, if_true]
      exact q1
    by_cases e61 : ovr s k1 true = false ∧ bt s k1 = 61
    case neg =>
      refine done k1 ⟨#[]⟩ (Int.le_refl _) c2 (by rw [hval, if_neg e61]) (fun r hr => ?_)
      by_cases hz : k1 ≥ (s.size : Int)
      · exact Ev.congr (fun k => if_pos hz) (Ev.step (fun k => by simp only [spec_TagEnd.j2, if_true]) hr)
      · have hne : (bt s k1 != 61) = true := by
          rw [bne_iff_ne]; intro h
          refine e61 ⟨?_, h⟩
          have hd0 : decide ((s.size : Int) ≤ k1) = false := decide_eq_false (by omega)
          simp [ovr, hd0, h]
        exact Ev.congr (fun k => by rw [if_neg hz, if_pos (by omega), if_pos (by omega), hne]) (Ev.step (fun k => by simp only [spec_TagEnd.j2, if_true]) hr)
    obtain ⟨oo, e61⟩ := e61
    have klt := ovr_lt oo
    have evb2 := ev_blanks s hm (k1 + 1) (by omega) (by omega)
    obtain ⟨c3, c4⟩ := pastB_le (s := s) _ (k1 + 1) rfl (by omega)
    rw [if_pos ⟨oo, e61⟩] at hval
    generalize pastB s (k1 + 1) = k2 at *
    have step3 : ∀ r, Ev (fun k => if k2 < (s.size : Int) then (if 0 ≤ k2 then (if (bt s k2) = 34 then (spec_TagEnd.j3 k s k2 true) else (spec_TagEnd.j3 k s k2 ((bt s k2) == 39))) else (none)) else (spec_TagEnd.j3 k s k2 false)) r →
        Ev (fun k => if k1 ≥ (s.size : Int) then (spec_TagEnd.j2 k s k1 true) else (if 0 ≤ k1 then (if k1 < (s.size : Int) then (spec_TagEnd.j2 k s k1 ((bt s k1) != 61)) else (none)) else (none))) r := fun r hr =>
      Ev.congr (fun k => by rw [if_neg (by omega), if_pos (by omega), if_pos klt, show (bt s k1 != 61) = false by rw [e61]; rfl])
        (Ev.step (fun k => by simp only [spec_TagEnd.j2, Bool.false_eq_true, if_false]; rw [w1 (n := s.size) (by omega) (by omega) hm]) (Ev.bind evb2 hr))
    by_cases ho2 : ovr s k2 true = true
    · rw [if_pos ho2] at hval
      refine done k2 _ (by omega) c4 hval (fun r hr => step3 r ?_)
      have hpl : plF s true k2 = k2 := plF_stop (fun h => by rw [ho2] at h; exact absurd h.1 (by decide))
      have evp := ev_plain s hm k2 true (by omega) c4
      rw [hpl] at evp
      have h3 : Ev (fun k => spec_TagEnd.j3 k s k2 false) r := Ev.step (fun k => by simp only [spec_TagEnd.j3, Bool.false_eq_true, if_false]) (Ev.bind evp hr)
      by_cases hz : k2 < (s.size : Int)
      · have hb : bt s k2 = 62 := by
          have hd0 : decide ((s.size : Int) ≤ k2) = false := decide_eq_false (by omega)
          simpa [ovr, hd0] using ho2
        exact Ev.congr (fun k => by rw [if_pos hz, if_pos (by omega), if_neg (by omega), show (bt s k2 == 39) = false by rw [hb]; rfl]) h3
      · exact Ev.congr (fun k => if_neg hz) h3
    rw [if_neg ho2] at hval
    have ho2' : ovr s k2 true = false := by simpa using ho2
    have k2lt := ovr_lt ho2'
    by_cases hq : bt s k2 = 34 ∨ bt s k2 = 39
    case neg =>
      rw [if_neg hq] at hval
      obtain ⟨p1, p2⟩ := plF_le (s := s) (e := true) _ k2 rfl c4
      refine done _ _ (by omega) p2 hval (fun r hr => step3 r ?_)
      exact Ev.congr (fun k => by rw [if_pos k2lt, if_pos (by omega), if_neg (fun h => hq (.inl h)), show (bt s k2 == 39) = false from beq_eq_false_iff_ne.mpr (fun h => hq (.inr h))])
        (Ev.step (fun k => by simp only [spec_TagEnd.j3, Bool.false_eq_true, if_false]) (Ev.bind (ev_plain s hm k2 true (by omega) c4) hr))
    rw [if_pos hq, quoted_f s k2 true sa hm (by omega) k2lt] at hval
    have evf := ev_find s hm (k2 + 1) (bt s k2) (by omega) (by omega)
    have hfl := fnd_le (s := s) (c := bt s k2) _ (k2 + 1) rfl (by omega)
    generalize fndF s (k2 + 1) (bt s k2) = kf at *
    have step4 : ∀ r, Ev (fun k => if kf < 0 then (some (-1)) else (spec_TagEnd.l0 k s (wrap64 (kf + 1)))) r →
        Ev (fun k => if k2 < (s.size : Int) then (if 0 ≤ k2 then (if (bt s k2) = 34 then (spec_TagEnd.j3 k s k2 true) else (spec_TagEnd.j3 k s k2 ((bt s k2) == 39))) else (none)) else (spec_TagEnd.j3 k s k2 false)) r := fun r hr => by
      have h3 : Ev (fun k => spec_TagEnd.j3 k s k2 true) r := Ev.step (fun k => by simp only [spec_TagEnd.j3, if_true]; rw [if_pos (by omega), if_pos k2lt, w1 (n := s.size) (by omega) (by omega) hm]) (Ev.bind evf hr)
      refine Ev.congr (fun k => ?_) h3
      rw [if_pos k2lt, if_pos (by omega)]
      by_cases h34 : bt s k2 = 34
      · rw [if_pos h34]
      · rw [if_neg h34, show (bt s k2 == 39) = true from beq_iff_eq.mpr (hq.resolve_left h34)]
    by_cases hkf : kf < 0
    · rw [if_pos hkf] at hval
      obtain ⟨r', rfl, q3⟩ := step2 (-1) (step3 _ (step4 _ (Ev.congr (fun k => if_pos hkf) (Ev.now _))))
      refine ⟨_, impl _ ?_, q3⟩
      rw [if_neg ho, hval]
      simp
    · rw [if_neg hkf] at hval
      obtain ⟨f1, f2⟩ := hfl hkf
      refine done _ _ (by omega) (by omega) hval (fun r hr => step3 r (step4 r ?_))
      exact Ev.congr (fun k => by rw [if_neg hkf, w1 (n := s.size) (by omega) (by omega) hm]) hr
theorem TagEnd_both (s : ByteArray) (k : Int) (hm : s.size ≤ 140737488351232) (hk : (Lit.int .i64 k).wf = true) : ∃ r, impl_TagEnd.f s k = some r ∧ Ev (fun n => spec_TagEnd.f n s k) r := by
  by_cases h : 0 ≤ k ∧ k < s.size ∧ bt s k = 60
  · obtain ⟨h0, h1, h2⟩ := h
    have hA : spec_l4After.f s k = some (tagFrom s k) := by
      unfold spec_l4After.f tagFrom
      rw [w1 (n := s.size) h0 (by omega) hm]
      by_cases c : k + 1 < (s.size : Int)
      · rw [if_pos c, if_pos (by omega)]
        by_cases c2 : bt s (k + 1) = 47
        · rw [if_pos c2, if_pos ⟨c, c2⟩, show wrap64 (k + 2) = k + 1 + 1 by unfold wrap64; omega]
        · rw [if_neg c2, if_neg (fun h => c2 h.2)]
      · rw [if_neg c, if_neg (fun h => c h.1)]
    have hb : k + 1 ≤ tagFrom s k ∧ tagFrom s k ≤ s.size := by unfold tagFrom; split <;> omega
    have evt := ev_tag s hm (tagFrom s k) (by omega) hb.2
    have htl := tnE_le (s := s) _ (tagFrom s k) rfl hb.2
    obtain ⟨r, q1, q2⟩ := tag_both s hm s.size (tnE s (tagFrom s k)) false (by omega) htl.2 (by omega) (s.size + 1) (Nat.lt_succ_self _)
    refine ⟨r, by unfold impl_TagEnd.f; rw [if_pos ⟨h0, h1, h2, hm⟩]; exact q1, ?_⟩
    refine Ev.congr (fun n => by unfold spec_TagEnd.f; rw [if_neg (by omega), if_neg (by omega), if_pos h0, if_pos h1, show (bt s k != 60) = false by rw [h2]; rfl]) (Ev.step (fun n => by simp only [spec_TagEnd.j0, Bool.false_eq_true, if_false]; rw [hA, Option.bind_some]) (Ev.bind evt q2))
  · refine ⟨-1, by unfold impl_TagEnd.f; rw [if_neg (fun x => h ⟨x.1, x.2.1, x.2.2.1⟩), if_pos hm], ?_⟩
    have h3 : Ev (fun n => spec_TagEnd.j0 n s k true) (-1) := Ev.step (fun n => by simp only [spec_TagEnd.j0, if_true]) (Ev.now _)
    refine Ev.congr (fun n => ?_) h3
    unfold spec_TagEnd.f
    by_cases c1 : k < 0
    · rw [if_pos c1]
    · rw [if_neg c1]
      by_cases c2 : k ≥ (s.size : Int)
      · rw [if_pos c2]
      · rw [if_neg c2, if_pos (by omega), if_pos (by omega), show (bt s k != 60) = true from bne_iff_ne.mpr (fun he => h ⟨by omega, by omega, he⟩)]
end Go.Proofs.Ytlocaaebgghkbaa.A
namespace Go.Proofs.Ytlocaaebgghkbaa.A
open Go.RowKit Go.Proofs.YtlocaaebgghkbaaW.PrintWords Go.Proofs.YtlocaaebgghkbaaW.PrintLast Go.Proofs.YtlocaaebgghkbaaW.PrintMore
set_option linter.unusedVariables false
abbrev IAt := S53
end Go.Proofs.Ytlocaaebgghkbaa.A
namespace Go.Proofs.Ytlocaaebgghkbaa.A
open Go.RowKit Go.Proofs.YtlocaaebgghkbaaW.PrintWords Go.Proofs.YtlocaaebgghkbaaW.PrintLast Go.Proofs.YtlocaaebgghkbaaW.PrintMore
set_option linter.unusedVariables false
end Go.Proofs.Ytlocaaebgghkbaa.A
namespace Go.Proofs.Ytlocaaebgghkbaa.A
open Go.RowKit Go.Proofs.YtlocaaebgghkbaaW.PrintWords Go.Proofs.YtlocaaebgghkbaaW.PrintLast Go.Proofs.YtlocaaebgghkbaaW.PrintMore
set_option linter.unusedVariables false
theorem hasR_any (l : List (S53)) (nm : ByteArray) (hl : l.length ≤ 140737488351232) (d : Nat) : ∀ (j : Int), 0 ≤ j → l.length - j.toNat = d → j ≤ l.length → Ev (fun k => spec_l4Has.l0 k l nm j) ((l.drop j.toNat).any fun x => x.f0.toList == nm.toList) := by
  induction d with
  | zero =>
    intro j h0 hd hj
    rw [List.drop_of_length_le (by omega)]
    exact Ev.step (fun k => by simp only [spec_l4Has.l0]; rfl) (Ev.ifn (show ¬ j < (l.length : Int) by omega) (Ev.now _))
  | succ d ih =>
    intro j h0 hd hj
    have hjl : j.toNat < l.length := by omega
    have hw1 : wrap64 (j + 1) = j + 1 := by unfold wrap64; omega
    have hrd : rd_T53 l j = l[j.toNat] := by unfold rd_T53; rw [List.getD_eq_getElem?_getD, List.getElem?_eq_getElem hjl]; rfl
    rw [List.drop_eq_getElem_cons hjl, List.any_cons]
    refine Ev.step (fun k => by simp only [spec_l4Has.l0]; rfl) (Ev.ifp (show j < (l.length : Int) by omega) (Ev.ifp h0 ?_))
    rw [hrd, hw1]
    have ih2 := ih (j + 1) (by omega) (by omega) (by omega)
    rw [show (j + 1).toNat = j.toNat + 1 by omega] at ih2
    by_cases c : (l[j.toNat]).f0.toList = nm.toList
    · rw [show ((l[j.toNat]).f0.toList == nm.toList) = true from beq_iff_eq.mpr c, Bool.true_or]
      exact Ev.ifp c (Ev.now _)
    · rw [show ((l[j.toNat]).f0.toList == nm.toList) = false from beq_eq_false_iff_ne.mpr c, Bool.false_or]
      exact Ev.ifn c ih2
theorem ev_hasR (l : List (S53)) (nm : ByteArray) (hl : l.length ≤ 140737488351232) : Ev (fun k => spec_l4Has.f k l nm) (l.any fun x => x.f0.toList == nm.toList) := by
  have := hasR_any l nm hl l.length 0 (by omega) (by simp) (by omega)
  unfold spec_l4Has.f
  simpa using this
def onceFrom (l : List IAt) (j : Nat) : Prop := ∀ i, j ≤ i → (h : i < l.length) → ((l.take i).any fun x => x.f0.toList == l[i].f0.toList) = false
theorem onceFrom_end {l : List IAt} {j : Nat} (h : l.length ≤ j) : onceFrom l j := fun i hi hl => by omega
def emp (s : ByteArray) : Prop := s.toList = ([] : List UInt8)
instance (s : ByteArray) : Decidable (emp s) := by unfold emp; infer_instance
end Go.Proofs.Ytlocaaebgghkbaa.A
namespace Go.Proofs.Ytlocaaebgghkbaa.A
open Go.RowKit Go.Proofs.YtlocaaebgghkbaaW.PrintWords Go.Proofs.YtlocaaebgghkbaaW.PrintLast Go.Proofs.YtlocaaebgghkbaaW.PrintMore
set_option linter.unusedVariables false
theorem Ev.uniq {α : Type} {f : Nat → Option α} {r s : α} (h : Ev f r) (h' : Ev f s) : r = s := by
  obtain ⟨K, h⟩ := h
  obtain ⟨K', h'⟩ := h'
  have a := h (max K K') (by omega)
  have b := h' (max K K') (by omega)
  exact Option.some.inj (a.symm.trans b)
def goodEnd (s : ByteArray) (a r : Int) : Prop := r = -1 ∨ (0 ≤ a ∧ a < r ∧ r < (s.size : Int) ∧ bt s r = 62)
theorem tagEnd_l (s : ByteArray) (a : Int) (hm : s.size ≤ 140737488351232) (h0 : 0 ≤ a) (r : Int) : ∀ k,
    (∀ x, a < x → x ≤ s.size → spec_TagEnd.l0 k s x = some r → goodEnd s a r) ∧
    (∀ x b, a < x → x ≤ s.size → (b = false → x < s.size) → spec_TagEnd.j2 k s x b = some r → goodEnd s a r) ∧
    (∀ x b, a < x → x ≤ s.size → spec_TagEnd.j3 k s x b = some r → goodEnd s a r) := by
  intro k
  induction k with
  | zero => exact ⟨fun x _ _ h => by simp [spec_TagEnd.l0] at h, fun x b _ _ _ h => by simp [spec_TagEnd.j2] at h, fun x b _ _ h => by simp [spec_TagEnd.j3] at h⟩
  | succ k ih =>
    obtain ⟨ih0, ih2, ih3⟩ := ih
    refine ⟨?_, ?_, ?_⟩
    · intro x hx hx1 h
      simp only [spec_TagEnd.l0] at h
      obtain ⟨t, ht, h⟩ := Option.bind_eq_some_iff.mp h
      have et := Ev.uniq (Ev.of (spec_l4Skip.mono s x) ht) (ev_skip s hm x false (by omega) hx1)
      have le := sepF_le (s := s) (e := true) _ x false rfl hx1
      rw [← et] at le
      by_cases c1 : t ≥ (s.size : Int)
      · rw [if_pos c1] at h; exact .inl (Option.some.inj h).symm
      rw [if_neg c1, if_pos (show 0 ≤ t by omega), if_pos (show t < (s.size : Int) by omega)] at h
      by_cases c2 : bt s t = 62
      · rw [if_pos c2] at h
        obtain rfl := Option.some.inj h
        exact .inr ⟨h0, by omega, by omega, c2⟩
      rw [if_neg c2] at h
      obtain ⟨u, hu, h⟩ := Option.bind_eq_some_iff.mp h
      have eu := Ev.uniq (Ev.of (spec_l4Name.mono s t true) hu) (ev_name s hm t true (by omega) (by omega))
      have leu := nmF_le (s := s) (e := true) (f := t) _ t rfl (by omega)
      rw [← eu] at leu
      obtain ⟨v, hv, h⟩ := Option.bind_eq_some_iff.mp h
      have ev := Ev.uniq (Ev.of (spec_l4Blanks.mono s u) hv) (ev_blanks s hm u (by omega) (by omega))
      have lev := pastB_le (s := s) _ u rfl (by omega)
      rw [← ev] at lev
      by_cases c3 : v ≥ (s.size : Int)
      · rw [if_pos c3] at h
        exact ih2 v true (by omega) (by omega) (by simp) h
      rw [if_neg c3, if_pos (show 0 ≤ v by omega), if_pos (show v < (s.size : Int) by omega)] at h
      exact ih2 v _ (by omega) (by omega) (fun _ => by omega) h
    · intro x b hx hx1 hb h
      simp only [spec_TagEnd.j2] at h
      cases b with
      | true => rw [if_pos rfl] at h; exact ih0 x hx hx1 h
      | false =>
        rw [if_neg (by simp)] at h
        have hlt := hb rfl
        have hw : wrap64 (x + 1) = x + 1 := by unfold wrap64; omega
        rw [hw] at h
        obtain ⟨v, hv, h⟩ := Option.bind_eq_some_iff.mp h
        have ev := Ev.uniq (Ev.of (spec_l4Blanks.mono s (x + 1)) hv) (ev_blanks s hm (x + 1) (by omega) (by omega))
        have lev := pastB_le (s := s) _ (x + 1) rfl (by omega)
        rw [← ev] at lev
        by_cases c1 : v < (s.size : Int)
        · rw [if_pos c1, if_pos (show 0 ≤ v by omega)] at h
          split at h
          · exact ih3 v _ (by omega) (by omega) h
          · exact ih3 v _ (by omega) (by omega) h
        · rw [if_neg c1] at h
          exact ih3 v _ (by omega) (by omega) h
    · intro x b hx hx1 h
      simp only [spec_TagEnd.j3] at h
      cases b with
      | true =>
        rw [if_pos rfl] at h
        by_cases c0 : 0 ≤ x
        case neg => rw [if_neg c0] at h; cases h
        by_cases c1 : x < (s.size : Int)
        case neg => rw [if_pos c0, if_neg c1] at h; cases h
        rw [if_pos c0, if_pos c1] at h
        have hw : wrap64 (x + 1) = x + 1 := by unfold wrap64; omega
        rw [hw] at h
        obtain ⟨v, hv, h⟩ := Option.bind_eq_some_iff.mp h
        have ev := Ev.uniq (Ev.of (spec_l4Find.mono s (x + 1) (bt s x)) hv) (ev_find s hm (x + 1) (bt s x) (by omega) (by omega))
        by_cases c2 : v < 0
        · rw [if_pos c2] at h; exact .inl (Option.some.inj h).symm
        rw [if_neg c2] at h
        have lev := fnd_le (s := s) (c := bt s x) _ (x + 1) rfl (by omega) (by rw [← ev]; exact c2)
        rw [← ev] at lev
        have hw2 : wrap64 (v + 1) = v + 1 := by unfold wrap64; omega
        rw [hw2] at h
        exact ih0 (v + 1) (by omega) (by omega) h
      | false =>
        rw [if_neg (by simp)] at h
        obtain ⟨v, hv, h⟩ := Option.bind_eq_some_iff.mp h
        have ev := Ev.uniq (Ev.of (spec_l4Plain.mono s x true) hv) (ev_plain s hm x true (by omega) hx1)
        have lev := plF_le (s := s) (e := true) _ x rfl hx1
        rw [← ev] at lev
        exact ih0 v (by omega) (by omega) h
theorem tagEnd_good (s : ByteArray) (a r : Int) (hm : s.size ≤ 140737488351232) (h : Ev (fun k => spec_TagEnd.f k s a) r) : goodEnd s a r := by
  obtain ⟨k, h⟩ := h.rounds
  unfold spec_TagEnd.f at h
  have bad : ∀ {k}, spec_TagEnd.j0 k s a true = some r → goodEnd s a r := by
    intro k h
    cases k with
    | zero => simp [spec_TagEnd.j0] at h
    | succ k => simp only [spec_TagEnd.j0] at h; (first | rw [if_pos rfl] at h | rw [if_pos trivial] at h); exact .inl (Option.some.inj h).symm
  by_cases c0 : a < 0
  · rw [if_pos c0] at h; exact bad h
  by_cases c1 : a ≥ (s.size : Int)
  · rw [if_neg c0, if_pos c1] at h; exact bad h
  rw [if_neg c0, if_neg c1, if_pos (show 0 ≤ a by omega), if_pos (show a < (s.size : Int) by omega)] at h
  by_cases c2 : (bt s a != 60) = true
  · rw [c2] at h; exact bad h
  replace c2 : (bt s a != 60) = false := by simpa using c2
  rw [c2] at h
  cases k with
  | zero => simp [spec_TagEnd.j0] at h
  | succ k =>
    simp only [spec_TagEnd.j0] at h
    rw [if_neg (by simp)] at h
    obtain ⟨t, ht, h⟩ := Option.bind_eq_some_iff.mp h
    obtain ⟨u, hu, h⟩ := Option.bind_eq_some_iff.mp h
    have hw : wrap64 (a + 1) = a + 1 := by unfold wrap64; omega
    have hw2 : wrap64 (a + 2) = a + 2 := by unfold wrap64; omega
    have et : a < t ∧ t ≤ s.size := by
      unfold spec_l4After.f at ht
      simp only [hw, hw2] at ht
      by_cases d1 : a + 1 < (s.size : Int)
      · rw [if_pos d1, if_pos (show 0 ≤ a + 1 by omega)] at ht
        split at ht
        · obtain rfl := Option.some.inj ht; omega
        · obtain rfl := Option.some.inj ht; omega
      · rw [if_neg d1] at ht
        obtain rfl := Option.some.inj ht; omega
    have eu := Ev.uniq (Ev.of (spec_l4Tag.mono s t) hu) (ev_tag s hm t (by omega) (by omega))
    have leu := tnE_le (s := s) _ t rfl (by omega)
    rw [← eu] at leu
    exact (tagEnd_l s a hm (by omega) r k).1 u (by omega) (by omega) h
theorem once_put {l : List IAt} {x : IAt} (h : onceFrom l 0) (hx : (l.any fun y => y.f0.toList == x.f0.toList) = false) : onceFrom (l ++ [x]) 0 := by
  intro i hi hl
  rw [List.length_append, List.length_singleton] at hl
  by_cases c : i < l.length
  · rw [List.getElem_append_left c, List.take_append_of_le_length (by omega)]
    exact h i hi c
  · have : i = l.length := by omega
    subst this
    rw [List.getElem_append_right (Nat.le_refl _), List.take_left]
    simpa using hx
theorem attrs_once (s : ByteArray) (R : List IAt × Bool) : ∀ k,
    (∀ l b x, onceFrom l 0 → spec_Attrs.l0 k s l b x = some R → onceFrom R.1 0) ∧
    (∀ l b x, onceFrom l 0 → spec_Attrs.j1 k s l b x = some R → onceFrom R.1 0) ∧
    (∀ l b x y c n v, onceFrom l 0 → spec_Attrs.j2 k s l b x y c n v = some R → onceFrom R.1 0) := by
  intro k
  induction k with
  | zero => exact ⟨fun l b x _ h => by simp [spec_Attrs.l0] at h, fun l b x _ h => by simp [spec_Attrs.j1] at h, fun l b x y c n v _ h => by simp [spec_Attrs.j2] at h⟩
  | succ k ih =>
    obtain ⟨ih0, ih1, ih2⟩ := ih
    refine ⟨?_, ?_, ?_⟩
    · intro l b x hl h
      simp only [spec_Attrs.l0] at h
      split at h
      · obtain ⟨t, ht, h⟩ := Option.bind_eq_some_iff.mp h
        repeat' split at h
        all_goals first | (cases h; done) | exact ih1 _ _ _ hl h
      · obtain rfl := Option.some.inj h; exact hl
    · intro l b x hl h
      simp only [spec_Attrs.j1] at h
      split at h
      · obtain rfl := Option.some.inj h; exact hl
      obtain ⟨t, ht, h⟩ := Option.bind_eq_some_iff.mp h
      split at h
      case isFalse => cases h
      split at h
      case isFalse => cases h
      split at h
      case isFalse => cases h
      obtain ⟨t2, ht2, h⟩ := Option.bind_eq_some_iff.mp h
      obtain ⟨t3, ht3, h⟩ := Option.bind_eq_some_iff.mp h
      repeat' split at h
      all_goals first | (cases h; done) | exact ih2 _ _ _ _ _ _ _ hl h
    · intro l b x y c n v hl h
      simp only [spec_Attrs.j2] at h
      have tail : ∀ (v : ByteArray) (z : Int), ((spec_l4Has.f k l n).bind fun t => (if t = true then (spec_Attrs.l0 k s l b z) else (if l.length < 4398046511104 then (spec_Attrs.l0 k s (l ++ [(⟨n, v⟩ : IAt)]) b z) else none))) = some R → onceFrom R.1 0 := by
        intro v z h
        obtain ⟨t, ht, h⟩ := Option.bind_eq_some_iff.mp h
        by_cases c1 : t = true
        · rw [if_pos c1] at h; exact ih0 _ _ _ hl h
        rw [if_neg c1] at h
        split at h
        case isFalse => cases h
        rename_i hlen
        have et := Ev.uniq (Ev.of (spec_l4Has.mono l n) ht) (ev_hasR l n (by omega))
        refine ih0 _ _ _ (once_put hl ?_) h
        rw [← et]
        simpa using c1
      cases c with
      | true =>
        rw [if_pos rfl] at h
        obtain ⟨t, ht, h⟩ := Option.bind_eq_some_iff.mp h
        obtain ⟨t2, ht2, h⟩ := Option.bind_eq_some_iff.mp h
        obtain ⟨t3, ht3, h⟩ := Option.bind_eq_some_iff.mp h
        exact tail _ _ h
      | false =>
        rw [if_neg (by simp)] at h
        exact tail _ _ h
theorem attrs_once_f (s : ByteArray) (R : List IAt × Bool) (h : Ev (fun k => spec_Attrs.f k s) R) : onceFrom R.1 0 := by
  obtain ⟨k, h⟩ := h.rounds
  exact (attrs_once s R k).1 [] false 0 (onceFrom_end (by simp)) h
end Go.Proofs.Ytlocaaebgghkbaa.A
namespace Go.Proofs.Ytlocaaebgghkbaa.A
open Go.RowKit Go.Proofs.YtlocaaebgghkbaaW.PrintWords Go.Proofs.YtlocaaebgghkbaaW.PrintLast Go.Proofs.YtlocaaebgghkbaaW.PrintMore
set_option linter.unusedVariables false
end Go.Proofs.Ytlocaaebgghkbaa.A
namespace Go.Proofs.Ytlocaaebgghkbaa.Pure
open Go.RowKit Go.Proofs.Ytlocaaebgghkbaa.A Go.Proofs.YtlocaaebgghkbaaW.PrintWords Go.Proofs.YtlocaaebgghkbaaW.PrintLast Go.Proofs.YtlocaaebgghkbaaW.PrintMore
set_option linter.unusedVariables false
theorem big_f (l : List Int) : laws_big.f l = some (decide ((l.length : Int) > 1048576)) := rfl
theorem same_l (R : List IAt) (hR : R.length ≤ 1048576) (d : Nat) : ∀ i : Nat, R.length - i = d → i ≤ R.length → Ev (fun k => laws_sameAttrs.l0 k R R (i : Int)) true := by
  induction d with
  | zero =>
    intro i hd hi
    exact Ev.step (fun k => by simp only [laws_sameAttrs.l0]; rfl) (Ev.ifn (by omega) (Ev.now _))
  | succ d ih =>
    intro i hd hi
    have hw : wrap64 ((i : Int) + 1) = ((i + 1 : Nat) : Int) := by unfold wrap64; omega
    refine Ev.step (fun k => by simp only [laws_sameAttrs.l0]; rfl) (Ev.ifp (by omega) (Ev.ifp (by omega) (Ev.ifp (by omega) (Ev.ifn (by simp) ?_))))
    rw [hw]
    exact ih (i + 1) (by omega) (by omega)
theorem same_ok (R : List IAt) (hR : R.length ≤ 1048576) : Ev (fun k => laws_sameAttrs.f k R R) true :=
  Ev.ifp rfl (same_l R hR _ 0 rfl (by omega))
section
variable (s : ByteArray) (a r : Int) (R : List IAt) (hR : R.length ≤ 1048576) (ho : onceFrom R 0) (hg : goodEnd s a r)
include hR ho
theorem ends_l1 (x : Nat) (hx : x < R.length) (next : Ev (fun k => laws_FnTagEnds.l0 k s a r R ((x + 1 : Nat) : Int)) true) (d : Nat) : ∀ y : Nat, x - y = d → y ≤ x → Ev (fun k => laws_FnTagEnds.l1 k s a r R (x : Int) (y : Int)) true := by
  have hwx : wrap64 ((x : Int) + 1) = ((x + 1 : Nat) : Int) := by unfold wrap64; omega
  induction d with
  | zero =>
    intro y hd hy
    refine Ev.step (fun k => by simp only [laws_FnTagEnds.l1]; rfl) (Ev.ifn (by omega) ?_)
    rw [hwx]; exact next
  | succ d ih =>
    intro y hd hy
    have hw : wrap64 ((y : Int) + 1) = ((y + 1 : Nat) : Int) := by unfold wrap64; omega
    have h := ho x (by omega) hx
    have hne : ¬ (rd_T53 R (x : Int)).f0.toList = (rd_T53 R (y : Int)).f0.toList := by
      intro e
      have ex : rd_T53 R (x : Int) = R[x] := by
        unfold rd_T53
        rw [Int.toNat_natCast, List.getD_eq_getElem?_getD, List.getElem?_eq_getElem hx, Option.getD_some]
      have ey : rd_T53 R (y : Int) = R[y]'(by omega) := by
        unfold rd_T53
        rw [Int.toNat_natCast, List.getD_eq_getElem?_getD, List.getElem?_eq_getElem (show y < R.length by omega), Option.getD_some]
      rw [ex, ey] at e
      rw [List.any_eq_false] at h
      refine h (R[y]'(by omega)) ?_ (by rw [e]; simp)
      rw [List.mem_take_iff_getElem]
      exact ⟨y, by omega, rfl⟩
    refine Ev.step (fun k => by simp only [laws_FnTagEnds.l1]; rfl) (Ev.ifp (by omega) (Ev.ifp (by omega) (Ev.ifp (by omega) (Ev.ifp (by omega) (Ev.ifp (by omega) (Ev.ifn hne ?_))))))
    rw [hw]
    exact ih (y + 1) (by omega) (by omega)
include hg
theorem ends_l0 (d : Nat) : ∀ x : Nat, R.length - x = d → x ≤ R.length → Ev (fun k => laws_FnTagEnds.l0 k s a r R (x : Int)) true := by
  induction d with
  | zero =>
    intro x hd hx
    refine Ev.step (fun k => by simp only [laws_FnTagEnds.l0]; rfl) (Ev.ifn (by omega) ?_)
    by_cases c : r = -1
    · exact Ev.ifp c (Ev.now _)
    obtain ⟨h00, h0, h1, h2⟩ := hg.resolve_left c
    refine Ev.ifn c (Ev.ifp h0 (Ev.ifp (by omega) (Ev.ifp h1 ?_)))
    rw [h2]; exact Ev.now _
  | succ d ih =>
    intro x hd hx
    refine Ev.step (fun k => by simp only [laws_FnTagEnds.l0]; rfl) (Ev.ifp (by omega) ?_)
    exact ends_l1 s a r R hR ho x (by omega) (ih (x + 1) (by omega) (by omega)) _ 0 rfl (by omega)
end
theorem FnTagEnds : laws_FnTagEnds.Pure := by
  intro l _ hl _
  refine Ev.rounds ?_
  unfold laws_FnTagEnds.f
  refine Ev.bindc (big_f l) ?_
  by_cases hb : (l.length : Int) > 1048576
  · exact Ev.ifp (by simpa using hb) (Ev.now _)
  refine Ev.ifn (by simpa using hb) ?_
  have hl2 : l.length ≤ 1048576 := by omega
  obtain ⟨⟨s, a⟩, e1, hs, ha0, ha1⟩ := drawTagEnd_ok l hl2
  simp only at hs ha0 ha1
  obtain ⟨r, t1, t2⟩ := TagEnd_both s a (by omega) (by have e1 : IntKind.i64.min = -9223372036854775808 := rfl; have e2 : IntKind.i64.max = 9223372036854775807 := rfl; simp [Lit.wf]; omega)
  obtain ⟨t, e2, ht⟩ := drawAttrs_ok l hl2
  obtain ⟨R, a1, a2, hlen⟩ := Attrs_both t (by omega)
  obtain ⟨n, e3, hn⟩ := drawRaw_ok l hl2
  obtain ⟨⟨q, i, nm⟩, e4, hq, hi0, hi1, hnm⟩ := drawRawEnd_ok l hl2
  simp only at hq hi0 hi1 hnm
  obtain ⟨b, r1, r2⟩ := raw_both n hn
  obtain ⟨z, z1, z2⟩ := RawEnd_both q nm i hq hnm hi0 hi1
  have hg := tagEnd_good s a r (by omega) t2
  have ho := attrs_once_f t R a2
  refine Ev.bind e1 (Ev.bindc t1 (Ev.bind e2 (Ev.bind a1 (Ev.bind a2 (Ev.bind e3 (Ev.bind e4 (Ev.bind t2 (Ev.ifp rfl (Ev.ifn (by simp) (Ev.bind (same_ok R.1 (by omega)) (Ev.ifp rfl (Ev.bindc r1 (Ev.bindc r2 (Ev.ifn (by simp) (Ev.bind z1 (Ev.bind z2 ?_))))))))))))))))
  refine Ev.step (fun k => by simp only [laws_FnTagEnds.j0]; rfl) (Ev.ifn (by simp) ?_)
  exact ends_l0 s a r R.1 (by omega) ho hg _ 0 rfl (by omega)
end Go.Proofs.Ytlocaaebgghkbaa.Pure
