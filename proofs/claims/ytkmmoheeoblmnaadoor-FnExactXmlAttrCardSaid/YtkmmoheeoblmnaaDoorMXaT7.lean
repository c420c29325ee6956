-- joined by wip/tools/shake.py
import Derived.Test.YtkmmoheeoblmnaaDoorVXaTK
import Derived.Test.YtkmmoheeoblmnaaDoorMXaT4
import Derived.Test.YtkmmoheeoblmnaaDoorMXaT0
import Derived.Laws.Bits128
import Derived.Test.YtkmmoheeoblmnaaDoorMXaT1
import Derived.Test.YtkmmoheeoblmnaaDoorMXaT5
import Derived.Test.YtkmmoheeoblmnaaDoorMXaT2
import Derived.Lib.IndexLaws
import Derived.Test.YtkmmoheeoblmnaaDoorMXaT3
import Derived.Test.YtkmmoheeoblmnaaDoorMXaT6
import Derived.Lib.IndexAny
namespace Go.Proofs.YtkmmoheeoblmnaaDoor.A
open Go.RowKit Go.Proofs.YtkmmoheeoblmnaaDoorW.PrintWords Go.Proofs.YtkmmoheeoblmnaaDoorW.PrintLast Go.Proofs.YtkmmoheeoblmnaaDoorW.PrintMore
set_option linter.unusedVariables false
theorem Ev.ifp {α : Type} {c : Prop} [Decidable c] {f g : Nat → Option α} {r : α} (hc : c) (h : Ev f r) : Ev (fun k => if c then f k else g k) r := Ev.congr (fun k => if_pos hc) h
theorem Ev.ifn {α : Type} {c : Prop} [Decidable c] {f g : Nat → Option α} {r : α} (hc : ¬ c) (h : Ev g r) : Ev (fun k => if c then f k else g k) r := Ev.congr (fun k => if_neg hc) h
theorem Ev.bindc {α β : Type} {x : Option α} {a : α} {f : Nat → α → Option β} {r : β} (hx : x = some a) (h : Ev (fun n => f n a) r) : Ev (fun n => x.bind (f n)) r := Ev.congr (fun k => by rw [hx, Option.bind_some]) h
theorem Ev.up {α : Type} {f : Nat → Option α} {r : α} (m : Nat) (h : ∀ k, f (k + m) = some r) : Ev f r := ⟨m, fun k hk => by have := h (k - m); rwa [Nat.sub_add_cancel hk] at this⟩
end Go.Proofs.YtkmmoheeoblmnaaDoor.A
namespace Go.Proofs.YtkmmoheeoblmnaaDoor.A
open Go.RowKit Go.Proofs.YtkmmoheeoblmnaaDoorW.PrintWords Go.Proofs.YtkmmoheeoblmnaaDoorW.PrintLast Go.Proofs.YtkmmoheeoblmnaaDoorW.PrintMore
set_option linter.unusedVariables false
theorem i64_and63 (n : Int) : bits .and .i64 n 63 = n % 64 := by
  have h63 : (BitVec.ofInt 64 63).toNat = 2 ^ 6 - 1 := by decide
  have key : (BitVec.ofInt 64 n &&& BitVec.ofInt 64 63).toNat = (n % ((2 ^ 64 : Nat) : Int)).toNat % 2 ^ 6 := by
    rw [BitVec.toNat_and, BitVec.toNat_ofInt, h63, Nat.and_two_pow_sub_one_eq_mod]
  show IntKind.i64.wrap ((BitVec.ofInt 64 n &&& BitVec.ofInt 64 63).toNat : Nat) = n % 64
  rw [key, IntKind.wrap_i64]
  omega
theorem or128_nat : ∀ c : Nat, c < 64 → bits .or .i64 128 (c : Int) = 128 + (c : Int) := by decide
theorem or192_nat : ∀ c : Nat, c < 32 → bits .or .i64 192 (c : Int) = 192 + (c : Int) := by decide
theorem or224_nat : ∀ c : Nat, c < 16 → bits .or .i64 224 (c : Int) = 224 + (c : Int) := by decide
theorem or240_nat : ∀ c : Nat, c < 8 → bits .or .i64 240 (c : Int) = 240 + (c : Int) := by decide
theorem or_of {a : Int} {m : Nat} (h : ∀ c : Nat, c < m → bits .or .i64 a (c : Int) = a + (c : Int)) {x : Int} (h0 : 0 ≤ x) (h1 : x < m) : bits .or .i64 a x = a + x := by
  have := h x.toNat (by omega)
  rwa [show ((x.toNat : Nat) : Int) = x by omega] at this
def signOk (n : Int) : Bool := decide (0 ≤ n ∧ n ≤ 1114111) && !decide (55296 ≤ n ∧ n ≤ 57343)
theorem inRange_f (n a b : Int) : impl_inRange.f n a b = some (decide (a ≤ n ∧ n ≤ b)) := by
  unfold impl_inRange.f
  by_cases h : n ≥ a
  · rw [if_pos h]
    by_cases h2 : n ≤ b
    · rw [decide_eq_true h2, decide_eq_true (show a ≤ n ∧ n ≤ b from ⟨h, h2⟩)]
    · rw [decide_eq_false h2, decide_eq_false (show ¬ (a ≤ n ∧ n ≤ b) from fun hh => h2 hh.2)]
  · rw [if_neg h, decide_eq_false (show ¬ (a ≤ n ∧ n ≤ b) from fun hh => h hh.1)]
theorem l1In_f (n a b : Int) : spec_l1In.f n a b = some (decide (a ≤ n ∧ n ≤ b)) := inRange_f n a b
theorem implSignOk_f (n : Int) : impl_SignOk.f n = some (signOk n) := by
  unfold impl_SignOk.f signOk
  rw [inRange_f, inRange_f]
  simp only [Option.bind_some]
  by_cases h : decide (0 ≤ n ∧ n ≤ 1114111) = true
  · rw [if_pos h, h]; rfl
  · rw [if_neg h, Bool.eq_false_iff.mpr h]; rfl
theorem specSignOk_f (n : Int) : spec_SignOk.f n = some (signOk n) := by
  unfold spec_SignOk.f signOk
  rw [l1In_f, l1In_f]
  simp only [Option.bind_some]
  by_cases h : decide (0 ≤ n ∧ n ≤ 1114111) = true
  · rw [if_pos h, h]; rfl
  · rw [if_neg h, Bool.eq_false_iff.mpr h]; rfl
def put0 (x : Int) : ByteArray :=
  if x < 128 then strOfNums [x % 256]
  else if x < 2048 then strOfNums [(192 + x / 64) % 256, (128 + x % 64) % 256]
  else if x < 65536 then strOfNums [(224 + x / 4096) % 256, (128 + x / 64 % 64) % 256, (128 + x % 64) % 256]
  else strOfNums [(240 + x / 262144) % 256, (128 + x / 4096 % 64) % 256, (128 + x / 64 % 64) % 256, (128 + x % 64) % 256]
theorem follow_f (x : Int) (b : Nat) (hb : b = 0 ∨ b = 6 ∨ b = 12) : impl_follow.f x (b : Int) = some ((128 + x / 2 ^ b % 64) % 256) := by
  unfold impl_follow.f
  have hw : IntKind.u64.wrap (b : Int) = (b : Int) := by rcases hb with rfl | rfl | rfl <;> decide
  rw [hw, if_pos (by omega), i64_and63]
  have hs : shr .i64 x (b : Int) = x / 2 ^ b := by
    unfold shr
    rcases hb with rfl | rfl | rfl <;> rfl
  rw [hs, or_of or128_nat (by omega) (by omega)]
theorem specPut0_f (k : Nat) (x : Int) (h0 : 0 ≤ x) (h1 : x ≤ 1114111) : spec_PutSign.j0 (k + 1) x = some (put0 x) := by
  have hw : ∀ a : Int, 0 ≤ a → a ≤ 1000000 → wrap64 a = a := fun a _ _ => by unfold wrap64; omega
  simp only [spec_PutSign.j0, put0, i64_and63]
  rw [hw (192 + x / 64) (by omega) (by omega), hw (128 + x % 64) (by omega) (by omega), hw (224 + x / 4096) (by omega) (by omega), hw (128 + x / 64 % 64) (by omega) (by omega), hw (240 + x / 262144) (by omega) (by omega), hw (128 + x / 4096 % 64) (by omega) (by omega)]
  by_cases c1 : x < 128
  · simp [c1]
  · by_cases c2 : x < 2048
    · simp [c1, c2]
    · by_cases c3 : x < 65536 <;> simp [c1, c2, c3]
theorem implPut0_f (k : Nat) (x : Int) (h0 : 0 ≤ x) (h1 : x ≤ 1114111) : impl_PutSign.j0 (k + 1) x = some (put0 x) := by
  have f0 : impl_follow.f x 0 = some ((128 + x % 64) % 256) := by
    have := follow_f x 0 (.inl rfl)
    rwa [show (2 : Int) ^ 0 = 1 from rfl, Int.ediv_one] at this
  have f6 : impl_follow.f x 6 = some ((128 + x / 64 % 64) % 256) := follow_f x 6 (.inr (.inl rfl))
  have f12 : impl_follow.f x 12 = some ((128 + x / 4096 % 64) % 256) := follow_f x 12 (.inr (.inr rfl))
  simp only [impl_PutSign.j0, put0]
  by_cases c1 : x < 128
  · simp [c1]
  · by_cases c2 : x < 2048
    · rw [if_neg c1, if_neg c1, if_pos c2, if_pos c2, or_of or192_nat (by omega) (by omega)]
      rw [f0]
      rfl
    · by_cases c3 : x < 65536
      · rw [if_neg c1, if_neg c1, if_neg c2, if_neg c2, if_pos c3, if_pos c3, or_of or224_nat (by omega) (by omega)]
        rw [f0, f6]
        rfl
      · rw [if_neg c1, if_neg c1, if_neg c2, if_neg c2, if_neg c3, if_neg c3, or_of or240_nat (by omega) (by omega)]
        rw [f0, f6, f12]
        rfl
def putF (n : Int) : ByteArray := if signOk n = true then put0 n else put0 65533
theorem specPut_f (k : Nat) (n : Int) : spec_PutSign.f (k + 1) n = some (putF n) := by
  unfold spec_PutSign.f putF
  rw [specSignOk_f, Option.bind_some]
  by_cases h : signOk n = true
  · have h' := h
    simp only [signOk, Bool.and_eq_true, decide_eq_true_eq] at h'
    rw [if_pos h, if_pos h, specPut0_f k n (by omega) (by omega)]
  · rw [if_neg h, if_neg h, specPut0_f k 65533 (by omega) (by omega)]
theorem implPut_f (k : Nat) (n : Int) : impl_PutSign.f (k + 1) n = some (putF n) := by
  unfold impl_PutSign.f putF
  rw [implSignOk_f, Option.bind_some]
  by_cases h : signOk n = true
  · have h' := h
    simp only [signOk, Bool.and_eq_true, decide_eq_true_eq] at h'
    rw [if_pos h, if_pos h, implPut0_f k n (by omega) (by omega)]
  · rw [if_neg h, if_neg h, implPut0_f k 65533 (by omega) (by omega)]
theorem putF_size (n : Int) : (putF n).size ≤ 4 := by
  have hp : ∀ x, (put0 x).size ≤ 4 := by
    intro x
    unfold put0
    split
    · exact Nat.le_trans (Nat.le_of_eq (show _ = 1 from rfl)) (by omega)
    · split
      · exact Nat.le_trans (Nat.le_of_eq (show _ = 2 from rfl)) (by omega)
      · split
        · exact Nat.le_trans (Nat.le_of_eq (show _ = 3 from rfl)) (by omega)
        · exact Nat.le_trans (Nat.le_of_eq (show _ = 4 from rfl)) (by omega)
  unfold putF
  split <;> exact hp _
end Go.Proofs.YtkmmoheeoblmnaaDoor.A
namespace Go.Proofs.YtkmmoheeoblmnaaDoor.A
open Go.RowKit Go.Proofs.YtkmmoheeoblmnaaDoorW.PrintWords Go.Proofs.YtkmmoheeoblmnaaDoorW.PrintLast Go.Proofs.YtkmmoheeoblmnaaDoorW.PrintMore
set_option linter.unusedVariables false
set_option maxRecDepth 100000 in
theorem u8and : ∀ c : Nat, c < 256 → bits .and .u8 (c : Int) 63 = (c : Int) % 64 ∧ bits .and .u8 (c : Int) 31 = (c : Int) % 32 ∧ bits .and .u8 (c : Int) 15 = (c : Int) % 16 ∧ bits .and .u8 (c : Int) 7 = (c : Int) % 8 := by decide +kernel
set_option maxRecDepth 100000 in
theorem i64and : ∀ c : Nat, c < 256 → bits .and .i64 (c : Int) 31 = (c : Int) % 32 ∧ bits .and .i64 (c : Int) 15 = (c : Int) % 16 ∧ bits .and .i64 (c : Int) 7 = (c : Int) % 8 := by decide +kernel
theorem or_add (n x : Int) (h0 : 0 ≤ n) (h1 : n ≤ 1099511627776) (x0 : 0 ≤ x) (x1 : x < 64) : bits .or .i64 (n * 64) x = n * 64 + x := by
  have key : (BitVec.ofInt 64 (n * 64) ||| BitVec.ofInt 64 x).toNat = n.toNat * 64 + x.toNat := by
    rw [BitVec.toNat_or, BitVec.toNat_ofInt, BitVec.toNat_ofInt]
    have e1 : (n * 64 % ((2 ^ 64 : Nat) : Int)).toNat = n.toNat <<< 6 := by rw [Nat.shiftLeft_eq]; omega
    have e2 : (x % ((2 ^ 64 : Nat) : Int)).toNat = x.toNat := by omega
    rw [e1, e2, ← Nat.shiftLeft_add_eq_or_of_lt (show x.toNat < 2 ^ 6 by omega), Nat.shiftLeft_eq]
  show IntKind.i64.wrap ((BitVec.ofInt 64 (n * 64) ||| BitVec.ofInt 64 x).toNat : Nat) = n * 64 + x
  rw [key, IntKind.wrap_i64]
  omega
theorem bt_range (s : ByteArray) (i : Int) : 0 ≤ bt s i ∧ bt s i ≤ 255 := by
  unfold bt
  split
  · rename_i h
    constructor
    · omega
    · have := (s[i.toNat]'h).toNat_lt
      omega
  · omega
def Bd : Nat → Int
  | 0 => 1099511627776
  | 1 => 17179869184
  | 2 => 268435456
  | _ => 4194304
def Gs (s : ByteArray) (at_ : Int) : Nat → Int → Int → Int → Int → Int × Int
  | 0, n, _, _, i => (n, i)
  | r + 1, n, lo, hi, i => if (s.size : Int) ≤ at_ + i then (65533, i) else if bt s (at_ + i) < lo ∨ hi < bt s (at_ + i) then (65533, i) else Gs s at_ r (n * 64 + bt s (at_ + i) % 64) 128 191 (i + 1)
theorem Gs_range (s : ByteArray) (at_ : Int) : ∀ (r : Nat) (n lo hi i : Int), i ≤ (Gs s at_ r n lo hi i).2 ∧ (Gs s at_ r n lo hi i).2 ≤ i + r
  | 0, n, lo, hi, i => by simp [Gs]
  | r + 1, n, lo, hi, i => by
    rw [Gs]
    split
    · simp; omega
    · split
      · simp; omega
      · have := Gs_range s at_ r (n * 64 + bt s (at_ + i) % 64) 128 191 (i + 1)
        omega
theorem impl_Gs (s : ByteArray) (at_ : Int) (ha : 0 ≤ at_) (has : at_ < (s.size : Int)) (hs : s.size ≤ 1048576) : ∀ (r : Nat) (n lo hi i : Int), r ≤ 3 → 0 ≤ n → n < Bd r → 1 ≤ i → i + (r : Int) ≤ 4 → Ev (fun k => impl_getSign.l0 k s at_ (i + r - 1) n lo hi i) (Gs s at_ r n lo hi i) := by
  intro r
  induction r with
  | zero =>
    intro n lo hi i hr h0 hn h1 h4
    have hw : wrap64 (i + ((0 : Nat) : Int) - 1 + 1) = i := by unfold wrap64; omega
    refine Ev.step (fun k => by simp only [impl_getSign.l0]; rfl) (Ev.ifn (by omega) ?_)
    rw [hw]
    exact Ev.now _
  | succ r ih =>
    intro n lo hi i hr h0 hn h1 h4
    have hw : wrap64 (at_ + i) = at_ + i := by unfold wrap64; omega
    have hw2 : wrap64 (i + 1) = i + 1 := by unfold wrap64; omega
    have hb := bt_range s (at_ + i)
    have hn2 : n ≤ 17179869184 := by
      match r, hr, hn with
      | 0, _, hn => exact Int.le_of_lt hn
      | 1, _, hn => have : n < 268435456 := hn; omega
      | 2, _, hn => have : n < 4194304 := hn; omega
    have hw3 : wrap64 (n * 64) = n * 64 := by unfold wrap64; omega
    have hand : bits .and .u8 (bt s (at_ + i)) 63 = bt s (at_ + i) % 64 := by
      have := (u8and (bt s (at_ + i)).toNat (by omega)).1
      rwa [show (((bt s (at_ + i)).toNat : Nat) : Int) = bt s (at_ + i) by omega] at this
    have hw4 : wrap64 (bt s (at_ + i) % 64) = bt s (at_ + i) % 64 := by unfold wrap64; omega
    refine Ev.step (fun k => by simp only [impl_getSign.l0]; rfl) (Ev.ifp (by omega) ?_)
    rw [hw, hw2, hw3, hand, hw4, or_add n _ h0 (by omega) (by omega) (by omega), Gs]
    by_cases c1 : (s.size : Int) ≤ at_ + i
    · rw [if_pos c1]
      exact Ev.ifp c1 (Ev.now _)
    rw [if_neg c1]
    refine Ev.ifn c1 (Ev.ifp (by omega) (Ev.ifp (by omega) ?_))
    by_cases c2 : bt s (at_ + i) < lo
    · rw [if_pos (Or.inl c2)]
      exact Ev.ifp c2 (Ev.now _)
    refine Ev.ifn c2 ?_
    by_cases c3 : bt s (at_ + i) > hi
    · rw [if_pos (Or.inr c3)]
      exact Ev.ifp c3 (Ev.now _)
    rw [if_neg (by omega)]
    refine Ev.ifn c3 ?_
    have := ih (n * 64 + bt s (at_ + i) % 64) 128 191 (i + 1) (by omega) (by omega) (by
      match r, hr, hn with
      | 0, _, hn => have : n < 17179869184 := hn; show _ < (1099511627776 : Int); omega
      | 1, _, hn => have : n < 268435456 := hn; show _ < (17179869184 : Int); omega
      | 2, _, hn => have : n < 4194304 := hn; show _ < (268435456 : Int); omega) (by omega) (by omega)
    rw [show i + 1 + (r : Int) - 1 = i + ((r + 1 : Nat) : Int) - 1 by omega] at this
    exact this
theorem spec_Gs2 (s : ByteArray) (at_ a : Int) (ha : 0 ≤ at_) (has : at_ < (s.size : Int)) (hs : s.size ≤ 1048576) : ∀ (r : Nat) (n i : Int), r ≤ 3 → 0 ≤ n → n < Bd r → 2 ≤ i → i + (r : Int) ≤ 4 → Ev (fun k => spec_GetSign.l0 k s at_ a (i + r) n i) (Gs s at_ r n 128 191 i) := by
  intro r
  induction r with
  | zero =>
    intro n i hr h0 hn h1 h4
    refine Ev.step (fun k => by simp only [spec_GetSign.l0]; rfl) (Ev.ifn (by omega) ?_)
    rw [show i + ((0 : Nat) : Int) = i by omega]
    exact Ev.now _
  | succ r ih =>
    intro n i hr h0 hn h1 h4
    have hw : wrap64 (at_ + i) = at_ + i := by unfold wrap64; omega
    have hw2 : wrap64 (i + 1) = i + 1 := by unfold wrap64; omega
    have hb := bt_range s (at_ + i)
    have hn2 : n ≤ 17179869184 := by
      match r, hr, hn with
      | 0, _, hn => exact Int.le_of_lt hn
      | 1, _, hn => have : n < 268435456 := hn; omega
      | 2, _, hn => have : n < 4194304 := hn; omega
    have hw3 : wrap64 (n * 64) = n * 64 := by unfold wrap64; omega
    have hw4 : wrap64 (bt s (at_ + i)) = bt s (at_ + i) := by unfold wrap64; omega
    have hw5 : wrap64 (n * 64 + bt s (at_ + i) % 64) = n * 64 + bt s (at_ + i) % 64 := by unfold wrap64; omega
    refine Ev.step (fun k => by simp only [spec_GetSign.l0]; rfl) (Ev.ifp (by omega) ?_)
    rw [hw, hw2, hw3, hw4, i64_and63, hw5, Gs]
    by_cases c1 : (s.size : Int) ≤ at_ + i
    · rw [if_pos c1]
      exact Ev.ifp c1 (Ev.now _)
    rw [if_neg c1]
    refine Ev.ifn c1 (Ev.ifn (by omega) (Ev.ifp (by omega) (Ev.ifp (by omega) (Ev.bindc (l1In_f _ _ _) ?_))))
    by_cases c2 : 128 ≤ bt s (at_ + i) ∧ bt s (at_ + i) ≤ 191
    · rw [decide_eq_true c2, if_neg (by omega)]
      refine Ev.ifp rfl ?_
      have := ih (n * 64 + bt s (at_ + i) % 64) (i + 1) (by omega) (by omega) (by
        match r, hr, hn with
        | 0, _, hn => have : n < 17179869184 := hn; show _ < (1099511627776 : Int); omega
        | 1, _, hn => have : n < 268435456 := hn; show _ < (17179869184 : Int); omega
        | 2, _, hn => have : n < 4194304 := hn; show _ < (268435456 : Int); omega) (by omega) (by omega)
      rw [show i + 1 + (r : Int) = i + ((r + 1 : Nat) : Int) by omega] at this
      exact this
    · rw [decide_eq_false c2, if_pos (by omega)]
      exact Ev.ifn (by simp) (Ev.now _)
def secLo (a : Int) : Int := if a = 224 then 160 else if a = 237 then 128 else if a = 240 then 144 else 128
def secHi (a : Int) : Int := if a = 224 then 191 else if a = 237 then 159 else if a = 240 then 191 else if a = 244 then 143 else 191
theorem second_f (a b : Int) : spec_l1Second.f a b = some (decide (secLo a ≤ b ∧ b ≤ secHi a)) := by
  unfold spec_l1Second.f secLo secHi
  by_cases h1 : a = 224
  · rw [if_pos h1, if_pos h1, if_pos h1, l1In_f]; rfl
  rw [if_neg h1, if_neg h1, if_neg h1]
  by_cases h2 : a = 237
  · rw [if_pos h2, if_pos h2, if_pos h2, l1In_f]; rfl
  rw [if_neg h2, if_neg h2, if_neg h2]
  by_cases h3 : a = 240
  · rw [if_pos h3, if_pos h3, if_pos h3, l1In_f]; rfl
  rw [if_neg h3, if_neg h3, if_neg h3]
  by_cases h4 : a = 244
  · rw [if_pos h4, if_pos h4, l1In_f]; rfl
  rw [if_neg h4, if_neg h4, l1In_f]; rfl
theorem sec_in (a b : Int) (h : secLo a ≤ b ∧ b ≤ secHi a) : 128 ≤ b ∧ b ≤ 191 := by
  unfold secLo secHi at h
  split at h
  · omega
  · split at h
    · omega
    · split at h
      · omega
      · split at h <;> omega
theorem spec_Gs1 (s : ByteArray) (at_ a : Int) (ha : 0 ≤ at_) (has : at_ < (s.size : Int)) (hs : s.size ≤ 1048576) (r : Nat) (n : Int) (hr : r + 1 ≤ 3) (h0 : 0 ≤ n) (hn : n < Bd (r + 1)) :
    Ev (fun k => spec_GetSign.l0 k s at_ a ((r : Int) + 2) n 1) (Gs s at_ (r + 1) n (secLo a) (secHi a) 1) := by
  have hw : wrap64 (at_ + 1) = at_ + 1 := by unfold wrap64; omega
  have hw2 : wrap64 (1 + 1) = 2 := by unfold wrap64; omega
  have hb := bt_range s (at_ + 1)
  have hn2 : n ≤ 17179869184 := by
    match r, hr, hn with
    | 0, _, hn => exact Int.le_of_lt hn
    | 1, _, hn => have : n < 268435456 := hn; omega
    | 2, _, hn => have : n < 4194304 := hn; omega
  have hw3 : wrap64 (n * 64) = n * 64 := by unfold wrap64; omega
  have hw4 : wrap64 (bt s (at_ + 1)) = bt s (at_ + 1) := by unfold wrap64; omega
  have hw5 : wrap64 (n * 64 + bt s (at_ + 1) % 64) = n * 64 + bt s (at_ + 1) % 64 := by unfold wrap64; omega
  refine Ev.step (fun k => by rw [spec_GetSign.l0]) (Ev.ifp (by omega) ?_)
  rw [hw, hw2, hw3, hw4, i64_and63, hw5, Gs]
  by_cases c1 : (s.size : Int) ≤ at_ + 1
  · rw [if_pos c1]
    exact Ev.ifp c1 (Ev.now _)
  rw [if_neg c1]
  refine Ev.ifn c1 (Ev.ifp rfl (Ev.ifp (by omega) (Ev.ifp (by omega) (Ev.bindc (second_f _ _) ?_))))
  by_cases c2 : secLo a ≤ bt s (at_ + 1) ∧ bt s (at_ + 1) ≤ secHi a
  · rw [decide_eq_true c2, if_neg (by omega)]
    refine Ev.ifp rfl (Ev.ifp (by omega) (Ev.ifp (by omega) (Ev.bindc (l1In_f _ _ _) ?_)))
    rw [decide_eq_true (sec_in a _ c2)]
    refine Ev.ifp rfl ?_
    have := spec_Gs2 s at_ a ha has hs r (n * 64 + bt s (at_ + 1) % 64) 2 (by omega) (by omega) (by
      match r, hr, hn with
      | 0, _, hn => have : n < 17179869184 := hn; show _ < (1099511627776 : Int); omega
      | 1, _, hn => have : n < 268435456 := hn; show _ < (17179869184 : Int); omega
      | 2, _, hn => have : n < 4194304 := hn; show _ < (268435456 : Int); omega) (by omega) (by omega)
    rw [show (2 : Int) + (r : Int) = (r : Int) + 2 by omega] at this
    exact this
  · rw [decide_eq_false c2, if_pos (by omega)]
    exact Ev.ifn (by simp) (Ev.now _)
theorem Gs_end (s : ByteArray) (at_ : Int) : ∀ (r : Nat) (n lo hi i : Int), at_ + i ≤ s.size → at_ + (Gs s at_ r n lo hi i).2 ≤ s.size
  | 0, n, lo, hi, i, h => by simpa [Gs] using h
  | r + 1, n, lo, hi, i, h => by
    rw [Gs]
    split
    · exact h
    · split
      · exact h
      · exact Gs_end s at_ r _ _ _ _ (by omega)
theorem Gs_nn (s : ByteArray) (at_ : Int) : ∀ (r : Nat) (n lo hi i : Int), 0 ≤ n → 0 ≤ (Gs s at_ r n lo hi i).1
  | 0, n, lo, hi, i, h => by simpa [Gs] using h
  | r + 1, n, lo, hi, i, h => by
    have hb := bt_range s (at_ + i)
    rw [Gs]
    split
    · simp
    · split
      · simp
      · exact Gs_nn s at_ r _ _ _ _ (by omega)
set_option maxHeartbeats 4000000 in
theorem sign_both (s : ByteArray) (hs : s.size ≤ 1048576) (at_ : Int) (ha : 0 ≤ at_) (has : at_ < (s.size : Int)) : ∃ q : Int × Int, 1 ≤ q.2 ∧ q.2 ≤ 4 ∧ (at_ + q.2 ≤ s.size ∧ 0 ≤ q.1 ∧ (bt s at_ < 128 → q = (bt s at_, 1))) ∧ Ev (fun k => spec_GetSign.f k s at_) q ∧ Ev (fun k => impl_getSign.f k s at_) q := by
  have hb := bt_range s at_
  have hwb : wrap64 (bt s at_) = bt s at_ := by unfold wrap64; omega
  have hN : (((bt s at_).toNat : Nat) : Int) = bt s at_ := by omega
  have hand := u8and (bt s at_).toNat (by omega)
  have hand2 := i64and (bt s at_).toNat (by omega)
  rw [hN] at hand hand2
  have spec0 : ∀ q, Ev (fun k => (spec_l1Many.f (bt s at_)).bind fun t => (if t < 2 then (if t = 1 then (some (bt s at_, (1 : Int))) else (some (65533, 1))) else (if 0 ≤ t then (spec_GetSign.l0 k s at_ (bt s at_) t (Go.bits .and .i64 (bt s at_) (shr .i64 127 t)) 1) else (none)))) q → Ev (fun k => spec_GetSign.f k s at_) q := by
    intro q h
    unfold spec_GetSign.f
    refine Ev.ifn (by omega) ?_
    rw [decide_eq_false (by omega)]
    refine Ev.step (fun k => by simp only [spec_GetSign.j0]; rfl) (Ev.ifn (by simp) (Ev.ifp ha (Ev.ifp has ?_)))
    rw [hwb]
    exact h
  have impl0 : ∀ q, Ev (fun k => (impl_beginning.f k (bt s at_)).bind fun g => (if g.1 < 0 then (some (65533, 1)) else (impl_getSign.l0 k s at_ g.1 g.2.1 g.2.2.1 g.2.2.2 1))) q → Ev (fun k => impl_getSign.f k s at_) q := by
    intro q h
    unfold impl_getSign.f
    exact Ev.ifp ha (Ev.ifp has h)
  have bj : ∀ {g : Int × Int × Int × Int}, bt s at_ ≥ 194 → bt s at_ ≤ 244 → Ev (fun k => (if bt s at_ < 224 then (some ((1 : Int), wrap64 (Go.bits .and .u8 (bt s at_) 31), (128 : Int), (191 : Int))) else (if bt s at_ = 224 then (some (2, 0, 160, 191)) else (if bt s at_ = 237 then (some (2, 13, 128, 159)) else (if bt s at_ < 240 then (some (2, wrap64 (Go.bits .and .u8 (bt s at_) 15), 128, 191)) else (if bt s at_ = 240 then (some (3, 0, 144, 191)) else (if bt s at_ = 244 then (some (3, 4, 128, 143)) else (some (3, wrap64 (Go.bits .and .u8 (bt s at_) 7), 128, 191))))))))) g → Ev (fun k => impl_beginning.f k (bt s at_)) g := by
    intro g h1 h2 h
    unfold impl_beginning.f
    refine Ev.ifn (by omega) (Ev.ifn (by omega) ?_)
    rw [decide_eq_false (by omega)]
    refine Ev.step (fun k => by simp only [impl_beginning.j0]; rfl) (Ev.ifn (by simp) h)
  by_cases c1 : bt s at_ < 128
  · refine ⟨(bt s at_, 1), by simp, by simp, ⟨by show at_ + 1 ≤ _; omega, hb.1, fun _ => rfl⟩, spec0 _ ?_, impl0 _ ?_⟩
    · refine Ev.bindc (a := 1) (by unfold spec_l1Many.f; rw [if_pos c1]) (Ev.ifp (by omega) (Ev.ifp rfl (Ev.now _)))
    · refine Ev.bind (a := (0, bt s at_, 0, 0)) (by unfold impl_beginning.f; rw [hwb]; exact Ev.ifp c1 (Ev.now _)) (Ev.ifn (by simp) ?_)
      have := impl_Gs s at_ ha has hs 0 (bt s at_) 0 0 1 (by omega) hb.1 (by show _ < (1099511627776 : Int); omega) (by omega) (by omega)
      simpa [Gs] using this
  by_cases c2 : bt s at_ < 194 ∨ bt s at_ > 244
  · refine ⟨(65533, 1), by simp, by simp, ⟨by show at_ + 1 ≤ _; omega, by simp, fun h => absurd h c1⟩, spec0 _ ?_, impl0 _ ?_⟩
    · refine Ev.bindc (a := 0) ?_ (Ev.ifp (by omega) (Ev.ifn (by omega) (Ev.now _)))
      unfold spec_l1Many.f
      rw [if_neg c1, l1In_f, decide_eq_false (by omega), l1In_f, decide_eq_false (by omega), l1In_f, decide_eq_false (by omega)]
      rfl
    · refine Ev.bind (a := (-1, 0, 0, 0)) ?_ (Ev.ifp (by simp) (Ev.now _))
      unfold impl_beginning.f
      refine Ev.ifn c1 ?_
      have hj : Ev (fun k => impl_beginning.j0 k (bt s at_) true) (-1, 0, 0, 0) := Ev.step (f := fun _ => some (-1, 0, 0, 0)) (fun k => by simp [impl_beginning.j0]) (Ev.now _)
      by_cases c3 : bt s at_ < 194
      · exact Ev.ifp c3 hj
      · refine Ev.ifn c3 ?_
        rw [decide_eq_true (by omega)]
        exact hj
  have many : ∀ (r : Nat) (n0 : Int), spec_l1Many.f (bt s at_) = some ((r : Int) + 2) → bits .and .i64 (bt s at_) (shr .i64 127 ((r : Int) + 2)) = n0 → r + 1 ≤ 3 → 0 ≤ n0 → n0 < 4194304 → Ev (fun k => impl_beginning.f k (bt s at_)) ((r : Int) + 1, n0, secLo (bt s at_), secHi (bt s at_)) →
      ∃ q : Int × Int, 1 ≤ q.2 ∧ q.2 ≤ 4 ∧ (at_ + q.2 ≤ s.size ∧ 0 ≤ q.1 ∧ (bt s at_ < 128 → q = (bt s at_, 1))) ∧ Ev (fun k => spec_GetSign.f k s at_) q ∧ Ev (fun k => impl_getSign.f k s at_) q := by
    intro r n0 hm hn hr h0 hB hbg
    have hBd : n0 < Bd (r + 1) := by
      match r, hr with
      | 0, _ => show _ < (17179869184 : Int); omega
      | 1, _ => show _ < (268435456 : Int); omega
      | 2, _ => exact hB
    have hR := Gs_range s at_ (r + 1) n0 (secLo (bt s at_)) (secHi (bt s at_)) 1
    refine ⟨Gs s at_ (r + 1) n0 (secLo (bt s at_)) (secHi (bt s at_)) 1, hR.1, by omega, ⟨Gs_end s at_ _ _ _ _ _ (by omega), Gs_nn s at_ _ _ _ _ _ h0, fun h => absurd h c1⟩, spec0 _ ?_, impl0 _ ?_⟩
    · refine Ev.bindc hm (Ev.ifn (by omega) (Ev.ifp (by omega) ?_))
      rw [hn]
      exact spec_Gs1 s at_ _ ha has hs r n0 hr h0 hBd
    · refine Ev.bind hbg (Ev.ifn (by show ¬ ((r : Int) + 1 < 0); omega) ?_)
      have := impl_Gs s at_ ha has hs (r + 1) n0 (secLo (bt s at_)) (secHi (bt s at_)) 1 hr h0 hBd (by omega) (by omega)
      rw [show (1 : Int) + ((r + 1 : Nat) : Int) - 1 = (r : Int) + 1 by omega] at this
      exact this
  have wr : ∀ m : Int, 0 ≤ m → m < 256 → wrap64 m = m := by intro m h0 h1; unfold wrap64; omega
  by_cases c3 : bt s at_ < 224
  · refine many 0 (bt s at_ % 32) ?_ ?_ (by omega) (by omega) (by omega) (bj (by omega) (by omega) ?_)
    · unfold spec_l1Many.f
      rw [if_neg c1, l1In_f, decide_eq_true (by omega)]
      rfl
    · rw [show shr .i64 127 (((0 : Nat) : Int) + 2) = 31 by decide]; exact hand2.1
    · rw [hand.2.1, wr _ (by omega) (by omega)]
      refine Ev.ifp c3 ?_
      rw [show secLo (bt s at_) = 128 by unfold secLo; rw [if_neg (by omega), if_neg (by omega), if_neg (by omega)], show secHi (bt s at_) = 191 by unfold secHi; rw [if_neg (by omega), if_neg (by omega), if_neg (by omega), if_neg (by omega)]]
      exact Ev.now _
  by_cases c4 : bt s at_ < 240
  · refine many 1 (bt s at_ % 16) ?_ ?_ (by omega) (by omega) (by omega) (bj (by omega) (by omega) ?_)
    · unfold spec_l1Many.f
      rw [if_neg c1, l1In_f, decide_eq_false (by omega), l1In_f, decide_eq_true (by omega)]
      rfl
    · rw [show shr .i64 127 (((1 : Nat) : Int) + 2) = 15 by decide]; exact hand2.2.1
    · rw [hand.2.2.1, wr (bt s at_ % 16) (by omega) (by omega)]
      refine Ev.ifn c3 ?_
      by_cases d1 : bt s at_ = 224
      · refine Ev.ifp d1 ?_
        rw [d1]
        exact Ev.now _
      refine Ev.ifn d1 ?_
      by_cases d2 : bt s at_ = 237
      · refine Ev.ifp d2 ?_
        rw [d2]
        exact Ev.now _
      refine Ev.ifn d2 (Ev.ifp c4 ?_)
      rw [show secLo (bt s at_) = 128 by unfold secLo; rw [if_neg (by omega), if_neg (by omega), if_neg (by omega)], show secHi (bt s at_) = 191 by unfold secHi; rw [if_neg (by omega), if_neg (by omega), if_neg (by omega), if_neg (by omega)]]
      exact Ev.now _
  · refine many 2 (bt s at_ % 8) ?_ ?_ (by omega) (by omega) (by omega) (bj (by omega) (by omega) ?_)
    · unfold spec_l1Many.f
      rw [if_neg c1, l1In_f, decide_eq_false (by omega), l1In_f, decide_eq_false (by omega), l1In_f, decide_eq_true (by omega)]
      rfl
    · rw [show shr .i64 127 (((2 : Nat) : Int) + 2) = 7 by decide]; exact hand2.2.2
    · rw [hand.2.2.2, wr (bt s at_ % 8) (by omega) (by omega)]
      refine Ev.ifn c3 (Ev.ifn (by omega) (Ev.ifn (by omega) (Ev.ifn c4 ?_)))
      by_cases d1 : bt s at_ = 240
      · refine Ev.ifp d1 ?_
        rw [d1]
        exact Ev.now _
      refine Ev.ifn d1 ?_
      by_cases d2 : bt s at_ = 244
      · refine Ev.ifp d2 ?_
        rw [d2]
        exact Ev.now _
      refine Ev.ifn d2 ?_
      rw [show secLo (bt s at_) = 128 by unfold secLo; rw [if_neg (by omega), if_neg (by omega), if_neg (by omega)], show secHi (bt s at_) = 191 by unfold secHi; rw [if_neg (by omega), if_neg (by omega), if_neg (by omega), if_neg (by omega)]]
      exact Ev.now _
theorem clean_both (s : ByteArray) (hs : s.size ≤ 1048576) (i : Int) (h0 : 0 ≤ i) (h1 : i < (s.size : Int)) : ∃ q : Int × Int, 1 ≤ q.2 ∧ q.2 ≤ 4 ∧ (i + q.2 ≤ s.size ∧ 0 ≤ q.1 ∧ (bt s i < 128 → q = (bt s i, 1))) ∧ Ev (fun k => spec_GetSign.f k s i) q ∧
    Ev (fun k => impl_cleanSign.f k s i) (if (putF q.1).toList = (s.extract i.toNat (i + q.2).toNat).toList then q else (-1, 0)) := by
  obtain ⟨q, q1, q4, ⟨qe, qn, qa⟩, e1, e2⟩ := sign_both s hs i h0 h1
  have hw : wrap64 (i + q.2) = i + q.2 := by unfold wrap64; omega
  refine ⟨q, q1, q4, ⟨qe, qn, qa⟩, e1, ?_⟩
  unfold impl_cleanSign.f
  refine Ev.ifn (by omega) (Ev.bind e2 (Ev.bind (Ev.up 1 (fun k => implPut_f k q.1)) (Ev.ifp h0 ?_)))
  rw [hw]
  refine Ev.ifp (by omega) (Ev.ifp (by omega) ?_)
  by_cases c : (putF q.1).toList = (s.extract i.toNat (i + q.2).toNat).toList
  · simp only [if_pos c]; exact Ev.now _
  · simp only [if_neg c]; exact Ev.now _
theorem clean_end (s : ByteArray) (k : Nat) : impl_cleanSign.f k s s.size = some (-1, 0) := by
  unfold impl_cleanSign.f
  rw [if_pos (Int.le_refl _)]
end Go.Proofs.YtkmmoheeoblmnaaDoor.A
namespace Go.Proofs.YtkmmoheeoblmnaaDoor.A
open Go.RowKit Go.Proofs.YtkmmoheeoblmnaaDoorW.PrintWords Go.Proofs.YtkmmoheeoblmnaaDoorW.PrintLast Go.Proofs.YtkmmoheeoblmnaaDoorW.PrintMore
set_option linter.unusedVariables false
def letF (c : Int) : Bool := decide (97 ≤ c ∧ c ≤ 122) || decide (65 ≤ c ∧ c ≤ 90)
theorem implLetter_f (c : Int) : impl_IsLetter.f c = some (letF c) := by
  unfold impl_IsLetter.f letF
  rw [inRange_f, inRange_f]
  simp only [Option.bind_some]
  by_cases h : decide (97 ≤ c ∧ c ≤ 122) = true
  · rw [if_pos h, h]; rfl
  · rw [if_neg h, Bool.eq_false_iff.mpr h]; rfl
theorem specLetter_f (c : Int) : spec_IsLetter.f c = some (letF c) := by
  unfold spec_IsLetter.f letF
  rw [l1In_f, l1In_f]
  simp only [Option.bind_some]
  by_cases h : decide (97 ≤ c ∧ c ≤ 122) = true
  · rw [if_pos h, h]; rfl
  · rw [if_neg h, Bool.eq_false_iff.mpr h]; rfl
def flatP : List (Int × Int) → List Int
  | [] => []
  | p :: r => p.1 :: p.2 :: flatP r
theorem flatP_length : ∀ ps : List (Int × Int), (flatP ps).length = 2 * ps.length
  | [] => rfl
  | p :: r => by rw [flatP, List.length_cons, List.length_cons, flatP_length r, List.length_cons]; omega
theorem flatP_drop : ∀ (ps : List (Int × Int)) (j : Nat), (flatP ps).drop (2 * j) = flatP (ps.drop j)
  | ps, 0 => rfl
  | [], j + 1 => by simp [flatP]
  | p :: r, j + 1 => by
    rw [show 2 * (j + 1) = (2 * j + 1) + 1 by omega, flatP, List.drop_succ_cons, List.drop_succ_cons, flatP_drop r j]
    rfl
theorem within_l (n : Int) (ps : List (Int × Int)) (hl : ps.length ≤ 100) : ∀ (d j : Nat), ps.length - j = d → j ≤ ps.length → Ev (fun k => spec_l2Within.l0 k (flatP ps) n (2 * (j : Int))) (inSp n (ps.drop j)) := by
  intro d
  induction d with
  | zero =>
    intro j hd hj
    have hw : wrap64 (2 * (j : Int) + 1) = 2 * (j : Int) + 1 := by unfold wrap64; omega
    refine Ev.step (fun k => by simp only [spec_l2Within.l0]; rfl) ?_
    rw [hw, flatP_length, List.drop_of_length_le (by omega)]
    exact Ev.ifn (by omega) (Ev.now _)
  | succ d ih =>
    intro j hd hj
    have hlt : j < ps.length := by omega
    have hw : wrap64 (2 * (j : Int) + 1) = 2 * (j : Int) + 1 := by unfold wrap64; omega
    have hw2 : wrap64 (2 * (j : Int) + 2) = 2 * ((j + 1 : Nat) : Int) := by unfold wrap64; omega
    have hdr := flatP_drop ps j
    rw [List.drop_eq_getElem_cons hlt, flatP] at hdr
    have hfl := flatP_length ps
    have g0 : (flatP ps)[2 * j]'(by omega) = (ps[j]).1 := by
      have := congrArg (fun l => l[0]?) hdr
      simp only [List.getElem?_drop, Nat.add_zero, List.getElem?_cons_zero] at this
      exact (List.getElem?_eq_some_iff.1 this).2
    have g1 : (flatP ps)[2 * j + 1]'(by omega) = (ps[j]).2 := by
      have := congrArg (fun l => l[1]?) hdr
      simp only [List.getElem?_drop, List.getElem?_cons_succ, List.getElem?_cons_zero] at this
      exact (List.getElem?_eq_some_iff.1 this).2
    have r0 : rd (flatP ps) (2 * (j : Int)) = (ps[j]).1 := by
      rw [← g0]
      unfold rd
      rw [show (2 * (j : Int)).toNat = 2 * j by omega]
      simp [show 2 * j < (flatP ps).length by omega]
    have r1 : rd (flatP ps) (2 * (j : Int) + 1) = (ps[j]).2 := by
      rw [← g1]
      unfold rd
      rw [show (2 * (j : Int) + 1).toNat = 2 * j + 1 by omega]
      simp [show 2 * j + 1 < (flatP ps).length by omega]
    refine Ev.step (fun k => by simp only [spec_l2Within.l0]; rfl) ?_
    rw [hw, hw2, r0, r1, hfl, List.drop_eq_getElem_cons hlt, inSp]
    refine Ev.ifp (by omega) (Ev.ifp (by omega) (Ev.ifp (by omega) (Ev.ifp (by omega) (Ev.bindc (l1In_f _ _ _) ?_))))
    by_cases c : (ps[j]).1 ≤ n ∧ n ≤ (ps[j]).2
    · rw [decide_eq_true c, decide_eq_true c.1, decide_eq_true c.2]
      exact Ev.ifp rfl (Ev.now _)
    · rw [decide_eq_false c]
      have e0 : (decide ((ps[j]).1 ≤ n) && decide (n ≤ (ps[j]).2)) = false := by
        rw [Bool.and_eq_false_iff]
        by_cases c1 : (ps[j]).1 ≤ n
        · exact Or.inr (decide_eq_false (fun h => c ⟨c1, h⟩))
        · exact Or.inl (decide_eq_false c1)
      rw [e0, Bool.false_or]
      exact Ev.ifn (by simp) (ih (j + 1) (by omega) (by omega))
theorem ev_within (n : Int) (ps : List (Int × Int)) (hl : ps.length ≤ 100) : Ev (fun k => spec_l2Within.f k (flatP ps) n) (inSp n ps) := within_l n ps hl ps.length 0 (by omega) (by omega)
def firstF (n : Int) : Bool := if letF n = true then true else if n = 95 then true else inSp n firstSp
theorem implFirst_f (n : Int) : impl_IsFirst.f n = some (firstF n) := by
  unfold impl_IsFirst.f firstF
  rw [implLetter_f, Option.bind_some]
  split
  · rfl
  · split <;> rfl
theorem ev_specFirst (n : Int) : Ev (fun k => spec_IsFirst.f k n) (firstF n) := by
  unfold spec_IsFirst.f firstF
  refine Ev.bindc (specLetter_f n) ?_
  by_cases c1 : letF n = true
  · rw [if_pos c1]; exact Ev.ifp c1 (Ev.now _)
  rw [if_neg c1]
  refine Ev.ifn c1 ?_
  by_cases c2 : n = 95
  · rw [if_pos c2]; exact Ev.ifp c2 (Ev.now _)
  rw [if_neg c2]
  exact Ev.ifn c2 (Ev.bind (ev_within n firstSp (by decide)) (Ev.now _))
def nextF (n : Int) : Bool := if firstF n = true then true else inSp n nextSp
theorem implNext_f (n : Int) : impl_IsNext.f n = some (nextF n) := by
  unfold impl_IsNext.f nextF
  rw [implFirst_f, Option.bind_some]
  split <;> rfl
theorem ev_specNext (n : Int) : Ev (fun k => spec_IsNext.f k n) (nextF n) := by
  unfold spec_IsNext.f nextF
  refine Ev.bind (ev_specFirst n) ?_
  by_cases c1 : firstF n = true
  · rw [if_pos c1]; exact Ev.ifp c1 (Ev.now _)
  rw [if_neg c1]
  refine Ev.ifn c1 ?_
  by_cases c2 : n = 45
  · subst c2; exact Ev.ifp rfl (Ev.now _)
  refine Ev.ifn c2 ?_
  by_cases c3 : n = 46
  · subst c3; exact Ev.ifp rfl (Ev.now _)
  refine Ev.ifn c3 ?_
  by_cases c4 : n = 183
  · subst c4; exact Ev.ifp rfl (Ev.now _)
  refine Ev.ifn c4 (Ev.bind (ev_within n [(48, 57), (768, 879), (8255, 8256)] (by decide)) ?_)
  have e : inSp n nextSp = inSp n [(48, 57), (768, 879), (8255, 8256)] := by
    have e1 : (decide ((45 : Int) ≤ n) && decide (n ≤ 46)) = false := by
      rw [Bool.and_eq_false_iff]
      by_cases c : (45 : Int) ≤ n
      · exact Or.inr (decide_eq_false (by omega))
      · exact Or.inl (decide_eq_false c)
    have e2 : (decide ((183 : Int) ≤ n) && decide (n ≤ 183)) = false := by
      rw [Bool.and_eq_false_iff]
      by_cases c : (183 : Int) ≤ n
      · exact Or.inr (decide_eq_false (by omega))
      · exact Or.inl (decide_eq_false c)
    simp only [inSp, e1, e2, Bool.false_or]
  rw [e]
  exact Ev.now _
set_option maxHeartbeats 1000000 in
theorem name_l (s : ByteArray) (hs : s.size ≤ 1048576) (a : Int) (a0 : 0 ≤ a) : ∀ (d : Nat) (i : Int), ((s.size : Int) - i).toNat ≤ d → a ≤ i → i ≤ s.size →
    ∃ e : Int, i ≤ e ∧ e ≤ s.size ∧ Ev (fun k => spec_XmlName.l0 k s a i) (s.extract a.toNat e.toNat, e) ∧ Ev (fun k => impl_XmlName.l0 k s a i) (s.extract a.toNat e.toNat, e) := by
  intro d
  induction d with
  | zero =>
    intro i hd hai hi
    obtain rfl : i = (s.size : Int) := by omega
    refine ⟨s.size, Int.le_refl _, Int.le_refl _, ?_, ?_⟩
    · refine Ev.step (fun k => by simp only [spec_XmlName.l0]; rfl) (Ev.ifn (by omega) ?_)
      exact Ev.ifp a0 (Ev.ifp hai (Ev.ifp hi (Ev.now _)))
    · refine Ev.step (fun k => by simp only [impl_XmlName.l0]; rfl) (Ev.bind (Ev.up 0 (fun k => clean_end s k)) ?_)
      refine Ev.ifp (show (-1 : Int) < 0 by decide) ?_
      exact Ev.ifp a0 (Ev.ifp hai (Ev.ifp hi (Ev.now _)))
  | succ d ih =>
    intro i hd hai hi
    by_cases c0 : i = (s.size : Int)
    · exact ih i (by omega) hai hi
    have hlt : i < (s.size : Int) := by omega
    obtain ⟨q, q1, q4, ⟨qe, qn, qa⟩, e1, e2⟩ := clean_both s hs i (by omega) hlt
    have hw : wrap64 (i + q.2) = i + q.2 := by unfold wrap64; omega
    have fin1 : ∀ {g : Nat → Option (ByteArray × Int)}, True → Ev (fun k => if 0 ≤ a then (if a ≤ i then (if i ≤ (s.size : Int) then some (s.extract a.toNat i.toNat, i) else none) else none) else none) (s.extract a.toNat i.toNat, i) := fun _ => Ev.ifp a0 (Ev.ifp hai (Ev.ifp hi (Ev.now _)))
    by_cases cc : (putF q.1).toList = (s.extract i.toNat (i + q.2).toNat).toList
    · rw [if_pos cc] at e2
      by_cases cf : (i = a ∧ firstF q.1 = false) ∨ nextF q.1 = false
      · refine ⟨i, Int.le_refl _, hi, ?_, ?_⟩
        · refine Ev.step (fun k => by simp only [spec_XmlName.l0]; rfl) (Ev.ifp hlt (Ev.bind e1 ?_))
          by_cases ca : i = a
          · refine Ev.ifp ca (Ev.bind (ev_specFirst q.1) ?_)
            by_cases cq : firstF q.1 = true
            · refine Ev.ifp cq (Ev.bind (ev_specNext q.1) (Ev.ifn (by rcases cf with h | h; exact absurd cq (by rw [h.2]; simp); rw [h]; simp) (fin1 (g := fun _ => none) trivial)))
            · exact Ev.ifn cq (fin1 (g := fun _ => none) trivial)
          · refine Ev.ifn ca (Ev.bind (ev_specNext q.1) (Ev.ifn (by rcases cf with h | h; exact absurd h.1 ca; rw [h]; simp) (fin1 (g := fun _ => none) trivial)))
        · refine Ev.step (fun k => by simp only [impl_XmlName.l0]; rfl) (Ev.bind e2 ?_)
          refine Ev.ifn (by omega) ?_
          by_cases ca : i = a
          · refine Ev.ifp ca (Ev.bindc (implFirst_f q.1) ?_)
            by_cases cq : firstF q.1 = true
            · refine Ev.ifp cq (Ev.bindc (implNext_f q.1) (Ev.ifn (by rcases cf with h | h; exact absurd cq (by rw [h.2]; simp); rw [h]; simp) (fin1 (g := fun _ => none) trivial)))
            · exact Ev.ifn cq (fin1 (g := fun _ => none) trivial)
          · refine Ev.ifn ca (Ev.bindc (implNext_f q.1) (Ev.ifn (by rcases cf with h | h; exact absurd h.1 ca; rw [h]; simp) (fin1 (g := fun _ => none) trivial)))
      · obtain ⟨e, h1, h2, h3, h4⟩ := ih (i + q.2) (by omega) (by omega) (by omega)
        have cn : nextF q.1 = true := by
          cases h : nextF q.1 with
          | true => rfl
          | false => exact absurd (Or.inr h) cf
        have cq : i = a → firstF q.1 = true := fun hia => by
          cases h : firstF q.1 with
          | true => rfl
          | false => exact absurd (Or.inl ⟨hia, h⟩) cf
        refine ⟨e, by omega, h2, ?_, ?_⟩
        · refine Ev.step (fun k => by simp only [spec_XmlName.l0]; rfl) (Ev.ifp hlt (Ev.bind e1 ?_))
          rw [hw]
          by_cases ca : i = a
          · exact Ev.ifp ca (Ev.bind (ev_specFirst q.1) (Ev.ifp (cq ca) (Ev.bind (ev_specNext q.1) (Ev.ifp cn (Ev.bind (Ev.up 1 (fun k => specPut_f k q.1)) (Ev.ifp (by omega) (Ev.ifp (by omega) (Ev.ifp qe (Ev.ifp cc h3)))))))))
          · exact Ev.ifn ca (Ev.bind (ev_specNext q.1) (Ev.ifp cn (Ev.bind (Ev.up 1 (fun k => specPut_f k q.1)) (Ev.ifp (by omega) (Ev.ifp (by omega) (Ev.ifp qe (Ev.ifp cc h3)))))))
        · refine Ev.step (fun k => by simp only [impl_XmlName.l0]; rfl) (Ev.bind e2 ?_)
          refine Ev.ifn (by omega) ?_
          rw [hw]
          by_cases ca : i = a
          · exact Ev.ifp ca (Ev.bindc (implFirst_f q.1) (Ev.ifp (cq ca) (Ev.bindc (implNext_f q.1) (Ev.ifp cn h4))))
          · exact Ev.ifn ca (Ev.bindc (implNext_f q.1) (Ev.ifp cn h4))
    · rw [if_neg cc] at e2
      refine ⟨i, Int.le_refl _, hi, ?_, ?_⟩
      · refine Ev.step (fun k => by simp only [spec_XmlName.l0]; rfl) (Ev.ifp hlt (Ev.bind e1 ?_))
        rw [hw]
        have put : Ev (fun k => (spec_PutSign.f k q.1).bind fun t => (if 0 ≤ i then (if i ≤ i + q.2 then (if i + q.2 ≤ (s.size : Int) then (if t.toList = (s.extract i.toNat (i + q.2).toNat).toList then (spec_XmlName.l0 k s a (i + q.2)) else (if 0 ≤ a then (if a ≤ i then (if i ≤ (s.size : Int) then (some (s.extract a.toNat i.toNat, i)) else (none)) else (none)) else (none))) else (none)) else (none)) else (none))) (s.extract a.toNat i.toNat, i) :=
          Ev.bind (Ev.up 1 (fun k => specPut_f k q.1)) (Ev.ifp (by omega) (Ev.ifp (by omega) (Ev.ifp qe (Ev.ifn cc (fin1 (g := fun _ => none) trivial)))))
        have nx : Ev (fun k => (spec_IsNext.f k q.1).bind fun t => (if t = true then ((spec_PutSign.f k q.1).bind fun t => (if 0 ≤ i then (if i ≤ i + q.2 then (if i + q.2 ≤ (s.size : Int) then (if t.toList = (s.extract i.toNat (i + q.2).toNat).toList then (spec_XmlName.l0 k s a (i + q.2)) else (if 0 ≤ a then (if a ≤ i then (if i ≤ (s.size : Int) then (some (s.extract a.toNat i.toNat, i)) else (none)) else (none)) else (none))) else (none)) else (none)) else (none))) else (if 0 ≤ a then (if a ≤ i then (if i ≤ (s.size : Int) then (some (s.extract a.toNat i.toNat, i)) else (none)) else (none)) else (none)))) (s.extract a.toNat i.toNat, i) := by
          refine Ev.bind (ev_specNext q.1) ?_
          by_cases cn : nextF q.1 = true
          · exact Ev.ifp cn put
          · exact Ev.ifn cn (fin1 (g := fun _ => none) trivial)
        by_cases ca : i = a
        · refine Ev.ifp ca (Ev.bind (ev_specFirst q.1) ?_)
          by_cases cq : firstF q.1 = true
          · exact Ev.ifp cq nx
          · exact Ev.ifn cq (fin1 (g := fun _ => none) trivial)
        · exact Ev.ifn ca nx
      · refine Ev.step (fun k => by simp only [impl_XmlName.l0]; rfl) (Ev.bind e2 ?_)
        refine Ev.ifp (show (-1 : Int) < 0 by decide) ?_
        exact fin1 (g := fun _ => none) trivial
theorem name_both (s : ByteArray) (hs : s.size ≤ 1048576) (a : Int) (aw : (Lit.int .i64 a).wf = true) : ∃ q : ByteArray × Int, Ev (fun k => spec_XmlName.f k s a) q ∧ Ev (fun k => impl_XmlName.f k s a) q ∧ (q.1.toList = [] ∨ (0 ≤ q.2 ∧ q.2 ≤ s.size)) := by
  have hw : wrap64 ((s.size : Int) - 1) = (s.size : Int) - 1 := by unfold wrap64; omega
  have nil : (⟨#[]⟩ : ByteArray).toList = [] := by rw [Lib.toList_data]
  have impl0 : ¬ (0 ≤ a ∧ a ≤ (s.size : Int) - 1) → Ev (fun k => impl_XmlName.f k s a) (⟨#[]⟩, a) := fun h => by
    unfold impl_XmlName.f
    rw [hw]
    refine Ev.bindc (inRange_f _ _ _) ?_
    rw [decide_eq_false h]
    exact Ev.ifn (by simp) (Ev.now _)
  by_cases c1 : a < 0
  · refine ⟨(⟨#[]⟩, a), ?_, impl0 (by omega), .inl nil⟩
    unfold spec_XmlName.f
    refine Ev.ifp c1 (Ev.step (fun k => by simp only [spec_XmlName.j0]; rfl) ?_)
    exact Ev.ifp trivial (Ev.now _)
  by_cases c2 : a > (s.size : Int)
  · refine ⟨(⟨#[]⟩, a), ?_, impl0 (by omega), .inl nil⟩
    unfold spec_XmlName.f
    refine Ev.ifn c1 ?_
    rw [decide_eq_true c2]
    refine Ev.step (fun k => by simp only [spec_XmlName.j0]; rfl) ?_
    exact Ev.ifp trivial (Ev.now _)
  have spec0 : ∀ {q : ByteArray × Int}, Ev (fun k => spec_XmlName.l0 k s a a) q → Ev (fun k => spec_XmlName.f k s a) q := fun h => by
    unfold spec_XmlName.f
    refine Ev.ifn c1 ?_
    rw [decide_eq_false c2]
    refine Ev.step (fun k => by simp only [spec_XmlName.j0]; rfl) ?_
    exact Ev.ifn (by simp) h
  by_cases c3 : a = (s.size : Int)
  · refine ⟨(⟨#[]⟩, a), spec0 ?_, impl0 (by omega), .inl nil⟩
    subst c3
    have e : s.extract (s.size : Int).toNat (s.size : Int).toNat = (⟨#[]⟩ : ByteArray) := by
      apply ByteArray.ext
      simp
    refine Ev.step (fun k => by simp only [spec_XmlName.l0]; rfl) (Ev.ifn (by omega) (Ev.ifp (by omega) (Ev.ifp (by omega) (Ev.ifp (by omega) ?_))))
    rw [e]
    exact Ev.now _
  obtain ⟨e, h1, h2, h3, h4⟩ := name_l s hs a (by omega) _ a (Nat.le_refl _) (Int.le_refl _) (by omega)
  refine ⟨_, spec0 h3, ?_, .inr ⟨by show 0 ≤ e; omega, h2⟩⟩
  unfold impl_XmlName.f
  rw [hw]
  refine Ev.bindc (inRange_f _ _ _) ?_
  rw [decide_eq_true (show 0 ≤ a ∧ a ≤ (s.size : Int) - 1 by omega)]
  exact Ev.ifp rfl h4
end Go.Proofs.YtkmmoheeoblmnaaDoor.A
namespace Go.Proofs.YtkmmoheeoblmnaaDoor.A
open Go.RowKit Go.Proofs.YtkmmoheeoblmnaaDoorW.PrintWords Go.Proofs.YtkmmoheeoblmnaaDoorW.PrintLast Go.Proofs.YtkmmoheeoblmnaaDoorW.PrintMore
set_option linter.unusedVariables false
def isT (n : Int) : Bool := if n = 9 then true else if n = 10 then true else if n = 13 then true else if signOk n = true then (if n ≥ 32 then (if n = 65534 then false else n != 65535) else false) else false
theorem implIsT (n : Int) : impl_IsText.f n = some (isT n) := by
  unfold impl_IsText.f isT
  rw [implSignOk_f, Option.bind_some]
  repeat' split
  all_goals rfl
theorem specIsT (n : Int) : spec_IsText.f n = some (isT n) := by
  rw [← implIsT]
  unfold spec_IsText.f impl_IsText.f
  rw [specSignOk_f, implSignOk_f]
theorem isT_nn {n : Int} (h : isT n = true) : 0 < n := by
  unfold isT at h
  split at h
  · omega
  · split at h
    · omega
    · split at h
      · omega
      · split at h
        · split at h
          · omega
          · cases h
        · cases h
theorem digitVal_some {b : UInt8} {d : Nat} (h : Lib.digitVal b = some d) : 48 ≤ b.toNat ∧ b.toNat ≤ 57 ∧ d = b.toNat - 48 := by
  unfold Lib.digitVal at h
  split at h
  · rename_i hh; cases h; exact ⟨hh.1, hh.2, rfl⟩
  · cases h
theorem decDigits_ok : ∀ (n : Nat), 0 < n → Lib.decFrom 0 (Lib.decDigits n) = some n ∧ (Lib.decDigits n)[0]? ≠ some 48 ∧ Lib.decDigits n ≠ [] := by
  intro n
  induction n using Nat.strongRecOn with
  | _ n ih =>
    intro hn
    rw [Lib.decDigits]
    split
    · rename_i h10
      have hv : Lib.digitVal (UInt8.ofNat (48 + n)) = some n := by
        have : (UInt8.ofNat (48 + n)).toNat = 48 + n := by simp; omega
        unfold Lib.digitVal
        rw [this, if_pos (by omega)]
        congr 1; omega
      refine ⟨?_, ?_, by simp⟩
      · rw [Lib.decFrom, hv]
        show Lib.decFrom (0 * 10 + n) [] = some n
        rw [Lib.decFrom]
        congr 1; omega
      · intro h
        have h' := Option.some.inj h
        have := congrArg UInt8.toNat h'
        simp at this
        omega
    · rename_i h10
      obtain ⟨i1, i2, i3⟩ := ih (n / 10) (by omega) (by omega)
      have hv : Lib.digitVal (UInt8.ofNat (48 + n % 10)) = some (n % 10) := by
        have : (UInt8.ofNat (48 + n % 10)).toNat = 48 + n % 10 := by simp; omega
        unfold Lib.digitVal
        rw [this, if_pos (by omega)]
        congr 1; omega
      refine ⟨?_, ?_, by simp⟩
      · have := Lib.decFrom_take (Lib.decDigits (n / 10) ++ [UInt8.ofNat (48 + n % 10)]) (Lib.decDigits (n / 10)).length 0 (n / 10) (UInt8.ofNat (48 + n % 10)) (n % 10) (by rw [List.take_left']; exact i1; rfl) (by simp) hv
        rw [List.take_of_length_le (by simp)] at this
        rw [this]
        congr 1; omega
      · rw [List.getElem?_append_left (by exact List.length_pos_iff.mpr i3)]
        exact i2
theorem decFrom_snoc (l : List UInt8) (b : UInt8) (acc n : Nat) (h : Lib.decFrom acc (l ++ [b]) = some n) : ∃ m d, Lib.decFrom acc l = some m ∧ Lib.digitVal b = some d ∧ n = m * 10 + d := by
  induction l generalizing acc with
  | nil =>
    rw [List.nil_append, Lib.decFrom] at h
    cases hd : Lib.digitVal b with
    | none => rw [hd] at h; cases h
    | some d => rw [hd] at h; exact ⟨acc, d, rfl, rfl, (Option.some.inj h).symm⟩
  | cons c l ih =>
    rw [List.cons_append, Lib.decFrom] at h
    rw [Lib.decFrom]
    cases hd : Lib.digitVal c with
    | none => rw [hd] at h; cases h
    | some d => rw [hd] at h; exact ih _ h
theorem decDigits_canon : ∀ (r : List UInt8) (n : Nat), r ≠ [] → r.reverse[0]? ≠ some 48 → Lib.decFrom 0 r.reverse = some n → Lib.decDigits n = r.reverse
  | [], _, h, _, _ => absurd rfl h
  | [b], n, _, h48, h => by
    rw [List.reverse_cons, List.reverse_nil] at h h48 ⊢
    obtain ⟨m, d, e1, e2, rfl⟩ := decFrom_snoc [] b 0 n h
    obtain rfl : 0 = m := Option.some.inj e1
    obtain ⟨h1, h2, rfl⟩ := digitVal_some e2
    rw [Lib.decDigits, dif_pos (by omega)]
    congr 1
    apply UInt8.toNat_inj.mp
    simp
    omega
  | b :: c :: r, n, _, h48, h => by
    rw [List.reverse_cons] at h h48 ⊢
    obtain ⟨m, d, e1, e2, rfl⟩ := decFrom_snoc _ b 0 n h
    have hl : (c :: r).reverse ≠ [] := by simp
    have hh : (c :: r).reverse[0]? ≠ some 48 := by
      rw [List.getElem?_append_left (by exact List.length_pos_iff.mpr hl)] at h48
      exact h48
    have ih := decDigits_canon (c :: r) m (by simp) hh e1
    obtain ⟨h1, h2, rfl⟩ := digitVal_some e2
    have hm : m ≠ 0 := by
      rintro rfl
      rw [← ih] at hh
      exact hh (by rw [Lib.decDigits, dif_pos (by omega)]; rfl)
    rw [Lib.decDigits, dif_neg (by omega), show (m * 10 + (b.toNat - 48)) / 10 = m by omega, ih]
    congr 2
    apply UInt8.toNat_inj.mp
    simp
    omega
theorem canon {l : List UInt8} {n : Nat} (h0 : l ≠ []) (h48 : l[0]? ≠ some 48) (h : Lib.decFrom 0 l = some n) : Lib.decDigits n = l := by
  have := decDigits_canon l.reverse n (by simpa using h0) (by simpa using h48) (by simpa using h)
  simpa using this
theorem atoi_canon {l : List UInt8} {n : Nat} (h0 : l ≠ []) (h48 : l[0]? ≠ some 48) (h : Lib.decFrom 0 l = some n) : Lib.atoi l = some (n : Int) ∧ Lib.itoa (n : Int) = l ∧ n ≠ 0 := by
  have hc := canon h0 h48 h
  refine ⟨?_, ?_, ?_⟩
  · cases l with
    | nil => exact absurd rfl h0
    | cons b r =>
      obtain ⟨d, hd⟩ := Lib.digit_of_decFrom _ _ _ h 0 b rfl
      obtain ⟨h1, h2, _⟩ := digitVal_some hd
      have n1 : (b == 45) = false := beq_eq_false_iff_ne.mpr (fun e => by subst e; exact absurd h1 (by decide))
      have n2 : (b == 43) = false := beq_eq_false_iff_ne.mpr (fun e => by subst e; exact absurd h1 (by decide))
      rw [Lib.atoi, n1, n2]
      simp [Lib.decNat, h]
  · unfold Lib.itoa
    rw [if_neg (by omega)]
    simpa using hc
  · rintro rfl
    rw [← hc] at h48
    exact h48 (by rw [Lib.decDigits, dif_pos (by omega)]; rfl)
theorem itoa_pos {l : List UInt8} {n : Int} (h : Lib.itoa n = l) (hn : 0 < n) : Lib.decFrom 0 l = some n.toNat ∧ l[0]? ≠ some 48 ∧ l ≠ [] := by
  unfold Lib.itoa at h
  rw [if_neg (by omega)] at h
  rw [← h]
  exact decDigits_ok _ (by omega)
def standsAt (s : ByteArray) (p : Int) (nm : ByteArray) : Prop := p + nm.size ≤ s.size ∧ (s.extract p.toNat (p + nm.size).toNat).toList = nm.toList
instance (s : ByteArray) (p : Int) (nm : ByteArray) : Decidable (standsAt s p nm) := by unfold standsAt; infer_instance
theorem hasPrefix0_f (s : ByteArray) (p : Int) (nm : ByteArray) (h0 : 0 ≤ p) (hp : p ≤ s.size) : stringslite_HasPrefix.f (s.extract p.toNat s.size) nm = some (decide (standsAt s p nm)) := by
  unfold stringslite_HasPrefix.f
  have hsz : (s.extract p.toNat s.size).size = s.size - p.toNat := by rw [ByteArray.size_extract]; omega
  rw [hsz]
  by_cases c : p + nm.size ≤ s.size
  · have hx : (s.extract p.toNat s.size).extract 0 ((nm.size : Int)).toNat = s.extract p.toNat (p + nm.size).toNat := by
      rw [ByteArray.extract_extract]
      congr 1
      omega
    rw [if_pos (by omega), if_pos (by omega), if_pos (by omega), hx]
    congr 1
    by_cases h : (s.extract p.toNat (p + nm.size).toNat).toList = nm.toList
    · rw [decide_eq_true (show standsAt s p nm from ⟨c, h⟩)]; exact beq_iff_eq.mpr h
    · rw [decide_eq_false (show ¬ standsAt s p nm from fun hh => h hh.2)]; exact beq_eq_false_iff_ne.mpr h
  · rw [if_neg (by omega), decide_eq_false (show ¬ standsAt s p nm from fun hh => c hh.1)]
theorem hasPrefix_f (s : ByteArray) (p : Int) (nm : ByteArray) (h0 : 0 ≤ p) (hp : p ≤ s.size) : strings_HasPrefix.f (s.extract p.toNat s.size) nm = some (decide (standsAt s p nm)) := by
  unfold strings_HasPrefix.f
  rw [hasPrefix0_f s p nm h0 hp, Option.bind_some]
theorem stands_f (s : ByteArray) (hs : s.size ≤ 1048576) (p : Int) (nm : ByteArray) (hn : nm.size ≤ 1048576) (h0 : 0 ≤ p) (hp : p ≤ s.size) : spec_l5Stands.f s p nm = some (decide (standsAt s p nm)) := by
  unfold spec_l5Stands.f
  have hw : wrap64 (p + (nm.size : Int)) = p + nm.size := by unfold wrap64; omega
  rw [hw]
  by_cases c : p + nm.size ≤ s.size
  · rw [if_pos c, if_pos h0, if_pos (by omega)]
    congr 1
    by_cases h : (s.extract p.toNat (p + nm.size).toNat).toList = nm.toList
    · rw [decide_eq_true (show standsAt s p nm from ⟨c, h⟩)]; exact beq_iff_eq.mpr h
    · rw [decide_eq_false (show ¬ standsAt s p nm from fun hh => h hh.2)]; exact beq_eq_false_iff_ne.mpr h
  · rw [if_neg c, decide_eq_false (show ¬ standsAt s p nm from fun hh => c hh.1)]
theorem cut_f (s : ByteArray) (p : Int) (nm : ByteArray) (h0 : 0 ≤ p) (hp : p ≤ s.size) : strings_CutPrefix.f (s.extract p.toNat s.size) nm = some (if standsAt s p nm then (s.extract (p + nm.size).toNat s.size, true) else (s.extract p.toNat s.size, false)) := by
  unfold strings_CutPrefix.f stringslite_CutPrefix.f
  rw [hasPrefix0_f s p nm h0 hp, Option.bind_some]
  by_cases c : standsAt s p nm
  · have hsz : (s.extract p.toNat s.size).size = s.size - p.toNat := by rw [ByteArray.size_extract]; omega
    have h1 := c.1
    have hx : (s.extract p.toNat s.size).extract ((nm.size : Int)).toNat (s.size - p.toNat) = s.extract (p + nm.size).toNat s.size := by
      rw [ByteArray.extract_extract]
      congr 1
      · omega
      · omega
    rw [decide_eq_true c, if_pos rfl, if_pos (by omega), hsz, if_pos (by omega), Option.bind_some, if_pos c, hx]
  · rw [decide_eq_false c, if_neg (by simp), Option.bind_some, if_neg c]
theorem bt_list (s : ByteArray) (p : Int) (h0 : 0 ≤ p) (h1 : p < (s.size : Int)) : ∃ b : UInt8, s.data.toList[p.toNat]? = some b ∧ bt s p = (b.toNat : Int) := by
  have h : p.toNat < s.size := by omega
  refine ⟨s[p.toNat]'h, Lib.data_getElem? s p.toNat h, ?_⟩
  unfold bt
  rw [dif_pos h]
theorem stands_bt {s : ByteArray} {p : Int} {nm : ByteArray} (h : standsAt s p nm) (p0 : 0 ≤ p) (j : Nat) (hj : j < nm.size) : ∃ b : UInt8, nm.data.toList[j]? = some b ∧ bt s (p + j) = (b.toNat : Int) := by
  obtain ⟨h1, h2⟩ := h
  obtain ⟨b, e1, e2⟩ := bt_list s (p + j) (by omega) (by omega)
  refine ⟨b, ?_, e2⟩
  rw [Lib.toList_data, Lib.toList_data] at h2
  rw [← h2, ByteArray.data_extract, Array.toList_extract, List.extract_eq_take_drop, List.getElem?_take, if_pos (by omega), List.getElem?_drop, show p.toNat + j = (p + j).toNat by omega]
  exact e1
abbrev numL (s : ByteArray) (a : Int) : List UInt8 := s.data.toList.drop (a + 2).toNat
def NumP (L : List UInt8) (e v : Nat) : Prop := 1 ≤ e ∧ e ≤ 7 ∧ L[e]? = some 59 ∧ L[0]? ≠ some 48 ∧ Lib.decFrom 0 (L.take e) = some v
def NumRes (L : List UInt8) (a : Int) (q : Int × Int) : Prop := (∃ e v : Nat, NumP L e v ∧ isT v = true ∧ q = ((v : Int), a + 2 + e)) ∨ ((∀ e v : Nat, NumP L e v → isT v = false) ∧ q = (0, -1))
theorem numL_at (s : ByteArray) (a : Int) (a0 : 0 ≤ a) (j : Nat) : (a + 2 + j < (s.size : Int) → ∃ b : UInt8, (numL s a)[j]? = some b ∧ bt s (a + 2 + j) = (b.toNat : Int)) ∧ (¬ a + 2 + j < (s.size : Int) → (numL s a)[j]? = none) := by
  refine ⟨fun h => ?_, fun h => ?_⟩
  · obtain ⟨b, e1, e2⟩ := bt_list s (a + 2 + j) (by omega) h
    refine ⟨b, ?_, e2⟩
    rw [List.getElem?_drop, show (a + 2).toNat + j = (a + 2 + j).toNat by omega]
    exact e1
  · rw [List.getElem?_drop]
    apply List.getElem?_eq_none
    have := Lib.size_eq s
    omega
theorem num_uniq {L : List UInt8} {j v e v' : Nat} (h7 : j ≤ 7) (hv : Lib.decFrom 0 (L.take j) = some v) (hst : j < 7 → ∀ b, L[j]? = some b → Lib.digitVal b = none) (h : NumP L e v') : e = j ∧ v' = v := by
  obtain ⟨p1, p2, p3, p4, p5⟩ := h
  have hej : e = j := by
    by_cases c : e < j
    · obtain ⟨d, hd⟩ := Lib.digit_of_decFrom _ _ _ hv e 59 (by rw [List.getElem?_take, if_pos c]; exact p3)
      exact absurd hd (by simp [Lib.digitVal])
    · by_cases c2 : j < e
      · have he : e < L.length := (List.getElem?_eq_some_iff.1 p3).1
        have hL : L[j]? = some (L[j]'(by omega)) := List.getElem?_eq_getElem (by omega)
        obtain ⟨d, hd⟩ := Lib.digit_of_decFrom _ _ _ p5 j _ (by rw [List.getElem?_take, if_pos c2]; exact hL)
        rw [hst (by omega) _ hL] at hd
        cases hd
      · omega
  subst hej
  rw [hv] at p5
  exact ⟨rfl, (Option.some.inj p5).symm⟩
def numV (s : ByteArray) (a : Int) (j v : Nat) : Int × Int := if j = 0 then (0, -1) else if bt s (a + 2) = 48 then (0, -1) else if (s.size : Int) ≤ a + 2 + j then (0, -1) else if bt s (a + 2 + j) = 59 then (if isT v = true then ((v : Int), a + 2 + j) else (0, -1)) else (0, -1)
theorem num_stop (s : ByteArray) (a : Int) (a0 : 0 ≤ a) (j v : Nat) (h7 : j ≤ 7) (hj : a + 2 + j ≤ s.size) (hv : Lib.decFrom 0 ((numL s a).take j) = some v) (hst : j < 7 → ∀ b, (numL s a)[j]? = some b → Lib.digitVal b = none) : NumRes (numL s a) a (numV s a j v) := by
  have un := fun e v' => @num_uniq (numL s a) j v e v' h7 hv hst
  unfold numV
  by_cases c0 : j = 0
  · rw [if_pos c0]
    exact .inr ⟨fun e v' h => by have := un e v' h; have := h.1; omega, rfl⟩
  rw [if_neg c0]
  have hL0 := (numL_at s a a0 0).1 (by omega)
  obtain ⟨b0, hb0, hb0'⟩ := hL0
  rw [show a + 2 + ((0 : Nat) : Int) = a + 2 by omega] at hb0'
  by_cases c1 : bt s (a + 2) = 48
  · rw [if_pos c1]
    refine .inr ⟨fun e v' h => absurd ?_ h.2.2.2.1, rfl⟩
    rw [hb0]
    congr 1
    apply UInt8.toNat_inj.mp
    show b0.toNat = 48
    omega
  rw [if_neg c1]
  by_cases c2 : (s.size : Int) ≤ a + 2 + j
  · rw [if_pos c2]
    refine .inr ⟨fun e v' h => ?_, rfl⟩
    obtain ⟨rfl, _⟩ := un e v' h
    have := h.2.2.1
    rw [(numL_at s a a0 e).2 (by omega)] at this
    cases this
  rw [if_neg c2]
  obtain ⟨b, hb, hb'⟩ := (numL_at s a a0 j).1 (by omega)
  by_cases c3 : bt s (a + 2 + j) = 59
  · rw [if_pos c3]
    have hb59 : b = 59 := by
      apply UInt8.toNat_inj.mp
      show b.toNat = 59
      omega
    have hP : NumP (numL s a) j v := by
      refine ⟨by omega, h7, by rw [hb, hb59], fun h => c1 ?_, hv⟩
      rw [hb0] at h
      obtain rfl := Option.some.inj h
      exact hb0'
    by_cases c4 : isT v = true
    · rw [if_pos c4]
      exact .inl ⟨j, v, hP, c4, rfl⟩
    · rw [if_neg c4]
      refine .inr ⟨fun e v' h => ?_, rfl⟩
      obtain ⟨rfl, rfl⟩ := un e v' h
      exact Bool.eq_false_iff.mpr c4
  · rw [if_neg c3]
    refine .inr ⟨fun e v' h => ?_, rfl⟩
    obtain ⟨rfl, _⟩ := un e v' h
    have h5 := h.2.2.1
    rw [hb] at h5
    obtain rfl := Option.some.inj h5
    exact absurd hb' c3
def dig (b : Int) : Int := if 48 ≤ b ∧ b ≤ 57 then b - 48 else -1
theorem dig_tab : ∀ b : Nat, b < 256 → spec_l3Digit.f 3 (b : Int) false = some (dig b) := by decide +kernel
theorem ev_dig (b : Int) (h0 : 0 ≤ b) (h1 : b ≤ 255) : Ev (fun k => spec_l3Digit.f k b false) (dig b) := by
  have := dig_tab b.toNat (by omega)
  rw [show ((b.toNat : Nat) : Int) = b by omega] at this
  exact Ev.of (spec_l3Digit.mono b false) (k := 3) this
section
variable {s : ByteArray} {a : Int} {j v : Nat}
theorem numV_0 (h : j = 0) : numV s a j v = (0, -1) := by unfold numV; rw [if_pos h]
theorem numV_48 (h : j ≠ 0) (h1 : bt s (a + 2) = 48) : numV s a j v = (0, -1) := by unfold numV; rw [if_neg h, if_pos h1]
theorem numV_end (h : j ≠ 0) (h1 : ¬ bt s (a + 2) = 48) (h2 : (s.size : Int) ≤ a + 2 + j) : numV s a j v = (0, -1) := by unfold numV; rw [if_neg h, if_neg h1, if_pos h2]
theorem numV_59 (h : j ≠ 0) (h1 : ¬ bt s (a + 2) = 48) (h2 : ¬ (s.size : Int) ≤ a + 2 + j) (h3 : ¬ bt s (a + 2 + j) = 59) : numV s a j v = (0, -1) := by unfold numV; rw [if_neg h, if_neg h1, if_neg h2, if_neg h3]
theorem numV_bad (h : j ≠ 0) (h1 : ¬ bt s (a + 2) = 48) (h2 : ¬ (s.size : Int) ≤ a + 2 + j) (h3 : bt s (a + 2 + j) = 59) (h4 : ¬ isT v = true) : numV s a j v = (0, -1) := by unfold numV; rw [if_neg h, if_neg h1, if_neg h2, if_pos h3, if_neg h4]
theorem numV_yes (h : j ≠ 0) (h1 : ¬ bt s (a + 2) = 48) (h2 : ¬ (s.size : Int) ≤ a + 2 + j) (h3 : bt s (a + 2 + j) = 59) (h4 : isT v = true) : numV s a j v = ((v : Int), a + 2 + j) := by unfold numV; rw [if_neg h, if_neg h1, if_neg h2, if_pos h3, if_pos h4]
end
theorem num_fin (s : ByteArray) (a : Int) (a0 : 0 ≤ a) (j v : Nat) (hj : a + 2 + j < s.size) :
    Ev (fun _ : Nat => if a + 2 + (j : Int) = a + 2 then some ((0 : Int), (-1 : Int)) else if 0 ≤ a + 2 then (if a + 2 < (s.size : Int) then (if bt s (a + 2) = 48 then some (0, -1) else (if a + 2 + (j : Int) ≥ (s.size : Int) then some (0, -1) else (if bt s (a + 2 + j) = 59 then (spec_IsText.f v).bind fun t => (if t = true then some ((v : Int), a + 2 + (j : Int)) else some (0, -1)) else some (0, -1)))) else none) else none) (numV s a j v) := by
  by_cases c0 : j = 0
  · rw [numV_0 c0]
    exact Ev.ifp (by omega) (Ev.now _)
  refine Ev.ifn (by omega) ?_
  refine Ev.ifp (by omega) ?_
  refine Ev.ifp (by omega) ?_
  by_cases c1 : bt s (a + 2) = 48
  · rw [numV_48 c0 c1]; exact Ev.ifp c1 (Ev.now _)
  refine Ev.ifn c1 ?_
  refine Ev.ifn (by omega) ?_
  by_cases c3 : bt s (a + 2 + j) = 59
  · refine Ev.ifp c3 ?_
    refine Ev.bindc (specIsT v) ?_
    by_cases c4 : isT v = true
    · rw [numV_yes c0 c1 (by omega) c3 c4]; exact Ev.ifp c4 (Ev.now _)
    · rw [numV_bad c0 c1 (by omega) c3 c4]; exact Ev.ifn c4 (Ev.now _)
  · rw [numV_59 c0 c1 (by omega) c3]; exact Ev.ifn c3 (Ev.now _)
theorem num_fin2 (s : ByteArray) (a : Int) (a0 : 0 ≤ a) (a2 : a + 2 ≤ s.size) (j v : Nat) (hj : ¬ a + 2 + j < s.size) (hj2 : a + 2 + j ≤ s.size) (X : Nat → Option (Int × Int)) :
    Ev (fun k : Nat => if a + 2 + (j : Int) = a + 2 then some ((0 : Int), (-1 : Int)) else if 0 ≤ a + 2 then (if a + 2 < (s.size : Int) then (if bt s (a + 2) = 48 then some (0, -1) else (if a + 2 + (j : Int) ≥ (s.size : Int) then some (0, -1) else X k)) else none) else none) (numV s a j v) := by
  by_cases c0 : j = 0
  · rw [numV_0 c0]
    exact Ev.ifp (by omega) (Ev.now _)
  refine Ev.ifn (by omega) ?_
  refine Ev.ifp (by omega) ?_
  refine Ev.ifp (by omega) ?_
  by_cases c1 : bt s (a + 2) = 48
  · rw [numV_48 c0 c1]; exact Ev.ifp c1 (Ev.now _)
  refine Ev.ifn c1 ?_
  rw [numV_end c0 c1 (by omega)]
  exact Ev.ifp (by omega) (Ev.now _)
theorem num_l (s : ByteArray) (hs : s.size ≤ 1048576) (a : Int) (a0 : 0 ≤ a) (a2 : a + 2 ≤ s.size) : ∀ (d j v : Nat), 7 - j = d → j ≤ 7 → a + 2 + j ≤ s.size → Lib.decFrom 0 ((numL s a).take j) = some v → ∃ q, Ev (fun k => spec_l18Number.l0 k s a v (a + 2 + j)) q ∧ NumRes (numL s a) a q := by
  have hw9 : wrap64 (a + 9) = a + 9 := by unfold wrap64; omega
  have hw2 : wrap64 (a + 2) = a + 2 := by unfold wrap64; omega
  intro d
  induction d with
  | zero =>
    intro j v hd h7 hj hv
    refine ⟨_, ?_, num_stop s a a0 j v h7 hj hv (fun h => absurd h (by omega))⟩
    refine Ev.step (fun k => by simp only [spec_l18Number.l0]; rfl) ?_
    rw [hw9, hw2]
    by_cases c : a + 2 + (j : Int) < s.size
    · refine Ev.ifp c ?_
      refine Ev.ifn (by omega) ?_
      refine Ev.congr (fun k => ?_) (num_fin s a a0 j v c)
      simp only [show (0 : Int) ≤ a + 2 + (j : Int) by omega, if_true]
    · refine Ev.ifn c ?_
      exact num_fin2 s a a0 a2 j v c hj _
  | succ d ih =>
    intro j v hd h7 hj hv
    by_cases c : a + 2 + (j : Int) < s.size
    · obtain ⟨b, hb, hb'⟩ := (numL_at s a a0 j).1 c
      have hb255 := bt_range s (a + 2 + j)
      by_cases cd : 0 ≤ dig (bt s (a + 2 + j))
      · have cd' : 48 ≤ bt s (a + 2 + j) ∧ bt s (a + 2 + j) ≤ 57 := by
          unfold dig at cd
          split at cd
          · assumption
          · omega
        have hdv : Lib.digitVal b = some (b.toNat - 48) := by unfold Lib.digitVal; rw [if_pos (by omega)]
        have hv2 := Lib.decFrom_take _ _ _ _ _ _ hv hb hdv
        have hlt := Lib.decFrom_lt _ _ _ hv
        have hlen : ((numL s a).take j).length ≤ 6 := by rw [List.length_take]; omega
        have hp : 10 ^ ((numL s a).take j).length ≤ 10 ^ 6 := Nat.pow_le_pow_right (by omega) hlen
        have hv6 : v < 1000000 := by
          have h6 : (10 : Nat) ^ 6 = 1000000 := by decide
          rw [h6] at hp
          omega
        clear hp hlt hlen
        obtain ⟨q, e1, e2⟩ := ih (j + 1) (v * 10 + (b.toNat - 48)) (by omega) (by omega) (by omega) hv2
        refine ⟨q, ?_, e2⟩
        refine Ev.step (fun k => by simp only [spec_l18Number.l0]; rfl) ?_
        rw [hw9, hw2]
        refine Ev.ifp c ?_
        refine Ev.ifp (by omega) ?_
        refine Ev.ifp (by omega) ?_
        refine Ev.bind (ev_dig _ hb255.1 hb255.2) ?_
        refine Ev.ifp cd ?_
        have wv : ∀ m : Int, 0 ≤ m → m ≤ 100000000 → wrap64 m = m := fun m _ _ => by unfold wrap64; omega
        rw [wv (10 * (v : Int)) (by omega) (by omega), wv (bt s (a + 2 + j)) hb255.1 (by omega), wv (10 * (v : Int) + bt s (a + 2 + j)) (by omega) (by omega), wv (10 * (v : Int) + bt s (a + 2 + j) - 48) (by omega) (by omega), show 10 * (v : Int) + bt s (a + 2 + j) - 48 = ((v * 10 + (b.toNat - 48) : Nat) : Int) by omega, show wrap64 (a + 2 + (j : Int) + 1) = a + 2 + ((j + 1 : Nat) : Int) by unfold wrap64; omega]
        exact e1
      · refine ⟨_, ?_, num_stop s a a0 j v h7 hj hv (fun _ b' hb2 => ?_)⟩
        · refine Ev.step (fun k => by simp only [spec_l18Number.l0]; rfl) ?_
          rw [hw9, hw2]
          refine Ev.ifp c ?_
          refine Ev.ifp (by omega) ?_
          refine Ev.ifp (by omega) ?_
          refine Ev.bind (ev_dig _ hb255.1 hb255.2) ?_
          refine Ev.ifn cd ?_
          exact num_fin s a a0 j v c
        · rw [hb] at hb2
          obtain rfl := Option.some.inj hb2
          unfold Lib.digitVal
          rw [if_neg (fun h => cd (by unfold dig; rw [if_pos (by omega)]; omega))]
    · refine ⟨_, ?_, num_stop s a a0 j v h7 hj hv (fun _ b' hb2 => ?_)⟩
      · refine Ev.step (fun k => by simp only [spec_l18Number.l0]; rfl) ?_
        rw [hw9, hw2]
        refine Ev.ifn c ?_
        exact num_fin2 s a a0 a2 j v c hj _
      · rw [(numL_at s a a0 j).2 c] at hb2
        cases hb2
end Go.Proofs.YtkmmoheeoblmnaaDoor.A
namespace Go.Proofs.YtkmmoheeoblmnaaDoor.A
open Go.RowKit Go.Proofs.YtkmmoheeoblmnaaDoorW.PrintWords Go.Proofs.YtkmmoheeoblmnaaDoorW.PrintLast Go.Proofs.YtkmmoheeoblmnaaDoorW.PrintMore
set_option linter.unusedVariables false
theorem index_eq {l : List UInt8} {c : UInt8} {e : Nat} (h : l[e]? = some c) (hn : ∀ k, k < e → l[k]? ≠ some c) : Lib.indexByte l c = (e : Int) := by
  have hge := Lib.indexByte_ge l c
  by_cases h1 : Lib.indexByte l c = -1
  · exact absurd h (Lib.indexByte_none h1 e)
  · obtain ⟨o, ho⟩ : ∃ o : Nat, Lib.indexByte l c = (o : Int) := ⟨(Lib.indexByte l c).toNat, by omega⟩
    obtain ⟨h2, h3⟩ := Lib.indexByte_some ho
    have : o = e := by
      by_cases c1 : o < e
      · exact absurd h2 (hn o c1)
      · by_cases c2 : e < o
        · exact absurd h (h3 e c2)
        · omega
    rw [ho, this]
theorem impl_num (s : ByteArray) (hs : s.size ≤ 1048576) (a : Int) (a0 : 0 ≤ a) (a2 : a + 2 ≤ s.size) (q : Int × Int) (hq : NumRes (numL s a) a q) :
    Ev (fun k => (strings_IndexByte.f (s.extract (a + 2).toNat s.size) 59).bind fun e => (if 1 ≤ e ∧ e ≤ 7 then (if e ≤ ((s.extract (a + 2).toNat s.size).size : Int) then xrN k a e ((s.extract (a + 2).toNat s.size).extract 0 e.toNat) else none) else some (⟨#[]⟩, -1))) (if q.2 < 0 then (⟨#[]⟩, -1) else (putF q.1, q.2 + 1)) := by
  have hL : (s.extract (a + 2).toNat s.size).data.toList = numL s a := by
    rw [ByteArray.data_extract, Array.toList_extract, List.extract_eq_take_drop]
    apply List.take_of_length_le
    rw [List.length_drop, Array.length_toList]
    exact Nat.le_refl _
  have hT : ∀ e : Nat, ((s.extract (a + 2).toNat s.size).extract 0 ((e : Int)).toNat).data.toList = (numL s a).take e := fun e => by
    rw [ByteArray.data_extract, Array.toList_extract, hL, List.extract_eq_take_drop]
    simp
  have hsz : (s.extract (a + 2).toNat s.size).size = s.size - (a + 2).toNat := by rw [ByteArray.size_extract]; omega
  have hlen : (numL s a).length = s.size - (a + 2).toNat := by rw [← hL, ← Lib.size_eq, hsz]
  refine Ev.bindc (a := Lib.indexByte (numL s a) 59) (by unfold strings_IndexByte.f; rw [hL]; rfl) ?_
  rcases hq with ⟨e, v, hP, hT1, rfl⟩ | ⟨hno, rfl⟩
  · obtain ⟨p1, p2, p3, p4, p5⟩ := hP
    have hi : Lib.indexByte (numL s a) 59 = (e : Int) := index_eq p3 (fun k hk h => by
      obtain ⟨d, hd⟩ := Lib.digit_of_decFrom _ _ _ p5 k 59 (by rw [List.getElem?_take, if_pos hk]; exact h)
      exact absurd hd (by simp [Lib.digitVal]))
    have he : e < (numL s a).length := (List.getElem?_eq_some_iff.1 p3).1
    obtain ⟨r1, r2, r3⟩ := atoi_canon (l := (numL s a).take e) (by intro h; have := congrArg List.length h; rw [List.length_take] at this; simp at this; omega) (by rw [List.getElem?_take, if_pos (by omega)]; exact p4) p5
    have hw : wrap64 (wrap64 (wrap64 (a + 2) + (e : Int)) + 1) = a + 2 + e + 1 := by
      have wv : ∀ m : Int, 0 ≤ m → m ≤ 100000000 → wrap64 m = m := fun m _ _ => by unfold wrap64; omega
      rw [wv (a + 2) (by omega) (by omega), wv (a + 2 + e) (by omega) (by omega), wv _ (by omega) (by omega)]
    rw [hi]
    refine Ev.ifp ⟨by omega, by omega⟩ ?_
    refine Ev.ifp (by rw [hsz]; omega) ?_
    rw [if_neg (show ¬ a + 2 + (e : Int) < 0 by omega)]
    refine Ev.up 1 (fun k => ?_)
    unfold xrN
    rw [hT, r1]
    simp only
    rw [if_pos r2, if_neg (by omega), implIsT, Option.bind_some, if_pos hT1, implPut_f, Option.bind_some, hw]
  · rw [if_pos (show (-1 : Int) < 0 by decide)]
    by_cases c : 1 ≤ Lib.indexByte (numL s a) 59 ∧ Lib.indexByte (numL s a) 59 ≤ 7
    · obtain ⟨e, he⟩ : ∃ e : Nat, Lib.indexByte (numL s a) 59 = (e : Int) := ⟨(Lib.indexByte (numL s a) 59).toNat, by omega⟩
      rw [he] at c ⊢
      obtain ⟨p3, _⟩ := Lib.indexByte_some he
      have hel : e < (numL s a).length := (List.getElem?_eq_some_iff.1 p3).1
      refine Ev.ifp c ?_
      refine Ev.ifp (by rw [hsz]; omega) ?_
      refine Ev.up 1 (fun k => ?_)
      unfold xrN
      rw [hT]
      cases hat : Lib.atoi ((numL s a).take e) with
      | none => rfl
      | some n =>
        simp only
        by_cases c1 : Lib.itoa n = (numL s a).take e
        · rw [if_pos c1]
          by_cases c2 : n = 0
          · rw [if_pos c2]
          · rw [if_neg c2, implIsT, Option.bind_some]
            by_cases c3 : isT n = true
            · exfalso
              have hp := isT_nn c3
              obtain ⟨r1, r2, r3⟩ := itoa_pos c1 hp
              have hN : NumP (numL s a) e n.toNat := ⟨by omega, by omega, p3, fun h => r2 (by rw [List.getElem?_take, if_pos (by omega)]; exact h), r1⟩
              have := hno e n.toNat hN
              rw [show ((n.toNat : Nat) : Int) = n by omega, c3] at this
              cases this
            · rw [if_neg c3]
        · rw [if_neg c1]
    · exact Ev.ifn c (Ev.now _)
abbrev nameJ (j : Nat) : ByteArray := nrL.getD j ByteArray.empty
abbrev signJ (j : Nat) : ByteArray := nsgL.getD j ByteArray.empty
theorem nrF_at (s : ByteArray) (a : Int) (a0 : 0 ≤ a) (a1 : a ≤ s.size) : ∀ (d : Nat) (ns xs : List ByteArray) (hl : ns.length = xs.length) (j : Nat), j = d → j < ns.length → (∀ i, i < j → ¬ standsAt s a (ns.getD i ByteArray.empty)) → standsAt s a (ns.getD j ByteArray.empty) →
    nrF (s.extract a.toNat s.size) ns xs = some (xs.getD j ByteArray.empty, ((ns.getD j ByteArray.empty).size : Int))
  | d, [], xs, hl, j, _, hj, _, _ => by simp at hj
  | d, n :: ns, [], hl, j, _, hj, _, _ => by simp at hl
  | d, n :: ns, x :: xs, hl, 0, _, hj, hno, hyes => by
    have hy : standsAt s a n := hyes
    rw [nrF, hasPrefix_f s a n a0 a1, Option.bind_some, decide_eq_true hy]
    rfl
  | 0, n :: ns, x :: xs, hl, j + 1, hd, hj, hno, hyes => by omega
  | d + 1, n :: ns, x :: xs, hl, j + 1, hd, hj, hno, hyes => by
    have h0 : ¬ standsAt s a n := hno 0 (by omega)
    rw [nrF, hasPrefix_f s a n a0 a1, Option.bind_some, decide_eq_false h0, if_neg (by simp)]
    exact nrF_at s a a0 a1 d ns xs (by simpa using hl) j (by omega) (by simpa using hj) (fun i hi => hno (i + 1) (by omega)) hyes
theorem nrF_none (s : ByteArray) (a : Int) (a0 : 0 ≤ a) (a1 : a ≤ s.size) : ∀ (ns xs : List ByteArray), (∀ i, i < ns.length → ¬ standsAt s a (ns.getD i ByteArray.empty)) → nrF (s.extract a.toNat s.size) ns xs = some (⟨#[]⟩, 0)
  | [], xs, _ => by simp [nrF]
  | n :: ns, [], _ => by simp [nrF]
  | n :: ns, x :: xs, hno => by
    have h0 : ¬ standsAt s a n := hno 0 (by simp)
    rw [nrF, hasPrefix_f s a n a0 a1, Option.bind_some, decide_eq_false h0, if_neg (by simp)]
    exact nrF_none s a a0 a1 ns xs (fun i hi => hno (i + 1) (by simpa using hi))
theorem nm_size : ∀ j : Nat, j < 5 → (nameJ j).size ≤ 6 ∧ 1 ≤ (nameJ j).size ∧ (signJ j).size = 1 ∧ ∀ b ∈ (nameJ j).data.toList, b ≠ 93 := by decide
theorem spec_at (s : ByteArray) (hs : s.size ≤ 1048576) (a : Int) (a0 : 0 ≤ a) (a1 : a ≤ s.size) (j : Nat) (hj : j < 5) (hno : ∀ i : Nat, i < j → ¬ standsAt s a (nameJ i)) (hyes : standsAt s a (nameJ j)) :
    ∀ (d i : Nat), i + d = j → Ev (fun k => spec_XmlRef.l0 k s a nrL nsgL (i : Int)) (signJ j, a + (nameJ j).size) := by
  intro d
  induction d with
  | zero =>
    intro i hi
    obtain rfl : i = j := by omega
    have hz := nm_size i hj
    have hw : wrap64 (a + ((nameJ i).size : Int)) = a + (nameJ i).size := by unfold wrap64; omega
    refine Ev.step (fun k => by simp only [spec_XmlRef.l0]; rfl) ?_
    refine Ev.ifp (show (i : Int) < 5 by omega) ?_
    refine Ev.ifp (by omega) ?_
    refine Ev.bindc (a := true) ?_ ?_
    · show spec_l5Stands.f s a (nameJ i) = _
      rw [stands_f s hs a _ (by omega) a0 a1, decide_eq_true hyes]
    · refine Ev.ifp rfl ?_
      refine Ev.ifp (show (i : Int) < 5 by omega) ?_
      show Ev (fun _ => some (signJ i, wrap64 (a + ((nameJ i).size : Int)))) _
      rw [hw]
      exact Ev.now _
  | succ d ih =>
    intro i hi
    have hz := nm_size i (by omega)
    have hw : wrap64 ((i : Int) + 1) = ((i + 1 : Nat) : Int) := by unfold wrap64; omega
    refine Ev.step (fun k => by simp only [spec_XmlRef.l0]; rfl) ?_
    refine Ev.ifp (show (i : Int) < 5 by omega) ?_
    refine Ev.ifp (by omega) ?_
    refine Ev.bindc (a := false) ?_ ?_
    · show spec_l5Stands.f s a (nameJ i) = _
      rw [stands_f s hs a _ (by omega) a0 a1, decide_eq_false (hno i (by omega))]
    · refine Ev.ifn (by simp) ?_
      rw [hw]
      exact ih (i + 1) (by omega)
theorem spec_no (s : ByteArray) (hs : s.size ≤ 1048576) (a : Int) (a0 : 0 ≤ a) (a1 : a ≤ s.size) (hno : ∀ i : Nat, i < 5 → ¬ standsAt s a (nameJ i)) {q : ByteArray × Int} (hq : Ev (fun k => spec_XmlRef.l0 k s a nrL nsgL 5) q) :
    ∀ (d i : Nat), i + d = 5 → Ev (fun k => spec_XmlRef.l0 k s a nrL nsgL (i : Int)) q := by
  intro d
  induction d with
  | zero =>
    intro i hi
    obtain rfl : i = 5 := by omega
    exact hq
  | succ d ih =>
    intro i hi
    have hz := nm_size i (by omega)
    have hw : wrap64 ((i : Int) + 1) = ((i + 1 : Nat) : Int) := by unfold wrap64; omega
    refine Ev.step (fun k => by simp only [spec_XmlRef.l0]; rfl) ?_
    refine Ev.ifp (show (i : Int) < 5 by omega) ?_
    refine Ev.ifp (by omega) ?_
    refine Ev.bindc (a := false) ?_ ?_
    · show spec_l5Stands.f s a (nameJ i) = _
      rw [stands_f s hs a _ (by omega) a0 a1, decide_eq_false (hno i (by omega))]
    · refine Ev.ifn (by simp) ?_
      rw [hw]
      exact ih (i + 1) (by omega)
def RefOk (s : ByteArray) (a : Int) (q : ByteArray × Int) : Prop := q.1.size ≤ 4 ∧ (q.2 = -1 ∨ (a < q.2 ∧ q.2 ≤ s.size ∧ ∀ p : Int, a ≤ p → p < q.2 → bt s p ≠ 93))
theorem ref_both (s : ByteArray) (hs : s.size ≤ 1048576) (a : Int) (a0 : 0 ≤ a) (a1 : a < (s.size : Int)) (h38 : bt s a = 38) : ∃ q : ByteArray × Int, RefOk s a q ∧ Ev (fun k => spec_XmlRef.f k s a) q ∧ Ev (fun k => impl_XmlRef.f k s a) q := by
  have hw1 : wrap64 ((s.size : Int) - 1) = (s.size : Int) - 1 := by unfold wrap64; omega
  have spec0 : ∀ {q : ByteArray × Int}, Ev (fun k => spec_XmlRef.l0 k s a nrL nsgL 0) q → Ev (fun k => spec_XmlRef.f k s a) q := fun h => by
    unfold spec_XmlRef.f
    refine Ev.ifn (by omega) ?_
    refine Ev.ifn (by omega) ?_
    refine Ev.ifp a0 ?_
    refine Ev.ifp a1 ?_
    rw [h38]
    refine Ev.step (fun k => by simp only [spec_XmlRef.j0]; rfl) ?_
    exact Ev.ifn (by decide) h
  have impl0 : ∀ {q : ByteArray × Int}, Ev (fun k => xrB k s a) q → Ev (fun k => impl_XmlRef.f k s a) q := fun h => by
    unfold impl_XmlRef.f
    refine Ev.bindc (inRange_f _ _ _) ?_
    rw [hw1, decide_eq_true (show 0 ≤ a ∧ a ≤ (s.size : Int) - 1 by omega)]
    refine Ev.ifp rfl ?_
    exact Ev.ifp ⟨a0, by omega⟩ h
  have yes : ∀ j : Nat, j < 5 → (∀ i : Nat, i < j → ¬ standsAt s a (nameJ i)) → standsAt s a (nameJ j) → ∃ q : ByteArray × Int, RefOk s a q ∧ Ev (fun k => spec_XmlRef.f k s a) q ∧ Ev (fun k => impl_XmlRef.f k s a) q := fun j hj hno hy => by
    have hz := nm_size j hj
    have hy1 := hy.1
    have hw : wrap64 (a + ((nameJ j).size : Int)) = a + (nameJ j).size := by unfold wrap64; omega
    refine ⟨(signJ j, a + (nameJ j).size), ⟨by show (signJ j).size ≤ 4; omega, .inr ⟨by show a < a + _; omega, hy1, fun p hp0 hp1 => ?_⟩⟩, spec0 (spec_at s hs a a0 (by omega) j hj hno hy j 0 (by omega)), impl0 ?_⟩
    · have hp1' : p < a + (nameJ j).size := hp1
      obtain ⟨b, e1, e2⟩ := stands_bt hy a0 (p - a).toNat (by omega)
      rw [show a + (((p - a).toNat : Nat) : Int) = p by omega] at e2
      have hb := hz.2.2.2 b (List.mem_of_getElem? e1)
      intro h
      apply hb
      apply UInt8.toNat_inj.mp
      show b.toNat = 93
      omega
    · unfold xrB impl_namedRef.f
      refine Ev.bindc (nrF_at s a a0 (by omega) j nrL nsgL rfl j rfl hj hno hy) ?_
      refine Ev.ifp (show ((nameJ j).size : Int) > 0 by omega) ?_
      show Ev (fun _ => some (signJ j, wrap64 (a + ((nameJ j).size : Int)))) _
      rw [hw]
      exact Ev.now _
  by_cases s0 : standsAt s a (nameJ 0)
  · exact yes 0 (by omega) (fun i hi => absurd hi (by omega)) s0
  by_cases s1 : standsAt s a (nameJ 1)
  · exact yes 1 (by omega) (fun i hi => by rcases (show i = 0 by omega) with rfl; exact s0) s1
  by_cases s2 : standsAt s a (nameJ 2)
  · exact yes 2 (by omega) (fun i hi => by rcases (show i = 0 ∨ i = 1 by omega) with rfl | rfl <;> assumption) s2
  by_cases s3 : standsAt s a (nameJ 3)
  · exact yes 3 (by omega) (fun i hi => by rcases (show i = 0 ∨ i = 1 ∨ i = 2 by omega) with rfl | rfl | rfl <;> assumption) s3
  by_cases s4 : standsAt s a (nameJ 4)
  · exact yes 4 (by omega) (fun i hi => by rcases (show i = 0 ∨ i = 1 ∨ i = 2 ∨ i = 3 by omega) with rfl | rfl | rfl | rfl <;> assumption) s4
  have hno : ∀ i : Nat, i < 5 → ¬ standsAt s a (nameJ i) := fun i hi => by rcases (show i = 0 ∨ i = 1 ∨ i = 2 ∨ i = 3 ∨ i = 4 by omega) with rfl | rfl | rfl | rfl | rfl <;> assumption
  have specN : ∀ {q : ByteArray × Int}, Ev (fun k => (spec_l5Stands.f s a (⟨#[38, 35]⟩ : ByteArray)).bind fun t291 => (if t291 = true then ((spec_l18Number.f k s a).bind fun bt292 => (if bt292.2 < 0 then (some ((⟨#[]⟩ : ByteArray), (-1 : Int))) else ((spec_PutSign.f k bt292.1).bind fun t294 => (some (t294, wrap64 (bt292.2 + 1)))))) else (some ((⟨#[]⟩ : ByteArray), (-1))))) q → Ev (fun k => spec_XmlRef.f k s a) q := fun h => by
    refine spec0 (spec_no s hs a a0 (by omega) hno ?_ 5 0 (by omega))
    refine Ev.step (fun k => by simp only [spec_XmlRef.l0]; rfl) ?_
    exact Ev.ifn (by decide) h
  have implN : ∀ {q : ByteArray × Int}, Ev (fun k => (strings_CutPrefix.f (s.extract a.toNat s.size) ⟨#[38, 35]⟩).bind fun d => (strings_IndexByte.f d.1 59).bind fun e => if d.2 = true then (if 1 ≤ e ∧ e ≤ 7 then (if e ≤ (d.1.size : Int) then xrN k a e (d.1.extract 0 e.toNat) else none) else some (⟨#[]⟩, -1)) else some (⟨#[]⟩, -1)) q → Ev (fun k => impl_XmlRef.f k s a) q := fun h => by
    refine impl0 ?_
    unfold xrB impl_namedRef.f
    refine Ev.bindc (nrF_none s a a0 (by omega) nrL nsgL hno) ?_
    exact Ev.ifn (show ¬ (0 : Int) > 0 by decide) h
  have hn2 : ((⟨#[38, 35]⟩ : ByteArray).size : Int) = 2 := rfl
  by_cases sn : standsAt s a (⟨#[38, 35]⟩ : ByteArray)
  · have h2 : a + 2 ≤ s.size := sn.1
    have hw2 : wrap64 (a + 2) = a + 2 := by unfold wrap64; omega
    obtain ⟨q, e1, e2⟩ := num_l s hs a a0 h2 7 0 0 rfl (by omega) (by omega) rfl
    rw [show a + 2 + ((0 : Nat) : Int) = a + 2 by omega] at e1
    refine ⟨if q.2 < 0 then (⟨#[]⟩, -1) else (putF q.1, q.2 + 1), ?_, specN ?_, implN ?_⟩
    · rcases e2 with ⟨e, v, hP, hT1, rfl⟩ | ⟨_, rfl⟩
      · rw [if_neg (show ¬ a + 2 + (e : Int) < 0 by omega)]
        have hel : e < (numL s a).length := (List.getElem?_eq_some_iff.1 hP.2.2.1).1
        have hlen : (numL s a).length = s.size - (a + 2).toNat := by rw [List.length_drop, ← Lib.size_eq]
        refine ⟨putF_size _, .inr ⟨by show a < a + 2 + (e : Int) + 1; omega, by show a + 2 + (e : Int) + 1 ≤ _; omega, fun p hp0 hp1 => ?_⟩⟩
        have hp1' : p < a + 2 + (e : Int) + 1 := hp1
        by_cases c : p < a + 2
        · obtain ⟨b, f1, f2⟩ := stands_bt sn a0 (p - a).toNat (by show _ < 2; omega)
          rw [show a + (((p - a).toNat : Nat) : Int) = p by omega] at f2
          have hb := List.mem_of_getElem? f1
          intro h
          have h93 : b.toNat = 93 := by omega
          have : b = 38 ∨ b = 35 := by simpa using hb
          rcases this with rfl | rfl
          · exact absurd h93 (by decide)
          · exact absurd h93 (by decide)
        · obtain ⟨b, f1, f2⟩ := (numL_at s a a0 (p - (a + 2)).toNat).1 (by omega)
          rw [show a + 2 + (((p - (a + 2)).toNat : Nat) : Int) = p by omega] at f2
          intro h
          by_cases ce : (p - (a + 2)).toNat = e
          · rw [ce, hP.2.2.1] at f1
            obtain rfl := Option.some.inj f1
            have h59 : ((59 : UInt8).toNat : Int) = 93 := by omega
            exact absurd h59 (by decide)
          · obtain ⟨d, hd⟩ := Lib.digit_of_decFrom _ _ _ hP.2.2.2.2 (p - (a + 2)).toNat b (by rw [List.getElem?_take, if_pos (by omega)]; exact f1)
            obtain ⟨g1, g2, _⟩ := digitVal_some hd
            omega
      · rw [if_pos (show (-1 : Int) < 0 by decide)]
        exact ⟨by show (0 : Nat) ≤ 4; omega, .inl rfl⟩
    · refine Ev.bindc (stands_f s hs a _ (by decide) a0 (by omega)) ?_
      rw [decide_eq_true sn]
      refine Ev.ifp rfl ?_
      refine Ev.bind (a := q) (by unfold spec_l18Number.f; rw [hw2]; exact e1) ?_
      by_cases c : q.2 < 0
      · rw [if_pos c]; exact Ev.ifp c (Ev.now _)
      · rw [if_neg c]
        refine Ev.ifn c ?_
        have hq2 : q.2 ≤ s.size := by
          rcases e2 with ⟨e, v, hP, hT1, rfl⟩ | ⟨_, rfl⟩
          · have hel : e < (numL s a).length := (List.getElem?_eq_some_iff.1 hP.2.2.1).1
            have hlen : (numL s a).length = s.size - (a + 2).toNat := by rw [List.length_drop, ← Lib.size_eq]
            show a + 2 + (e : Int) ≤ _
            omega
          · exact absurd (show (-1 : Int) < 0 by decide) c
        refine Ev.bind (Ev.up 1 (fun k => specPut_f k q.1)) ?_
        rw [show wrap64 (q.2 + 1) = q.2 + 1 by unfold wrap64; omega]
        exact Ev.now _
    · refine Ev.bindc (cut_f s a _ a0 (by omega)) ?_
      rw [if_pos sn]
      have := impl_num s hs a a0 h2 q e2
      exact this
  · refine ⟨(⟨#[]⟩, -1), ⟨by show (0 : Nat) ≤ 4; omega, .inl rfl⟩, specN ?_, implN ?_⟩
    · refine Ev.bindc (stands_f s hs a _ (by decide) a0 (by omega)) ?_
      rw [decide_eq_false sn]
      exact Ev.ifn (by simp) (Ev.now _)
    · refine Ev.bindc (cut_f s a _ a0 (by omega)) ?_
      rw [if_neg sn]
      refine Ev.bindc (a := Lib.indexByte (s.extract a.toNat s.size).data.toList 59) rfl ?_
      exact Ev.ifn (by simp) (Ev.now _)
end Go.Proofs.YtkmmoheeoblmnaaDoor.A
namespace Go.Proofs.YtkmmoheeoblmnaaDoor.A
open Go.RowKit Go.Proofs.YtkmmoheeoblmnaaDoorW.PrintWords Go.Proofs.YtkmmoheeoblmnaaDoorW.PrintLast Go.Proofs.YtkmmoheeoblmnaaDoorW.PrintMore
set_option linter.unusedVariables false
def asInts (l : List UInt8) : List Int := l.map fun b => (b.toNat : Int)
theorem strOf_asInts (l : List UInt8) : strOfNums (asInts l) = ⟨l.toArray⟩ := by
  unfold strOfNums asInts
  congr 2
  rw [List.map_map]
  conv => rhs; rw [← List.map_id l]
  apply List.map_congr_left
  intro b _
  simp
theorem ext_iff (s : ByteArray) (p : Int) (p0 : 0 ≤ p) (l : List UInt8) (h : p + l.length ≤ s.size) : (s.extract p.toNat (p + l.length).toNat).toList = l ↔ ∀ (j : Nat) (hj : j < l.length), bt s (p + j) = ((l[j]'hj).toNat : Int) := by
  rw [Lib.toList_data, ByteArray.data_extract, Array.toList_extract, List.extract_eq_take_drop]
  constructor
  · intro e j hj
    obtain ⟨b, e1, e2⟩ := bt_list s (p + j) (by omega) (by omega)
    have e3 := congrArg (fun x => x[j]?) e
    simp only [List.getElem?_take, List.getElem?_drop] at e3
    rw [if_pos (by omega), show p.toNat + j = (p + j).toNat by omega, e1, List.getElem?_eq_getElem hj] at e3
    rw [e2, Option.some.inj e3]
  · intro e
    apply List.ext_getElem?
    intro j
    rw [List.getElem?_take, List.getElem?_drop]
    by_cases hj : j < l.length
    · obtain ⟨b, e1, e2⟩ := bt_list s (p + j) (by omega) (by omega)
      rw [if_pos (by omega), show p.toNat + j = (p + j).toNat by omega, e1, List.getElem?_eq_getElem hj]
      have := e j hj
      congr 1
      apply UInt8.toNat_inj.mp
      omega
    · rw [if_neg (by omega), List.getElem?_eq_none (by omega)]
abbrev endB : ByteArray := ⟨#[93, 93, 62]⟩
theorem stands3 (s : ByteArray) (p : Int) (p0 : 0 ≤ p) : standsAt s p endB ↔ (p + 3 ≤ s.size ∧ bt s p = 93 ∧ bt s (p + 1) = 93 ∧ bt s (p + 2) = 62) := by
  have hl : endB.toList = [93, 93, 62] := by rw [Lib.toList_data]
  unfold standsAt
  rw [hl]
  constructor
  · rintro ⟨h1, h2⟩
    have h1' : p + 3 ≤ s.size := h1
    have := (ext_iff s p p0 [93, 93, 62] h1').1 h2
    have a0 := this 0 (by simp)
    have a1 := this 1 (by simp)
    have a2 := this 2 (by simp)
    rw [show p + ((0 : Nat) : Int) = p by omega] at a0
    exact ⟨h1', a0, a1, a2⟩
  · rintro ⟨h1, h2, h3, h4⟩
    refine ⟨h1, (ext_iff s p p0 [93, 93, 62] h1).2 (fun j hj => ?_)⟩
    have hj' : j < 3 := hj
    rcases (show j = 0 ∨ j = 1 ∨ j = 2 by omega) with rfl | rfl | rfl
    · rw [show p + ((0 : Nat) : Int) = p by omega]; exact h2
    · exact h3
    · exact h4
theorem suffix_f (s : ByteArray) (hs : s.size ≤ 1048576) (a i : Int) (a0 : 0 ≤ a) (ai : a ≤ i) (is : i ≤ s.size) : strings_HasSuffix.f (s.extract a.toNat i.toNat) ⟨#[93, 93]⟩ = some (decide (a + 2 ≤ i ∧ bt s (i - 2) = 93 ∧ bt s (i - 1) = 93)) := by
  unfold strings_HasSuffix.f stringslite_HasSuffix.f
  have hsz : (s.extract a.toNat i.toNat).size = i.toNat - a.toNat := by rw [ByteArray.size_extract]; omega
  have h2 : ((⟨#[93, 93]⟩ : ByteArray).size : Int) = 2 := rfl
  have hl : (⟨#[93, 93]⟩ : ByteArray).toList = [93, 93] := by rw [Lib.toList_data]
  rw [hsz, h2, hl]
  by_cases c : a + 2 ≤ i
  · have hw : wrap64 (((i.toNat - a.toNat : Nat) : Int) - 2) = i - a - 2 := by unfold wrap64; omega
    have hx : (s.extract a.toNat i.toNat).extract (i - a - 2).toNat (i.toNat - a.toNat) = s.extract (i - 2).toNat (i - 2 + ([93, 93] : List UInt8).length).toNat := by
      rw [ByteArray.extract_extract]
      congr 1
      · omega
      · show _ = (i - 2 + ((2 : Nat) : Int)).toNat
        omega
    rw [if_pos (by omega), hw, if_pos (by omega), if_pos (by omega), Option.bind_some, hx]
    congr 1
    have hi := ext_iff s (i - 2) (by omega) [93, 93] (by show i - 2 + 2 ≤ _; omega)
    by_cases e : bt s (i - 2) = 93 ∧ bt s (i - 1) = 93
    · rw [decide_eq_true (show a + 2 ≤ i ∧ bt s (i - 2) = 93 ∧ bt s (i - 1) = 93 from ⟨c, e⟩)]
      apply beq_iff_eq.mpr
      refine hi.2 (fun j hj => ?_)
      have hj' : j < 2 := hj
      rcases (show j = 0 ∨ j = 1 by omega) with rfl | rfl
      · rw [show i - 2 + ((0 : Nat) : Int) = i - 2 by omega]; exact e.1
      · rw [show i - 2 + ((1 : Nat) : Int) = i - 1 by omega]; exact e.2
    · rw [decide_eq_false (show ¬ (a + 2 ≤ i ∧ bt s (i - 2) = 93 ∧ bt s (i - 1) = 93) from fun h => e h.2)]
      apply beq_eq_false_iff_ne.mpr
      intro h
      have hh := hi.1 h
      have b0 := hh 0 (by simp)
      have b1 := hh 1 (by simp)
      rw [show i - 2 + ((0 : Nat) : Int) = i - 2 by omega] at b0
      rw [show i - 2 + ((1 : Nat) : Int) = i - 1 by omega] at b1
      exact e ⟨b0, b1⟩
  · rw [if_neg (by omega), Option.bind_some, decide_eq_false (fun h => c h.1)]
theorem put_low (c : Int) (h0 : 0 ≤ c) (h1 : c < 128) : putF c = strOfNums [c % 256] := by
  unfold putF
  rw [if_pos (by unfold signOk; rw [decide_eq_true (by omega), decide_eq_false (by omega)]; rfl)]
  unfold put0
  rw [if_pos h1]
theorem nums_data (l : List Int) : (strOfNums l).data.toList = l.map fun n => n.toNat.toUInt8 := by
  unfold strOfNums
  first | rfl | simp
theorem put_low_list (c : Int) (h0 : 0 ≤ c) (h1 : c < 128) : (putF c).toList = [c.toNat.toUInt8] := by
  rw [put_low c h0 h1, Lib.toList_data, nums_data]
  rw [List.map_cons, List.map_nil, show c % 256 = c by omega]
theorem put0_high (x : Int) (h0 : 128 ≤ x) (h1 : x ≤ 1114111) : ∀ b ∈ (put0 x).data.toList, 128 ≤ b.toNat := by
  have hb : ∀ n : Int, 128 ≤ n → n < 256 → 128 ≤ (n.toNat.toUInt8).toNat := fun n _ _ => by
    have : (n.toNat.toUInt8).toNat = n.toNat := by simp; omega
    omega
  have hr : ∀ (l : List Int), (∀ n ∈ l, 128 ≤ n ∧ n < 256) → ∀ b ∈ (strOfNums l).data.toList, 128 ≤ b.toNat := fun l hl b hm => by
    rw [nums_data] at hm
    obtain ⟨n, hn, rfl⟩ := List.mem_map.1 hm
    exact hb n (hl n hn).1 (hl n hn).2
  unfold put0
  rw [if_neg (by omega)]
  split
  · apply hr
    intro n hn
    simp only [List.mem_cons, List.not_mem_nil, or_false] at hn
    rcases hn with rfl | rfl <;> omega
  · split
    · apply hr
      intro n hn
      simp only [List.mem_cons, List.not_mem_nil, or_false] at hn
      rcases hn with rfl | rfl | rfl <;> omega
    · apply hr
      intro n hn
      simp only [List.mem_cons, List.not_mem_nil, or_false] at hn
      rcases hn with rfl | rfl | rfl | rfl <;> omega
theorem put_high (n : Int) (h : 2 ≤ (putF n).toList.length) : ∀ b ∈ (putF n).toList, 128 ≤ b.toNat := by
  rw [Lib.toList_data] at h ⊢
  unfold putF at h ⊢
  split at h
  · rename_i hs
    rw [if_pos hs]
    have hs' := hs
    simp only [signOk, Bool.and_eq_true, decide_eq_true_eq] at hs'
    by_cases c : n < 128
    · unfold put0 at h
      rw [if_pos c, nums_data] at h
      simp at h
    · exact put0_high n (by omega) (by omega)
  · rename_i hs
    rw [if_neg hs]
    exact put0_high 65533 (by omega) (by omega)
abbrev qEnd : ByteArray := ⟨#[34]⟩
theorem find_q (c : Int) : Ev (fun k => spec_l4Find.f k qEnd 0 c) (if c = 34 then 0 else -1) := by
  have hb : bt qEnd 0 = 34 := by unfold bt; rfl
  have hw : wrap64 (0 + 1) = 1 := by unfold wrap64; omega
  unfold spec_l4Find.f
  refine Ev.step (fun k => by simp only [spec_l4Find.l0]; rfl) ?_
  refine Ev.ifp (show (0 : Int) < 1 by decide) ?_
  refine Ev.ifp (by decide) ?_
  rw [hb, hw]
  by_cases h : c = 34
  · rw [if_pos h]
    exact Ev.ifp h.symm (Ev.now _)
  · rw [if_neg h]
    refine Ev.ifn (fun e => h e.symm) ?_
    refine Ev.step (fun k => by simp only [spec_l4Find.l0]; rfl) ?_
    exact Ev.ifn (show ¬ (1 : Int) < 1 by decide) (Ev.now _)
theorem index_q (c : Int) (h0 : 0 ≤ c) (h1 : c ≤ 255) : strings_IndexByte.f qEnd c = some (if c = 34 then 0 else -1) := by
  unfold strings_IndexByte.f
  congr 1
  show Lib.indexByte [34] c.toNat.toUInt8 = _
  by_cases h : c = 34
  · subst h; rfl
  · rw [if_neg h]
    have hne : (34 : UInt8) ≠ c.toNat.toUInt8 := fun e => by
      have := congrArg UInt8.toNat e
      simp at this
      omega
    simp [Lib.indexByte, hne]
end Go.Proofs.YtkmmoheeoblmnaaDoor.A
namespace Go.Proofs.YtkmmoheeoblmnaaDoor.A
open Go.RowKit Go.Proofs.YtkmmoheeoblmnaaDoorW.PrintWords Go.Proofs.YtkmmoheeoblmnaaDoorW.PrintLast Go.Proofs.YtkmmoheeoblmnaaDoorW.PrintMore
set_option linter.unusedVariables false
theorem xt_ascii (s : ByteArray) (hs : s.size ≤ 1048576) (a i c : Int) (a0 : 0 ≤ a) (ai : a ≤ i) (is : i < s.size) (hc : bt s i = c) (c0 : 0 ≤ c) (c1 : c < 128) (n34 : c ≠ 34) (n38 : c ≠ 38) (out : List UInt8) {r : ByteArray × Int}
    (h : Ev (fun k => xtSign (xtL k s a qEnd) s a i c 1 out) r) : Ev (fun k => xtL k s a qEnd i out) r := by
  obtain ⟨q, q1, q4, ⟨qe, qn, qa⟩, e1, e2⟩ := clean_both s hs i (by omega) is
  obtain rfl := qa (by omega)
  have hcl : (putF (bt s i)).toList = (s.extract i.toNat (i + 1).toNat).toList := by
    rw [put_low_list _ (by omega) (by omega)]
    refine ((ext_iff s i (by omega) [(bt s i).toNat.toUInt8] (by show i + 1 ≤ _; omega)).2 (fun j hj => ?_)).symm
    have hj0 : j = 0 := by have : j < 1 := hj; omega
    subst hj0
    rw [show i + ((0 : Nat) : Int) = i by omega]
    show bt s i = (((bt s i).toNat.toUInt8).toNat : Int)
    have : ((bt s i).toNat.toUInt8).toNat = (bt s i).toNat := by simp; omega
    rw [this]
    omega
  rw [if_pos hcl] at e2
  refine Ev.step (fun k => by simp only [xtL]; rfl) ?_
  refine Ev.ifp (by omega) ?_
  refine Ev.ifp is ?_
  refine Ev.bindc (index_q _ (by omega) (by omega)) ?_
  rw [if_neg (by omega)]
  refine Ev.ifp (by decide) ?_
  refine Ev.ifn (by omega) ?_
  refine Ev.bind e2 ?_
  rw [hc]
  exact h
theorem dead_end (s : ByteArray) (hs : s.size ≤ 1048576) (a i : Int) (a0 : 0 ≤ a) (ai : a ≤ i) (hst : standsAt s i endB) (out : List UInt8) (ho : out.length ≤ 140737488355000) : Ev (fun k => xtL k s a qEnd i out) (⟨#[]⟩, -1) := by
  obtain ⟨h3, b0, b1, b2⟩ := (stands3 s i (by omega)).1 hst
  have one : ∀ j : Int, 0 ≤ j → j < s.size → (s.extract j.toNat (j + 1).toNat).size = 1 := fun j _ _ => by rw [ByteArray.size_extract]; omega
  have step : ∀ (j : Int) (o : List UInt8), a ≤ j → j < s.size → bt s j = 93 → o.length ≤ 140737488355100 → (∀ o' : List UInt8, o'.length = o.length + 1 → Ev (fun k => xtL k s a qEnd (j + 1) o') (⟨#[]⟩, -1)) → Ev (fun k => xtL k s a qEnd j o) (⟨#[]⟩, -1) := fun j o h0 h1 hb hol hn => by
    have hw : wrap64 (j + 1) = j + 1 := by unfold wrap64; omega
    have h1z := one j (by omega) h1
    refine xt_ascii s hs a j 93 a0 h0 h1 hb (by omega) (by omega) (by omega) (by omega) o ?_
    unfold xtSign
    refine Ev.ifn (by decide) ?_
    refine Ev.bindc (implIsT 93) ?_
    refine Ev.ifp (by decide) ?_
    refine Ev.ifn (by decide) ?_
    refine Ev.ifn (by decide) ?_
    refine Ev.ifn (by decide) ?_
    unfold xtGo
    rw [hw]
    refine Ev.ifp ⟨by omega, by omega, by omega⟩ ?_
    exact hn _ (by rw [List.length_append, ← Lib.size_eq, h1z])
  refine step i out ai (by omega) b0 (by omega) (fun o1 l1 => step (i + 1) o1 (by omega) (by omega) b1 (by omega) (fun o2 l2 => ?_))
  rw [show i + 1 + 1 = i + 2 by omega]
  refine xt_ascii s hs a (i + 2) 62 a0 (by omega) (by omega) b2 (by omega) (by omega) (by omega) (by omega) o2 ?_
  unfold xtSign
  refine Ev.ifn (by decide) ?_
  refine Ev.bindc (implIsT 62) ?_
  refine Ev.ifp (by decide) ?_
  refine Ev.ifn (by decide) ?_
  refine Ev.ifn (by decide) ?_
  refine Ev.ifp rfl ?_
  refine Ev.ifp ⟨a0, by omega, by omega⟩ ?_
  refine Ev.bindc (suffix_f s hs a (i + 2) a0 (by omega) (by omega)) ?_
  rw [decide_eq_true (show a + 2 ≤ i + 2 ∧ bt s (i + 2 - 2) = 93 ∧ bt s (i + 2 - 1) = 93 from ⟨by omega, by rw [show i + 2 - 2 = i by omega]; exact b0, by rw [show i + 2 - 1 = i + 1 by omega]; exact b1⟩)]
  exact Ev.ifp rfl (Ev.now _)
def TextOk (s : ByteArray) (a : Int) (q : ByteArray × Int) : Prop := q.2 = -1 ∨ (a ≤ q.2 ∧ q.2 ≤ s.size)
set_option maxHeartbeats 1000000 in
theorem text_l (s : ByteArray) (hs : s.size ≤ 1048576) (a : Int) (a0 : 0 ≤ a) : ∀ (d : Nat) (i : Int) (out : List UInt8), ((s.size : Int) - i).toNat ≤ d → a ≤ i → i ≤ s.size → (out.length : Int) ≤ 4 * i → (∀ p : Int, a ≤ p → p < i → ¬ standsAt s p endB) →
    ∃ q : ByteArray × Int, TextOk s a q ∧ Ev (fun k => xsL k s qEnd i (asInts out)) q ∧ Ev (fun k => xtL k s a qEnd i out) q := by
  have hw3 : wrap64 (0 + 1) = 1 := by unfold wrap64; omega
  intro d
  induction d with
  | zero =>
    intro i out hd ai is ho hno
    have hi : ¬ i < (s.size : Int) := by omega
    refine ⟨(⟨out.toArray⟩, i), .inr ⟨ai, is⟩, ?_, ?_⟩
    · refine Ev.step (fun k => by simp only [xsL]; rfl) ?_
      refine Ev.ifp (by omega) ?_
      refine Ev.ifn hi ?_
      rw [← strOf_asInts]
      exact Ev.now _
    · refine Ev.step (fun k => by simp only [xtL]; rfl) ?_
      refine Ev.ifp (by omega) ?_
      refine Ev.ifn hi ?_
      exact Ev.now _
  | succ d ih =>
    intro i out hd ai is ho hno
    by_cases hi : i < (s.size : Int)
    case neg => exact ih i out (by omega) ai is ho hno
    have hb := bt_range s i
    have hlen : (asInts out).length = out.length := by simp [asInts]
    have i0 : 0 ≤ i := by omega
    by_cases c34 : bt s i = 34
    · refine ⟨(⟨out.toArray⟩, i), .inr ⟨ai, is⟩, ?_, ?_⟩
      · refine Ev.step (fun k => by simp only [xsL]; rfl) ?_
        refine Ev.ifp i0 ?_
        refine Ev.ifp hi ?_
        refine Ev.bind (find_q _) ?_
        rw [if_pos c34]
        refine Ev.ifn (by decide) ?_
        rw [← strOf_asInts]
        exact Ev.now _
      · refine Ev.step (fun k => by simp only [xtL]; rfl) ?_
        refine Ev.ifp i0 ?_
        refine Ev.ifp hi ?_
        refine Ev.bindc (index_q _ hb.1 hb.2) ?_
        rw [if_pos c34]
        refine Ev.ifn (by decide) ?_
        exact Ev.now _
    have spec1 : ∀ {q : ByteArray × Int}, Ev (fun n => if bt s i = 38 then (spec_XmlRef.f n s i).bind fun tn => if tn.2 < 0 then some (⟨#[]⟩, -1) else if (asInts out).length + tn.1.size ≤ 140737488355327 then xsL n s qEnd tn.2 (asInts out ++ bytesOf tn.1) else none
           else (spec_GetSign.f n s i).bind fun c => xsSign n (xsL n s qEnd) s qEnd i c.1 c.2 (asInts out)) q → Ev (fun k => xsL k s qEnd i (asInts out)) q := fun h => by
      refine Ev.step (fun k => by simp only [xsL]; rfl) ?_
      refine Ev.ifp i0 ?_
      refine Ev.ifp hi ?_
      refine Ev.bind (find_q _) ?_
      rw [if_neg c34]
      exact Ev.ifp (by decide) h
    have impl1 : ∀ {q : ByteArray × Int}, Ev (fun n => if bt s i = 38 then (impl_XmlRef.f n s i).bind fun tn => if tn.2 < 0 then some (⟨#[]⟩, -1) else if out.length + tn.1.size ≤ 140737488355327 then xtL n s a qEnd tn.2 (out ++ tn.1.data.toList) else none
           else (impl_cleanSign.f n s i).bind fun c => xtSign (xtL n s a qEnd) s a i c.1 c.2 out) q → Ev (fun k => xtL k s a qEnd i out) q := fun h => by
      refine Ev.step (fun k => by simp only [xtL]; rfl) ?_
      refine Ev.ifp i0 ?_
      refine Ev.ifp hi ?_
      refine Ev.bindc (index_q _ hb.1 hb.2) ?_
      rw [if_neg c34]
      exact Ev.ifp (by decide) h
    by_cases c38 : bt s i = 38
    · obtain ⟨q, ⟨qz, qr⟩, e1, e2⟩ := ref_both s hs i i0 hi c38
      rcases qr with qm | ⟨q1, q2, q3⟩
      · refine ⟨(⟨#[]⟩, -1), .inl rfl, spec1 ?_, impl1 ?_⟩
        · refine Ev.ifp c38 ?_
          refine Ev.bind e1 ?_
          exact Ev.ifp (by omega) (Ev.now _)
        · refine Ev.ifp c38 ?_
          refine Ev.bind e2 ?_
          exact Ev.ifp (by omega) (Ev.now _)
      · obtain ⟨r, r1, r2, r3⟩ := ih q.2 (out ++ q.1.data.toList) (by omega) (by omega) q2 (by rw [List.length_append, ← Lib.size_eq]; omega) (fun p p0 p1 h => by
          by_cases c : p < i
          · exact hno p p0 c h
          · exact q3 p (by omega) p1 ((stands3 s p (by omega)).1 h).2.1)
        refine ⟨r, r1, spec1 ?_, impl1 ?_⟩
        · refine Ev.ifp c38 ?_
          refine Ev.bind e1 ?_
          refine Ev.ifn (by omega) ?_
          refine Ev.ifp (by rw [hlen]; omega) ?_
          rw [show asInts out ++ bytesOf q.1 = asInts (out ++ q.1.data.toList) by simp [asInts, bytesOf]]
          exact r2
        · refine Ev.ifp c38 ?_
          refine Ev.bind e2 ?_
          refine Ev.ifn (by omega) ?_
          exact Ev.ifp (by omega) r3
    obtain ⟨q, q1, q4, ⟨qe, qn, qa⟩, e1, e2⟩ := clean_both s hs i i0 hi
    have hw : wrap64 (i + q.2) = i + q.2 := by unfold wrap64; omega
    have hxs : (s.extract i.toNat (i + q.2).toNat).size = q.2.toNat := by rw [ByteArray.size_extract]; omega
    have spec2 : ∀ {r : ByteArray × Int}, Ev (fun n => xsSign n (xsL n s qEnd) s qEnd i q.1 q.2 (asInts out)) r → Ev (fun k => xsL k s qEnd i (asInts out)) r := fun h => spec1 (Ev.ifn c38 (Ev.bind e1 h))
    by_cases cc : (putF q.1).toList = (s.extract i.toNat (i + q.2).toNat).toList
    case neg =>
      rw [if_neg cc] at e2
      refine ⟨(⟨#[]⟩, -1), .inl rfl, spec2 ?_, impl1 (Ev.ifn c38 (Ev.bind e2 ?_))⟩
      · unfold xsSign
        rw [hw]
        refine Ev.bindc (specIsT q.1) ?_
        by_cases t1 : isT q.1 = true
        · refine Ev.ifp t1 ?_
          by_cases t2 : q.1 = 13
          · exact Ev.ifp t2 (Ev.now _)
          refine Ev.ifn t2 ?_
          by_cases t3 : q.1 = 60
          · exact Ev.ifp t3 (Ev.now _)
          refine Ev.ifn t3 ?_
          refine Ev.bind (Ev.up 1 (fun k => specPut_f k q.1)) ?_
          refine Ev.ifp ⟨by omega, qe⟩ ?_
          exact Ev.ifn cc (Ev.now _)
        · exact Ev.ifn t1 (Ev.now _)
      · unfold xtSign
        exact Ev.ifp (by decide) (Ev.now _)
    rw [if_pos cc] at e2
    have impl2 : ∀ {r : ByteArray × Int}, Ev (fun n => xtSign (xtL n s a qEnd) s a i q.1 q.2 out) r → Ev (fun k => xtL k s a qEnd i out) r := fun h => impl1 (Ev.ifn c38 (Ev.bind e2 h))
    by_cases t1 : isT q.1 = true
    case neg =>
      refine ⟨(⟨#[]⟩, -1), .inl rfl, spec2 ?_, impl2 ?_⟩
      · unfold xsSign
        exact Ev.bindc (specIsT q.1) (Ev.ifn t1 (Ev.now _))
      · unfold xtSign
        refine Ev.ifn (by omega) ?_
        exact Ev.bindc (implIsT q.1) (Ev.ifn t1 (Ev.now _))
    have impl3 : ∀ {r : ByteArray × Int}, Ev (fun n => (if q.1 = 13 then some (⟨#[]⟩, -1) else if q.1 = 60 then some (⟨#[]⟩, -1)
     else if q.1 = 62 then (if 0 ≤ a ∧ a ≤ i ∧ i ≤ (s.size : Int) then (strings_HasSuffix.f (s.extract a.toNat i.toNat) ⟨#[93, 93]⟩).bind fun h => if h = true then some (⟨#[]⟩, -1) else xtGo (xtL n s a qEnd) s i q.2 out else none)
     else xtGo (xtL n s a qEnd) s i q.2 out)) r → Ev (fun k => xtL k s a qEnd i out) r := fun h => impl2 (by
      unfold xtSign
      refine Ev.ifn (by omega) ?_
      refine Ev.bindc (implIsT q.1) ?_
      exact Ev.ifp t1 h)
    have spec3 : ∀ {r : ByteArray × Int}, Ev (fun n => (if q.1 = 13 then some (⟨#[]⟩, -1) else if q.1 = 60 then some (⟨#[]⟩, -1)
     else (spec_PutSign.f n q.1).bind fun p =>
       if i ≤ i + q.2 ∧ i + q.2 ≤ (s.size : Int) then
         (if p.toList = (s.extract i.toNat (i + q.2).toNat).toList then
           (spec_l5Stands.f s i ⟨#[93, 93, 62]⟩).bind fun h => if h = true then (spec_l4Find.f n qEnd 0 62).bind fun z => (if z < 0 then some (⟨#[]⟩, -1) else xsGo (xsL n s qEnd) s i q.2 (asInts out)) else xsGo (xsL n s qEnd) s i q.2 (asInts out)
         else some (⟨#[]⟩, -1))
       else none)) r → Ev (fun k => xsL k s qEnd i (asInts out)) r := fun h => spec2 (by
      unfold xsSign
      rw [hw]
      refine Ev.bindc (specIsT q.1) ?_
      exact Ev.ifp t1 h)
    by_cases t2 : q.1 = 13
    · exact ⟨(⟨#[]⟩, -1), .inl rfl, spec3 (Ev.ifp t2 (Ev.now _)), impl3 (Ev.ifp t2 (Ev.now _))⟩
    by_cases t3 : q.1 = 60
    · exact ⟨(⟨#[]⟩, -1), .inl rfl, spec3 (Ev.ifn t2 (Ev.ifp t3 (Ev.now _))), impl3 (Ev.ifn t2 (Ev.ifp t3 (Ev.now _)))⟩
    have hsf := stands_f s hs i endB (by decide) i0 is
    by_cases cs : standsAt s i endB
    · refine ⟨(⟨#[]⟩, -1), .inl rfl, spec3 ?_, dead_end s hs a i a0 ai cs out (by omega)⟩
      refine Ev.ifn t2 ?_
      refine Ev.ifn t3 ?_
      refine Ev.bind (Ev.up 1 (fun k => specPut_f k q.1)) ?_
      refine Ev.ifp ⟨by omega, qe⟩ ?_
      refine Ev.ifp cc ?_
      refine Ev.bindc hsf ?_
      rw [decide_eq_true cs]
      refine Ev.ifp rfl ?_
      refine Ev.bind (find_q 62) ?_
      exact Ev.ifp (by decide) (Ev.now _)
    have hcl : (putF q.1).toList.length = q.2.toNat := by rw [cc, Lib.toList_data, ← Lib.size_eq, hxs]
    have hby := (ext_iff s i i0 (putF q.1).toList (by rw [hcl]; omega)).1 (by rw [hcl, show i + ((q.2.toNat : Nat) : Int) = i + q.2 by omega]; exact cc.symm)
    obtain ⟨r, r1, r2, r3⟩ := ih (i + q.2) (out ++ (s.extract i.toNat (i + q.2).toNat).data.toList) (by omega) (by omega) qe (by rw [List.length_append, ← Lib.size_eq, hxs]; omega) (fun p p0 p1 h => by
      by_cases c : p < i
      · exact hno p p0 c h
      · by_cases ce : p = i
        · subst ce; exact cs h
        · have h93 := ((stands3 s p (by omega)).1 h).2.1
          have hj : (p - i).toNat < (putF q.1).toList.length := by rw [hcl]; omega
          have hbp := hby (p - i).toNat hj
          rw [show i + (((p - i).toNat : Nat) : Int) = p by omega] at hbp
          have := put_high q.1 (by rw [hcl]; omega) _ (List.getElem_mem hj)
          omega)
    refine ⟨r, r1, spec3 ?_, impl3 ?_⟩
    · refine Ev.ifn t2 ?_
      refine Ev.ifn t3 ?_
      refine Ev.bind (Ev.up 1 (fun k => specPut_f k q.1)) ?_
      refine Ev.ifp ⟨by omega, qe⟩ ?_
      refine Ev.ifp cc ?_
      refine Ev.bindc hsf ?_
      rw [decide_eq_false cs]
      refine Ev.ifn (by simp) ?_
      unfold xsGo
      rw [hw]
      refine Ev.ifp (by rw [hlen, hxs]; omega) ?_
      rw [show asInts out ++ bytesOf (s.extract i.toNat (i + q.2).toNat) = asInts (out ++ (s.extract i.toNat (i + q.2).toNat).data.toList) by simp [asInts, bytesOf]]
      exact r2
    · have go : Ev (fun n => xtGo (xtL n s a qEnd) s i q.2 out) r := by
        unfold xtGo
        rw [hw]
        exact Ev.ifp ⟨by omega, qe, by rw [hxs]; omega⟩ r3
      refine Ev.ifn t2 ?_
      refine Ev.ifn t3 ?_
      by_cases t4 : q.1 = 62
      · refine Ev.ifp t4 ?_
        refine Ev.ifp ⟨a0, ai, is⟩ ?_
        refine Ev.bindc (suffix_f s hs a i a0 ai is) ?_
        have hp62 : (putF q.1).toList = [62] := by rw [t4, put_low_list 62 (by decide) (by decide)]; rfl
        have hb62 : bt s i = 62 := by
          have := hby 0 (by rw [hp62]; decide)
          rw [show i + ((0 : Nat) : Int) = i by omega] at this
          rw [this]
          simp only [hp62]
          rfl
        rw [decide_eq_false (fun h => hno (i - 2) (by omega) (by omega) ((stands3 s (i - 2) (by omega)).2 ⟨by omega, h.2.1, by rw [show i - 2 + 1 = i - 1 by omega]; exact h.2.2, by rw [show i - 2 + 2 = i by omega]; exact hb62⟩))]
        exact Ev.ifn (by simp) go
      · exact Ev.ifn t4 go
theorem text_both (s : ByteArray) (hs : s.size ≤ 1048576) (a : Int) (a0 : 0 ≤ a) : ∃ q : ByteArray × Int, TextOk s a q ∧ Ev (fun k => spec_XmlText.f k s a qEnd) q ∧ Ev (fun k => impl_XmlText.f k s a qEnd) q := by
  by_cases c : a ≤ s.size
  · obtain ⟨q, h1, h2, h3⟩ := text_l s hs a a0 _ a [] (Nat.le_refl _) (Int.le_refl _) c (by simp; omega) (fun p p0 p1 => absurd p1 (by omega))
    refine ⟨q, h1, ?_, ?_⟩
    · unfold spec_XmlText.f
      refine Ev.ifn (by omega) ?_
      exact Ev.ifn (by omega) h2
    · unfold impl_XmlText.f
      refine Ev.bindc (inRange_f _ _ _) ?_
      rw [decide_eq_true (show 0 ≤ a ∧ a ≤ (s.size : Int) from ⟨a0, c⟩)]
      exact Ev.ifp rfl h3
  · refine ⟨(⟨#[]⟩, -1), .inl rfl, ?_, ?_⟩
    · unfold spec_XmlText.f
      refine Ev.ifn (by omega) ?_
      exact Ev.ifp (by omega) (Ev.now _)
    · unfold impl_XmlText.f
      refine Ev.bindc (inRange_f _ _ _) ?_
      rw [decide_eq_false (show ¬ (0 ≤ a ∧ a ≤ (s.size : Int)) from fun h => c h.2)]
      exact Ev.ifn (by simp) (Ev.now _)
end Go.Proofs.YtkmmoheeoblmnaaDoor.A
namespace Go.Proofs.YtkmmoheeoblmnaaDoor.A
open Go.RowKit Go.Proofs.YtkmmoheeoblmnaaDoorW.PrintWords Go.Proofs.YtkmmoheeoblmnaaDoorW.PrintLast Go.Proofs.YtkmmoheeoblmnaaDoorW.PrintMore
set_option linter.unusedVariables false
theorem anyIdx_iff (chars : List UInt8) : ∀ l : List UInt8, 0 ≤ Lib.indexAny l chars ↔ ∃ b ∈ l, chars.contains b = true
  | [] => by simp [Lib.indexAny]
  | b :: l => by
    have hge := Lib.indexAny_ge chars l
    have ih := anyIdx_iff chars l
    rw [Lib.indexAny]
    by_cases c : chars.contains b = true
    · rw [if_pos c]
      exact ⟨fun _ => ⟨b, by simp, c⟩, fun _ => Int.le_refl _⟩
    · rw [if_neg c]
      by_cases c2 : Lib.indexAny l chars = -1
      · rw [if_pos (beq_iff_eq.mpr c2)]
        refine ⟨fun h => absurd h (by decide), fun ⟨x, hx, hc⟩ => ?_⟩
        rcases List.mem_cons.1 hx with rfl | hx
        · exact absurd hc c
        · have := ih.2 ⟨x, hx, hc⟩
          omega
      · rw [if_neg (fun h => c2 (beq_iff_eq.1 h))]
        refine ⟨fun h => ?_, fun _ => by omega⟩
        obtain ⟨x, hx, hc⟩ := ih.1 (by omega)
        exact ⟨x, List.mem_cons_of_mem _ hx, hc⟩
theorem find_l (x : ByteArray) (hm : x.size ≤ 1048576) (c : Int) : ∀ (d : Nat) (j : Int), ((x.size : Int) - j).toNat ≤ d → 0 ≤ j → ∃ r : Int, Ev (fun k => spec_l4Find.l0 k x j c) r ∧ (0 ≤ r ↔ ∃ i : Int, j ≤ i ∧ i < (x.size : Int) ∧ bt x i = c) := by
  intro d
  induction d with
  | zero =>
    intro j hd h0
    refine ⟨-1, ?_, ⟨fun h => absurd h (by decide), fun ⟨i, h1, h2, _⟩ => by omega⟩⟩
    refine Ev.step (fun k => by simp only [spec_l4Find.l0]; rfl) ?_
    exact Ev.ifn (by omega) (Ev.now _)
  | succ d ih =>
    intro j hd h0
    by_cases hj : j < (x.size : Int)
    case neg => exact ih j (by omega) h0
    have hw : wrap64 (j + 1) = j + 1 := by unfold wrap64; omega
    by_cases hc : bt x j = c
    · refine ⟨j, ?_, ⟨fun _ => ⟨j, Int.le_refl _, hj, hc⟩, fun _ => h0⟩⟩
      refine Ev.step (fun k => by simp only [spec_l4Find.l0]; rfl) ?_
      refine Ev.ifp hj ?_
      refine Ev.ifp h0 ?_
      exact Ev.ifp hc (Ev.now _)
    · obtain ⟨r, e1, e2⟩ := ih (j + 1) (by omega) (by omega)
      refine ⟨r, ?_, ⟨fun h => ?_, fun ⟨i, h1, h2, h3⟩ => e2.2 ⟨i, ?_, h2, h3⟩⟩⟩
      · refine Ev.step (fun k => by simp only [spec_l4Find.l0]; rfl) ?_
        refine Ev.ifp hj ?_
        refine Ev.ifp h0 ?_
        refine Ev.ifn hc ?_
        rw [hw]
        exact e1
      · obtain ⟨i, h1, h2, h3⟩ := e2.1 h
        exact ⟨i, by omega, h2, h3⟩
      · by_cases ce : i = j
        · subst ce; exact absurd h3 hc
        · omega
theorem bt_mem (x : ByteArray) (c : UInt8) : (∃ i : Int, 0 ≤ i ∧ i < (x.size : Int) ∧ bt x i = (c.toNat : Int)) ↔ c ∈ x.data.toList := by
  constructor
  · rintro ⟨i, h0, h1, h2⟩
    obtain ⟨b, e1, e2⟩ := bt_list x i h0 h1
    have : b = c := by apply UInt8.toNat_inj.mp; omega
    subst this
    exact List.mem_of_getElem? e1
  · intro h
    obtain ⟨j, hj⟩ := List.getElem?_of_mem h
    have hlt : j < x.size := by
      have := (List.getElem?_eq_some_iff.1 hj).1
      rw [← Lib.size_eq] at this
      exact this
    obtain ⟨b, e1, e2⟩ := bt_list x j (by omega) (by omega)
    rw [show ((j : Int)).toNat = j by omega, hj] at e1
    obtain rfl := Option.some.inj e1
    exact ⟨j, by omega, by omega, e2⟩
theorem find_any (x : ByteArray) (hm : x.size ≤ 1048576) : ∃ r9 r10 : Int, Ev (fun k => spec_l4Find.f k x 0 9) r9 ∧ Ev (fun k => spec_l4Find.f k x 0 10) r10 ∧ strings_ContainsAny.f x (⟨#[9, 10]⟩ : ByteArray) = some (decide (0 ≤ r9 ∨ 0 ≤ r10)) := by
  obtain ⟨r9, e9, f9⟩ := find_l x hm 9 _ 0 (Nat.le_refl _) (Int.le_refl _)
  obtain ⟨r10, e10, f10⟩ := find_l x hm 10 _ 0 (Nat.le_refl _) (Int.le_refl _)
  refine ⟨r9, r10, e9, e10, ?_⟩
  have m9 := (f9.trans (bt_mem x 9))
  have m10 := (f10.trans (bt_mem x 10))
  unfold strings_ContainsAny.f
  rw [if_pos ⟨rfl, by omega⟩]
  congr 1
  unfold Lib.containsAny
  apply decide_eq_decide.mpr
  rw [anyIdx_iff, m9, m10]
  constructor
  · rintro ⟨b, hb, hc⟩
    have : b = 9 ∨ b = 10 := by simpa using hc
    rcases this with rfl | rfl
    · exact .inl hb
    · exact .inr hb
  · rintro (h | h)
    · exact ⟨9, h, by decide⟩
    · exact ⟨10, h, by decide⟩
theorem attr_both (s : ByteArray) (hs : s.size ≤ 1048576) (a : Int) (aw : (Lit.int .i64 a).wf = true) : ∃ q : ByteArray × ByteArray × Int, Ev (fun k => spec_XmlAttr.f k s a) q ∧ Ev (fun k => impl_XmlAttr.f k s a) q := by
  obtain ⟨⟨nm, e⟩, n1, n2, n3⟩ := name_both s hs a aw
  have sj : Ev (fun k => spec_XmlAttr.j0 k s nm e true) ((⟨#[]⟩ : ByteArray), (⟨#[]⟩ : ByteArray), (-1 : Int)) := by
    refine Ev.step (fun k => by simp only [spec_XmlAttr.j0]; rfl) ?_
    exact Ev.ifp trivial (Ev.now _)
  have ij : Ev (fun k => impl_XmlAttr.j0 k s nm e true) ((⟨#[]⟩ : ByteArray), (⟨#[]⟩ : ByteArray), (-1 : Int)) := by
    refine Ev.step (fun k => by simp only [impl_XmlAttr.j0]; rfl) ?_
    exact Ev.ifp trivial (Ev.now _)
  by_cases c1 : nm.toList = []
  · refine ⟨((⟨#[]⟩ : ByteArray), (⟨#[]⟩ : ByteArray), (-1 : Int)), ?_, ?_⟩
    · unfold spec_XmlAttr.f
      refine Ev.bind n1 ?_
      exact Ev.ifp c1 sj
    · unfold impl_XmlAttr.f
      refine Ev.bind n2 ?_
      exact Ev.ifp c1 ij
  have n4 : 0 ≤ e ∧ e ≤ s.size := by
    rcases n3 with h | h
    · exact absurd h c1
    · exact h
  obtain ⟨e0, e1⟩ := n4
  have hst := stands_f s hs e (⟨#[61, 34]⟩ : ByteArray) (by decide) e0 e1
  have hpf := hasPrefix_f s e (⟨#[61, 34]⟩ : ByteArray) e0 e1
  have spec0 : ∀ {q : ByteArray × ByteArray × Int}, Ev (fun k => spec_XmlAttr.j0 k s nm e (!decide (standsAt s e (⟨#[61, 34]⟩ : ByteArray)))) q → Ev (fun k => spec_XmlAttr.f k s a) q := fun h => by
    unfold spec_XmlAttr.f
    refine Ev.bind n1 ?_
    refine Ev.ifn c1 ?_
    exact Ev.bindc hst h
  have impl0 : ∀ {q : ByteArray × ByteArray × Int}, Ev (fun k => impl_XmlAttr.j0 k s nm e (!decide (standsAt s e (⟨#[61, 34]⟩ : ByteArray)))) q → Ev (fun k => impl_XmlAttr.f k s a) q := fun h => by
    unfold impl_XmlAttr.f
    refine Ev.bind n2 ?_
    refine Ev.ifn c1 ?_
    refine Ev.ifp e0 ?_
    refine Ev.ifp e1 ?_
    exact Ev.bindc hpf h
  by_cases c2 : standsAt s e (⟨#[61, 34]⟩ : ByteArray)
  case neg =>
    rw [decide_eq_false c2] at spec0 impl0
    exact ⟨_, spec0 sj, impl0 ij⟩
  rw [decide_eq_true c2] at spec0 impl0
  have e2 : e + 2 ≤ s.size := c2.1
  have hw : wrap64 (e + 2) = e + 2 := by unfold wrap64; omega
  obtain ⟨⟨v, n⟩, t1, t2, t3⟩ := text_both s hs (e + 2) (by omega)
  have spec1 : ∀ {q : ByteArray × ByteArray × Int}, Ev (fun k => (if n < 0 then (some ((⟨#[]⟩ : ByteArray), (⟨#[]⟩ : ByteArray), (-1 : Int))) else (if n ≥ (s.size : Int) then (some ((⟨#[]⟩ : ByteArray), (⟨#[]⟩ : ByteArray), (-1))) else (if 0 ≤ e + 2 then (if e + 2 ≤ n then (if n ≤ (s.size : Int) then ((spec_l4Find.f k (s.extract (e + 2).toNat n.toNat) 0 9).bind fun t301 => (if t301 ≥ 0 then (some ((⟨#[]⟩ : ByteArray), (⟨#[]⟩ : ByteArray), (-1))) else ((spec_l4Find.f k (s.extract (e + 2).toNat n.toNat) 0 10).bind fun t302 => (if t302 ≥ 0 then (some ((⟨#[]⟩ : ByteArray), (⟨#[]⟩ : ByteArray), (-1))) else (some (nm, v, wrap64 (n + 1))))))) else (none)) else (none)) else (none))))) q → Ev (fun k => spec_XmlAttr.f k s a) q := fun h => by
    refine spec0 ?_
    refine Ev.step (fun k => by simp only [spec_XmlAttr.j0]; rfl) ?_
    rw [hw]
    refine Ev.ifn (by simp) ?_
    exact Ev.bind t2 h
  have impl1 : ∀ {q : ByteArray × ByteArray × Int}, Ev (fun k => (if n < 0 then (some ((⟨#[]⟩ : ByteArray), (⟨#[]⟩ : ByteArray), (-1 : Int))) else (if n = (s.size : Int) then (some ((⟨#[]⟩ : ByteArray), (⟨#[]⟩ : ByteArray), (-1))) else (if 0 ≤ e + 2 then (if e + 2 ≤ n then (if n ≤ (s.size : Int) then ((strings_ContainsAny.f (s.extract (e + 2).toNat n.toNat) (⟨#[9, 10]⟩ : ByteArray)).bind fun t367 => (if t367 = true then (some ((⟨#[]⟩ : ByteArray), (⟨#[]⟩ : ByteArray), (-1))) else (some (nm, v, wrap64 (n + 1))))) else (none)) else (none)) else (none))))) q → Ev (fun k => impl_XmlAttr.f k s a) q := fun h => by
    refine impl0 ?_
    refine Ev.step (fun k => by simp only [impl_XmlAttr.j0]; rfl) ?_
    rw [hw]
    refine Ev.ifn (by simp) ?_
    exact Ev.bind t3 h
  rcases t1 with tm | ⟨tn1, tn2⟩
  · have tm' : n = -1 := tm
    exact ⟨(⟨#[]⟩, ⟨#[]⟩, -1), spec1 (Ev.ifp (by omega) (Ev.now _)), impl1 (Ev.ifp (by omega) (Ev.now _))⟩
  have tn1' : e + 2 ≤ n := tn1
  have tn2' : n ≤ s.size := tn2
  by_cases c3 : n = (s.size : Int)
  · exact ⟨(⟨#[]⟩, ⟨#[]⟩, -1), spec1 (Ev.ifn (by omega) (Ev.ifp (by omega) (Ev.now _))), impl1 (Ev.ifn (by omega) (Ev.ifp c3 (Ev.now _)))⟩
  obtain ⟨r9, r10, f9, f10, fc⟩ := find_any (s.extract (e + 2).toNat n.toNat) (by rw [ByteArray.size_extract]; omega)
  refine ⟨if 0 ≤ r9 ∨ 0 ≤ r10 then (⟨#[]⟩, ⟨#[]⟩, -1) else (nm, v, wrap64 (n + 1)), spec1 ?_, impl1 ?_⟩
  · refine Ev.ifn (by omega) ?_
    refine Ev.ifn (by omega) ?_
    refine Ev.ifp (by omega) ?_
    refine Ev.ifp tn1' ?_
    refine Ev.ifp tn2' ?_
    refine Ev.bind f9 ?_
    by_cases g9 : 0 ≤ r9
    · rw [if_pos (Or.inl g9)]
      exact Ev.ifp g9 (Ev.now _)
    · refine Ev.ifn g9 ?_
      refine Ev.bind f10 ?_
      by_cases g10 : 0 ≤ r10
      · rw [if_pos (Or.inr g10)]
        exact Ev.ifp g10 (Ev.now _)
      · rw [if_neg (show ¬ (0 ≤ r9 ∨ 0 ≤ r10) from fun h => Or.elim h g9 g10)]
        exact Ev.ifn g10 (Ev.now _)
  · refine Ev.ifn (by omega) ?_
    refine Ev.ifn c3 ?_
    refine Ev.ifp (by omega) ?_
    refine Ev.ifp tn1' ?_
    refine Ev.ifp tn2' ?_
    refine Ev.bindc fc ?_
    by_cases g : 0 ≤ r9 ∨ 0 ≤ r10
    · rw [if_pos g]
      exact Ev.ifp (decide_eq_true g) (Ev.now _)
    · rw [if_neg g]
      exact Ev.ifn (by rw [decide_eq_false g]; simp) (Ev.now _)
theorem XmlAttr_pure : laws_FnExactXmlAttr.Pure := by
  intro a0 a1 w0 w1
  by_cases c : (a0.size : Int) > 1048576
  · exact ⟨0, by unfold laws_FnExactXmlAttr.f; rw [if_pos c]⟩
  · obtain ⟨⟨nm, v, n⟩, e1, e2⟩ := attr_both a0 (by omega) a1 w1
    have h : Ev (fun k => laws_FnExactXmlAttr.f k a0 a1) true := by
      unfold laws_FnExactXmlAttr.f
      refine Ev.ifn c ?_
      refine Ev.bind e1 ?_
      refine Ev.bind e2 ?_
      refine Ev.bindc (a := true) (by unfold laws_eqAttr.f; rw [if_pos rfl, if_pos rfl]) ?_
      refine Ev.ifp rfl ?_
      exact Ev.ifp rfl (Ev.now _)
    obtain ⟨k, hk⟩ := h
    exact ⟨k, hk k (Nat.le_refl _)⟩
end Go.Proofs.YtkmmoheeoblmnaaDoor.A
