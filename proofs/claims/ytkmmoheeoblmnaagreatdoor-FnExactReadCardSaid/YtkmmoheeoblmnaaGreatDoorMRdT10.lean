-- joined by wip/tools/shake.py
import Derived.Test.YtkmmoheeoblmnaaGreatDoorVRdTW9
import Derived.Test.YtkmmoheeoblmnaaGreatDoorMRdT0
import Derived.Laws.Bits128
import Derived.Test.YtkmmoheeoblmnaaGreatDoorMRdT2
import Derived.Test.YtkmmoheeoblmnaaGreatDoorMRdT3
import Derived.Test.YtkmmoheeoblmnaaGreatDoorMRdT1
import Derived.Lib.IndexLaws
import Derived.Lib.IndexAny
import Derived.Test.YtkmmoheeoblmnaaGreatDoorMRdT4
import Derived.Test.YtkmmoheeoblmnaaGreatDoorMRdT9
import Derived.Lib.SplitLaws
import Derived.Lib.ReplaceLaws
import Derived.Test.YtkmmoheeoblmnaaGreatDoorMRdT8
import Derived.Test.YtkmmoheeoblmnaaGreatDoorMRdT6
set_option maxHeartbeats 16000000
set_option maxRecDepth 100000
namespace Go.Proofs.YtkmmoheeoblmnaaGreatDoor.A
open Go.RowKit Go.Proofs.YtkmmoheeoblmnaaGreatDoorW.PrintWords Go.Proofs.YtkmmoheeoblmnaaGreatDoorW.PrintLast Go.Proofs.YtkmmoheeoblmnaaGreatDoorW.PrintMore
set_option linter.unusedVariables false
theorem Ev.ifp {α : Type} {c : Prop} [Decidable c] {f g : Nat → Option α} {r : α} (hc : c) (h : Ev f r) : Ev (fun k => if c then f k else g k) r := Ev.congr (fun k => if_pos hc) h
theorem Ev.ifn {α : Type} {c : Prop} [Decidable c] {f g : Nat → Option α} {r : α} (hc : ¬ c) (h : Ev g r) : Ev (fun k => if c then f k else g k) r := Ev.congr (fun k => if_neg hc) h
theorem Ev.bindc {α β : Type} {x : Option α} {a : α} {f : Nat → α → Option β} {r : β} (hx : x = some a) (h : Ev (fun n => f n a) r) : Ev (fun n => x.bind (f n)) r := Ev.congr (fun k => by rw [hx, Option.bind_some]) h
theorem Ev.up {α : Type} {f : Nat → Option α} {r : α} (m : Nat) (h : ∀ k, f (k + m) = some r) : Ev f r := ⟨m, fun k hk => by have := h (k - m); rwa [Nat.sub_add_cancel hk] at this⟩
theorem i64_and63 (n : Int) : bits .and .i64 n 63 = n % 64 := by
 have h63 : (BitVec.ofInt 64 63).toNat = 2 ^ 6 - 1 := by decide
 have key : (BitVec.ofInt 64 n &&& BitVec.ofInt 64 63).toNat = (n % ((2 ^ 64 : Nat) : Int)).toNat % 2 ^ 6 := by
  rw [BitVec.toNat_and, BitVec.toNat_ofInt, h63, Nat.and_two_pow_sub_one_eq_mod]
 show IntKind.i64.wrap ((BitVec.ofInt 64 n &&& BitVec.ofInt 64 63).toNat : Nat) = n % 64;rw [key, IntKind.wrap_i64];omega
theorem or128_nat : ∀ c : Nat, c < 64 → bits .or .i64 128 (c : Int) = 128 + (c : Int) := by decide
theorem or192_nat : ∀ c : Nat, c < 32 → bits .or .i64 192 (c : Int) = 192 + (c : Int) := by decide
theorem or224_nat : ∀ c : Nat, c < 16 → bits .or .i64 224 (c : Int) = 224 + (c : Int) := by decide
theorem or240_nat : ∀ c : Nat, c < 8 → bits .or .i64 240 (c : Int) = 240 + (c : Int) := by decide
theorem or_of {a : Int} {m : Nat} (h : ∀ c : Nat, c < m → bits .or .i64 a (c : Int) = a + (c : Int)) {x : Int} (h0 : 0 ≤ x) (h1 : x < m) : bits .or .i64 a x = a + x := by
 have := h x.toNat om_;rwa [show ((x.toNat : Nat) : Int) = x by omega] at this
def signOk (n : Int) : Bool := decide (0 ≤ n ∧ n ≤ 1114111) && !decide (55296 ≤ n ∧ n ≤ 57343)
theorem inRange_f (n a b : Int) : impl_inRange.f n a b = some (decide (a ≤ n ∧ n ≤ b)) := by
 unfold impl_inRange.f;by_cases h : n ≥ a
 ·rw [if_pos h];by_cases h2 : n ≤ b
  ·rw [dE_ h2, dE_ (show a ≤ n ∧ n ≤ b from ⟨h, h2⟩)]
  ·rw [dF_ h2, dF_ (show ¬ (a ≤ n ∧ n ≤ b) from fun hh => h2 hh.2)]
 ·rw [if_neg h, dF_ (show ¬ (a ≤ n ∧ n ≤ b) from fun hh => h hh.1)]
theorem l1In_f (n a b : Int) : spec_l1In.f n a b = some (decide (a ≤ n ∧ n ≤ b)) := inRange_f n a b
theorem implSignOk_f (n : Int) : impl_SignOk.f n = some (signOk n) := by
 unfold impl_SignOk.f signOk;rw [inRange_f, inRange_f];simp only [Option.bind_some];by_cases h : decide (0 ≤ n ∧ n ≤ 1114111) = true
 ·rw [if_pos h, h]; rfl
 ·rw [if_neg h, bF_ h]; rfl
theorem specSignOk_f (n : Int) : spec_SignOk.f n = some (signOk n) := by
 unfold spec_SignOk.f signOk;rw [l1In_f, l1In_f];simp only [Option.bind_some];by_cases h : decide (0 ≤ n ∧ n ≤ 1114111) = true
 ·rw [if_pos h, h]; rfl
 ·rw [if_neg h, bF_ h]; rfl
def put0 (x : Int) : ByteArray :=
 if x < 128 then strOfNums [x % 256]
 else if x < 2048 then strOfNums [(192 + x / 64) % 256, (128 + x % 64) % 256]
 else if x < 65536 then strOfNums [(224 + x / 4096) % 256, (128 + x / 64 % 64) % 256, (128 + x % 64) % 256]
 else strOfNums [(240 + x / 262144) % 256, (128 + x / 4096 % 64) % 256, (128 + x / 64 % 64) % 256, (128 + x % 64) % 256]
theorem follow_f (x : Int) (b : Nat) (hb : b = 0 ∨ b = 6 ∨ b = 12) : impl_follow.f x (b : Int) = some ((128 + x / 2 ^ b % 64) % 256) := by
 unfold impl_follow.f;have hw : IntKind.u64.wrap (b : Int) = (b : Int) := by rcases hb with rfl | rfl | rfl <;> decide
 rw [hw, if_pos om_, i64_and63];have hs : shr .i64 x (b : Int) = x / 2 ^ b := by
  unfold shr;rcases hb with rfl | rfl | rfl <;> rfl
 rw [hs, or_of or128_nat om_ om_]
theorem specPut0_f (k : Nat) (x : Int) (h0 : 0 ≤ x) (h1 : x ≤ 1114111) : spec_PutSign.j0 (k + 1) x = some (put0 x) := by
 have hw : ∀ a : Int, 0 ≤ a → a ≤ 1000000 → wrap64 a = a := fun a _ _ => by unfold wrap64; omega
 simp only [spec_PutSign.j0, put0, i64_and63];rw [hw (192 + x / 64) om_ om_, hw (128 + x % 64) om_ om_, hw (224 + x / 4096) om_ om_, hw (128 + x / 64 % 64) om_ om_, hw (240 + x / 262144) om_ om_, hw (128 + x / 4096 % 64) om_ om_];by_cases c1 : x < 128
 ·simp [c1]
 ·by_cases c2 : x < 2048
  ·simp [c1, c2]
  ·by_cases c3 : x < 65536 <;> simp [c1, c2, c3]
theorem implPut0_f (k : Nat) (x : Int) (h0 : 0 ≤ x) (h1 : x ≤ 1114111) : impl_PutSign.j0 (k + 1) x = some (put0 x) := by
 have f0 : impl_follow.f x 0 = some ((128 + x % 64) % 256) := by
  have := follow_f x 0 (.inl rfl);rwa [show (2 : Int) ^ 0 = 1 from rfl, Int.ediv_one] at this
 have f6 : impl_follow.f x 6 = some ((128 + x / 64 % 64) % 256) := follow_f x 6 (.inr (.inl rfl));have f12 : impl_follow.f x 12 = some ((128 + x / 4096 % 64) % 256) := follow_f x 12 (.inr (.inr rfl));simp only [impl_PutSign.j0, put0];by_cases c1 : x < 128
 ·simp [c1]
 ·by_cases c2 : x < 2048
  ·rw [if_neg c1, if_neg c1, if_pos c2, if_pos c2, or_of or192_nat om_ om_];rw [f0];rfl
  ·by_cases c3 : x < 65536
   ·rw [if_neg c1, if_neg c1, if_neg c2, if_neg c2, if_pos c3, if_pos c3, or_of or224_nat om_ om_];rw [f0, f6];rfl
   ·rw [if_neg c1, if_neg c1, if_neg c2, if_neg c2, if_neg c3, if_neg c3, or_of or240_nat om_ om_];rw [f0, f6, f12];rfl
def putF (n : Int) : ByteArray := if signOk n = true then put0 n else put0 65533
theorem specPut_f (k : Nat) (n : Int) : spec_PutSign.f (k + 1) n = some (putF n) := by
 unfold spec_PutSign.f putF;rw [specSignOk_f, Option.bind_some];by_cases h : signOk n = true
 ·have h' := h;simp only [signOk, Bool.and_eq_true, decide_eq_true_eq] at h';rw [if_pos h, if_pos h, specPut0_f k n om_ om_]
 ·rw [if_neg h, if_neg h, specPut0_f k 65533 om_ om_]
theorem implPut_f (k : Nat) (n : Int) : impl_PutSign.f (k + 1) n = some (putF n) := by
 unfold impl_PutSign.f putF;rw [implSignOk_f, Option.bind_some];by_cases h : signOk n = true
 ·have h' := h;simp only [signOk, Bool.and_eq_true, decide_eq_true_eq] at h';rw [if_pos h, if_pos h, implPut0_f k n om_ om_]
 ·rw [if_neg h, if_neg h, implPut0_f k 65533 om_ om_]
theorem putF_size (n : Int) : (putF n).size ≤ 4 := by
 have hp : ∀ x, (put0 x).size ≤ 4 := by
  intro x;unfold put0;split
  ·exact Nat.le_trans (Nat.le_of_eq (show _ = 1 from rfl)) om_
  ·split
   ·exact Nat.le_trans (Nat.le_of_eq (show _ = 2 from rfl)) om_
   ·split
    ·exact Nat.le_trans (Nat.le_of_eq (show _ = 3 from rfl)) om_
    ·exact Nat.le_trans (Nat.le_of_eq (show _ = 4 from rfl)) om_
 unfold putF;split <;> exact hp _
theorem u8and : ∀ c : Nat, c < 256 → bits .and .u8 (c : Int) 63 = (c : Int) % 64 ∧ bits .and .u8 (c : Int) 31 = (c : Int) % 32 ∧ bits .and .u8 (c : Int) 15 = (c : Int) % 16 ∧ bits .and .u8 (c : Int) 7 = (c : Int) % 8 := by decide +kernel
theorem i64and : ∀ c : Nat, c < 256 → bits .and .i64 (c : Int) 31 = (c : Int) % 32 ∧ bits .and .i64 (c : Int) 15 = (c : Int) % 16 ∧ bits .and .i64 (c : Int) 7 = (c : Int) % 8 := by decide +kernel
theorem or_add (n x : Int) (h0 : 0 ≤ n) (h1 : n ≤ 1099511627776) (x0 : 0 ≤ x) (x1 : x < 64) : bits .or .i64 (n * 64) x = n * 64 + x := by
 have key : (BitVec.ofInt 64 (n * 64) ||| BitVec.ofInt 64 x).toNat = n.toNat * 64 + x.toNat := by
  rw [BitVec.toNat_or, BitVec.toNat_ofInt, BitVec.toNat_ofInt];have e1 : (n * 64 % ((2 ^ 64 : Nat) : Int)).toNat = n.toNat <<< 6 := by rw [Nat.shiftLeft_eq]; omega
  have e2 : (x % ((2 ^ 64 : Nat) : Int)).toNat = x.toNat := om_;rw [e1, e2, ← Nat.shiftLeft_add_eq_or_of_lt (show x.toNat < 2 ^ 6 by omega), Nat.shiftLeft_eq]
 show IntKind.i64.wrap ((BitVec.ofInt 64 (n * 64) ||| BitVec.ofInt 64 x).toNat : Nat) = n * 64 + x;rw [key, IntKind.wrap_i64];omega
theorem bt_range (s : BA) (i : Int) : 0 ≤ bt s i ∧ bt s i ≤ 255 := by
 unfold bt;split
 ·rename_i h
  constructor
  ·omega
  ·have := (s[i.toNat]'h).toNat_lt;omega
 ·omega
def Bd : Nat → Int
 | 0 => 1099511627776
 | 1 => 17179869184
 | 2 => 268435456
 | _ => 4194304
def Gs (s : BA) (at_ : Int) : Nat → Int → Int → Int → Int → Int × Int
 | 0, n, _, _, i => (n, i)
 | r + 1, n, lo, hi, i => if (s.size : Int) ≤ at_ + i then (65533, i) else if bt s (at_ + i) < lo ∨ hi < bt s (at_ + i) then (65533, i) else Gs s at_ r (n * 64 + bt s (at_ + i) % 64) 128 191 (i + 1)
theorem Gs_range (s : BA) (at_ : Int) : ∀ (r : Nat) (n lo hi i : Int), i ≤ (Gs s at_ r n lo hi i).2 ∧ (Gs s at_ r n lo hi i).2 ≤ i + r
 | 0, n, lo, hi, i => by simp [Gs]
 | r + 1, n, lo, hi, i => by
  rw [Gs];split
  ·simp; omega
  ·split
   ·simp; omega
   ·have := Gs_range s at_ r (n * 64 + bt s (at_ + i) % 64) 128 191 (i + 1);omega
theorem impl_Gs (s : BA) (at_ : Int) (ha : 0 ≤ at_) (has : at_ < (s.size : Int)) (hs : s.size ≤ 1048576) : ∀ (r : Nat) (n lo hi i : Int), r ≤ 3 → 0 ≤ n → n < Bd r → 1 ≤ i → i + (r : Int) ≤ 4 → Ev (fun k => impl_getSign.l0 k s at_ (i + r - 1) n lo hi i) (Gs s at_ r n lo hi i) := by
 intro r;induction r with
 | zero =>
  intro n lo hi i hr h0 hn h1 h4;have hw : wrap64 (i + ((0 : Nat) : Int) - 1 + 1) = i := by unfold wrap64; omega
  refine Ev.step (fun k => by simp only [impl_getSign.l0]; rfl) (Ev.ifn om_ ?_);rw [hw];exact Ev.now _
 | succ r ih =>
  intro n lo hi i hr h0 hn h1 h4;have hw : wrap64 (at_ + i) = at_ + i := by unfold wrap64; omega
  have hw2 : wrap64 (i + 1) = i + 1 := by unfold wrap64; omega
  have hb := bt_range s (at_ + i);have hn2 : n ≤ 17179869184 := by
   match r, hr, hn with
   | 0, _, hn => exact Int.le_of_lt hn
   | 1, _, hn => have : n < 268435456 := hn; omega
   | 2, _, hn => have : n < 4194304 := hn; omega
  have hw3 : wrap64 (n * 64) = n * 64 := by unfold wrap64; omega
  have hand : bits .and .u8 (bt s (at_ + i)) 63 = bt s (at_ + i) % 64 := by
   have := (u8and (bt s (at_ + i)).toNat om_).1;rwa [show (((bt s (at_ + i)).toNat : Nat) : Int) = bt s (at_ + i) by omega] at this
  have hw4 : wrap64 (bt s (at_ + i) % 64) = bt s (at_ + i) % 64 := by unfold wrap64; omega
  refine Ev.step (fun k => by simp only [impl_getSign.l0]; rfl) (Ev.ifp om_ ?_);rw [hw, hw2, hw3, hand, hw4, or_add n _ h0 om_ om_ om_, Gs];by_cases c1 : (s.size : Int) ≤ at_ + i
  ·rw [if_pos c1];exact Ev.ifp c1 (Ev.now _)
  rw [if_neg c1];refine Ev.ifn c1 (Ev.ifp om_ (Ev.ifp om_ ?_));by_cases c2 : bt s (at_ + i) < lo
  ·rw [if_pos (Or.inl c2)];exact Ev.ifp c2 (Ev.now _)
  refine Ev.ifn c2 ?_;by_cases c3 : bt s (at_ + i) > hi
  ·rw [if_pos (Or.inr c3)];exact Ev.ifp c3 (Ev.now _)
  rw [if_neg om_];refine Ev.ifn c3 ?_;have := ih (n * 64 + bt s (at_ + i) % 64) 128 191 (i + 1) om_ om_ (by
   match r, hr, hn with
   | 0, _, hn => have : n < 17179869184 := hn; show _ < (1099511627776 : Int); omega
   | 1, _, hn => have : n < 268435456 := hn; show _ < (17179869184 : Int); omega
   | 2, _, hn => have : n < 4194304 := hn; show _ < (268435456 : Int); omega) om_ om_
  rw [show i + 1 + (r : Int) - 1 = i + ((r + 1 : Nat) : Int) - 1 by omega] at this;exact this
theorem spec_Gs2 (s : BA) (at_ a : Int) (ha : 0 ≤ at_) (has : at_ < (s.size : Int)) (hs : s.size ≤ 1048576) : ∀ (r : Nat) (n i : Int), r ≤ 3 → 0 ≤ n → n < Bd r → 2 ≤ i → i + (r : Int) ≤ 4 → Ev (fun k => spec_GetSign.l0 k s at_ a (i + r) n i) (Gs s at_ r n 128 191 i) := by
 intro r;induction r with
 | zero =>
  intro n i hr h0 hn h1 h4;refine Ev.step (fun k => by simp only [spec_GetSign.l0]; rfl) (Ev.ifn om_ ?_);rw [show i + ((0 : Nat) : Int) = i by omega];exact Ev.now _
 | succ r ih =>
  intro n i hr h0 hn h1 h4;have hw : wrap64 (at_ + i) = at_ + i := by unfold wrap64; omega
  have hw2 : wrap64 (i + 1) = i + 1 := by unfold wrap64; omega
  have hb := bt_range s (at_ + i);have hn2 : n ≤ 17179869184 := by
   match r, hr, hn with
   | 0, _, hn => exact Int.le_of_lt hn
   | 1, _, hn => have : n < 268435456 := hn; omega
   | 2, _, hn => have : n < 4194304 := hn; omega
  have hw3 : wrap64 (n * 64) = n * 64 := by unfold wrap64; omega
  have hw4 : wrap64 (bt s (at_ + i)) = bt s (at_ + i) := by unfold wrap64; omega
  have hw5 : wrap64 (n * 64 + bt s (at_ + i) % 64) = n * 64 + bt s (at_ + i) % 64 := by unfold wrap64; omega
  refine Ev.step (fun k => by simp only [spec_GetSign.l0]; rfl) (Ev.ifp om_ ?_);rw [hw, hw2, hw3, hw4, i64_and63, hw5, Gs];by_cases c1 : (s.size : Int) ≤ at_ + i
  ·rw [if_pos c1];exact Ev.ifp c1 (Ev.now _)
  rw [if_neg c1];refine Ev.ifn c1 (Ev.ifn om_ (Ev.ifp om_ (Ev.ifp om_ (Ev.bindc (l1In_f _ _ _) ?_))));by_cases c2 : 128 ≤ bt s (at_ + i) ∧ bt s (at_ + i) ≤ 191
  ·rw [dE_ c2, if_neg om_];refine Ev.ifp rfl ?_;have := ih (n * 64 + bt s (at_ + i) % 64) (i + 1) om_ om_ (by
    match r, hr, hn with
    | 0, _, hn => have : n < 17179869184 := hn; show _ < (1099511627776 : Int); omega
    | 1, _, hn => have : n < 268435456 := hn; show _ < (17179869184 : Int); omega
    | 2, _, hn => have : n < 4194304 := hn; show _ < (268435456 : Int); omega) om_ om_
   rw [show i + 1 + (r : Int) = i + ((r + 1 : Nat) : Int) by omega] at this;exact this
  ·rw [dF_ c2, if_pos om_];exact Ev.ifn si_ (Ev.now _)
def secLo (a : Int) : Int := if a = 224 then 160 else if a = 237 then 128 else if a = 240 then 144 else 128
def secHi (a : Int) : Int := if a = 224 then 191 else if a = 237 then 159 else if a = 240 then 191 else if a = 244 then 143 else 191
theorem second_f (a b : Int) : spec_l1Second.f a b = some (decide (secLo a ≤ b ∧ b ≤ secHi a)) := by
 unfold spec_l1Second.f secLo secHi;by_cases h1 : a = 224
 ·rw [if_pos h1, if_pos h1, if_pos h1, l1In_f]; rfl
 rw [if_neg h1, if_neg h1, if_neg h1];by_cases h2 : a = 237
 ·rw [if_pos h2, if_pos h2, if_pos h2, l1In_f]; rfl
 rw [if_neg h2, if_neg h2, if_neg h2];by_cases h3 : a = 240
 ·rw [if_pos h3, if_pos h3, if_pos h3, l1In_f]; rfl
 rw [if_neg h3, if_neg h3, if_neg h3];by_cases h4 : a = 244
 ·rw [if_pos h4, if_pos h4, l1In_f]; rfl
 rw [if_neg h4, if_neg h4, l1In_f]; rfl
theorem sec_in (a b : Int) (h : secLo a ≤ b ∧ b ≤ secHi a) : 128 ≤ b ∧ b ≤ 191 := by
 unfold secLo secHi at h;split at h
 ·omega
 ·split at h
  ·omega
  ·split at h
   ·omega
   ·split at h <;> omega
theorem spec_Gs1 (s : BA) (at_ a : Int) (ha : 0 ≤ at_) (has : at_ < (s.size : Int)) (hs : s.size ≤ 1048576) (r : Nat) (n : Int) (hr : r + 1 ≤ 3) (h0 : 0 ≤ n) (hn : n < Bd (r + 1)) :
  Ev (fun k => spec_GetSign.l0 k s at_ a ((r : Int) + 2) n 1) (Gs s at_ (r + 1) n (secLo a) (secHi a) 1) := by
 have hw : wrap64 (at_ + 1) = at_ + 1 := by unfold wrap64; omega
 have hw2 : wrap64 (1 + 1) = 2 := by unfold wrap64; omega
 have hb := bt_range s (at_ + 1);have hn2 : n ≤ 17179869184 := by
  match r, hr, hn with
  | 0, _, hn => exact Int.le_of_lt hn
  | 1, _, hn => have : n < 268435456 := hn; omega
  | 2, _, hn => have : n < 4194304 := hn; omega
 have hw3 : wrap64 (n * 64) = n * 64 := by unfold wrap64; omega
 have hw4 : wrap64 (bt s (at_ + 1)) = bt s (at_ + 1) := by unfold wrap64; omega
 have hw5 : wrap64 (n * 64 + bt s (at_ + 1) % 64) = n * 64 + bt s (at_ + 1) % 64 := by unfold wrap64; omega
 refine Ev.step (fun k => by rw [spec_GetSign.l0]) (Ev.ifp om_ ?_);rw [hw, hw2, hw3, hw4, i64_and63, hw5, Gs];by_cases c1 : (s.size : Int) ≤ at_ + 1
 ·rw [if_pos c1];exact Ev.ifp c1 (Ev.now _)
 rw [if_neg c1];refine Ev.ifn c1 (Ev.ifp rfl (Ev.ifp om_ (Ev.ifp om_ (Ev.bindc (second_f _ _) ?_))));by_cases c2 : secLo a ≤ bt s (at_ + 1) ∧ bt s (at_ + 1) ≤ secHi a
 ·rw [dE_ c2, if_neg om_];refine Ev.ifp rfl (Ev.ifp om_ (Ev.ifp om_ (Ev.bindc (l1In_f _ _ _) ?_)));rw [dE_ (sec_in a _ c2)];refine Ev.ifp rfl ?_;have := spec_Gs2 s at_ a ha has hs r (n * 64 + bt s (at_ + 1) % 64) 2 om_ om_ (by
   match r, hr, hn with
   | 0, _, hn => have : n < 17179869184 := hn; show _ < (1099511627776 : Int); omega
   | 1, _, hn => have : n < 268435456 := hn; show _ < (17179869184 : Int); omega
   | 2, _, hn => have : n < 4194304 := hn; show _ < (268435456 : Int); omega) om_ om_
  rw [show (2 : Int) + (r : Int) = (r : Int) + 2 by omega] at this;exact this
 ·rw [dF_ c2, if_pos om_];exact Ev.ifn si_ (Ev.now _)
theorem Gs_end (s : BA) (at_ : Int) : ∀ (r : Nat) (n lo hi i : Int), at_ + i ≤ s.size → at_ + (Gs s at_ r n lo hi i).2 ≤ s.size
 | 0, n, lo, hi, i, h => by simpa [Gs] using h
 | r + 1, n, lo, hi, i, h => by
  rw [Gs];split
  ·exact h
  ·split
   ·exact h
   ·exact Gs_end s at_ r _ _ _ _ om_
theorem Gs_nn (s : BA) (at_ : Int) : ∀ (r : Nat) (n lo hi i : Int), 0 ≤ n → 0 ≤ (Gs s at_ r n lo hi i).1
 | 0, n, lo, hi, i, h => by simpa [Gs] using h
 | r + 1, n, lo, hi, i, h => by
  have hb := bt_range s (at_ + i);rw [Gs];split
  ·simp
  ·split
   ·simp
   ·exact Gs_nn s at_ r _ _ _ _ om_
theorem sign_both (s : BA) (hs : s.size ≤ 1048576) (at_ : Int) (ha : 0 ≤ at_) (has : at_ < (s.size : Int)) : ∃ q : Int × Int, 1 ≤ q.2 ∧ q.2 ≤ 4 ∧ (at_ + q.2 ≤ s.size ∧ 0 ≤ q.1 ∧ (bt s at_ < 128 → q = (bt s at_, 1))) ∧ Ev (fun k => spec_GetSign.f k s at_) q ∧ Ev (fun k => impl_getSign.f k s at_) q := by
 have hb := bt_range s at_;have hwb : wrap64 (bt s at_) = bt s at_ := by unfold wrap64; omega
 have hN : (((bt s at_).toNat : Nat) : Int) = bt s at_ := om_;have hand := u8and (bt s at_).toNat om_;have hand2 := i64and (bt s at_).toNat om_;rw [hN] at hand hand2;have spec0 : ∀ q, Ev (fun k => (spec_l1Many.f (bt s at_)).bind fun t => (if t < 2 then (if t = 1 then (some (bt s at_, (1 : Int))) else (some (65533, 1))) else (if 0 ≤ t then (spec_GetSign.l0 k s at_ (bt s at_) t (Go.bits .and .i64 (bt s at_) (shr .i64 127 t)) 1) else (none)))) q → Ev (fun k => spec_GetSign.f k s at_) q := by
  intro q h;unfold spec_GetSign.f;refine Ev.ifn om_ ?_;rw [dF_ om_];refine Ev.step (fun k => by simp only [spec_GetSign.j0]; rfl) (Ev.ifn si_ (Ev.ifp ha (Ev.ifp has ?_)));rw [hwb];exact h
 have impl0 : ∀ q, Ev (fun k => (impl_beginning.f k (bt s at_)).bind fun g => (if g.1 < 0 then (some (65533, 1)) else (impl_getSign.l0 k s at_ g.1 g.2.1 g.2.2.1 g.2.2.2 1))) q → Ev (fun k => impl_getSign.f k s at_) q := by
  intro q h;unfold impl_getSign.f;exact Ev.ifp ha (Ev.ifp has h)
 have bj : ∀ {g : Int × Int × Int × Int}, bt s at_ ≥ 194 → bt s at_ ≤ 244 → Ev (fun k => (if bt s at_ < 224 then (some ((1 : Int), wrap64 (Go.bits .and .u8 (bt s at_) 31), (128 : Int), (191 : Int))) else (if bt s at_ = 224 then (some (2, 0, 160, 191)) else (if bt s at_ = 237 then (some (2, 13, 128, 159)) else (if bt s at_ < 240 then (some (2, wrap64 (Go.bits .and .u8 (bt s at_) 15), 128, 191)) else (if bt s at_ = 240 then (some (3, 0, 144, 191)) else (if bt s at_ = 244 then (some (3, 4, 128, 143)) else (some (3, wrap64 (Go.bits .and .u8 (bt s at_) 7), 128, 191))))))))) g → Ev (fun k => impl_beginning.f k (bt s at_)) g := by
  intro g h1 h2 h;unfold impl_beginning.f;refine Ev.ifn om_ (Ev.ifn om_ ?_);rw [dF_ om_];refine Ev.step (fun k => by simp only [impl_beginning.j0]; rfl) (Ev.ifn si_ h)
 by_cases c1 : bt s at_ < 128
 ·refine ⟨(bt s at_, 1), by simp, by simp, ⟨by show at_ + 1 ≤ _; omega, hb.1, fun _ => rfl⟩, spec0 _ ?_, impl0 _ ?_⟩
  ·refine Ev.bindc (a := 1) (by unfold spec_l1Many.f; rw [if_pos c1]) (Ev.ifp om_ (Ev.ifp rfl (Ev.now _)))
  ·refine Ev.bind (a := (0, bt s at_, 0, 0)) (by unfold impl_beginning.f; rw [hwb]; exact Ev.ifp c1 (Ev.now _)) (Ev.ifn si_ ?_);have := impl_Gs s at_ ha has hs 0 (bt s at_) 0 0 1 om_ hb.1 (by show _ < (1099511627776 : Int); omega) om_ om_;simpa [Gs] using this
 by_cases c2 : bt s at_ < 194 ∨ bt s at_ > 244
 ·refine ⟨(65533, 1), by simp, by simp, ⟨by show at_ + 1 ≤ _; omega, by simp, fun h => absurd h c1⟩, spec0 _ ?_, impl0 _ ?_⟩
  ·refine Ev.bindc (a := 0) ?_ (Ev.ifp om_ (Ev.ifn om_ (Ev.now _)));unfold spec_l1Many.f;rw [if_neg c1, l1In_f, dF_ om_, l1In_f, dF_ om_, l1In_f, dF_ om_];rfl
  ·refine Ev.bind (a := (-1, 0, 0, 0)) ?_ (Ev.ifp si_ (Ev.now _));unfold impl_beginning.f;refine Ev.ifn c1 ?_;have hj : Ev (fun k => impl_beginning.j0 k (bt s at_) true) (-1, 0, 0, 0) := Ev.step (f := fun _ => some (-1, 0, 0, 0)) (fun k => by simp [impl_beginning.j0]) (Ev.now _);by_cases c3 : bt s at_ < 194
   ·exact Ev.ifp c3 hj
   ·refine Ev.ifn c3 ?_;rw [dE_ om_];exact hj
 have many : ∀ (r : Nat) (n0 : Int), spec_l1Many.f (bt s at_) = some ((r : Int) + 2) → bits .and .i64 (bt s at_) (shr .i64 127 ((r : Int) + 2)) = n0 → r + 1 ≤ 3 → 0 ≤ n0 → n0 < 4194304 → Ev (fun k => impl_beginning.f k (bt s at_)) ((r : Int) + 1, n0, secLo (bt s at_), secHi (bt s at_)) →
   ∃ q : Int × Int, 1 ≤ q.2 ∧ q.2 ≤ 4 ∧ (at_ + q.2 ≤ s.size ∧ 0 ≤ q.1 ∧ (bt s at_ < 128 → q = (bt s at_, 1))) ∧ Ev (fun k => spec_GetSign.f k s at_) q ∧ Ev (fun k => impl_getSign.f k s at_) q := by
  intro r n0 hm hn hr h0 hB hbg;have hBd : n0 < Bd (r + 1) := by
   match r, hr with
   | 0, _ => show _ < (17179869184 : Int); omega
   | 1, _ => show _ < (268435456 : Int); omega
   | 2, _ => exact hB
  have hR := Gs_range s at_ (r + 1) n0 (secLo (bt s at_)) (secHi (bt s at_)) 1;refine ⟨Gs s at_ (r + 1) n0 (secLo (bt s at_)) (secHi (bt s at_)) 1, hR.1, om_, ⟨Gs_end s at_ _ _ _ _ _ om_, Gs_nn s at_ _ _ _ _ _ h0, fun h => absurd h c1⟩, spec0 _ ?_, impl0 _ ?_⟩
  ·refine Ev.bindc hm (Ev.ifn om_ (Ev.ifp om_ ?_));rw [hn];exact spec_Gs1 s at_ _ ha has hs r n0 hr h0 hBd
  ·refine Ev.bind hbg (Ev.ifn (by show ¬ ((r : Int) + 1 < 0); omega) ?_);have := impl_Gs s at_ ha has hs (r + 1) n0 (secLo (bt s at_)) (secHi (bt s at_)) 1 hr h0 hBd om_ om_;rw [show (1 : Int) + ((r + 1 : Nat) : Int) - 1 = (r : Int) + 1 by omega] at this;exact this
 have wr : ∀ m : Int, 0 ≤ m → m < 256 → wrap64 m = m := by intro m h0 h1; unfold wrap64; omega
 by_cases c3 : bt s at_ < 224
 ·refine many 0 (bt s at_ % 32) ?_ ?_ om_ om_ om_ (bj om_ om_ ?_)
  ·unfold spec_l1Many.f;rw [if_neg c1, l1In_f, dE_ om_];rfl
  ·rw [show shr .i64 127 (((0 : Nat) : Int) + 2) = 31 by decide]; exact hand2.1
  ·rw [hand.2.1, wr _ om_ om_];refine Ev.ifp c3 ?_;rw [show secLo (bt s at_) = 128 by unfold secLo; rw [if_neg om_, if_neg om_, if_neg om_], show secHi (bt s at_) = 191 by unfold secHi; rw [if_neg om_, if_neg om_, if_neg om_, if_neg om_]];exact Ev.now _
 by_cases c4 : bt s at_ < 240
 ·refine many 1 (bt s at_ % 16) ?_ ?_ om_ om_ om_ (bj om_ om_ ?_)
  ·unfold spec_l1Many.f;rw [if_neg c1, l1In_f, dF_ om_, l1In_f, dE_ om_];rfl
  ·rw [show shr .i64 127 (((1 : Nat) : Int) + 2) = 15 by decide]; exact hand2.2.1
  ·rw [hand.2.2.1, wr (bt s at_ % 16) om_ om_];refine Ev.ifn c3 ?_;by_cases d1 : bt s at_ = 224
   ·refine Ev.ifp d1 ?_;rw [d1];exact Ev.now _
   refine Ev.ifn d1 ?_;by_cases d2 : bt s at_ = 237
   ·refine Ev.ifp d2 ?_;rw [d2];exact Ev.now _
   refine Ev.ifn d2 (Ev.ifp c4 ?_);rw [show secLo (bt s at_) = 128 by unfold secLo; rw [if_neg om_, if_neg om_, if_neg om_], show secHi (bt s at_) = 191 by unfold secHi; rw [if_neg om_, if_neg om_, if_neg om_, if_neg om_]];exact Ev.now _
 ·refine many 2 (bt s at_ % 8) ?_ ?_ om_ om_ om_ (bj om_ om_ ?_)
  ·unfold spec_l1Many.f;rw [if_neg c1, l1In_f, dF_ om_, l1In_f, dF_ om_, l1In_f, dE_ om_];rfl
  ·rw [show shr .i64 127 (((2 : Nat) : Int) + 2) = 7 by decide]; exact hand2.2.2
  ·rw [hand.2.2.2, wr (bt s at_ % 8) om_ om_];refine Ev.ifn c3 (Ev.ifn om_ (Ev.ifn om_ (Ev.ifn c4 ?_)));by_cases d1 : bt s at_ = 240
   ·refine Ev.ifp d1 ?_;rw [d1];exact Ev.now _
   refine Ev.ifn d1 ?_;by_cases d2 : bt s at_ = 244
   ·refine Ev.ifp d2 ?_;rw [d2];exact Ev.now _
   refine Ev.ifn d2 ?_;rw [show secLo (bt s at_) = 128 by unfold secLo; rw [if_neg om_, if_neg om_, if_neg om_], show secHi (bt s at_) = 191 by unfold secHi; rw [if_neg om_, if_neg om_, if_neg om_, if_neg om_]];exact Ev.now _
theorem clean_both (s : BA) (hs : s.size ≤ 1048576) (i : Int) (h0 : 0 ≤ i) (h1 : i < (s.size : Int)) : ∃ q : Int × Int, 1 ≤ q.2 ∧ q.2 ≤ 4 ∧ (i + q.2 ≤ s.size ∧ 0 ≤ q.1 ∧ (bt s i < 128 → q = (bt s i, 1))) ∧ Ev (fun k => spec_GetSign.f k s i) q ∧
  Ev (fun k => impl_cleanSign.f k s i) (if (putF q.1).toList = (s.extract i.toNat (i + q.2).toNat).toList then q else (-1, 0)) := by
 obtain ⟨q, q1, q4, ⟨qe, qn, qa⟩, e1, e2⟩ := sign_both s hs i h0 h1;have hw : wrap64 (i + q.2) = i + q.2 := by unfold wrap64; omega
 refine ⟨q, q1, q4, ⟨qe, qn, qa⟩, e1, ?_⟩;unfold impl_cleanSign.f;refine Ev.ifn om_ (Ev.bind e2 (Ev.bind (Ev.up 1 (fun k => implPut_f k q.1)) (Ev.ifp h0 ?_)));rw [hw];refine Ev.ifp om_ (Ev.ifp om_ ?_);by_cases c : (putF q.1).toList = (s.extract i.toNat (i + q.2).toNat).toList
 ·simp only [if_pos c]; exact Ev.now _
 ·simp only [if_neg c]; exact Ev.now _
theorem clean_end (s : BA) (k : Nat) : impl_cleanSign.f k s s.size = some (-1, 0) := by
 unfold impl_cleanSign.f;rw [if_pos (Int.le_refl _)]
def letF (c : Int) : Bool := decide (97 ≤ c ∧ c ≤ 122) || decide (65 ≤ c ∧ c ≤ 90)
theorem implLetter_f (c : Int) : impl_IsLetter.f c = some (letF c) := by
 unfold impl_IsLetter.f letF;rw [inRange_f, inRange_f];simp only [Option.bind_some];by_cases h : decide (97 ≤ c ∧ c ≤ 122) = true
 ·rw [if_pos h, h]; rfl
 ·rw [if_neg h, bF_ h]; rfl
theorem specLetter_f (c : Int) : spec_IsLetter.f c = some (letF c) := by
 unfold spec_IsLetter.f letF;rw [l1In_f, l1In_f];simp only [Option.bind_some];by_cases h : decide (97 ≤ c ∧ c ≤ 122) = true
 ·rw [if_pos h, h]; rfl
 ·rw [if_neg h, bF_ h]; rfl
def flatP : List (Int × Int) → List Int
 | [] => []
 | p :: r => p.1 :: p.2 :: flatP r
theorem flatP_length : ∀ ps : List (Int × Int), (flatP ps).length = 2 * ps.length
 | [] => rfl
 | p :: r => by rw [flatP, List.length_cons, List.length_cons, flatP_length r, List.length_cons]; omega
theorem flatP_drop : ∀ (ps : List (Int × Int)) (j : Nat), (flatP ps).drop (2 * j) = flatP (ps.drop j)
 | ps, 0 => rfl
 | [], j + 1 => by simp [flatP]
 | p :: r, j + 1 => by
  rw [show 2 * (j + 1) = (2 * j + 1) + 1 by omega, flatP, List.drop_succ_cons, List.drop_succ_cons, flatP_drop r j];rfl
theorem within_l (n : Int) (ps : List (Int × Int)) (hl : ps.length ≤ 100) : ∀ (d j : Nat), ps.length - j = d → j ≤ ps.length → Ev (fun k => spec_l2Within.l0 k (flatP ps) n (2 * (j : Int))) (inSp n (ps.drop j)) := by
 intro d;induction d with
 | zero =>
  intro j hd hj;have hw : wrap64 (2 * (j : Int) + 1) = 2 * (j : Int) + 1 := by unfold wrap64; omega
  refine Ev.step (fun k => by simp only [spec_l2Within.l0]; rfl) ?_;rw [hw, flatP_length, List.drop_of_length_le om_];exact Ev.ifn om_ (Ev.now _)
 | succ d ih =>
  intro j hd hj;have hlt : j < ps.length := om_;have hw : wrap64 (2 * (j : Int) + 1) = 2 * (j : Int) + 1 := by unfold wrap64; omega
  have hw2 : wrap64 (2 * (j : Int) + 2) = 2 * ((j + 1 : Nat) : Int) := by unfold wrap64; omega
  have hdr := flatP_drop ps j;rw [List.drop_eq_getElem_cons hlt, flatP] at hdr;have hfl := flatP_length ps;have g0 : (flatP ps)[2 * j]'om_ = (ps[j]).1 := by
   have := congrArg (fun l => l[0]?) hdr;simp only [List.getElem?_drop, Nat.add_zero, List.getElem?_cons_zero] at this;exact (List.getElem?_eq_some_iff.1 this).2
  have g1 : (flatP ps)[2 * j + 1]'om_ = (ps[j]).2 := by
   have := congrArg (fun l => l[1]?) hdr;simp only [List.getElem?_drop, List.getElem?_cons_succ, List.getElem?_cons_zero] at this;exact (List.getElem?_eq_some_iff.1 this).2
  have r0 : rd (flatP ps) (2 * (j : Int)) = (ps[j]).1 := by
   rw [← g0];unfold rd;rw [show (2 * (j : Int)).toNat = 2 * j by omega];simp [show 2 * j < (flatP ps).length by omega]
  have r1 : rd (flatP ps) (2 * (j : Int) + 1) = (ps[j]).2 := by
   rw [← g1];unfold rd;rw [show (2 * (j : Int) + 1).toNat = 2 * j + 1 by omega];simp [show 2 * j + 1 < (flatP ps).length by omega]
  refine Ev.step (fun k => by simp only [spec_l2Within.l0]; rfl) ?_;rw [hw, hw2, r0, r1, hfl, List.drop_eq_getElem_cons hlt, inSp];refine Ev.ifp om_ (Ev.ifp om_ (Ev.ifp om_ (Ev.ifp om_ (Ev.bindc (l1In_f _ _ _) ?_))));by_cases c : (ps[j]).1 ≤ n ∧ n ≤ (ps[j]).2
  ·rw [dE_ c, dE_ c.1, dE_ c.2];exact Ev.ifp rfl (Ev.now _)
  ·rw [dF_ c];have e0 : (decide ((ps[j]).1 ≤ n) && decide (n ≤ (ps[j]).2)) = false := by
    rw [Bool.and_eq_false_iff];by_cases c1 : (ps[j]).1 ≤ n
    ·exact Or.inr (dF_ (fun h => c ⟨c1, h⟩))
    ·exact Or.inl (dF_ c1)
   rw [e0, Bool.false_or];exact Ev.ifn si_ (ih (j + 1) om_ om_)
theorem ev_within (n : Int) (ps : List (Int × Int)) (hl : ps.length ≤ 100) : Ev (fun k => spec_l2Within.f k (flatP ps) n) (inSp n ps) := within_l n ps hl ps.length 0 om_ om_
def firstF (n : Int) : Bool := if letF n = true then true else if n = 95 then true else inSp n firstSp
theorem implFirst_f (n : Int) : impl_IsFirst.f n = some (firstF n) := by
 unfold impl_IsFirst.f firstF;rw [implLetter_f, Option.bind_some];split
 ·rfl
 ·split <;> rfl
theorem ev_specFirst (n : Int) : Ev (fun k => spec_IsFirst.f k n) (firstF n) := by
 unfold spec_IsFirst.f firstF;refine Ev.bindc (specLetter_f n) ?_;by_cases c1 : letF n = true
 ·rw [if_pos c1]; exact Ev.ifp c1 (Ev.now _)
 rw [if_neg c1];refine Ev.ifn c1 ?_;by_cases c2 : n = 95
 ·rw [if_pos c2]; exact Ev.ifp c2 (Ev.now _)
 rw [if_neg c2];exact Ev.ifn c2 (Ev.bind (ev_within n firstSp de_) (Ev.now _))
def nextF (n : Int) : Bool := if firstF n = true then true else inSp n nextSp
theorem implNext_f (n : Int) : impl_IsNext.f n = some (nextF n) := by
 unfold impl_IsNext.f nextF;rw [implFirst_f, Option.bind_some];split <;> rfl
theorem ev_specNext (n : Int) : Ev (fun k => spec_IsNext.f k n) (nextF n) := by
 unfold spec_IsNext.f nextF;refine Ev.bind (ev_specFirst n) ?_;by_cases c1 : firstF n = true
 ·rw [if_pos c1]; exact Ev.ifp c1 (Ev.now _)
 rw [if_neg c1];refine Ev.ifn c1 ?_;by_cases c2 : n = 45
 ·subst c2; exact Ev.ifp rfl (Ev.now _)
 refine Ev.ifn c2 ?_;by_cases c3 : n = 46
 ·subst c3; exact Ev.ifp rfl (Ev.now _)
 refine Ev.ifn c3 ?_;by_cases c4 : n = 183
 ·subst c4; exact Ev.ifp rfl (Ev.now _)
 refine Ev.ifn c4 (Ev.bind (ev_within n [(48, 57), (768, 879), (8255, 8256)] de_) ?_);have e : inSp n nextSp = inSp n [(48, 57), (768, 879), (8255, 8256)] := by
  have e1 : (decide ((45 : Int) ≤ n) && decide (n ≤ 46)) = false := by
   rw [Bool.and_eq_false_iff];by_cases c : (45 : Int) ≤ n
   ·exact Or.inr (dF_ om_)
   ·exact Or.inl (dF_ c)
  have e2 : (decide ((183 : Int) ≤ n) && decide (n ≤ 183)) = false := by
   rw [Bool.and_eq_false_iff];by_cases c : (183 : Int) ≤ n
   ·exact Or.inr (dF_ om_)
   ·exact Or.inl (dF_ c)
  simp only [inSp, e1, e2, Bool.false_or]
 rw [e];exact Ev.now _
theorem name_l (s : BA) (hs : s.size ≤ 1048576) (a : Int) (a0 : 0 ≤ a) : ∀ (d : Nat) (i : Int), ((s.size : Int) - i).toNat ≤ d → a ≤ i → i ≤ s.size →
  ∃ e : Int, i ≤ e ∧ e ≤ s.size ∧ Ev (fun k => spec_XmlName.l0 k s a i) (s.extract a.toNat e.toNat, e) ∧ Ev (fun k => impl_XmlName.l0 k s a i) (s.extract a.toNat e.toNat, e) := by
 intro d;induction d with
 | zero =>
  intro i hd hai hi;obtain rfl : i = (s.size : Int) := om_;refine ⟨s.size, Int.le_refl _, Int.le_refl _, ?_, ?_⟩
  ·refine Ev.step (fun k => by simp only [spec_XmlName.l0]; rfl) (Ev.ifn om_ ?_);exact Ev.ifp a0 (Ev.ifp hai (Ev.ifp hi (Ev.now _)))
  ·refine Ev.step (fun k => by simp only [impl_XmlName.l0]; rfl) (Ev.bind (Ev.up 0 (fun k => clean_end s k)) ?_);exact Ev.ifp (show (-1 : Int) < 0 by decide) (Ev.ifp a0 (Ev.ifp hai (Ev.ifp hi (Ev.now _))))
 | succ d ih =>
  intro i hd hai hi;by_cases c0 : i = (s.size : Int)
  ·exact ih i om_ hai hi
  have hlt : i < (s.size : Int) := om_;obtain ⟨q, q1, q4, ⟨qe, qn, qa⟩, e1, e2⟩ := clean_both s hs i om_ hlt;have hw : wrap64 (i + q.2) = i + q.2 := by unfold wrap64; omega
  have fin1 : ∀ {g : Nat → Option (ByteArray × Int)}, True → Ev (fun k => if 0 ≤ a then (if a ≤ i then (if i ≤ (s.size : Int) then some (s.extract a.toNat i.toNat, i) else none) else none) else none) (s.extract a.toNat i.toNat, i) := fun _ => Ev.ifp a0 (Ev.ifp hai (Ev.ifp hi (Ev.now _)))
  by_cases cc : (putF q.1).toList = (s.extract i.toNat (i + q.2).toNat).toList
  ·rw [if_pos cc] at e2;by_cases cf : (i = a ∧ firstF q.1 = false) ∨ nextF q.1 = false
   ·refine ⟨i, Int.le_refl _, hi, ?_, ?_⟩
    ·refine Ev.step (fun k => by simp only [spec_XmlName.l0]; rfl) (Ev.ifp hlt (Ev.bind e1 ?_));by_cases ca : i = a
     ·refine Ev.ifp ca (Ev.bind (ev_specFirst q.1) ?_);by_cases cq : firstF q.1 = true
      ·refine Ev.ifp cq (Ev.bind (ev_specNext q.1) (Ev.ifn (by rcases cf with h | h; exact absurd cq (by rw [h.2]; simp); rw [h]; simp) (fin1 (g := fun _ => none) trivial)))
      ·exact Ev.ifn cq (fin1 (g := fun _ => none) trivial)
     ·refine Ev.ifn ca (Ev.bind (ev_specNext q.1) (Ev.ifn (by rcases cf with h | h; exact absurd h.1 ca; rw [h]; simp) (fin1 (g := fun _ => none) trivial)))
    ·refine Ev.step (fun k => by simp only [impl_XmlName.l0]; rfl) (Ev.bind e2 ?_);refine Ev.ifn om_ ?_;by_cases ca : i = a
     ·refine Ev.ifp ca (Ev.bindc (implFirst_f q.1) ?_);by_cases cq : firstF q.1 = true
      ·refine Ev.ifp cq (Ev.bindc (implNext_f q.1) (Ev.ifn (by rcases cf with h | h; exact absurd cq (by rw [h.2]; simp); rw [h]; simp) (fin1 (g := fun _ => none) trivial)))
      ·exact Ev.ifn cq (fin1 (g := fun _ => none) trivial)
     ·refine Ev.ifn ca (Ev.bindc (implNext_f q.1) (Ev.ifn (by rcases cf with h | h; exact absurd h.1 ca; rw [h]; simp) (fin1 (g := fun _ => none) trivial)))
   ·obtain ⟨e, h1, h2, h3, h4⟩ := ih (i + q.2) om_ om_ om_;have cn : nextF q.1 = true := by
     cases h : nextF q.1 with
     | true => rfl
     | false => exact absurd (Or.inr h) cf
    have cq : i = a → firstF q.1 = true := fun hia => by
     cases h : firstF q.1 with
     | true => rfl
     | false => exact absurd (Or.inl ⟨hia, h⟩) cf
    refine ⟨e, om_, h2, ?_, ?_⟩
    ·refine Ev.step (fun k => by simp only [spec_XmlName.l0]; rfl) (Ev.ifp hlt (Ev.bind e1 ?_));rw [hw];by_cases ca : i = a
     ·exact Ev.ifp ca (Ev.bind (ev_specFirst q.1) (Ev.ifp (cq ca) (Ev.bind (ev_specNext q.1) (Ev.ifp cn (Ev.bind (Ev.up 1 (fun k => specPut_f k q.1)) (Ev.ifp om_ (Ev.ifp om_ (Ev.ifp qe (Ev.ifp cc h3)))))))))
     ·exact Ev.ifn ca (Ev.bind (ev_specNext q.1) (Ev.ifp cn (Ev.bind (Ev.up 1 (fun k => specPut_f k q.1)) (Ev.ifp om_ (Ev.ifp om_ (Ev.ifp qe (Ev.ifp cc h3)))))))
    ·refine Ev.step (fun k => by simp only [impl_XmlName.l0]; rfl) (Ev.bind e2 ?_);refine Ev.ifn om_ ?_;rw [hw];by_cases ca : i = a
     ·exact Ev.ifp ca (Ev.bindc (implFirst_f q.1) (Ev.ifp (cq ca) (Ev.bindc (implNext_f q.1) (Ev.ifp cn h4))))
     ·exact Ev.ifn ca (Ev.bindc (implNext_f q.1) (Ev.ifp cn h4))
  ·rw [if_neg cc] at e2;refine ⟨i, Int.le_refl _, hi, ?_, ?_⟩
   ·refine Ev.step (fun k => by simp only [spec_XmlName.l0]; rfl) (Ev.ifp hlt (Ev.bind e1 ?_));rw [hw];have put : Ev (fun k => (spec_PutSign.f k q.1).bind fun t => (if 0 ≤ i then (if i ≤ i + q.2 then (if i + q.2 ≤ (s.size : Int) then (if t.toList = (s.extract i.toNat (i + q.2).toNat).toList then (spec_XmlName.l0 k s a (i + q.2)) else (if 0 ≤ a then (if a ≤ i then (if i ≤ (s.size : Int) then (some (s.extract a.toNat i.toNat, i)) else (none)) else (none)) else (none))) else (none)) else (none)) else (none))) (s.extract a.toNat i.toNat, i) :=
     Ev.bind (Ev.up 1 (fun k => specPut_f k q.1)) (Ev.ifp om_ (Ev.ifp om_ (Ev.ifp qe (Ev.ifn cc (fin1 (g := fun _ => none) trivial)))))
    have nx : Ev (fun k => (spec_IsNext.f k q.1).bind fun t => (if t = true then ((spec_PutSign.f k q.1).bind fun t => (if 0 ≤ i then (if i ≤ i + q.2 then (if i + q.2 ≤ (s.size : Int) then (if t.toList = (s.extract i.toNat (i + q.2).toNat).toList then (spec_XmlName.l0 k s a (i + q.2)) else (if 0 ≤ a then (if a ≤ i then (if i ≤ (s.size : Int) then (some (s.extract a.toNat i.toNat, i)) else (none)) else (none)) else (none))) else (none)) else (none)) else (none))) else (if 0 ≤ a then (if a ≤ i then (if i ≤ (s.size : Int) then (some (s.extract a.toNat i.toNat, i)) else (none)) else (none)) else (none)))) (s.extract a.toNat i.toNat, i) := by
     refine Ev.bind (ev_specNext q.1) ?_;by_cases cn : nextF q.1 = true
     ·exact Ev.ifp cn put
     ·exact Ev.ifn cn (fin1 (g := fun _ => none) trivial)
    by_cases ca : i = a
    ·refine Ev.ifp ca (Ev.bind (ev_specFirst q.1) ?_);by_cases cq : firstF q.1 = true
     ·exact Ev.ifp cq nx
     ·exact Ev.ifn cq (fin1 (g := fun _ => none) trivial)
    ·exact Ev.ifn ca nx
   ·refine Ev.step (fun k => by simp only [impl_XmlName.l0]; rfl) (Ev.bind e2 ?_);refine Ev.ifp (show (-1 : Int) < 0 by decide) ?_;exact fin1 (g := fun _ => none) trivial
theorem name_more (s : BA) (hs : s.size ≤ 1048576) (a : Int) (h0 : 0 ≤ a) (ha : a ≤ s.size) : ∃ q : ByteArray × Int, Ev (fun k => spec_XmlName.f k s a) q ∧ Ev (fun k => impl_XmlName.f k s a) q ∧ a ≤ q.2 ∧ q.2 ≤ s.size ∧ (q.1.size : Int) ≤ q.2 - a ∧ (q.1.toList ≠ [] → a < q.2) := by
 have hw : wrap64 ((s.size : Int) - 1) = (s.size : Int) - 1 := by unfold wrap64; omega
 have spec0 : ∀ {q : ByteArray × Int}, Ev (fun k => spec_XmlName.l0 k s a a) q → Ev (fun k => spec_XmlName.f k s a) q := fun h => by
  unfold spec_XmlName.f;refine Ev.ifn om_ ?_;rw [dF_ (show ¬ a > (s.size : Int) by omega)];refine Ev.step (fun k => by simp only [spec_XmlName.j0]; rfl) ?_;exact Ev.ifn si_ h
 obtain ⟨e, h1, h2, h3, h4⟩ := name_l s hs a h0 _ a (Nat.le_refl _) (Int.le_refl _) ha;have hz : (s.extract a.toNat e.toNat).size = e.toNat - a.toNat := by rw [ByteArray.size_extract]; omega
 have hne : (s.extract a.toNat e.toNat).toList ≠ [] → a < e := fun hne => by
  rcases Int.lt_or_le a e with h9 | h9
  ·exact h9
  ·exact absurd (by rw [Lib.toList_data]; exact List.eq_nil_of_length_eq_zero (by rw [← Lib.size_eq]; omega)) hne
 refine ⟨(s.extract a.toNat e.toNat, e), spec0 h3, ?_, h1, h2, by show ((s.extract _ _).size : Int) ≤ e - a; omega, hne⟩;by_cases c3 : a = (s.size : Int)
 ·have he : e = a := om_;unfold impl_XmlName.f;rw [hw];refine Ev.bindc (inRange_f _ _ _) ?_;rw [dF_ (show ¬ (0 ≤ a ∧ a ≤ (s.size : Int) - 1) by omega)];refine Ev.ifn si_ ?_;have e0 : s.extract a.toNat e.toNat = (⟨#[]⟩ : BA) := by
   rw [he];apply ByteArray.ext
   simp
  rw [e0, he];exact Ev.now _
 ·unfold impl_XmlName.f;rw [hw];refine Ev.bindc (inRange_f _ _ _) ?_;rw [dE_ (show 0 ≤ a ∧ a ≤ (s.size : Int) - 1 by omega)];exact Ev.ifp rfl h4
def isT (n : Int) : Bool := if n = 9 then true else if n = 10 then true else if n = 13 then true else if signOk n = true then (if n ≥ 32 then (if n = 65534 then false else n != 65535) else false) else false
theorem implIsT (n : Int) : impl_IsText.f n = some (isT n) := by
 unfold impl_IsText.f isT;rw [implSignOk_f, Option.bind_some];repeat' split
 all_goals rfl
theorem specIsT (n : Int) : spec_IsText.f n = some (isT n) := by
 rw [← implIsT];unfold spec_IsText.f impl_IsText.f;rw [specSignOk_f, implSignOk_f]
theorem isT_nn {n : Int} (h : isT n = true) : 0 < n := by
 unfold isT at h;split at h
 ·omega
 ·split at h
  ·omega
  ·split at h
   ·omega
   ·split at h
    ·split at h
     ·omega
     ·cases h
    ·cases h
theorem digitVal_some {b : UInt8} {d : Nat} (h : Lib.digitVal b = some d) : 48 ≤ b.toNat ∧ b.toNat ≤ 57 ∧ d = b.toNat - 48 := by
 unfold Lib.digitVal at h;split at h
 ·rename_i hh; cases h; exact ⟨hh.1, hh.2, rfl⟩
 ·cases h
theorem decDigits_ok : ∀ (n : Nat), 0 < n → Lib.decFrom 0 (Lib.decDigits n) = some n ∧ (Lib.decDigits n)[0]? ≠ some 48 ∧ Lib.decDigits n ≠ [] := by
 intro n;induction n using Nat.strongRecOn with
 | _ n ih =>
  intro hn;rw [Lib.decDigits];split
  ·rename_i h10
   have hv : Lib.digitVal (UInt8.ofNat (48 + n)) = some n := by
    have : (UInt8.ofNat (48 + n)).toNat = 48 + n := by simp; omega
    unfold Lib.digitVal;rw [this, if_pos om_];congr 1; omega
   refine ⟨?_, ?_, by simp⟩
   ·rw [Lib.decFrom, hv];show Lib.decFrom (0 * 10 + n) [] = some n;rw [Lib.decFrom];congr 1; omega
   ·intro h;have h' := sI_ h;have := congrArg UInt8.toNat h';simp at this
    omega
  ·rename_i h10
   obtain ⟨i1, i2, i3⟩ := ih (n / 10) om_ om_;have hv : Lib.digitVal (UInt8.ofNat (48 + n % 10)) = some (n % 10) := by
    have : (UInt8.ofNat (48 + n % 10)).toNat = 48 + n % 10 := by simp; omega
    unfold Lib.digitVal;rw [this, if_pos om_];congr 1; omega
   refine ⟨?_, ?_, by simp⟩
   ·have := Lib.decFrom_take (Lib.decDigits (n / 10) ++ [UInt8.ofNat (48 + n % 10)]) (Lib.decDigits (n / 10)).length 0 (n / 10) (UInt8.ofNat (48 + n % 10)) (n % 10) (by rw [List.take_left']; exact i1; rfl) si_ hv;rw [List.take_of_length_le si_] at this;rw [this];congr 1; omega
   ·rw [List.getElem?_append_left (by exact List.length_pos_iff.mpr i3)];exact i2
theorem decFrom_snoc (l : List UInt8) (b : UInt8) (acc n : Nat) (h : Lib.decFrom acc (l ++ [b]) = some n) : ∃ m d, Lib.decFrom acc l = some m ∧ Lib.digitVal b = some d ∧ n = m * 10 + d := by
 induction l generalizing acc with
 | nil =>
  rw [List.nil_append, Lib.decFrom] at h;cases hd : Lib.digitVal b with
  | none => rw [hd] at h; cases h
  | some d => rw [hd] at h; exact ⟨acc, d, rfl, rfl, (sI_ h).symm⟩
 | cons c l ih =>
  rw [List.cons_append, Lib.decFrom] at h;rw [Lib.decFrom];cases hd : Lib.digitVal c with
  | none => rw [hd] at h; cases h
  | some d => rw [hd] at h; exact ih _ h
theorem decDigits_canon : ∀ (r : List UInt8) (n : Nat), r ≠ [] → r.reverse[0]? ≠ some 48 → Lib.decFrom 0 r.reverse = some n → Lib.decDigits n = r.reverse
 | [], _, h, _, _ => absurd rfl h
 | [b], n, _, h48, h => by
  rw [List.reverse_cons, List.reverse_nil] at h h48 ⊢;obtain ⟨m, d, e1, e2, rfl⟩ := decFrom_snoc [] b 0 n h;obtain rfl : 0 = m := sI_ e1;obtain ⟨h1, h2, rfl⟩ := digitVal_some e2;rw [Lib.decDigits, dif_pos om_];congr 1
  apply UInt8.toNat_inj.mp
  simp
  omega
 | b :: c :: r, n, _, h48, h => by
  rw [List.reverse_cons] at h h48 ⊢;obtain ⟨m, d, e1, e2, rfl⟩ := decFrom_snoc _ b 0 n h;have hl : (c :: r).reverse ≠ [] := by simp
  have hh : (c :: r).reverse[0]? ≠ some 48 := by
   rw [List.getElem?_append_left (by exact List.length_pos_iff.mpr hl)] at h48;exact h48
  have ih := decDigits_canon (c :: r) m si_ hh e1;obtain ⟨h1, h2, rfl⟩ := digitVal_some e2;have hm : m ≠ 0 := by
   rintro rfl;rw [← ih] at hh;exact hh (by rw [Lib.decDigits, dif_pos om_]; rfl)
  rw [Lib.decDigits, dif_neg om_, show (m * 10 + (b.toNat - 48)) / 10 = m by omega, ih];congr 2
  apply UInt8.toNat_inj.mp
  simp
  omega
theorem canon {l : List UInt8} {n : Nat} (h0 : l ≠ []) (h48 : l[0]? ≠ some 48) (h : Lib.decFrom 0 l = some n) : Lib.decDigits n = l := by
 have := decDigits_canon l.reverse n (by simpa using h0) (by simpa using h48) (by simpa using h);simpa using this
theorem atoi_canon {l : List UInt8} {n : Nat} (h0 : l ≠ []) (h48 : l[0]? ≠ some 48) (h : Lib.decFrom 0 l = some n) : Lib.atoi l = some (n : Int) ∧ Lib.itoa (n : Int) = l ∧ n ≠ 0 := by
 have hc := canon h0 h48 h;refine ⟨?_, ?_, ?_⟩
 ·cases l with
  | nil => exact absurd rfl h0
  | cons b r =>
   obtain ⟨d, hd⟩ := Lib.digit_of_decFrom _ _ _ h 0 b rfl;obtain ⟨h1, h2, _⟩ := digitVal_some hd;have n1 : (b == 45) = false := bN_ (fun e => by subst e; exact absurd h1 de_);have n2 : (b == 43) = false := bN_ (fun e => by subst e; exact absurd h1 de_);rw [Lib.atoi, n1, n2];simp [Lib.decNat, h]
 ·unfold Lib.itoa;rw [if_neg om_];simpa using hc
 ·rintro rfl;rw [← hc] at h48;exact h48 (by rw [Lib.decDigits, dif_pos om_]; rfl)
theorem itoa_pos {l : List UInt8} {n : Int} (h : Lib.itoa n = l) (hn : 0 < n) : Lib.decFrom 0 l = some n.toNat ∧ l[0]? ≠ some 48 ∧ l ≠ [] := by
 unfold Lib.itoa at h;rw [if_neg om_] at h;rw [← h];exact decDigits_ok _ om_
def standsAt (s : BA) (p : Int) (nm : BA) : Prop := p + nm.size ≤ s.size ∧ (s.extract p.toNat (p + nm.size).toNat).toList = nm.toList
instance (s : BA) (p : Int) (nm : BA) : Decidable (standsAt s p nm) := by unfold standsAt; infer_instance
theorem hasPrefix0_f (s : BA) (p : Int) (nm : BA) (h0 : 0 ≤ p) (hp : p ≤ s.size) : stringslite_HasPrefix.f (s.extract p.toNat s.size) nm = some (decide (standsAt s p nm)) := by
 unfold stringslite_HasPrefix.f;have hsz : (s.extract p.toNat s.size).size = s.size - p.toNat := by rw [ByteArray.size_extract]; omega
 rw [hsz];by_cases c : p + nm.size ≤ s.size
 ·have hx : (s.extract p.toNat s.size).extract 0 ((nm.size : Int)).toNat = s.extract p.toNat (p + nm.size).toNat := by
   rw [ByteArray.extract_extract];congr 1
   omega
  rw [if_pos om_, if_pos om_, if_pos om_, hx];congr 1
  by_cases h : (s.extract p.toNat (p + nm.size).toNat).toList = nm.toList
  ·rw [dE_ (show standsAt s p nm from ⟨c, h⟩)]; exact bQ_ h
  ·rw [dF_ (show ¬ standsAt s p nm from fun hh => h hh.2)]; exact bN_ h
 ·rw [if_neg om_, dF_ (show ¬ standsAt s p nm from fun hh => c hh.1)]
theorem hasPrefix_f (s : BA) (p : Int) (nm : BA) (h0 : 0 ≤ p) (hp : p ≤ s.size) : strings_HasPrefix.f (s.extract p.toNat s.size) nm = some (decide (standsAt s p nm)) := by
 unfold strings_HasPrefix.f;rw [hasPrefix0_f s p nm h0 hp, Option.bind_some]
theorem stands_f (s : BA) (hs : s.size ≤ 1048576) (p : Int) (nm : BA) (hn : nm.size ≤ 2000000) (h0 : 0 ≤ p) (hp : p ≤ s.size) : spec_l5Stands.f s p nm = some (decide (standsAt s p nm)) := by
 unfold spec_l5Stands.f;have hw : wrap64 (p + (nm.size : Int)) = p + nm.size := by unfold wrap64; omega
 rw [hw];by_cases c : p + nm.size ≤ s.size
 ·rw [if_pos c, if_pos h0, if_pos om_];congr 1
  by_cases h : (s.extract p.toNat (p + nm.size).toNat).toList = nm.toList
  ·rw [dE_ (show standsAt s p nm from ⟨c, h⟩)]; exact bQ_ h
  ·rw [dF_ (show ¬ standsAt s p nm from fun hh => h hh.2)]; exact bN_ h
 ·rw [if_neg c, dF_ (show ¬ standsAt s p nm from fun hh => c hh.1)]
theorem cut_f (s : BA) (p : Int) (nm : BA) (h0 : 0 ≤ p) (hp : p ≤ s.size) : strings_CutPrefix.f (s.extract p.toNat s.size) nm = some (if standsAt s p nm then (s.extract (p + nm.size).toNat s.size, true) else (s.extract p.toNat s.size, false)) := by
 unfold strings_CutPrefix.f stringslite_CutPrefix.f;rw [hasPrefix0_f s p nm h0 hp, Option.bind_some];by_cases c : standsAt s p nm
 ·have hsz : (s.extract p.toNat s.size).size = s.size - p.toNat := by rw [ByteArray.size_extract]; omega
  have h1 := c.1;have hx : (s.extract p.toNat s.size).extract ((nm.size : Int)).toNat (s.size - p.toNat) = s.extract (p + nm.size).toNat s.size := by
   rw [ByteArray.extract_extract];congr 1
   ·omega
   ·omega
  rw [dE_ c, if_pos rfl, if_pos om_, hsz, if_pos om_, Option.bind_some, if_pos c, hx]
 ·rw [dF_ c, if_neg si_, Option.bind_some, if_neg c]
theorem bt_list (s : BA) (p : Int) (h0 : 0 ≤ p) (h1 : p < (s.size : Int)) : ∃ b : UInt8, s.data.toList[p.toNat]? = some b ∧ bt s p = (b.toNat : Int) := by
 have h : p.toNat < s.size := om_;refine ⟨s[p.toNat]'h, Lib.data_getElem? s p.toNat h, ?_⟩;unfold bt;rw [dif_pos h]
theorem stands_bt {s : BA} {p : Int} {nm : BA} (h : standsAt s p nm) (p0 : 0 ≤ p) (j : Nat) (hj : j < nm.size) : ∃ b : UInt8, nm.data.toList[j]? = some b ∧ bt s (p + j) = (b.toNat : Int) := by
 obtain ⟨h1, h2⟩ := h;obtain ⟨b, e1, e2⟩ := bt_list s (p + j) om_ om_;refine ⟨b, ?_, e2⟩;rw [Lib.toList_data, Lib.toList_data] at h2;rw [← h2, ByteArray.data_extract, Array.toList_extract, List.extract_eq_take_drop, List.getElem?_take, if_pos om_, List.getElem?_drop, show p.toNat + j = (p + j).toNat by omega];exact e1
abbrev numL (s : BA) (a : Int) : List UInt8 := s.data.toList.drop (a + 2).toNat
def NumP (L : List UInt8) (e v : Nat) : Prop := 1 ≤ e ∧ e ≤ 7 ∧ L[e]? = some 59 ∧ L[0]? ≠ some 48 ∧ Lib.decFrom 0 (L.take e) = some v
def NumRes (L : List UInt8) (a : Int) (q : Int × Int) : Prop := (∃ e v : Nat, NumP L e v ∧ isT v = true ∧ q = ((v : Int), a + 2 + e)) ∨ ((∀ e v : Nat, NumP L e v → isT v = false) ∧ q = (0, -1))
theorem numL_at (s : BA) (a : Int) (a0 : 0 ≤ a) (j : Nat) : (a + 2 + j < (s.size : Int) → ∃ b : UInt8, (numL s a)[j]? = some b ∧ bt s (a + 2 + j) = (b.toNat : Int)) ∧ (¬ a + 2 + j < (s.size : Int) → (numL s a)[j]? = none) := by
 refine ⟨fun h => ?_, fun h => ?_⟩
 ·obtain ⟨b, e1, e2⟩ := bt_list s (a + 2 + j) om_ h;refine ⟨b, ?_, e2⟩;rw [List.getElem?_drop, show (a + 2).toNat + j = (a + 2 + j).toNat by omega];exact e1
 ·rw [List.getElem?_drop];apply List.getElem?_eq_none
  have := Lib.size_eq s;omega
theorem num_uniq {L : List UInt8} {j v e v' : Nat} (h7 : j ≤ 7) (hv : Lib.decFrom 0 (L.take j) = some v) (hst : j < 7 → ∀ b, L[j]? = some b → Lib.digitVal b = none) (h : NumP L e v') : e = j ∧ v' = v := by
 obtain ⟨p1, p2, p3, p4, p5⟩ := h;have hej : e = j := by
  by_cases c : e < j
  ·obtain ⟨d, hd⟩ := Lib.digit_of_decFrom _ _ _ hv e 59 (by rw [List.getElem?_take, if_pos c]; exact p3);exact absurd hd (by simp [Lib.digitVal])
  ·by_cases c2 : j < e
   ·have he : e < L.length := (List.getElem?_eq_some_iff.1 p3).1;have hL : L[j]? = some (L[j]'om_) := List.getElem?_eq_getElem om_;obtain ⟨d, hd⟩ := Lib.digit_of_decFrom _ _ _ p5 j _ (by rw [List.getElem?_take, if_pos c2]; exact hL);rw [hst om_ _ hL] at hd;cases hd
   ·omega
 subst hej;rw [hv] at p5;exact ⟨rfl, (sI_ p5).symm⟩
def numV (s : BA) (a : Int) (j v : Nat) : Int × Int := if j = 0 then (0, -1) else if bt s (a + 2) = 48 then (0, -1) else if (s.size : Int) ≤ a + 2 + j then (0, -1) else if bt s (a + 2 + j) = 59 then (if isT v = true then ((v : Int), a + 2 + j) else (0, -1)) else (0, -1)
theorem num_stop (s : BA) (a : Int) (a0 : 0 ≤ a) (j v : Nat) (h7 : j ≤ 7) (hj : a + 2 + j ≤ s.size) (hv : Lib.decFrom 0 ((numL s a).take j) = some v) (hst : j < 7 → ∀ b, (numL s a)[j]? = some b → Lib.digitVal b = none) : NumRes (numL s a) a (numV s a j v) := by
 have un := fun e v' => @num_uniq (numL s a) j v e v' h7 hv hst
 unfold numV;by_cases c0 : j = 0
 ·rw [if_pos c0];exact .inr ⟨fun e v' h => by have := un e v' h; have := h.1; omega, rfl⟩
 rw [if_neg c0];have hL0 := (numL_at s a a0 0).1 om_;obtain ⟨b0, hb0, hb0'⟩ := hL0;rw [show a + 2 + ((0 : Nat) : Int) = a + 2 by omega] at hb0';by_cases c1 : bt s (a + 2) = 48
 ·rw [if_pos c1];refine .inr ⟨fun e v' h => absurd ?_ h.2.2.2.1, rfl⟩;rw [hb0];congr 1
  apply UInt8.toNat_inj.mp
  show b0.toNat = 48;omega
 rw [if_neg c1];by_cases c2 : (s.size : Int) ≤ a + 2 + j
 ·rw [if_pos c2];refine .inr ⟨fun e v' h => ?_, rfl⟩;obtain ⟨rfl, _⟩ := un e v' h;have := h.2.2.1;rw [(numL_at s a a0 e).2 om_] at this;cases this
 rw [if_neg c2];obtain ⟨b, hb, hb'⟩ := (numL_at s a a0 j).1 om_;by_cases c3 : bt s (a + 2 + j) = 59
 ·rw [if_pos c3];have hb59 : b = 59 := by
   apply UInt8.toNat_inj.mp
   show b.toNat = 59;omega
  have hP : NumP (numL s a) j v := by
   refine ⟨om_, h7, by rw [hb, hb59], fun h => c1 ?_, hv⟩;rw [hb0] at h;obtain rfl := sI_ h;exact hb0'
  by_cases c4 : isT v = true
  ·rw [if_pos c4];exact .inl ⟨j, v, hP, c4, rfl⟩
  ·rw [if_neg c4];refine .inr ⟨fun e v' h => ?_, rfl⟩;obtain ⟨rfl, rfl⟩ := un e v' h;exact bF_ c4
 ·rw [if_neg c3];refine .inr ⟨fun e v' h => ?_, rfl⟩;obtain ⟨rfl, _⟩ := un e v' h;have h5 := h.2.2.1;rw [hb] at h5;obtain rfl := sI_ h5;exact absurd hb' c3
def dig (b : Int) : Int := if 48 ≤ b ∧ b ≤ 57 then b - 48 else -1
theorem dig_tab : ∀ b : Nat, b < 256 → spec_l3Digit.f 3 (b : Int) false = some (dig b) := by decide +kernel
theorem ev_dig (b : Int) (h0 : 0 ≤ b) (h1 : b ≤ 255) : Ev (fun k => spec_l3Digit.f k b false) (dig b) := by
 have := dig_tab b.toNat om_;rw [show ((b.toNat : Nat) : Int) = b by omega] at this;exact Ev.of (spec_l3Digit.mono b false) (k := 3) this
section
variable {s : BA} {a : Int} {j v : Nat}
theorem numV_0 (h : j = 0) : numV s a j v = (0, -1) := by unfold numV; rw [if_pos h]
theorem numV_48 (h : j ≠ 0) (h1 : bt s (a + 2) = 48) : numV s a j v = (0, -1) := by unfold numV; rw [if_neg h, if_pos h1]
theorem numV_end (h : j ≠ 0) (h1 : ¬ bt s (a + 2) = 48) (h2 : (s.size : Int) ≤ a + 2 + j) : numV s a j v = (0, -1) := by unfold numV; rw [if_neg h, if_neg h1, if_pos h2]
theorem numV_59 (h : j ≠ 0) (h1 : ¬ bt s (a + 2) = 48) (h2 : ¬ (s.size : Int) ≤ a + 2 + j) (h3 : ¬ bt s (a + 2 + j) = 59) : numV s a j v = (0, -1) := by unfold numV; rw [if_neg h, if_neg h1, if_neg h2, if_neg h3]
theorem numV_bad (h : j ≠ 0) (h1 : ¬ bt s (a + 2) = 48) (h2 : ¬ (s.size : Int) ≤ a + 2 + j) (h3 : bt s (a + 2 + j) = 59) (h4 : ¬ isT v = true) : numV s a j v = (0, -1) := by unfold numV; rw [if_neg h, if_neg h1, if_neg h2, if_pos h3, if_neg h4]
theorem numV_yes (h : j ≠ 0) (h1 : ¬ bt s (a + 2) = 48) (h2 : ¬ (s.size : Int) ≤ a + 2 + j) (h3 : bt s (a + 2 + j) = 59) (h4 : isT v = true) : numV s a j v = ((v : Int), a + 2 + j) := by unfold numV; rw [if_neg h, if_neg h1, if_neg h2, if_pos h3, if_pos h4]
end
theorem num_fin (s : BA) (a : Int) (a0 : 0 ≤ a) (j v : Nat) (hj : a + 2 + j < s.size) :
  Ev (fun _ : Nat => if a + 2 + (j : Int) = a + 2 then some ((0 : Int), (-1 : Int)) else if 0 ≤ a + 2 then (if a + 2 < (s.size : Int) then (if bt s (a + 2) = 48 then some (0, -1) else (if a + 2 + (j : Int) ≥ (s.size : Int) then some (0, -1) else (if bt s (a + 2 + j) = 59 then (spec_IsText.f v).bind fun t => (if t = true then some ((v : Int), a + 2 + (j : Int)) else some (0, -1)) else some (0, -1)))) else none) else none) (numV s a j v) := by
 by_cases c0 : j = 0
 ·rw [numV_0 c0];exact Ev.ifp om_ (Ev.now _)
 refine Ev.ifn om_ (Ev.ifp om_ (Ev.ifp om_ ?_));by_cases c1 : bt s (a + 2) = 48
 ·rw [numV_48 c0 c1]; exact Ev.ifp c1 (Ev.now _)
 refine Ev.ifn c1 (Ev.ifn om_ ?_);by_cases c3 : bt s (a + 2 + j) = 59
 ·refine Ev.ifp c3 (Ev.bindc (specIsT v) ?_);by_cases c4 : isT v = true
  ·rw [numV_yes c0 c1 om_ c3 c4]; exact Ev.ifp c4 (Ev.now _)
  ·rw [numV_bad c0 c1 om_ c3 c4]; exact Ev.ifn c4 (Ev.now _)
 ·rw [numV_59 c0 c1 om_ c3]; exact Ev.ifn c3 (Ev.now _)
theorem num_fin2 (s : BA) (a : Int) (a0 : 0 ≤ a) (a2 : a + 2 ≤ s.size) (j v : Nat) (hj : ¬ a + 2 + j < s.size) (hj2 : a + 2 + j ≤ s.size) (X : Nat → Option (Int × Int)) :
  Ev (fun k : Nat => if a + 2 + (j : Int) = a + 2 then some ((0 : Int), (-1 : Int)) else if 0 ≤ a + 2 then (if a + 2 < (s.size : Int) then (if bt s (a + 2) = 48 then some (0, -1) else (if a + 2 + (j : Int) ≥ (s.size : Int) then some (0, -1) else X k)) else none) else none) (numV s a j v) := by
 by_cases c0 : j = 0
 ·rw [numV_0 c0];exact Ev.ifp om_ (Ev.now _)
 refine Ev.ifn om_ (Ev.ifp om_ (Ev.ifp om_ ?_));by_cases c1 : bt s (a + 2) = 48
 ·rw [numV_48 c0 c1]; exact Ev.ifp c1 (Ev.now _)
 refine Ev.ifn c1 ?_;rw [numV_end c0 c1 om_];exact Ev.ifp om_ (Ev.now _)
theorem num_l (s : BA) (hs : s.size ≤ 1048576) (a : Int) (a0 : 0 ≤ a) (a2 : a + 2 ≤ s.size) : ∀ (d j v : Nat), 7 - j = d → j ≤ 7 → a + 2 + j ≤ s.size → Lib.decFrom 0 ((numL s a).take j) = some v → ∃ q, Ev (fun k => spec_l18Number.l0 k s a v (a + 2 + j)) q ∧ NumRes (numL s a) a q := by
 have hw9 : wrap64 (a + 9) = a + 9 := by unfold wrap64; omega
 have hw2 : wrap64 (a + 2) = a + 2 := by unfold wrap64; omega
 intro d;induction d with
 | zero =>
  intro j v hd h7 hj hv;refine ⟨_, ?_, num_stop s a a0 j v h7 hj hv (fun h => absurd h om_)⟩;refine Ev.step (fun k => by simp only [spec_l18Number.l0]; rfl) ?_;rw [hw9, hw2];by_cases c : a + 2 + (j : Int) < s.size
  ·refine Ev.ifp c (Ev.ifn om_ (Ev.congr (fun k => ?_) (num_fin s a a0 j v c)));simp only [show (0 : Int) ≤ a + 2 + (j : Int) by omega, if_true]
  ·refine Ev.ifn c ?_;exact num_fin2 s a a0 a2 j v c hj _
 | succ d ih =>
  intro j v hd h7 hj hv;by_cases c : a + 2 + (j : Int) < s.size
  ·obtain ⟨b, hb, hb'⟩ := (numL_at s a a0 j).1 c;have hb255 := bt_range s (a + 2 + j);by_cases cd : 0 ≤ dig (bt s (a + 2 + j))
   ·have cd' : 48 ≤ bt s (a + 2 + j) ∧ bt s (a + 2 + j) ≤ 57 := by
     unfold dig at cd;split at cd
     ·assumption
     ·omega
    have hdv : Lib.digitVal b = some (b.toNat - 48) := by unfold Lib.digitVal; rw [if_pos om_]
    have hv2 := Lib.decFrom_take _ _ _ _ _ _ hv hb hdv;have hlt := Lib.decFrom_lt _ _ _ hv;have hlen : ((numL s a).take j).length ≤ 6 := by rw [List.length_take]; omega
    have hp : 10 ^ ((numL s a).take j).length ≤ 10 ^ 6 := Nat.pow_le_pow_right om_ hlen;have hv6 : v < 1000000 := by
     have h6 : (10 : Nat) ^ 6 = 1000000 := by decide
     rw [h6] at hp;omega
    clear hp hlt hlen;obtain ⟨q, e1, e2⟩ := ih (j + 1) (v * 10 + (b.toNat - 48)) om_ om_ om_ hv2;refine ⟨q, ?_, e2⟩;refine Ev.step (fun k => by simp only [spec_l18Number.l0]; rfl) ?_;rw [hw9, hw2];refine Ev.ifp c (Ev.ifp om_ (Ev.ifp om_ (Ev.bind (ev_dig _ hb255.1 hb255.2) (Ev.ifp cd ?_))));have wv : ∀ m : Int, 0 ≤ m → m ≤ 100000000 → wrap64 m = m := fun m _ _ => by unfold wrap64; omega
    rw [wv (10 * (v : Int)) om_ om_, wv (bt s (a + 2 + j)) hb255.1 om_, wv (10 * (v : Int) + bt s (a + 2 + j)) om_ om_, wv (10 * (v : Int) + bt s (a + 2 + j) - 48) om_ om_, show 10 * (v : Int) + bt s (a + 2 + j) - 48 = ((v * 10 + (b.toNat - 48) : Nat) : Int) by omega, show wrap64 (a + 2 + (j : Int) + 1) = a + 2 + ((j + 1 : Nat) : Int) by unfold wrap64; omega];exact e1
   ·refine ⟨_, ?_, num_stop s a a0 j v h7 hj hv (fun _ b' hb2 => ?_)⟩
    ·refine Ev.step (fun k => by simp only [spec_l18Number.l0]; rfl) ?_;rw [hw9, hw2];refine Ev.ifp c (Ev.ifp om_ (Ev.ifp om_ (Ev.bind (ev_dig _ hb255.1 hb255.2) (Ev.ifn cd ?_))));exact num_fin s a a0 j v c
    ·rw [hb] at hb2;obtain rfl := sI_ hb2;unfold Lib.digitVal;rw [if_neg (fun h => cd (by unfold dig; rw [if_pos om_]; omega))]
  ·refine ⟨_, ?_, num_stop s a a0 j v h7 hj hv (fun _ b' hb2 => ?_)⟩
   ·refine Ev.step (fun k => by simp only [spec_l18Number.l0]; rfl) ?_;rw [hw9, hw2];refine Ev.ifn c ?_;exact num_fin2 s a a0 a2 j v c hj _
   ·rw [(numL_at s a a0 j).2 c] at hb2;cases hb2
end Go.Proofs.YtkmmoheeoblmnaaGreatDoor.A
namespace Go.Proofs.YtkmmoheeoblmnaaGreatDoor.A
open Go.RowKit Go.Proofs.YtkmmoheeoblmnaaGreatDoorW.PrintWords Go.Proofs.YtkmmoheeoblmnaaGreatDoorW.PrintLast Go.Proofs.YtkmmoheeoblmnaaGreatDoorW.PrintMore
set_option linter.unusedVariables false
theorem index_eq {l : List UInt8} {c : UInt8} {e : Nat} (h : l[e]? = some c) (hn : ∀ k, k < e → l[k]? ≠ some c) : Lib.indexByte l c = (e : Int) := by
 have hge := Lib.indexByte_ge l c;by_cases h1 : Lib.indexByte l c = -1
 ·exact absurd h (Lib.indexByte_none h1 e)
 ·obtain ⟨o, ho⟩ : ∃ o : Nat, Lib.indexByte l c = (o : Int) := ⟨(Lib.indexByte l c).toNat, om_⟩;obtain ⟨h2, h3⟩ := Lib.indexByte_some ho;have : o = e := by
   by_cases c1 : o < e
   ·exact absurd h2 (hn o c1)
   ·by_cases c2 : e < o
    ·exact absurd h (h3 e c2)
    ·omega
  rw [ho, this]
theorem impl_num (s : BA) (hs : s.size ≤ 1048576) (a : Int) (a0 : 0 ≤ a) (a2 : a + 2 ≤ s.size) (q : Int × Int) (hq : NumRes (numL s a) a q) :
  Ev (fun k => (strings_IndexByte.f (s.extract (a + 2).toNat s.size) 59).bind fun e => (if 1 ≤ e ∧ e ≤ 7 then (if e ≤ ((s.extract (a + 2).toNat s.size).size : Int) then xrN k a e ((s.extract (a + 2).toNat s.size).extract 0 e.toNat) else none) else some (⟨#[]⟩, -1))) (if q.2 < 0 then (⟨#[]⟩, -1) else (putF q.1, q.2 + 1)) := by
 have hL : (s.extract (a + 2).toNat s.size).data.toList = numL s a := by
  rw [ByteArray.data_extract, Array.toList_extract, List.extract_eq_take_drop];apply List.take_of_length_le
  rw [List.length_drop, Array.length_toList];exact Nat.le_refl _
 have hT : ∀ e : Nat, ((s.extract (a + 2).toNat s.size).extract 0 ((e : Int)).toNat).data.toList = (numL s a).take e := fun e => by
  rw [ByteArray.data_extract, Array.toList_extract, hL, List.extract_eq_take_drop];simp
 have hsz : (s.extract (a + 2).toNat s.size).size = s.size - (a + 2).toNat := by rw [ByteArray.size_extract]; omega
 have hlen : (numL s a).length = s.size - (a + 2).toNat := by rw [← hL, ← Lib.size_eq, hsz]
 refine Ev.bindc (a := Lib.indexByte (numL s a) 59) (by unfold strings_IndexByte.f; rw [hL]; rfl) ?_;rcases hq with ⟨e, v, hP, hT1, rfl⟩ | ⟨hno, rfl⟩
 ·obtain ⟨p1, p2, p3, p4, p5⟩ := hP;have hi : Lib.indexByte (numL s a) 59 = (e : Int) := index_eq p3 (fun k hk h => by
   obtain ⟨d, hd⟩ := Lib.digit_of_decFrom _ _ _ p5 k 59 (by rw [List.getElem?_take, if_pos hk]; exact h);exact absurd hd (by simp [Lib.digitVal]))
  have he : e < (numL s a).length := (List.getElem?_eq_some_iff.1 p3).1;obtain ⟨r1, r2, r3⟩ := atoi_canon (l := (numL s a).take e) (by intro h; have := congrArg List.length h; rw [List.length_take] at this; simp at this; omega) (by rw [List.getElem?_take, if_pos om_]; exact p4) p5;have hw : wrap64 (wrap64 (wrap64 (a + 2) + (e : Int)) + 1) = a + 2 + e + 1 := by
   have wv : ∀ m : Int, 0 ≤ m → m ≤ 100000000 → wrap64 m = m := fun m _ _ => by unfold wrap64; omega
   rw [wv (a + 2) om_ om_, wv (a + 2 + e) om_ om_, wv _ om_ om_]
  rw [hi];refine Ev.ifp ⟨om_, om_⟩ (Ev.ifp (by rw [hsz]; omega) ?_);rw [if_neg (show ¬ a + 2 + (e : Int) < 0 by omega)];refine Ev.up 1 (fun k => ?_);unfold xrN;rw [hT, r1];simp only;rw [if_pos r2, if_neg om_, implIsT, Option.bind_some, if_pos hT1, implPut_f, Option.bind_some, hw]
 ·rw [if_pos (show (-1 : Int) < 0 by decide)];by_cases c : 1 ≤ Lib.indexByte (numL s a) 59 ∧ Lib.indexByte (numL s a) 59 ≤ 7
  ·obtain ⟨e, he⟩ : ∃ e : Nat, Lib.indexByte (numL s a) 59 = (e : Int) := ⟨(Lib.indexByte (numL s a) 59).toNat, om_⟩;rw [he] at c ⊢;obtain ⟨p3, _⟩ := Lib.indexByte_some he;have hel : e < (numL s a).length := (List.getElem?_eq_some_iff.1 p3).1;refine Ev.ifp c (Ev.ifp (by rw [hsz]; omega) (Ev.up 1 (fun k => ?_)));unfold xrN;rw [hT];cases hat : Lib.atoi ((numL s a).take e) with
   | none => rfl
   | some n =>
    simp only;by_cases c1 : Lib.itoa n = (numL s a).take e
    ·rw [if_pos c1];by_cases c2 : n = 0
     ·rw [if_pos c2]
     ·rw [if_neg c2, implIsT, Option.bind_some];by_cases c3 : isT n = true
      ·exfalso;have hp := isT_nn c3;obtain ⟨r1, r2, r3⟩ := itoa_pos c1 hp;have hN : NumP (numL s a) e n.toNat := ⟨om_, om_, p3, fun h => r2 (by rw [List.getElem?_take, if_pos om_]; exact h), r1⟩;have := hno e n.toNat hN;rw [show ((n.toNat : Nat) : Int) = n by omega, c3] at this;cases this
      ·rw [if_neg c3]
    ·rw [if_neg c1]
  ·exact Ev.ifn c (Ev.now _)
abbrev nameJ (j : Nat) : ByteArray := nrL.getD j ByteArray.empty
abbrev signJ (j : Nat) : ByteArray := nsgL.getD j ByteArray.empty
theorem nrF_at (s : BA) (a : Int) (a0 : 0 ≤ a) (a1 : a ≤ s.size) : ∀ (d : Nat) (ns xs : List ByteArray) (hl : ns.length = xs.length) (j : Nat), j = d → j < ns.length → (∀ i, i < j → ¬ standsAt s a (ns.getD i ByteArray.empty)) → standsAt s a (ns.getD j ByteArray.empty) →
  nrF (s.extract a.toNat s.size) ns xs = some (xs.getD j ByteArray.empty, ((ns.getD j ByteArray.empty).size : Int))
 | d, [], xs, hl, j, _, hj, _, _ => by simp at hj
 | d, n :: ns, [], hl, j, _, hj, _, _ => by simp at hl
 | d, n :: ns, x :: xs, hl, 0, _, hj, hno, hyes => by
  have hy : standsAt s a n := hyes;rw [nrF, hasPrefix_f s a n a0 a1, Option.bind_some, dE_ hy];rfl
 | 0, n :: ns, x :: xs, hl, j + 1, hd, hj, hno, hyes => by omega
 | d + 1, n :: ns, x :: xs, hl, j + 1, hd, hj, hno, hyes => by
  have h0 : ¬ standsAt s a n := hno 0 om_;rw [nrF, hasPrefix_f s a n a0 a1, Option.bind_some, dF_ h0, if_neg si_];exact nrF_at s a a0 a1 d ns xs (by simpa using hl) j om_ (by simpa using hj) (fun i hi => hno (i + 1) om_) hyes
theorem nrF_none (s : BA) (a : Int) (a0 : 0 ≤ a) (a1 : a ≤ s.size) : ∀ (ns xs : List ByteArray), (∀ i, i < ns.length → ¬ standsAt s a (ns.getD i ByteArray.empty)) → nrF (s.extract a.toNat s.size) ns xs = some (⟨#[]⟩, 0)
 | [], xs, _ => by simp [nrF]
 | n :: ns, [], _ => by simp [nrF]
 | n :: ns, x :: xs, hno => by
  have h0 : ¬ standsAt s a n := hno 0 si_;rw [nrF, hasPrefix_f s a n a0 a1, Option.bind_some, dF_ h0, if_neg si_];exact nrF_none s a a0 a1 ns xs (fun i hi => hno (i + 1) (by simpa using hi))
theorem nm_size : ∀ j : Nat, j < 5 → (nameJ j).size ≤ 6 ∧ 1 ≤ (nameJ j).size ∧ (signJ j).size = 1 ∧ ∀ b ∈ (nameJ j).data.toList, b ≠ 93 := by decide
theorem spec_at (s : BA) (hs : s.size ≤ 1048576) (a : Int) (a0 : 0 ≤ a) (a1 : a ≤ s.size) (j : Nat) (hj : j < 5) (hno : ∀ i : Nat, i < j → ¬ standsAt s a (nameJ i)) (hyes : standsAt s a (nameJ j)) :
  ∀ (d i : Nat), i + d = j → Ev (fun k => spec_XmlRef.l0 k s a nrL nsgL (i : Int)) (signJ j, a + (nameJ j).size) := by
 intro d;induction d with
 | zero =>
  intro i hi;obtain rfl : i = j := om_;have hz := nm_size i hj;have hw : wrap64 (a + ((nameJ i).size : Int)) = a + (nameJ i).size := by unfold wrap64; omega
  refine Ev.step (fun k => by simp only [spec_XmlRef.l0]; rfl) ?_;refine Ev.ifp (show (i : Int) < 5 by omega) (Ev.ifp om_ (Ev.bindc (a := true) ?_ ?_))
  ·show spec_l5Stands.f s a (nameJ i) = _;rw [stands_f s hs a _ om_ a0 a1, dE_ hyes]
  ·refine Ev.ifp rfl (Ev.ifp (show (i : Int) < 5 by omega) ?_);show Ev (fun _ => some (signJ i, wrap64 (a + ((nameJ i).size : Int)))) _;rw [hw];exact Ev.now _
 | succ d ih =>
  intro i hi;have hz := nm_size i om_;have hw : wrap64 ((i : Int) + 1) = ((i + 1 : Nat) : Int) := by unfold wrap64; omega
  refine Ev.step (fun k => by simp only [spec_XmlRef.l0]; rfl) ?_;refine Ev.ifp (show (i : Int) < 5 by omega) (Ev.ifp om_ (Ev.bindc (a := false) ?_ ?_))
  ·show spec_l5Stands.f s a (nameJ i) = _;rw [stands_f s hs a _ om_ a0 a1, dF_ (hno i om_)]
  ·refine Ev.ifn si_ ?_;rw [hw];exact ih (i + 1) om_
theorem spec_no (s : BA) (hs : s.size ≤ 1048576) (a : Int) (a0 : 0 ≤ a) (a1 : a ≤ s.size) (hno : ∀ i : Nat, i < 5 → ¬ standsAt s a (nameJ i)) {q : ByteArray × Int} (hq : Ev (fun k => spec_XmlRef.l0 k s a nrL nsgL 5) q) :
  ∀ (d i : Nat), i + d = 5 → Ev (fun k => spec_XmlRef.l0 k s a nrL nsgL (i : Int)) q := by
 intro d;induction d with
 | zero =>
  intro i hi;obtain rfl : i = 5 := om_;exact hq
 | succ d ih =>
  intro i hi;have hz := nm_size i om_;have hw : wrap64 ((i : Int) + 1) = ((i + 1 : Nat) : Int) := by unfold wrap64; omega
  refine Ev.step (fun k => by simp only [spec_XmlRef.l0]; rfl) ?_;refine Ev.ifp (show (i : Int) < 5 by omega) (Ev.ifp om_ (Ev.bindc (a := false) ?_ ?_))
  ·show spec_l5Stands.f s a (nameJ i) = _;rw [stands_f s hs a _ om_ a0 a1, dF_ (hno i om_)]
  ·refine Ev.ifn si_ ?_;rw [hw];exact ih (i + 1) om_
def RefOk (s : BA) (a : Int) (q : ByteArray × Int) : Prop := q.1.size ≤ 4 ∧ (q.2 = -1 ∨ (a + 4 ≤ q.2 ∧ q.2 ≤ s.size ∧ ∀ p : Int, a ≤ p → p < q.2 → bt s p ≠ 93))
theorem ref_both (s : BA) (hs : s.size ≤ 1048576) (a : Int) (a0 : 0 ≤ a) (a1 : a < (s.size : Int)) (h38 : bt s a = 38) : ∃ q : ByteArray × Int, RefOk s a q ∧ Ev (fun k => spec_XmlRef.f k s a) q ∧ Ev (fun k => impl_XmlRef.f k s a) q := by
 have hw1 : wrap64 ((s.size : Int) - 1) = (s.size : Int) - 1 := by unfold wrap64; omega
 have spec0 : ∀ {q : ByteArray × Int}, Ev (fun k => spec_XmlRef.l0 k s a nrL nsgL 0) q → Ev (fun k => spec_XmlRef.f k s a) q := fun h => by
  unfold spec_XmlRef.f;refine Ev.ifn om_ (Ev.ifn om_ (Ev.ifp a0 (Ev.ifp a1 ?_)));rw [h38];refine Ev.step (fun k => by simp only [spec_XmlRef.j0]; rfl) ?_;exact Ev.ifn de_ h
 have impl0 : ∀ {q : ByteArray × Int}, Ev (fun k => xrB k s a) q → Ev (fun k => impl_XmlRef.f k s a) q := fun h => by
  unfold impl_XmlRef.f;refine Ev.bindc (inRange_f _ _ _) ?_;rw [hw1, dE_ (show 0 ≤ a ∧ a ≤ (s.size : Int) - 1 by omega)];exact Ev.ifp rfl (Ev.ifp ⟨a0, om_⟩ h)
 have yes : ∀ j : Nat, j < 5 → (∀ i : Nat, i < j → ¬ standsAt s a (nameJ i)) → standsAt s a (nameJ j) → ∃ q : ByteArray × Int, RefOk s a q ∧ Ev (fun k => spec_XmlRef.f k s a) q ∧ Ev (fun k => impl_XmlRef.f k s a) q := fun j hj hno hy => by
  have hz := nm_size j hj;have hy1 := hy.1;have hw : wrap64 (a + ((nameJ j).size : Int)) = a + (nameJ j).size := by unfold wrap64; omega
  refine ⟨(signJ j, a + (nameJ j).size), ⟨by show (signJ j).size ≤ 4; omega, .inr ⟨by have h4_ := (by decide : ∀ j : Nat, j < 5 → 4 ≤ (nameJ j).size) j hj; show a + 4 ≤ a + _; omega, hy1, fun p hp0 hp1 => ?_⟩⟩, spec0 (spec_at s hs a a0 om_ j hj hno hy j 0 om_), impl0 ?_⟩
  ·have hp1' : p < a + (nameJ j).size := hp1;obtain ⟨b, e1, e2⟩ := stands_bt hy a0 (p - a).toNat om_;rw [show a + (((p - a).toNat : Nat) : Int) = p by omega] at e2;have hb := hz.2.2.2 b (List.mem_of_getElem? e1);intro h;apply hb
   apply UInt8.toNat_inj.mp
   show b.toNat = 93;omega
  ·unfold xrB impl_namedRef.f;refine Ev.bindc (nrF_at s a a0 om_ j nrL nsgL rfl j rfl hj hno hy) (Ev.ifp (show ((nameJ j).size : Int) > 0 by omega) ?_);show Ev (fun _ => some (signJ j, wrap64 (a + ((nameJ j).size : Int)))) _;rw [hw];exact Ev.now _
 by_cases s0 : standsAt s a (nameJ 0)
 ·exact yes 0 om_ (fun i hi => absurd hi om_) s0
 by_cases s1 : standsAt s a (nameJ 1)
 ·exact yes 1 om_ (fun i hi => by rcases (show i = 0 by omega) with rfl; exact s0) s1
 by_cases s2 : standsAt s a (nameJ 2)
 ·exact yes 2 om_ (fun i hi => by rcases (show i = 0 ∨ i = 1 by omega) with rfl | rfl <;> assumption) s2
 by_cases s3 : standsAt s a (nameJ 3)
 ·exact yes 3 om_ (fun i hi => by rcases (show i = 0 ∨ i = 1 ∨ i = 2 by omega) with rfl | rfl | rfl <;> assumption) s3
 by_cases s4 : standsAt s a (nameJ 4)
 ·exact yes 4 om_ (fun i hi => by rcases (show i = 0 ∨ i = 1 ∨ i = 2 ∨ i = 3 by omega) with rfl | rfl | rfl | rfl <;> assumption) s4
 have hno : ∀ i : Nat, i < 5 → ¬ standsAt s a (nameJ i) := fun i hi => by rcases (show i = 0 ∨ i = 1 ∨ i = 2 ∨ i = 3 ∨ i = 4 by omega) with rfl | rfl | rfl | rfl | rfl <;> assumption
 have specN : ∀ {q : ByteArray × Int}, Ev (fun k => (spec_l5Stands.f s a (⟨#[38, 35]⟩ : BA)).bind fun t291 => (if t291 = true then ((spec_l18Number.f k s a).bind fun bt292 => (if bt292.2 < 0 then (some ((⟨#[]⟩ : BA), (-1 : Int))) else ((spec_PutSign.f k bt292.1).bind fun t294 => (some (t294, wrap64 (bt292.2 + 1)))))) else (some ((⟨#[]⟩ : BA), (-1))))) q → Ev (fun k => spec_XmlRef.f k s a) q := fun h => by
  refine spec0 (spec_no s hs a a0 om_ hno ?_ 5 0 om_);refine Ev.step (fun k => by simp only [spec_XmlRef.l0]; rfl) ?_;exact Ev.ifn de_ h
 have implN : ∀ {q : ByteArray × Int}, Ev (fun k => (strings_CutPrefix.f (s.extract a.toNat s.size) ⟨#[38, 35]⟩).bind fun d => (strings_IndexByte.f d.1 59).bind fun e => if d.2 = true then (if 1 ≤ e ∧ e ≤ 7 then (if e ≤ (d.1.size : Int) then xrN k a e (d.1.extract 0 e.toNat) else none) else some (⟨#[]⟩, -1)) else some (⟨#[]⟩, -1)) q → Ev (fun k => impl_XmlRef.f k s a) q := fun h => by
  refine impl0 ?_;unfold xrB impl_namedRef.f;exact Ev.bindc (nrF_none s a a0 om_ nrL nsgL hno) (Ev.ifn (show ¬ (0 : Int) > 0 by decide) h)
 have hn2 : ((⟨#[38, 35]⟩ : BA).size : Int) = 2 := rfl;by_cases sn : standsAt s a (⟨#[38, 35]⟩ : BA)
 ·have h2 : a + 2 ≤ s.size := sn.1;have hw2 : wrap64 (a + 2) = a + 2 := by unfold wrap64; omega
  obtain ⟨q, e1, e2⟩ := num_l s hs a a0 h2 7 0 0 rfl om_ om_ rfl;rw [show a + 2 + ((0 : Nat) : Int) = a + 2 by omega] at e1;refine ⟨if q.2 < 0 then (⟨#[]⟩, -1) else (putF q.1, q.2 + 1), ?_, specN ?_, implN ?_⟩
  ·rcases e2 with ⟨e, v, hP, hT1, rfl⟩ | ⟨_, rfl⟩
   ·rw [if_neg (show ¬ a + 2 + (e : Int) < 0 by omega)];have hel : e < (numL s a).length := (List.getElem?_eq_some_iff.1 hP.2.2.1).1;have hlen : (numL s a).length = s.size - (a + 2).toNat := by rw [List.length_drop, ← Lib.size_eq]
    refine ⟨putF_size _, .inr ⟨by have := hP.1; show a + 4 ≤ a + 2 + (e : Int) + 1; omega, by show a + 2 + (e : Int) + 1 ≤ _; omega, fun p hp0 hp1 => ?_⟩⟩;have hp1' : p < a + 2 + (e : Int) + 1 := hp1;by_cases c : p < a + 2
    ·obtain ⟨b, f1, f2⟩ := stands_bt sn a0 (p - a).toNat (by show _ < 2; omega);rw [show a + (((p - a).toNat : Nat) : Int) = p by omega] at f2;have hb := List.mem_of_getElem? f1;intro h;have h93 : b.toNat = 93 := om_;have : b = 38 ∨ b = 35 := by simpa using hb
     rcases this with rfl | rfl
     ·exact absurd h93 de_
     ·exact absurd h93 de_
    ·obtain ⟨b, f1, f2⟩ := (numL_at s a a0 (p - (a + 2)).toNat).1 om_;rw [show a + 2 + (((p - (a + 2)).toNat : Nat) : Int) = p by omega] at f2;intro h;by_cases ce : (p - (a + 2)).toNat = e
     ·rw [ce, hP.2.2.1] at f1;obtain rfl := sI_ f1;have h59 : ((59 : UInt8).toNat : Int) = 93 := om_;exact absurd h59 de_
     ·obtain ⟨d, hd⟩ := Lib.digit_of_decFrom _ _ _ hP.2.2.2.2 (p - (a + 2)).toNat b (by rw [List.getElem?_take, if_pos om_]; exact f1);obtain ⟨g1, g2, _⟩ := digitVal_some hd;omega
   ·rw [if_pos (show (-1 : Int) < 0 by decide)];exact ⟨by show (0 : Nat) ≤ 4; omega, .inl rfl⟩
  ·refine Ev.bindc (stands_f s hs a _ de_ a0 om_) ?_;rw [dE_ sn];refine Ev.ifp rfl (Ev.bind (a := q) (by unfold spec_l18Number.f; rw [hw2]; exact e1) ?_);by_cases c : q.2 < 0
   ·rw [if_pos c]; exact Ev.ifp c (Ev.now _)
   ·rw [if_neg c];refine Ev.ifn c ?_;have hq2 : q.2 ≤ s.size := by
     rcases e2 with ⟨e, v, hP, hT1, rfl⟩ | ⟨_, rfl⟩
     ·have hel : e < (numL s a).length := (List.getElem?_eq_some_iff.1 hP.2.2.1).1;have hlen : (numL s a).length = s.size - (a + 2).toNat := by rw [List.length_drop, ← Lib.size_eq]
      show a + 2 + (e : Int) ≤ _;omega
     ·exact absurd (show (-1 : Int) < 0 by decide) c
    refine Ev.bind (Ev.up 1 (fun k => specPut_f k q.1)) ?_;rw [show wrap64 (q.2 + 1) = q.2 + 1 by unfold wrap64; omega];exact Ev.now _
  ·refine Ev.bindc (cut_f s a _ a0 om_) ?_;rw [if_pos sn];have := impl_num s hs a a0 h2 q e2;exact this
 ·refine ⟨(⟨#[]⟩, -1), ⟨by show (0 : Nat) ≤ 4; omega, .inl rfl⟩, specN ?_, implN ?_⟩
  ·refine Ev.bindc (stands_f s hs a _ de_ a0 om_) ?_;rw [dF_ sn];exact Ev.ifn si_ (Ev.now _)
  ·refine Ev.bindc (cut_f s a _ a0 om_) ?_;rw [if_neg sn];exact Ev.bindc (a := Lib.indexByte (s.extract a.toNat s.size).data.toList 59) rfl (Ev.ifn si_ (Ev.now _))
def asInts (l : List UInt8) : List Int := l.map fun b => (b.toNat : Int)
theorem strOf_asInts (l : List UInt8) : strOfNums (asInts l) = ⟨l.toArray⟩ := by
 unfold strOfNums asInts;congr 2
 rw [List.map_map];conv => rhs; rw [← List.map_id l]
 apply List.map_congr_left
 intro b _;simp
theorem ext_iff (s : BA) (p : Int) (p0 : 0 ≤ p) (l : List UInt8) (h : p + l.length ≤ s.size) : (s.extract p.toNat (p + l.length).toNat).toList = l ↔ ∀ (j : Nat) (hj : j < l.length), bt s (p + j) = ((l[j]'hj).toNat : Int) := by
 rw [Lib.toList_data, ByteArray.data_extract, Array.toList_extract, List.extract_eq_take_drop];constructor
 ·intro e j hj;obtain ⟨b, e1, e2⟩ := bt_list s (p + j) om_ om_;have e3 := congrArg (fun x => x[j]?) e;simp only [List.getElem?_take, List.getElem?_drop] at e3;rw [if_pos om_, show p.toNat + j = (p + j).toNat by omega, e1, List.getElem?_eq_getElem hj] at e3;rw [e2, sI_ e3]
 ·intro e;apply List.ext_getElem?
  intro j;rw [List.getElem?_take, List.getElem?_drop];by_cases hj : j < l.length
  ·obtain ⟨b, e1, e2⟩ := bt_list s (p + j) om_ om_;rw [if_pos om_, show p.toNat + j = (p + j).toNat by omega, e1, List.getElem?_eq_getElem hj];have := e j hj;congr 1
   apply UInt8.toNat_inj.mp
   omega
  ·rw [if_neg om_, List.getElem?_eq_none om_]
abbrev endB : ByteArray := ⟨#[93, 93, 62]⟩
theorem stands3 (s : BA) (p : Int) (p0 : 0 ≤ p) : standsAt s p endB ↔ (p + 3 ≤ s.size ∧ bt s p = 93 ∧ bt s (p + 1) = 93 ∧ bt s (p + 2) = 62) := by
 have hl : endB.toList = [93, 93, 62] := by rw [Lib.toList_data]
 unfold standsAt;rw [hl];constructor
 ·rintro ⟨h1, h2⟩;have h1' : p + 3 ≤ s.size := h1;have := (ext_iff s p p0 [93, 93, 62] h1').1 h2;have a0 := this 0 si_;have a1 := this 1 si_;have a2 := this 2 si_;rw [show p + ((0 : Nat) : Int) = p by omega] at a0;exact ⟨h1', a0, a1, a2⟩
 ·rintro ⟨h1, h2, h3, h4⟩;refine ⟨h1, (ext_iff s p p0 [93, 93, 62] h1).2 (fun j hj => ?_)⟩;have hj' : j < 3 := hj;rcases (show j = 0 ∨ j = 1 ∨ j = 2 by omega) with rfl | rfl | rfl
  ·rw [show p + ((0 : Nat) : Int) = p by omega]; exact h2
  ·exact h3
  ·exact h4
theorem suffix_f (s : BA) (hs : s.size ≤ 1048576) (a i : Int) (a0 : 0 ≤ a) (ai : a ≤ i) (is : i ≤ s.size) : strings_HasSuffix.f (s.extract a.toNat i.toNat) ⟨#[93, 93]⟩ = some (decide (a + 2 ≤ i ∧ bt s (i - 2) = 93 ∧ bt s (i - 1) = 93)) := by
 unfold strings_HasSuffix.f stringslite_HasSuffix.f;have hsz : (s.extract a.toNat i.toNat).size = i.toNat - a.toNat := by rw [ByteArray.size_extract]; omega
 have h2 : ((⟨#[93, 93]⟩ : BA).size : Int) = 2 := rfl;have hl : (⟨#[93, 93]⟩ : BA).toList = [93, 93] := by rw [Lib.toList_data]
 rw [hsz, h2, hl];by_cases c : a + 2 ≤ i
 ·have hw : wrap64 (((i.toNat - a.toNat : Nat) : Int) - 2) = i - a - 2 := by unfold wrap64; omega
  have hx : (s.extract a.toNat i.toNat).extract (i - a - 2).toNat (i.toNat - a.toNat) = s.extract (i - 2).toNat (i - 2 + ([93, 93] : List UInt8).length).toNat := by
   rw [ByteArray.extract_extract];congr 1
   ·omega
   ·show _ = (i - 2 + ((2 : Nat) : Int)).toNat;omega
  rw [if_pos om_, hw, if_pos om_, if_pos om_, Option.bind_some, hx];congr 1
  have hi := ext_iff s (i - 2) om_ [93, 93] (by show i - 2 + 2 ≤ _; omega);by_cases e : bt s (i - 2) = 93 ∧ bt s (i - 1) = 93
  ·rw [dE_ (show a + 2 ≤ i ∧ bt s (i - 2) = 93 ∧ bt s (i - 1) = 93 from ⟨c, e⟩)];apply bQ_
   refine hi.2 (fun j hj => ?_);have hj' : j < 2 := hj;rcases (show j = 0 ∨ j = 1 by omega) with rfl | rfl
   ·rw [show i - 2 + ((0 : Nat) : Int) = i - 2 by omega]; exact e.1
   ·rw [show i - 2 + ((1 : Nat) : Int) = i - 1 by omega]; exact e.2
  ·rw [dF_ (show ¬ (a + 2 ≤ i ∧ bt s (i - 2) = 93 ∧ bt s (i - 1) = 93) from fun h => e h.2)];apply bN_
   intro h;have hh := hi.1 h;have b0 := hh 0 si_;have b1 := hh 1 si_;rw [show i - 2 + ((0 : Nat) : Int) = i - 2 by omega] at b0;rw [show i - 2 + ((1 : Nat) : Int) = i - 1 by omega] at b1;exact e ⟨b0, b1⟩
 ·rw [if_neg om_, Option.bind_some, dF_ (fun h => c h.1)]
theorem put_low (c : Int) (h0 : 0 ≤ c) (h1 : c < 128) : putF c = strOfNums [c % 256] := by
 unfold putF;rw [if_pos (by unfold signOk; rw [dE_ om_, dF_ om_]; rfl)];unfold put0;rw [if_pos h1]
theorem nums_data (l : List Int) : (strOfNums l).data.toList = l.map fun n => n.toNat.toUInt8 := by
 unfold strOfNums;first | rfl | simp
theorem put_low_list (c : Int) (h0 : 0 ≤ c) (h1 : c < 128) : (putF c).toList = [c.toNat.toUInt8] := by
 rw [put_low c h0 h1, Lib.toList_data, nums_data];rw [List.map_cons, List.map_nil, show c % 256 = c by omega]
theorem put0_high (x : Int) (h0 : 128 ≤ x) (h1 : x ≤ 1114111) : ∀ b ∈ (put0 x).data.toList, 128 ≤ b.toNat := by
 have hb : ∀ n : Int, 128 ≤ n → n < 256 → 128 ≤ (n.toNat.toUInt8).toNat := fun n _ _ => by
  have : (n.toNat.toUInt8).toNat = n.toNat := by simp; omega
  omega
 have hr : ∀ (l : List Int), (∀ n ∈ l, 128 ≤ n ∧ n < 256) → ∀ b ∈ (strOfNums l).data.toList, 128 ≤ b.toNat := fun l hl b hm => by
  rw [nums_data] at hm;obtain ⟨n, hn, rfl⟩ := List.mem_map.1 hm;exact hb n (hl n hn).1 (hl n hn).2
 unfold put0;rw [if_neg om_];split
 ·apply hr
  intro n hn;simp only [List.mem_cons, List.not_mem_nil, or_false] at hn;rcases hn with rfl | rfl <;> omega
 ·split
  ·apply hr
   intro n hn;simp only [List.mem_cons, List.not_mem_nil, or_false] at hn;rcases hn with rfl | rfl | rfl <;> omega
  ·apply hr
   intro n hn;simp only [List.mem_cons, List.not_mem_nil, or_false] at hn;rcases hn with rfl | rfl | rfl | rfl <;> omega
theorem put_high (n : Int) (h : 2 ≤ (putF n).toList.length) : ∀ b ∈ (putF n).toList, 128 ≤ b.toNat := by
 rw [Lib.toList_data] at h ⊢;unfold putF at h ⊢;split at h
 ·rename_i hs
  rw [if_pos hs];have hs' := hs;simp only [signOk, Bool.and_eq_true, decide_eq_true_eq] at hs';by_cases c : n < 128
  ·unfold put0 at h;rw [if_pos c, nums_data] at h;simp at h
  ·exact put0_high n om_ om_
 ·rename_i hs
  rw [if_neg hs];exact put0_high 65533 om_ om_
abbrev qEnd : ByteArray := ⟨#[34]⟩
theorem find_l (x : BA) (hm : x.size ≤ 1048576) (c : Int) : ∀ (d : Nat) (j : Int), ((x.size : Int) - j).toNat ≤ d → 0 ≤ j → ∃ r : Int, Ev (fun k => spec_l4Find.l0 k x j c) r ∧ (0 ≤ r ↔ ∃ i : Int, j ≤ i ∧ i < (x.size : Int) ∧ bt x i = c) := by
 intro d;induction d with
 | zero =>
  intro j hd h0;refine ⟨-1, ?_, ⟨fun h => absurd h de_, fun ⟨i, h1, h2, _⟩ => by omega⟩⟩;refine Ev.step (fun k => by simp only [spec_l4Find.l0]; rfl) ?_;exact Ev.ifn om_ (Ev.now _)
 | succ d ih =>
  intro j hd h0;by_cases hj : j < (x.size : Int)
  case neg => exact ih j om_ h0
  have hw : wrap64 (j + 1) = j + 1 := by unfold wrap64; omega
  by_cases hc : bt x j = c
  ·refine ⟨j, ?_, ⟨fun _ => ⟨j, Int.le_refl _, hj, hc⟩, fun _ => h0⟩⟩;refine Ev.step (fun k => by simp only [spec_l4Find.l0]; rfl) ?_;exact Ev.ifp hj (Ev.ifp h0 (Ev.ifp hc (Ev.now _)))
  ·obtain ⟨r, e1, e2⟩ := ih (j + 1) om_ om_;refine ⟨r, ?_, ⟨fun h => ?_, fun ⟨i, h1, h2, h3⟩ => e2.2 ⟨i, ?_, h2, h3⟩⟩⟩
   ·refine Ev.step (fun k => by simp only [spec_l4Find.l0]; rfl) ?_;refine Ev.ifp hj (Ev.ifp h0 (Ev.ifn hc ?_));rw [hw];exact e1
   ·obtain ⟨i, h1, h2, h3⟩ := e2.1 h;exact ⟨i, om_, h2, h3⟩
   ·by_cases ce : i = j
    ·subst ce; exact absurd h3 hc
    ·omega
theorem bt_mem (x : BA) (c : UInt8) : (∃ i : Int, 0 ≤ i ∧ i < (x.size : Int) ∧ bt x i = (c.toNat : Int)) ↔ c ∈ x.data.toList := by
 constructor
 ·rintro ⟨i, h0, h1, h2⟩;obtain ⟨b, e1, e2⟩ := bt_list x i h0 h1;have : b = c := by apply UInt8.toNat_inj.mp; omega
  subst this;exact List.mem_of_getElem? e1
 ·intro h;obtain ⟨j, hj⟩ := List.getElem?_of_mem h;have hlt : j < x.size := by
   have := (List.getElem?_eq_some_iff.1 hj).1;rw [← Lib.size_eq] at this;exact this
  obtain ⟨b, e1, e2⟩ := bt_list x j om_ om_;rw [show ((j : Int)).toNat = j by omega, hj] at e1;obtain rfl := sI_ e1;exact ⟨j, om_, om_, e2⟩
def inE (en : BA) (c : Int) : Prop := c.toNat.toUInt8 ∈ en.data.toList
theorem u8_back (c : Int) (h0 : 0 ≤ c) (h1 : c ≤ 255) : ((c.toNat.toUInt8).toNat : Int) = c := by
 have : (c.toNat.toUInt8).toNat = c.toNat := by simp; omega
 omega
theorem find_e (en : BA) (hen : en.size ≤ 1048576) (c : Int) (h0 : 0 ≤ c) (h1 : c ≤ 255) : ∃ r : Int, Ev (fun k => spec_l4Find.f k en 0 c) r ∧ (0 ≤ r ↔ inE en c) := by
 obtain ⟨r, e1, e2⟩ := find_l en hen c _ 0 (Nat.le_refl _) (Int.le_refl _);have := bt_mem en c.toNat.toUInt8;rw [u8_back c h0 h1] at this;exact ⟨r, e1, e2.trans this⟩
theorem index_e (en : BA) (c : Int) : ∃ r : Int, strings_IndexByte.f en c = some r ∧ (0 ≤ r ↔ inE en c) := by
 refine ⟨_, rfl, ?_⟩;have := Lib.contains_iff_indexByte en.data.toList c.toNat.toUInt8;unfold inE;constructor
 ·intro h;rw [dE_ h] at this;simpa using this
 ·intro h;have h2 : en.data.toList.contains c.toNat.toUInt8 = true := by simpa using h
  rw [h2] at this;exact of_decide_eq_true this.symm
theorem xt_ascii (s : BA) (hs : s.size ≤ 1048576) (a i c : Int) (a0 : 0 ≤ a) (ai : a ≤ i) (is : i < s.size) (hc : bt s i = c) (c0 : 0 ≤ c) (c1 : c < 128) (en : BA) (hne : ¬ inE en c) (n38 : c ≠ 38) (out : List UInt8) {r : ByteArray × Int}
  (h : Ev (fun k => xtSign (xtL k s a en) s a i c 1 out) r) : Ev (fun k => xtL k s a en i out) r := by
 obtain ⟨q, q1, q4, ⟨qe, qn, qa⟩, e1, e2⟩ := clean_both s hs i om_ is;obtain rfl := qa om_;have hcl : (putF (bt s i)).toList = (s.extract i.toNat (i + 1).toNat).toList := by
  rw [put_low_list _ om_ om_];refine ((ext_iff s i om_ [(bt s i).toNat.toUInt8] (by show i + 1 ≤ _; omega)).2 (fun j hj => ?_)).symm;have hj0 : j = 0 := by have : j < 1 := hj; omega
  subst hj0;rw [show i + ((0 : Nat) : Int) = i by omega];show bt s i = (((bt s i).toNat.toUInt8).toNat : Int);have : ((bt s i).toNat.toUInt8).toNat = (bt s i).toNat := by simp; omega
  rw [this];omega
 rw [if_pos hcl] at e2;refine Ev.step (fun k => by simp only [xtL]; rfl) ?_;refine Ev.ifp om_ (Ev.ifp is ?_);obtain ⟨ri, hri, hri2⟩ := index_e en (bt s i);refine Ev.bindc hri (Ev.ifp (by have := mt hri2.1 (by rw [hc]; exact hne); omega) (Ev.ifn om_ (Ev.bind e2 ?_)));rw [hc];exact h
theorem dead_end (en : BA) (n93 : ¬ inE en 93) (n62 : ¬ inE en 62) (s : BA) (hs : s.size ≤ 1048576) (a i : Int) (a0 : 0 ≤ a) (ai : a ≤ i) (hst : standsAt s i endB) (out : List UInt8) (ho : out.length ≤ 140737488355000) : Ev (fun k => xtL k s a en i out) (⟨#[]⟩, -1) := by
 obtain ⟨h3, b0, b1, b2⟩ := (stands3 s i om_).1 hst;have one : ∀ j : Int, 0 ≤ j → j < s.size → (s.extract j.toNat (j + 1).toNat).size = 1 := fun j _ _ => by rw [ByteArray.size_extract]; omega
 have step : ∀ (j : Int) (o : List UInt8), a ≤ j → j < s.size → bt s j = 93 → o.length ≤ 140737488355100 → (∀ o' : List UInt8, o'.length = o.length + 1 → Ev (fun k => xtL k s a en (j + 1) o') (⟨#[]⟩, -1)) → Ev (fun k => xtL k s a en j o) (⟨#[]⟩, -1) := fun j o h0 h1 hb hol hn => by
  have hw : wrap64 (j + 1) = j + 1 := by unfold wrap64; omega
  have h1z := one j om_ h1;refine xt_ascii s hs a j 93 a0 h0 h1 hb om_ om_ en n93 om_ o ?_;unfold xtSign;refine Ev.ifn de_ (Ev.bindc (implIsT 93) (Ev.ifp de_ (Ev.ifn de_ (Ev.ifn de_ (Ev.ifn de_ ?_)))));unfold xtGo;rw [hw];refine Ev.ifp ⟨om_, om_, om_⟩ ?_;exact hn _ (by rw [List.length_append, ← Lib.size_eq, h1z])
 refine step i out ai om_ b0 om_ (fun o1 l1 => step (i + 1) o1 om_ om_ b1 om_ (fun o2 l2 => ?_));rw [show i + 1 + 1 = i + 2 by omega];refine xt_ascii s hs a (i + 2) 62 a0 om_ om_ b2 om_ om_ en n62 om_ o2 ?_;unfold xtSign;refine Ev.ifn de_ (Ev.bindc (implIsT 62) (Ev.ifp de_ (Ev.ifn de_ (Ev.ifn de_ (Ev.ifp rfl (Ev.ifp ⟨a0, om_, om_⟩ (Ev.bindc (suffix_f s hs a (i + 2) a0 om_ om_) ?_)))))));rw [dE_ (show a + 2 ≤ i + 2 ∧ bt s (i + 2 - 2) = 93 ∧ bt s (i + 2 - 1) = 93 from ⟨om_, by rw [show i + 2 - 2 = i by omega]; exact b0, by rw [show i + 2 - 1 = i + 1 by omega]; exact b1⟩)];exact Ev.ifp rfl (Ev.now _)
def TextAll (en s : BA) (a i : Int) (q : ByteArray × Int) : Prop := q.2 = -1 ∨ (i ≤ q.2 ∧ q.2 ≤ s.size ∧ (q.1.size : Int) ≤ q.2 - a ∧ (i < s.size → ¬ inE en (bt s i) → i < q.2))
theorem text_l (en : BA) (hen : en.size ≤ 1048576) (s : BA) (hs : s.size ≤ 1048576) (a : Int) (a0 : 0 ≤ a) : ∀ (d : Nat) (i : Int) (out : List UInt8), ((s.size : Int) - i).toNat ≤ d → a ≤ i → i ≤ s.size → (out.length : Int) ≤ i - a → (¬ inE en 62 → ∀ p : Int, a ≤ p → p < i → ¬ standsAt s p endB) →
  ∃ q : ByteArray × Int, TextAll en s a i q ∧ Ev (fun k => xsL k s en i (asInts out)) q ∧ Ev (fun k => xtL k s a en i out) q := by
 have hw3 : wrap64 (0 + 1) = 1 := by unfold wrap64; omega
 intro d;induction d with
 | zero =>
  intro i out hd ai is ho hno;have hi : ¬ i < (s.size : Int) := om_;refine ⟨(⟨out.toArray⟩, i), .inr ⟨Int.le_refl _, is, by show (out.length : Int) ≤ _; exact ho, fun h => absurd h hi⟩, ?_, ?_⟩
  ·refine Ev.step (fun k => by simp only [xsL]; rfl) ?_;refine Ev.ifp om_ (Ev.ifn hi ?_);rw [← strOf_asInts];exact Ev.now _
  ·refine Ev.step (fun k => by simp only [xtL]; rfl) ?_;exact Ev.ifp om_ (Ev.ifn hi (Ev.now _))
 | succ d ih =>
  intro i out hd ai is ho hno;by_cases hi : i < (s.size : Int)
  case neg => exact ih i out om_ ai is ho hno
  have hb := bt_range s i;have hlen : (asInts out).length = out.length := by simp [asInts]
  have i0 : 0 ≤ i := om_;obtain ⟨rf, erf, hrf⟩ := find_e en hen (bt s i) hb.1 hb.2;obtain ⟨ri, eri, hri⟩ := index_e en (bt s i);by_cases c34 : inE en (bt s i)
  ·refine ⟨(⟨out.toArray⟩, i), .inr ⟨Int.le_refl _, is, by show (out.length : Int) ≤ _; exact ho, fun _ h => absurd c34 h⟩, ?_, ?_⟩
   ·refine Ev.step (fun k => by simp only [xsL]; rfl) ?_;refine Ev.ifp i0 (Ev.ifp hi (Ev.bind erf (Ev.ifn (by have := hrf.2 c34; omega) ?_)));rw [← strOf_asInts];exact Ev.now _
   ·refine Ev.step (fun k => by simp only [xtL]; rfl) ?_;exact Ev.ifp i0 (Ev.ifp hi (Ev.bindc eri (Ev.ifn (by have := hri.2 c34; omega) (Ev.now _))))
  have spec1 : ∀ {q : ByteArray × Int}, Ev (fun n => if bt s i = 38 then (spec_XmlRef.f n s i).bind fun tn => if tn.2 < 0 then some (⟨#[]⟩, -1) else if (asInts out).length + tn.1.size ≤ 140737488355327 then xsL n s en tn.2 (asInts out ++ bytesOf tn.1) else none
      else (spec_GetSign.f n s i).bind fun c => xsSign n (xsL n s en) s en i c.1 c.2 (asInts out)) q → Ev (fun k => xsL k s en i (asInts out)) q := fun h => by
   refine Ev.step (fun k => by simp only [xsL]; rfl) ?_;exact Ev.ifp i0 (Ev.ifp hi (Ev.bind erf (Ev.ifp (by have := mt hrf.1 c34; omega) h)))
  have impl1 : ∀ {q : ByteArray × Int}, Ev (fun n => if bt s i = 38 then (impl_XmlRef.f n s i).bind fun tn => if tn.2 < 0 then some (⟨#[]⟩, -1) else if out.length + tn.1.size ≤ 140737488355327 then xtL n s a en tn.2 (out ++ tn.1.data.toList) else none
      else (impl_cleanSign.f n s i).bind fun c => xtSign (xtL n s a en) s a i c.1 c.2 out) q → Ev (fun k => xtL k s a en i out) q := fun h => by
   refine Ev.step (fun k => by simp only [xtL]; rfl) ?_;exact Ev.ifp i0 (Ev.ifp hi (Ev.bindc eri (Ev.ifp (by have := mt hri.1 c34; omega) h)))
  by_cases c38 : bt s i = 38
  ·obtain ⟨q, ⟨qz, qr⟩, e1, e2⟩ := ref_both s hs i i0 hi c38;rcases qr with qm | ⟨q1, q2, q3⟩
   ·refine ⟨(⟨#[]⟩, -1), .inl rfl, spec1 ?_, impl1 ?_⟩
    ·exact Ev.ifp c38 (Ev.bind e1 (Ev.ifp om_ (Ev.now _)))
    ·exact Ev.ifp c38 (Ev.bind e2 (Ev.ifp om_ (Ev.now _)))
   ·obtain ⟨r, r1, r2, r3⟩ := ih q.2 (out ++ q.1.data.toList) om_ om_ q2 (by rw [List.length_append, ← Lib.size_eq]; omega) (fun c62 p p0 p1 h => by
     by_cases c : p < i
     ·exact hno c62 p p0 c h
     ·exact q3 p om_ p1 ((stands3 s p om_).1 h).2.1)
    refine ⟨r, r1.imp id (fun h => ⟨om_, h.2.1, h.2.2.1, fun _ _ => by omega⟩), spec1 ?_, impl1 ?_⟩
    ·refine Ev.ifp c38 (Ev.bind e1 (Ev.ifn om_ (Ev.ifp (by rw [hlen]; omega) ?_)));rw [show asInts out ++ bytesOf q.1 = asInts (out ++ q.1.data.toList) by simp [asInts, bytesOf]];exact r2
    ·exact Ev.ifp c38 (Ev.bind e2 (Ev.ifn om_ (Ev.ifp om_ r3)))
  obtain ⟨q, q1, q4, ⟨qe, qn, qa⟩, e1, e2⟩ := clean_both s hs i i0 hi;have hw : wrap64 (i + q.2) = i + q.2 := by unfold wrap64; omega
  have hxs : (s.extract i.toNat (i + q.2).toNat).size = q.2.toNat := by rw [ByteArray.size_extract]; omega
  have spec2 : ∀ {r : ByteArray × Int}, Ev (fun n => xsSign n (xsL n s en) s en i q.1 q.2 (asInts out)) r → Ev (fun k => xsL k s en i (asInts out)) r := fun h => spec1 (Ev.ifn c38 (Ev.bind e1 h))
  by_cases cc : (putF q.1).toList = (s.extract i.toNat (i + q.2).toNat).toList
  case neg =>
   rw [if_neg cc] at e2;refine ⟨(⟨#[]⟩, -1), .inl rfl, spec2 ?_, impl1 (Ev.ifn c38 (Ev.bind e2 ?_))⟩
   ·unfold xsSign;rw [hw];refine Ev.bindc (specIsT q.1) ?_;by_cases t1 : isT q.1 = true
    ·refine Ev.ifp t1 ?_;by_cases t2 : q.1 = 13
     ·exact Ev.ifp t2 (Ev.now _)
     refine Ev.ifn t2 ?_;by_cases t3 : q.1 = 60
     ·exact Ev.ifp t3 (Ev.now _)
     exact Ev.ifn t3 (Ev.bind (Ev.up 1 (fun k => specPut_f k q.1)) (Ev.ifp ⟨om_, qe⟩ (Ev.ifn cc (Ev.now _))))
    ·exact Ev.ifn t1 (Ev.now _)
   ·unfold xtSign;exact Ev.ifp de_ (Ev.now _)
  rw [if_pos cc] at e2;have impl2 : ∀ {r : ByteArray × Int}, Ev (fun n => xtSign (xtL n s a en) s a i q.1 q.2 out) r → Ev (fun k => xtL k s a en i out) r := fun h => impl1 (Ev.ifn c38 (Ev.bind e2 h))
  by_cases t1 : isT q.1 = true
  case neg =>
   refine ⟨(⟨#[]⟩, -1), .inl rfl, spec2 ?_, impl2 ?_⟩
   ·unfold xsSign;exact Ev.bindc (specIsT q.1) (Ev.ifn t1 (Ev.now _))
   ·unfold xtSign;exact Ev.ifn om_ (Ev.bindc (implIsT q.1) (Ev.ifn t1 (Ev.now _)))
  have impl3 : ∀ {r : ByteArray × Int}, Ev (fun n => (if q.1 = 13 then some (⟨#[]⟩, -1) else if q.1 = 60 then some (⟨#[]⟩, -1)
   else if q.1 = 62 then (if 0 ≤ a ∧ a ≤ i ∧ i ≤ (s.size : Int) then (strings_HasSuffix.f (s.extract a.toNat i.toNat) ⟨#[93, 93]⟩).bind fun h => if h = true then some (⟨#[]⟩, -1) else xtGo (xtL n s a en) s i q.2 out else none)
   else xtGo (xtL n s a en) s i q.2 out)) r → Ev (fun k => xtL k s a en i out) r := fun h => impl2 (by
   unfold xtSign;refine Ev.ifn om_ (Ev.bindc (implIsT q.1) ?_);exact Ev.ifp t1 h)
  have spec3 : ∀ {r : ByteArray × Int}, Ev (fun n => (if q.1 = 13 then some (⟨#[]⟩, -1) else if q.1 = 60 then some (⟨#[]⟩, -1)
   else (spec_PutSign.f n q.1).bind fun p =>
    if i ≤ i + q.2 ∧ i + q.2 ≤ (s.size : Int) then
     (if p.toList = (s.extract i.toNat (i + q.2).toNat).toList then
      (spec_l5Stands.f s i ⟨#[93, 93, 62]⟩).bind fun h => if h = true then (spec_l4Find.f n en 0 62).bind fun z => (if z < 0 then some (⟨#[]⟩, -1) else xsGo (xsL n s en) s i q.2 (asInts out)) else xsGo (xsL n s en) s i q.2 (asInts out)
     else some (⟨#[]⟩, -1))
    else none)) r → Ev (fun k => xsL k s en i (asInts out)) r := fun h => spec2 (by
   unfold xsSign;rw [hw];refine Ev.bindc (specIsT q.1) ?_;exact Ev.ifp t1 h)
  by_cases t2 : q.1 = 13
  ·exact ⟨(⟨#[]⟩, -1), .inl rfl, spec3 (Ev.ifp t2 (Ev.now _)), impl3 (Ev.ifp t2 (Ev.now _))⟩
  by_cases t3 : q.1 = 60
  ·exact ⟨(⟨#[]⟩, -1), .inl rfl, spec3 (Ev.ifn t2 (Ev.ifp t3 (Ev.now _))), impl3 (Ev.ifn t2 (Ev.ifp t3 (Ev.now _)))⟩
  have hsf := stands_f s hs i endB de_ i0 is;obtain ⟨r6, e6, h6⟩ := find_e en hen 62 de_ de_;by_cases cs : standsAt s i endB ∧ ¬ inE en 62
  ·refine ⟨(⟨#[]⟩, -1), .inl rfl, spec3 ?_, dead_end en (by rw [← ((stands3 s i i0).1 cs.1).2.1]; exact c34) cs.2 s hs a i a0 ai cs.1 out om_⟩;refine Ev.ifn t2 (Ev.ifn t3 (Ev.bind (Ev.up 1 (fun k => specPut_f k q.1)) (Ev.ifp ⟨om_, qe⟩ (Ev.ifp cc (Ev.bindc hsf ?_)))));rw [dE_ cs.1];exact Ev.ifp rfl (Ev.bind e6 (Ev.ifp (by have := mt h6.1 cs.2; omega) (Ev.now _)))
  have hcl : (putF q.1).toList.length = q.2.toNat := by rw [cc, Lib.toList_data, ← Lib.size_eq, hxs]
  have hby := (ext_iff s i i0 (putF q.1).toList (by rw [hcl]; omega)).1 (by rw [hcl, show i + ((q.2.toNat : Nat) : Int) = i + q.2 by omega]; exact cc.symm);obtain ⟨r, r1, r2, r3⟩ := ih (i + q.2) (out ++ (s.extract i.toNat (i + q.2).toNat).data.toList) om_ om_ qe (by rw [List.length_append, ← Lib.size_eq, hxs]; omega) (fun c62 p p0 p1 h => by
   by_cases c : p < i
   ·exact hno c62 p p0 c h
   ·by_cases ce : p = i
    ·subst ce; exact cs ⟨h, c62⟩
    ·have h93 := ((stands3 s p om_).1 h).2.1;have hj : (p - i).toNat < (putF q.1).toList.length := by rw [hcl]; omega
     have hbp := hby (p - i).toNat hj;rw [show i + (((p - i).toNat : Nat) : Int) = p by omega] at hbp;have := put_high q.1 (by rw [hcl]; omega) _ (List.getElem_mem hj);omega)
  refine ⟨r, r1.imp id (fun h => ⟨om_, h.2.1, h.2.2.1, fun _ _ => by omega⟩), spec3 ?_, impl3 ?_⟩
  ·refine Ev.ifn t2 (Ev.ifn t3 (Ev.bind (Ev.up 1 (fun k => specPut_f k q.1)) (Ev.ifp ⟨om_, qe⟩ (Ev.ifp cc (Ev.bindc hsf ?_)))));have goS : Ev (fun n => xsGo (xsL n s en) s i q.2 (asInts out)) r := by
    unfold xsGo;rw [hw];refine Ev.ifp (by rw [hlen, hxs]; omega) ?_;rw [show asInts out ++ bytesOf (s.extract i.toNat (i + q.2).toNat) = asInts (out ++ (s.extract i.toNat (i + q.2).toNat).data.toList) by simp [asInts, bytesOf]];exact r2
   by_cases st : standsAt s i endB
   ·rw [dE_ st];refine Ev.ifp rfl (Ev.bind e6 ?_);have h62 : inE en 62 := Classical.byContradiction fun h => cs ⟨st, h⟩
    exact Ev.ifn (by have := h6.2 h62; omega) goS
   ·rw [dF_ st];exact Ev.ifn si_ goS
  ·have go : Ev (fun n => xtGo (xtL n s a en) s i q.2 out) r := by
    unfold xtGo;rw [hw];exact Ev.ifp ⟨om_, qe, by rw [hxs]; omega⟩ r3
   refine Ev.ifn t2 (Ev.ifn t3 ?_);by_cases t4 : q.1 = 62
   ·refine Ev.ifp t4 (Ev.ifp ⟨a0, ai, is⟩ (Ev.bindc (suffix_f s hs a i a0 ai is) ?_));have hp62 : (putF q.1).toList = [62] := by rw [t4, put_low_list 62 de_ de_]; rfl
    have hb62 : bt s i = 62 := by
     have := hby 0 (by rw [hp62]; decide);rw [show i + ((0 : Nat) : Int) = i by omega] at this;rw [this];simp only [hp62];rfl
    rw [dF_ (fun h => hno (by rw [← hb62]; exact c34) (i - 2) om_ om_ ((stands3 s (i - 2) om_).2 ⟨om_, h.2.1, by rw [show i - 2 + 1 = i - 1 by omega]; exact h.2.2, by rw [show i - 2 + 2 = i by omega]; exact hb62⟩))];exact Ev.ifn si_ go
   ·exact Ev.ifn t4 go
theorem text_more (en : BA) (hen : en.size ≤ 1048576) (s : BA) (hs : s.size ≤ 1048576) (a : Int) (a0 : 0 ≤ a) : ∃ q : ByteArray × Int, TextAll en s a a q ∧ Ev (fun k => spec_XmlText.f k s a en) q ∧ Ev (fun k => impl_XmlText.f k s a en) q := by
 by_cases c : a ≤ s.size
 ·obtain ⟨q, h1, h2, h3⟩ := text_l en hen s hs a a0 _ a [] (Nat.le_refl _) (Int.le_refl _) c si_ (fun _ p p0 p1 => absurd p1 om_);refine ⟨q, h1, ?_, ?_⟩
  ·unfold spec_XmlText.f;exact Ev.ifn om_ (Ev.ifn om_ h2)
  ·unfold impl_XmlText.f;refine Ev.bindc (inRange_f _ _ _) ?_;rw [dE_ (show 0 ≤ a ∧ a ≤ (s.size : Int) from ⟨a0, c⟩)];exact Ev.ifp rfl h3
 ·refine ⟨(⟨#[]⟩, -1), .inl rfl, ?_, ?_⟩
  ·unfold spec_XmlText.f;exact Ev.ifn om_ (Ev.ifp om_ (Ev.now _))
  ·unfold impl_XmlText.f;refine Ev.bindc (inRange_f _ _ _) ?_;rw [dF_ (show ¬ (0 ≤ a ∧ a ≤ (s.size : Int)) from fun h => c h.2)];exact Ev.ifn si_ (Ev.now _)
theorem signs_both (s : BA) (hs : s.size ≤ 1048576) : ∃ l : List Int, l.length ≤ s.size ∧ Ev (fun k => spec_Signs.f k s) l ∧ Ev (fun k => impl_Signs.f k s) l := by
 have key : ∀ (d : Nat) (j : Int) (o : List Int), 0 ≤ j → ((s.size : Int) - j).toNat ≤ d → o.length ≤ j.toNat → o.length ≤ s.size → ∃ l : List Int, l.length ≤ s.size ∧ Ev (fun k => spec_Signs.l0 k s o j) l ∧ Ev (fun k => impl_Signs.l0 k s o j) l := by
  intro d;induction d with
  | zero =>
   intro j o h0 hd ho hos;exact ⟨o, hos, Ev.step (fun k => by simp only [spec_Signs.l0]; rfl) (Ev.ifn om_ (Ev.now _)), Ev.step (fun k => by simp only [impl_Signs.l0]; rfl) (Ev.ifn om_ (Ev.now _))⟩
  | succ d ih =>
   intro j o h0 hd ho hos;by_cases hj : j < (s.size : Int)
   ·obtain ⟨q, q1, q2, _, e1, e2⟩ := sign_both s hs j h0 hj;have hw : wrap64 (j + q.2) = j + q.2 := by unfold wrap64; omega
    obtain ⟨l, hl, g1, g2⟩ := ih (j + q.2) (o ++ [q.1]) om_ om_ (by rw [List.length_append, List.length_singleton]; omega) (by rw [List.length_append, List.length_singleton]; omega);rw [← hw] at g1 g2;exact ⟨l, hl, Ev.step (fun k => by simp only [spec_Signs.l0]; rfl) (Ev.ifp hj (Ev.bind e1 (Ev.ifp (show o.length < 17592186044416 by omega) g1))), Ev.step (fun k => by simp only [impl_Signs.l0]; rfl) (Ev.ifp hj (Ev.bind e2 (Ev.ifp (show o.length < 17592186044416 by omega) g2)))⟩
   ·exact ⟨o, hos, Ev.step (fun k => by simp only [spec_Signs.l0]; rfl) (Ev.ifn hj (Ev.now _)), Ev.step (fun k => by simp only [impl_Signs.l0]; rfl) (Ev.ifn hj (Ev.now _))⟩
 obtain ⟨l, hl, e1, e2⟩ := key s.size 0 [] om_ om_ si_ si_;exact ⟨l, hl, e1, e2⟩
theorem sg_ex : ∀ (l : List Int) (o : List UInt8), o.length + 4 * l.length ≤ 140737488355327 → ∃ t : ByteArray, t.size ≤ o.length + 4 * l.length ∧ ∀ ps : Nat → Int → Option ByteArray, (∀ k n, ps (k + 1) n = some (putF n)) → Ev (fun k => sgF (ps k) l o) t
 | [], o, h => ⟨⟨o.toArray⟩, by simp [ByteArray.size], fun ps hp => by simp only [sgF]; exact Ev.now _⟩
 | n :: r, o, h => by
  have h4 := putF_size n;rw [List.length_cons] at h;have hl : (o ++ (putF n).data.toList).length = o.length + (putF n).size := by rw [List.length_append, data_length]
  obtain ⟨t, ht, e⟩ := sg_ex r (o ++ (putF n).data.toList) (by rw [hl]; omega);refine ⟨t, by rw [hl] at ht; rw [List.length_cons]; omega, fun ps hp => ?_⟩;simp only [sgF];exact Ev.bind (Ev.up 1 (fun k => hp k n)) (Ev.ifp om_ (e ps hp))
theorem clean_text_both (s : BA) (hs : s.size ≤ 1048576) : ∃ l : List Int, ∃ t : ByteArray, l.length ≤ s.size ∧ t.size ≤ 4194304 ∧ Ev (fun k => spec_Signs.f k s) l ∧ Ev (fun k => impl_Signs.f k s) l ∧ Ev (fun k => spec_SignText.f k l) t ∧ Ev (fun k => impl_SignText.f k l) t := by
 obtain ⟨l, hl, e1, e2⟩ := signs_both s hs;obtain ⟨t, ht, e3⟩ := sg_ex l [] (by simp; omega);refine ⟨l, t, hl, by simp at ht; omega, e1, e2, ?_, ?_⟩
 ·unfold spec_SignText.f; exact e3 _ specPut_f
 ·unfold impl_SignText.f; exact e3 _ implPut_f
theorem all_text (l : List Int) (hl : l.length ≤ 1048576) (b : Bool) (S I : Nat → Option Bool) (hS : Ev S b) (hI : Ev I b) (s : BA)
  (fS : ∀ k j, spec_TextOk.l0 (k + 1) s l j = if j < (l.length : Int) then (if 0 ≤ j then ((spec_IsText.f (rd l j)).bind fun t433 => (if t433 = true then (spec_TextOk.l0 k s l (wrap64 (j + 1))) else (some false))) else (none)) else (S k))
  (fI : ∀ k j, impl_TextOk.l0 (k + 1) s l (l.length : Int) j = if j < (l.length : Int) then (if 0 ≤ j then (if j < (l.length : Int) then ((impl_IsText.f (rd l j)).bind fun t403 => (if t403 = true then (impl_TextOk.l0 k s l (l.length : Int) (wrap64 (j + 1))) else (some false))) else (none)) else (none)) else (I k)) :
  ∀ (d : Nat) (j : Int), 0 ≤ j → ((l.length : Int) - j).toNat ≤ d → ∃ r : Bool, Ev (fun k => spec_TextOk.l0 k s l j) r ∧ Ev (fun k => impl_TextOk.l0 k s l (l.length : Int) j) r := by
 intro d;induction d with
 | zero =>
  intro j h0 hd;refine ⟨b, ?_, ?_⟩
  ·refine Ev.step (fun k => fS k j) ?_;exact Ev.ifn om_ hS
  ·refine Ev.step (fun k => fI k j) ?_;exact Ev.ifn om_ hI
 | succ d ih =>
  intro j h0 hd;by_cases hj : j < (l.length : Int)
  case neg => exact ih j h0 om_
  have hw : wrap64 (j + 1) = j + 1 := by unfold wrap64; omega
  obtain ⟨r, e1, e2⟩ := ih (j + 1) om_ om_;by_cases ht : isT (rd l j) = true
  ·refine ⟨r, ?_, ?_⟩
   ·refine Ev.step (fun k => fS k j) ?_;rw [hw];exact Ev.ifp hj (Ev.ifp h0 (Ev.bindc (specIsT _) (Ev.ifp ht e1)))
   ·refine Ev.step (fun k => fI k j) ?_;rw [hw];exact Ev.ifp hj (Ev.ifp h0 (Ev.ifp hj (Ev.bindc (implIsT _) (Ev.ifp ht e2))))
  ·refine ⟨false, ?_, ?_⟩
   ·refine Ev.step (fun k => fS k j) ?_;exact Ev.ifp hj (Ev.ifp h0 (Ev.bindc (specIsT _) (Ev.ifn ht (Ev.now _))))
   ·refine Ev.step (fun k => fI k j) ?_;exact Ev.ifp hj (Ev.ifp h0 (Ev.ifp hj (Ev.bindc (implIsT _) (Ev.ifn ht (Ev.now _)))))
theorem textOk_both (s : BA) (hs : s.size ≤ 1048576) : ∃ r : Bool, Ev (fun k => spec_TextOk.f k s) r ∧ Ev (fun k => impl_TextOk.f k s) r := by
 obtain ⟨l, t, hl, ht, e1, e2, e3, e4⟩ := clean_text_both s hs;have hS : Ev (fun k => (spec_CleanOk.f k s).bind fun t434 => (some t434)) (t.toList == s.toList) := by
  refine Ev.bind ?_ (Ev.now _);unfold spec_CleanOk.f spec_Clean.f;refine Ev.bind (Ev.bind e1 (Ev.bind e3 (Ev.now t))) (Ev.now _)
 have hI : Ev (fun k => (impl_CleanOk.f k s).bind fun t404 => (some t404)) (t.toList == s.toList) := by
  refine Ev.bind ?_ (Ev.now _);unfold impl_CleanOk.f impl_Clean.f;refine Ev.bind (Ev.bind e2 (Ev.bind e4 (Ev.now t))) (Ev.now _)
 obtain ⟨r, f1, f2⟩ := all_text l om_ _ _ _ hS hI s (fun k j => by rw [spec_TextOk.l0]) (fun k j => by rw [impl_TextOk.l0]) _ 0 om_ (Nat.le_refl _);refine ⟨r, ?_, ?_⟩
 ·unfold spec_TextOk.f;exact Ev.bind e1 f1
 ·unfold impl_TextOk.f;exact Ev.bind e2 f2
theorem search_l (s : BA) (hs : s.size ≤ 1048576) (nm : BA) (hn : nm.size ≤ 1000) (n1 : 1 ≤ nm.size) : ∀ (d : Nat) (i : Int), ((s.size : Int) - i).toNat ≤ d → 0 ≤ i → i ≤ s.size →
  ∃ r : Int, Ev (fun k => spec_l5Search.l0 k s i nm) r ∧ ((r = -1 ∧ ∀ j : Int, i ≤ j → ¬ standsAt s j nm) ∨ (i ≤ r ∧ standsAt s r nm ∧ ∀ j : Int, i ≤ j → j < r → ¬ standsAt s j nm)) := by
 intro d;induction d with
 | zero =>
  intro i hd h0 h1;have hw : wrap64 (i + (nm.size : Int)) = i + nm.size := by unfold wrap64; omega
  refine ⟨-1, ?_, .inl ⟨rfl, fun j hj h => by have := h.1; omega⟩⟩;refine Ev.step (fun k => by simp only [spec_l5Search.l0]; rfl) ?_;rw [hw];exact Ev.ifn om_ (Ev.now _)
 | succ d ih =>
  intro i hd h0 h1;have hw : wrap64 (i + (nm.size : Int)) = i + nm.size := by unfold wrap64; omega
  have hw1 : wrap64 (i + 1) = i + 1 := by unfold wrap64; omega
  by_cases c : i + nm.size ≤ s.size
  ·by_cases st : standsAt s i nm
   ·refine ⟨i, ?_, .inr ⟨Int.le_refl _, st, fun j h2 h3 => by omega⟩⟩;refine Ev.step (fun k => by simp only [spec_l5Search.l0]; rfl) ?_;rw [hw];refine Ev.ifp c (Ev.bindc (stands_f s hs i nm om_ h0 h1) ?_);rw [dE_ st];exact Ev.ifp rfl (Ev.now _)
   ·obtain ⟨r, e1, e2⟩ := ih (i + 1) om_ om_ om_;refine ⟨r, ?_, ?_⟩
    ·refine Ev.step (fun k => by simp only [spec_l5Search.l0]; rfl) ?_;rw [hw, hw1];refine Ev.ifp c (Ev.bindc (stands_f s hs i nm om_ h0 h1) ?_);rw [dF_ st];exact Ev.ifn si_ e1
    ·have ex : ∀ j : Int, i ≤ j → (i + 1 ≤ j → ¬ standsAt s j nm) → ¬ standsAt s j nm := fun j hj hh => by
      by_cases e : j = i
      ·rw [e]; exact st
      ·exact hh om_
     rcases e2 with ⟨h3, h4⟩ | ⟨h3, h4, h5⟩
     ·exact .inl ⟨h3, fun j hj => ex j hj (h4 j)⟩
     ·exact .inr ⟨om_, h4, fun j hj hr => ex j hj (fun h6 => h5 j h6 hr)⟩
  ·refine ⟨-1, ?_, .inl ⟨rfl, fun j hj h => by have := h.1; omega⟩⟩;refine Ev.step (fun k => by simp only [spec_l5Search.l0]; rfl) ?_;rw [hw];exact Ev.ifn c (Ev.now _)
theorem occ_iff (s nm : BA) (n1 : 1 ≤ nm.size) (i j : Nat) : Lib.occAt (s.data.toList.drop i) nm.data.toList j = true ↔ standsAt s ((i + j : Nat) : Int) nm := by
 unfold Lib.occAt standsAt;rw [List.isPrefixOf_iff_prefix, List.drop_drop, List.prefix_iff_eq_take, Lib.toList_data, Lib.toList_data, ByteArray.data_extract, Array.toList_extract, List.extract_eq_take_drop, ← Lib.size_eq nm,
  show (((i + j : Nat) : Int) + (nm.size : Int)).toNat - (((i + j : Nat) : Int)).toNat = nm.size by omega, show (((i + j : Nat) : Int)).toNat = i + j by omega]
 constructor
 ·intro h;refine ⟨?_, h.symm⟩;have := congrArg List.length h;rw [List.length_take, List.length_drop, ← Lib.size_eq, ← Lib.size_eq] at this;omega
 ·intro h;exact h.2.symm
theorem search_both (s : BA) (hs : s.size ≤ 1048576) (nm : BA) (hn : nm.size ≤ 1000) (n1 : 1 ≤ nm.size) (i : Nat) (hi : i ≤ s.size) :
  ∃ r : Int, Ev (fun k => spec_l5Search.f k s (i : Int) nm) r ∧ ((r = -1 ∧ Lib.index (s.data.toList.drop i) nm.data.toList = -1) ∨ ((i : Int) ≤ r ∧ standsAt s r nm ∧ Lib.index (s.data.toList.drop i) nm.data.toList = r - i)) := by
 obtain ⟨r, e1, e2⟩ := search_l s hs nm hn n1 _ (i : Int) (Nat.le_refl _) om_ om_;refine ⟨r, e1, ?_⟩;have hz := Lib.size_eq s;rcases e2 with ⟨h1, h2⟩ | ⟨h1, h2, h3⟩
 ·refine .inl ⟨h1, Lib.index_none (fun j hj => ?_)⟩;rw [Bool.eq_false_iff];intro h;exact h2 _ om_ ((occ_iff s nm n1 i j).1 h)
 ·refine .inr ⟨h1, h2, ?_⟩;have hr := h2.1;have he : ((i + (r - i).toNat : Nat) : Int) = r := om_;have := Lib.index_first (s := s.data.toList.drop i) (sub := nm.data.toList) (i := (r - i).toNat) (by rw [List.length_drop]; omega) ((occ_iff s nm n1 i (r - i).toNat).2 (by rw [he]; exact h2)) (fun j hj => by
   rw [Bool.eq_false_iff];intro h;exact h3 _ om_ om_ ((occ_iff s nm n1 i j).1 h))
  rw [this];omega
theorem mem_index (l : List UInt8) (c : UInt8) : 0 ≤ Lib.index l [c] ↔ c ∈ l := by
 rw [Lib.index_one];have := Lib.contains_iff_indexByte l c;constructor
 ·intro h;rw [dE_ h] at this;simpa using this
 ·intro h;have h2 : l.contains c = true := by simpa using h
  rw [h2] at this;exact of_decide_eq_true this.symm
theorem note_both (x : BA) (hx : x.size ≤ 1048576) : ∃ r : Bool, Ev (fun k => spec_NoteOk.f k x) r ∧ Ev (fun k => impl_NoteOk.f k x) r := by
 obtain ⟨r, e1, e2⟩ := textOk_both x hx;by_cases c0 : r = true
 case neg => exact ⟨false, by unfold spec_NoteOk.f; exact Ev.bind e1 (Ev.ifn c0 (Ev.now _)), by unfold impl_NoteOk.f; exact Ev.bind e2 (Ev.ifn c0 (Ev.now _))⟩
 obtain ⟨r13, f13, g13⟩ := find_e x hx 13 de_ de_;obtain ⟨r2, f2, g2⟩ := search_both x hx (⟨#[45, 45]⟩ : BA) de_ de_ 0 om_;rw [List.drop_zero] at g2;have s13 : strings_Contains.f x (⟨#[13]⟩ : BA) = some (decide (0 ≤ r13)) := by
  unfold strings_Contains.f;rw [if_pos om_];congr 1
  unfold Lib.contains;exact decide_eq_decide.mpr ((mem_index x.data.toList 13).trans g13.symm)
 have s2 : strings_Contains.f x (⟨#[45, 45]⟩ : BA) = some (decide (0 ≤ r2)) := by
  unfold strings_Contains.f;rw [if_pos om_];congr 1
  unfold Lib.contains;apply decide_eq_decide.mpr
  have hl : (⟨#[45, 45]⟩ : BA).data.toList = [45, 45] := rfl;rw [hl] at g2 ⊢;rcases g2 with ⟨h1, h2⟩ | ⟨h1, h2, h3⟩ <;> omega
 by_cases c13 : 0 ≤ r13
 ·refine ⟨false, ?_, ?_⟩
  ·unfold spec_NoteOk.f;exact Ev.bind e1 (Ev.ifp c0 (Ev.bind f13 (Ev.ifn om_ (Ev.now _))))
  ·unfold impl_NoteOk.f;exact Ev.bind e2 (Ev.ifp c0 (Ev.bindc s13 (Ev.ifp (dE_ c13) (Ev.now _))))
 have spec1 : ∀ {q : Bool}, Ev (fun k => (spec_l5Search.f k x 0 (⟨#[45, 45]⟩ : BA)).bind fun t437 => (if t437 < 0 then (if x.toList = ([] : List UInt8) then (some true) else (if 0 ≤ (wrap64 ((x.size : Int) - 1)) then (if (wrap64 ((x.size : Int) - 1)) < (x.size : Int) then (some ((bt x (wrap64 ((x.size : Int) - 1))) != 45)) else (none)) else (none))) else (some false))) q → Ev (fun k => spec_NoteOk.f k x) q := fun h => by
  unfold spec_NoteOk.f;exact Ev.bind e1 (Ev.ifp c0 (Ev.bind f13 (Ev.ifp om_ h)))
 have impl1 : ∀ {q : Bool}, Ev (fun k => (strings_Contains.f x (⟨#[45, 45]⟩ : BA)).bind fun t407 => (if t407 = true then (some false) else ((strings_HasSuffix.f x (⟨#[45]⟩ : BA)).bind fun t408 => (some (!t408))))) q → Ev (fun k => impl_NoteOk.f k x) q := fun h => by
  unfold impl_NoteOk.f;exact Ev.bind e2 (Ev.ifp c0 (Ev.bindc s13 (Ev.ifn (by rw [dF_ c13]; simp) h)))
 by_cases c2 : 0 ≤ r2
 ·refine ⟨false, spec1 ?_, impl1 ?_⟩
  ·exact Ev.bind f2 (Ev.ifn om_ (Ev.now _))
  ·exact Ev.bindc s2 (Ev.ifp (dE_ c2) (Ev.now _))
 have h1s : ((⟨#[45]⟩ : BA).size : Int) = 1 := rfl;have h1l : (⟨#[45]⟩ : BA).toList = [45] := by rw [Lib.toList_data]
 by_cases ce : x.toList = []
 ·have hz : x.size = 0 := by rw [Lib.size_eq, ← Lib.toList_data, ce]; rfl
  refine ⟨true, spec1 ?_, impl1 ?_⟩
  ·exact Ev.bind f2 (Ev.ifp om_ (Ev.ifp ce (Ev.now _)))
  ·refine Ev.bindc s2 (Ev.ifn (by rw [dF_ c2]; simp) (Ev.bindc (a := false) ?_ (Ev.now _)));unfold strings_HasSuffix.f stringslite_HasSuffix.f;rw [if_neg (by rw [h1s, hz]; decide)];rfl
 ·have hz : 1 ≤ x.size := by
   rw [Lib.size_eq, ← Lib.toList_data];exact List.length_pos_iff.mpr ce
  have hw : wrap64 ((x.size : Int) - 1) = (x.size : Int) - 1 := by unfold wrap64; omega
  refine ⟨bt x ((x.size : Int) - 1) != 45, spec1 ?_, impl1 ?_⟩
  ·refine Ev.bind f2 (Ev.ifp om_ (Ev.ifn ce ?_));rw [hw];exact Ev.ifp om_ (Ev.ifp om_ (Ev.now _))
  ·refine Ev.bindc s2 (Ev.ifn (by rw [dF_ c2]; simp) (Ev.bindc (a := bt x ((x.size : Int) - 1) == 45) ?_ (Ev.now _)));unfold strings_HasSuffix.f stringslite_HasSuffix.f;have hi := ext_iff x ((x.size : Int) - 1) om_ [45] (by show (x.size : Int) - 1 + 1 ≤ _; omega);rw [show ((x.size : Int) - 1 + (([45] : List UInt8).length : Int)).toNat = x.size by show ((x.size : Int) - 1 + ((1 : Nat) : Int)).toNat = _; omega] at hi;rw [h1s, hw, if_pos om_, if_pos om_, if_pos om_, Option.bind_some, h1l];congr 1
   by_cases e : bt x ((x.size : Int) - 1) = 45
   ·rw [bQ_ e];apply bQ_
    refine hi.2 (fun j hj => ?_);have hj0 : j = 0 := by have : j < 1 := hj; omega
    subst hj0;rw [show (x.size : Int) - 1 + ((0 : Nat) : Int) = (x.size : Int) - 1 by omega];exact e
   ·rw [bN_ e];apply bN_
    intro h;have := hi.1 h 0 si_;rw [show (x.size : Int) - 1 + ((0 : Nat) : Int) = (x.size : Int) - 1 by omega] at this;exact e this
def NoteGo (s : BA) (a : Int) (q : ByteArray × Int) : Prop := q.2 = -1 ∨ (a < q.2 ∧ q.2 ≤ s.size ∧ (q.1.size : Int) ≤ q.2 - a)
theorem xnote_more (s : BA) (hs : s.size ≤ 1048576) (a : Int) : ∃ q : ByteArray × Int, NoteGo s a q ∧ Ev (fun k => spec_XmlNote.f k s a) q ∧ Ev (fun k => impl_XmlNote.f k s a) q := by
 have hw1 : wrap64 ((s.size : Int) - 1) = (s.size : Int) - 1 := by unfold wrap64; omega
 have sj : Ev (fun k => spec_XmlNote.j0 k s a true) ((⟨#[]⟩ : BA), (-1 : Int)) := by
  refine Ev.step (fun k => by simp only [spec_XmlNote.j0]; rfl) ?_;exact Ev.ifp trivial (Ev.now _)
 by_cases c : 0 ≤ a ∧ a ≤ (s.size : Int) - 1
 case neg =>
  refine ⟨((⟨#[]⟩ : BA), (-1 : Int)), .inl rfl, ?_, ?_⟩
  ·unfold spec_XmlNote.f;by_cases c1 : a < 0
   ·exact Ev.ifp c1 sj
   ·exact Ev.ifn c1 (Ev.ifp om_ sj)
  ·unfold impl_XmlNote.f;refine Ev.bindc (inRange_f _ _ _) ?_;rw [hw1, dF_ c];exact Ev.ifn si_ (Ev.now _)
 obtain ⟨a0, a1⟩ := c;have spec0 : ∀ {q : ByteArray × Int}, Ev (fun k => spec_XmlNote.j0 k s a (!decide (standsAt s a (⟨#[60, 33, 45, 45]⟩ : BA)))) q → Ev (fun k => spec_XmlNote.f k s a) q := fun h => by
  unfold spec_XmlNote.f;exact Ev.ifn om_ (Ev.ifn om_ (Ev.bindc (stands_f s hs a _ de_ a0 om_) h))
 have cut := cut_f s a (⟨#[60, 33, 45, 45]⟩ : BA) a0 om_;by_cases st : standsAt s a (⟨#[60, 33, 45, 45]⟩ : BA)
 case neg =>
  rw [dF_ st] at spec0;refine ⟨((⟨#[]⟩ : BA), (-1 : Int)), .inl rfl, spec0 sj, ?_⟩;unfold impl_XmlNote.f;refine Ev.bindc (inRange_f _ _ _) ?_;rw [hw1, dE_ (show 0 ≤ a ∧ a ≤ (s.size : Int) - 1 from ⟨a0, a1⟩)];refine Ev.ifp rfl (Ev.ifp a0 (Ev.ifp om_ ?_));rw [if_neg st] at cut;exact Ev.bindc cut (Ev.bindc (a := Lib.index (s.extract a.toNat s.size).data.toList [45, 45]) (by unfold strings_Index.f; rw [if_pos (by rw [ByteArray.size_extract]; omega)]) (Ev.ifn si_ (Ev.now _)))
 rw [dE_ st] at spec0;have h4 : a + 4 ≤ s.size := st.1;have hw4 : wrap64 (a + 4) = a + 4 := by unfold wrap64; omega
 have h4n : ((⟨#[60, 33, 45, 45]⟩ : BA).size : Int) = 4 := rfl;rw [if_pos st, h4n] at cut;obtain ⟨e, f1, g1⟩ := search_both s hs (⟨#[45, 45]⟩ : BA) de_ de_ (a + 4).toNat om_;rw [show (((a + 4).toNat : Nat) : Int) = a + 4 by omega] at f1 g1;have hL : (s.extract (a + 4).toNat s.size).data.toList = s.data.toList.drop (a + 4).toNat := by
  rw [ByteArray.data_extract, Array.toList_extract, List.extract_eq_take_drop];apply List.take_of_length_le
  rw [List.length_drop, Array.length_toList];exact Nat.le_refl _
 have hdsz : (s.extract (a + 4).toNat s.size).size = s.size - (a + 4).toNat := by rw [ByteArray.size_extract]; omega
 have hix : strings_Index.f (s.extract (a + 4).toNat s.size) (⟨#[45, 45]⟩ : BA) = some (Lib.index (s.data.toList.drop (a + 4).toNat) (⟨#[45, 45]⟩ : BA).data.toList) := by
  unfold strings_Index.f;rw [if_pos om_, hL]
 have spec1 : ∀ {q : ByteArray × Int}, Ev (fun k => (spec_l5Search.f k s (a + 4) (⟨#[45, 45]⟩ : BA)).bind fun t439 => (if t439 < 0 then (some ((⟨#[]⟩ : BA), (-1 : Int))) else ((spec_l5Stands.f s t439 (⟨#[45, 45, 62]⟩ : BA)).bind fun t440 => (if t440 = true then (if 0 ≤ a + 4 then (if a + 4 ≤ t439 then (if t439 ≤ (s.size : Int) then ((spec_NoteOk.f k (s.extract (a + 4).toNat (t439 : Int).toNat)).bind fun t441 => (if t441 = true then (some (s.extract (a + 4).toNat (t439 : Int).toNat, wrap64 (t439 + 3))) else (some ((⟨#[]⟩ : BA), (-1))))) else (none)) else (none)) else (none)) else (some ((⟨#[]⟩ : BA), (-1))))))) q → Ev (fun k => spec_XmlNote.f k s a) q := fun h => by
  refine spec0 ?_;refine Ev.step (fun k => by simp only [spec_XmlNote.j0]; rfl) ?_;rw [hw4];exact Ev.ifn si_ h
 have impl1 : ∀ {q : ByteArray × Int} (t : Int), strings_Index.f (s.extract (a + 4).toNat s.size) (⟨#[45, 45]⟩ : BA) = some t → Ev (fun k => (if t < 0 then (some ((⟨#[]⟩ : BA), (-1 : Int))) else (if 0 ≤ t then (if t ≤ ((s.extract (a + 4).toNat s.size).size : Int) then ((impl_NoteOk.f k ((s.extract (a + 4).toNat s.size).extract 0 (t : Int).toNat)).bind fun t413 => (if t413 = true then ((strings_HasPrefix.f ((s.extract (a + 4).toNat s.size).extract (t : Int).toNat (s.extract (a + 4).toNat s.size).size) (⟨#[45, 45, 62]⟩ : BA)).bind fun t414 => (if t414 = true then (some ((s.extract (a + 4).toNat s.size).extract 0 (t : Int).toNat, wrap64 ((wrap64 (a + 4 + t)) + 3))) else (some ((⟨#[]⟩ : BA), (-1))))) else (some ((⟨#[]⟩ : BA), (-1))))) else (none)) else (none)))) q → Ev (fun k => impl_XmlNote.f k s a) q := fun t ht h => by
  unfold impl_XmlNote.f;refine Ev.bindc (inRange_f _ _ _) ?_;rw [hw1, dE_ (show 0 ≤ a ∧ a ≤ (s.size : Int) - 1 from ⟨a0, a1⟩)];refine Ev.ifp rfl (Ev.ifp a0 (Ev.ifp om_ (Ev.bindc cut (Ev.bindc ht ?_))));rw [hw4];exact Ev.ifp rfl h
 rcases g1 with ⟨g2, g3⟩ | ⟨g2, g3, g4⟩
 ·rw [g3] at hix;refine ⟨((⟨#[]⟩ : BA), (-1 : Int)), .inl rfl, spec1 ?_, impl1 _ hix ?_⟩
  ·exact Ev.bind f1 (Ev.ifp om_ (Ev.now _))
  ·exact Ev.ifp de_ (Ev.now _)
 rw [g4] at hix;have ge : e + 2 ≤ s.size := g3.1;have hx1 : (s.extract (a + 4).toNat s.size).extract 0 (e - (a + 4)).toNat = s.extract (a + 4).toNat e.toNat := by
  rw [ByteArray.extract_extract];congr 1
  omega
 have hx2 : (s.extract (a + 4).toNat s.size).extract (e - (a + 4)).toNat (s.size - (a + 4).toNat) = s.extract e.toNat s.size := by
  rw [ByteArray.extract_extract];congr 1
  ·omega
  ·omega
 have hwe : wrap64 (a + 4 + (e - (a + 4))) = e := by unfold wrap64; omega
 obtain ⟨r, n1, n2⟩ := note_both (s.extract (a + 4).toNat e.toNat) (by rw [ByteArray.size_extract]; omega);have hpf := hasPrefix_f s e (⟨#[45, 45, 62]⟩ : BA) om_ om_;refine ⟨if standsAt s e (⟨#[45, 45, 62]⟩ : BA) ∧ r = true then (s.extract (a + 4).toNat e.toNat, wrap64 (e + 3)) else ((⟨#[]⟩ : BA), (-1 : Int)), ?_, spec1 ?_, impl1 _ hix ?_⟩
 ·by_cases h9 : standsAt s e (⟨#[45, 45, 62]⟩ : BA) ∧ r = true
  ·rw [if_pos h9];have h8 : e + 3 ≤ s.size := h9.1.1;have hw3 : wrap64 (e + 3) = e + 3 := by unfold wrap64; omega
   exact .inr ⟨by show a < wrap64 (e + 3); omega, by show wrap64 (e + 3) ≤ _; omega, by show ((s.extract _ _).size : Int) ≤ wrap64 (e + 3) - a; rw [ByteArray.size_extract]; omega⟩
  ·rw [if_neg h9]; exact .inl rfl
 ·refine Ev.bind f1 (Ev.ifn om_ (Ev.bindc (stands_f s hs e _ de_ om_ om_) ?_));by_cases c1 : standsAt s e (⟨#[45, 45, 62]⟩ : BA)
  ·rw [dE_ c1];refine Ev.ifp rfl (Ev.ifp om_ (Ev.ifp g2 (Ev.ifp om_ (Ev.bind n1 ?_))));by_cases c2 : r = true
   ·rw [if_pos (show standsAt s e (⟨#[45, 45, 62]⟩ : BA) ∧ r = true from ⟨c1, c2⟩)];exact Ev.ifp c2 (Ev.now _)
   ·rw [if_neg (show ¬ (standsAt s e (⟨#[45, 45, 62]⟩ : BA) ∧ r = true) from fun h => c2 h.2)];exact Ev.ifn c2 (Ev.now _)
  ·rw [dF_ c1, if_neg (show ¬ (standsAt s e (⟨#[45, 45, 62]⟩ : BA) ∧ r = true) from fun h => c1 h.1)];exact Ev.ifn si_ (Ev.now _)
 ·rw [hdsz, hx1, hx2, hwe];refine Ev.ifn om_ (Ev.ifp om_ (Ev.ifp om_ (Ev.bind n2 ?_)));by_cases c2 : r = true
  ·refine Ev.ifp c2 (Ev.bindc hpf ?_);by_cases c1 : standsAt s e (⟨#[45, 45, 62]⟩ : BA)
   ·rw [dE_ c1, if_pos (show standsAt s e (⟨#[45, 45, 62]⟩ : BA) ∧ r = true from ⟨c1, c2⟩)];exact Ev.ifp rfl (Ev.now _)
   ·rw [dF_ c1, if_neg (show ¬ (standsAt s e (⟨#[45, 45, 62]⟩ : BA) ∧ r = true) from fun h => c1 h.1)];exact Ev.ifn si_ (Ev.now _)
  ·rw [if_neg (show ¬ (standsAt s e (⟨#[45, 45, 62]⟩ : BA) ∧ r = true) from fun h => c2 h.2)];exact Ev.ifn c2 (Ev.now _)
def e38 : List UInt8 := [38, 97, 109, 112, 59]
def e60 : List UInt8 := [38, 108, 116, 59]
def e62 : List UInt8 := [38, 103, 116, 59]
def e13 : List UInt8 := [38, 35, 49, 51, 59]
def e34 : List UInt8 := [38, 113, 117, 111, 116, 59]
def e9 : List UInt8 := [38, 35, 57, 59]
def e10 : List UInt8 := [38, 35, 49, 48, 59]
def g1 (b : UInt8) : List UInt8 := if b = 38 then e38 else [b]
def g2 (b : UInt8) : List UInt8 := if b = 60 then e60 else g1 b
def g3 (b : UInt8) : List UInt8 := if b = 62 then e62 else g2 b
def gT (b : UInt8) : List UInt8 := if b = 13 then e13 else g3 b
def g5 (b : UInt8) : List UInt8 := if b = 34 then e34 else gT b
theorem anyIdx_iff (chars : List UInt8) : ∀ l : List UInt8, 0 ≤ Lib.indexAny l chars ↔ ∃ b ∈ l, chars.contains b = true
 | [] => by simp [Lib.indexAny]
 | b :: l => by
  have hge := Lib.indexAny_ge chars l;have ih := anyIdx_iff chars l;rw [Lib.indexAny];by_cases c : chars.contains b = true
  ·rw [if_pos c];exact ⟨fun _ => ⟨b, by simp, c⟩, fun _ => Int.le_refl _⟩
  ·rw [if_neg c];by_cases c2 : Lib.indexAny l chars = -1
   ·rw [if_pos (bQ_ c2)];refine ⟨fun h => absurd h de_, fun ⟨x, hx, hc⟩ => ?_⟩;rcases List.mem_cons.1 hx with rfl | hx
    ·exact absurd hc c
    ·have := ih.2 ⟨x, hx, hc⟩;omega
   ·rw [if_neg (fun h => c2 (beq_iff_eq.1 h))];refine ⟨fun h => ?_, fun _ => by omega⟩;obtain ⟨x, hx, hc⟩ := ih.1 om_;exact ⟨x, List.mem_cons_of_mem _ hx, hc⟩
theorem find_any (x : BA) (hm : x.size ≤ 1048576) : ∃ r9 r10 : Int, Ev (fun k => spec_l4Find.f k x 0 9) r9 ∧ Ev (fun k => spec_l4Find.f k x 0 10) r10 ∧ strings_ContainsAny.f x (⟨#[9, 10]⟩ : BA) = some (decide (0 ≤ r9 ∨ 0 ≤ r10)) := by
 obtain ⟨r9, e9, f9⟩ := find_l x hm 9 _ 0 (Nat.le_refl _) (Int.le_refl _);obtain ⟨r10, e10, f10⟩ := find_l x hm 10 _ 0 (Nat.le_refl _) (Int.le_refl _);refine ⟨r9, r10, e9, e10, ?_⟩;have m9 := (f9.trans (bt_mem x 9));have m10 := (f10.trans (bt_mem x 10));unfold strings_ContainsAny.f;rw [if_pos ⟨rfl, om_⟩];congr 1
 unfold Lib.containsAny;apply decide_eq_decide.mpr
 rw [anyIdx_iff, m9, m10];constructor
 ·rintro ⟨b, hb, hc⟩;have : b = 9 ∨ b = 10 := by simpa using hc
  rcases this with rfl | rfl
  ·exact .inl hb
  ·exact .inr hb
 ·rintro (h | h)
  ·exact ⟨9, h, by decide⟩
  ·exact ⟨10, h, by decide⟩
def AttrGo (s : BA) (a : Int) (q : ByteArray × ByteArray × Int) : Prop := q.2.2 = -1 ∨ (a < q.2.2 ∧ q.2.2 ≤ s.size ∧ q.1.size ≤ s.size ∧ q.2.1.size ≤ s.size ∧ (q.1.size : Int) + q.2.1.size ≤ 4 * (q.2.2 - a))
theorem attr_more (s : BA) (hs : s.size ≤ 1048576) (a : Int) (a0_ : 0 ≤ a) (a1_ : a ≤ s.size) : ∃ q : ByteArray × ByteArray × Int, AttrGo s a q ∧ Ev (fun k => spec_XmlAttr.f k s a) q ∧ Ev (fun k => impl_XmlAttr.f k s a) q := by
 obtain ⟨⟨nm, e⟩, n1, n2, m1, m2, m3, _⟩ := name_more s hs a a0_ a1_;have sj : Ev (fun k => spec_XmlAttr.j0 k s nm e true) ((⟨#[]⟩ : BA), (⟨#[]⟩ : BA), (-1 : Int)) := by
  refine Ev.step (fun k => by simp only [spec_XmlAttr.j0]; rfl) ?_;exact Ev.ifp trivial (Ev.now _)
 have ij : Ev (fun k => impl_XmlAttr.j0 k s nm e true) ((⟨#[]⟩ : BA), (⟨#[]⟩ : BA), (-1 : Int)) := by
  refine Ev.step (fun k => by simp only [impl_XmlAttr.j0]; rfl) ?_;exact Ev.ifp trivial (Ev.now _)
 by_cases c1 : nm.toList = []
 ·refine ⟨((⟨#[]⟩ : BA), (⟨#[]⟩ : BA), (-1 : Int)), .inl rfl, ?_, ?_⟩
  ·unfold spec_XmlAttr.f;exact Ev.bind n1 (Ev.ifp c1 sj)
  ·unfold impl_XmlAttr.f;exact Ev.bind n2 (Ev.ifp c1 ij)
 have n4 : 0 ≤ e ∧ e ≤ s.size := ⟨by have h9 : a ≤ e := m1; omega, m2⟩;obtain ⟨e0, e1⟩ := n4;have hst := stands_f s hs e (⟨#[61, 34]⟩ : BA) de_ e0 e1;have hpf := hasPrefix_f s e (⟨#[61, 34]⟩ : BA) e0 e1;have spec0 : ∀ {q : ByteArray × ByteArray × Int}, Ev (fun k => spec_XmlAttr.j0 k s nm e (!decide (standsAt s e (⟨#[61, 34]⟩ : BA)))) q → Ev (fun k => spec_XmlAttr.f k s a) q := fun h => by
  unfold spec_XmlAttr.f;exact Ev.bind n1 (Ev.ifn c1 (Ev.bindc hst h))
 have impl0 : ∀ {q : ByteArray × ByteArray × Int}, Ev (fun k => impl_XmlAttr.j0 k s nm e (!decide (standsAt s e (⟨#[61, 34]⟩ : BA)))) q → Ev (fun k => impl_XmlAttr.f k s a) q := fun h => by
  unfold impl_XmlAttr.f;exact Ev.bind n2 (Ev.ifn c1 (Ev.ifp e0 (Ev.ifp e1 (Ev.bindc hpf h))))
 by_cases c2 : standsAt s e (⟨#[61, 34]⟩ : BA)
 case neg =>
  rw [dF_ c2] at spec0 impl0;exact ⟨((⟨#[]⟩ : BA), (⟨#[]⟩ : BA), (-1 : Int)), .inl rfl, spec0 sj, impl0 ij⟩
 rw [dE_ c2] at spec0 impl0;have e2 : e + 2 ≤ s.size := c2.1;have hw : wrap64 (e + 2) = e + 2 := by unfold wrap64; omega
 obtain ⟨⟨v, n⟩, t1, t2, t3⟩ := text_more qEnd de_ s hs (e + 2) om_;have spec1 : ∀ {q : ByteArray × ByteArray × Int}, Ev (fun k => (if n < 0 then (some ((⟨#[]⟩ : BA), (⟨#[]⟩ : BA), (-1 : Int))) else (if n ≥ (s.size : Int) then (some ((⟨#[]⟩ : BA), (⟨#[]⟩ : BA), (-1))) else (if 0 ≤ e + 2 then (if e + 2 ≤ n then (if n ≤ (s.size : Int) then ((spec_l4Find.f k (s.extract (e + 2).toNat n.toNat) 0 9).bind fun t301 => (if t301 ≥ 0 then (some ((⟨#[]⟩ : BA), (⟨#[]⟩ : BA), (-1))) else ((spec_l4Find.f k (s.extract (e + 2).toNat n.toNat) 0 10).bind fun t302 => (if t302 ≥ 0 then (some ((⟨#[]⟩ : BA), (⟨#[]⟩ : BA), (-1))) else (some (nm, v, wrap64 (n + 1))))))) else (none)) else (none)) else (none))))) q → Ev (fun k => spec_XmlAttr.f k s a) q := fun h => by
  refine spec0 ?_;refine Ev.step (fun k => by simp only [spec_XmlAttr.j0]; rfl) ?_;rw [hw];exact Ev.ifn si_ (Ev.bind t2 h)
 have impl1 : ∀ {q : ByteArray × ByteArray × Int}, Ev (fun k => (if n < 0 then (some ((⟨#[]⟩ : BA), (⟨#[]⟩ : BA), (-1 : Int))) else (if n = (s.size : Int) then (some ((⟨#[]⟩ : BA), (⟨#[]⟩ : BA), (-1))) else (if 0 ≤ e + 2 then (if e + 2 ≤ n then (if n ≤ (s.size : Int) then ((strings_ContainsAny.f (s.extract (e + 2).toNat n.toNat) (⟨#[9, 10]⟩ : BA)).bind fun t367 => (if t367 = true then (some ((⟨#[]⟩ : BA), (⟨#[]⟩ : BA), (-1))) else (some (nm, v, wrap64 (n + 1))))) else (none)) else (none)) else (none))))) q → Ev (fun k => impl_XmlAttr.f k s a) q := fun h => by
  refine impl0 ?_;refine Ev.step (fun k => by simp only [impl_XmlAttr.j0]; rfl) ?_;rw [hw];exact Ev.ifn si_ (Ev.bind t3 h)
 rcases t1 with tm | ⟨tn1, tn2, tn3, _⟩
 ·have tm' : n = -1 := tm;exact ⟨(⟨#[]⟩, ⟨#[]⟩, -1), .inl rfl, spec1 (Ev.ifp om_ (Ev.now _)), impl1 (Ev.ifp om_ (Ev.now _))⟩
 have tn1' : e + 2 ≤ n := tn1;have tn2' : n ≤ s.size := tn2;by_cases c3 : n = (s.size : Int)
 ·exact ⟨(⟨#[]⟩, ⟨#[]⟩, -1), .inl rfl, spec1 (Ev.ifn om_ (Ev.ifp om_ (Ev.now _))), impl1 (Ev.ifn om_ (Ev.ifp c3 (Ev.now _)))⟩
 obtain ⟨r9, r10, f9, f10, fc⟩ := find_any (s.extract (e + 2).toNat n.toNat) (by rw [ByteArray.size_extract]; omega);refine ⟨if 0 ≤ r9 ∨ 0 ≤ r10 then (⟨#[]⟩, ⟨#[]⟩, -1) else (nm, v, wrap64 (n + 1)), ?_, spec1 ?_, impl1 ?_⟩
 ·by_cases h9 : 0 ≤ r9 ∨ 0 ≤ r10
  ·rw [if_pos h9]; exact .inl rfl
  ·rw [if_neg h9];have hw1 : wrap64 (n + 1) = n + 1 := by unfold wrap64; omega
   have m1' : a ≤ e := m1;have tn3' : (v.size : Int) ≤ n - (e + 2) := tn3;have m3' : (nm.size : Int) ≤ e - a := m3;have m2' : e ≤ s.size := m2;exact .inr ⟨by show a < wrap64 (n + 1); omega, by show wrap64 (n + 1) ≤ _; omega, by show nm.size ≤ _; omega, by show v.size ≤ _; omega, by show (nm.size : Int) + v.size ≤ 4 * (wrap64 (n + 1) - a); omega⟩
 ·refine Ev.ifn om_ (Ev.ifn om_ (Ev.ifp om_ (Ev.ifp tn1' (Ev.ifp tn2' (Ev.bind f9 ?_)))));by_cases g9 : 0 ≤ r9
  ·rw [if_pos (Or.inl g9)];exact Ev.ifp g9 (Ev.now _)
  ·refine Ev.ifn g9 (Ev.bind f10 ?_);by_cases g10 : 0 ≤ r10
   ·rw [if_pos (Or.inr g10)];exact Ev.ifp g10 (Ev.now _)
   ·rw [if_neg (show ¬ (0 ≤ r9 ∨ 0 ≤ r10) from fun h => Or.elim h g9 g10)];exact Ev.ifn g10 (Ev.now _)
 ·refine Ev.ifn om_ (Ev.ifn c3 (Ev.ifp om_ (Ev.ifp tn1' (Ev.ifp tn2' (Ev.bindc fc ?_)))));by_cases g : 0 ≤ r9 ∨ 0 ≤ r10
  ·rw [if_pos g];exact Ev.ifp (dE_ g) (Ev.now _)
  ·rw [if_neg g];exact Ev.ifn (by rw [dF_ g]; simp) (Ev.now _)
theorem space_both (n : Int) : ∃ r : ByteArray, impl_SpaceName.f n = some r ∧ spec_SpaceName.f n = some r := by
 refine ⟨spNF n, rfl, ?_⟩;unfold spec_SpaceName.f spNF;repeat' split
 all_goals rfl
theorem is_f (s : BA) (p : Int) (t : BA) (h0 : 0 ≤ p) (h1 : p ≤ s.size) : impl_reader_is.f s p false t = some (decide (standsAt s p t), s, p, false) := by
 unfold impl_reader_is.f;rw [if_neg si_, if_pos h0, if_pos h1, hasPrefix_f s p t h0 h1, Option.bind_some]
theorem is_bad (s : BA) (p : Int) (t : BA) : impl_reader_is.f s p true t = some (false, s, p, true) := by
 unfold impl_reader_is.f;rw [if_pos rfl]
theorem take_yes (s : BA) (p : Int) (t : BA) (h0 : 0 ≤ p) (h : standsAt s p t) (hs : s.size ≤ 1048576) : impl_reader_take.f s p false t = some (s, p + t.size, false) := by
 have h1 : p + t.size ≤ s.size := h.1;unfold impl_reader_take.f;rw [is_f s p t h0 om_, dE_ h, Option.bind_some];simp only [];rw [if_pos trivial, show wrap64 (p + (t.size : Int)) = p + t.size by unfold wrap64; omega]
theorem take_no (s : BA) (p : Int) (t : BA) (h0 : 0 ≤ p) (h1 : p ≤ s.size) (h : ¬ standsAt s p t) : impl_reader_take.f s p false t = some (s, p, true) := by
 unfold impl_reader_take.f;rw [is_f s p t h0 h1, dF_ h, Option.bind_some];simp
theorem take_bad (s : BA) (p : Int) (t : BA) : impl_reader_take.f s p true t = some (s, p, true) := by
 unfold impl_reader_take.f;rw [is_bad, Option.bind_some];simp
theorem stake_yes (s : BA) (p : Int) (t : BA) (h0 : 0 ≤ p) (h : standsAt s p t) (hs : s.size ≤ 1048576) : spec_l19Take.f s p true t = some (s, p + t.size, true) := by
 have h1 : p + t.size ≤ s.size := h.1;unfold spec_l19Take.f;rw [if_pos rfl, stands_f s hs p t om_ h0 om_, dE_ h, Option.bind_some, if_pos rfl, show wrap64 (p + (t.size : Int)) = p + t.size by unfold wrap64; omega]
theorem stake_no (s : BA) (p : Int) (t : BA) (ht : t.size ≤ 2000000) (h0 : 0 ≤ p) (h1 : p ≤ s.size) (h : ¬ standsAt s p t) (hs : s.size ≤ 1048576) : spec_l19Take.f s p true t = some (s, p, false) := by
 unfold spec_l19Take.f;rw [if_pos rfl, stands_f s hs p t ht h0 h1, dF_ h, Option.bind_some, if_neg si_]
theorem stake_bad (s : BA) (p : Int) (t : BA) : spec_l19Take.f s p false t = some (s, p, false) := by
 unfold spec_l19Take.f;rw [if_neg si_]
theorem stands1 (s : BA) (p : Int) (c : UInt8) (h0 : 0 ≤ p) : standsAt s p (⟨#[c]⟩ : BA) ↔ p < (s.size : Int) ∧ bt s p = (c.toNat : Int) := by
 have hl : (⟨#[c]⟩ : BA).toList = [c] := by rw [Lib.toList_data]
 have hz : ((⟨#[c]⟩ : BA).size : Int) = 1 := rfl;unfold standsAt;rw [hz, hl];constructor
 ·rintro ⟨h1, h2⟩;have := (ext_iff s p h0 [c] (by simp; omega)).1 (by simpa using h2) 0 si_;simp at this
  exact ⟨om_, this⟩
 ·rintro ⟨h1, h2⟩;refine ⟨om_, ?_⟩;have := (ext_iff s p h0 [c] (by simp; omega)).2 (fun j hj => by
   have hj0 : j = 0 := by simpa using hj
   subst hj0;simpa using h2)
  simpa using this
def spN (v : BA) : Int := if (spNF 0).toList = v.toList then 0 else if (spNF 1).toList = v.toList then 1 else if (spNF 2).toList = v.toList then 2 else -1
theorem spN_range (v : BA) : spN v = -1 ∨ (0 ≤ spN v ∧ spN v ≤ 2) := by
 unfold spN;repeat' split
 all_goals omega
theorem sspace (n : Int) : spec_SpaceName.f n = some (spNF n) := by
 obtain ⟨r, h1, h2⟩ := space_both n;rw [h2, ← h1]; rfl
theorem space_i (v : BA) : Ev (fun k => impl_spaceOf.f k v) (spN v) := by
 unfold impl_spaceOf.f spN;have w1 : wrap64 (0 + 1) = 1 := by unfold wrap64; omega
 have w2 : wrap64 (1 + 1) = 2 := by unfold wrap64; omega
 have w3 : wrap64 (2 + 1) = 3 := by unfold wrap64; omega
 refine Ev.step (fun k => by simp only [impl_spaceOf.l0]; rfl) (Ev.ifp de_ (Ev.bindc (a := spNF 0) rfl ?_));by_cases c0 : (spNF 0).toList = v.toList
 ·rw [if_pos c0]; exact Ev.ifp c0 (Ev.now _)
 rw [if_neg c0];refine Ev.ifn c0 ?_;rw [w1];refine Ev.step (fun k => by simp only [impl_spaceOf.l0]; rfl) (Ev.ifp de_ (Ev.bindc (a := spNF 1) rfl ?_));by_cases c1 : (spNF 1).toList = v.toList
 ·rw [if_pos c1]; exact Ev.ifp c1 (Ev.now _)
 rw [if_neg c1];refine Ev.ifn c1 ?_;rw [w2];refine Ev.step (fun k => by simp only [impl_spaceOf.l0]; rfl) (Ev.ifp de_ (Ev.bindc (a := spNF 2) rfl ?_));by_cases c2 : (spNF 2).toList = v.toList
 ·rw [if_pos c2]; exact Ev.ifp c2 (Ev.now _)
 rw [if_neg c2];refine Ev.ifn c2 ?_;rw [w3];exact Ev.step (fun k => by simp only [impl_spaceOf.l0]; rfl) (Ev.ifn de_ (Ev.now _))
theorem space_s (v : BA) : Ev (fun k => spec_l19Space.f k v) (spN v) := by
 unfold spec_l19Space.f spN;have w1 : wrap64 (0 + 1) = 1 := by unfold wrap64; omega
 have w2 : wrap64 (1 + 1) = 2 := by unfold wrap64; omega
 have w3 : wrap64 (2 + 1) = 3 := by unfold wrap64; omega
 refine Ev.step (fun k => by simp only [spec_l19Space.l0]; rfl) (Ev.ifp de_ (Ev.bindc (sspace 0) ?_));by_cases c0 : (spNF 0).toList = v.toList
 ·rw [if_pos c0]; exact Ev.ifp c0 (Ev.now _)
 rw [if_neg c0];refine Ev.ifn c0 ?_;rw [w1];refine Ev.step (fun k => by simp only [spec_l19Space.l0]; rfl) (Ev.ifp de_ (Ev.bindc (sspace 1) ?_));by_cases c1 : (spNF 1).toList = v.toList
 ·rw [if_pos c1]; exact Ev.ifp c1 (Ev.now _)
 rw [if_neg c1];refine Ev.ifn c1 ?_;rw [w2];refine Ev.step (fun k => by simp only [spec_l19Space.l0]; rfl) (Ev.ifp de_ (Ev.bindc (sspace 2) ?_));by_cases c2 : (spNF 2).toList = v.toList
 ·rw [if_pos c2]; exact Ev.ifp c2 (Ev.now _)
 rw [if_neg c2];refine Ev.ifn c2 ?_;rw [w3];exact Ev.step (fun k => by simp only [spec_l19Space.l0]; rfl) (Ev.ifn de_ (Ev.now _))
theorem has_any (l : List (S36)) (nm : BA) (hl : l.length ≤ 140737488351232) (d : Nat) : ∀ (j : Int), 0 ≤ j → l.length - j.toNat = d → j ≤ l.length → Ev (fun k => spec_l4Has.l0 k l nm j) ((l.drop j.toNat).any fun x => x.f0.toList == nm.toList) := by
 induction d with
 | zero =>
  intro j h0 hd hj;rw [List.drop_of_length_le om_];exact Ev.step (fun k => by simp only [spec_l4Has.l0]; rfl) (Ev.ifn (show ¬ j < (l.length : Int) by omega) (Ev.now _))
 | succ d ih =>
  intro j h0 hd hj;have hjl : j.toNat < l.length := om_;have hw1 : wrap64 (j + 1) = j + 1 := by unfold wrap64; omega
  have hrd : rd_T36 l j = l[j.toNat] := by unfold rd_T36; rw [List.getD_eq_getElem?_getD, List.getElem?_eq_getElem hjl]; rfl
  rw [List.drop_eq_getElem_cons hjl, List.any_cons];refine Ev.step (fun k => by simp only [spec_l4Has.l0]; rfl) (Ev.ifp (show j < (l.length : Int) by omega) (Ev.ifp h0 ?_));rw [hrd, hw1];have ih2 := ih (j + 1) om_ om_ om_;rw [show (j + 1).toNat = j.toNat + 1 by omega] at ih2;by_cases c : (l[j.toNat]).f0.toList = nm.toList
  ·rw [show ((l[j.toNat]).f0.toList == nm.toList) = true from bQ_ c, Bool.true_or];exact Ev.ifp c (Ev.now _)
  ·rw [show ((l[j.toNat]).f0.toList == nm.toList) = false from bN_ c, Bool.false_or];exact Ev.ifn c ih2
theorem ev_has (l : List (S36)) (nm : BA) (hl : l.length ≤ 140737488351232) : Ev (fun k => spec_l4Has.f k l nm) (l.any fun x => x.f0.toList == nm.toList) := by
 have := has_any l nm hl l.length 0 om_ si_ om_;unfold spec_l4Has.f;simpa using this
abbrev SAt := S36
def xmlns : List UInt8 := [120, 109, 108, 110, 115]
def okA (s : BA) (x : SAt) : Prop := x.f0.size ≤ s.size ∧ x.f1.size ≤ s.size
theorem hasA_f (l : List SAt) (n : BA) (h : l.length ≤ 140737488351232) : impl_hasAttr.f l n = some (l.any fun x => x.f0.toList == n.toList) := by
 unfold impl_hasAttr.f;rw [if_pos om_]
theorem in_range (x : Int) : impl_inRange.f x 0 2 = some (decide (0 ≤ x ∧ x ≤ 2)) := inRange_f x 0 2
theorem l1_in (x : Int) : spec_l1In.f x 0 2 = some (decide (0 ≤ x ∧ x ≤ 2)) := by
 unfold spec_l1In.f;by_cases h : x ≥ 0
 ·rw [if_pos h];by_cases h2 : x ≤ 2
  ·rw [dE_ h2, dE_ (show 0 ≤ x ∧ x ≤ 2 from ⟨h, h2⟩)]
  ·rw [dF_ h2, dF_ (fun hh => h2 hh.2)]
 ·rw [if_neg h, dF_ (fun hh => h hh.1)]
theorem attr_fi (s : BA) (p : Int) (q : ByteArray × ByteArray × Int) (h : Ev (fun k => impl_XmlAttr.f k s p) q) : Ev (fun k => impl_reader_attr.f k s p false) (if q.2.2 < 0 then (⟨#[]⟩, ⟨#[]⟩, s, p, true) else (q.1, q.2.1, s, q.2.2, false)) := by
 unfold impl_reader_attr.f;refine Ev.ifn si_ (Ev.bind h ?_);exact Ev.congr (f := fun _ => some (if q.2.2 < 0 then (⟨#[]⟩, ⟨#[]⟩, s, p, true) else (q.1, q.2.1, s, q.2.2, false))) (fun k => by split <;> rfl) (Ev.now _)
theorem attrs_bad (about : Int) (s : BA) (p : Int) (names attrs : List SAt) (sp : Int) : Ev (fun k => attrsL k about s p true names attrs sp) (attrs, sp, s, p, true) := by
 refine Ev.step (fun k => by simp only [attrsL]; rfl) (Ev.bindc (is_bad s p _) ?_);refine Ev.ifn si_ (Ev.bindc (in_range sp) ?_);by_cases c : (decide (0 ≤ sp ∧ sp ≤ 2)) = true
 ·simp only [c, if_true]; exact Ev.now _
 ·simp only [c]; exact Ev.now _
theorem sexit_ev (s : BA) (p : Int) (b : Bool) (out : List SAt) (sp : Int) : sexit s p b out sp = some (out, sp, s, p, if 0 ≤ sp ∧ sp ≤ 2 then b else false) := by
 unfold sexit;rw [l1_in, Option.bind_some];by_cases c : 0 ≤ sp ∧ sp ≤ 2
 ·rw [if_pos c, dE_ c]; rfl
 ·rw [if_neg c, dF_ c]; rfl
theorem sattrs_bad (about : Int) (s : BA) (p : Int) (out : List SAt) (sp : Int) (told : Bool) : Ev (fun k => sattrsL k about s p false out sp told) (out, sp, s, p, false) := by
 refine Ev.step (fun k => by simp only [sattrsL]; rfl) (Ev.ifn si_ ?_);rw [sexit_ev];by_cases c : 0 ≤ sp ∧ sp ≤ 2
 ·rw [if_pos c]; exact Ev.now _
 ·rw [if_neg c]; exact Ev.now _
theorem sattrs_stop (about : Int) (s : BA) (p : Int) (h0 : 0 ≤ p) (h : ¬ (p < (s.size : Int) ∧ bt s p = 32)) (out : List SAt) (sp : Int) (told : Bool) : Ev (fun k => sattrsL k about s p true out sp told) (out, sp, s, p, decide (0 ≤ sp ∧ sp ≤ 2)) := by
 have e : sexit s p true out sp = some (out, sp, s, p, decide (0 ≤ sp ∧ sp ≤ 2)) := by
  rw [sexit_ev];by_cases c : 0 ≤ sp ∧ sp ≤ 2
  ·rw [if_pos c, dE_ c]
  ·rw [if_neg c, dF_ c]
 refine Ev.step (fun k => by simp only [sattrsL]; rfl) (Ev.ifp (show true = true from rfl) ?_);by_cases c1 : p < (s.size : Int)
 ·refine Ev.ifp c1 (Ev.ifp h0 (Ev.ifn (fun hh => h ⟨c1, hh⟩) ?_));rw [e]; exact Ev.now _
 ·refine Ev.ifn c1 ?_;rw [e]; exact Ev.now _
theorem sattrs_go (about : Int) (s : BA) (hs : s.size ≤ 1048576) (p : Int) (h0 : 0 ≤ p) (h1 : p < (s.size : Int)) (hb : bt s p = 32) (out : List SAt) (sp : Int) (told : Bool) (hl : out.length ≤ 1048576) (q : ByteArray × ByteArray × Int) (hq : Ev (fun k => spec_XmlAttr.f k s (p + 1)) q) {r : List SAt × Int × ByteArray × Int × Bool}
  (h : Ev (fun n => if q.2.2 < 0 then some (out, sp, s, p, false) else if (out.any fun x => x.f0.toList == q.1.toList) = true then some (out, sp, s, p, false) else
    (if q.1.toList = [120, 109, 108, 110, 115] then (if told = true then some (out, sp, s, p, false) else (spec_l19Space.f n q.2.1).bind fun x => sattrsL n about s q.2.2 (!decide (x = about)) out x true)
    else (if out.length < 4398046511104 then sattrsL n about s q.2.2 true (out ++ [⟨q.1, q.2.1⟩]) sp told else none))) r) : Ev (fun k => sattrsL k about s p true out sp told) r := by
 have hw : wrap64 (p + 1) = p + 1 := by unfold wrap64; omega
 refine Ev.step (fun k => by simp only [sattrsL]; rfl) (Ev.ifp (show true = true from rfl) (Ev.ifp h1 (Ev.ifp h0 (Ev.ifp hb ?_))));rw [hw];refine Ev.bind hq ?_;by_cases c : q.2.2 < 0
 ·exact Ev.ifp c (Ev.congr (fun k => (if_pos c).symm) h)
 ·refine Ev.ifn c (Ev.bind (ev_has out q.1 om_) ?_);exact Ev.congr (fun k => (if_neg c).symm) h
theorem sattrs_div (about : Int) (s : BA) (hs : s.size ≤ 1048576) : ∀ (d : Nat) (p : Int) (out : List SAt), ((s.size : Int) - p).toNat ≤ d → 0 ≤ p → p ≤ s.size → (out.length : Int) ≤ p → ∃ r, (r.2.2.2.2 = false ∧ r.2.2.1 = s) ∧ Ev (fun k => sattrsL k about s p true out (-1) true) r := by
 intro d;induction d with
 | zero =>
  intro p out hd h0 h1 hl;exact ⟨_, ⟨by show decide (0 ≤ (-1 : Int) ∧ (-1 : Int) ≤ 2) = false; decide, rfl⟩, sattrs_stop about s p h0 (fun h => by omega) out (-1) true⟩
 | succ d ih =>
  intro p out hd h0 h1 hl;by_cases c : p < (s.size : Int) ∧ bt s p = 32
  case neg => exact ⟨_, ⟨by show decide (0 ≤ (-1 : Int) ∧ (-1 : Int) ≤ 2) = false; decide, rfl⟩, sattrs_stop about s p h0 c out (-1) true⟩
  obtain ⟨q, hq, e1, e2⟩ := attr_more s hs (p + 1) om_ om_;by_cases c1 : q.2.2 < 0
  ·exact ⟨(out, -1, s, p, false), ⟨rfl, rfl⟩, sattrs_go about s hs p h0 c.1 c.2 out (-1) true om_ q e1 (Ev.ifp c1 (Ev.now _))⟩
  by_cases c2 : (out.any fun x => x.f0.toList == q.1.toList) = true
  ·exact ⟨(out, -1, s, p, false), ⟨rfl, rfl⟩, sattrs_go about s hs p h0 c.1 c.2 out (-1) true om_ q e1 (Ev.ifn c1 (Ev.ifp c2 (Ev.now _)))⟩
  by_cases c3 : q.1.toList = [120, 109, 108, 110, 115]
  ·exact ⟨(out, -1, s, p, false), ⟨rfl, rfl⟩, sattrs_go about s hs p h0 c.1 c.2 out (-1) true om_ q e1 (Ev.ifn c1 (Ev.ifn c2 (Ev.ifp c3 (Ev.ifp rfl (Ev.now _)))))⟩
  rcases hq with hq | ⟨g1, g2, g3, g4, g5⟩
  ·omega
  obtain ⟨r, hr, e⟩ := ih q.2.2 (out ++ [⟨q.1, q.2.1⟩]) om_ om_ g2 (by simp; omega);exact ⟨r, hr, sattrs_go about s hs p h0 c.1 c.2 out (-1) true om_ q e1 (Ev.ifn c1 (Ev.ifn c2 (Ev.ifn c3 (Ev.ifp om_ e))))⟩
def aW : List SAt → Nat
 | [] => 0
 | a :: r => 1 + a.f0.size + a.f1.size + aW r
theorem aW_append : ∀ a b : List SAt, aW (a ++ b) = aW a + aW b
 | [], b => by simp [aW]
 | x :: a, b => by rw [List.cons_append, aW, aW, aW_append a b]; omega
def SameA (s : BA) (p w : Int) (ra rs : List SAt × Int × ByteArray × Int × Bool) : Prop :=
 (ra.2.2.2.2 = true ∧ rs.2.2.2.2 = false ∧ ra.2.2.1 = s ∧ rs.2.2.1 = s) ∨
 ∃ (A : List SAt) (x p' : Int), ra = (A, x, s, p', false) ∧ rs = (A, x, s, p', true) ∧ p ≤ p' ∧ p' ≤ s.size ∧ (0 ≤ x ∧ x ≤ 2) ∧ (A.length : Int) ≤ p' ∧ (aW A : Int) ≤ w + 5 * p' ∧ ∀ y ∈ A, okA s y
theorem attrs_stop (about : Int) (s : BA) (p : Int) (h0 : 0 ≤ p) (h1 : p ≤ s.size) (h : ¬ (p < (s.size : Int) ∧ bt s p = 32)) (names attrs : List SAt) (sp : Int) : Ev (fun k => attrsL k about s p false names attrs sp) (attrs, sp, s, p, !decide (0 ≤ sp ∧ sp ≤ 2)) := by
 refine Ev.step (fun k => by simp only [attrsL]; rfl) (Ev.bindc (is_f s p (⟨#[32]⟩ : BA) h0 h1) ?_);refine Ev.ifn (by simp only [decide_eq_true_eq]; intro hh; exact h (by have := (stands1 s p 32 h0).1 hh; exact ⟨this.1, this.2⟩)) (Ev.bindc (in_range sp) ?_);by_cases c : 0 ≤ sp ∧ sp ≤ 2
 ·rw [dE_ c]; exact Ev.now _
 ·rw [dF_ c]; exact Ev.now _
theorem attrs_go (about : Int) (s : BA) (hs : s.size ≤ 1048576) (p : Int) (h0 : 0 ≤ p) (h1 : p < (s.size : Int)) (hb : bt s p = 32) (names attrs : List SAt) (sp : Int) (hl : names.length ≤ 1048576) (hl2 : attrs.length ≤ 1048576) (q : ByteArray × ByteArray × Int) (hq : Ev (fun k => impl_XmlAttr.f k s (p + 1)) q) {r : List SAt × Int × ByteArray × Int × Bool}
  (hbad : q.2.2 < 0 → r = (attrs, sp, s, p + 1, true))
  (h : ¬ q.2.2 < 0 → Ev (fun n => if (names.any fun x => x.f0.toList == q.1.toList) = true then some (attrs, sp, s, q.2.2, true) else
    (if q.1.toList = [120, 109, 108, 110, 115] then (impl_spaceOf.f n q.2.1).bind fun x => attrsL n about s q.2.2 (decide (x < 0) || decide (x = about)) (names ++ [⟨q.1, q.2.1⟩]) attrs x
    else attrsL n about s q.2.2 false (names ++ [⟨q.1, q.2.1⟩]) (attrs ++ [⟨q.1, q.2.1⟩]) sp)) r) : Ev (fun k => attrsL k about s p false names attrs sp) r := by
 have hst : standsAt s p (⟨#[32]⟩ : BA) := (stands1 s p 32 h0).2 ⟨h1, hb⟩;have hz : ((⟨#[32]⟩ : BA).size : Int) = 1 := rfl;have ht := take_yes s p (⟨#[32]⟩ : BA) h0 hst hs;rw [hz] at ht;refine Ev.step (fun k => by simp only [attrsL]; rfl) (Ev.bindc (is_f s p (⟨#[32]⟩ : BA) h0 om_) ?_);refine Ev.ifp (dE_ hst) (Ev.bindc ht (Ev.bind (attr_fi s (p + 1) q hq) ?_));by_cases c : q.2.2 < 0
 ·rw [if_pos c];refine Ev.bindc (hasA_f names _ om_) ?_;rw [hbad c];by_cases c2 : (names.any fun x => x.f0.toList == (⟨#[]⟩ : BA).toList) = true
  ·exact Ev.ifp c2 (Ev.now _)
  ·exact Ev.ifn c2 (Ev.ifp rfl (Ev.now _))
 ·rw [if_neg c];refine Ev.bindc (hasA_f names _ om_) ?_;by_cases c2 : (names.any fun x => x.f0.toList == q.1.toList) = true
  ·exact Ev.ifp c2 (Ev.congr (fun k => (if_pos c2).symm) (h c))
  ·refine Ev.ifn c2 (Ev.ifn si_ (Ev.ifp ⟨om_, om_⟩ ?_));exact Ev.congr (fun k => (if_neg c2).symm) (h c)
theorem attrs_both (about : Int) (s : BA) (hs : s.size ≤ 1048576) (w : Int) : ∀ (d : Nat) (p : Int) (names attrs : List SAt) (sp : Int) (told : Bool), ((s.size : Int) - p).toNat ≤ d → 0 ≤ p → p ≤ s.size → (names.length : Int) ≤ p → (attrs.length : Int) ≤ p →
  (∀ n : ByteArray, (names.any fun x => x.f0.toList == n.toList) = ((attrs.any fun x => x.f0.toList == n.toList) || (told && decide (n.toList = xmlns)))) → (∀ y ∈ attrs, okA s y) → (aW attrs : Int) ≤ w + 5 * p →
  ∃ ra rs, SameA s p w ra rs ∧ Ev (fun k => attrsL k about s p false names attrs sp) ra ∧ Ev (fun k => sattrsL k about s p true attrs sp told) rs := by
 intro d;induction d with
 | zero =>
  intro p names attrs sp told hd h0 h1 hn ha hI hA hW;have c : ¬ (p < (s.size : Int) ∧ bt s p = 32) := fun h => by omega
  refine ⟨_, _, ?_, attrs_stop about s p h0 h1 c names attrs sp, sattrs_stop about s p h0 c attrs sp told⟩;by_cases cs : 0 ≤ sp ∧ sp ≤ 2
  ·rw [dE_ cs]; exact .inr ⟨attrs, sp, p, rfl, rfl, Int.le_refl _, h1, cs, ha, hW, hA⟩
  ·rw [dF_ cs]; exact .inl ⟨rfl, rfl, rfl, rfl⟩
 | succ d ih =>
  intro p names attrs sp told hd h0 h1 hn ha hI hA hW;by_cases c : p < (s.size : Int) ∧ bt s p = 32
  case neg =>
   refine ⟨_, _, ?_, attrs_stop about s p h0 h1 c names attrs sp, sattrs_stop about s p h0 c attrs sp told⟩;by_cases cs : 0 ≤ sp ∧ sp ≤ 2
   ·rw [dE_ cs]; exact .inr ⟨attrs, sp, p, rfl, rfl, Int.le_refl _, h1, cs, ha, hW, hA⟩
   ·rw [dF_ cs]; exact .inl ⟨rfl, rfl, rfl, rfl⟩
  obtain ⟨q, hq, e1, e2⟩ := attr_more s hs (p + 1) om_ om_;have GI := fun {r} => @attrs_go about s hs p h0 c.1 c.2 names attrs sp om_ om_ q e2 r
  have GS := fun {r} => @sattrs_go about s hs p h0 c.1 c.2 attrs sp told om_ q e1 r
  by_cases c1 : q.2.2 < 0
  ·exact ⟨(attrs, sp, s, p + 1, true), (attrs, sp, s, p, false), .inl ⟨rfl, rfl, rfl, rfl⟩, GI (fun _ => rfl) (fun h => absurd c1 h), GS (Ev.ifp c1 (Ev.now _))⟩
  rcases hq with hq | ⟨g1, g2, g3, g4, g5⟩
  ·omega
  have hIq := hI q.1;by_cases c2 : (attrs.any fun x => x.f0.toList == q.1.toList) = true
  ·rw [c2, Bool.true_or] at hIq;exact ⟨(attrs, sp, s, q.2.2, true), (attrs, sp, s, p, false), .inl ⟨rfl, rfl, rfl, rfl⟩, GI (fun h => absurd h c1) (fun _ => Ev.ifp hIq (Ev.now _)), GS (Ev.ifn c1 (Ev.ifp c2 (Ev.now _)))⟩
  have c2' : (attrs.any fun x => x.f0.toList == q.1.toList) = false := by simpa using c2
  rw [c2', Bool.false_or] at hIq;by_cases c3 : q.1.toList = [120, 109, 108, 110, 115]
  ·rw [dE_ (show q.1.toList = xmlns from c3), Bool.and_true] at hIq;cases told with
   | true => exact ⟨(attrs, sp, s, q.2.2, true), (attrs, sp, s, p, false), .inl ⟨rfl, rfl, rfl, rfl⟩, GI (fun h => absurd h c1) (fun _ => Ev.ifp hIq (Ev.now _)), GS (Ev.ifn c1 (Ev.ifn c2 (Ev.ifp c3 (Ev.ifp rfl (Ev.now _)))))⟩
   | false =>
   have hnn : ¬ (names.any fun x => x.f0.toList == q.1.toList) = true := by rw [hIq]; simp
   have GI2 : ∀ {r}, Ev (fun k => attrsL k about s q.2.2 (decide (spN q.2.1 < 0) || decide (spN q.2.1 = about)) (names ++ [⟨q.1, q.2.1⟩]) attrs (spN q.2.1)) r → Ev (fun k => attrsL k about s p false names attrs sp) r := fun h => GI (fun h9 => absurd h9 c1) (fun _ => Ev.ifn hnn (Ev.ifp c3 (Ev.bind (space_i q.2.1) h)))
   have GS2 : ∀ {r}, Ev (fun k => sattrsL k about s q.2.2 (!decide (spN q.2.1 = about)) attrs (spN q.2.1) true) r → Ev (fun k => sattrsL k about s p true attrs sp false) r := fun h => GS (Ev.ifn c1 (Ev.ifn c2 (Ev.ifp c3 (Ev.ifn si_ (Ev.bind (space_s q.2.1) h)))))
   by_cases c4 : spN q.2.1 = about
   ·rw [dE_ c4, Bool.or_true] at GI2;rw [dE_ c4] at GS2;exact ⟨_, _, .inl ⟨rfl, rfl, rfl, rfl⟩, GI2 (attrs_bad _ _ _ _ _ _), GS2 (sattrs_bad _ _ _ _ _ _)⟩
   ·rw [dF_ c4, Bool.or_false] at GI2;rw [dF_ c4] at GS2;rcases spN_range q.2.1 with c5 | c5
    ·rw [c5] at GI2 GS2;obtain ⟨r, hr, e⟩ := sattrs_div about s hs _ q.2.2 attrs (Nat.le_refl _) om_ g2 om_;exact ⟨_, r, .inl ⟨rfl, hr.1, rfl, hr.2⟩, GI2 (attrs_bad _ _ _ _ _ _), GS2 e⟩
    ·rw [dF_ (show ¬ spN q.2.1 < 0 by omega)] at GI2;obtain ⟨ra, rs, hS, e3, e4⟩ := ih q.2.2 (names ++ [⟨q.1, q.2.1⟩]) attrs (spN q.2.1) true om_ om_ g2 (by simp; omega) om_ (fun n => by
      rw [List.any_append, hI n];simp only [Bool.false_and, Bool.or_false, Bool.true_and, List.any_cons, List.any_nil];congr 1
      rw [c3];by_cases h9 : n.toList = xmlns
      ·rw [dE_ h9, h9]; rfl
      ·rw [dF_ h9]; exact bN_ (fun h => h9 h.symm)) hA om_
     refine ⟨ra, rs, ?_, GI2 e3, GS2 e4⟩;rcases hS with hS | ⟨A, x, p', a1, a2, a3, a4⟩
     ·exact .inl hS
     ·exact .inr ⟨A, x, p', a1, a2, om_, a4⟩
  ·have hnn : ¬ (names.any fun x => x.f0.toList == q.1.toList) = true := by rw [hIq, dF_ (show ¬ q.1.toList = xmlns from c3)]; simp
   obtain ⟨ra, rs, hS, e3, e4⟩ := ih q.2.2 (names ++ [⟨q.1, q.2.1⟩]) (attrs ++ [⟨q.1, q.2.1⟩]) sp told om_ om_ g2 (by simp; omega) (by simp; omega) (fun n => by
    rw [List.any_append, List.any_append, hI n];generalize (attrs.any fun x => x.f0.toList == n.toList) = z1;generalize (told && decide (n.toList = xmlns)) = z2;generalize (([⟨q.1, q.2.1⟩] : List SAt).any fun x => x.f0.toList == n.toList) = z3;cases z1 <;> cases z2 <;> cases z3 <;> rfl) (fun y hy => by
    rcases List.mem_append.1 hy with hy | hy
    ·exact hA y hy
    ·obtain rfl := List.mem_singleton.1 hy;exact ⟨g3, g4⟩) (by rw [aW_append]; simp only [aW]; omega)
   refine ⟨ra, rs, ?_, GI (fun h => absurd h c1) (fun _ => Ev.ifn hnn (Ev.ifn c3 e3)), GS (Ev.ifn c1 (Ev.ifn c2 (Ev.ifn c3 (Ev.ifp om_ e4))))⟩;rcases hS with hS | ⟨A, x, p', a1, a2, a3, a4⟩
   ·exact .inl hS
   ·exact .inr ⟨A, x, p', a1, a2, om_, a4⟩
abbrev SEl := S43
mutual
/-- an element's texts and lists are no larger than is held, and it is at most so deep -/
def fitS : SEl → Nat → Prop
 | ⟨_, _, nm, at_, tx, ks⟩, n => 1 ≤ n ∧ nm.size ≤ 1048576 ∧ tx.size ≤ 1048576 ∧ at_.length ≤ 1048576 ∧ (∀ y ∈ at_, y.f0.size ≤ 1048576 ∧ y.f1.size ≤ 1048576) ∧ ks.length ≤ 1048576 ∧ fitSL ks (n - 1)
def fitSL : List SEl → Nat → Prop
 | [], _ => True
 | e :: es, n => fitS e n ∧ fitSL es n
end
mutual
/-- how much an element's texts are together -/
def wt : SEl → Nat
 | ⟨_, _, nm, at_, tx, ks⟩ => 1 + nm.size + aW at_ + tx.size + wtL ks
def wtL : List SEl → Nat
 | [] => 0
 | e :: es => wt e + wtL es
end
theorem wtL_append : ∀ a b : List SEl, wtL (a ++ b) = wtL a + wtL b
 | [], b => by rw [List.nil_append, wtL]; omega
 | x :: a, b => by rw [List.cons_append, wtL, wtL, wtL_append a b]; omega
theorem wtL_one (e : SEl) : wtL [e] = wt e := by rw [wtL, wtL]; rfl
theorem fitSL_append (n : Nat) : ∀ (a b : List SEl), fitSL a n → fitSL b n → fitSL (a ++ b) n
 | [], b, _, hb => hb
 | e :: a, b, ha, hb => ⟨ha.1, fitSL_append n a b ha.2 hb⟩
theorem fitSL_one {e : SEl} {n : Nat} (h : fitS e n) : fitSL [e] n := ⟨h, trivial⟩
def SameE (n : Nat) (s : BA) (p : Int) (re rs : SEl × ByteArray × Int × Bool) : Prop :=
 (re.2.2.2 = true ∧ rs.2.2.2 = false ∧ re.2.1 = s ∧ rs.2.1 = s) ∨ ∃ (e : SEl) (p' : Int), re = (e, s, p', false) ∧ rs = (e, s, p', true) ∧ p < p' ∧ p' ≤ s.size ∧ (wt e : Int) ≤ 5 * (p' - p) ∧ fitS e n
def SameK (n : Nat) (s : BA) (p w : Int) (rk rs : List SEl × ByteArray × Int × Bool) : Prop :=
 (rk.2.2.2 = true ∧ rs.2.2.2 = false ∧ rk.2.1 = s ∧ rs.2.1 = s) ∨ ∃ (L : List SEl) (p' : Int), rk = (L, s, p', false) ∧ rs = (L, s, p', true) ∧ p ≤ p' ∧ p' ≤ s.size ∧ (L.length : Int) ≤ p' ∧ (wtL L : Int) ≤ w + 5 * p' ∧ fitSL L n
theorem kids_bad (sp deep : Int) (s : BA) (p : Int) (ks : List SEl) : Ev (fun k => kidsL k sp deep s p true ks) (ks, s, p, true) :=
 Ev.step (fun k => by simp only [kidsL]; rfl) (Ev.ifp (show true = true from rfl) (Ev.now _))
theorem skids_bad (sp deep : Int) (s : BA) (p : Int) (ks : List SEl) : Ev (fun k => sKidsL k sp deep s p false ks) (ks, s, p, false) :=
 Ev.step (fun k => by simp only [sKidsL]; rfl) (Ev.ifn si_ (Ev.now _))
theorem el_bad (deep sp : Int) (s : BA) (p : Int) (nm : BA) (hn : nm.size ≤ 140737488351232) (at_ : List SAt) : Ev (fun n => (impl_reader_is.f s p true ⟨#[47, 62]⟩).bind fun t => if t.1 = true then
   (impl_reader_take.f t.2.1 t.2.2.1 t.2.2.2 ⟨#[47, 62]⟩).bind fun t2 => some ((⟨1, sp, nm, at_, ⟨#[]⟩, []⟩ : SEl), t2)
  else (impl_reader_take.f t.2.1 t.2.2.1 t.2.2.2 ⟨#[62]⟩).bind fun t3 => (kidsL n sp deep t3.1 t3.2.1 t3.2.2 []).bind fun ks =>
   if nm.size ≤ 140737488351232 then (impl_reader_take.f ks.2.1 ks.2.2.1 ks.2.2.2 ((⟨#[60, 47]⟩ ++ nm) ++ ⟨#[62]⟩)).bind fun t4 => some (⟨1, sp, nm, at_, ⟨#[]⟩, ks.1⟩, t4) else none) (⟨1, sp, nm, at_, ⟨#[]⟩, []⟩, s, p, true) := by
 exact Ev.bindc (is_bad s p _) (Ev.ifn si_ (Ev.bindc (take_bad s p _) (Ev.bind (kids_bad sp deep s p []) (Ev.ifp hn (Ev.bindc (take_bad s p _) (Ev.now _))))))
theorem srest_bad (about deep : Int) (nm : BA) (hn : nm.size ≤ 140737488351232) (at_ : List SAt) (sp : Int) (s : BA) (p : Int) : Ev (fun k => sRest k about deep nm at_ sp s p false) (⟨1, sp, nm, at_, ⟨#[]⟩, []⟩, s, p, false) :=
 by
  refine Ev.step (fun k => by simp only [sRest]; rfl) ?_;exact Ev.bindc (stake_bad s p _) (Ev.bind (skids_bad sp deep s p []) (Ev.ifp hn (Ev.bindc (stake_bad s p _) (Ev.now _))))
theorem inE60 (c : Int) (h0 : 0 ≤ c) (h1 : c ≤ 255) : inE (⟨#[60]⟩ : BA) c ↔ c = 60 := by
 unfold inE;have hb := u8_back c h0 h1;constructor
 ·intro h;have h2 : c.toNat.toUInt8 = 60 := by simpa using h
  rw [h2] at hb;exact hb.symm
 ·rintro rfl;decide
theorem max0 (x : Int) : spec_l1Max.f x 0 = some (if x > 0 then x else 0) := by
 unfold spec_l1Max.f;split <;> rfl
theorem kids_both (s : BA) (hs : s.size ≤ 1048576) (dp : Nat) (hd : dp ≤ 1000)
  (hP : ∀ (about p : Int), 0 ≤ p → p ≤ s.size → ∃ re rs, SameE (dp + 1) s p re rs ∧ Ev (fun k => readEl k about (dp : Int) s p false) re ∧ Ev (fun k => sEl k about (dp : Int) s p true) rs) (sp w : Int) :
  ∀ (d : Nat) (p : Int) (kids : List SEl), ((s.size : Int) - p).toNat ≤ d → 0 ≤ p → p ≤ s.size → (kids.length : Int) ≤ p → (wtL kids : Int) ≤ w + 5 * p → fitSL kids (dp + 1) →
   ∃ rk rs, SameK (dp + 1) s p w rk rs ∧ Ev (fun k => kidsL k sp ((dp : Int) + 1) s p false kids) rk ∧ Ev (fun k => sKidsL k sp ((dp : Int) + 1) s p true kids) rs := by
 have hw : wrap64 ((dp : Int) + 1 - 1) = dp := by unfold wrap64; omega
 have hs1 : s.size ≤ 1048576 := om_;intro d;induction d with
 | zero =>
  intro p kids hd h0 h1 hl hw5 hf;have hp : p = s.size := om_;have n2 : ¬ standsAt s p (⟨#[60, 47]⟩ : BA) := fun h => by have := h.1; have hz : ((⟨#[60, 47]⟩ : BA).size : Int) = 2 := rfl; omega
  have n4 : ¬ standsAt s p (⟨#[60, 33, 45, 45]⟩ : BA) := fun h => by have := h.1; have hz : ((⟨#[60, 33, 45, 45]⟩ : BA).size : Int) = 4 := rfl; omega
  have n1 : ¬ standsAt s p (⟨#[60]⟩ : BA) := fun h => by have := h.1; have hz : ((⟨#[60]⟩ : BA).size : Int) = 1 := rfl; omega
  obtain ⟨q, hq, e1, e2⟩ := text_more (⟨#[60]⟩ : BA) de_ s hs1 p h0;have hle : q.2 ≤ p := by rcases hq with hq | hq <;> omega
  have textB : Ev (fun k => impl_reader_text.f k s p false) (0, ⟨#[]⟩, s, p, true) := by
   unfold impl_reader_text.f;exact Ev.bind e2 (Ev.ifp hle (Ev.now _))
  have textC : Ev (fun k => readKid k sp (dp : Int) s p false) ((⟨0, 0, ⟨#[]⟩, [], ⟨#[]⟩, []⟩ : SEl), s, p, true) := by
   refine Ev.step (fun k => by simp only [readKid]; rfl) ?_;exact Ev.bindc (is_f s p _ h0 h1) (Ev.ifn (by simpa using n4) (Ev.bindc (is_f s p _ h0 h1) (Ev.ifn (by simpa using n1) (Ev.bind textB (Ev.now _)))))
  have textA : Ev (fun n => (readKid n sp (wrap64 ((dp : Int) + 1 - 1)) s p false).bind fun kd => if kids.length < 1000000000000 then kidsL n sp ((dp : Int) + 1) kd.2.1 kd.2.2.1 kd.2.2.2 (kids ++ [kd.1]) else none) (kids ++ [(⟨0, 0, ⟨#[]⟩, [], ⟨#[]⟩, []⟩ : SEl)], s, p, true) := by
   rw [hw];exact Ev.bind textC (Ev.ifp om_ (kids_bad _ _ _ _ _))
  refine ⟨(kids ++ [(⟨0, 0, ⟨#[]⟩, [], ⟨#[]⟩, []⟩ : SEl)], s, p, true), (kids, s, p, false), .inl ⟨rfl, rfl, rfl, rfl⟩, ?_, ?_⟩
  ·refine Ev.step (fun k => by simp only [kidsL]; rfl) ?_;refine Ev.ifn si_ (Ev.bindc (is_f s p _ h0 h1) (Ev.ifn (by simpa using n2) ?_));exact textA
  ·refine Ev.step (fun k => by simp only [sKidsL]; rfl) ?_;refine Ev.ifp tr_ (Ev.bindc (stands_f s hs1 p _ de_ h0 h1) (Ev.ifn (by simpa using n2) (Ev.ifp om_ ?_)));exact skids_bad _ _ _ _ _
 | succ d ih =>
  intro p kids hd h0 h1 hl hw5 hf;by_cases n2 : standsAt s p (⟨#[60, 47]⟩ : BA)
  ·refine ⟨(kids, s, p, false), (kids, s, p, true), .inr ⟨kids, p, rfl, rfl, Int.le_refl _, h1, hl, hw5, hf⟩, ?_, ?_⟩
   ·refine Ev.step (fun k => by simp only [kidsL]; rfl) ?_;exact Ev.ifn si_ (Ev.bindc (is_f s p _ h0 h1) (Ev.ifp (dE_ n2) (Ev.now _)))
   ·refine Ev.step (fun k => by simp only [sKidsL]; rfl) ?_;exact Ev.ifp tr_ (Ev.bindc (stands_f s hs1 p _ de_ h0 h1) (Ev.ifp (dE_ n2) (Ev.now _)))
  have GI : ∀ {kd : SEl × ByteArray × Int × Bool} {r}, Ev (fun k => readKid k sp (dp : Int) s p false) kd → Ev (fun k => kidsL k sp ((dp : Int) + 1) kd.2.1 kd.2.2.1 kd.2.2.2 (kids ++ [kd.1])) r → Ev (fun k => kidsL k sp ((dp : Int) + 1) s p false kids) r := fun h1_ h2_ => by
   refine Ev.step (fun k => by simp only [kidsL]; rfl) ?_;refine Ev.ifn si_ (Ev.bindc (is_f s p _ h0 h1) (Ev.ifn (by simpa using n2) ?_));simp only [hw];exact Ev.bind h1_ (Ev.ifp om_ h2_)
  have GS : ∀ {r}, Ev (fun n => if (s.size : Int) ≤ p then sKidsL n sp ((dp : Int) + 1) s p false kids else (spec_l5Stands.f s p ⟨#[60, 33, 45, 45]⟩).bind fun z2 =>
    if z2 = true then (spec_XmlNote.f n s p).bind fun q => if kids.length < 1000000000000 then (spec_l1Max.f q.2 0).bind fun m => sKidsL n sp ((dp : Int) + 1) s m (decide (q.2 ≥ 0)) (kids ++ [⟨3, 0, ⟨#[]⟩, [], q.1, []⟩]) else none
    else if 0 ≤ p then (if kids.length < 1000000000000 then (if bt s p = 60 then (sEl n sp (dp : Int) s p true).bind fun kd => sKidsL n sp ((dp : Int) + 1) kd.2.1 kd.2.2.1 kd.2.2.2 (kids ++ [kd.1])
     else (spec_XmlText.f n s p ⟨#[60]⟩).bind fun q => (spec_l1Max.f q.2 0).bind fun m => sKidsL n sp ((dp : Int) + 1) s m (decide (q.2 ≥ 0)) (kids ++ [⟨2, 0, ⟨#[]⟩, [], q.1, []⟩])) else none)
    else none) r → Ev (fun k => sKidsL k sp ((dp : Int) + 1) s p true kids) r := fun h => by
   refine Ev.step (fun k => by simp only [sKidsL]; rfl) ?_;refine Ev.ifp tr_ (Ev.bindc (stands_f s hs1 p _ de_ h0 h1) (Ev.ifn (by simpa using n2) ?_));simp only [hw];exact h
  have go : ∀ (e : SEl) (p' : Int), p < p' → p' ≤ s.size → (wt e : Int) ≤ 5 * (p' - p) → fitS e (dp + 1) → ∃ rk rs, SameK (dp + 1) s p w rk rs ∧ Ev (fun k => kidsL k sp ((dp : Int) + 1) s p' false (kids ++ [e])) rk ∧ Ev (fun k => sKidsL k sp ((dp : Int) + 1) s p' true (kids ++ [e])) rs := fun e p' g1 g2 gw g3 => by
   obtain ⟨rk, rs, hS, e1, e2⟩ := ih p' (kids ++ [e]) om_ om_ g2 (by simp; omega) (by rw [wtL_append, wtL_one]; omega) (fitSL_append _ _ _ hf (fitSL_one g3));refine ⟨rk, rs, ?_, e1, e2⟩;rcases hS with hS | ⟨L, p2, a1, a2, a3, a4⟩
   ·exact .inl hS
   ·exact .inr ⟨L, p2, a1, a2, om_, a4⟩
  by_cases n4 : standsAt s p (⟨#[60, 33, 45, 45]⟩ : BA)
  ·have h4 : p + 4 ≤ s.size := n4.1;obtain ⟨q, hq, e1, e2⟩ := xnote_more s hs1 p;have KI : ∀ {y}, Ev (fun k => impl_reader_note.f k s p false) y → Ev (fun k => readKid k sp (dp : Int) s p false) (⟨y.1, 0, ⟨#[]⟩, [], y.2.1, []⟩, y.2.2) := fun h => by
    refine Ev.step (fun k => by simp only [readKid]; rfl) ?_;exact Ev.bindc (is_f s p _ h0 h1) (Ev.ifp (dE_ n4) (Ev.bind h (Ev.now _)))
   have GS2 : ∀ {r}, Ev (fun n => sKidsL n sp ((dp : Int) + 1) s (if q.2 > 0 then q.2 else 0) (decide (q.2 ≥ 0)) (kids ++ [⟨3, 0, ⟨#[]⟩, [], q.1, []⟩])) r → Ev (fun k => sKidsL k sp ((dp : Int) + 1) s p true kids) r := fun h => by
    refine GS ?_;exact Ev.ifn om_ (Ev.bindc (stands_f s hs1 p _ de_ h0 h1) (Ev.ifp (dE_ n4) (Ev.bind e1 (Ev.ifp om_ (Ev.bindc (max0 q.2) h)))))
   rcases hq with hq | ⟨g1, g2, g3⟩
   ·have K1 := KI (y := (0, ⟨#[]⟩, s, p, true)) (by unfold impl_reader_note.f; exact Ev.bind e2 (Ev.ifp om_ (Ev.now _)));rw [dF_ (show ¬ q.2 ≥ 0 by omega)] at GS2;exact ⟨(_, s, _, true), (_, s, _, false), .inl ⟨rfl, rfl, rfl, rfl⟩, GI K1 (kids_bad _ _ _ _ _), GS2 (skids_bad _ _ _ _ _)⟩
   ·have K1 := KI (y := (3, q.1, s, q.2, false)) (by unfold impl_reader_note.f; exact Ev.bind e2 (Ev.ifn om_ (Ev.now _)));rw [dE_ (show q.2 ≥ 0 by omega), if_pos (show q.2 > 0 by omega)] at GS2;obtain ⟨rk, rs, hS, e3, e4⟩ := go ⟨3, 0, ⟨#[]⟩, [], q.1, []⟩ q.2 g1 g2 (by simp only [wt, aW, wtL]; show ((1 + 0 + 0 + q.1.size + 0 : Nat) : Int) ≤ _; omega) ⟨om_, by decide, om_, by simp, (fun y hy => by cases hy), by simp, trivial⟩;exact ⟨rk, rs, hS, GI K1 e3, GS2 e4⟩
  by_cases n1 : p < (s.size : Int) ∧ bt s p = 60
  ·have st1 : standsAt s p (⟨#[60]⟩ : BA) := (stands1 s p 60 h0).2 n1;obtain ⟨re, rs, hS, e1, e2⟩ := hP sp p h0 h1;have K1 : Ev (fun k => readKid k sp (dp : Int) s p false) re := by
    refine Ev.step (fun k => by simp only [readKid]; rfl) ?_;exact Ev.bindc (is_f s p _ h0 h1) (Ev.ifn (by simpa using n4) (Ev.bindc (is_f s p _ h0 h1) (Ev.ifp (dE_ st1) e1)))
   have GS2 : ∀ {r}, Ev (fun n => sKidsL n sp ((dp : Int) + 1) rs.2.1 rs.2.2.1 rs.2.2.2 (kids ++ [rs.1])) r → Ev (fun k => sKidsL k sp ((dp : Int) + 1) s p true kids) r := fun h => by
    refine GS ?_;exact Ev.ifn om_ (Ev.bindc (stands_f s hs1 p _ de_ h0 h1) (Ev.ifn (by simpa using n4) (Ev.ifp h0 (Ev.ifp om_ (Ev.ifp n1.2 (Ev.bind e2 h))))))
   rcases hS with ⟨a1, a2, a3, a4⟩ | ⟨e, p', rfl, rfl, g1, g2, gw, g3⟩
   ·obtain ⟨x1, x2, x3, x4⟩ := re;obtain ⟨y1, y2, y3, y4⟩ := rs;obtain rfl : x4 = true := a1;obtain rfl : y4 = false := a2;have b3 : s = x2 := a3.symm;subst b3;have b4 : s = y2 := a4.symm;subst b4;exact ⟨(_, s, _, true), (_, s, _, false), .inl ⟨rfl, rfl, rfl, rfl⟩, GI K1 (kids_bad _ _ _ _ _), GS2 (skids_bad _ _ _ _ _)⟩
   ·obtain ⟨rk, rs, hS, e3, e4⟩ := go e p' g1 g2 gw g3;exact ⟨rk, rs, hS, GI K1 e3, GS2 e4⟩
  have nst1 : ¬ standsAt s p (⟨#[60]⟩ : BA) := fun h => n1 ((stands1 s p 60 h0).1 h)
  obtain ⟨q, hq, e1, e2⟩ := text_more (⟨#[60]⟩ : BA) de_ s hs1 p h0;have KI : ∀ {y}, Ev (fun k => impl_reader_text.f k s p false) y → Ev (fun k => readKid k sp (dp : Int) s p false) (⟨y.1, 0, ⟨#[]⟩, [], y.2.1, []⟩, y.2.2) := fun h => by
   refine Ev.step (fun k => by simp only [readKid]; rfl) ?_;exact Ev.bindc (is_f s p _ h0 h1) (Ev.ifn (by simpa using n4) (Ev.bindc (is_f s p _ h0 h1) (Ev.ifn (by simpa using nst1) (Ev.bind h (Ev.now _)))))
  by_cases c5 : (s.size : Int) ≤ p
  ·have hle : q.2 ≤ p := by rcases hq with hq | hq <;> omega
   have K1 := KI (y := (0, ⟨#[]⟩, s, p, true)) (by unfold impl_reader_text.f; exact Ev.bind e2 (Ev.ifp hle (Ev.now _)));exact ⟨(_, s, _, true), (_, s, _, false), .inl ⟨rfl, rfl, rfl, rfl⟩, GI K1 (kids_bad _ _ _ _ _), GS (Ev.ifp c5 (skids_bad _ _ _ _ _))⟩
  have hr := bt_range s p;have hb : bt s p ≠ 60 := fun h => n1 ⟨om_, h⟩
  have GS2 : ∀ {r}, Ev (fun n => sKidsL n sp ((dp : Int) + 1) s (if q.2 > 0 then q.2 else 0) (decide (q.2 ≥ 0)) (kids ++ [⟨2, 0, ⟨#[]⟩, [], q.1, []⟩])) r → Ev (fun k => sKidsL k sp ((dp : Int) + 1) s p true kids) r := fun h => by
   refine GS ?_;exact Ev.ifn c5 (Ev.bindc (stands_f s hs1 p _ de_ h0 h1) (Ev.ifn (by simpa using n4) (Ev.ifp h0 (Ev.ifp om_ (Ev.ifn hb (Ev.bind e1 (Ev.bindc (max0 q.2) h)))))))
  rcases hq with hq | ⟨g1, g2, g3, g4⟩
  ·have K1 := KI (y := (0, ⟨#[]⟩, s, p, true)) (by unfold impl_reader_text.f; exact Ev.bind e2 (Ev.ifp om_ (Ev.now _)));rw [dF_ (show ¬ q.2 ≥ 0 by omega)] at GS2;exact ⟨(_, s, _, true), (_, s, _, false), .inl ⟨rfl, rfl, rfl, rfl⟩, GI K1 (kids_bad _ _ _ _ _), GS2 (skids_bad _ _ _ _ _)⟩
  ·have g5 := g4 om_ (fun h => hb ((inE60 _ hr.1 hr.2).1 h));have K1 := KI (y := (2, q.1, s, q.2, false)) (by unfold impl_reader_text.f; exact Ev.bind e2 (Ev.ifn om_ (Ev.now _)));rw [dE_ (show q.2 ≥ 0 by omega), if_pos (show q.2 > 0 by omega)] at GS2;obtain ⟨rk, rs, hS, e3, e4⟩ := go ⟨2, 0, ⟨#[]⟩, [], q.1, []⟩ q.2 g5 g2 (by simp only [wt, aW, wtL]; show ((1 + 0 + 0 + q.1.size + 0 : Nat) : Int) ≤ _; omega) ⟨om_, by decide, om_, by simp, (fun y hy => by cases hy), by simp, trivial⟩;exact ⟨rk, rs, hS, GI K1 e3, GS2 e4⟩
theorem isEmpty_ne {l : List UInt8} (h : l ≠ []) : l.isEmpty = false := by cases l with | nil => exact absurd rfl h | cons a b => rfl
theorem el_both (s : BA) (hs : s.size ≤ 1048576) : ∀ (dp : Nat), dp ≤ 1000 → ∀ (about p : Int), 0 ≤ p → p ≤ s.size → ∃ re rs, SameE (dp + 1) s p re rs ∧ Ev (fun k => readEl k about (dp : Int) s p false) re ∧ Ev (fun k => sEl k about (dp : Int) s p true) rs := by
 have hs1 : s.size ≤ 1048576 := om_;intro dp;induction dp with
 | zero =>
  intro _ about p h0 h1;have e1 : Ev (fun k => readEl k about ((0 : Nat) : Int) s p false) (z43, s, p, true) := by
   refine Ev.step (fun k => by simp only [readEl]; rfl) ?_;exact Ev.ifp de_ (Ev.now _)
  by_cases c : standsAt s p (⟨#[60]⟩ : BA)
  ·refine ⟨_, (⟨1, 0, ⟨#[]⟩, [], ⟨#[]⟩, []⟩, s, p + (⟨#[60]⟩ : BA).size, false), .inl ⟨rfl, rfl, rfl, rfl⟩, e1, ?_⟩;refine Ev.step (fun k => by simp only [sEl]; rfl) ?_;exact Ev.bindc (stake_yes s p _ h0 c hs1) (Ev.ifp tr_ (Ev.ifp de_ (Ev.now _)))
  ·refine ⟨_, (⟨1, 0, ⟨#[]⟩, [], ⟨#[]⟩, []⟩, s, p, false), .inl ⟨rfl, rfl, rfl, rfl⟩, e1, ?_⟩;refine Ev.step (fun k => by simp only [sEl]; rfl) ?_;exact Ev.bindc (stake_no s p _ de_ h0 h1 c hs1) (Ev.ifn si_ (Ev.now _))
 | succ dp ih =>
  intro hdp about p h0 h1;have hcast : ((dp + 1 : Nat) : Int) = (dp : Int) + 1 := om_;rw [hcast];have hd1 : ¬ ((dp : Int) + 1 < 1) := om_;have hd0 : ¬ ((dp : Int) + 1 = 0) := om_;have ih' := ih om_;by_cases c : standsAt s p (⟨#[60]⟩ : BA)
  case neg =>
   refine ⟨(⟨1, about, ⟨#[]⟩, [], ⟨#[]⟩, []⟩, s, p, true), (⟨1, 0, ⟨#[]⟩, [], ⟨#[]⟩, []⟩, s, p, false), .inl ⟨rfl, rfl, rfl, rfl⟩, ?_, ?_⟩
   ·have nb : ∀ k, impl_reader_name.f k s p true = some (⟨#[]⟩, s, p, true) := fun k => by unfold impl_reader_name.f; rw [if_pos rfl]
    refine Ev.step (fun k => by simp only [readEl]; rfl) ?_;refine Ev.ifn hd1 (Ev.bindc (take_no s p _ h0 h1 c) (Ev.bind (Ev.up 0 (fun k => nb k)) (Ev.bind (a := ([], about, s, p, true)) (attrs_bad about s p [] [] about) ?_)));exact el_bad ((dp : Int) + 1) about s p ⟨#[]⟩ de_ []
   ·refine Ev.step (fun k => by simp only [sEl]; rfl) ?_;exact Ev.bindc (stake_no s p _ de_ h0 h1 c hs1) (Ev.ifn si_ (Ev.now _))
  have hz1 : ((⟨#[60]⟩ : BA).size : Int) = 1 := rfl;have c1 : p + 1 ≤ s.size := c.1;have ty := take_yes s p _ h0 c hs1;have sy := stake_yes s p _ h0 c hs1;rw [hz1] at ty sy;obtain ⟨⟨nm, e⟩, n1, n2, n3, n4, n5, n6⟩ := name_more s hs1 (p + 1) om_ c1;have n3' : p + 1 ≤ e := n3;have n4' : e ≤ s.size := n4;have n6' : (nm.size : Int) ≤ e - (p + 1) := n5;have n5' : nm.size ≤ s.size := om_;have nme : Ev (fun k => impl_reader_name.f k s (p + 1) false) (nm, s, e, nm.toList.isEmpty) := by
   unfold impl_reader_name.f;exact Ev.ifn si_ (Ev.bind n2 (Ev.now _))
  have GI : ∀ {a r}, Ev (fun k => impl_reader_attrs.f k about about s e nm.toList.isEmpty) a → Ev (fun n => (impl_reader_is.f a.2.2.1 a.2.2.2.1 a.2.2.2.2 ⟨#[47, 62]⟩).bind fun t => if t.1 = true then
   (impl_reader_take.f t.2.1 t.2.2.1 t.2.2.2 ⟨#[47, 62]⟩).bind fun t2 => some ((⟨1, a.2.1, nm, a.1, ⟨#[]⟩, []⟩ : SEl), t2)
  else (impl_reader_take.f t.2.1 t.2.2.1 t.2.2.2 ⟨#[62]⟩).bind fun t3 => (kidsL n a.2.1 ((dp : Int) + 1) t3.1 t3.2.1 t3.2.2 []).bind fun ks =>
   if nm.size ≤ 140737488351232 then (impl_reader_take.f ks.2.1 ks.2.2.1 ks.2.2.2 ((⟨#[60, 47]⟩ ++ nm) ++ ⟨#[62]⟩)).bind fun t4 => some (⟨1, a.2.1, nm, a.1, ⟨#[]⟩, ks.1⟩, t4) else none) r → Ev (fun k => readEl k about ((dp : Int) + 1) s p false) r := fun ha h => by
   refine Ev.step (fun k => by simp only [readEl]; rfl) ?_;refine Ev.ifn hd1 (Ev.bindc ty (Ev.bind nme (Ev.bind ha ?_)));exact h
  by_cases cn : nm.toList = []
  ·have hie : nm.toList.isEmpty = true := by rw [cn]; rfl
   rw [hie] at GI;refine ⟨(⟨1, about, nm, [], ⟨#[]⟩, []⟩, s, e, true), (⟨1, 0, ⟨#[]⟩, [], ⟨#[]⟩, []⟩, s, p + 1, false), .inl ⟨rfl, rfl, rfl, rfl⟩, GI (a := ([], about, s, e, true)) (attrs_bad about s e [] [] about) (el_bad ((dp : Int) + 1) about s e nm om_ []), ?_⟩;refine Ev.step (fun k => by simp only [sEl]; rfl) ?_;exact Ev.bindc sy (Ev.ifp tr_ (Ev.ifn hd0 (Ev.bind n1 (Ev.ifp cn (Ev.now _)))))
  have hie := isEmpty_ne cn;rw [hie] at GI;obtain ⟨ra, rs, hA, a1, a2⟩ := attrs_both about s hs1 (-(5 * e)) _ e [] [] about false (Nat.le_refl _) om_ n4' (by simp; omega) (by simp; omega) (fun n => by simp) (fun y hy => by cases hy) (by simp only [aW]; omega);have GS : ∀ {r}, Ev (fun n => if rs.2.2.2.2 = true then ((spec_l5Stands.f rs.2.2.1 rs.2.2.2.1 ⟨#[47, 62]⟩).bind fun z => if z = true then some ((⟨1, rs.2.1, nm, rs.1, ⟨#[]⟩, []⟩ : SEl), rs.2.2.1, wrap64 (rs.2.2.2.1 + 2), true) else sRest n about ((dp : Int) + 1) nm rs.1 rs.2.1 rs.2.2.1 rs.2.2.2.1 true)
   else sRest n about ((dp : Int) + 1) nm rs.1 rs.2.1 rs.2.2.1 rs.2.2.2.1 false) r → Ev (fun k => sEl k about ((dp : Int) + 1) s p true) r := fun h => by
   refine Ev.step (fun k => by simp only [sEl]; rfl) ?_;refine Ev.bindc sy (Ev.ifp tr_ (Ev.ifn hd0 (Ev.bind n1 (Ev.ifn cn (Ev.bind (a := rs) a2 ?_)))));exact h
  have GI2 := fun {r} => @GI ra r a1
  rcases hA with ⟨b1, b2, b3, b4⟩ | ⟨A, x, p2, rfl, rfl, g1, g2, g3, g4, gw, g5⟩
  ·obtain ⟨x1, x2, x3, x4, x5⟩ := ra;obtain ⟨y1, y2, y3, y4, y5⟩ := rs;obtain rfl : x5 = true := b1;obtain rfl : y5 = false := b2;have b3' : s = x3 := b3.symm;subst b3';have b4' : s = y3 := b4.symm;subst b4';refine ⟨(⟨1, x2, nm, x1, ⟨#[]⟩, []⟩, s, x4, true), (⟨1, y2, nm, y1, ⟨#[]⟩, []⟩, s, y4, false), .inl ⟨rfl, rfl, rfl, rfl⟩, GI2 (el_bad ((dp : Int) + 1) x2 s x4 nm om_ x1), GS ?_⟩;exact Ev.ifn si_ (srest_bad about ((dp : Int) + 1) nm om_ y1 y2 s y4)
  have p20 : 0 ≤ p2 := om_;have hz2 : ((⟨#[47, 62]⟩ : BA).size : Int) = 2 := rfl;have hzT : ((((⟨#[60, 47]⟩ : BA) ++ nm) ++ (⟨#[62]⟩ : BA)).size : Int) = nm.size + 3 := by rw [ByteArray.size_append, ByteArray.size_append, show (⟨#[60, 47]⟩ : BA).size = 2 from rfl, show (⟨#[62]⟩ : BA).size = 1 from rfl]; omega
  by_cases c2 : standsAt s p2 (⟨#[47, 62]⟩ : BA)
  ·have c2' : p2 + 2 ≤ s.size := c2.1;have hw2 : wrap64 (p2 + 2) = p2 + 2 := by unfold wrap64; omega
   have t2 := take_yes s p2 _ p20 c2 hs1;rw [hz2] at t2;refine ⟨(⟨1, x, nm, A, ⟨#[]⟩, []⟩, s, p2 + 2, false), (⟨1, x, nm, A, ⟨#[]⟩, []⟩, s, p2 + 2, true), .inr ⟨_, _, rfl, rfl, om_, c2', by simp only [wt, wtL]; show ((1 + nm.size + aW A + 0 + 0 : Nat) : Int) ≤ _; omega, om_, by show nm.size ≤ _; omega, by decide, om_, (fun y hy => ⟨by have := (g5 y hy).1; omega, by have := (g5 y hy).2; omega⟩), by simp, trivial⟩, GI2 ?_, GS ?_⟩
   ·exact Ev.bindc (is_f s p2 _ p20 g2) (Ev.ifp (dE_ c2) (Ev.bindc t2 (Ev.now _)))
   ·refine Ev.ifp tr_ (Ev.bindc (stands_f s hs1 p2 _ de_ p20 g2) (Ev.ifp (dE_ c2) ?_));rw [hw2];exact Ev.now _
  have GI3 : ∀ {r}, Ev (fun n => (impl_reader_take.f s p2 false ⟨#[62]⟩).bind fun t3 => (kidsL n x ((dp : Int) + 1) t3.1 t3.2.1 t3.2.2 []).bind fun ks =>
   if nm.size ≤ 140737488351232 then (impl_reader_take.f ks.2.1 ks.2.2.1 ks.2.2.2 ((⟨#[60, 47]⟩ ++ nm) ++ ⟨#[62]⟩)).bind fun t4 => some ((⟨1, x, nm, A, ⟨#[]⟩, ks.1⟩ : SEl), t4) else none) r → Ev (fun k => readEl k about ((dp : Int) + 1) s p false) r := fun h => by
   refine GI2 ?_;refine Ev.bindc (is_f s p2 _ p20 g2) (Ev.ifn (by simpa using c2) ?_);exact h
  have GS3 : ∀ {r}, Ev (fun n => (spec_l19Take.f s p2 true ⟨#[62]⟩).bind fun t3 => (sKidsL n x ((dp : Int) + 1) t3.1 t3.2.1 t3.2.2 []).bind fun ks =>
   if nm.size ≤ 140737488351232 then (spec_l19Take.f ks.2.1 ks.2.2.1 ks.2.2.2 ((⟨#[60, 47]⟩ ++ nm) ++ ⟨#[62]⟩)).bind fun t4 => some ((⟨1, x, nm, A, ⟨#[]⟩, ks.1⟩ : SEl), t4) else none) r → Ev (fun k => sEl k about ((dp : Int) + 1) s p true) r := fun h => by
   refine GS ?_;refine Ev.ifp tr_ (Ev.bindc (stands_f s hs1 p2 _ de_ p20 g2) (Ev.ifn (by simpa using c2) (Ev.step (fun k => by simp only [sRest]; rfl) ?_)));exact h
  by_cases c3 : standsAt s p2 (⟨#[62]⟩ : BA)
  case neg =>
   refine ⟨(⟨1, x, nm, A, ⟨#[]⟩, []⟩, s, p2, true), (⟨1, x, nm, A, ⟨#[]⟩, []⟩, s, p2, false), .inl ⟨rfl, rfl, rfl, rfl⟩, GI3 ?_, GS3 ?_⟩
   ·exact Ev.bindc (take_no s p2 _ p20 g2 c3) (Ev.bind (kids_bad x _ s p2 []) (Ev.ifp om_ (Ev.bindc (take_bad s p2 _) (Ev.now _))))
   ·exact Ev.bindc (stake_no s p2 _ de_ p20 g2 c3 hs1) (Ev.bind (skids_bad x _ s p2 []) (Ev.ifp om_ (Ev.bindc (stake_bad s p2 _) (Ev.now _))))
  have hz3 : ((⟨#[62]⟩ : BA).size : Int) = 1 := rfl;have c3' : p2 + 1 ≤ s.size := c3.1;have t3 := take_yes s p2 _ p20 c3 hs1;have s3 := stake_yes s p2 _ p20 c3 hs1;rw [hz3] at t3 s3;obtain ⟨rk, rs, hK, k1, k2⟩ := kids_both s hs dp om_ ih' x (-(5 * (p2 + 1))) _ (p2 + 1) [] (Nat.le_refl _) om_ c3' (by simp; omega) (by rw [wtL]; omega) trivial;have GI4 : ∀ {r}, Ev (fun n => (impl_reader_take.f rk.2.1 rk.2.2.1 rk.2.2.2 ((⟨#[60, 47]⟩ ++ nm) ++ ⟨#[62]⟩)).bind fun t4 => some ((⟨1, x, nm, A, ⟨#[]⟩, rk.1⟩ : SEl), t4)) r → Ev (fun k => readEl k about ((dp : Int) + 1) s p false) r := fun h => by
   refine GI3 ?_;exact Ev.bindc t3 (Ev.bind (a := rk) k1 (Ev.ifp om_ h))
  have GS4 : ∀ {r}, Ev (fun n => (spec_l19Take.f rs.2.1 rs.2.2.1 rs.2.2.2 ((⟨#[60, 47]⟩ ++ nm) ++ ⟨#[62]⟩)).bind fun t4 => some ((⟨1, x, nm, A, ⟨#[]⟩, rs.1⟩ : SEl), t4)) r → Ev (fun k => sEl k about ((dp : Int) + 1) s p true) r := fun h => by
   refine GS3 ?_;exact Ev.bindc s3 (Ev.bind (a := rs) k2 (Ev.ifp om_ h))
  rcases hK with ⟨b1, b2, b3, b4⟩ | ⟨L, p4, rfl, rfl, l1, l2, l3, lw, l4⟩
  ·obtain ⟨x1, x3, x4, x5⟩ := rk;obtain ⟨y1, y3, y4, y5⟩ := rs;obtain rfl : x5 = true := b1;obtain rfl : y5 = false := b2;have b3' : s = x3 := b3.symm;subst b3';have b4' : s = y3 := b4.symm;subst b4';exact ⟨(⟨1, x, nm, A, ⟨#[]⟩, x1⟩, s, x4, true), (⟨1, x, nm, A, ⟨#[]⟩, y1⟩, s, y4, false), .inl ⟨rfl, rfl, rfl, rfl⟩, GI4 (Ev.bindc (take_bad s x4 _) (Ev.now _)), GS4 (Ev.bindc (stake_bad s y4 _) (Ev.now _))⟩
  have p40 : 0 ≤ p4 := om_;by_cases c4 : standsAt s p4 (((⟨#[60, 47]⟩ : BA) ++ nm) ++ (⟨#[62]⟩ : BA))
  ·have c4' := c4.1;refine ⟨_, _, .inr ⟨⟨1, x, nm, A, ⟨#[]⟩, L⟩, p4 + ((((⟨#[60, 47]⟩ : BA) ++ nm) ++ (⟨#[62]⟩ : BA)).size : Int), rfl, rfl, om_, c4', by simp only [wt]; show ((1 + nm.size + aW A + 0 + wtL L : Nat) : Int) ≤ _; omega, om_, by show nm.size ≤ _; omega, by decide, om_, (fun y hy => ⟨by have := (g5 y hy).1; omega, by have := (g5 y hy).2; omega⟩), om_, l4⟩, GI4 ?_, GS4 ?_⟩
   ·exact Ev.bindc (take_yes s p4 _ p40 c4 hs1) (Ev.now _)
   ·exact Ev.bindc (stake_yes s p4 _ p40 c4 hs1) (Ev.now _)
  ·refine ⟨(⟨1, x, nm, A, ⟨#[]⟩, L⟩, s, p4, true), (⟨1, x, nm, A, ⟨#[]⟩, L⟩, s, p4, false), .inl ⟨rfl, rfl, rfl, rfl⟩, GI4 ?_, GS4 ?_⟩
   ·exact Ev.bindc (take_no s p4 _ p40 l2 c4) (Ev.now _)
   ·exact Ev.bindc (stake_no s p4 _ om_ p40 l2 c4 hs1) (Ev.now _)
theorem names_l (s : BA) (l : List Int) (hl : l.length ≤ 1048576) {r0 : Bool} (hS : Ev (fun k => if s.toList = ([] : List UInt8) then some false else (spec_CleanOk.f k s).bind fun t => some t) r0) (hI : Ev (fun k => if s.toList = ([] : List UInt8) then some false else (impl_CleanOk.f k s).bind fun t => some t) r0) :
  ∀ (d : Nat) (j : Int), 0 ≤ j → ((l.length : Int) - j).toNat ≤ d → ∃ r : Bool, Ev (fun k => spec_NameOk.l0 k s l j) r ∧ Ev (fun k => impl_NameOk.l0 k s l (l.length : Int) j) r := by
 intro d;induction d with
 | zero =>
  intro j h0 hd;refine ⟨r0, ?_, ?_⟩
  ·refine Ev.step (fun k => by simp only [spec_NameOk.l0]; rfl) ?_;exact Ev.ifn om_ hS
  ·refine Ev.step (fun k => by simp only [impl_NameOk.l0]; rfl) ?_;exact Ev.ifn om_ hI
 | succ d ih =>
  intro j h0 hd;by_cases hj : j < (l.length : Int)
  case neg => exact ih j h0 om_
  have hw : wrap64 (j + 1) = j + 1 := by unfold wrap64; omega
  obtain ⟨r, e1, e2⟩ := ih (j + 1) om_ om_;have GS : ∀ {y}, Ev (fun k => if j = 0 then ((spec_IsFirst.f k (rd l j)).bind fun t => if t = true then ((spec_IsNext.f k (rd l j)).bind fun t2 => if t2 = true then spec_NameOk.l0 k s l (j + 1) else some false) else some false) else ((spec_IsNext.f k (rd l j)).bind fun t2 => if t2 = true then spec_NameOk.l0 k s l (j + 1) else some false)) y → Ev (fun k => spec_NameOk.l0 k s l j) y := fun h => by
   refine Ev.step (fun k => by simp only [spec_NameOk.l0]; rfl) ?_;rw [hw];refine Ev.ifp hj (Ev.congr (fun k => ?_) h);rw [if_pos h0, if_pos h0]
  have GI : ∀ {y}, Ev (fun k => if j = 0 then ((impl_IsFirst.f (rd l j)).bind fun t => if t = true then ((impl_IsNext.f (rd l j)).bind fun t2 => if t2 = true then impl_NameOk.l0 k s l (l.length : Int) (j + 1) else some false) else some false) else ((impl_IsNext.f (rd l j)).bind fun t2 => if t2 = true then impl_NameOk.l0 k s l (l.length : Int) (j + 1) else some false)) y → Ev (fun k => impl_NameOk.l0 k s l (l.length : Int) j) y := fun h => by
   refine Ev.step (fun k => by simp only [impl_NameOk.l0]; rfl) ?_;rw [hw];exact Ev.ifp hj (Ev.ifp h0 (Ev.ifp hj h))
  have next : ∃ y, Ev (fun k => (spec_IsNext.f k (rd l j)).bind fun t2 => if t2 = true then spec_NameOk.l0 k s l (j + 1) else some false) y ∧ Ev (fun k => (impl_IsNext.f (rd l j)).bind fun t2 => if t2 = true then impl_NameOk.l0 k s l (l.length : Int) (j + 1) else some false) y := by
   by_cases c : nextF (rd l j) = true
   ·exact ⟨r, Ev.bind (ev_specNext _) (Ev.ifp c e1), Ev.bindc (implNext_f _) (Ev.ifp c e2)⟩
   ·exact ⟨false, Ev.bind (ev_specNext _) (Ev.ifn c (Ev.now _)), Ev.bindc (implNext_f _) (Ev.ifn c (Ev.now _))⟩
  obtain ⟨y, y1, y2⟩ := next;by_cases cj : j = 0
  ·by_cases c : firstF (rd l j) = true
   ·exact ⟨y, GS (Ev.ifp cj (Ev.bind (ev_specFirst _) (Ev.ifp c y1))), GI (Ev.ifp cj (Ev.bindc (implFirst_f _) (Ev.ifp c y2)))⟩
   ·exact ⟨false, GS (Ev.ifp cj (Ev.bind (ev_specFirst _) (Ev.ifn c (Ev.now _)))), GI (Ev.ifp cj (Ev.bindc (implFirst_f _) (Ev.ifn c (Ev.now _))))⟩
  ·exact ⟨y, GS (Ev.ifn cj y1), GI (Ev.ifn cj y2)⟩
theorem nameOk_both (s : BA) (hs : s.size ≤ 1048576) : ∃ r : Bool, Ev (fun k => spec_NameOk.f k s) r ∧ Ev (fun k => impl_NameOk.f k s) r := by
 obtain ⟨l, t, hl, ht, e1, e2, e3, e4⟩ := clean_text_both s hs;have hS : Ev (fun k => (spec_CleanOk.f k s).bind fun t434 => (some t434)) (t.toList == s.toList) := by
  refine Ev.bind ?_ (Ev.now _);unfold spec_CleanOk.f spec_Clean.f;refine Ev.bind (Ev.bind e1 (Ev.bind e3 (Ev.now t))) (Ev.now _)
 have hI : Ev (fun k => (impl_CleanOk.f k s).bind fun t404 => (some t404)) (t.toList == s.toList) := by
  refine Ev.bind ?_ (Ev.now _);unfold impl_CleanOk.f impl_Clean.f;refine Ev.bind (Ev.bind e2 (Ev.bind e4 (Ev.now t))) (Ev.now _)
 have fin : ∃ r0, Ev (fun k => if s.toList = ([] : List UInt8) then some false else (spec_CleanOk.f k s).bind fun t => some t) r0 ∧ Ev (fun k => if s.toList = ([] : List UInt8) then some false else (impl_CleanOk.f k s).bind fun t => some t) r0 := by
  by_cases c : s.toList = ([] : List UInt8)
  ·exact ⟨false, Ev.ifp c (Ev.now _), Ev.ifp c (Ev.now _)⟩
  ·exact ⟨_, Ev.ifn c hS, Ev.ifn c hI⟩
 obtain ⟨r0, g1, g2⟩ := fin;obtain ⟨r, f1, f2⟩ := names_l s l om_ g1 g2 _ 0 (Int.le_refl _) (Nat.le_refl _);refine ⟨r, ?_, ?_⟩
 ·unfold spec_NameOk.f;exact Ev.bind e1 f1
 ·unfold impl_NameOk.f;exact Ev.bind e2 f2
theorem rd36 (l : List SAt) (j : Int) (h0 : 0 ≤ j) (h : j < (l.length : Int)) : rd_T36 l j ∈ l := by
 have hjl : j.toNat < l.length := om_;unfold rd_T36;rw [List.getD_eq_getElem?_getD, List.getElem?_eq_getElem hjl];exact List.getElem_mem _
theorem rd43 (l : List SEl) (j : Int) (h0 : 0 ≤ j) (h : j < (l.length : Int)) : rd_T43 l j ∈ l := by
 have hjl : j.toNat < l.length := om_;unfold rd_T43;rw [List.getD_eq_getElem?_getD, List.getElem?_eq_getElem hjl];exact List.getElem_mem _
theorem sattr_l (l : List SAt) (hl : l.length ≤ 1048576) (hA : ∀ y ∈ l, y.f0.size ≤ 1048576 ∧ y.f1.size ≤ 1048576) : ∀ (d : Nat) (j : Int), 0 ≤ j → ((l.length : Int) - j).toNat ≤ d → ∃ r : Bool, Ev (fun k => spec_l15Attrs.l0 k l j) r ∧ Ev (fun k => impl_strictAttrs.l0 k l l (l.length : Int) j) r := by
 intro d;induction d with
 | zero =>
  intro j h0 hd;refine ⟨true, ?_, ?_⟩
  ·refine Ev.step (fun k => by simp only [spec_l15Attrs.l0]; rfl) ?_;exact Ev.ifn om_ (Ev.now _)
  ·refine Ev.step (fun k => by simp only [impl_strictAttrs.l0]; rfl) ?_;exact Ev.ifn om_ (Ev.now _)
 | succ d ih =>
  intro j h0 hd;by_cases hj : j < (l.length : Int)
  case neg => exact ih j h0 om_
  have hw : wrap64 (j + 1) = j + 1 := by unfold wrap64; omega
  obtain ⟨r, e1, e2⟩ := ih (j + 1) om_ om_;have hm := hA _ (rd36 l j h0 hj);generalize hx : rd_T36 l j = x at hm;obtain ⟨b1, n1, n2⟩ := nameOk_both x.f0 hm.1;obtain ⟨b2, t1, t2⟩ := textOk_both x.f1 hm.2;have hs1 := ev_has (l.take j.toNat) x.f0 (by rw [List.length_take]; omega);have hi1 := hasA_f (l.take j.toNat) x.f0 (by rw [List.length_take]; omega);generalize ((l.take j.toNat).any fun y => y.f0.toList == x.f0.toList) = b3 at hs1 hi1;have GS : ∀ {y}, Ev (fun k => if b1 = true then (if x.f0.toList = [120, 109, 108, 110, 115] then some false else (if b2 = true then (if b3 = true then some false else spec_l15Attrs.l0 k l (j + 1)) else some false)) else some false) y → Ev (fun k => spec_l15Attrs.l0 k l j) y := fun h => by
   refine Ev.step (fun k => by simp only [spec_l15Attrs.l0]; rfl) ?_;rw [hw, hx];refine Ev.ifp hj (Ev.ifp h0 (Ev.bind n1 ?_));by_cases c1 : b1 = true
   case neg => exact Ev.ifn c1 (Ev.congr (fun k => (if_neg c1).symm) h)
   refine Ev.ifp c1 ?_;have h := Ev.congr (fun k => (if_pos c1).symm) h;by_cases c2 : x.f0.toList = [120, 109, 108, 110, 115]
   ·exact Ev.ifp c2 (Ev.congr (fun k => (if_pos c2).symm) h)
   refine Ev.ifn c2 ?_;have h := Ev.congr (fun k => (if_neg c2).symm) h;refine Ev.bind t1 ?_;by_cases c3 : b2 = true
   case neg => exact Ev.ifn c3 (Ev.congr (fun k => (if_neg c3).symm) h)
   refine Ev.ifp c3 ?_;have h := Ev.congr (fun k => (if_pos c3).symm) h;exact Ev.ifp om_ (Ev.bind hs1 h)
  have GI : ∀ {y}, Ev (fun k => if b1 = true then (if x.f0.toList = [120, 109, 108, 110, 115] then some false else (if b3 = true then some false else (if b2 = true then impl_strictAttrs.l0 k l l (l.length : Int) (j + 1) else some false))) else some false) y → Ev (fun k => impl_strictAttrs.l0 k l l (l.length : Int) j) y := fun h => by
   refine Ev.step (fun k => by simp only [impl_strictAttrs.l0]; rfl) ?_;rw [hw, hx];refine Ev.ifp hj (Ev.ifp h0 (Ev.ifp hj (Ev.bind n2 ?_)));by_cases c1 : b1 = true
   case neg => exact Ev.ifn c1 (Ev.congr (fun k => (if_neg c1).symm) h)
   refine Ev.ifp c1 ?_;have h := Ev.congr (fun k => (if_pos c1).symm) h;by_cases c2 : x.f0.toList = [120, 109, 108, 110, 115]
   ·exact Ev.ifp c2 (Ev.congr (fun k => (if_pos c2).symm) h)
   refine Ev.ifn c2 ?_;have h := Ev.congr (fun k => (if_neg c2).symm) h;refine Ev.ifp om_ (Ev.bindc hi1 ?_);by_cases c3 : b3 = true
   ·exact Ev.ifp c3 (Ev.congr (fun k => (if_pos c3).symm) h)
   refine Ev.ifn c3 ?_;have h := Ev.congr (fun k => (if_neg c3).symm) h;exact Ev.bind t2 h
  by_cases c1 : b1 = true
  case neg => exact ⟨false, GS (Ev.ifn c1 (Ev.now _)), GI (Ev.ifn c1 (Ev.now _))⟩
  by_cases c2 : x.f0.toList = [120, 109, 108, 110, 115]
  ·exact ⟨false, GS (Ev.ifp c1 (Ev.ifp c2 (Ev.now _))), GI (Ev.ifp c1 (Ev.ifp c2 (Ev.now _)))⟩
  by_cases c3 : b3 = true
  ·refine ⟨false, GS (Ev.ifp c1 (Ev.ifn c2 ?_)), GI (Ev.ifp c1 (Ev.ifn c2 (Ev.ifp c3 (Ev.now _))))⟩;by_cases c4 : b2 = true
   ·exact Ev.ifp c4 (Ev.ifp c3 (Ev.now _))
   ·exact Ev.ifn c4 (Ev.now _)
  by_cases c4 : b2 = true
  ·exact ⟨r, GS (Ev.ifp c1 (Ev.ifn c2 (Ev.ifp c4 (Ev.ifn c3 e1)))), GI (Ev.ifp c1 (Ev.ifn c2 (Ev.ifn c3 (Ev.ifp c4 e2))))⟩
  ·exact ⟨false, GS (Ev.ifp c1 (Ev.ifn c2 (Ev.ifn c4 (Ev.now _)))), GI (Ev.ifp c1 (Ev.ifn c2 (Ev.ifn c3 (Ev.ifn c4 (Ev.now _)))))⟩
theorem strict_both (l : List SAt) (hl : l.length ≤ 1048576) (hA : ∀ y ∈ l, y.f0.size ≤ 1048576 ∧ y.f1.size ≤ 1048576) : ∃ r : Bool, Ev (fun k => spec_l15Attrs.f k l) r ∧ Ev (fun k => impl_strictAttrs.f k l) r := by
 obtain ⟨r, h1, h2⟩ := sattr_l l hl hA _ 0 (Int.le_refl _) (Nat.le_refl _);exact ⟨r, h1, h2⟩
theorem fitSL_mem {n : Nat} : ∀ {l : List SEl} {e : SEl}, fitSL l n → e ∈ l → fitS e n
 | _ :: _, _, h, hm => by
  rcases List.mem_cons.1 hm with rfl | hm
  ·exact h.1
  ·exact fitSL_mem h.2 hm
theorem size_both : ∀ (n : Nat) (e : SEl), fitS e n → ∃ z : Int, Ev (fun k => spec_ElSize.f k e.f0 e.f1 e.f2 e.f3 e.f4 e.f5) z ∧ Ev (fun k => impl_ElSize.f k e.f0 e.f1 e.f2 e.f3 e.f4 e.f5) z := by
 intro n;induction n with
 | zero => intro e h; obtain ⟨a, b, c, d, f, g⟩ := e; exact absurd h.1 om_
 | succ n ih =>
  intro e h;obtain ⟨a, b, c, d, f, ks⟩ := e;obtain ⟨_, _, _, _, _, hk, hks⟩ := h;have loop : ∀ (m : Nat) (x j : Int), 0 ≤ j → ((ks.length : Int) - j).toNat ≤ m → ∃ z : Int, Ev (fun k => spec_ElSize.l0 k x j a b c d f ks) z ∧ Ev (fun k => impl_ElSize.l0 k x ks (ks.length : Int) j) z := by
   intro m;induction m with
   | zero =>
    intro x j h0 hd;refine ⟨x, ?_, ?_⟩
    ·refine Ev.step (fun k => by simp only [spec_ElSize.l0]; rfl) ?_;exact Ev.ifn om_ (Ev.now _)
    ·refine Ev.step (fun k => by simp only [impl_ElSize.l0]; rfl) ?_;exact Ev.ifn om_ (Ev.now _)
   | succ m ihm =>
    intro x j h0 hd;by_cases hj : j < (ks.length : Int)
    case neg => exact ihm x j h0 om_
    have hw : wrap64 (j + 1) = j + 1 := by unfold wrap64; omega
    obtain ⟨z, z1, z2⟩ := ih _ (fitSL_mem hks (rd43 ks j h0 hj));obtain ⟨y, y1, y2⟩ := ihm (wrap64 (x + z)) (j + 1) om_ om_;refine ⟨y, ?_, ?_⟩
    ·refine Ev.step (fun k => by simp only [spec_ElSize.l0]; rfl) ?_;rw [hw];refine Ev.ifp hj (Ev.ifp h0 (Ev.bind z1 ?_));exact y1
    ·refine Ev.step (fun k => by simp only [impl_ElSize.l0]; rfl) ?_;rw [hw];refine Ev.ifp hj (Ev.ifp h0 (Ev.ifp hj (Ev.bind z2 ?_)));exact y2
  obtain ⟨z, z1, z2⟩ := loop _ 1 0 (Int.le_refl _) (Nat.le_refl _);exact ⟨z, Ev.step (fun k => by simp only [spec_ElSize.f]) z1, Ev.step (fun k => by simp only [impl_ElSize.f]) z2⟩
def OkAt (e : SEl) (v : Bool) (dp : Nat) : Prop := 1 ≤ dp ∧ Ev (fun k => spec_l15El.f k e.f0 e.f1 e.f2 e.f3 e.f4 e.f5) v ∧ Ev (fun k => spec_ElDeep.f k e.f0 e.f1 e.f2 e.f3 e.f4 e.f5) (dp : Int) ∧
 ∀ D : Nat, D ≤ 1000 → Ev (fun k => impl_elOk.f k e.f0 e.f1 e.f2 e.f3 e.f4 e.f5 (D : Int)) (v && decide (dp ≤ D))
theorem okKids (a b : Int) (c : BA) (d : List SAt) (f : BA) (ks : List SEl) (hk : ks.length ≤ 1048576) (N : Nat) (hN : N ≤ 900) (h : ∀ e ∈ ks, ∃ (v : Bool) (dp : Nat), dp ≤ N ∧ OkAt e v dp) :
  ∀ (m : Nat) (j : Int), 0 ≤ j → ((ks.length : Int) - j).toNat ≤ m → ∃ (g : Bool) (mj : Nat), mj ≤ N ∧ ((ks.length : Int) ≤ j → g = true ∧ mj = 0) ∧
   (∀ {F : Bool}, (Ev (fun k => if b = 0 then (if c.toList = ([] : List UInt8) then (if (d.length : Int) = 0 then (spec_l15El.j1 k ((ks.length : Int) == 0) a b c d f ks) else (spec_l15El.j1 k false a b c d f ks)) else (spec_l15El.j1 k false a b c d f ks)) else (spec_l15El.j1 k false a b c d f ks)) F) → Ev (fun k => spec_l15El.l0 k j a b c d f ks) (g && F)) ∧
   (∀ x : Nat, x ≤ 1000 → Ev (fun k => spec_ElDeep.l0 k (x : Int) j a b c d f ks) (((max x mj) + 1 : Nat) : Int)) ∧
   (∀ D : Nat, 1 ≤ D → D ≤ 1000 → Ev (fun k => elOkL k (D : Int) ks j) (g && decide (mj + 1 ≤ D))) := by
 intro m;induction m with
 | zero =>
  intro j h0 hd;refine ⟨true, 0, Nat.zero_le _, fun _ => ⟨rfl, rfl⟩, fun hF => ?_, fun x hx => ?_, fun D hD hD2 => ?_⟩
  ·rw [Bool.true_and];refine Ev.step (fun k => by simp only [spec_l15El.l0]; rfl) ?_;exact Ev.ifn om_ hF
  ·refine Ev.step (fun k => by simp only [spec_ElDeep.l0]; rfl) ?_;refine Ev.ifn om_ ?_;rw [show wrap64 ((x : Int) + 1) = (((max x 0) + 1 : Nat) : Int) by unfold wrap64; omega];exact Ev.now _
  ·rw [dE_ (show 0 + 1 ≤ D by omega)];refine Ev.step (fun k => by simp only [elOkL]; rfl) ?_;exact Ev.ifn om_ (Ev.now _)
 | succ m ih =>
  intro j h0 hd;by_cases hj : j < (ks.length : Int)
  case neg => exact ih j h0 om_
  have hw : wrap64 (j + 1) = j + 1 := by unfold wrap64; omega
  have hw1 : wrap64 (j - 1) = j - 1 := by unfold wrap64; omega
  obtain ⟨v, dp, hdp, p1, p2, p3, p4⟩ := h _ (rd43 ks j h0 hj);obtain ⟨g, mj, hm, _, i1, i2, i3⟩ := ih (j + 1) om_ om_;have deep : ∀ x : Nat, x ≤ 1000 → Ev (fun k => spec_ElDeep.l0 k (x : Int) j a b c d f ks) (((max x (max dp mj)) + 1 : Nat) : Int) := fun x hx => by
   have hmx : spec_l1Max.f (x : Int) (dp : Int) = some ((max x dp : Nat) : Int) := by
    unfold spec_l1Max.f;by_cases hc : (x : Int) > dp
    ·rw [if_pos hc]; congr 1; omega
    ·rw [if_neg hc]; congr 1; omega
   refine Ev.step (fun k => by simp only [spec_ElDeep.l0]; rfl) ?_;rw [hw];refine Ev.ifp hj (Ev.ifp h0 (Ev.bind p3 (Ev.bindc hmx ?_)));have := i2 (max x dp) om_;rwa [show max (max x dp) mj = max x (max dp mj) by omega] at this
  have spec : ∀ {F : Bool} {y : Bool}, (if v = true then (if j > 0 ∧ (rd_T43 ks j).f0 = 2 ∧ (rd_T43 ks (j - 1)).f0 = 2 then y = false else Ev (fun k => spec_l15El.l0 k (j + 1) a b c d f ks) y) else y = false) → Ev (fun k => spec_l15El.l0 k j a b c d f ks) y := fun {F} {y} hy => by
   refine Ev.step (fun k => by simp only [spec_l15El.l0]; rfl) ?_;rw [hw, hw1];refine Ev.ifp hj (Ev.ifp h0 (Ev.bind p2 ?_));by_cases c1 : v = true
   case neg => rw [if_neg c1] at hy; subst hy; exact Ev.ifn c1 (Ev.now _)
   rw [if_pos c1] at hy;refine Ev.ifp c1 ?_;by_cases c2 : j > 0
   case neg => rw [if_neg (fun hh => c2 hh.1)] at hy; exact Ev.ifn c2 hy
   refine Ev.ifp c2 ?_;by_cases c3 : (rd_T43 ks j).f0 = 2
   case neg => rw [if_neg (fun hh => c3 hh.2.1)] at hy; exact Ev.ifn c3 hy
   refine Ev.ifp c3 (Ev.ifp om_ (Ev.ifp om_ ?_));by_cases c4 : (rd_T43 ks (j - 1)).f0 = 2
   ·rw [if_pos ⟨c2, c3, c4⟩] at hy; subst hy; exact Ev.ifp c4 (Ev.now _)
   ·rw [if_neg (fun hh => c4 hh.2.2)] at hy; exact Ev.ifn c4 hy
  have impl : ∀ (D : Nat) {y : Bool}, 1 ≤ D → D ≤ 1000 → (if (v && decide (dp ≤ D - 1)) = true then (if j > 0 ∧ (rd_T43 ks j).f0 = 2 ∧ (rd_T43 ks (j - 1)).f0 = 2 then y = false else Ev (fun k => elOkL k (D : Int) ks (j + 1)) y) else y = false) → Ev (fun k => elOkL k (D : Int) ks j) y := fun D {y} hD hD2 hy => by
   have hwd : wrap64 ((D : Int) - 1) = ((D - 1 : Nat) : Int) := by unfold wrap64; omega
   refine Ev.step (fun k => by simp only [elOkL]; rfl) ?_;rw [hwd];refine Ev.ifp hj (Ev.ifp h0 (Ev.bind (p4 (D - 1) om_) ?_));by_cases c1 : (v && decide (dp ≤ D - 1)) = true
   case neg => rw [if_neg c1] at hy; subst hy; exact Ev.ifn c1 (Ev.now _)
   rw [if_pos c1] at hy;refine Ev.ifp c1 ?_;by_cases c2 : j > 0 ∧ (rd_T43 ks j).f0 = 2 ∧ (rd_T43 ks (j - 1)).f0 = 2
   ·rw [if_pos c2] at hy; subst hy; exact Ev.ifp c2 (Ev.now _)
   ·rw [if_neg c2] at hy; exact Ev.ifn c2 hy
  by_cases cg : v = true ∧ ¬ (j > 0 ∧ (rd_T43 ks j).f0 = 2 ∧ (rd_T43 ks (j - 1)).f0 = 2)
  ·refine ⟨g, max dp mj, om_, fun hh => absurd hh om_, fun {F} hF => spec (F := F) (by rw [if_pos cg.1, if_neg cg.2]; exact i1 hF), deep, fun D hD hD2 => impl D hD hD2 ?_⟩;rw [cg.1, Bool.true_and];by_cases c5 : dp ≤ D - 1
   ·rw [dE_ c5, if_pos rfl, if_neg cg.2];have := i3 D hD hD2;rwa [show decide (mj + 1 ≤ D) = decide (max dp mj + 1 ≤ D) from decide_eq_decide.mpr om_] at this
   ·rw [dF_ c5, if_neg si_, dF_ (show ¬ max dp mj + 1 ≤ D by omega), Bool.and_false]
  ·refine ⟨false, max dp mj, om_, fun hh => absurd hh om_, fun {F} hF => spec (F := F) ?_, deep, fun D hD hD2 => impl D hD hD2 ?_⟩
   ·rw [Bool.false_and];by_cases c1 : v = true
    ·rw [if_pos c1];by_cases c2 : j > 0 ∧ (rd_T43 ks j).f0 = 2 ∧ (rd_T43 ks (j - 1)).f0 = 2
     ·rw [if_pos c2]
     ·exact absurd ⟨c1, c2⟩ cg
    ·rw [if_neg c1]
   ·rw [Bool.false_and];by_cases c1 : (v && decide (dp ≤ D - 1)) = true
    ·rw [if_pos c1];by_cases c2 : j > 0 ∧ (rd_T43 ks j).f0 = 2 ∧ (rd_T43 ks (j - 1)).f0 = 2
     ·rw [if_pos c2]
     ·exact absurd ⟨(Bool.and_eq_true _ _ ▸ c1).1, c2⟩ cg
    ·rw [if_neg c1]
theorem range_s (b : Int) : spec_l1In.f b 0 2 = some (decide (0 ≤ b ∧ b ≤ 2)) := l1_in b
theorem ok_both : ∀ (n : Nat), n ≤ 900 → ∀ (e : SEl), fitS e n → ∃ (v : Bool) (dp : Nat), dp ≤ n ∧ OkAt e v dp := by
 intro n;induction n with
 | zero => intro _ e h; obtain ⟨a, b, c, d, f, g⟩ := e; exact absurd h.1 om_
 | succ n ih =>
  intro hn e h;obtain ⟨a, b, c, d, f, ks⟩ := e;obtain ⟨_, hc, hf, hd, hA, hk, hks⟩ := h;obtain ⟨g, mj, hm, hnil, K1, K2, K3⟩ := okKids a b c d f ks hk n om_ (fun e he => ih om_ e (fitSL_mem hks he)) _ 0 (Int.le_refl _) (Nat.le_refl _);obtain ⟨nb, n1, n2⟩ := nameOk_both c hc;obtain ⟨sb, s1, s2⟩ := strict_both d hd hA;obtain ⟨tb, t1, t2⟩ := textOk_both f hf;obtain ⟨ob, o1, o2⟩ := note_both f hf;have dpE : Ev (fun k => spec_ElDeep.f k a b c d f ks) ((mj + 1 : Nat) : Int) := by
   refine Ev.step (fun k => by simp only [spec_ElDeep.f]; rfl) ?_;have := K2 0 om_;rwa [show max 0 mj = mj by omega] at this
  have specE : ∀ {F : Bool}, (Ev (fun k => if b = 0 then (if c.toList = ([] : List UInt8) then (if (d.length : Int) = 0 then (spec_l15El.j1 k ((ks.length : Int) == 0) a b c d f ks) else (spec_l15El.j1 k false a b c d f ks)) else (spec_l15El.j1 k false a b c d f ks)) else (spec_l15El.j1 k false a b c d f ks)) F) → Ev (fun k => spec_l15El.f k a b c d f ks) (g && F) := fun hF => Ev.step (fun k => by simp only [spec_l15El.f]) (K1 hF)
  have implE : ∀ (D : Nat) {y : Bool}, 1 ≤ D → Ev (fun k => if a = 1 then (impl_inRange.f b 0 2).bind fun p => if p = true then (impl_NameOk.f k c).bind fun q => if q = true then (impl_strictAttrs.f k d).bind fun r => if r = true then (if f.toList = [] then elOkL k (D : Int) ks 0 else some false) else some false else some false else some false
  else if b = 0 then (if c.toList = [] then (if d = [] then (if ks = [] then (if a = 2 then (if f.toList = [] then some false else impl_TextOk.f k f) else if a = 3 then impl_NoteOk.f k f else some false) else some false) else some false) else some false) else some false) y → Ev (fun k => impl_elOk.f k a b c d f ks (D : Int)) y := fun D {y} hD h => by
   refine Ev.step (fun k => by simp only [impl_elOk.f]; rfl) ?_;exact Ev.ifn om_ h
  have impl0 : Ev (fun k => impl_elOk.f k a b c d f ks ((0 : Nat) : Int)) false := by
   refine Ev.step (fun k => by simp only [impl_elOk.f]; rfl) ?_;exact Ev.ifp de_ (Ev.now _)
  have wrap : ∀ (F : Bool), Ev (fun k => spec_l15El.f k a b c d f ks) (g && F) → (∀ D : Nat, 1 ≤ D → D ≤ 1000 → Ev (fun k => impl_elOk.f k a b c d f ks (D : Int)) ((g && F) && decide (mj + 1 ≤ D))) → ∃ (v : Bool) (dp : Nat), dp ≤ n + 1 ∧ OkAt ⟨a, b, c, d, f, ks⟩ v dp := fun F h1 h2 => by
   refine ⟨g && F, mj + 1, om_, om_, h1, dpE, fun D hD => ?_⟩;by_cases h0 : D = 0
   ·subst h0;rw [dF_ (show ¬ mj + 1 ≤ 0 by omega), Bool.and_false];exact impl0
   ·exact h2 D om_ hD
  by_cases ca : a = 1
  ·have j1 : ∀ x : Bool, Ev (fun k => spec_l15El.j1 k x a b c d f ks) (decide (0 ≤ b ∧ b ≤ 2) && nb && sb && (f.toList == ([] : List UInt8))) := fun x => by
    refine Ev.step (fun k => by simp only [spec_l15El.j1]; rfl) ?_;refine Ev.ifp ca (Ev.bindc (range_s b) ?_);by_cases c1 : decide (0 ≤ b ∧ b ≤ 2) = true
    case neg => rw [show decide (0 ≤ b ∧ b ≤ 2) = false by simpa using c1]; exact Ev.ifn si_ (Ev.now _)
    rw [c1];refine Ev.ifp rfl (Ev.bind n1 ?_);cases nb with
    | false => exact Ev.ifn si_ (Ev.now _)
    | true =>
    refine Ev.ifp rfl (Ev.bind s1 ?_);cases sb with
    | false => exact Ev.ifn si_ (Ev.now _)
    | true => exact Ev.ifp rfl (Ev.now _)
   refine wrap (decide (0 ≤ b ∧ b ≤ 2) && nb && sb && (f.toList == ([] : List UInt8))) (specE ?_) (fun D hD hD2 => implE D hD ?_)
   ·by_cases b1 : b = 0
    case neg => exact Ev.ifn b1 (j1 _)
    refine Ev.ifp b1 ?_;by_cases b2 : c.toList = ([] : List UInt8)
    case neg => exact Ev.ifn b2 (j1 _)
    refine Ev.ifp b2 ?_;by_cases b3 : (d.length : Int) = 0
    case neg => exact Ev.ifn b3 (j1 _)
    exact Ev.ifp b3 (j1 _)
   ·refine Ev.ifp ca (Ev.bindc (in_range b) ?_);by_cases c1 : decide (0 ≤ b ∧ b ≤ 2) = true
    case neg => rw [show decide (0 ≤ b ∧ b ≤ 2) = false by simpa using c1]; simp only [Bool.false_and, Bool.and_false]; exact Ev.ifn si_ (Ev.now _)
    rw [c1];refine Ev.ifp rfl (Ev.bind n2 ?_);cases nb with
    | false => simp only [Bool.false_and, Bool.and_false]; exact Ev.ifn si_ (Ev.now _)
    | true =>
    refine Ev.ifp rfl (Ev.bind s2 ?_);cases sb with
    | false => simp only [Bool.false_and, Bool.and_false]; exact Ev.ifn si_ (Ev.now _)
    | true =>
    refine Ev.ifp rfl ?_;by_cases cf : f.toList = []
    ·rw [show (f.toList == ([] : List UInt8)) = true by rw [cf]; rfl];refine Ev.ifp cf ?_;have := K3 D hD hD2;simpa using this
    ·rw [show (f.toList == ([] : List UInt8)) = false from bN_ cf];simp only [Bool.and_false, Bool.false_and];exact Ev.ifn cf (Ev.now _)
  ·by_cases plain : b = 0 ∧ c.toList = [] ∧ d = [] ∧ ks = []
   ·obtain ⟨b1, b2, b3, b4⟩ := plain;obtain ⟨hg, hmj⟩ := hnil (by rw [b4]; simp);have d0 : (d.length : Int) = 0 := by rw [b3]; rfl
    have k0 : ((ks.length : Int) == 0) = true := by rw [b4]; rfl
    have top : ∀ {F : Bool}, Ev (fun k => spec_l15El.j1 k true a b c d f ks) F → Ev (fun k => if b = 0 then (if c.toList = ([] : List UInt8) then (if (d.length : Int) = 0 then (spec_l15El.j1 k ((ks.length : Int) == 0) a b c d f ks) else (spec_l15El.j1 k false a b c d f ks)) else (spec_l15El.j1 k false a b c d f ks)) else (spec_l15El.j1 k false a b c d f ks)) F := fun hF => by
     refine Ev.ifp b1 (Ev.ifp b2 (Ev.ifp d0 ?_));rw [k0];exact hF
    have itop : ∀ {y : Bool}, Ev (fun k => if a = 2 then (if f.toList = [] then some false else impl_TextOk.f k f) else if a = 3 then impl_NoteOk.f k f else some false) y → ∀ D : Nat, 1 ≤ D → D ≤ 1000 → Ev (fun k => impl_elOk.f k a b c d f ks (D : Int)) ((g && y) && decide (mj + 1 ≤ D)) := fun {y} hy D hD _ => implE D hD (by
     rw [hg, hmj, dE_ (show 0 + 1 ≤ D by omega), Bool.true_and, Bool.and_true];refine Ev.ifn ca (Ev.ifp b1 (Ev.ifp b2 (Ev.ifp b3 ?_)));exact Ev.ifp b4 hy)
    by_cases c2 : a = 2
    ·by_cases cf : f.toList = []
     ·refine wrap false (specE (top ?_)) (itop (Ev.ifp c2 (Ev.ifp cf (Ev.now _))));refine Ev.step (fun k => by simp only [spec_l15El.j1]; rfl) ?_;exact Ev.ifn ca (Ev.ifp c2 (Ev.ifp tr_ (Ev.ifp cf (Ev.now _))))
     ·refine wrap tb (specE (top ?_)) (itop (Ev.ifp c2 (Ev.ifn cf t2)));refine Ev.step (fun k => by simp only [spec_l15El.j1]; rfl) ?_;exact Ev.ifn ca (Ev.ifp c2 (Ev.ifp tr_ (Ev.ifn cf (Ev.bind t1 (Ev.now _)))))
    ·by_cases c3 : a = 3
     ·refine wrap ob (specE (top ?_)) (itop (Ev.ifn c2 (Ev.ifp c3 o2)));refine Ev.step (fun k => by simp only [spec_l15El.j1]; rfl) ?_;exact Ev.ifn ca (Ev.ifn c2 (Ev.ifp c3 (Ev.ifp tr_ (Ev.bind o1 (Ev.now _)))))
     ·refine wrap false (specE (top ?_)) (itop (Ev.ifn c2 (Ev.ifn c3 (Ev.now _))));refine Ev.step (fun k => by simp only [spec_l15El.j1]; rfl) ?_;exact Ev.ifn ca (Ev.ifn c2 (Ev.ifn c3 (Ev.now _)))
   ·have j1 : Ev (fun k => spec_l15El.j1 k false a b c d f ks) false := by
     refine Ev.step (fun k => by simp only [spec_l15El.j1]; rfl) ?_;refine Ev.ifn ca ?_;by_cases c2 : a = 2
     ·exact Ev.ifp c2 (Ev.ifn si_ (Ev.now _))
     refine Ev.ifn c2 ?_;by_cases c3 : a = 3
     ·exact Ev.ifp c3 (Ev.ifn si_ (Ev.now _))
     exact Ev.ifn c3 (Ev.now _)
    refine wrap false (specE ?_) (fun D hD hD2 => implE D hD ?_)
    ·by_cases b1 : b = 0
     case neg => exact Ev.ifn b1 j1
     refine Ev.ifp b1 ?_;by_cases b2 : c.toList = ([] : List UInt8)
     case neg => exact Ev.ifn b2 j1
     refine Ev.ifp b2 ?_;by_cases b3 : (d.length : Int) = 0
     case neg => exact Ev.ifn b3 j1
     refine Ev.ifp b3 ?_;have b4 : ((ks.length : Int) == 0) = false := bN_ (fun hh => plain ⟨b1, b2, List.eq_nil_of_length_eq_zero om_, List.eq_nil_of_length_eq_zero om_⟩);rw [b4];exact j1
    ·rw [Bool.and_false, Bool.false_and];refine Ev.ifn ca ?_;by_cases b1 : b = 0
     case neg => exact Ev.ifn b1 (Ev.now _)
     refine Ev.ifp b1 ?_;by_cases b2 : c.toList = []
     case neg => exact Ev.ifn b2 (Ev.now _)
     refine Ev.ifp b2 ?_;by_cases b3 : d = []
     case neg => exact Ev.ifn b3 (Ev.now _)
     exact Ev.ifp b3 (Ev.ifn (fun b4 => plain ⟨b1, b2, b3, b4⟩) (Ev.now _))
theorem rdAttr_at (L : List (S36)) (j : Int) (h : j.toNat < L.length) : rd_T36 L j = L[j.toNat] := by
 unfold rd_T36; rw [List.getD_eq_getElem?_getD, List.getElem?_eq_getElem h]; rfl
theorem eqAttr_self (L : List (S36)) (hl : L.length ≤ 140737488351232) (d : Nat) : ∀ (j : Int), 0 ≤ j → L.length - j.toNat = d → j ≤ L.length → Ev (fun k => laws_eqAttrS.l0 k L L j) true := by
 induction d with
 | zero =>
  intro j h0 hd hj;exact Ev.step (fun k => by simp only [laws_eqAttrS.l0]; rfl) (Ev.ifn (show ¬ j < (L.length : Int) by omega) (Ev.now _))
 | succ d ih =>
  intro j h0 hd hj;have hw1 : wrap64 (j + 1) = j + 1 := by unfold wrap64; omega
  refine Ev.step (fun k => by simp only [laws_eqAttrS.l0]; rfl) (Ev.ifp (show j < (L.length : Int) by omega) (Ev.ifp h0 (Ev.ifp (show j < (L.length : Int) by omega) (Ev.bindc (a := true) ?_ (Ev.ifp (rfl : true = true) ?_)))))
  ·unfold laws_eqAttr.f; rw [if_pos rfl, if_pos rfl]
  ·rw [hw1]; exact ih (j + 1) om_ om_ om_
theorem ev_eqAttrS (L : List (S36)) (hl : L.length ≤ 140737488351232) : Ev (fun k => laws_eqAttrS.f k L L) true := by
 unfold laws_eqAttrS.f;exact Ev.ifp rfl (eqAttr_self L hl L.length 0 om_ si_ om_)
theorem markText_l (d : Nat) : ∀ (n : Int) (x : BA), 0 ≤ n → n ≤ d → d ≤ 1000000000 → x.size + d ≤ 2000000000 → ∃ t, Ev (fun k => laws_markText.l0 k n x) t := by
 induction d with
 | zero =>
  intro n x h0 hd hb hx;exact ⟨_, Ev.step (fun k => by simp only [laws_markText.l0]; rfl) (Ev.ifn (show ¬ n > 0 by omega) (Ev.ifp (show 1 + x.size ≤ 9223372036854775807 by omega) (Ev.now _)))⟩
 | succ d ih =>
  intro n x h0 hd hb hx;by_cases hn : n > 0
  ·have hw : wrap64 (Int.tdiv n 10) = n / 10 := by
    rw [Int.tdiv_eq_ediv_of_nonneg h0];unfold wrap64; omega
   have h1 : (strOfNums [(wrap64 (48 + (Int.tmod n 10))) % 256]).size = 1 := rfl;obtain ⟨t, ht⟩ := ih (n / 10) (strOfNums [(wrap64 (48 + (Int.tmod n 10))) % 256] ++ x) om_ om_ om_ (by rw [ByteArray.size_append, h1]; omega);refine ⟨t, Ev.step (fun k => by simp only [laws_markText.l0]; rfl) (Ev.ifp hn (Ev.bindc rfl (Ev.ifp (show (strOfNums [(wrap64 (48 + (Int.tmod n 10))) % 256]).size + x.size ≤ 9223372036854775807 by rw [h1]; omega) ?_)))⟩;rw [hw];exact ht
  ·exact ⟨_, Ev.step (fun k => by simp only [laws_markText.l0]; rfl) (Ev.ifn hn (Ev.ifp (show 1 + x.size ≤ 9223372036854775807 by omega) (Ev.now _)))⟩
theorem markText_ex (n : Int) : ∃ t, (n ≤ 1000000000 → Ev (fun k => laws_markText.f k n) t) := by
 by_cases h : n ≤ 1000000000
 ·by_cases h0 : n ≤ 0
  ·refine ⟨(⟨#[109, 48]⟩ : BA), fun _ => ?_⟩;unfold laws_markText.f;exact Ev.ifp h0 (Ev.now _)
  ·obtain ⟨t, ht⟩ := markText_l n.toNat n ⟨#[]⟩ om_ om_ om_ (by show 0 + n.toNat ≤ 2000000000; omega);refine ⟨t, fun _ => ?_⟩;unfold laws_markText.f;exact Ev.ifn h0 ht
 ·exact ⟨⟨#[]⟩, fun hh => absurd hh h⟩
noncomputable def mrkT (n : Int) : ByteArray := Classical.choose (markText_ex n)
theorem ev_mark (n : Int) (h : n ≤ 1000000000) : Ev (fun k => laws_markText.f k n) (mrkT n) := Classical.choose_spec (markText_ex n) h
def Marked (c : Int) (L : List (S36)) (j : Nat) : Prop := ∀ i (h : i < L.length), i < j → L[i] = ⟨mrkT (c + 2 * i), mrkT (c + 2 * i + 1)⟩
theorem markAttr_l (c : Int) (hc : 0 ≤ c) (hc1 : c ≤ 100000000) (d : Nat) : ∀ (j : Int) (L : List (S36)), L.length ≤ 100000000 → 0 ≤ j → L.length - j.toNat = d → j ≤ L.length → Marked c L j.toNat →
  ∃ M : List (S36), M.length = L.length ∧ Marked c M M.length ∧ Ev (fun k => laws_markAttrS.l0 k L (c + 2 * j) j) (c + 2 * L.length, M) := by
 induction d with
 | zero =>
  intro j L hl h0 hd hj hM;have : j = L.length := om_;refine ⟨L, rfl, fun i h _ => hM i h om_, ?_⟩;rw [this];exact Ev.step (fun k => by simp only [laws_markAttrS.l0]; rfl) (Ev.ifn om_ (Ev.now _))
 | succ d ih =>
  intro j L hl h0 hd hj hM;have hjl : j.toNat < L.length := om_;have hw1 : wrap64 (c + 2 * j + 1) = c + 2 * j + 1 := by unfold wrap64; omega
  have hw2 : wrap64 (c + 2 * j + 1 + 1) = c + 2 * (j + 1) := by unfold wrap64; omega
  have hw3 : wrap64 (j + 1) = j + 1 := by unfold wrap64; omega
  let L1 := L.set j.toNat ⟨mrkT (c + 2 * j), (rd_T36 L j).f1⟩
  let L2 := L1.set j.toNat ⟨(rd_T36 L1 j).f0, mrkT (c + 2 * j + 1)⟩
  have l1 : L1.length = L.length := List.length_set;have l2 : L2.length = L.length := by rw [← l1]; exact List.length_set
  have hf0 : (rd_T36 L1 j).f0 = mrkT (c + 2 * j) := by
   rw [rdAttr_at L1 j om_];show (L.set j.toNat _)[j.toNat].f0 = _;rw [List.getElem_set_self]
  have hM2 : Marked c L2 (j + 1).toNat := by
   intro i h hi;by_cases hij : i = j.toNat
   ·subst hij;show (L1.set j.toNat _)[j.toNat] = _;rw [List.getElem_set_self, hf0, show ((j.toNat : Nat) : Int) = j by omega]
   ·show (L1.set j.toNat _)[i] = _;rw [List.getElem_set_ne om_];show (L.set j.toNat _)[i] = _;rw [List.getElem_set_ne om_];exact hM i om_ om_
  obtain ⟨M, m1, m2, m3⟩ := ih (j + 1) L2 om_ om_ om_ om_ hM2;refine ⟨M, om_, m2, ?_⟩;rw [l2] at m3;refine Ev.step (fun k => by simp only [laws_markAttrS.l0]; rfl) (Ev.ifp (show j < (L.length : Int) by omega) (Ev.bind (ev_mark (c + 2 * j) om_) (Ev.ifp h0 (Ev.bindc (a := L1) rfl ?_))));rw [hw1];refine Ev.bind (ev_mark (c + 2 * j + 1) om_) ?_;rw [hw2, hw3];exact m3
theorem heldAttr_l (c : Int) (hc : 0 ≤ c) (hc1 : c ≤ 100000000) (L : List (S36)) (hl : L.length ≤ 100000000) (hM : Marked c L L.length) (d : Nat) : ∀ (j : Int), 0 ≤ j → L.length - j.toNat = d → j ≤ L.length →
  Ev (fun k => laws_heldAttrS.l0 k L (c + 2 * j) j) (c + 2 * L.length) := by
 induction d with
 | zero =>
  intro j h0 hd hj;have : j = L.length := om_;rw [this];exact Ev.step (fun k => by simp only [laws_heldAttrS.l0]; rfl) (Ev.ifn om_ (Ev.now _))
 | succ d ih =>
  intro j h0 hd hj;have hjl : j.toNat < L.length := om_;have hw1 : wrap64 (c + 2 * j + 1) = c + 2 * j + 1 := by unfold wrap64; omega
  have hw2 : wrap64 (c + 2 * j + 1 + 1) = c + 2 * (j + 1) := by unfold wrap64; omega
  have hw3 : wrap64 (j + 1) = j + 1 := by unfold wrap64; omega
  have hx := hM j.toNat hjl hjl;rw [show ((j.toNat : Nat) : Int) = j by omega] at hx;refine Ev.step (fun k => by simp only [laws_heldAttrS.l0]; rfl) (Ev.ifp (show j < (L.length : Int) by omega) (Ev.ifp h0 (Ev.bind (ev_mark (c + 2 * j) om_) ?_)));rw [rdAttr_at L j hjl, hx, hw1];refine Ev.ifp rfl (Ev.bind (ev_mark (c + 2 * j + 1) om_) (Ev.ifp rfl ?_));rw [hw2, hw3];exact ih (j + 1) om_ om_ om_
theorem attr_marks (L : List (S36)) (c : Int) (hc : 0 ≤ c) (hc1 : c ≤ 100000000) (hl : L.length ≤ 100000000) :
  ∃ M : List (S36), Ev (fun k => laws_markAttrS.f k L c) (c + 2 * L.length, M) ∧ Ev (fun k => laws_heldAttrS.f k M c) (c + 2 * L.length) := by
 obtain ⟨M, m1, m2, m3⟩ := markAttr_l c hc hc1 L.length 0 L hl om_ si_ om_ (fun i h hi => by simp at hi);have h := heldAttr_l c hc hc1 M om_ m2 M.length 0 om_ si_ om_;rw [m1] at h;refine ⟨M, ?_, ?_⟩
 ·unfold laws_markAttrS.f; simpa using m3
 ·unfold laws_heldAttrS.f; simpa using h
mutual
def mkSE (k : Nat) : SEl → Int → Option (Int × SEl)
 | ⟨_, _, _, at_, _, ks⟩, n => (laws_markText.f k (wrap64 (wrap64 (n + 1) + 1))).bind fun t2 => (laws_markAttrS.f k at_ (wrap64 (wrap64 (wrap64 (n + 1) + 1) + 1))).bind fun q => (laws_markText.f k q.1).bind fun t4 => (mkSL k ks (wrap64 (q.1 + 1))).bind fun r => some (r.1, ⟨n, wrap64 (n + 1), t2, q.2, t4, r.2⟩)
def mkSL (k : Nat) : List SEl → Int → Option (Int × List SEl)
 | [], n => some (n, [])
 | x :: xs, n => (mkSE k x n).bind fun p => (mkSL k xs p.1).bind fun q => some (q.1, p.2 :: q.2)
end
mutual
theorem mkE_er (k : Nat) : ∀ (x : G43) (n m : Int) (y : SEl), mkSE k (er x) n = some (m, y) → ∃ x', mkE k x n = some (m, x') ∧ er x' = y
 | ⟨a, b, c, d, f, ks, b3, b5⟩, n, m, y, h => by
  rw [er, mkSE] at h;obtain ⟨t2, h2, z1⟩ := oB_ h;obtain ⟨q, h3, z2⟩ := oB_ z1;obtain ⟨t4, h4, z3⟩ := oB_ z2;obtain ⟨r, h5, z4⟩ := oB_ z3;obtain ⟨rfl, rfl⟩ := Prod.mk.inj (sI_ z4);obtain ⟨ks', h6, h7⟩ := mkL_er k ks _ r.1 r.2 h5;refine ⟨⟨n, wrap64 (n + 1), t2, q.2, t4, ks', b3, b5⟩, ?_, ?_⟩
  ·rw [mkE, h2, Option.bind_some, h3, Option.bind_some, h4, Option.bind_some, h6, Option.bind_some]
  ·rw [er, h7]
theorem mkL_er (k : Nat) : ∀ (xs : List G43) (n m : Int) (ys : List SEl), mkSL k (erL xs) n = some (m, ys) → ∃ xs', mkL k xs n = some (m, xs') ∧ erL xs' = ys
 | [], n, m, ys, h => by
  rw [erL, mkSL] at h;obtain ⟨rfl, rfl⟩ := Prod.mk.inj (sI_ h);exact ⟨[], by rw [mkL], by rw [erL]⟩
 | x :: xs, n, m, ys, h => by
  rw [erL, mkSL] at h;obtain ⟨p, h1, z1⟩ := oB_ h;obtain ⟨q, h2, z2⟩ := oB_ z1;obtain ⟨rfl, rfl⟩ := Prod.mk.inj (sI_ z2);obtain ⟨x', h3, h4⟩ := mkE_er k x n p.1 p.2 h1;obtain ⟨xs', h5, h6⟩ := mkL_er k xs p.1 q.1 q.2 h2;refine ⟨x' :: xs', ?_, ?_⟩
  ·rw [mkL, h3, Option.bind_some, h5, Option.bind_some]
  ·rw [erL, h4, h6]
end
theorem aW_len : ∀ l : List SAt, l.length ≤ aW l
 | [] => by simp
 | a :: r => by have := aW_len r; rw [aW, List.length_cons]; omega
theorem Ev.fn {α : Type} {f g : Nat → Option α} {a : α} (h : ∀ k, f k = g k) (hg : Ev g a) : Ev f a := by rw [funext h]; exact hg
mutual
theorem mkSE_ok : ∀ (q : SEl) (c : Int), 0 ≤ c → c + 5 * wt q ≤ 100000000 → ∃ m y, Ev (fun k => mkSE k q c) (m, y) ∧ Ev (fun k => heldE k y c) m ∧ c ≤ m ∧ m ≤ c + 5 * wt q
 | ⟨a, b, d, at_, f, ks⟩, c, h0, h1 => by
  rw [wt] at h1 ⊢;have hl := aW_len at_;have w1 : wrap64 (c + 1) = c + 1 := by unfold wrap64; omega
  have w2 : wrap64 (c + 1 + 1) = c + 2 := by unfold wrap64; omega
  have w3 : wrap64 (c + 2 + 1) = c + 3 := by unfold wrap64; omega
  obtain ⟨M, a1, a2⟩ := attr_marks at_ (c + 3) om_ om_ om_;have w4 : wrap64 (c + 3 + 2 * (at_.length : Int) + 1) = c + 4 + 2 * at_.length := by unfold wrap64; omega
  obtain ⟨m, ys, k1, k2, k3, k4⟩ := mkSL_ok ks (c + 4 + 2 * at_.length) om_ om_;refine ⟨m, ⟨c, c + 1, mrkT (c + 2), M, mrkT (c + 3 + 2 * at_.length), ys⟩, ?_, ?_, om_, om_⟩
  ·refine Ev.fn (fun k => by rw [mkSE, w1, w2, w3]) ?_;refine Ev.bind (ev_mark (c + 2) om_) (Ev.bind a1 (Ev.bind (ev_mark (c + 3 + 2 * at_.length) om_) ?_));rw [w4];exact Ev.bind k1 (Ev.now _)
  ·refine Ev.fn (fun k => by rw [heldE, w1, w2, w3]) ?_;refine Ev.ifp rfl (Ev.ifp rfl (Ev.bind (ev_mark (c + 2) om_) (Ev.ifp rfl (Ev.bind a2 (Ev.ifp om_ (Ev.bind (ev_mark (c + 3 + 2 * at_.length) om_) (Ev.ifp rfl ?_)))))));rw [w4];exact Ev.bind k2 (Ev.ifp om_ (Ev.now _))
theorem mkSL_ok : ∀ (l : List SEl) (c : Int), 0 ≤ c → c + 5 * wtL l ≤ 100000000 → ∃ m y, Ev (fun k => mkSL k l c) (m, y) ∧ Ev (fun k => heldL k y c) m ∧ c ≤ m ∧ m ≤ c + 5 * wtL l
 | [], c, h0, h1 => ⟨c, [], Ev.fn (fun k => by rw [mkSL]) (Ev.now _), Ev.fn (fun k => by rw [heldL]) (Ev.now _), Int.le_refl _, by rw [wtL]; omega⟩
 | x :: xs, c, h0, h1 => by
  rw [wtL] at h1 ⊢;obtain ⟨m, y, k1, k2, k3, k4⟩ := mkSE_ok x c h0 om_;obtain ⟨m2, ys, l1, l2, l3, l4⟩ := mkSL_ok xs m om_ om_;refine ⟨m2, y :: ys, ?_, ?_, om_, om_⟩
  ·refine Ev.fn (fun k => by rw [mkSL]) ?_;exact Ev.bind k1 (Ev.bind l1 (Ev.now _))
  ·refine Ev.fn (fun k => by rw [heldL]) ?_;exact Ev.bind k2 l2
end
mutual
theorem eqE_ok : ∀ (q : SEl), wt q ≤ 100000000 → ∃ K, ∀ k, K ≤ k → eqE k q
 | ⟨a, b, d, at_, f, ks⟩, h => by
  rw [wt] at h;have hl := aW_len at_;obtain ⟨K1, e1⟩ := ev_eqAttrS at_ om_;obtain ⟨K2, e2⟩ := eqL_ok ks om_;exact ⟨max K1 K2, fun k hk => by rw [eqE]; exact ⟨e1 k om_, e2 k om_⟩⟩
theorem eqL_ok : ∀ (l : List SEl), wtL l ≤ 100000000 → ∃ K, ∀ k, K ≤ k → eqL k l
 | [], _ => ⟨0, fun k _ => by rw [eqL]; trivial⟩
 | x :: xs, h => by
  rw [wtL] at h;obtain ⟨K1, e1⟩ := eqE_ok x om_;obtain ⟨K2, e2⟩ := eqL_ok xs om_;exact ⟨max K1 K2, fun k hk => by rw [eqL]; exact ⟨e1 k om_, e2 k om_⟩⟩
end
theorem elOk_both {n : Nat} (hn : n ≤ 900) (e : SEl) (h : fitS e n) : ∃ r : Bool, Ev (fun k => spec_ElOk.f k e.f0 e.f1 e.f2 e.f3 e.f4 e.f5) r ∧ Ev (fun k => impl_ElOk.f k e.f0 e.f1 e.f2 e.f3 e.f4 e.f5) r := by
 obtain ⟨v, dp, hd, p1, p2, p3, p4⟩ := ok_both n hn e h;refine ⟨v && decide (dp ≤ 60), ?_, ?_⟩
 ·unfold spec_ElOk.f;refine Ev.bind p3 ?_;by_cases c : dp ≤ 60
  ·rw [dE_ c, Bool.and_true];exact Ev.ifp om_ (Ev.bind p2 (Ev.now _))
  ·rw [dF_ c, Bool.and_false];exact Ev.ifn om_ (Ev.now _)
 ·unfold impl_ElOk.f;exact Ev.bind (p4 60 om_) (Ev.now _)
theorem docOk_both (n : Nat) (hn : n ≤ 900) (l : List SEl) (hl : l.length ≤ 1048576) (hf : fitSL l n) : ∃ r : Bool, Ev (fun k => spec_DocOk.f k l) r ∧ Ev (fun k => impl_DocOk.f k l) r := by
 have loop : ∀ (m : Nat) (x y j : Int), 0 ≤ j → 0 ≤ x → x ≤ j → ((l.length : Int) - j).toNat ≤ m → ∃ r : Bool, Ev (fun k => spec_DocOk.l0 k l x y j) r ∧ Ev (fun k => impl_DocOk.l0 k x y l (l.length : Int) j) r := by
  intro m;induction m with
  | zero =>
   intro x y j h0 x0 xj hd;by_cases c : x = 1
   ·refine ⟨decide (y ≤ 3000), ?_, ?_⟩
    ·refine Ev.step (fun k => by simp only [spec_DocOk.l0]; rfl) ?_;exact Ev.ifn om_ (Ev.ifp c (Ev.now _))
    ·refine Ev.step (fun k => by simp only [impl_DocOk.l0]; rfl) ?_;exact Ev.ifn om_ (Ev.ifp c (Ev.now _))
   ·refine ⟨false, ?_, ?_⟩
    ·refine Ev.step (fun k => by simp only [spec_DocOk.l0]; rfl) ?_;exact Ev.ifn om_ (Ev.ifn c (Ev.now _))
    ·refine Ev.step (fun k => by simp only [impl_DocOk.l0]; rfl) ?_;exact Ev.ifn om_ (Ev.ifn c (Ev.now _))
  | succ m ih =>
   intro x y j h0 x0 xj hd;by_cases hj : j < (l.length : Int)
   case neg => exact ih x y j h0 x0 xj om_
   have hw : wrap64 (j + 1) = j + 1 := by unfold wrap64; omega
   have hfe := fitSL_mem hf (rd43 l j h0 hj);obtain ⟨w, w1, w2⟩ := elOk_both hn _ hfe;obtain ⟨z, z1, z2⟩ := size_both n _ hfe;generalize hx : rd_T43 l j = e at w1 w2 z1 z2;have GS : ∀ {q : Bool}, Ev (fun k => if w = true then spec_DocOk.j1 k l x y j (e.f0 == 2) else spec_DocOk.j1 k l x y j true) q → Ev (fun k => spec_DocOk.l0 k l x y j) q := fun h => by
    refine Ev.step (fun k => by simp only [spec_DocOk.l0]; rfl) ?_;rw [hx];exact Ev.ifp hj (Ev.ifp h0 (Ev.bind w1 h))
   have GI : ∀ {q : Bool}, Ev (fun k => if w = true then impl_DocOk.j1 k x y l (l.length : Int) j (e.f0 == 2) e.f0 e.f1 e.f2 e.f3 e.f4 e.f5 else impl_DocOk.j1 k x y l (l.length : Int) j true e.f0 e.f1 e.f2 e.f3 e.f4 e.f5) q → Ev (fun k => impl_DocOk.l0 k x y l (l.length : Int) j) q := fun h => by
    refine Ev.step (fun k => by simp only [impl_DocOk.l0]; rfl) ?_;rw [hx];exact Ev.ifp hj (Ev.ifp h0 (Ev.ifp hj (Ev.bind w2 h)))
   have S0 : Ev (fun k => spec_DocOk.j1 k l x y j true) false := by
    refine Ev.step (fun k => by simp only [spec_DocOk.j1]; rfl) ?_;exact Ev.ifp tr_ (Ev.now _)
   have I0 : Ev (fun k => impl_DocOk.j1 k x y l (l.length : Int) j true e.f0 e.f1 e.f2 e.f3 e.f4 e.f5) false := by
    refine Ev.step (fun k => by simp only [impl_DocOk.j1]; rfl) ?_;exact Ev.ifp tr_ (Ev.now _)
   by_cases cw : w = true
   case neg => exact ⟨false, GS (Ev.ifn cw S0), GI (Ev.ifn cw I0)⟩
   by_cases c2 : e.f0 = 2
   ·rw [show (e.f0 == 2) = true from bQ_ c2] at GS GI;exact ⟨false, GS (Ev.ifp cw S0), GI (Ev.ifp cw I0)⟩
   rw [show (e.f0 == 2) = false from bN_ c2] at GS GI;by_cases c1 : e.f0 = 1
   ·have hwx : wrap64 (x + 1) = x + 1 := by unfold wrap64; omega
    obtain ⟨r, r1, r2⟩ := ih (x + 1) (wrap64 (y + z)) (j + 1) om_ om_ om_ om_;refine ⟨r, GS (Ev.ifp cw ?_), GI (Ev.ifp cw ?_)⟩
    ·refine Ev.step (fun k => by simp only [spec_DocOk.j1]; rfl) ?_;rw [hx, hw, show (e.f0 == 1) = true from bQ_ c1];refine Ev.ifn si_ (Ev.ifp h0 (Ev.ifp hj (Ev.bindc (a := 1) rfl (Ev.bind z1 ?_))));rw [hwx];exact r1
    ·refine Ev.step (fun k => by simp only [impl_DocOk.j1]; rfl) ?_;rw [hw, hwx];exact Ev.ifn si_ (Ev.ifp c1 (Ev.bind z2 r2))
   ·have hwx : wrap64 (x + 0) = x := by unfold wrap64; omega
    obtain ⟨r, r1, r2⟩ := ih x (wrap64 (y + z)) (j + 1) om_ om_ om_ om_;refine ⟨r, GS (Ev.ifp cw ?_), GI (Ev.ifp cw ?_)⟩
    ·refine Ev.step (fun k => by simp only [spec_DocOk.j1]; rfl) ?_;rw [hx, hw, show (e.f0 == 1) = false from bN_ c1];refine Ev.ifn si_ (Ev.ifp h0 (Ev.ifp hj (Ev.bindc (a := 0) rfl (Ev.bind z1 ?_))));rw [hwx];exact r1
    ·refine Ev.step (fun k => by simp only [impl_DocOk.j1]; rfl) ?_;rw [hw];exact Ev.ifn si_ (Ev.ifn c1 (Ev.bind z2 r2))
 exact loop _ 0 0 0 (Int.le_refl _) (Int.le_refl _) (Int.le_refl _) (Nat.le_refl _)
theorem next_both (s : BA) (hs : s.size ≤ 262144) (p : Int) (h0 : 0 ≤ p) (h1 : p ≤ s.size) : ∃ ei es, SameE 61 s p ei es ∧ Ev (fun k => rNext k s p false) ei ∧ Ev (fun k => sNext k s p) es := by
 have hs1 : s.size ≤ 1048576 := om_;by_cases n4 : standsAt s p (⟨#[60, 33, 45, 45]⟩ : BA)
 ·have h4 : p + 4 ≤ s.size := n4.1;obtain ⟨q, hq, e1, e2⟩ := xnote_more s hs1 p;have KI : ∀ {y}, Ev (fun k => impl_reader_note.f k s p false) y → Ev (fun k => rNext k s p false) (⟨y.1, 0, ⟨#[]⟩, [], y.2.1, []⟩, y.2.2.1, y.2.2.2.1, y.2.2.2.2) := fun h => by
   unfold rNext;exact Ev.bindc (is_f s p _ h0 h1) (Ev.ifp (dE_ n4) (Ev.bind h (Ev.now _)))
  have KS : Ev (fun k => sNext k s p) (⟨3, 0, ⟨#[]⟩, [], q.1, []⟩, s, (if q.2 > 0 then q.2 else 0), decide (q.2 ≥ 0)) := by
   unfold sNext;exact Ev.bindc (stands_f s hs1 p _ de_ h0 h1) (Ev.ifp (dE_ n4) (Ev.bind e1 (Ev.bindc (max0 q.2) (Ev.now _))))
  rcases hq with hq | ⟨g1, g2, g3⟩
  ·have K1 := KI (y := (0, ⟨#[]⟩, s, p, true)) (by unfold impl_reader_note.f; exact Ev.bind e2 (Ev.ifp om_ (Ev.now _)));rw [dF_ (show ¬ q.2 ≥ 0 by omega)] at KS;exact ⟨_, _, .inl ⟨rfl, rfl, rfl, rfl⟩, K1, KS⟩
  ·have K1 := KI (y := (3, q.1, s, q.2, false)) (by unfold impl_reader_note.f; exact Ev.bind e2 (Ev.ifn om_ (Ev.now _)));rw [dE_ (show q.2 ≥ 0 by omega), if_pos (show q.2 > 0 by omega)] at KS;exact ⟨_, _, .inr ⟨⟨3, 0, ⟨#[]⟩, [], q.1, []⟩, q.2, rfl, rfl, g1, g2, by simp only [wt, aW, wtL]; show ((1 + 0 + 0 + q.1.size + 0 : Nat) : Int) ≤ _; omega, om_, by decide, om_, by simp, (fun y hy => by cases hy), by simp, trivial⟩, K1, KS⟩
 ·obtain ⟨re, rs, hS, e1, e2⟩ := el_both s hs1 60 om_ (-1) p h0 h1;refine ⟨re, rs, hS, ?_, ?_⟩
  ·unfold rNext;refine Ev.bindc (is_f s p _ h0 h1) (Ev.ifn (by simpa using n4) ?_);exact e1
  ·unfold sNext;refine Ev.bindc (stands_f s hs1 p _ de_ h0 h1) (Ev.ifn (by simpa using n4) ?_);exact e2
theorem rread_bad (a0 s : BA) (p : Int) (out : List SEl) : Ev (fun k => rReadL k a0 s p true out) (out, s, p, true) := by
 refine Ev.step (fun k => by simp only [rReadL]; rfl) ?_;exact Ev.ifp tr_ (Ev.now _)
theorem sread_bad (a0 s : BA) (p : Int) (out : List SEl) : Ev (fun k => sReadL k a0 s p false out) (out, s, p, false) := by
 refine Ev.step (fun k => by simp only [sReadL]; rfl) ?_;exact Ev.ifn si_ (Ev.now _)
theorem reads_both (s : BA) (hs : s.size ≤ 262144) (w : Int) : ∀ (d : Nat) (p : Int) (out : List SEl), ((s.size : Int) - p).toNat ≤ d → 0 ≤ p → p ≤ s.size → (out.length : Int) ≤ p → (wtL out : Int) ≤ w + 5 * p → fitSL out 61 →
  ∃ ri rs, SameK 61 s p w ri rs ∧ Ev (fun k => rReadL k s s p false out) ri ∧ Ev (fun k => sReadL k s s p true out) rs := by
 have hs1 : s.size ≤ 1048576 := om_;have stop : ∀ (p : Int) (out : List SEl), 0 ≤ p → p ≤ s.size → ¬ p < (s.size : Int) → (out.length : Int) ≤ p → (wtL out : Int) ≤ w + 5 * p → fitSL out 61 → ∃ ri rs, SameK 61 s p w ri rs ∧ Ev (fun k => rReadL k s s p false out) ri ∧ Ev (fun k => sReadL k s s p true out) rs := fun p out h0 h1 hn hl hw5 hf => by
  refine ⟨(out, s, p, false), (out, s, p, true), .inr ⟨out, p, rfl, rfl, Int.le_refl _, h1, hl, hw5, hf⟩, ?_, ?_⟩
  ·refine Ev.step (fun k => by simp only [rReadL]; rfl) ?_;exact Ev.ifn si_ (Ev.ifn hn (Ev.now _))
  ·refine Ev.step (fun k => by simp only [sReadL]; rfl) ?_;exact Ev.ifp tr_ (Ev.ifn hn (Ev.now _))
 intro d;induction d with
 | zero => intro p out hd h0 h1 hl hw5 hf; exact stop p out h0 h1 om_ hl hw5 hf
 | succ d ih =>
  intro p out hd h0 h1 hl hw5 hf;by_cases hj : p < (s.size : Int)
  case neg => exact stop p out h0 h1 hj hl hw5 hf
  obtain ⟨ei, es, hS, e1, e2⟩ := next_both s hs p h0 h1;have GI : ∀ {r}, Ev (fun k => (impl_reader_take.f ei.2.1 ei.2.2.1 ei.2.2.2 ⟨#[10]⟩).bind fun t => rReadL k s t.1 t.2.1 t.2.2 (out ++ [ei.1])) r → Ev (fun k => rReadL k s s p false out) r := fun h => by
   refine Ev.step (fun k => by simp only [rReadL]; rfl) ?_;exact Ev.ifn si_ (Ev.ifp hj (Ev.ifp om_ (Ev.bind (a := ei) e1 h)))
  have GS : ∀ {r}, Ev (fun k => (spec_l19Take.f es.2.1 es.2.2.1 es.2.2.2 ⟨#[10]⟩).bind fun t => sReadL k s t.1 t.2.1 t.2.2 (out ++ [es.1])) r → Ev (fun k => sReadL k s s p true out) r := fun h => by
   refine Ev.step (fun k => by simp only [sReadL]; rfl) ?_;exact Ev.ifp tr_ (Ev.ifp hj (Ev.ifp tr_ (Ev.ifp om_ (Ev.bind (a := es) e2 h))))
  rcases hS with ⟨b1, b2, b3, b4⟩ | ⟨e, p', rfl, rfl, g1, g2, gw, g3⟩
  ·obtain ⟨x1, x3, x4, x5⟩ := ei;obtain ⟨y1, y3, y4, y5⟩ := es;obtain rfl : x5 = true := b1;obtain rfl : y5 = false := b2;have b3' : s = x3 := b3.symm;subst b3';have b4' : s = y3 := b4.symm;subst b4';exact ⟨(_, s, _, true), (_, s, _, false), .inl ⟨rfl, rfl, rfl, rfl⟩, GI (Ev.bindc (take_bad s x4 _) (rread_bad _ _ _ _)), GS (Ev.bindc (stake_bad s y4 _) (sread_bad _ _ _ _))⟩
  by_cases c : standsAt s p' (⟨#[10]⟩ : BA)
  ·have c' : p' + 1 ≤ s.size := c.1;have hz : ((⟨#[10]⟩ : BA).size : Int) = 1 := rfl;have t1 := take_yes s p' _ om_ c hs1;have t2 := stake_yes s p' _ om_ c hs1;rw [hz] at t1 t2;obtain ⟨ri, rs, hK, k1, k2⟩ := ih (p' + 1) (out ++ [e]) om_ om_ c' (by simp; omega) (by rw [wtL_append, wtL_one]; omega) (fitSL_append _ _ _ hf (fitSL_one g3));refine ⟨ri, rs, ?_, GI (Ev.bindc t1 k1), GS (Ev.bindc t2 k2)⟩;rcases hK with hK | ⟨L, p2, a1, a2, a3, a4⟩
   ·exact .inl hK
   ·exact .inr ⟨L, p2, a1, a2, om_, a4⟩
  ·exact ⟨(_, s, _, true), (_, s, _, false), .inl ⟨rfl, rfl, rfl, rfl⟩, GI (Ev.bindc (take_no s p' _ om_ g2 c) (rread_bad _ _ _ _)), GS (Ev.bindc (stake_no s p' _ de_ om_ g2 c hs1) (sread_bad _ _ _ _))⟩
theorem Read_both (s : BA) : ∃ R : List SEl × Bool, ((R.2 = true → wtL R.1 ≤ 1048576 ∧ R.1.length ≤ 262144 ∧ ∃ d, Ev (fun k => spec_DocOk.f k R.1) d ∧ Ev (fun k => impl_DocOk.f k R.1) d ∧ d = true) ∧ (R.2 = false → R.1 = [])) ∧ Ev (fun k => spec_Read.f k s) R ∧ Ev (fun k => impl_Read.f k s) R := by
 by_cases c : (s.size : Int) > 200000
 ·refine ⟨([], false), ⟨(fun h => absurd h si_), fun _ => rfl⟩, ?_, ?_⟩
  ·unfold spec_Read.f;exact Ev.ifp c (Ev.now _)
  ·unfold impl_Read.f;exact Ev.ifp c (Ev.now _)
 have hs : s.size ≤ 262144 := om_;have hs1 : s.size ≤ 1048576 := om_;by_cases ch : standsAt s 0 (⟨#[60, 63, 120, 109, 108, 32, 118, 101, 114, 115, 105, 111, 110, 61, 34, 49, 46, 48, 34, 63, 62, 10]⟩ : BA)
 case neg =>
  refine ⟨([], false), ⟨(fun h => absurd h si_), fun _ => rfl⟩, ?_, ?_⟩
  ·unfold spec_Read.f;exact Ev.ifn c (Ev.bindc (stake_no s 0 _ de_ (Int.le_refl _) om_ ch hs1) (Ev.bind (sread_bad s s 0 []) (Ev.ifn si_ (Ev.now _))))
  ·unfold impl_Read.f;exact Ev.ifn c (Ev.bindc (take_no s 0 _ (Int.le_refl _) om_ ch) (Ev.bind (rread_bad s s 0 []) (Ev.ifp tr_ (Ev.now _))))
 have hz : ((⟨#[60, 63, 120, 109, 108, 32, 118, 101, 114, 115, 105, 111, 110, 61, 34, 49, 46, 48, 34, 63, 62, 10]⟩ : BA).size : Int) = 22 := rfl;have ch' : 0 + 22 ≤ (s.size : Int) := ch.1;have t1 := take_yes s 0 _ (Int.le_refl _) ch hs1;have t2 := stake_yes s 0 _ (Int.le_refl _) ch hs1;rw [hz] at t1 t2;obtain ⟨ri, rs, hK, k1, k2⟩ := reads_both s hs 0 _ (0 + 22) [] (Nat.le_refl _) om_ ch' si_ (by rw [wtL]; omega) trivial;have GS : ∀ {r}, Ev (fun k => if rs.2.2.2 = true then (spec_DocOk.f k rs.1).bind fun d => (if d = true then some (rs.1, true) else some ([], false)) else some ([], false)) r → Ev (fun k => spec_Read.f k s) r := fun h => by
  unfold spec_Read.f;exact Ev.ifn c (Ev.bindc t2 (Ev.bind (a := rs) k2 h))
 have GI : ∀ {r}, Ev (fun k => if ri.2.2.2 = true then some ([], false) else (impl_DocOk.f k ri.1).bind fun d => (if d = true then some (ri.1, true) else some ([], false))) r → Ev (fun k => impl_Read.f k s) r := fun h => by
  unfold impl_Read.f;exact Ev.ifn c (Ev.bindc t1 (Ev.bind (a := ri) k1 h))
 rcases hK with ⟨b1, b2, b3, b4⟩ | ⟨L, p', rfl, rfl, g1, g2, g3, gw, g4⟩
 ·exact ⟨([], false), ⟨(fun h => absurd h si_), fun _ => rfl⟩, GS (Ev.ifn (by rw [b2]; simp) (Ev.now _)), GI (Ev.ifp b1 (Ev.now _))⟩
 ·obtain ⟨d, d1, d2⟩ := docOk_both 61 om_ L om_ g4;cases d with
  | true => exact ⟨(L, true), ⟨(fun _ => ⟨by show wtL L ≤ _; omega, by show L.length ≤ _; omega, true, d1, d2, rfl⟩), fun h => absurd h si_⟩, GS (Ev.ifp rfl (Ev.bind d1 (Ev.ifp rfl (Ev.now _)))), GI (Ev.ifn si_ (Ev.bind d2 (Ev.ifp rfl (Ev.now _))))⟩
  | false => exact ⟨([], false), ⟨(fun h => absurd h si_), fun _ => rfl⟩, GS (Ev.ifp rfl (Ev.bind d1 (Ev.ifn si_ (Ev.now _)))), GI (Ev.ifn si_ (Ev.bind d2 (Ev.ifn si_ (Ev.now _))))⟩
theorem Read_pure : laws_FnExactRead.Pure := by
 intro a0 _;unfold LwR;by_cases c : 1048576 < (a0.size : Int)
 ·exact ⟨0, .inl c⟩
 obtain ⟨⟨L, b⟩, ⟨hT, hF⟩, ⟨K1, r1⟩, ⟨K2, r2⟩⟩ := Read_both a0;have hw : wtL L ≤ 1048576 := by
  cases b with
  | true => exact (hT rfl).1
  | false =>
   have h0 : L = [] := hF rfl;rw [h0, wtL];omega
 obtain ⟨K3, r3⟩ := eqL_ok L om_;obtain ⟨m, ys, ⟨K6, k1⟩, ⟨K7, k2⟩, k3, _⟩ := mkSL_ok L 1 om_ om_;refine ⟨K1 + K2 + K3 + K6 + K7, .inr ⟨c, L, b, r1 _ om_, r2 _ om_, r3 _ om_, fun gl hq => ?_⟩⟩;generalize hK : K1 + K2 + K3 + K6 + K7 = K;subst hq;obtain ⟨gl2, q1, q2⟩ := mkL_er K gl 1 m ys (k1 K om_);exact ⟨m, gl2, q1, by rw [q2]; exact k2 K om_, om_⟩
end Go.Proofs.YtkmmoheeoblmnaaGreatDoor.A
