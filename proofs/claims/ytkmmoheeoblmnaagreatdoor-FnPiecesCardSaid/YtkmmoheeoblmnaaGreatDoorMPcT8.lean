-- joined by wip/tools/shake.py
import Derived.Test.YtkmmoheeoblmnaaGreatDoorVPcTAux
import Derived.Test.YtkmmoheeoblmnaaGreatDoorVPcTK
import Derived.Test.YtkmmoheeoblmnaaGreatDoorMPcT1
import Derived.Test.YtkmmoheeoblmnaaGreatDoorMPcT2
import Derived.Laws.Bits128
import Derived.Test.YtkmmoheeoblmnaaGreatDoorMPcT3
import Derived.Test.YtkmmoheeoblmnaaGreatDoorMPcT4
import Derived.Lib.IndexLaws
import Derived.Test.YtkmmoheeoblmnaaGreatDoorMPcT5
import Derived.Lib.IndexAny
import Derived.Test.YtkmmoheeoblmnaaGreatDoorMPcT6
import Derived.Test.YtkmmoheeoblmnaaGreatDoorMPcT7
import Derived.Test.YtkmmoheeoblmnaaGreatDoorMPcT0
import Derived.Lib.SplitLaws
import Derived.Lib.ReplaceLaws
namespace Go.Proofs.YtkmmoheeoblmnaaGreatDoor.A
open Go.RowKit Go.Proofs.YtkmmoheeoblmnaaGreatDoorW.PrintWords Go.Proofs.YtkmmoheeoblmnaaGreatDoorW.PrintLast Go.Proofs.YtkmmoheeoblmnaaGreatDoorW.PrintMore
set_option linter.unusedVariables false
theorem Ev.ifp {α : Type} {c : Prop} [Decidable c] {f g : Nat → Option α} {r : α} (hc : c) (h : Ev f r) : Ev (fun k => if c then f k else g k) r := Ev.congr (fun k => if_pos hc) h
theorem Ev.ifn {α : Type} {c : Prop} [Decidable c] {f g : Nat → Option α} {r : α} (hc : ¬ c) (h : Ev g r) : Ev (fun k => if c then f k else g k) r := Ev.congr (fun k => if_neg hc) h
theorem Ev.bindc {α β : Type} {x : Option α} {a : α} {f : Nat → α → Option β} {r : β} (hx : x = some a) (h : Ev (fun n => f n a) r) : Ev (fun n => x.bind (f n)) r := Ev.congr (fun k => by rw [hx, Option.bind_some]) h
theorem Ev.up {α : Type} {f : Nat → Option α} {r : α} (m : Nat) (h : ∀ k, f (k + m) = some r) : Ev f r := ⟨m, fun k hk => by have := h (k - m); rwa [Nat.sub_add_cancel hk] at this⟩
theorem i64_and63 (n : Int) : bits .and .i64 n 63 = n % 64 := by
  have h63 : (BitVec.ofInt 64 63).toNat = 2 ^ 6 - 1 := by decide
  have key : (BitVec.ofInt 64 n &&& BitVec.ofInt 64 63).toNat = (n % ((2 ^ 64 : Nat) : Int)).toNat % 2 ^ 6 := by
    rw [BitVec.toNat_and, BitVec.toNat_ofInt, h63, Nat.and_two_pow_sub_one_eq_mod]
  show IntKind.i64.wrap ((BitVec.ofInt 64 n &&& BitVec.ofInt 64 63).toNat : Nat) = n % 64
  rw [key, IntKind.wrap_i64]
  omega
theorem or128_nat : ∀ c : Nat, c < 64 → bits .or .i64 128 (c : Int) = 128 + (c : Int) := by decide
theorem or192_nat : ∀ c : Nat, c < 32 → bits .or .i64 192 (c : Int) = 192 + (c : Int) := by decide
theorem or224_nat : ∀ c : Nat, c < 16 → bits .or .i64 224 (c : Int) = 224 + (c : Int) := by decide
theorem or240_nat : ∀ c : Nat, c < 8 → bits .or .i64 240 (c : Int) = 240 + (c : Int) := by decide
theorem or_of {a : Int} {m : Nat} (h : ∀ c : Nat, c < m → bits .or .i64 a (c : Int) = a + (c : Int)) {x : Int} (h0 : 0 ≤ x) (h1 : x < m) : bits .or .i64 a x = a + x := by
  have := h x.toNat (by omega)
  rwa [show ((x.toNat : Nat) : Int) = x by omega] at this
def signOk (n : Int) : Bool := decide (0 ≤ n ∧ n ≤ 1114111) && !decide (55296 ≤ n ∧ n ≤ 57343)
theorem inRange_f (n a b : Int) : impl_inRange.f n a b = some (decide (a ≤ n ∧ n ≤ b)) := by
  unfold impl_inRange.f
  by_cases h : n ≥ a
  · rw [if_pos h]
    by_cases h2 : n ≤ b
    · rw [decide_eq_true h2, decide_eq_true (show a ≤ n ∧ n ≤ b from ⟨h, h2⟩)]
    · rw [decide_eq_false h2, decide_eq_false (show ¬ (a ≤ n ∧ n ≤ b) from fun hh => h2 hh.2)]
  · rw [if_neg h, decide_eq_false (show ¬ (a ≤ n ∧ n ≤ b) from fun hh => h hh.1)]
theorem l1In_f (n a b : Int) : spec_l1In.f n a b = some (decide (a ≤ n ∧ n ≤ b)) := inRange_f n a b
theorem implSignOk_f (n : Int) : impl_SignOk.f n = some (signOk n) := by
  unfold impl_SignOk.f signOk
  rw [inRange_f, inRange_f]
  simp only [Option.bind_some]
  by_cases h : decide (0 ≤ n ∧ n ≤ 1114111) = true
  · rw [if_pos h, h]; rfl
  · rw [if_neg h, Bool.eq_false_iff.mpr h]; rfl
theorem specSignOk_f (n : Int) : spec_SignOk.f n = some (signOk n) := by
  unfold spec_SignOk.f signOk
  rw [l1In_f, l1In_f]
  simp only [Option.bind_some]
  by_cases h : decide (0 ≤ n ∧ n ≤ 1114111) = true
  · rw [if_pos h, h]; rfl
  · rw [if_neg h, Bool.eq_false_iff.mpr h]; rfl
def put0 (x : Int) : ByteArray :=
  if x < 128 then strOfNums [x % 256]
  else if x < 2048 then strOfNums [(192 + x / 64) % 256, (128 + x % 64) % 256]
  else if x < 65536 then strOfNums [(224 + x / 4096) % 256, (128 + x / 64 % 64) % 256, (128 + x % 64) % 256]
  else strOfNums [(240 + x / 262144) % 256, (128 + x / 4096 % 64) % 256, (128 + x / 64 % 64) % 256, (128 + x % 64) % 256]
theorem follow_f (x : Int) (b : Nat) (hb : b = 0 ∨ b = 6 ∨ b = 12) : impl_follow.f x (b : Int) = some ((128 + x / 2 ^ b % 64) % 256) := by
  unfold impl_follow.f
  have hw : IntKind.u64.wrap (b : Int) = (b : Int) := by rcases hb with rfl | rfl | rfl <;> decide
  rw [hw, if_pos (by omega), i64_and63]
  have hs : shr .i64 x (b : Int) = x / 2 ^ b := by
    unfold shr
    rcases hb with rfl | rfl | rfl <;> rfl
  rw [hs, or_of or128_nat (by omega) (by omega)]
theorem specPut0_f (k : Nat) (x : Int) (h0 : 0 ≤ x) (h1 : x ≤ 1114111) : spec_PutSign.j0 (k + 1) x = some (put0 x) := by
  have hw : ∀ a : Int, 0 ≤ a → a ≤ 1000000 → wrap64 a = a := fun a _ _ => by unfold wrap64; omega
  simp only [spec_PutSign.j0, put0, i64_and63]
  rw [hw (192 + x / 64) (by omega) (by omega), hw (128 + x % 64) (by omega) (by omega), hw (224 + x / 4096) (by omega) (by omega), hw (128 + x / 64 % 64) (by omega) (by omega), hw (240 + x / 262144) (by omega) (by omega), hw (128 + x / 4096 % 64) (by omega) (by omega)]
  by_cases c1 : x < 128
  · simp [c1]
  · by_cases c2 : x < 2048
    · simp [c1, c2]
    · by_cases c3 : x < 65536 <;> simp [c1, c2, c3]
theorem implPut0_f (k : Nat) (x : Int) (h0 : 0 ≤ x) (h1 : x ≤ 1114111) : impl_PutSign.j0 (k + 1) x = some (put0 x) := by
  have f0 : impl_follow.f x 0 = some ((128 + x % 64) % 256) := by
    have := follow_f x 0 (.inl rfl)
    rwa [show (2 : Int) ^ 0 = 1 from rfl, Int.ediv_one] at this
  have f6 : impl_follow.f x 6 = some ((128 + x / 64 % 64) % 256) := follow_f x 6 (.inr (.inl rfl))
  have f12 : impl_follow.f x 12 = some ((128 + x / 4096 % 64) % 256) := follow_f x 12 (.inr (.inr rfl))
  simp only [impl_PutSign.j0, put0]
  by_cases c1 : x < 128
  · simp [c1]
  · by_cases c2 : x < 2048
    · rw [if_neg c1, if_neg c1, if_pos c2, if_pos c2, or_of or192_nat (by omega) (by omega)]
      rw [f0]
      rfl
    · by_cases c3 : x < 65536
      · rw [if_neg c1, if_neg c1, if_neg c2, if_neg c2, if_pos c3, if_pos c3, or_of or224_nat (by omega) (by omega)]
        rw [f0, f6]
        rfl
      · rw [if_neg c1, if_neg c1, if_neg c2, if_neg c2, if_neg c3, if_neg c3, or_of or240_nat (by omega) (by omega)]
        rw [f0, f6, f12]
        rfl
def putF (n : Int) : ByteArray := if signOk n = true then put0 n else put0 65533
theorem specPut_f (k : Nat) (n : Int) : spec_PutSign.f (k + 1) n = some (putF n) := by
  unfold spec_PutSign.f putF
  rw [specSignOk_f, Option.bind_some]
  by_cases h : signOk n = true
  · have h' := h
    simp only [signOk, Bool.and_eq_true, decide_eq_true_eq] at h'
    rw [if_pos h, if_pos h, specPut0_f k n (by omega) (by omega)]
  · rw [if_neg h, if_neg h, specPut0_f k 65533 (by omega) (by omega)]
theorem implPut_f (k : Nat) (n : Int) : impl_PutSign.f (k + 1) n = some (putF n) := by
  unfold impl_PutSign.f putF
  rw [implSignOk_f, Option.bind_some]
  by_cases h : signOk n = true
  · have h' := h
    simp only [signOk, Bool.and_eq_true, decide_eq_true_eq] at h'
    rw [if_pos h, if_pos h, implPut0_f k n (by omega) (by omega)]
  · rw [if_neg h, if_neg h, implPut0_f k 65533 (by omega) (by omega)]
theorem putF_size (n : Int) : (putF n).size ≤ 4 := by
  have hp : ∀ x, (put0 x).size ≤ 4 := by
    intro x
    unfold put0
    split
    · exact Nat.le_trans (Nat.le_of_eq (show _ = 1 from rfl)) (by omega)
    · split
      · exact Nat.le_trans (Nat.le_of_eq (show _ = 2 from rfl)) (by omega)
      · split
        · exact Nat.le_trans (Nat.le_of_eq (show _ = 3 from rfl)) (by omega)
        · exact Nat.le_trans (Nat.le_of_eq (show _ = 4 from rfl)) (by omega)
  unfold putF
  split <;> exact hp _
set_option maxRecDepth 100000 in
theorem u8and : ∀ c : Nat, c < 256 → bits .and .u8 (c : Int) 63 = (c : Int) % 64 ∧ bits .and .u8 (c : Int) 31 = (c : Int) % 32 ∧ bits .and .u8 (c : Int) 15 = (c : Int) % 16 ∧ bits .and .u8 (c : Int) 7 = (c : Int) % 8 := by decide +kernel
set_option maxRecDepth 100000 in
theorem i64and : ∀ c : Nat, c < 256 → bits .and .i64 (c : Int) 31 = (c : Int) % 32 ∧ bits .and .i64 (c : Int) 15 = (c : Int) % 16 ∧ bits .and .i64 (c : Int) 7 = (c : Int) % 8 := by decide +kernel
theorem or_add (n x : Int) (h0 : 0 ≤ n) (h1 : n ≤ 1099511627776) (x0 : 0 ≤ x) (x1 : x < 64) : bits .or .i64 (n * 64) x = n * 64 + x := by
  have key : (BitVec.ofInt 64 (n * 64) ||| BitVec.ofInt 64 x).toNat = n.toNat * 64 + x.toNat := by
    rw [BitVec.toNat_or, BitVec.toNat_ofInt, BitVec.toNat_ofInt]
    have e1 : (n * 64 % ((2 ^ 64 : Nat) : Int)).toNat = n.toNat <<< 6 := by rw [Nat.shiftLeft_eq]; omega
    have e2 : (x % ((2 ^ 64 : Nat) : Int)).toNat = x.toNat := by omega
    rw [e1, e2, ← Nat.shiftLeft_add_eq_or_of_lt (show x.toNat < 2 ^ 6 by omega), Nat.shiftLeft_eq]
  show IntKind.i64.wrap ((BitVec.ofInt 64 (n * 64) ||| BitVec.ofInt 64 x).toNat : Nat) = n * 64 + x
  rw [key, IntKind.wrap_i64]
  omega
theorem bt_range (s : ByteArray) (i : Int) : 0 ≤ bt s i ∧ bt s i ≤ 255 := by
  unfold bt
  split
  · rename_i h
    constructor
    · omega
    · have := (s[i.toNat]'h).toNat_lt
      omega
  · omega
def Bd : Nat → Int
  | 0 => 1099511627776
  | 1 => 17179869184
  | 2 => 268435456
  | _ => 4194304
def Gs (s : ByteArray) (at_ : Int) : Nat → Int → Int → Int → Int → Int × Int
  | 0, n, _, _, i => (n, i)
  | r + 1, n, lo, hi, i => if (s.size : Int) ≤ at_ + i then (65533, i) else if bt s (at_ + i) < lo ∨ hi < bt s (at_ + i) then (65533, i) else Gs s at_ r (n * 64 + bt s (at_ + i) % 64) 128 191 (i + 1)
theorem Gs_range (s : ByteArray) (at_ : Int) : ∀ (r : Nat) (n lo hi i : Int), i ≤ (Gs s at_ r n lo hi i).2 ∧ (Gs s at_ r n lo hi i).2 ≤ i + r
  | 0, n, lo, hi, i => by simp [Gs]
  | r + 1, n, lo, hi, i => by
    rw [Gs]
    split
    · simp; omega
    · split
      · simp; omega
      · have := Gs_range s at_ r (n * 64 + bt s (at_ + i) % 64) 128 191 (i + 1)
        omega
theorem impl_Gs (s : ByteArray) (at_ : Int) (ha : 0 ≤ at_) (has : at_ < (s.size : Int)) (hs : s.size ≤ 1048576) : ∀ (r : Nat) (n lo hi i : Int), r ≤ 3 → 0 ≤ n → n < Bd r → 1 ≤ i → i + (r : Int) ≤ 4 → Ev (fun k => impl_getSign.l0 k s at_ (i + r - 1) n lo hi i) (Gs s at_ r n lo hi i) := by
  intro r
  induction r with
  | zero =>
    intro n lo hi i hr h0 hn h1 h4
    have hw : wrap64 (i + ((0 : Nat) : Int) - 1 + 1) = i := by unfold wrap64; omega
    refine Ev.step (fun k => by simp only [impl_getSign.l0]; rfl) (Ev.ifn (by omega) ?_)
    rw [hw]
    exact Ev.now _
  | succ r ih =>
    intro n lo hi i hr h0 hn h1 h4
    have hw : wrap64 (at_ + i) = at_ + i := by unfold wrap64; omega
    have hw2 : wrap64 (i + 1) = i + 1 := by unfold wrap64; omega
    have hb := bt_range s (at_ + i)
    have hn2 : n ≤ 17179869184 := by
      match r, hr, hn with
      | 0, _, hn => exact Int.le_of_lt hn
      | 1, _, hn => have : n < 268435456 := hn; omega
      | 2, _, hn => have : n < 4194304 := hn; omega
    have hw3 : wrap64 (n * 64) = n * 64 := by unfold wrap64; omega
    have hand : bits .and .u8 (bt s (at_ + i)) 63 = bt s (at_ + i) % 64 := by
      have := (u8and (bt s (at_ + i)).toNat (by omega)).1
      rwa [show (((bt s (at_ + i)).toNat : Nat) : Int) = bt s (at_ + i) by omega] at this
    have hw4 : wrap64 (bt s (at_ + i) % 64) = bt s (at_ + i) % 64 := by unfold wrap64; omega
    refine Ev.step (fun k => by simp only [impl_getSign.l0]; rfl) (Ev.ifp (by omega) ?_)
    rw [hw, hw2, hw3, hand, hw4, or_add n _ h0 (by omega) (by omega) (by omega), Gs]
    by_cases c1 : (s.size : Int) ≤ at_ + i
    · rw [if_pos c1]
      exact Ev.ifp c1 (Ev.now _)
    rw [if_neg c1]
    refine Ev.ifn c1 (Ev.ifp (by omega) (Ev.ifp (by omega) ?_))
    by_cases c2 : bt s (at_ + i) < lo
    · rw [if_pos (Or.inl c2)]
      exact Ev.ifp c2 (Ev.now _)
    refine Ev.ifn c2 ?_
    by_cases c3 : bt s (at_ + i) > hi
    · rw [if_pos (Or.inr c3)]
      exact Ev.ifp c3 (Ev.now _)
    rw [if_neg (by omega)]
    refine Ev.ifn c3 ?_
    have := ih (n * 64 + bt s (at_ + i) % 64) 128 191 (i + 1) (by omega) (by omega) (by
      match r, hr, hn with
      | 0, _, hn => have : n < 17179869184 := hn; show _ < (1099511627776 : Int); omega
      | 1, _, hn => have : n < 268435456 := hn; show _ < (17179869184 : Int); omega
      | 2, _, hn => have : n < 4194304 := hn; show _ < (268435456 : Int); omega) (by omega) (by omega)
    rw [show i + 1 + (r : Int) - 1 = i + ((r + 1 : Nat) : Int) - 1 by omega] at this
    exact this
theorem spec_Gs2 (s : ByteArray) (at_ a : Int) (ha : 0 ≤ at_) (has : at_ < (s.size : Int)) (hs : s.size ≤ 1048576) : ∀ (r : Nat) (n i : Int), r ≤ 3 → 0 ≤ n → n < Bd r → 2 ≤ i → i + (r : Int) ≤ 4 → Ev (fun k => spec_GetSign.l0 k s at_ a (i + r) n i) (Gs s at_ r n 128 191 i) := by
  intro r
  induction r with
  | zero =>
    intro n i hr h0 hn h1 h4
    refine Ev.step (fun k => by simp only [spec_GetSign.l0]; rfl) (Ev.ifn (by omega) ?_)
    rw [show i + ((0 : Nat) : Int) = i by omega]
    exact Ev.now _
  | succ r ih =>
    intro n i hr h0 hn h1 h4
    have hw : wrap64 (at_ + i) = at_ + i := by unfold wrap64; omega
    have hw2 : wrap64 (i + 1) = i + 1 := by unfold wrap64; omega
    have hb := bt_range s (at_ + i)
    have hn2 : n ≤ 17179869184 := by
      match r, hr, hn with
      | 0, _, hn => exact Int.le_of_lt hn
      | 1, _, hn => have : n < 268435456 := hn; omega
      | 2, _, hn => have : n < 4194304 := hn; omega
    have hw3 : wrap64 (n * 64) = n * 64 := by unfold wrap64; omega
    have hw4 : wrap64 (bt s (at_ + i)) = bt s (at_ + i) := by unfold wrap64; omega
    have hw5 : wrap64 (n * 64 + bt s (at_ + i) % 64) = n * 64 + bt s (at_ + i) % 64 := by unfold wrap64; omega
    refine Ev.step (fun k => by simp only [spec_GetSign.l0]; rfl) (Ev.ifp (by omega) ?_)
    rw [hw, hw2, hw3, hw4, i64_and63, hw5, Gs]
    by_cases c1 : (s.size : Int) ≤ at_ + i
    · rw [if_pos c1]
      exact Ev.ifp c1 (Ev.now _)
    rw [if_neg c1]
    refine Ev.ifn c1 (Ev.ifn (by omega) (Ev.ifp (by omega) (Ev.ifp (by omega) (Ev.bindc (l1In_f _ _ _) ?_))))
    by_cases c2 : 128 ≤ bt s (at_ + i) ∧ bt s (at_ + i) ≤ 191
    · rw [decide_eq_true c2, if_neg (by omega)]
      refine Ev.ifp rfl ?_
      have := ih (n * 64 + bt s (at_ + i) % 64) (i + 1) (by omega) (by omega) (by
        match r, hr, hn with
        | 0, _, hn => have : n < 17179869184 := hn; show _ < (1099511627776 : Int); omega
        | 1, _, hn => have : n < 268435456 := hn; show _ < (17179869184 : Int); omega
        | 2, _, hn => have : n < 4194304 := hn; show _ < (268435456 : Int); omega) (by omega) (by omega)
      rw [show i + 1 + (r : Int) = i + ((r + 1 : Nat) : Int) by omega] at this
      exact this
    · rw [decide_eq_false c2, if_pos (by omega)]
      exact Ev.ifn (by simp) (Ev.now _)
def secLo (a : Int) : Int := if a = 224 then 160 else if a = 237 then 128 else if a = 240 then 144 else 128
def secHi (a : Int) : Int := if a = 224 then 191 else if a = 237 then 159 else if a = 240 then 191 else if a = 244 then 143 else 191
theorem second_f (a b : Int) : spec_l1Second.f a b = some (decide (secLo a ≤ b ∧ b ≤ secHi a)) := by
  unfold spec_l1Second.f secLo secHi
  by_cases h1 : a = 224
  · rw [if_pos h1, if_pos h1, if_pos h1, l1In_f]; rfl
  rw [if_neg h1, if_neg h1, if_neg h1]
  by_cases h2 : a = 237
  · rw [if_pos h2, if_pos h2, if_pos h2, l1In_f]; rfl
  rw [if_neg h2, if_neg h2, if_neg h2]
  by_cases h3 : a = 240
  · rw [if_pos h3, if_pos h3, if_pos h3, l1In_f]; rfl
  rw [if_neg h3, if_neg h3, if_neg h3]
  by_cases h4 : a = 244
  · rw [if_pos h4, if_pos h4, l1In_f]; rfl
  rw [if_neg h4, if_neg h4, l1In_f]; rfl
theorem sec_in (a b : Int) (h : secLo a ≤ b ∧ b ≤ secHi a) : 128 ≤ b ∧ b ≤ 191 := by
  unfold secLo secHi at h
  split at h
  · omega
  · split at h
    · omega
    · split at h
      · omega
      · split at h <;> omega
theorem spec_Gs1 (s : ByteArray) (at_ a : Int) (ha : 0 ≤ at_) (has : at_ < (s.size : Int)) (hs : s.size ≤ 1048576) (r : Nat) (n : Int) (hr : r + 1 ≤ 3) (h0 : 0 ≤ n) (hn : n < Bd (r + 1)) :
    Ev (fun k => spec_GetSign.l0 k s at_ a ((r : Int) + 2) n 1) (Gs s at_ (r + 1) n (secLo a) (secHi a) 1) := by
  have hw : wrap64 (at_ + 1) = at_ + 1 := by unfold wrap64; omega
  have hw2 : wrap64 (1 + 1) = 2 := by unfold wrap64; omega
  have hb := bt_range s (at_ + 1)
  have hn2 : n ≤ 17179869184 := by
    match r, hr, hn with
    | 0, _, hn => exact Int.le_of_lt hn
    | 1, _, hn => have : n < 268435456 := hn; omega
    | 2, _, hn => have : n < 4194304 := hn; omega
  have hw3 : wrap64 (n * 64) = n * 64 := by unfold wrap64; omega
  have hw4 : wrap64 (bt s (at_ + 1)) = bt s (at_ + 1) := by unfold wrap64; omega
  have hw5 : wrap64 (n * 64 + bt s (at_ + 1) % 64) = n * 64 + bt s (at_ + 1) % 64 := by unfold wrap64; omega
  refine Ev.step (fun k => by rw [spec_GetSign.l0]) (Ev.ifp (by omega) ?_)
  rw [hw, hw2, hw3, hw4, i64_and63, hw5, Gs]
  by_cases c1 : (s.size : Int) ≤ at_ + 1
  · rw [if_pos c1]
    exact Ev.ifp c1 (Ev.now _)
  rw [if_neg c1]
  refine Ev.ifn c1 (Ev.ifp rfl (Ev.ifp (by omega) (Ev.ifp (by omega) (Ev.bindc (second_f _ _) ?_))))
  by_cases c2 : secLo a ≤ bt s (at_ + 1) ∧ bt s (at_ + 1) ≤ secHi a
  · rw [decide_eq_true c2, if_neg (by omega)]
    refine Ev.ifp rfl (Ev.ifp (by omega) (Ev.ifp (by omega) (Ev.bindc (l1In_f _ _ _) ?_)))
    rw [decide_eq_true (sec_in a _ c2)]
    refine Ev.ifp rfl ?_
    have := spec_Gs2 s at_ a ha has hs r (n * 64 + bt s (at_ + 1) % 64) 2 (by omega) (by omega) (by
      match r, hr, hn with
      | 0, _, hn => have : n < 17179869184 := hn; show _ < (1099511627776 : Int); omega
      | 1, _, hn => have : n < 268435456 := hn; show _ < (17179869184 : Int); omega
      | 2, _, hn => have : n < 4194304 := hn; show _ < (268435456 : Int); omega) (by omega) (by omega)
    rw [show (2 : Int) + (r : Int) = (r : Int) + 2 by omega] at this
    exact this
  · rw [decide_eq_false c2, if_pos (by omega)]
    exact Ev.ifn (by simp) (Ev.now _)
theorem Gs_end (s : ByteArray) (at_ : Int) : ∀ (r : Nat) (n lo hi i : Int), at_ + i ≤ s.size → at_ + (Gs s at_ r n lo hi i).2 ≤ s.size
  | 0, n, lo, hi, i, h => by simpa [Gs] using h
  | r + 1, n, lo, hi, i, h => by
    rw [Gs]
    split
    · exact h
    · split
      · exact h
      · exact Gs_end s at_ r _ _ _ _ (by omega)
theorem Gs_nn (s : ByteArray) (at_ : Int) : ∀ (r : Nat) (n lo hi i : Int), 0 ≤ n → 0 ≤ (Gs s at_ r n lo hi i).1
  | 0, n, lo, hi, i, h => by simpa [Gs] using h
  | r + 1, n, lo, hi, i, h => by
    have hb := bt_range s (at_ + i)
    rw [Gs]
    split
    · simp
    · split
      · simp
      · exact Gs_nn s at_ r _ _ _ _ (by omega)
set_option maxHeartbeats 4000000 in
theorem sign_both (s : ByteArray) (hs : s.size ≤ 1048576) (at_ : Int) (ha : 0 ≤ at_) (has : at_ < (s.size : Int)) : ∃ q : Int × Int, 1 ≤ q.2 ∧ q.2 ≤ 4 ∧ (at_ + q.2 ≤ s.size ∧ 0 ≤ q.1 ∧ (bt s at_ < 128 → q = (bt s at_, 1))) ∧ Ev (fun k => spec_GetSign.f k s at_) q ∧ Ev (fun k => impl_getSign.f k s at_) q := by
  have hb := bt_range s at_
  have hwb : wrap64 (bt s at_) = bt s at_ := by unfold wrap64; omega
  have hN : (((bt s at_).toNat : Nat) : Int) = bt s at_ := by omega
  have hand := u8and (bt s at_).toNat (by omega)
  have hand2 := i64and (bt s at_).toNat (by omega)
  rw [hN] at hand hand2
  have spec0 : ∀ q, Ev (fun k => (spec_l1Many.f (bt s at_)).bind fun t => (if t < 2 then (if t = 1 then (some (bt s at_, (1 : Int))) else (some (65533, 1))) else (if 0 ≤ t then (spec_GetSign.l0 k s at_ (bt s at_) t (Go.bits .and .i64 (bt s at_) (shr .i64 127 t)) 1) else (none)))) q → Ev (fun k => spec_GetSign.f k s at_) q := by
    intro q h
    unfold spec_GetSign.f
    refine Ev.ifn (by omega) ?_
    rw [decide_eq_false (by omega)]
    refine Ev.step (fun k => by simp only [spec_GetSign.j0]; rfl) (Ev.ifn (by simp) (Ev.ifp ha (Ev.ifp has ?_)))
    rw [hwb]
    exact h
  have impl0 : ∀ q, Ev (fun k => (impl_beginning.f k (bt s at_)).bind fun g => (if g.1 < 0 then (some (65533, 1)) else (impl_getSign.l0 k s at_ g.1 g.2.1 g.2.2.1 g.2.2.2 1))) q → Ev (fun k => impl_getSign.f k s at_) q := by
    intro q h
    unfold impl_getSign.f
    exact Ev.ifp ha (Ev.ifp has h)
  have bj : ∀ {g : Int × Int × Int × Int}, bt s at_ ≥ 194 → bt s at_ ≤ 244 → Ev (fun k => (if bt s at_ < 224 then (some ((1 : Int), wrap64 (Go.bits .and .u8 (bt s at_) 31), (128 : Int), (191 : Int))) else (if bt s at_ = 224 then (some (2, 0, 160, 191)) else (if bt s at_ = 237 then (some (2, 13, 128, 159)) else (if bt s at_ < 240 then (some (2, wrap64 (Go.bits .and .u8 (bt s at_) 15), 128, 191)) else (if bt s at_ = 240 then (some (3, 0, 144, 191)) else (if bt s at_ = 244 then (some (3, 4, 128, 143)) else (some (3, wrap64 (Go.bits .and .u8 (bt s at_) 7), 128, 191))))))))) g → Ev (fun k => impl_beginning.f k (bt s at_)) g := by
    intro g h1 h2 h
    unfold impl_beginning.f
    refine Ev.ifn (by omega) (Ev.ifn (by omega) ?_)
    rw [decide_eq_false (by omega)]
    refine Ev.step (fun k => by simp only [impl_beginning.j0]; rfl) (Ev.ifn (by simp) h)
  by_cases c1 : bt s at_ < 128
  · refine ⟨(bt s at_, 1), by simp, by simp, ⟨by show at_ + 1 ≤ _; omega, hb.1, fun _ => rfl⟩, spec0 _ ?_, impl0 _ ?_⟩
    · refine Ev.bindc (a := 1) (by unfold spec_l1Many.f; rw [if_pos c1]) (Ev.ifp (by omega) (Ev.ifp rfl (Ev.now _)))
    · refine Ev.bind (a := (0, bt s at_, 0, 0)) (by unfold impl_beginning.f; rw [hwb]; exact Ev.ifp c1 (Ev.now _)) (Ev.ifn (by simp) ?_)
      have := impl_Gs s at_ ha has hs 0 (bt s at_) 0 0 1 (by omega) hb.1 (by show _ < (1099511627776 : Int); omega) (by omega) (by omega)
      simpa [Gs] using this
  by_cases c2 : bt s at_ < 194 ∨ bt s at_ > 244
  · refine ⟨(65533, 1), by simp, by simp, ⟨by show at_ + 1 ≤ _; omega, by simp, fun h => absurd h c1⟩, spec0 _ ?_, impl0 _ ?_⟩
    · refine Ev.bindc (a := 0) ?_ (Ev.ifp (by omega) (Ev.ifn (by omega) (Ev.now _)))
      unfold spec_l1Many.f
      rw [if_neg c1, l1In_f, decide_eq_false (by omega), l1In_f, decide_eq_false (by omega), l1In_f, decide_eq_false (by omega)]
      rfl
    · refine Ev.bind (a := (-1, 0, 0, 0)) ?_ (Ev.ifp (by simp) (Ev.now _))
      unfold impl_beginning.f
      refine Ev.ifn c1 ?_
      have hj : Ev (fun k => impl_beginning.j0 k (bt s at_) true) (-1, 0, 0, 0) := Ev.step (f := fun _ => some (-1, 0, 0, 0)) (fun k => by simp [impl_beginning.j0]) (Ev.now _)
      by_cases c3 : bt s at_ < 194
      · exact Ev.ifp c3 hj
      · refine Ev.ifn c3 ?_
        rw [decide_eq_true (by omega)]
        exact hj
  have many : ∀ (r : Nat) (n0 : Int), spec_l1Many.f (bt s at_) = some ((r : Int) + 2) → bits .and .i64 (bt s at_) (shr .i64 127 ((r : Int) + 2)) = n0 → r + 1 ≤ 3 → 0 ≤ n0 → n0 < 4194304 → Ev (fun k => impl_beginning.f k (bt s at_)) ((r : Int) + 1, n0, secLo (bt s at_), secHi (bt s at_)) →
      ∃ q : Int × Int, 1 ≤ q.2 ∧ q.2 ≤ 4 ∧ (at_ + q.2 ≤ s.size ∧ 0 ≤ q.1 ∧ (bt s at_ < 128 → q = (bt s at_, 1))) ∧ Ev (fun k => spec_GetSign.f k s at_) q ∧ Ev (fun k => impl_getSign.f k s at_) q := by
    intro r n0 hm hn hr h0 hB hbg
    have hBd : n0 < Bd (r + 1) := by
      match r, hr with
      | 0, _ => show _ < (17179869184 : Int); omega
      | 1, _ => show _ < (268435456 : Int); omega
      | 2, _ => exact hB
    have hR := Gs_range s at_ (r + 1) n0 (secLo (bt s at_)) (secHi (bt s at_)) 1
    refine ⟨Gs s at_ (r + 1) n0 (secLo (bt s at_)) (secHi (bt s at_)) 1, hR.1, by omega, ⟨Gs_end s at_ _ _ _ _ _ (by omega), Gs_nn s at_ _ _ _ _ _ h0, fun h => absurd h c1⟩, spec0 _ ?_, impl0 _ ?_⟩
    · refine Ev.bindc hm (Ev.ifn (by omega) (Ev.ifp (by omega) ?_))
      rw [hn]
      exact spec_Gs1 s at_ _ ha has hs r n0 hr h0 hBd
    · refine Ev.bind hbg (Ev.ifn (by show ¬ ((r : Int) + 1 < 0); omega) ?_)
      have := impl_Gs s at_ ha has hs (r + 1) n0 (secLo (bt s at_)) (secHi (bt s at_)) 1 hr h0 hBd (by omega) (by omega)
      rw [show (1 : Int) + ((r + 1 : Nat) : Int) - 1 = (r : Int) + 1 by omega] at this
      exact this
  have wr : ∀ m : Int, 0 ≤ m → m < 256 → wrap64 m = m := by intro m h0 h1; unfold wrap64; omega
  by_cases c3 : bt s at_ < 224
  · refine many 0 (bt s at_ % 32) ?_ ?_ (by omega) (by omega) (by omega) (bj (by omega) (by omega) ?_)
    · unfold spec_l1Many.f
      rw [if_neg c1, l1In_f, decide_eq_true (by omega)]
      rfl
    · rw [show shr .i64 127 (((0 : Nat) : Int) + 2) = 31 by decide]; exact hand2.1
    · rw [hand.2.1, wr _ (by omega) (by omega)]
      refine Ev.ifp c3 ?_
      rw [show secLo (bt s at_) = 128 by unfold secLo; rw [if_neg (by omega), if_neg (by omega), if_neg (by omega)], show secHi (bt s at_) = 191 by unfold secHi; rw [if_neg (by omega), if_neg (by omega), if_neg (by omega), if_neg (by omega)]]
      exact Ev.now _
  by_cases c4 : bt s at_ < 240
  · refine many 1 (bt s at_ % 16) ?_ ?_ (by omega) (by omega) (by omega) (bj (by omega) (by omega) ?_)
    · unfold spec_l1Many.f
      rw [if_neg c1, l1In_f, decide_eq_false (by omega), l1In_f, decide_eq_true (by omega)]
      rfl
    · rw [show shr .i64 127 (((1 : Nat) : Int) + 2) = 15 by decide]; exact hand2.2.1
    · rw [hand.2.2.1, wr (bt s at_ % 16) (by omega) (by omega)]
      refine Ev.ifn c3 ?_
      by_cases d1 : bt s at_ = 224
      · refine Ev.ifp d1 ?_
        rw [d1]
        exact Ev.now _
      refine Ev.ifn d1 ?_
      by_cases d2 : bt s at_ = 237
      · refine Ev.ifp d2 ?_
        rw [d2]
        exact Ev.now _
      refine Ev.ifn d2 (Ev.ifp c4 ?_)
      rw [show secLo (bt s at_) = 128 by unfold secLo; rw [if_neg (by omega), if_neg (by omega), if_neg (by omega)], show secHi (bt s at_) = 191 by unfold secHi; rw [if_neg (by omega), if_neg (by omega), if_neg (by omega), if_neg (by omega)]]
      exact Ev.now _
  · refine many 2 (bt s at_ % 8) ?_ ?_ (by omega) (by omega) (by omega) (bj (by omega) (by omega) ?_)
    · unfold spec_l1Many.f
      rw [if_neg c1, l1In_f, decide_eq_false (by omega), l1In_f, decide_eq_false (by omega), l1In_f, decide_eq_true (by omega)]
      rfl
    · rw [show shr .i64 127 (((2 : Nat) : Int) + 2) = 7 by decide]; exact hand2.2.2
    · rw [hand.2.2.2, wr (bt s at_ % 8) (by omega) (by omega)]
      refine Ev.ifn c3 (Ev.ifn (by omega) (Ev.ifn (by omega) (Ev.ifn c4 ?_)))
      by_cases d1 : bt s at_ = 240
      · refine Ev.ifp d1 ?_
        rw [d1]
        exact Ev.now _
      refine Ev.ifn d1 ?_
      by_cases d2 : bt s at_ = 244
      · refine Ev.ifp d2 ?_
        rw [d2]
        exact Ev.now _
      refine Ev.ifn d2 ?_
      rw [show secLo (bt s at_) = 128 by unfold secLo; rw [if_neg (by omega), if_neg (by omega), if_neg (by omega)], show secHi (bt s at_) = 191 by unfold secHi; rw [if_neg (by omega), if_neg (by omega), if_neg (by omega), if_neg (by omega)]]
      exact Ev.now _
theorem clean_both (s : ByteArray) (hs : s.size ≤ 1048576) (i : Int) (h0 : 0 ≤ i) (h1 : i < (s.size : Int)) : ∃ q : Int × Int, 1 ≤ q.2 ∧ q.2 ≤ 4 ∧ (i + q.2 ≤ s.size ∧ 0 ≤ q.1 ∧ (bt s i < 128 → q = (bt s i, 1))) ∧ Ev (fun k => spec_GetSign.f k s i) q ∧
    Ev (fun k => impl_cleanSign.f k s i) (if (putF q.1).toList = (s.extract i.toNat (i + q.2).toNat).toList then q else (-1, 0)) := by
  obtain ⟨q, q1, q4, ⟨qe, qn, qa⟩, e1, e2⟩ := sign_both s hs i h0 h1
  have hw : wrap64 (i + q.2) = i + q.2 := by unfold wrap64; omega
  refine ⟨q, q1, q4, ⟨qe, qn, qa⟩, e1, ?_⟩
  unfold impl_cleanSign.f
  refine Ev.ifn (by omega) (Ev.bind e2 (Ev.bind (Ev.up 1 (fun k => implPut_f k q.1)) (Ev.ifp h0 ?_)))
  rw [hw]
  refine Ev.ifp (by omega) (Ev.ifp (by omega) ?_)
  by_cases c : (putF q.1).toList = (s.extract i.toNat (i + q.2).toNat).toList
  · simp only [if_pos c]; exact Ev.now _
  · simp only [if_neg c]; exact Ev.now _
theorem clean_end (s : ByteArray) (k : Nat) : impl_cleanSign.f k s s.size = some (-1, 0) := by
  unfold impl_cleanSign.f
  rw [if_pos (Int.le_refl _)]
def letF (c : Int) : Bool := decide (97 ≤ c ∧ c ≤ 122) || decide (65 ≤ c ∧ c ≤ 90)
theorem implLetter_f (c : Int) : impl_IsLetter.f c = some (letF c) := by
  unfold impl_IsLetter.f letF
  rw [inRange_f, inRange_f]
  simp only [Option.bind_some]
  by_cases h : decide (97 ≤ c ∧ c ≤ 122) = true
  · rw [if_pos h, h]; rfl
  · rw [if_neg h, Bool.eq_false_iff.mpr h]; rfl
theorem specLetter_f (c : Int) : spec_IsLetter.f c = some (letF c) := by
  unfold spec_IsLetter.f letF
  rw [l1In_f, l1In_f]
  simp only [Option.bind_some]
  by_cases h : decide (97 ≤ c ∧ c ≤ 122) = true
  · rw [if_pos h, h]; rfl
  · rw [if_neg h, Bool.eq_false_iff.mpr h]; rfl
def flatP : List (Int × Int) → List Int
  | [] => []
  | p :: r => p.1 :: p.2 :: flatP r
theorem flatP_length : ∀ ps : List (Int × Int), (flatP ps).length = 2 * ps.length
  | [] => rfl
  | p :: r => by rw [flatP, List.length_cons, List.length_cons, flatP_length r, List.length_cons]; omega
theorem flatP_drop : ∀ (ps : List (Int × Int)) (j : Nat), (flatP ps).drop (2 * j) = flatP (ps.drop j)
  | ps, 0 => rfl
  | [], j + 1 => by simp [flatP]
  | p :: r, j + 1 => by
    rw [show 2 * (j + 1) = (2 * j + 1) + 1 by omega, flatP, List.drop_succ_cons, List.drop_succ_cons, flatP_drop r j]
    rfl
theorem within_l (n : Int) (ps : List (Int × Int)) (hl : ps.length ≤ 100) : ∀ (d j : Nat), ps.length - j = d → j ≤ ps.length → Ev (fun k => spec_l2Within.l0 k (flatP ps) n (2 * (j : Int))) (inSp n (ps.drop j)) := by
  intro d
  induction d with
  | zero =>
    intro j hd hj
    have hw : wrap64 (2 * (j : Int) + 1) = 2 * (j : Int) + 1 := by unfold wrap64; omega
    refine Ev.step (fun k => by simp only [spec_l2Within.l0]; rfl) ?_
    rw [hw, flatP_length, List.drop_of_length_le (by omega)]
    exact Ev.ifn (by omega) (Ev.now _)
  | succ d ih =>
    intro j hd hj
    have hlt : j < ps.length := by omega
    have hw : wrap64 (2 * (j : Int) + 1) = 2 * (j : Int) + 1 := by unfold wrap64; omega
    have hw2 : wrap64 (2 * (j : Int) + 2) = 2 * ((j + 1 : Nat) : Int) := by unfold wrap64; omega
    have hdr := flatP_drop ps j
    rw [List.drop_eq_getElem_cons hlt, flatP] at hdr
    have hfl := flatP_length ps
    have g0 : (flatP ps)[2 * j]'(by omega) = (ps[j]).1 := by
      have := congrArg (fun l => l[0]?) hdr
      simp only [List.getElem?_drop, Nat.add_zero, List.getElem?_cons_zero] at this
      exact (List.getElem?_eq_some_iff.1 this).2
    have g1 : (flatP ps)[2 * j + 1]'(by omega) = (ps[j]).2 := by
      have := congrArg (fun l => l[1]?) hdr
      simp only [List.getElem?_drop, List.getElem?_cons_succ, List.getElem?_cons_zero] at this
      exact (List.getElem?_eq_some_iff.1 this).2
    have r0 : rd (flatP ps) (2 * (j : Int)) = (ps[j]).1 := by
      rw [← g0]
      unfold rd
      rw [show (2 * (j : Int)).toNat = 2 * j by omega]
      simp [show 2 * j < (flatP ps).length by omega]
    have r1 : rd (flatP ps) (2 * (j : Int) + 1) = (ps[j]).2 := by
      rw [← g1]
      unfold rd
      rw [show (2 * (j : Int) + 1).toNat = 2 * j + 1 by omega]
      simp [show 2 * j + 1 < (flatP ps).length by omega]
    refine Ev.step (fun k => by simp only [spec_l2Within.l0]; rfl) ?_
    rw [hw, hw2, r0, r1, hfl, List.drop_eq_getElem_cons hlt, inSp]
    refine Ev.ifp (by omega) (Ev.ifp (by omega) (Ev.ifp (by omega) (Ev.ifp (by omega) (Ev.bindc (l1In_f _ _ _) ?_))))
    by_cases c : (ps[j]).1 ≤ n ∧ n ≤ (ps[j]).2
    · rw [decide_eq_true c, decide_eq_true c.1, decide_eq_true c.2]
      exact Ev.ifp rfl (Ev.now _)
    · rw [decide_eq_false c]
      have e0 : (decide ((ps[j]).1 ≤ n) && decide (n ≤ (ps[j]).2)) = false := by
        rw [Bool.and_eq_false_iff]
        by_cases c1 : (ps[j]).1 ≤ n
        · exact Or.inr (decide_eq_false (fun h => c ⟨c1, h⟩))
        · exact Or.inl (decide_eq_false c1)
      rw [e0, Bool.false_or]
      exact Ev.ifn (by simp) (ih (j + 1) (by omega) (by omega))
theorem ev_within (n : Int) (ps : List (Int × Int)) (hl : ps.length ≤ 100) : Ev (fun k => spec_l2Within.f k (flatP ps) n) (inSp n ps) := within_l n ps hl ps.length 0 (by omega) (by omega)
def firstF (n : Int) : Bool := if letF n = true then true else if n = 95 then true else inSp n firstSp
theorem implFirst_f (n : Int) : impl_IsFirst.f n = some (firstF n) := by
  unfold impl_IsFirst.f firstF
  rw [implLetter_f, Option.bind_some]
  split
  · rfl
  · split <;> rfl
theorem ev_specFirst (n : Int) : Ev (fun k => spec_IsFirst.f k n) (firstF n) := by
  unfold spec_IsFirst.f firstF
  refine Ev.bindc (specLetter_f n) ?_
  by_cases c1 : letF n = true
  · rw [if_pos c1]; exact Ev.ifp c1 (Ev.now _)
  rw [if_neg c1]
  refine Ev.ifn c1 ?_
  by_cases c2 : n = 95
  · rw [if_pos c2]; exact Ev.ifp c2 (Ev.now _)
  rw [if_neg c2]
  exact Ev.ifn c2 (Ev.bind (ev_within n firstSp (by decide)) (Ev.now _))
def nextF (n : Int) : Bool := if firstF n = true then true else inSp n nextSp
theorem implNext_f (n : Int) : impl_IsNext.f n = some (nextF n) := by
  unfold impl_IsNext.f nextF
  rw [implFirst_f, Option.bind_some]
  split <;> rfl
theorem ev_specNext (n : Int) : Ev (fun k => spec_IsNext.f k n) (nextF n) := by
  unfold spec_IsNext.f nextF
  refine Ev.bind (ev_specFirst n) ?_
  by_cases c1 : firstF n = true
  · rw [if_pos c1]; exact Ev.ifp c1 (Ev.now _)
  rw [if_neg c1]
  refine Ev.ifn c1 ?_
  by_cases c2 : n = 45
  · subst c2; exact Ev.ifp rfl (Ev.now _)
  refine Ev.ifn c2 ?_
  by_cases c3 : n = 46
  · subst c3; exact Ev.ifp rfl (Ev.now _)
  refine Ev.ifn c3 ?_
  by_cases c4 : n = 183
  · subst c4; exact Ev.ifp rfl (Ev.now _)
  refine Ev.ifn c4 (Ev.bind (ev_within n [(48, 57), (768, 879), (8255, 8256)] (by decide)) ?_)
  have e : inSp n nextSp = inSp n [(48, 57), (768, 879), (8255, 8256)] := by
    have e1 : (decide ((45 : Int) ≤ n) && decide (n ≤ 46)) = false := by
      rw [Bool.and_eq_false_iff]
      by_cases c : (45 : Int) ≤ n
      · exact Or.inr (decide_eq_false (by omega))
      · exact Or.inl (decide_eq_false c)
    have e2 : (decide ((183 : Int) ≤ n) && decide (n ≤ 183)) = false := by
      rw [Bool.and_eq_false_iff]
      by_cases c : (183 : Int) ≤ n
      · exact Or.inr (decide_eq_false (by omega))
      · exact Or.inl (decide_eq_false c)
    simp only [inSp, e1, e2, Bool.false_or]
  rw [e]
  exact Ev.now _
set_option maxHeartbeats 1000000 in
theorem name_l (s : ByteArray) (hs : s.size ≤ 1048576) (a : Int) (a0 : 0 ≤ a) : ∀ (d : Nat) (i : Int), ((s.size : Int) - i).toNat ≤ d → a ≤ i → i ≤ s.size →
    ∃ e : Int, i ≤ e ∧ e ≤ s.size ∧ Ev (fun k => spec_XmlName.l0 k s a i) (s.extract a.toNat e.toNat, e) ∧ Ev (fun k => impl_XmlName.l0 k s a i) (s.extract a.toNat e.toNat, e) := by
  intro d
  induction d with
  | zero =>
    intro i hd hai hi
    obtain rfl : i = (s.size : Int) := by omega
    refine ⟨s.size, Int.le_refl _, Int.le_refl _, ?_, ?_⟩
    · refine Ev.step (fun k => by simp only [spec_XmlName.l0]; rfl) (Ev.ifn (by omega) ?_)
      exact Ev.ifp a0 (Ev.ifp hai (Ev.ifp hi (Ev.now _)))
    · refine Ev.step (fun k => by simp only [impl_XmlName.l0]; rfl) (Ev.bind (Ev.up 0 (fun k => clean_end s k)) ?_)
      refine Ev.ifp (show (-1 : Int) < 0 by decide) ?_
      exact Ev.ifp a0 (Ev.ifp hai (Ev.ifp hi (Ev.now _)))
  | succ d ih =>
    intro i hd hai hi
    by_cases c0 : i = (s.size : Int)
    · exact ih i (by omega) hai hi
    have hlt : i < (s.size : Int) := by omega
    obtain ⟨q, q1, q4, ⟨qe, qn, qa⟩, e1, e2⟩ := clean_both s hs i (by omega) hlt
    have hw : wrap64 (i + q.2) = i + q.2 := by unfold wrap64; omega
    have fin1 : ∀ {g : Nat → Option (ByteArray × Int)}, True → Ev (fun k => if 0 ≤ a then (if a ≤ i then (if i ≤ (s.size : Int) then some (s.extract a.toNat i.toNat, i) else none) else none) else none) (s.extract a.toNat i.toNat, i) := fun _ => Ev.ifp a0 (Ev.ifp hai (Ev.ifp hi (Ev.now _)))
    by_cases cc : (putF q.1).toList = (s.extract i.toNat (i + q.2).toNat).toList
    · rw [if_pos cc] at e2
      by_cases cf : (i = a ∧ firstF q.1 = false) ∨ nextF q.1 = false
      · refine ⟨i, Int.le_refl _, hi, ?_, ?_⟩
        · refine Ev.step (fun k => by simp only [spec_XmlName.l0]; rfl) (Ev.ifp hlt (Ev.bind e1 ?_))
          by_cases ca : i = a
          · refine Ev.ifp ca (Ev.bind (ev_specFirst q.1) ?_)
            by_cases cq : firstF q.1 = true
            · refine Ev.ifp cq (Ev.bind (ev_specNext q.1) (Ev.ifn (by rcases cf with h | h; exact absurd cq (by rw [h.2]; simp); rw [h]; simp) (fin1 (g := fun _ => none) trivial)))
            · exact Ev.ifn cq (fin1 (g := fun _ => none) trivial)
          · refine Ev.ifn ca (Ev.bind (ev_specNext q.1) (Ev.ifn (by rcases cf with h | h; exact absurd h.1 ca; rw [h]; simp) (fin1 (g := fun _ => none) trivial)))
        · refine Ev.step (fun k => by simp only [impl_XmlName.l0]; rfl) (Ev.bind e2 ?_)
          refine Ev.ifn (by omega) ?_
          by_cases ca : i = a
          · refine Ev.ifp ca (Ev.bindc (implFirst_f q.1) ?_)
            by_cases cq : firstF q.1 = true
            · refine Ev.ifp cq (Ev.bindc (implNext_f q.1) (Ev.ifn (by rcases cf with h | h; exact absurd cq (by rw [h.2]; simp); rw [h]; simp) (fin1 (g := fun _ => none) trivial)))
            · exact Ev.ifn cq (fin1 (g := fun _ => none) trivial)
          · refine Ev.ifn ca (Ev.bindc (implNext_f q.1) (Ev.ifn (by rcases cf with h | h; exact absurd h.1 ca; rw [h]; simp) (fin1 (g := fun _ => none) trivial)))
      · obtain ⟨e, h1, h2, h3, h4⟩ := ih (i + q.2) (by omega) (by omega) (by omega)
        have cn : nextF q.1 = true := by
          cases h : nextF q.1 with
          | true => rfl
          | false => exact absurd (Or.inr h) cf
        have cq : i = a → firstF q.1 = true := fun hia => by
          cases h : firstF q.1 with
          | true => rfl
          | false => exact absurd (Or.inl ⟨hia, h⟩) cf
        refine ⟨e, by omega, h2, ?_, ?_⟩
        · refine Ev.step (fun k => by simp only [spec_XmlName.l0]; rfl) (Ev.ifp hlt (Ev.bind e1 ?_))
          rw [hw]
          by_cases ca : i = a
          · exact Ev.ifp ca (Ev.bind (ev_specFirst q.1) (Ev.ifp (cq ca) (Ev.bind (ev_specNext q.1) (Ev.ifp cn (Ev.bind (Ev.up 1 (fun k => specPut_f k q.1)) (Ev.ifp (by omega) (Ev.ifp (by omega) (Ev.ifp qe (Ev.ifp cc h3)))))))))
          · exact Ev.ifn ca (Ev.bind (ev_specNext q.1) (Ev.ifp cn (Ev.bind (Ev.up 1 (fun k => specPut_f k q.1)) (Ev.ifp (by omega) (Ev.ifp (by omega) (Ev.ifp qe (Ev.ifp cc h3)))))))
        · refine Ev.step (fun k => by simp only [impl_XmlName.l0]; rfl) (Ev.bind e2 ?_)
          refine Ev.ifn (by omega) ?_
          rw [hw]
          by_cases ca : i = a
          · exact Ev.ifp ca (Ev.bindc (implFirst_f q.1) (Ev.ifp (cq ca) (Ev.bindc (implNext_f q.1) (Ev.ifp cn h4))))
          · exact Ev.ifn ca (Ev.bindc (implNext_f q.1) (Ev.ifp cn h4))
    · rw [if_neg cc] at e2
      refine ⟨i, Int.le_refl _, hi, ?_, ?_⟩
      · refine Ev.step (fun k => by simp only [spec_XmlName.l0]; rfl) (Ev.ifp hlt (Ev.bind e1 ?_))
        rw [hw]
        have put : Ev (fun k => (spec_PutSign.f k q.1).bind fun t => (if 0 ≤ i then (if i ≤ i + q.2 then (if i + q.2 ≤ (s.size : Int) then (if t.toList = (s.extract i.toNat (i + q.2).toNat).toList then (spec_XmlName.l0 k s a (i + q.2)) else (if 0 ≤ a then (if a ≤ i then (if i ≤ (s.size : Int) then (some (s.extract a.toNat i.toNat, i)) else (none)) else (none)) else (none))) else (none)) else (none)) else (none))) (s.extract a.toNat i.toNat, i) :=
          Ev.bind (Ev.up 1 (fun k => specPut_f k q.1)) (Ev.ifp (by omega) (Ev.ifp (by omega) (Ev.ifp qe (Ev.ifn cc (fin1 (g := fun _ => none) trivial)))))
        have nx : Ev (fun k => (spec_IsNext.f k q.1).bind fun t => (if t = true then ((spec_PutSign.f k q.1).bind fun t => (if 0 ≤ i then (if i ≤ i + q.2 then (if i + q.2 ≤ (s.size : Int) then (if t.toList = (s.extract i.toNat (i + q.2).toNat).toList then (spec_XmlName.l0 k s a (i + q.2)) else (if 0 ≤ a then (if a ≤ i then (if i ≤ (s.size : Int) then (some (s.extract a.toNat i.toNat, i)) else (none)) else (none)) else (none))) else (none)) else (none)) else (none))) else (if 0 ≤ a then (if a ≤ i then (if i ≤ (s.size : Int) then (some (s.extract a.toNat i.toNat, i)) else (none)) else (none)) else (none)))) (s.extract a.toNat i.toNat, i) := by
          refine Ev.bind (ev_specNext q.1) ?_
          by_cases cn : nextF q.1 = true
          · exact Ev.ifp cn put
          · exact Ev.ifn cn (fin1 (g := fun _ => none) trivial)
        by_cases ca : i = a
        · refine Ev.ifp ca (Ev.bind (ev_specFirst q.1) ?_)
          by_cases cq : firstF q.1 = true
          · exact Ev.ifp cq nx
          · exact Ev.ifn cq (fin1 (g := fun _ => none) trivial)
        · exact Ev.ifn ca nx
      · refine Ev.step (fun k => by simp only [impl_XmlName.l0]; rfl) (Ev.bind e2 ?_)
        refine Ev.ifp (show (-1 : Int) < 0 by decide) ?_
        exact fin1 (g := fun _ => none) trivial
theorem name_both (s : ByteArray) (hs : s.size ≤ 1048576) (a : Int) (aw : (Lit.int .i64 a).wf = true) : ∃ q : ByteArray × Int, Ev (fun k => spec_XmlName.f k s a) q ∧ Ev (fun k => impl_XmlName.f k s a) q ∧ (q.1.toList = [] ∨ (0 ≤ q.2 ∧ q.2 ≤ s.size)) := by
  have hw : wrap64 ((s.size : Int) - 1) = (s.size : Int) - 1 := by unfold wrap64; omega
  have nil : (⟨#[]⟩ : ByteArray).toList = [] := by rw [Lib.toList_data]
  have impl0 : ¬ (0 ≤ a ∧ a ≤ (s.size : Int) - 1) → Ev (fun k => impl_XmlName.f k s a) (⟨#[]⟩, a) := fun h => by
    unfold impl_XmlName.f
    rw [hw]
    refine Ev.bindc (inRange_f _ _ _) ?_
    rw [decide_eq_false h]
    exact Ev.ifn (by simp) (Ev.now _)
  by_cases c1 : a < 0
  · refine ⟨(⟨#[]⟩, a), ?_, impl0 (by omega), .inl nil⟩
    unfold spec_XmlName.f
    refine Ev.ifp c1 (Ev.step (fun k => by simp only [spec_XmlName.j0]; rfl) ?_)
    exact Ev.ifp trivial (Ev.now _)
  by_cases c2 : a > (s.size : Int)
  · refine ⟨(⟨#[]⟩, a), ?_, impl0 (by omega), .inl nil⟩
    unfold spec_XmlName.f
    refine Ev.ifn c1 ?_
    rw [decide_eq_true c2]
    refine Ev.step (fun k => by simp only [spec_XmlName.j0]; rfl) ?_
    exact Ev.ifp trivial (Ev.now _)
  have spec0 : ∀ {q : ByteArray × Int}, Ev (fun k => spec_XmlName.l0 k s a a) q → Ev (fun k => spec_XmlName.f k s a) q := fun h => by
    unfold spec_XmlName.f
    refine Ev.ifn c1 ?_
    rw [decide_eq_false c2]
    refine Ev.step (fun k => by simp only [spec_XmlName.j0]; rfl) ?_
    exact Ev.ifn (by simp) h
  by_cases c3 : a = (s.size : Int)
  · refine ⟨(⟨#[]⟩, a), spec0 ?_, impl0 (by omega), .inl nil⟩
    subst c3
    have e : s.extract (s.size : Int).toNat (s.size : Int).toNat = (⟨#[]⟩ : ByteArray) := by
      apply ByteArray.ext
      simp
    refine Ev.step (fun k => by simp only [spec_XmlName.l0]; rfl) (Ev.ifn (by omega) (Ev.ifp (by omega) (Ev.ifp (by omega) (Ev.ifp (by omega) ?_))))
    rw [e]
    exact Ev.now _
  obtain ⟨e, h1, h2, h3, h4⟩ := name_l s hs a (by omega) _ a (Nat.le_refl _) (Int.le_refl _) (by omega)
  refine ⟨_, spec0 h3, ?_, .inr ⟨by show 0 ≤ e; omega, h2⟩⟩
  unfold impl_XmlName.f
  rw [hw]
  refine Ev.bindc (inRange_f _ _ _) ?_
  rw [decide_eq_true (show 0 ≤ a ∧ a ≤ (s.size : Int) - 1 by omega)]
  exact Ev.ifp rfl h4
def isT (n : Int) : Bool := if n = 9 then true else if n = 10 then true else if n = 13 then true else if signOk n = true then (if n ≥ 32 then (if n = 65534 then false else n != 65535) else false) else false
theorem implIsT (n : Int) : impl_IsText.f n = some (isT n) := by
  unfold impl_IsText.f isT
  rw [implSignOk_f, Option.bind_some]
  repeat' split
  all_goals rfl
theorem specIsT (n : Int) : spec_IsText.f n = some (isT n) := by
  rw [← implIsT]
  unfold spec_IsText.f impl_IsText.f
  rw [specSignOk_f, implSignOk_f]
theorem isT_nn {n : Int} (h : isT n = true) : 0 < n := by
  unfold isT at h
  split at h
  · omega
  · split at h
    · omega
    · split at h
      · omega
      · split at h
        · split at h
          · omega
          · cases h
        · cases h
theorem digitVal_some {b : UInt8} {d : Nat} (h : Lib.digitVal b = some d) : 48 ≤ b.toNat ∧ b.toNat ≤ 57 ∧ d = b.toNat - 48 := by
  unfold Lib.digitVal at h
  split at h
  · rename_i hh; cases h; exact ⟨hh.1, hh.2, rfl⟩
  · cases h
theorem decDigits_ok : ∀ (n : Nat), 0 < n → Lib.decFrom 0 (Lib.decDigits n) = some n ∧ (Lib.decDigits n)[0]? ≠ some 48 ∧ Lib.decDigits n ≠ [] := by
  intro n
  induction n using Nat.strongRecOn with
  | _ n ih =>
    intro hn
    rw [Lib.decDigits]
    split
    · rename_i h10
      have hv : Lib.digitVal (UInt8.ofNat (48 + n)) = some n := by
        have : (UInt8.ofNat (48 + n)).toNat = 48 + n := by simp; omega
        unfold Lib.digitVal
        rw [this, if_pos (by omega)]
        congr 1; omega
      refine ⟨?_, ?_, by simp⟩
      · rw [Lib.decFrom, hv]
        show Lib.decFrom (0 * 10 + n) [] = some n
        rw [Lib.decFrom]
        congr 1; omega
      · intro h
        have h' := Option.some.inj h
        have := congrArg UInt8.toNat h'
        simp at this
        omega
    · rename_i h10
      obtain ⟨i1, i2, i3⟩ := ih (n / 10) (by omega) (by omega)
      have hv : Lib.digitVal (UInt8.ofNat (48 + n % 10)) = some (n % 10) := by
        have : (UInt8.ofNat (48 + n % 10)).toNat = 48 + n % 10 := by simp; omega
        unfold Lib.digitVal
        rw [this, if_pos (by omega)]
        congr 1; omega
      refine ⟨?_, ?_, by simp⟩
      · have := Lib.decFrom_take (Lib.decDigits (n / 10) ++ [UInt8.ofNat (48 + n % 10)]) (Lib.decDigits (n / 10)).length 0 (n / 10) (UInt8.ofNat (48 + n % 10)) (n % 10) (by rw [List.take_left']; exact i1; rfl) (by simp) hv
        rw [List.take_of_length_le (by simp)] at this
        rw [this]
        congr 1; omega
      · rw [List.getElem?_append_left (by exact List.length_pos_iff.mpr i3)]
        exact i2
theorem decFrom_snoc (l : List UInt8) (b : UInt8) (acc n : Nat) (h : Lib.decFrom acc (l ++ [b]) = some n) : ∃ m d, Lib.decFrom acc l = some m ∧ Lib.digitVal b = some d ∧ n = m * 10 + d := by
  induction l generalizing acc with
  | nil =>
    rw [List.nil_append, Lib.decFrom] at h
    cases hd : Lib.digitVal b with
    | none => rw [hd] at h; cases h
    | some d => rw [hd] at h; exact ⟨acc, d, rfl, rfl, (Option.some.inj h).symm⟩
  | cons c l ih =>
    rw [List.cons_append, Lib.decFrom] at h
    rw [Lib.decFrom]
    cases hd : Lib.digitVal c with
    | none => rw [hd] at h; cases h
    | some d => rw [hd] at h; exact ih _ h
theorem decDigits_canon : ∀ (r : List UInt8) (n : Nat), r ≠ [] → r.reverse[0]? ≠ some 48 → Lib.decFrom 0 r.reverse = some n → Lib.decDigits n = r.reverse
  | [], _, h, _, _ => absurd rfl h
  | [b], n, _, h48, h => by
    rw [List.reverse_cons, List.reverse_nil] at h h48 ⊢
    obtain ⟨m, d, e1, e2, rfl⟩ := decFrom_snoc [] b 0 n h
    obtain rfl : 0 = m := Option.some.inj e1
    obtain ⟨h1, h2, rfl⟩ := digitVal_some e2
    rw [Lib.decDigits, dif_pos (by omega)]
    congr 1
    apply UInt8.toNat_inj.mp
    simp
    omega
  | b :: c :: r, n, _, h48, h => by
    rw [List.reverse_cons] at h h48 ⊢
    obtain ⟨m, d, e1, e2, rfl⟩ := decFrom_snoc _ b 0 n h
    have hl : (c :: r).reverse ≠ [] := by simp
    have hh : (c :: r).reverse[0]? ≠ some 48 := by
      rw [List.getElem?_append_left (by exact List.length_pos_iff.mpr hl)] at h48
      exact h48
    have ih := decDigits_canon (c :: r) m (by simp) hh e1
    obtain ⟨h1, h2, rfl⟩ := digitVal_some e2
    have hm : m ≠ 0 := by
      rintro rfl
      rw [← ih] at hh
      exact hh (by rw [Lib.decDigits, dif_pos (by omega)]; rfl)
    rw [Lib.decDigits, dif_neg (by omega), show (m * 10 + (b.toNat - 48)) / 10 = m by omega, ih]
    congr 2
    apply UInt8.toNat_inj.mp
    simp
    omega
theorem canon {l : List UInt8} {n : Nat} (h0 : l ≠ []) (h48 : l[0]? ≠ some 48) (h : Lib.decFrom 0 l = some n) : Lib.decDigits n = l := by
  have := decDigits_canon l.reverse n (by simpa using h0) (by simpa using h48) (by simpa using h)
  simpa using this
theorem atoi_canon {l : List UInt8} {n : Nat} (h0 : l ≠ []) (h48 : l[0]? ≠ some 48) (h : Lib.decFrom 0 l = some n) : Lib.atoi l = some (n : Int) ∧ Lib.itoa (n : Int) = l ∧ n ≠ 0 := by
  have hc := canon h0 h48 h
  refine ⟨?_, ?_, ?_⟩
  · cases l with
    | nil => exact absurd rfl h0
    | cons b r =>
      obtain ⟨d, hd⟩ := Lib.digit_of_decFrom _ _ _ h 0 b rfl
      obtain ⟨h1, h2, _⟩ := digitVal_some hd
      have n1 : (b == 45) = false := beq_eq_false_iff_ne.mpr (fun e => by subst e; exact absurd h1 (by decide))
      have n2 : (b == 43) = false := beq_eq_false_iff_ne.mpr (fun e => by subst e; exact absurd h1 (by decide))
      rw [Lib.atoi, n1, n2]
      simp [Lib.decNat, h]
  · unfold Lib.itoa
    rw [if_neg (by omega)]
    simpa using hc
  · rintro rfl
    rw [← hc] at h48
    exact h48 (by rw [Lib.decDigits, dif_pos (by omega)]; rfl)
theorem itoa_pos {l : List UInt8} {n : Int} (h : Lib.itoa n = l) (hn : 0 < n) : Lib.decFrom 0 l = some n.toNat ∧ l[0]? ≠ some 48 ∧ l ≠ [] := by
  unfold Lib.itoa at h
  rw [if_neg (by omega)] at h
  rw [← h]
  exact decDigits_ok _ (by omega)
def standsAt (s : ByteArray) (p : Int) (nm : ByteArray) : Prop := p + nm.size ≤ s.size ∧ (s.extract p.toNat (p + nm.size).toNat).toList = nm.toList
instance (s : ByteArray) (p : Int) (nm : ByteArray) : Decidable (standsAt s p nm) := by unfold standsAt; infer_instance
theorem hasPrefix0_f (s : ByteArray) (p : Int) (nm : ByteArray) (h0 : 0 ≤ p) (hp : p ≤ s.size) : stringslite_HasPrefix.f (s.extract p.toNat s.size) nm = some (decide (standsAt s p nm)) := by
  unfold stringslite_HasPrefix.f
  have hsz : (s.extract p.toNat s.size).size = s.size - p.toNat := by rw [ByteArray.size_extract]; omega
  rw [hsz]
  by_cases c : p + nm.size ≤ s.size
  · have hx : (s.extract p.toNat s.size).extract 0 ((nm.size : Int)).toNat = s.extract p.toNat (p + nm.size).toNat := by
      rw [ByteArray.extract_extract]
      congr 1
      omega
    rw [if_pos (by omega), if_pos (by omega), if_pos (by omega), hx]
    congr 1
    by_cases h : (s.extract p.toNat (p + nm.size).toNat).toList = nm.toList
    · rw [decide_eq_true (show standsAt s p nm from ⟨c, h⟩)]; exact beq_iff_eq.mpr h
    · rw [decide_eq_false (show ¬ standsAt s p nm from fun hh => h hh.2)]; exact beq_eq_false_iff_ne.mpr h
  · rw [if_neg (by omega), decide_eq_false (show ¬ standsAt s p nm from fun hh => c hh.1)]
theorem hasPrefix_f (s : ByteArray) (p : Int) (nm : ByteArray) (h0 : 0 ≤ p) (hp : p ≤ s.size) : strings_HasPrefix.f (s.extract p.toNat s.size) nm = some (decide (standsAt s p nm)) := by
  unfold strings_HasPrefix.f
  rw [hasPrefix0_f s p nm h0 hp, Option.bind_some]
theorem stands_f (s : ByteArray) (hs : s.size ≤ 1048576) (p : Int) (nm : ByteArray) (hn : nm.size ≤ 1048576) (h0 : 0 ≤ p) (hp : p ≤ s.size) : spec_l5Stands.f s p nm = some (decide (standsAt s p nm)) := by
  unfold spec_l5Stands.f
  have hw : wrap64 (p + (nm.size : Int)) = p + nm.size := by unfold wrap64; omega
  rw [hw]
  by_cases c : p + nm.size ≤ s.size
  · rw [if_pos c, if_pos h0, if_pos (by omega)]
    congr 1
    by_cases h : (s.extract p.toNat (p + nm.size).toNat).toList = nm.toList
    · rw [decide_eq_true (show standsAt s p nm from ⟨c, h⟩)]; exact beq_iff_eq.mpr h
    · rw [decide_eq_false (show ¬ standsAt s p nm from fun hh => h hh.2)]; exact beq_eq_false_iff_ne.mpr h
  · rw [if_neg c, decide_eq_false (show ¬ standsAt s p nm from fun hh => c hh.1)]
theorem cut_f (s : ByteArray) (p : Int) (nm : ByteArray) (h0 : 0 ≤ p) (hp : p ≤ s.size) : strings_CutPrefix.f (s.extract p.toNat s.size) nm = some (if standsAt s p nm then (s.extract (p + nm.size).toNat s.size, true) else (s.extract p.toNat s.size, false)) := by
  unfold strings_CutPrefix.f stringslite_CutPrefix.f
  rw [hasPrefix0_f s p nm h0 hp, Option.bind_some]
  by_cases c : standsAt s p nm
  · have hsz : (s.extract p.toNat s.size).size = s.size - p.toNat := by rw [ByteArray.size_extract]; omega
    have h1 := c.1
    have hx : (s.extract p.toNat s.size).extract ((nm.size : Int)).toNat (s.size - p.toNat) = s.extract (p + nm.size).toNat s.size := by
      rw [ByteArray.extract_extract]
      congr 1
      · omega
      · omega
    rw [decide_eq_true c, if_pos rfl, if_pos (by omega), hsz, if_pos (by omega), Option.bind_some, if_pos c, hx]
  · rw [decide_eq_false c, if_neg (by simp), Option.bind_some, if_neg c]
theorem bt_list (s : ByteArray) (p : Int) (h0 : 0 ≤ p) (h1 : p < (s.size : Int)) : ∃ b : UInt8, s.data.toList[p.toNat]? = some b ∧ bt s p = (b.toNat : Int) := by
  have h : p.toNat < s.size := by omega
  refine ⟨s[p.toNat]'h, Lib.data_getElem? s p.toNat h, ?_⟩
  unfold bt
  rw [dif_pos h]
theorem stands_bt {s : ByteArray} {p : Int} {nm : ByteArray} (h : standsAt s p nm) (p0 : 0 ≤ p) (j : Nat) (hj : j < nm.size) : ∃ b : UInt8, nm.data.toList[j]? = some b ∧ bt s (p + j) = (b.toNat : Int) := by
  obtain ⟨h1, h2⟩ := h
  obtain ⟨b, e1, e2⟩ := bt_list s (p + j) (by omega) (by omega)
  refine ⟨b, ?_, e2⟩
  rw [Lib.toList_data, Lib.toList_data] at h2
  rw [← h2, ByteArray.data_extract, Array.toList_extract, List.extract_eq_take_drop, List.getElem?_take, if_pos (by omega), List.getElem?_drop, show p.toNat + j = (p + j).toNat by omega]
  exact e1
abbrev numL (s : ByteArray) (a : Int) : List UInt8 := s.data.toList.drop (a + 2).toNat
def NumP (L : List UInt8) (e v : Nat) : Prop := 1 ≤ e ∧ e ≤ 7 ∧ L[e]? = some 59 ∧ L[0]? ≠ some 48 ∧ Lib.decFrom 0 (L.take e) = some v
def NumRes (L : List UInt8) (a : Int) (q : Int × Int) : Prop := (∃ e v : Nat, NumP L e v ∧ isT v = true ∧ q = ((v : Int), a + 2 + e)) ∨ ((∀ e v : Nat, NumP L e v → isT v = false) ∧ q = (0, -1))
theorem numL_at (s : ByteArray) (a : Int) (a0 : 0 ≤ a) (j : Nat) : (a + 2 + j < (s.size : Int) → ∃ b : UInt8, (numL s a)[j]? = some b ∧ bt s (a + 2 + j) = (b.toNat : Int)) ∧ (¬ a + 2 + j < (s.size : Int) → (numL s a)[j]? = none) := by
  refine ⟨fun h => ?_, fun h => ?_⟩
  · obtain ⟨b, e1, e2⟩ := bt_list s (a + 2 + j) (by omega) h
    refine ⟨b, ?_, e2⟩
    rw [List.getElem?_drop, show (a + 2).toNat + j = (a + 2 + j).toNat by omega]
    exact e1
  · rw [List.getElem?_drop]
    apply List.getElem?_eq_none
    have := Lib.size_eq s
    omega
theorem num_uniq {L : List UInt8} {j v e v' : Nat} (h7 : j ≤ 7) (hv : Lib.decFrom 0 (L.take j) = some v) (hst : j < 7 → ∀ b, L[j]? = some b → Lib.digitVal b = none) (h : NumP L e v') : e = j ∧ v' = v := by
  obtain ⟨p1, p2, p3, p4, p5⟩ := h
  have hej : e = j := by
    by_cases c : e < j
    · obtain ⟨d, hd⟩ := Lib.digit_of_decFrom _ _ _ hv e 59 (by rw [List.getElem?_take, if_pos c]; exact p3)
      exact absurd hd (by simp [Lib.digitVal])
    · by_cases c2 : j < e
      · have he : e < L.length := (List.getElem?_eq_some_iff.1 p3).1
        have hL : L[j]? = some (L[j]'(by omega)) := List.getElem?_eq_getElem (by omega)
        obtain ⟨d, hd⟩ := Lib.digit_of_decFrom _ _ _ p5 j _ (by rw [List.getElem?_take, if_pos c2]; exact hL)
        rw [hst (by omega) _ hL] at hd
        cases hd
      · omega
  subst hej
  rw [hv] at p5
  exact ⟨rfl, (Option.some.inj p5).symm⟩
def numV (s : ByteArray) (a : Int) (j v : Nat) : Int × Int := if j = 0 then (0, -1) else if bt s (a + 2) = 48 then (0, -1) else if (s.size : Int) ≤ a + 2 + j then (0, -1) else if bt s (a + 2 + j) = 59 then (if isT v = true then ((v : Int), a + 2 + j) else (0, -1)) else (0, -1)
theorem num_stop (s : ByteArray) (a : Int) (a0 : 0 ≤ a) (j v : Nat) (h7 : j ≤ 7) (hj : a + 2 + j ≤ s.size) (hv : Lib.decFrom 0 ((numL s a).take j) = some v) (hst : j < 7 → ∀ b, (numL s a)[j]? = some b → Lib.digitVal b = none) : NumRes (numL s a) a (numV s a j v) := by
  have un := fun e v' => @num_uniq (numL s a) j v e v' h7 hv hst
  unfold numV
  by_cases c0 : j = 0
  · rw [if_pos c0]
    exact .inr ⟨fun e v' h => by have := un e v' h; have := h.1; omega, rfl⟩
  rw [if_neg c0]
  have hL0 := (numL_at s a a0 0).1 (by omega)
  obtain ⟨b0, hb0, hb0'⟩ := hL0
  rw [show a + 2 + ((0 : Nat) : Int) = a + 2 by omega] at hb0'
  by_cases c1 : bt s (a + 2) = 48
  · rw [if_pos c1]
    refine .inr ⟨fun e v' h => absurd ?_ h.2.2.2.1, rfl⟩
    rw [hb0]
    congr 1
    apply UInt8.toNat_inj.mp
    show b0.toNat = 48
    omega
  rw [if_neg c1]
  by_cases c2 : (s.size : Int) ≤ a + 2 + j
  · rw [if_pos c2]
    refine .inr ⟨fun e v' h => ?_, rfl⟩
    obtain ⟨rfl, _⟩ := un e v' h
    have := h.2.2.1
    rw [(numL_at s a a0 e).2 (by omega)] at this
    cases this
  rw [if_neg c2]
  obtain ⟨b, hb, hb'⟩ := (numL_at s a a0 j).1 (by omega)
  by_cases c3 : bt s (a + 2 + j) = 59
  · rw [if_pos c3]
    have hb59 : b = 59 := by
      apply UInt8.toNat_inj.mp
      show b.toNat = 59
      omega
    have hP : NumP (numL s a) j v := by
      refine ⟨by omega, h7, by rw [hb, hb59], fun h => c1 ?_, hv⟩
      rw [hb0] at h
      obtain rfl := Option.some.inj h
      exact hb0'
    by_cases c4 : isT v = true
    · rw [if_pos c4]
      exact .inl ⟨j, v, hP, c4, rfl⟩
    · rw [if_neg c4]
      refine .inr ⟨fun e v' h => ?_, rfl⟩
      obtain ⟨rfl, rfl⟩ := un e v' h
      exact Bool.eq_false_iff.mpr c4
  · rw [if_neg c3]
    refine .inr ⟨fun e v' h => ?_, rfl⟩
    obtain ⟨rfl, _⟩ := un e v' h
    have h5 := h.2.2.1
    rw [hb] at h5
    obtain rfl := Option.some.inj h5
    exact absurd hb' c3
def dig (b : Int) : Int := if 48 ≤ b ∧ b ≤ 57 then b - 48 else -1
theorem dig_tab : ∀ b : Nat, b < 256 → spec_l3Digit.f 3 (b : Int) false = some (dig b) := by decide +kernel
theorem ev_dig (b : Int) (h0 : 0 ≤ b) (h1 : b ≤ 255) : Ev (fun k => spec_l3Digit.f k b false) (dig b) := by
  have := dig_tab b.toNat (by omega)
  rw [show ((b.toNat : Nat) : Int) = b by omega] at this
  exact Ev.of (spec_l3Digit.mono b false) (k := 3) this
section
variable {s : ByteArray} {a : Int} {j v : Nat}
theorem numV_0 (h : j = 0) : numV s a j v = (0, -1) := by unfold numV; rw [if_pos h]
theorem numV_48 (h : j ≠ 0) (h1 : bt s (a + 2) = 48) : numV s a j v = (0, -1) := by unfold numV; rw [if_neg h, if_pos h1]
theorem numV_end (h : j ≠ 0) (h1 : ¬ bt s (a + 2) = 48) (h2 : (s.size : Int) ≤ a + 2 + j) : numV s a j v = (0, -1) := by unfold numV; rw [if_neg h, if_neg h1, if_pos h2]
theorem numV_59 (h : j ≠ 0) (h1 : ¬ bt s (a + 2) = 48) (h2 : ¬ (s.size : Int) ≤ a + 2 + j) (h3 : ¬ bt s (a + 2 + j) = 59) : numV s a j v = (0, -1) := by unfold numV; rw [if_neg h, if_neg h1, if_neg h2, if_neg h3]
theorem numV_bad (h : j ≠ 0) (h1 : ¬ bt s (a + 2) = 48) (h2 : ¬ (s.size : Int) ≤ a + 2 + j) (h3 : bt s (a + 2 + j) = 59) (h4 : ¬ isT v = true) : numV s a j v = (0, -1) := by unfold numV; rw [if_neg h, if_neg h1, if_neg h2, if_pos h3, if_neg h4]
theorem numV_yes (h : j ≠ 0) (h1 : ¬ bt s (a + 2) = 48) (h2 : ¬ (s.size : Int) ≤ a + 2 + j) (h3 : bt s (a + 2 + j) = 59) (h4 : isT v = true) : numV s a j v = ((v : Int), a + 2 + j) := by unfold numV; rw [if_neg h, if_neg h1, if_neg h2, if_pos h3, if_pos h4]
end
theorem num_fin (s : ByteArray) (a : Int) (a0 : 0 ≤ a) (j v : Nat) (hj : a + 2 + j < s.size) :
    Ev (fun _ : Nat => if a + 2 + (j : Int) = a + 2 then some ((0 : Int), (-1 : Int)) else if 0 ≤ a + 2 then (if a + 2 < (s.size : Int) then (if bt s (a + 2) = 48 then some (0, -1) else (if a + 2 + (j : Int) ≥ (s.size : Int) then some (0, -1) else (if bt s (a + 2 + j) = 59 then (spec_IsText.f v).bind fun t => (if t = true then some ((v : Int), a + 2 + (j : Int)) else some (0, -1)) else some (0, -1)))) else none) else none) (numV s a j v) := by
  by_cases c0 : j = 0
  · rw [numV_0 c0]
    exact Ev.ifp (by omega) (Ev.now _)
  refine Ev.ifn (by omega) ?_
  refine Ev.ifp (by omega) ?_
  refine Ev.ifp (by omega) ?_
  by_cases c1 : bt s (a + 2) = 48
  · rw [numV_48 c0 c1]; exact Ev.ifp c1 (Ev.now _)
  refine Ev.ifn c1 ?_
  refine Ev.ifn (by omega) ?_
  by_cases c3 : bt s (a + 2 + j) = 59
  · refine Ev.ifp c3 ?_
    refine Ev.bindc (specIsT v) ?_
    by_cases c4 : isT v = true
    · rw [numV_yes c0 c1 (by omega) c3 c4]; exact Ev.ifp c4 (Ev.now _)
    · rw [numV_bad c0 c1 (by omega) c3 c4]; exact Ev.ifn c4 (Ev.now _)
  · rw [numV_59 c0 c1 (by omega) c3]; exact Ev.ifn c3 (Ev.now _)
theorem num_fin2 (s : ByteArray) (a : Int) (a0 : 0 ≤ a) (a2 : a + 2 ≤ s.size) (j v : Nat) (hj : ¬ a + 2 + j < s.size) (hj2 : a + 2 + j ≤ s.size) (X : Nat → Option (Int × Int)) :
    Ev (fun k : Nat => if a + 2 + (j : Int) = a + 2 then some ((0 : Int), (-1 : Int)) else if 0 ≤ a + 2 then (if a + 2 < (s.size : Int) then (if bt s (a + 2) = 48 then some (0, -1) else (if a + 2 + (j : Int) ≥ (s.size : Int) then some (0, -1) else X k)) else none) else none) (numV s a j v) := by
  by_cases c0 : j = 0
  · rw [numV_0 c0]
    exact Ev.ifp (by omega) (Ev.now _)
  refine Ev.ifn (by omega) ?_
  refine Ev.ifp (by omega) ?_
  refine Ev.ifp (by omega) ?_
  by_cases c1 : bt s (a + 2) = 48
  · rw [numV_48 c0 c1]; exact Ev.ifp c1 (Ev.now _)
  refine Ev.ifn c1 ?_
  rw [numV_end c0 c1 (by omega)]
  exact Ev.ifp (by omega) (Ev.now _)
theorem num_l (s : ByteArray) (hs : s.size ≤ 1048576) (a : Int) (a0 : 0 ≤ a) (a2 : a + 2 ≤ s.size) : ∀ (d j v : Nat), 7 - j = d → j ≤ 7 → a + 2 + j ≤ s.size → Lib.decFrom 0 ((numL s a).take j) = some v → ∃ q, Ev (fun k => spec_l18Number.l0 k s a v (a + 2 + j)) q ∧ NumRes (numL s a) a q := by
  have hw9 : wrap64 (a + 9) = a + 9 := by unfold wrap64; omega
  have hw2 : wrap64 (a + 2) = a + 2 := by unfold wrap64; omega
  intro d
  induction d with
  | zero =>
    intro j v hd h7 hj hv
    refine ⟨_, ?_, num_stop s a a0 j v h7 hj hv (fun h => absurd h (by omega))⟩
    refine Ev.step (fun k => by simp only [spec_l18Number.l0]; rfl) ?_
    rw [hw9, hw2]
    by_cases c : a + 2 + (j : Int) < s.size
    · refine Ev.ifp c ?_
      refine Ev.ifn (by omega) ?_
      refine Ev.congr (fun k => ?_) (num_fin s a a0 j v c)
      simp only [show (0 : Int) ≤ a + 2 + (j : Int) by omega, if_true]
    · refine Ev.ifn c ?_
      exact num_fin2 s a a0 a2 j v c hj _
  | succ d ih =>
    intro j v hd h7 hj hv
    by_cases c : a + 2 + (j : Int) < s.size
    · obtain ⟨b, hb, hb'⟩ := (numL_at s a a0 j).1 c
      have hb255 := bt_range s (a + 2 + j)
      by_cases cd : 0 ≤ dig (bt s (a + 2 + j))
      · have cd' : 48 ≤ bt s (a + 2 + j) ∧ bt s (a + 2 + j) ≤ 57 := by
          unfold dig at cd
          split at cd
          · assumption
          · omega
        have hdv : Lib.digitVal b = some (b.toNat - 48) := by unfold Lib.digitVal; rw [if_pos (by omega)]
        have hv2 := Lib.decFrom_take _ _ _ _ _ _ hv hb hdv
        have hlt := Lib.decFrom_lt _ _ _ hv
        have hlen : ((numL s a).take j).length ≤ 6 := by rw [List.length_take]; omega
        have hp : 10 ^ ((numL s a).take j).length ≤ 10 ^ 6 := Nat.pow_le_pow_right (by omega) hlen
        have hv6 : v < 1000000 := by
          have h6 : (10 : Nat) ^ 6 = 1000000 := by decide
          rw [h6] at hp
          omega
        clear hp hlt hlen
        obtain ⟨q, e1, e2⟩ := ih (j + 1) (v * 10 + (b.toNat - 48)) (by omega) (by omega) (by omega) hv2
        refine ⟨q, ?_, e2⟩
        refine Ev.step (fun k => by simp only [spec_l18Number.l0]; rfl) ?_
        rw [hw9, hw2]
        refine Ev.ifp c ?_
        refine Ev.ifp (by omega) ?_
        refine Ev.ifp (by omega) ?_
        refine Ev.bind (ev_dig _ hb255.1 hb255.2) ?_
        refine Ev.ifp cd ?_
        have wv : ∀ m : Int, 0 ≤ m → m ≤ 100000000 → wrap64 m = m := fun m _ _ => by unfold wrap64; omega
        rw [wv (10 * (v : Int)) (by omega) (by omega), wv (bt s (a + 2 + j)) hb255.1 (by omega), wv (10 * (v : Int) + bt s (a + 2 + j)) (by omega) (by omega), wv (10 * (v : Int) + bt s (a + 2 + j) - 48) (by omega) (by omega), show 10 * (v : Int) + bt s (a + 2 + j) - 48 = ((v * 10 + (b.toNat - 48) : Nat) : Int) by omega, show wrap64 (a + 2 + (j : Int) + 1) = a + 2 + ((j + 1 : Nat) : Int) by unfold wrap64; omega]
        exact e1
      · refine ⟨_, ?_, num_stop s a a0 j v h7 hj hv (fun _ b' hb2 => ?_)⟩
        · refine Ev.step (fun k => by simp only [spec_l18Number.l0]; rfl) ?_
          rw [hw9, hw2]
          refine Ev.ifp c ?_
          refine Ev.ifp (by omega) ?_
          refine Ev.ifp (by omega) ?_
          refine Ev.bind (ev_dig _ hb255.1 hb255.2) ?_
          refine Ev.ifn cd ?_
          exact num_fin s a a0 j v c
        · rw [hb] at hb2
          obtain rfl := Option.some.inj hb2
          unfold Lib.digitVal
          rw [if_neg (fun h => cd (by unfold dig; rw [if_pos (by omega)]; omega))]
    · refine ⟨_, ?_, num_stop s a a0 j v h7 hj hv (fun _ b' hb2 => ?_)⟩
      · refine Ev.step (fun k => by simp only [spec_l18Number.l0]; rfl) ?_
        rw [hw9, hw2]
        refine Ev.ifn c ?_
        exact num_fin2 s a a0 a2 j v c hj _
      · rw [(numL_at s a a0 j).2 c] at hb2
        cases hb2
end Go.Proofs.YtkmmoheeoblmnaaGreatDoor.A
namespace Go.Proofs.YtkmmoheeoblmnaaGreatDoor.A
open Go.RowKit Go.Proofs.YtkmmoheeoblmnaaGreatDoorW.PrintWords Go.Proofs.YtkmmoheeoblmnaaGreatDoorW.PrintLast Go.Proofs.YtkmmoheeoblmnaaGreatDoorW.PrintMore
set_option linter.unusedVariables false
theorem index_eq {l : List UInt8} {c : UInt8} {e : Nat} (h : l[e]? = some c) (hn : ∀ k, k < e → l[k]? ≠ some c) : Lib.indexByte l c = (e : Int) := by
  have hge := Lib.indexByte_ge l c
  by_cases h1 : Lib.indexByte l c = -1
  · exact absurd h (Lib.indexByte_none h1 e)
  · obtain ⟨o, ho⟩ : ∃ o : Nat, Lib.indexByte l c = (o : Int) := ⟨(Lib.indexByte l c).toNat, by omega⟩
    obtain ⟨h2, h3⟩ := Lib.indexByte_some ho
    have : o = e := by
      by_cases c1 : o < e
      · exact absurd h2 (hn o c1)
      · by_cases c2 : e < o
        · exact absurd h (h3 e c2)
        · omega
    rw [ho, this]
theorem impl_num (s : ByteArray) (hs : s.size ≤ 1048576) (a : Int) (a0 : 0 ≤ a) (a2 : a + 2 ≤ s.size) (q : Int × Int) (hq : NumRes (numL s a) a q) :
    Ev (fun k => (strings_IndexByte.f (s.extract (a + 2).toNat s.size) 59).bind fun e => (if 1 ≤ e ∧ e ≤ 7 then (if e ≤ ((s.extract (a + 2).toNat s.size).size : Int) then xrN k a e ((s.extract (a + 2).toNat s.size).extract 0 e.toNat) else none) else some (⟨#[]⟩, -1))) (if q.2 < 0 then (⟨#[]⟩, -1) else (putF q.1, q.2 + 1)) := by
  have hL : (s.extract (a + 2).toNat s.size).data.toList = numL s a := by
    rw [ByteArray.data_extract, Array.toList_extract, List.extract_eq_take_drop]
    apply List.take_of_length_le
    rw [List.length_drop, Array.length_toList]
    exact Nat.le_refl _
  have hT : ∀ e : Nat, ((s.extract (a + 2).toNat s.size).extract 0 ((e : Int)).toNat).data.toList = (numL s a).take e := fun e => by
    rw [ByteArray.data_extract, Array.toList_extract, hL, List.extract_eq_take_drop]
    simp
  have hsz : (s.extract (a + 2).toNat s.size).size = s.size - (a + 2).toNat := by rw [ByteArray.size_extract]; omega
  have hlen : (numL s a).length = s.size - (a + 2).toNat := by rw [← hL, ← Lib.size_eq, hsz]
  refine Ev.bindc (a := Lib.indexByte (numL s a) 59) (by unfold strings_IndexByte.f; rw [hL]; rfl) ?_
  rcases hq with ⟨e, v, hP, hT1, rfl⟩ | ⟨hno, rfl⟩
  · obtain ⟨p1, p2, p3, p4, p5⟩ := hP
    have hi : Lib.indexByte (numL s a) 59 = (e : Int) := index_eq p3 (fun k hk h => by
      obtain ⟨d, hd⟩ := Lib.digit_of_decFrom _ _ _ p5 k 59 (by rw [List.getElem?_take, if_pos hk]; exact h)
      exact absurd hd (by simp [Lib.digitVal]))
    have he : e < (numL s a).length := (List.getElem?_eq_some_iff.1 p3).1
    obtain ⟨r1, r2, r3⟩ := atoi_canon (l := (numL s a).take e) (by intro h; have := congrArg List.length h; rw [List.length_take] at this; simp at this; omega) (by rw [List.getElem?_take, if_pos (by omega)]; exact p4) p5
    have hw : wrap64 (wrap64 (wrap64 (a + 2) + (e : Int)) + 1) = a + 2 + e + 1 := by
      have wv : ∀ m : Int, 0 ≤ m → m ≤ 100000000 → wrap64 m = m := fun m _ _ => by unfold wrap64; omega
      rw [wv (a + 2) (by omega) (by omega), wv (a + 2 + e) (by omega) (by omega), wv _ (by omega) (by omega)]
    rw [hi]
    refine Ev.ifp ⟨by omega, by omega⟩ ?_
    refine Ev.ifp (by rw [hsz]; omega) ?_
    rw [if_neg (show ¬ a + 2 + (e : Int) < 0 by omega)]
    refine Ev.up 1 (fun k => ?_)
    unfold xrN
    rw [hT, r1]
    simp only
    rw [if_pos r2, if_neg (by omega), implIsT, Option.bind_some, if_pos hT1, implPut_f, Option.bind_some, hw]
  · rw [if_pos (show (-1 : Int) < 0 by decide)]
    by_cases c : 1 ≤ Lib.indexByte (numL s a) 59 ∧ Lib.indexByte (numL s a) 59 ≤ 7
    · obtain ⟨e, he⟩ : ∃ e : Nat, Lib.indexByte (numL s a) 59 = (e : Int) := ⟨(Lib.indexByte (numL s a) 59).toNat, by omega⟩
      rw [he] at c ⊢
      obtain ⟨p3, _⟩ := Lib.indexByte_some he
      have hel : e < (numL s a).length := (List.getElem?_eq_some_iff.1 p3).1
      refine Ev.ifp c ?_
      refine Ev.ifp (by rw [hsz]; omega) ?_
      refine Ev.up 1 (fun k => ?_)
      unfold xrN
      rw [hT]
      cases hat : Lib.atoi ((numL s a).take e) with
      | none => rfl
      | some n =>
        simp only
        by_cases c1 : Lib.itoa n = (numL s a).take e
        · rw [if_pos c1]
          by_cases c2 : n = 0
          · rw [if_pos c2]
          · rw [if_neg c2, implIsT, Option.bind_some]
            by_cases c3 : isT n = true
            · exfalso
              have hp := isT_nn c3
              obtain ⟨r1, r2, r3⟩ := itoa_pos c1 hp
              have hN : NumP (numL s a) e n.toNat := ⟨by omega, by omega, p3, fun h => r2 (by rw [List.getElem?_take, if_pos (by omega)]; exact h), r1⟩
              have := hno e n.toNat hN
              rw [show ((n.toNat : Nat) : Int) = n by omega, c3] at this
              cases this
            · rw [if_neg c3]
        · rw [if_neg c1]
    · exact Ev.ifn c (Ev.now _)
abbrev nameJ (j : Nat) : ByteArray := nrL.getD j ByteArray.empty
abbrev signJ (j : Nat) : ByteArray := nsgL.getD j ByteArray.empty
theorem nrF_at (s : ByteArray) (a : Int) (a0 : 0 ≤ a) (a1 : a ≤ s.size) : ∀ (d : Nat) (ns xs : List ByteArray) (hl : ns.length = xs.length) (j : Nat), j = d → j < ns.length → (∀ i, i < j → ¬ standsAt s a (ns.getD i ByteArray.empty)) → standsAt s a (ns.getD j ByteArray.empty) →
    nrF (s.extract a.toNat s.size) ns xs = some (xs.getD j ByteArray.empty, ((ns.getD j ByteArray.empty).size : Int))
  | d, [], xs, hl, j, _, hj, _, _ => by simp at hj
  | d, n :: ns, [], hl, j, _, hj, _, _ => by simp at hl
  | d, n :: ns, x :: xs, hl, 0, _, hj, hno, hyes => by
    have hy : standsAt s a n := hyes
    rw [nrF, hasPrefix_f s a n a0 a1, Option.bind_some, decide_eq_true hy]
    rfl
  | 0, n :: ns, x :: xs, hl, j + 1, hd, hj, hno, hyes => by omega
  | d + 1, n :: ns, x :: xs, hl, j + 1, hd, hj, hno, hyes => by
    have h0 : ¬ standsAt s a n := hno 0 (by omega)
    rw [nrF, hasPrefix_f s a n a0 a1, Option.bind_some, decide_eq_false h0, if_neg (by simp)]
    exact nrF_at s a a0 a1 d ns xs (by simpa using hl) j (by omega) (by simpa using hj) (fun i hi => hno (i + 1) (by omega)) hyes
theorem nrF_none (s : ByteArray) (a : Int) (a0 : 0 ≤ a) (a1 : a ≤ s.size) : ∀ (ns xs : List ByteArray), (∀ i, i < ns.length → ¬ standsAt s a (ns.getD i ByteArray.empty)) → nrF (s.extract a.toNat s.size) ns xs = some (⟨#[]⟩, 0)
  | [], xs, _ => by simp [nrF]
  | n :: ns, [], _ => by simp [nrF]
  | n :: ns, x :: xs, hno => by
    have h0 : ¬ standsAt s a n := hno 0 (by simp)
    rw [nrF, hasPrefix_f s a n a0 a1, Option.bind_some, decide_eq_false h0, if_neg (by simp)]
    exact nrF_none s a a0 a1 ns xs (fun i hi => hno (i + 1) (by simpa using hi))
theorem nm_size : ∀ j : Nat, j < 5 → (nameJ j).size ≤ 6 ∧ 1 ≤ (nameJ j).size ∧ (signJ j).size = 1 ∧ ∀ b ∈ (nameJ j).data.toList, b ≠ 93 := by decide
theorem spec_at (s : ByteArray) (hs : s.size ≤ 1048576) (a : Int) (a0 : 0 ≤ a) (a1 : a ≤ s.size) (j : Nat) (hj : j < 5) (hno : ∀ i : Nat, i < j → ¬ standsAt s a (nameJ i)) (hyes : standsAt s a (nameJ j)) :
    ∀ (d i : Nat), i + d = j → Ev (fun k => spec_XmlRef.l0 k s a nrL nsgL (i : Int)) (signJ j, a + (nameJ j).size) := by
  intro d
  induction d with
  | zero =>
    intro i hi
    obtain rfl : i = j := by omega
    have hz := nm_size i hj
    have hw : wrap64 (a + ((nameJ i).size : Int)) = a + (nameJ i).size := by unfold wrap64; omega
    refine Ev.step (fun k => by simp only [spec_XmlRef.l0]; rfl) ?_
    refine Ev.ifp (show (i : Int) < 5 by omega) ?_
    refine Ev.ifp (by omega) ?_
    refine Ev.bindc (a := true) ?_ ?_
    · show spec_l5Stands.f s a (nameJ i) = _
      rw [stands_f s hs a _ (by omega) a0 a1, decide_eq_true hyes]
    · refine Ev.ifp rfl ?_
      refine Ev.ifp (show (i : Int) < 5 by omega) ?_
      show Ev (fun _ => some (signJ i, wrap64 (a + ((nameJ i).size : Int)))) _
      rw [hw]
      exact Ev.now _
  | succ d ih =>
    intro i hi
    have hz := nm_size i (by omega)
    have hw : wrap64 ((i : Int) + 1) = ((i + 1 : Nat) : Int) := by unfold wrap64; omega
    refine Ev.step (fun k => by simp only [spec_XmlRef.l0]; rfl) ?_
    refine Ev.ifp (show (i : Int) < 5 by omega) ?_
    refine Ev.ifp (by omega) ?_
    refine Ev.bindc (a := false) ?_ ?_
    · show spec_l5Stands.f s a (nameJ i) = _
      rw [stands_f s hs a _ (by omega) a0 a1, decide_eq_false (hno i (by omega))]
    · refine Ev.ifn (by simp) ?_
      rw [hw]
      exact ih (i + 1) (by omega)
theorem spec_no (s : ByteArray) (hs : s.size ≤ 1048576) (a : Int) (a0 : 0 ≤ a) (a1 : a ≤ s.size) (hno : ∀ i : Nat, i < 5 → ¬ standsAt s a (nameJ i)) {q : ByteArray × Int} (hq : Ev (fun k => spec_XmlRef.l0 k s a nrL nsgL 5) q) :
    ∀ (d i : Nat), i + d = 5 → Ev (fun k => spec_XmlRef.l0 k s a nrL nsgL (i : Int)) q := by
  intro d
  induction d with
  | zero =>
    intro i hi
    obtain rfl : i = 5 := by omega
    exact hq
  | succ d ih =>
    intro i hi
    have hz := nm_size i (by omega)
    have hw : wrap64 ((i : Int) + 1) = ((i + 1 : Nat) : Int) := by unfold wrap64; omega
    refine Ev.step (fun k => by simp only [spec_XmlRef.l0]; rfl) ?_
    refine Ev.ifp (show (i : Int) < 5 by omega) ?_
    refine Ev.ifp (by omega) ?_
    refine Ev.bindc (a := false) ?_ ?_
    · show spec_l5Stands.f s a (nameJ i) = _
      rw [stands_f s hs a _ (by omega) a0 a1, decide_eq_false (hno i (by omega))]
    · refine Ev.ifn (by simp) ?_
      rw [hw]
      exact ih (i + 1) (by omega)
def RefOk (s : ByteArray) (a : Int) (q : ByteArray × Int) : Prop := q.1.size ≤ 4 ∧ (q.2 = -1 ∨ (a < q.2 ∧ q.2 ≤ s.size ∧ ∀ p : Int, a ≤ p → p < q.2 → bt s p ≠ 93))
theorem ref_both (s : ByteArray) (hs : s.size ≤ 1048576) (a : Int) (a0 : 0 ≤ a) (a1 : a < (s.size : Int)) (h38 : bt s a = 38) : ∃ q : ByteArray × Int, RefOk s a q ∧ Ev (fun k => spec_XmlRef.f k s a) q ∧ Ev (fun k => impl_XmlRef.f k s a) q := by
  have hw1 : wrap64 ((s.size : Int) - 1) = (s.size : Int) - 1 := by unfold wrap64; omega
  have spec0 : ∀ {q : ByteArray × Int}, Ev (fun k => spec_XmlRef.l0 k s a nrL nsgL 0) q → Ev (fun k => spec_XmlRef.f k s a) q := fun h => by
    unfold spec_XmlRef.f
    refine Ev.ifn (by omega) ?_
    refine Ev.ifn (by omega) ?_
    refine Ev.ifp a0 ?_
    refine Ev.ifp a1 ?_
    rw [h38]
    refine Ev.step (fun k => by simp only [spec_XmlRef.j0]; rfl) ?_
    exact Ev.ifn (by decide) h
  have impl0 : ∀ {q : ByteArray × Int}, Ev (fun k => xrB k s a) q → Ev (fun k => impl_XmlRef.f k s a) q := fun h => by
    unfold impl_XmlRef.f
    refine Ev.bindc (inRange_f _ _ _) ?_
    rw [hw1, decide_eq_true (show 0 ≤ a ∧ a ≤ (s.size : Int) - 1 by omega)]
    refine Ev.ifp rfl ?_
    exact Ev.ifp ⟨a0, by omega⟩ h
  have yes : ∀ j : Nat, j < 5 → (∀ i : Nat, i < j → ¬ standsAt s a (nameJ i)) → standsAt s a (nameJ j) → ∃ q : ByteArray × Int, RefOk s a q ∧ Ev (fun k => spec_XmlRef.f k s a) q ∧ Ev (fun k => impl_XmlRef.f k s a) q := fun j hj hno hy => by
    have hz := nm_size j hj
    have hy1 := hy.1
    have hw : wrap64 (a + ((nameJ j).size : Int)) = a + (nameJ j).size := by unfold wrap64; omega
    refine ⟨(signJ j, a + (nameJ j).size), ⟨by show (signJ j).size ≤ 4; omega, .inr ⟨by show a < a + _; omega, hy1, fun p hp0 hp1 => ?_⟩⟩, spec0 (spec_at s hs a a0 (by omega) j hj hno hy j 0 (by omega)), impl0 ?_⟩
    · have hp1' : p < a + (nameJ j).size := hp1
      obtain ⟨b, e1, e2⟩ := stands_bt hy a0 (p - a).toNat (by omega)
      rw [show a + (((p - a).toNat : Nat) : Int) = p by omega] at e2
      have hb := hz.2.2.2 b (List.mem_of_getElem? e1)
      intro h
      apply hb
      apply UInt8.toNat_inj.mp
      show b.toNat = 93
      omega
    · unfold xrB impl_namedRef.f
      refine Ev.bindc (nrF_at s a a0 (by omega) j nrL nsgL rfl j rfl hj hno hy) ?_
      refine Ev.ifp (show ((nameJ j).size : Int) > 0 by omega) ?_
      show Ev (fun _ => some (signJ j, wrap64 (a + ((nameJ j).size : Int)))) _
      rw [hw]
      exact Ev.now _
  by_cases s0 : standsAt s a (nameJ 0)
  · exact yes 0 (by omega) (fun i hi => absurd hi (by omega)) s0
  by_cases s1 : standsAt s a (nameJ 1)
  · exact yes 1 (by omega) (fun i hi => by rcases (show i = 0 by omega) with rfl; exact s0) s1
  by_cases s2 : standsAt s a (nameJ 2)
  · exact yes 2 (by omega) (fun i hi => by rcases (show i = 0 ∨ i = 1 by omega) with rfl | rfl <;> assumption) s2
  by_cases s3 : standsAt s a (nameJ 3)
  · exact yes 3 (by omega) (fun i hi => by rcases (show i = 0 ∨ i = 1 ∨ i = 2 by omega) with rfl | rfl | rfl <;> assumption) s3
  by_cases s4 : standsAt s a (nameJ 4)
  · exact yes 4 (by omega) (fun i hi => by rcases (show i = 0 ∨ i = 1 ∨ i = 2 ∨ i = 3 by omega) with rfl | rfl | rfl | rfl <;> assumption) s4
  have hno : ∀ i : Nat, i < 5 → ¬ standsAt s a (nameJ i) := fun i hi => by rcases (show i = 0 ∨ i = 1 ∨ i = 2 ∨ i = 3 ∨ i = 4 by omega) with rfl | rfl | rfl | rfl | rfl <;> assumption
  have specN : ∀ {q : ByteArray × Int}, Ev (fun k => (spec_l5Stands.f s a (⟨#[38, 35]⟩ : ByteArray)).bind fun t291 => (if t291 = true then ((spec_l18Number.f k s a).bind fun bt292 => (if bt292.2 < 0 then (some ((⟨#[]⟩ : ByteArray), (-1 : Int))) else ((spec_PutSign.f k bt292.1).bind fun t294 => (some (t294, wrap64 (bt292.2 + 1)))))) else (some ((⟨#[]⟩ : ByteArray), (-1))))) q → Ev (fun k => spec_XmlRef.f k s a) q := fun h => by
    refine spec0 (spec_no s hs a a0 (by omega) hno ?_ 5 0 (by omega))
    refine Ev.step (fun k => by simp only [spec_XmlRef.l0]; rfl) ?_
    exact Ev.ifn (by decide) h
  have implN : ∀ {q : ByteArray × Int}, Ev (fun k => (strings_CutPrefix.f (s.extract a.toNat s.size) ⟨#[38, 35]⟩).bind fun d => (strings_IndexByte.f d.1 59).bind fun e => if d.2 = true then (if 1 ≤ e ∧ e ≤ 7 then (if e ≤ (d.1.size : Int) then xrN k a e (d.1.extract 0 e.toNat) else none) else some (⟨#[]⟩, -1)) else some (⟨#[]⟩, -1)) q → Ev (fun k => impl_XmlRef.f k s a) q := fun h => by
    refine impl0 ?_
    unfold xrB impl_namedRef.f
    refine Ev.bindc (nrF_none s a a0 (by omega) nrL nsgL hno) ?_
    exact Ev.ifn (show ¬ (0 : Int) > 0 by decide) h
  have hn2 : ((⟨#[38, 35]⟩ : ByteArray).size : Int) = 2 := rfl
  by_cases sn : standsAt s a (⟨#[38, 35]⟩ : ByteArray)
  · have h2 : a + 2 ≤ s.size := sn.1
    have hw2 : wrap64 (a + 2) = a + 2 := by unfold wrap64; omega
    obtain ⟨q, e1, e2⟩ := num_l s hs a a0 h2 7 0 0 rfl (by omega) (by omega) rfl
    rw [show a + 2 + ((0 : Nat) : Int) = a + 2 by omega] at e1
    refine ⟨if q.2 < 0 then (⟨#[]⟩, -1) else (putF q.1, q.2 + 1), ?_, specN ?_, implN ?_⟩
    · rcases e2 with ⟨e, v, hP, hT1, rfl⟩ | ⟨_, rfl⟩
      · rw [if_neg (show ¬ a + 2 + (e : Int) < 0 by omega)]
        have hel : e < (numL s a).length := (List.getElem?_eq_some_iff.1 hP.2.2.1).1
        have hlen : (numL s a).length = s.size - (a + 2).toNat := by rw [List.length_drop, ← Lib.size_eq]
        refine ⟨putF_size _, .inr ⟨by show a < a + 2 + (e : Int) + 1; omega, by show a + 2 + (e : Int) + 1 ≤ _; omega, fun p hp0 hp1 => ?_⟩⟩
        have hp1' : p < a + 2 + (e : Int) + 1 := hp1
        by_cases c : p < a + 2
        · obtain ⟨b, f1, f2⟩ := stands_bt sn a0 (p - a).toNat (by show _ < 2; omega)
          rw [show a + (((p - a).toNat : Nat) : Int) = p by omega] at f2
          have hb := List.mem_of_getElem? f1
          intro h
          have h93 : b.toNat = 93 := by omega
          have : b = 38 ∨ b = 35 := by simpa using hb
          rcases this with rfl | rfl
          · exact absurd h93 (by decide)
          · exact absurd h93 (by decide)
        · obtain ⟨b, f1, f2⟩ := (numL_at s a a0 (p - (a + 2)).toNat).1 (by omega)
          rw [show a + 2 + (((p - (a + 2)).toNat : Nat) : Int) = p by omega] at f2
          intro h
          by_cases ce : (p - (a + 2)).toNat = e
          · rw [ce, hP.2.2.1] at f1
            obtain rfl := Option.some.inj f1
            have h59 : ((59 : UInt8).toNat : Int) = 93 := by omega
            exact absurd h59 (by decide)
          · obtain ⟨d, hd⟩ := Lib.digit_of_decFrom _ _ _ hP.2.2.2.2 (p - (a + 2)).toNat b (by rw [List.getElem?_take, if_pos (by omega)]; exact f1)
            obtain ⟨g1, g2, _⟩ := digitVal_some hd
            omega
      · rw [if_pos (show (-1 : Int) < 0 by decide)]
        exact ⟨by show (0 : Nat) ≤ 4; omega, .inl rfl⟩
    · refine Ev.bindc (stands_f s hs a _ (by decide) a0 (by omega)) ?_
      rw [decide_eq_true sn]
      refine Ev.ifp rfl ?_
      refine Ev.bind (a := q) (by unfold spec_l18Number.f; rw [hw2]; exact e1) ?_
      by_cases c : q.2 < 0
      · rw [if_pos c]; exact Ev.ifp c (Ev.now _)
      · rw [if_neg c]
        refine Ev.ifn c ?_
        have hq2 : q.2 ≤ s.size := by
          rcases e2 with ⟨e, v, hP, hT1, rfl⟩ | ⟨_, rfl⟩
          · have hel : e < (numL s a).length := (List.getElem?_eq_some_iff.1 hP.2.2.1).1
            have hlen : (numL s a).length = s.size - (a + 2).toNat := by rw [List.length_drop, ← Lib.size_eq]
            show a + 2 + (e : Int) ≤ _
            omega
          · exact absurd (show (-1 : Int) < 0 by decide) c
        refine Ev.bind (Ev.up 1 (fun k => specPut_f k q.1)) ?_
        rw [show wrap64 (q.2 + 1) = q.2 + 1 by unfold wrap64; omega]
        exact Ev.now _
    · refine Ev.bindc (cut_f s a _ a0 (by omega)) ?_
      rw [if_pos sn]
      have := impl_num s hs a a0 h2 q e2
      exact this
  · refine ⟨(⟨#[]⟩, -1), ⟨by show (0 : Nat) ≤ 4; omega, .inl rfl⟩, specN ?_, implN ?_⟩
    · refine Ev.bindc (stands_f s hs a _ (by decide) a0 (by omega)) ?_
      rw [decide_eq_false sn]
      exact Ev.ifn (by simp) (Ev.now _)
    · refine Ev.bindc (cut_f s a _ a0 (by omega)) ?_
      rw [if_neg sn]
      refine Ev.bindc (a := Lib.indexByte (s.extract a.toNat s.size).data.toList 59) rfl ?_
      exact Ev.ifn (by simp) (Ev.now _)
def asInts (l : List UInt8) : List Int := l.map fun b => (b.toNat : Int)
theorem strOf_asInts (l : List UInt8) : strOfNums (asInts l) = ⟨l.toArray⟩ := by
  unfold strOfNums asInts
  congr 2
  rw [List.map_map]
  conv => rhs; rw [← List.map_id l]
  apply List.map_congr_left
  intro b _
  simp
theorem ext_iff (s : ByteArray) (p : Int) (p0 : 0 ≤ p) (l : List UInt8) (h : p + l.length ≤ s.size) : (s.extract p.toNat (p + l.length).toNat).toList = l ↔ ∀ (j : Nat) (hj : j < l.length), bt s (p + j) = ((l[j]'hj).toNat : Int) := by
  rw [Lib.toList_data, ByteArray.data_extract, Array.toList_extract, List.extract_eq_take_drop]
  constructor
  · intro e j hj
    obtain ⟨b, e1, e2⟩ := bt_list s (p + j) (by omega) (by omega)
    have e3 := congrArg (fun x => x[j]?) e
    simp only [List.getElem?_take, List.getElem?_drop] at e3
    rw [if_pos (by omega), show p.toNat + j = (p + j).toNat by omega, e1, List.getElem?_eq_getElem hj] at e3
    rw [e2, Option.some.inj e3]
  · intro e
    apply List.ext_getElem?
    intro j
    rw [List.getElem?_take, List.getElem?_drop]
    by_cases hj : j < l.length
    · obtain ⟨b, e1, e2⟩ := bt_list s (p + j) (by omega) (by omega)
      rw [if_pos (by omega), show p.toNat + j = (p + j).toNat by omega, e1, List.getElem?_eq_getElem hj]
      have := e j hj
      congr 1
      apply UInt8.toNat_inj.mp
      omega
    · rw [if_neg (by omega), List.getElem?_eq_none (by omega)]
abbrev endB : ByteArray := ⟨#[93, 93, 62]⟩
theorem stands3 (s : ByteArray) (p : Int) (p0 : 0 ≤ p) : standsAt s p endB ↔ (p + 3 ≤ s.size ∧ bt s p = 93 ∧ bt s (p + 1) = 93 ∧ bt s (p + 2) = 62) := by
  have hl : endB.toList = [93, 93, 62] := by rw [Lib.toList_data]
  unfold standsAt
  rw [hl]
  constructor
  · rintro ⟨h1, h2⟩
    have h1' : p + 3 ≤ s.size := h1
    have := (ext_iff s p p0 [93, 93, 62] h1').1 h2
    have a0 := this 0 (by simp)
    have a1 := this 1 (by simp)
    have a2 := this 2 (by simp)
    rw [show p + ((0 : Nat) : Int) = p by omega] at a0
    exact ⟨h1', a0, a1, a2⟩
  · rintro ⟨h1, h2, h3, h4⟩
    refine ⟨h1, (ext_iff s p p0 [93, 93, 62] h1).2 (fun j hj => ?_)⟩
    have hj' : j < 3 := hj
    rcases (show j = 0 ∨ j = 1 ∨ j = 2 by omega) with rfl | rfl | rfl
    · rw [show p + ((0 : Nat) : Int) = p by omega]; exact h2
    · exact h3
    · exact h4
theorem suffix_f (s : ByteArray) (hs : s.size ≤ 1048576) (a i : Int) (a0 : 0 ≤ a) (ai : a ≤ i) (is : i ≤ s.size) : strings_HasSuffix.f (s.extract a.toNat i.toNat) ⟨#[93, 93]⟩ = some (decide (a + 2 ≤ i ∧ bt s (i - 2) = 93 ∧ bt s (i - 1) = 93)) := by
  unfold strings_HasSuffix.f stringslite_HasSuffix.f
  have hsz : (s.extract a.toNat i.toNat).size = i.toNat - a.toNat := by rw [ByteArray.size_extract]; omega
  have h2 : ((⟨#[93, 93]⟩ : ByteArray).size : Int) = 2 := rfl
  have hl : (⟨#[93, 93]⟩ : ByteArray).toList = [93, 93] := by rw [Lib.toList_data]
  rw [hsz, h2, hl]
  by_cases c : a + 2 ≤ i
  · have hw : wrap64 (((i.toNat - a.toNat : Nat) : Int) - 2) = i - a - 2 := by unfold wrap64; omega
    have hx : (s.extract a.toNat i.toNat).extract (i - a - 2).toNat (i.toNat - a.toNat) = s.extract (i - 2).toNat (i - 2 + ([93, 93] : List UInt8).length).toNat := by
      rw [ByteArray.extract_extract]
      congr 1
      · omega
      · show _ = (i - 2 + ((2 : Nat) : Int)).toNat
        omega
    rw [if_pos (by omega), hw, if_pos (by omega), if_pos (by omega), Option.bind_some, hx]
    congr 1
    have hi := ext_iff s (i - 2) (by omega) [93, 93] (by show i - 2 + 2 ≤ _; omega)
    by_cases e : bt s (i - 2) = 93 ∧ bt s (i - 1) = 93
    · rw [decide_eq_true (show a + 2 ≤ i ∧ bt s (i - 2) = 93 ∧ bt s (i - 1) = 93 from ⟨c, e⟩)]
      apply beq_iff_eq.mpr
      refine hi.2 (fun j hj => ?_)
      have hj' : j < 2 := hj
      rcases (show j = 0 ∨ j = 1 by omega) with rfl | rfl
      · rw [show i - 2 + ((0 : Nat) : Int) = i - 2 by omega]; exact e.1
      · rw [show i - 2 + ((1 : Nat) : Int) = i - 1 by omega]; exact e.2
    · rw [decide_eq_false (show ¬ (a + 2 ≤ i ∧ bt s (i - 2) = 93 ∧ bt s (i - 1) = 93) from fun h => e h.2)]
      apply beq_eq_false_iff_ne.mpr
      intro h
      have hh := hi.1 h
      have b0 := hh 0 (by simp)
      have b1 := hh 1 (by simp)
      rw [show i - 2 + ((0 : Nat) : Int) = i - 2 by omega] at b0
      rw [show i - 2 + ((1 : Nat) : Int) = i - 1 by omega] at b1
      exact e ⟨b0, b1⟩
  · rw [if_neg (by omega), Option.bind_some, decide_eq_false (fun h => c h.1)]
theorem put_low (c : Int) (h0 : 0 ≤ c) (h1 : c < 128) : putF c = strOfNums [c % 256] := by
  unfold putF
  rw [if_pos (by unfold signOk; rw [decide_eq_true (by omega), decide_eq_false (by omega)]; rfl)]
  unfold put0
  rw [if_pos h1]
theorem nums_data (l : List Int) : (strOfNums l).data.toList = l.map fun n => n.toNat.toUInt8 := by
  unfold strOfNums
  first | rfl | simp
theorem put_low_list (c : Int) (h0 : 0 ≤ c) (h1 : c < 128) : (putF c).toList = [c.toNat.toUInt8] := by
  rw [put_low c h0 h1, Lib.toList_data, nums_data]
  rw [List.map_cons, List.map_nil, show c % 256 = c by omega]
theorem put0_high (x : Int) (h0 : 128 ≤ x) (h1 : x ≤ 1114111) : ∀ b ∈ (put0 x).data.toList, 128 ≤ b.toNat := by
  have hb : ∀ n : Int, 128 ≤ n → n < 256 → 128 ≤ (n.toNat.toUInt8).toNat := fun n _ _ => by
    have : (n.toNat.toUInt8).toNat = n.toNat := by simp; omega
    omega
  have hr : ∀ (l : List Int), (∀ n ∈ l, 128 ≤ n ∧ n < 256) → ∀ b ∈ (strOfNums l).data.toList, 128 ≤ b.toNat := fun l hl b hm => by
    rw [nums_data] at hm
    obtain ⟨n, hn, rfl⟩ := List.mem_map.1 hm
    exact hb n (hl n hn).1 (hl n hn).2
  unfold put0
  rw [if_neg (by omega)]
  split
  · apply hr
    intro n hn
    simp only [List.mem_cons, List.not_mem_nil, or_false] at hn
    rcases hn with rfl | rfl <;> omega
  · split
    · apply hr
      intro n hn
      simp only [List.mem_cons, List.not_mem_nil, or_false] at hn
      rcases hn with rfl | rfl | rfl <;> omega
    · apply hr
      intro n hn
      simp only [List.mem_cons, List.not_mem_nil, or_false] at hn
      rcases hn with rfl | rfl | rfl | rfl <;> omega
theorem put_high (n : Int) (h : 2 ≤ (putF n).toList.length) : ∀ b ∈ (putF n).toList, 128 ≤ b.toNat := by
  rw [Lib.toList_data] at h ⊢
  unfold putF at h ⊢
  split at h
  · rename_i hs
    rw [if_pos hs]
    have hs' := hs
    simp only [signOk, Bool.and_eq_true, decide_eq_true_eq] at hs'
    by_cases c : n < 128
    · unfold put0 at h
      rw [if_pos c, nums_data] at h
      simp at h
    · exact put0_high n (by omega) (by omega)
  · rename_i hs
    rw [if_neg hs]
    exact put0_high 65533 (by omega) (by omega)
abbrev qEnd : ByteArray := ⟨#[34]⟩
theorem find_l (x : ByteArray) (hm : x.size ≤ 1048576) (c : Int) : ∀ (d : Nat) (j : Int), ((x.size : Int) - j).toNat ≤ d → 0 ≤ j → ∃ r : Int, Ev (fun k => spec_l4Find.l0 k x j c) r ∧ (0 ≤ r ↔ ∃ i : Int, j ≤ i ∧ i < (x.size : Int) ∧ bt x i = c) := by
  intro d
  induction d with
  | zero =>
    intro j hd h0
    refine ⟨-1, ?_, ⟨fun h => absurd h (by decide), fun ⟨i, h1, h2, _⟩ => by omega⟩⟩
    refine Ev.step (fun k => by simp only [spec_l4Find.l0]; rfl) ?_
    exact Ev.ifn (by omega) (Ev.now _)
  | succ d ih =>
    intro j hd h0
    by_cases hj : j < (x.size : Int)
    case neg => exact ih j (by omega) h0
    have hw : wrap64 (j + 1) = j + 1 := by unfold wrap64; omega
    by_cases hc : bt x j = c
    · refine ⟨j, ?_, ⟨fun _ => ⟨j, Int.le_refl _, hj, hc⟩, fun _ => h0⟩⟩
      refine Ev.step (fun k => by simp only [spec_l4Find.l0]; rfl) ?_
      refine Ev.ifp hj ?_
      refine Ev.ifp h0 ?_
      exact Ev.ifp hc (Ev.now _)
    · obtain ⟨r, e1, e2⟩ := ih (j + 1) (by omega) (by omega)
      refine ⟨r, ?_, ⟨fun h => ?_, fun ⟨i, h1, h2, h3⟩ => e2.2 ⟨i, ?_, h2, h3⟩⟩⟩
      · refine Ev.step (fun k => by simp only [spec_l4Find.l0]; rfl) ?_
        refine Ev.ifp hj ?_
        refine Ev.ifp h0 ?_
        refine Ev.ifn hc ?_
        rw [hw]
        exact e1
      · obtain ⟨i, h1, h2, h3⟩ := e2.1 h
        exact ⟨i, by omega, h2, h3⟩
      · by_cases ce : i = j
        · subst ce; exact absurd h3 hc
        · omega
theorem bt_mem (x : ByteArray) (c : UInt8) : (∃ i : Int, 0 ≤ i ∧ i < (x.size : Int) ∧ bt x i = (c.toNat : Int)) ↔ c ∈ x.data.toList := by
  constructor
  · rintro ⟨i, h0, h1, h2⟩
    obtain ⟨b, e1, e2⟩ := bt_list x i h0 h1
    have : b = c := by apply UInt8.toNat_inj.mp; omega
    subst this
    exact List.mem_of_getElem? e1
  · intro h
    obtain ⟨j, hj⟩ := List.getElem?_of_mem h
    have hlt : j < x.size := by
      have := (List.getElem?_eq_some_iff.1 hj).1
      rw [← Lib.size_eq] at this
      exact this
    obtain ⟨b, e1, e2⟩ := bt_list x j (by omega) (by omega)
    rw [show ((j : Int)).toNat = j by omega, hj] at e1
    obtain rfl := Option.some.inj e1
    exact ⟨j, by omega, by omega, e2⟩
def inE (en : ByteArray) (c : Int) : Prop := c.toNat.toUInt8 ∈ en.data.toList
theorem u8_back (c : Int) (h0 : 0 ≤ c) (h1 : c ≤ 255) : ((c.toNat.toUInt8).toNat : Int) = c := by
  have : (c.toNat.toUInt8).toNat = c.toNat := by simp; omega
  omega
theorem find_e (en : ByteArray) (hen : en.size ≤ 1048576) (c : Int) (h0 : 0 ≤ c) (h1 : c ≤ 255) : ∃ r : Int, Ev (fun k => spec_l4Find.f k en 0 c) r ∧ (0 ≤ r ↔ inE en c) := by
  obtain ⟨r, e1, e2⟩ := find_l en hen c _ 0 (Nat.le_refl _) (Int.le_refl _)
  have := bt_mem en c.toNat.toUInt8
  rw [u8_back c h0 h1] at this
  exact ⟨r, e1, e2.trans this⟩
theorem index_e (en : ByteArray) (c : Int) : ∃ r : Int, strings_IndexByte.f en c = some r ∧ (0 ≤ r ↔ inE en c) := by
  refine ⟨_, rfl, ?_⟩
  have := Lib.contains_iff_indexByte en.data.toList c.toNat.toUInt8
  unfold inE
  constructor
  · intro h
    rw [decide_eq_true h] at this
    simpa using this
  · intro h
    have h2 : en.data.toList.contains c.toNat.toUInt8 = true := by simpa using h
    rw [h2] at this
    exact of_decide_eq_true this.symm
theorem xt_ascii (s : ByteArray) (hs : s.size ≤ 1048576) (a i c : Int) (a0 : 0 ≤ a) (ai : a ≤ i) (is : i < s.size) (hc : bt s i = c) (c0 : 0 ≤ c) (c1 : c < 128) (en : ByteArray) (hne : ¬ inE en c) (n38 : c ≠ 38) (out : List UInt8) {r : ByteArray × Int}
    (h : Ev (fun k => xtSign (xtL k s a en) s a i c 1 out) r) : Ev (fun k => xtL k s a en i out) r := by
  obtain ⟨q, q1, q4, ⟨qe, qn, qa⟩, e1, e2⟩ := clean_both s hs i (by omega) is
  obtain rfl := qa (by omega)
  have hcl : (putF (bt s i)).toList = (s.extract i.toNat (i + 1).toNat).toList := by
    rw [put_low_list _ (by omega) (by omega)]
    refine ((ext_iff s i (by omega) [(bt s i).toNat.toUInt8] (by show i + 1 ≤ _; omega)).2 (fun j hj => ?_)).symm
    have hj0 : j = 0 := by have : j < 1 := hj; omega
    subst hj0
    rw [show i + ((0 : Nat) : Int) = i by omega]
    show bt s i = (((bt s i).toNat.toUInt8).toNat : Int)
    have : ((bt s i).toNat.toUInt8).toNat = (bt s i).toNat := by simp; omega
    rw [this]
    omega
  rw [if_pos hcl] at e2
  refine Ev.step (fun k => by simp only [xtL]; rfl) ?_
  refine Ev.ifp (by omega) ?_
  refine Ev.ifp is ?_
  obtain ⟨ri, hri, hri2⟩ := index_e en (bt s i)
  refine Ev.bindc hri ?_
  refine Ev.ifp (by have := mt hri2.1 (by rw [hc]; exact hne); omega) ?_
  refine Ev.ifn (by omega) ?_
  refine Ev.bind e2 ?_
  rw [hc]
  exact h
theorem dead_end (en : ByteArray) (n93 : ¬ inE en 93) (n62 : ¬ inE en 62) (s : ByteArray) (hs : s.size ≤ 1048576) (a i : Int) (a0 : 0 ≤ a) (ai : a ≤ i) (hst : standsAt s i endB) (out : List UInt8) (ho : out.length ≤ 140737488355000) : Ev (fun k => xtL k s a en i out) (⟨#[]⟩, -1) := by
  obtain ⟨h3, b0, b1, b2⟩ := (stands3 s i (by omega)).1 hst
  have one : ∀ j : Int, 0 ≤ j → j < s.size → (s.extract j.toNat (j + 1).toNat).size = 1 := fun j _ _ => by rw [ByteArray.size_extract]; omega
  have step : ∀ (j : Int) (o : List UInt8), a ≤ j → j < s.size → bt s j = 93 → o.length ≤ 140737488355100 → (∀ o' : List UInt8, o'.length = o.length + 1 → Ev (fun k => xtL k s a en (j + 1) o') (⟨#[]⟩, -1)) → Ev (fun k => xtL k s a en j o) (⟨#[]⟩, -1) := fun j o h0 h1 hb hol hn => by
    have hw : wrap64 (j + 1) = j + 1 := by unfold wrap64; omega
    have h1z := one j (by omega) h1
    refine xt_ascii s hs a j 93 a0 h0 h1 hb (by omega) (by omega) en n93 (by omega) o ?_
    unfold xtSign
    refine Ev.ifn (by decide) ?_
    refine Ev.bindc (implIsT 93) ?_
    refine Ev.ifp (by decide) ?_
    refine Ev.ifn (by decide) ?_
    refine Ev.ifn (by decide) ?_
    refine Ev.ifn (by decide) ?_
    unfold xtGo
    rw [hw]
    refine Ev.ifp ⟨by omega, by omega, by omega⟩ ?_
    exact hn _ (by rw [List.length_append, ← Lib.size_eq, h1z])
  refine step i out ai (by omega) b0 (by omega) (fun o1 l1 => step (i + 1) o1 (by omega) (by omega) b1 (by omega) (fun o2 l2 => ?_))
  rw [show i + 1 + 1 = i + 2 by omega]
  refine xt_ascii s hs a (i + 2) 62 a0 (by omega) (by omega) b2 (by omega) (by omega) en n62 (by omega) o2 ?_
  unfold xtSign
  refine Ev.ifn (by decide) ?_
  refine Ev.bindc (implIsT 62) ?_
  refine Ev.ifp (by decide) ?_
  refine Ev.ifn (by decide) ?_
  refine Ev.ifn (by decide) ?_
  refine Ev.ifp rfl ?_
  refine Ev.ifp ⟨a0, by omega, by omega⟩ ?_
  refine Ev.bindc (suffix_f s hs a (i + 2) a0 (by omega) (by omega)) ?_
  rw [decide_eq_true (show a + 2 ≤ i + 2 ∧ bt s (i + 2 - 2) = 93 ∧ bt s (i + 2 - 1) = 93 from ⟨by omega, by rw [show i + 2 - 2 = i by omega]; exact b0, by rw [show i + 2 - 1 = i + 1 by omega]; exact b1⟩)]
  exact Ev.ifp rfl (Ev.now _)
def TextOk (s : ByteArray) (a : Int) (q : ByteArray × Int) : Prop := q.2 = -1 ∨ (a ≤ q.2 ∧ q.2 ≤ s.size)
set_option maxHeartbeats 1000000 in
theorem text_l (en : ByteArray) (hen : en.size ≤ 1048576) (s : ByteArray) (hs : s.size ≤ 1048576) (a : Int) (a0 : 0 ≤ a) : ∀ (d : Nat) (i : Int) (out : List UInt8), ((s.size : Int) - i).toNat ≤ d → a ≤ i → i ≤ s.size → (out.length : Int) ≤ 4 * i → (¬ inE en 62 → ∀ p : Int, a ≤ p → p < i → ¬ standsAt s p endB) →
    ∃ q : ByteArray × Int, TextOk s a q ∧ Ev (fun k => xsL k s en i (asInts out)) q ∧ Ev (fun k => xtL k s a en i out) q := by
  have hw3 : wrap64 (0 + 1) = 1 := by unfold wrap64; omega
  intro d
  induction d with
  | zero =>
    intro i out hd ai is ho hno
    have hi : ¬ i < (s.size : Int) := by omega
    refine ⟨(⟨out.toArray⟩, i), .inr ⟨ai, is⟩, ?_, ?_⟩
    · refine Ev.step (fun k => by simp only [xsL]; rfl) ?_
      refine Ev.ifp (by omega) ?_
      refine Ev.ifn hi ?_
      rw [← strOf_asInts]
      exact Ev.now _
    · refine Ev.step (fun k => by simp only [xtL]; rfl) ?_
      refine Ev.ifp (by omega) ?_
      refine Ev.ifn hi ?_
      exact Ev.now _
  | succ d ih =>
    intro i out hd ai is ho hno
    by_cases hi : i < (s.size : Int)
    case neg => exact ih i out (by omega) ai is ho hno
    have hb := bt_range s i
    have hlen : (asInts out).length = out.length := by simp [asInts]
    have i0 : 0 ≤ i := by omega
    obtain ⟨rf, erf, hrf⟩ := find_e en hen (bt s i) hb.1 hb.2
    obtain ⟨ri, eri, hri⟩ := index_e en (bt s i)
    by_cases c34 : inE en (bt s i)
    · refine ⟨(⟨out.toArray⟩, i), .inr ⟨ai, is⟩, ?_, ?_⟩
      · refine Ev.step (fun k => by simp only [xsL]; rfl) ?_
        refine Ev.ifp i0 ?_
        refine Ev.ifp hi ?_
        refine Ev.bind erf ?_
        refine Ev.ifn (by have := hrf.2 c34; omega) ?_
        rw [← strOf_asInts]
        exact Ev.now _
      · refine Ev.step (fun k => by simp only [xtL]; rfl) ?_
        refine Ev.ifp i0 ?_
        refine Ev.ifp hi ?_
        refine Ev.bindc eri ?_
        refine Ev.ifn (by have := hri.2 c34; omega) ?_
        exact Ev.now _
    have spec1 : ∀ {q : ByteArray × Int}, Ev (fun n => if bt s i = 38 then (spec_XmlRef.f n s i).bind fun tn => if tn.2 < 0 then some (⟨#[]⟩, -1) else if (asInts out).length + tn.1.size ≤ 140737488355327 then xsL n s en tn.2 (asInts out ++ bytesOf tn.1) else none
           else (spec_GetSign.f n s i).bind fun c => xsSign n (xsL n s en) s en i c.1 c.2 (asInts out)) q → Ev (fun k => xsL k s en i (asInts out)) q := fun h => by
      refine Ev.step (fun k => by simp only [xsL]; rfl) ?_
      refine Ev.ifp i0 ?_
      refine Ev.ifp hi ?_
      refine Ev.bind erf ?_
      exact Ev.ifp (by have := mt hrf.1 c34; omega) h
    have impl1 : ∀ {q : ByteArray × Int}, Ev (fun n => if bt s i = 38 then (impl_XmlRef.f n s i).bind fun tn => if tn.2 < 0 then some (⟨#[]⟩, -1) else if out.length + tn.1.size ≤ 140737488355327 then xtL n s a en tn.2 (out ++ tn.1.data.toList) else none
           else (impl_cleanSign.f n s i).bind fun c => xtSign (xtL n s a en) s a i c.1 c.2 out) q → Ev (fun k => xtL k s a en i out) q := fun h => by
      refine Ev.step (fun k => by simp only [xtL]; rfl) ?_
      refine Ev.ifp i0 ?_
      refine Ev.ifp hi ?_
      refine Ev.bindc eri ?_
      exact Ev.ifp (by have := mt hri.1 c34; omega) h
    by_cases c38 : bt s i = 38
    · obtain ⟨q, ⟨qz, qr⟩, e1, e2⟩ := ref_both s hs i i0 hi c38
      rcases qr with qm | ⟨q1, q2, q3⟩
      · refine ⟨(⟨#[]⟩, -1), .inl rfl, spec1 ?_, impl1 ?_⟩
        · refine Ev.ifp c38 ?_
          refine Ev.bind e1 ?_
          exact Ev.ifp (by omega) (Ev.now _)
        · refine Ev.ifp c38 ?_
          refine Ev.bind e2 ?_
          exact Ev.ifp (by omega) (Ev.now _)
      · obtain ⟨r, r1, r2, r3⟩ := ih q.2 (out ++ q.1.data.toList) (by omega) (by omega) q2 (by rw [List.length_append, ← Lib.size_eq]; omega) (fun c62 p p0 p1 h => by
          by_cases c : p < i
          · exact hno c62 p p0 c h
          · exact q3 p (by omega) p1 ((stands3 s p (by omega)).1 h).2.1)
        refine ⟨r, r1, spec1 ?_, impl1 ?_⟩
        · refine Ev.ifp c38 ?_
          refine Ev.bind e1 ?_
          refine Ev.ifn (by omega) ?_
          refine Ev.ifp (by rw [hlen]; omega) ?_
          rw [show asInts out ++ bytesOf q.1 = asInts (out ++ q.1.data.toList) by simp [asInts, bytesOf]]
          exact r2
        · refine Ev.ifp c38 ?_
          refine Ev.bind e2 ?_
          refine Ev.ifn (by omega) ?_
          exact Ev.ifp (by omega) r3
    obtain ⟨q, q1, q4, ⟨qe, qn, qa⟩, e1, e2⟩ := clean_both s hs i i0 hi
    have hw : wrap64 (i + q.2) = i + q.2 := by unfold wrap64; omega
    have hxs : (s.extract i.toNat (i + q.2).toNat).size = q.2.toNat := by rw [ByteArray.size_extract]; omega
    have spec2 : ∀ {r : ByteArray × Int}, Ev (fun n => xsSign n (xsL n s en) s en i q.1 q.2 (asInts out)) r → Ev (fun k => xsL k s en i (asInts out)) r := fun h => spec1 (Ev.ifn c38 (Ev.bind e1 h))
    by_cases cc : (putF q.1).toList = (s.extract i.toNat (i + q.2).toNat).toList
    case neg =>
      rw [if_neg cc] at e2
      refine ⟨(⟨#[]⟩, -1), .inl rfl, spec2 ?_, impl1 (Ev.ifn c38 (Ev.bind e2 ?_))⟩
      · unfold xsSign
        rw [hw]
        refine Ev.bindc (specIsT q.1) ?_
        by_cases t1 : isT q.1 = true
        · refine Ev.ifp t1 ?_
          by_cases t2 : q.1 = 13
          · exact Ev.ifp t2 (Ev.now _)
          refine Ev.ifn t2 ?_
          by_cases t3 : q.1 = 60
          · exact Ev.ifp t3 (Ev.now _)
          refine Ev.ifn t3 ?_
          refine Ev.bind (Ev.up 1 (fun k => specPut_f k q.1)) ?_
          refine Ev.ifp ⟨by omega, qe⟩ ?_
          exact Ev.ifn cc (Ev.now _)
        · exact Ev.ifn t1 (Ev.now _)
      · unfold xtSign
        exact Ev.ifp (by decide) (Ev.now _)
    rw [if_pos cc] at e2
    have impl2 : ∀ {r : ByteArray × Int}, Ev (fun n => xtSign (xtL n s a en) s a i q.1 q.2 out) r → Ev (fun k => xtL k s a en i out) r := fun h => impl1 (Ev.ifn c38 (Ev.bind e2 h))
    by_cases t1 : isT q.1 = true
    case neg =>
      refine ⟨(⟨#[]⟩, -1), .inl rfl, spec2 ?_, impl2 ?_⟩
      · unfold xsSign
        exact Ev.bindc (specIsT q.1) (Ev.ifn t1 (Ev.now _))
      · unfold xtSign
        refine Ev.ifn (by omega) ?_
        exact Ev.bindc (implIsT q.1) (Ev.ifn t1 (Ev.now _))
    have impl3 : ∀ {r : ByteArray × Int}, Ev (fun n => (if q.1 = 13 then some (⟨#[]⟩, -1) else if q.1 = 60 then some (⟨#[]⟩, -1)
     else if q.1 = 62 then (if 0 ≤ a ∧ a ≤ i ∧ i ≤ (s.size : Int) then (strings_HasSuffix.f (s.extract a.toNat i.toNat) ⟨#[93, 93]⟩).bind fun h => if h = true then some (⟨#[]⟩, -1) else xtGo (xtL n s a en) s i q.2 out else none)
     else xtGo (xtL n s a en) s i q.2 out)) r → Ev (fun k => xtL k s a en i out) r := fun h => impl2 (by
      unfold xtSign
      refine Ev.ifn (by omega) ?_
      refine Ev.bindc (implIsT q.1) ?_
      exact Ev.ifp t1 h)
    have spec3 : ∀ {r : ByteArray × Int}, Ev (fun n => (if q.1 = 13 then some (⟨#[]⟩, -1) else if q.1 = 60 then some (⟨#[]⟩, -1)
     else (spec_PutSign.f n q.1).bind fun p =>
       if i ≤ i + q.2 ∧ i + q.2 ≤ (s.size : Int) then
         (if p.toList = (s.extract i.toNat (i + q.2).toNat).toList then
           (spec_l5Stands.f s i ⟨#[93, 93, 62]⟩).bind fun h => if h = true then (spec_l4Find.f n en 0 62).bind fun z => (if z < 0 then some (⟨#[]⟩, -1) else xsGo (xsL n s en) s i q.2 (asInts out)) else xsGo (xsL n s en) s i q.2 (asInts out)
         else some (⟨#[]⟩, -1))
       else none)) r → Ev (fun k => xsL k s en i (asInts out)) r := fun h => spec2 (by
      unfold xsSign
      rw [hw]
      refine Ev.bindc (specIsT q.1) ?_
      exact Ev.ifp t1 h)
    by_cases t2 : q.1 = 13
    · exact ⟨(⟨#[]⟩, -1), .inl rfl, spec3 (Ev.ifp t2 (Ev.now _)), impl3 (Ev.ifp t2 (Ev.now _))⟩
    by_cases t3 : q.1 = 60
    · exact ⟨(⟨#[]⟩, -1), .inl rfl, spec3 (Ev.ifn t2 (Ev.ifp t3 (Ev.now _))), impl3 (Ev.ifn t2 (Ev.ifp t3 (Ev.now _)))⟩
    have hsf := stands_f s hs i endB (by decide) i0 is
    obtain ⟨r6, e6, h6⟩ := find_e en hen 62 (by decide) (by decide)
    by_cases cs : standsAt s i endB ∧ ¬ inE en 62
    · refine ⟨(⟨#[]⟩, -1), .inl rfl, spec3 ?_, dead_end en (by rw [← ((stands3 s i i0).1 cs.1).2.1]; exact c34) cs.2 s hs a i a0 ai cs.1 out (by omega)⟩
      refine Ev.ifn t2 ?_
      refine Ev.ifn t3 ?_
      refine Ev.bind (Ev.up 1 (fun k => specPut_f k q.1)) ?_
      refine Ev.ifp ⟨by omega, qe⟩ ?_
      refine Ev.ifp cc ?_
      refine Ev.bindc hsf ?_
      rw [decide_eq_true cs.1]
      refine Ev.ifp rfl ?_
      refine Ev.bind e6 ?_
      exact Ev.ifp (by have := mt h6.1 cs.2; omega) (Ev.now _)
    have hcl : (putF q.1).toList.length = q.2.toNat := by rw [cc, Lib.toList_data, ← Lib.size_eq, hxs]
    have hby := (ext_iff s i i0 (putF q.1).toList (by rw [hcl]; omega)).1 (by rw [hcl, show i + ((q.2.toNat : Nat) : Int) = i + q.2 by omega]; exact cc.symm)
    obtain ⟨r, r1, r2, r3⟩ := ih (i + q.2) (out ++ (s.extract i.toNat (i + q.2).toNat).data.toList) (by omega) (by omega) qe (by rw [List.length_append, ← Lib.size_eq, hxs]; omega) (fun c62 p p0 p1 h => by
      by_cases c : p < i
      · exact hno c62 p p0 c h
      · by_cases ce : p = i
        · subst ce; exact cs ⟨h, c62⟩
        · have h93 := ((stands3 s p (by omega)).1 h).2.1
          have hj : (p - i).toNat < (putF q.1).toList.length := by rw [hcl]; omega
          have hbp := hby (p - i).toNat hj
          rw [show i + (((p - i).toNat : Nat) : Int) = p by omega] at hbp
          have := put_high q.1 (by rw [hcl]; omega) _ (List.getElem_mem hj)
          omega)
    refine ⟨r, r1, spec3 ?_, impl3 ?_⟩
    · refine Ev.ifn t2 ?_
      refine Ev.ifn t3 ?_
      refine Ev.bind (Ev.up 1 (fun k => specPut_f k q.1)) ?_
      refine Ev.ifp ⟨by omega, qe⟩ ?_
      refine Ev.ifp cc ?_
      refine Ev.bindc hsf ?_
      have goS : Ev (fun n => xsGo (xsL n s en) s i q.2 (asInts out)) r := by
        unfold xsGo
        rw [hw]
        refine Ev.ifp (by rw [hlen, hxs]; omega) ?_
        rw [show asInts out ++ bytesOf (s.extract i.toNat (i + q.2).toNat) = asInts (out ++ (s.extract i.toNat (i + q.2).toNat).data.toList) by simp [asInts, bytesOf]]
        exact r2
      by_cases st : standsAt s i endB
      · rw [decide_eq_true st]
        refine Ev.ifp rfl ?_
        refine Ev.bind e6 ?_
        have h62 : inE en 62 := Classical.byContradiction fun h => cs ⟨st, h⟩
        exact Ev.ifn (by have := h6.2 h62; omega) goS
      · rw [decide_eq_false st]
        exact Ev.ifn (by simp) goS
    · have go : Ev (fun n => xtGo (xtL n s a en) s i q.2 out) r := by
        unfold xtGo
        rw [hw]
        exact Ev.ifp ⟨by omega, qe, by rw [hxs]; omega⟩ r3
      refine Ev.ifn t2 ?_
      refine Ev.ifn t3 ?_
      by_cases t4 : q.1 = 62
      · refine Ev.ifp t4 ?_
        refine Ev.ifp ⟨a0, ai, is⟩ ?_
        refine Ev.bindc (suffix_f s hs a i a0 ai is) ?_
        have hp62 : (putF q.1).toList = [62] := by rw [t4, put_low_list 62 (by decide) (by decide)]; rfl
        have hb62 : bt s i = 62 := by
          have := hby 0 (by rw [hp62]; decide)
          rw [show i + ((0 : Nat) : Int) = i by omega] at this
          rw [this]
          simp only [hp62]
          rfl
        rw [decide_eq_false (fun h => hno (by rw [← hb62]; exact c34) (i - 2) (by omega) (by omega) ((stands3 s (i - 2) (by omega)).2 ⟨by omega, h.2.1, by rw [show i - 2 + 1 = i - 1 by omega]; exact h.2.2, by rw [show i - 2 + 2 = i by omega]; exact hb62⟩))]
        exact Ev.ifn (by simp) go
      · exact Ev.ifn t4 go
theorem text_both (en : ByteArray) (hen : en.size ≤ 1048576) (s : ByteArray) (hs : s.size ≤ 1048576) (a : Int) (a0 : 0 ≤ a) : ∃ q : ByteArray × Int, TextOk s a q ∧ Ev (fun k => spec_XmlText.f k s a en) q ∧ Ev (fun k => impl_XmlText.f k s a en) q := by
  by_cases c : a ≤ s.size
  · obtain ⟨q, h1, h2, h3⟩ := text_l en hen s hs a a0 _ a [] (Nat.le_refl _) (Int.le_refl _) c (by simp; omega) (fun _ p p0 p1 => absurd p1 (by omega))
    refine ⟨q, h1, ?_, ?_⟩
    · unfold spec_XmlText.f
      refine Ev.ifn (by omega) ?_
      exact Ev.ifn (by omega) h2
    · unfold impl_XmlText.f
      refine Ev.bindc (inRange_f _ _ _) ?_
      rw [decide_eq_true (show 0 ≤ a ∧ a ≤ (s.size : Int) from ⟨a0, c⟩)]
      exact Ev.ifp rfl h3
  · refine ⟨(⟨#[]⟩, -1), .inl rfl, ?_, ?_⟩
    · unfold spec_XmlText.f
      refine Ev.ifn (by omega) ?_
      exact Ev.ifp (by omega) (Ev.now _)
    · unfold impl_XmlText.f
      refine Ev.bindc (inRange_f _ _ _) ?_
      rw [decide_eq_false (show ¬ (0 ≤ a ∧ a ≤ (s.size : Int)) from fun h => c h.2)]
      exact Ev.ifn (by simp) (Ev.now _)
theorem signs_both (s : ByteArray) (hs : s.size ≤ 1048576) : ∃ l : List Int, l.length ≤ s.size ∧ Ev (fun k => spec_Signs.f k s) l ∧ Ev (fun k => impl_Signs.f k s) l := by
  have key : ∀ (d : Nat) (j : Int) (o : List Int), 0 ≤ j → ((s.size : Int) - j).toNat ≤ d → o.length ≤ j.toNat → o.length ≤ s.size → ∃ l : List Int, l.length ≤ s.size ∧ Ev (fun k => spec_Signs.l0 k s o j) l ∧ Ev (fun k => impl_Signs.l0 k s o j) l := by
    intro d
    induction d with
    | zero =>
      intro j o h0 hd ho hos
      exact ⟨o, hos, Ev.step (fun k => by simp only [spec_Signs.l0]; rfl) (Ev.ifn (by omega) (Ev.now _)), Ev.step (fun k => by simp only [impl_Signs.l0]; rfl) (Ev.ifn (by omega) (Ev.now _))⟩
    | succ d ih =>
      intro j o h0 hd ho hos
      by_cases hj : j < (s.size : Int)
      · obtain ⟨q, q1, q2, _, e1, e2⟩ := sign_both s hs j h0 hj
        have hw : wrap64 (j + q.2) = j + q.2 := by unfold wrap64; omega
        obtain ⟨l, hl, g1, g2⟩ := ih (j + q.2) (o ++ [q.1]) (by omega) (by omega) (by rw [List.length_append, List.length_singleton]; omega) (by rw [List.length_append, List.length_singleton]; omega)
        rw [← hw] at g1 g2
        exact ⟨l, hl, Ev.step (fun k => by simp only [spec_Signs.l0]; rfl) (Ev.ifp hj (Ev.bind e1 (Ev.ifp (show o.length < 17592186044416 by omega) g1))), Ev.step (fun k => by simp only [impl_Signs.l0]; rfl) (Ev.ifp hj (Ev.bind e2 (Ev.ifp (show o.length < 17592186044416 by omega) g2)))⟩
      · exact ⟨o, hos, Ev.step (fun k => by simp only [spec_Signs.l0]; rfl) (Ev.ifn hj (Ev.now _)), Ev.step (fun k => by simp only [impl_Signs.l0]; rfl) (Ev.ifn hj (Ev.now _))⟩
  obtain ⟨l, hl, e1, e2⟩ := key s.size 0 [] (by omega) (by omega) (by simp) (by simp)
  exact ⟨l, hl, e1, e2⟩
theorem sg_ex : ∀ (l : List Int) (o : List UInt8), o.length + 4 * l.length ≤ 140737488355327 → ∃ t : ByteArray, t.size ≤ o.length + 4 * l.length ∧ ∀ ps : Nat → Int → Option ByteArray, (∀ k n, ps (k + 1) n = some (putF n)) → Ev (fun k => sgF (ps k) l o) t
  | [], o, h => ⟨⟨o.toArray⟩, by simp [ByteArray.size], fun ps hp => by simp only [sgF]; exact Ev.now _⟩
  | n :: r, o, h => by
    have h4 := putF_size n
    rw [List.length_cons] at h
    have hl : (o ++ (putF n).data.toList).length = o.length + (putF n).size := by rw [List.length_append, data_length]
    obtain ⟨t, ht, e⟩ := sg_ex r (o ++ (putF n).data.toList) (by rw [hl]; omega)
    refine ⟨t, by rw [hl] at ht; rw [List.length_cons]; omega, fun ps hp => ?_⟩
    simp only [sgF]
    exact Ev.bind (Ev.up 1 (fun k => hp k n)) (Ev.ifp (by omega) (e ps hp))
theorem clean_text_both (s : ByteArray) (hs : s.size ≤ 1048576) : ∃ l : List Int, ∃ t : ByteArray, l.length ≤ s.size ∧ t.size ≤ 4194304 ∧ Ev (fun k => spec_Signs.f k s) l ∧ Ev (fun k => impl_Signs.f k s) l ∧ Ev (fun k => spec_SignText.f k l) t ∧ Ev (fun k => impl_SignText.f k l) t := by
  obtain ⟨l, hl, e1, e2⟩ := signs_both s hs
  obtain ⟨t, ht, e3⟩ := sg_ex l [] (by simp; omega)
  refine ⟨l, t, hl, by simp at ht; omega, e1, e2, ?_, ?_⟩
  · unfold spec_SignText.f; exact e3 _ specPut_f
  · unfold impl_SignText.f; exact e3 _ implPut_f
theorem all_text (l : List Int) (hl : l.length ≤ 1048576) (b : Bool) (S I : Nat → Option Bool) (hS : Ev S b) (hI : Ev I b) (s : ByteArray)
    (fS : ∀ k j, spec_TextOk.l0 (k + 1) s l j = if j < (l.length : Int) then (if 0 ≤ j then ((spec_IsText.f (rd l j)).bind fun t433 => (if t433 = true then (spec_TextOk.l0 k s l (wrap64 (j + 1))) else (some false))) else (none)) else (S k))
    (fI : ∀ k j, impl_TextOk.l0 (k + 1) s l (l.length : Int) j = if j < (l.length : Int) then (if 0 ≤ j then (if j < (l.length : Int) then ((impl_IsText.f (rd l j)).bind fun t403 => (if t403 = true then (impl_TextOk.l0 k s l (l.length : Int) (wrap64 (j + 1))) else (some false))) else (none)) else (none)) else (I k)) :
    ∀ (d : Nat) (j : Int), 0 ≤ j → ((l.length : Int) - j).toNat ≤ d → ∃ r : Bool, Ev (fun k => spec_TextOk.l0 k s l j) r ∧ Ev (fun k => impl_TextOk.l0 k s l (l.length : Int) j) r := by
  intro d
  induction d with
  | zero =>
    intro j h0 hd
    refine ⟨b, ?_, ?_⟩
    · refine Ev.step (fun k => fS k j) ?_
      exact Ev.ifn (by omega) hS
    · refine Ev.step (fun k => fI k j) ?_
      exact Ev.ifn (by omega) hI
  | succ d ih =>
    intro j h0 hd
    by_cases hj : j < (l.length : Int)
    case neg => exact ih j h0 (by omega)
    have hw : wrap64 (j + 1) = j + 1 := by unfold wrap64; omega
    obtain ⟨r, e1, e2⟩ := ih (j + 1) (by omega) (by omega)
    by_cases ht : isT (rd l j) = true
    · refine ⟨r, ?_, ?_⟩
      · refine Ev.step (fun k => fS k j) ?_
        rw [hw]
        refine Ev.ifp hj ?_
        refine Ev.ifp h0 ?_
        refine Ev.bindc (specIsT _) ?_
        exact Ev.ifp ht e1
      · refine Ev.step (fun k => fI k j) ?_
        rw [hw]
        refine Ev.ifp hj ?_
        refine Ev.ifp h0 ?_
        refine Ev.ifp hj ?_
        refine Ev.bindc (implIsT _) ?_
        exact Ev.ifp ht e2
    · refine ⟨false, ?_, ?_⟩
      · refine Ev.step (fun k => fS k j) ?_
        refine Ev.ifp hj ?_
        refine Ev.ifp h0 ?_
        refine Ev.bindc (specIsT _) ?_
        exact Ev.ifn ht (Ev.now _)
      · refine Ev.step (fun k => fI k j) ?_
        refine Ev.ifp hj ?_
        refine Ev.ifp h0 ?_
        refine Ev.ifp hj ?_
        refine Ev.bindc (implIsT _) ?_
        exact Ev.ifn ht (Ev.now _)
theorem textOk_both (s : ByteArray) (hs : s.size ≤ 1048576) : ∃ r : Bool, Ev (fun k => spec_TextOk.f k s) r ∧ Ev (fun k => impl_TextOk.f k s) r := by
  obtain ⟨l, t, hl, ht, e1, e2, e3, e4⟩ := clean_text_both s hs
  have hS : Ev (fun k => (spec_CleanOk.f k s).bind fun t434 => (some t434)) (t.toList == s.toList) := by
    refine Ev.bind ?_ (Ev.now _)
    unfold spec_CleanOk.f spec_Clean.f
    refine Ev.bind (Ev.bind e1 (Ev.bind e3 (Ev.now t))) (Ev.now _)
  have hI : Ev (fun k => (impl_CleanOk.f k s).bind fun t404 => (some t404)) (t.toList == s.toList) := by
    refine Ev.bind ?_ (Ev.now _)
    unfold impl_CleanOk.f impl_Clean.f
    refine Ev.bind (Ev.bind e2 (Ev.bind e4 (Ev.now t))) (Ev.now _)
  obtain ⟨r, f1, f2⟩ := all_text l (by omega) _ _ _ hS hI s (fun k j => by rw [spec_TextOk.l0]) (fun k j => by rw [impl_TextOk.l0]) _ 0 (by omega) (Nat.le_refl _)
  refine ⟨r, ?_, ?_⟩
  · unfold spec_TextOk.f
    exact Ev.bind e1 f1
  · unfold impl_TextOk.f
    exact Ev.bind e2 f2
theorem search_l (s : ByteArray) (hs : s.size ≤ 1048576) (nm : ByteArray) (hn : nm.size ≤ 1000) (n1 : 1 ≤ nm.size) : ∀ (d : Nat) (i : Int), ((s.size : Int) - i).toNat ≤ d → 0 ≤ i → i ≤ s.size →
    ∃ r : Int, Ev (fun k => spec_l5Search.l0 k s i nm) r ∧ ((r = -1 ∧ ∀ j : Int, i ≤ j → ¬ standsAt s j nm) ∨ (i ≤ r ∧ standsAt s r nm ∧ ∀ j : Int, i ≤ j → j < r → ¬ standsAt s j nm)) := by
  intro d
  induction d with
  | zero =>
    intro i hd h0 h1
    have hw : wrap64 (i + (nm.size : Int)) = i + nm.size := by unfold wrap64; omega
    refine ⟨-1, ?_, .inl ⟨rfl, fun j hj h => by have := h.1; omega⟩⟩
    refine Ev.step (fun k => by simp only [spec_l5Search.l0]; rfl) ?_
    rw [hw]
    exact Ev.ifn (by omega) (Ev.now _)
  | succ d ih =>
    intro i hd h0 h1
    have hw : wrap64 (i + (nm.size : Int)) = i + nm.size := by unfold wrap64; omega
    have hw1 : wrap64 (i + 1) = i + 1 := by unfold wrap64; omega
    by_cases c : i + nm.size ≤ s.size
    · by_cases st : standsAt s i nm
      · refine ⟨i, ?_, .inr ⟨Int.le_refl _, st, fun j h2 h3 => by omega⟩⟩
        refine Ev.step (fun k => by simp only [spec_l5Search.l0]; rfl) ?_
        rw [hw]
        refine Ev.ifp c ?_
        refine Ev.bindc (stands_f s hs i nm (by omega) h0 h1) ?_
        rw [decide_eq_true st]
        exact Ev.ifp rfl (Ev.now _)
      · obtain ⟨r, e1, e2⟩ := ih (i + 1) (by omega) (by omega) (by omega)
        refine ⟨r, ?_, ?_⟩
        · refine Ev.step (fun k => by simp only [spec_l5Search.l0]; rfl) ?_
          rw [hw, hw1]
          refine Ev.ifp c ?_
          refine Ev.bindc (stands_f s hs i nm (by omega) h0 h1) ?_
          rw [decide_eq_false st]
          exact Ev.ifn (by simp) e1
        · have ex : ∀ j : Int, i ≤ j → (i + 1 ≤ j → ¬ standsAt s j nm) → ¬ standsAt s j nm := fun j hj hh => by
            by_cases e : j = i
            · rw [e]; exact st
            · exact hh (by omega)
          rcases e2 with ⟨h3, h4⟩ | ⟨h3, h4, h5⟩
          · exact .inl ⟨h3, fun j hj => ex j hj (h4 j)⟩
          · exact .inr ⟨by omega, h4, fun j hj hr => ex j hj (fun h6 => h5 j h6 hr)⟩
    · refine ⟨-1, ?_, .inl ⟨rfl, fun j hj h => by have := h.1; omega⟩⟩
      refine Ev.step (fun k => by simp only [spec_l5Search.l0]; rfl) ?_
      rw [hw]
      exact Ev.ifn c (Ev.now _)
theorem occ_iff (s nm : ByteArray) (n1 : 1 ≤ nm.size) (i j : Nat) : Lib.occAt (s.data.toList.drop i) nm.data.toList j = true ↔ standsAt s ((i + j : Nat) : Int) nm := by
  unfold Lib.occAt standsAt
  rw [List.isPrefixOf_iff_prefix, List.drop_drop, List.prefix_iff_eq_take, Lib.toList_data, Lib.toList_data, ByteArray.data_extract, Array.toList_extract, List.extract_eq_take_drop, ← Lib.size_eq nm,
    show (((i + j : Nat) : Int) + (nm.size : Int)).toNat - (((i + j : Nat) : Int)).toNat = nm.size by omega, show (((i + j : Nat) : Int)).toNat = i + j by omega]
  constructor
  · intro h
    refine ⟨?_, h.symm⟩
    have := congrArg List.length h
    rw [List.length_take, List.length_drop, ← Lib.size_eq, ← Lib.size_eq] at this
    omega
  · intro h
    exact h.2.symm
theorem search_both (s : ByteArray) (hs : s.size ≤ 1048576) (nm : ByteArray) (hn : nm.size ≤ 1000) (n1 : 1 ≤ nm.size) (i : Nat) (hi : i ≤ s.size) :
    ∃ r : Int, Ev (fun k => spec_l5Search.f k s (i : Int) nm) r ∧ ((r = -1 ∧ Lib.index (s.data.toList.drop i) nm.data.toList = -1) ∨ ((i : Int) ≤ r ∧ standsAt s r nm ∧ Lib.index (s.data.toList.drop i) nm.data.toList = r - i)) := by
  obtain ⟨r, e1, e2⟩ := search_l s hs nm hn n1 _ (i : Int) (Nat.le_refl _) (by omega) (by omega)
  refine ⟨r, e1, ?_⟩
  have hz := Lib.size_eq s
  rcases e2 with ⟨h1, h2⟩ | ⟨h1, h2, h3⟩
  · refine .inl ⟨h1, Lib.index_none (fun j hj => ?_)⟩
    rw [Bool.eq_false_iff]
    intro h
    exact h2 _ (by omega) ((occ_iff s nm n1 i j).1 h)
  · refine .inr ⟨h1, h2, ?_⟩
    have hr := h2.1
    have he : ((i + (r - i).toNat : Nat) : Int) = r := by omega
    have := Lib.index_first (s := s.data.toList.drop i) (sub := nm.data.toList) (i := (r - i).toNat) (by rw [List.length_drop]; omega) ((occ_iff s nm n1 i (r - i).toNat).2 (by rw [he]; exact h2)) (fun j hj => by
      rw [Bool.eq_false_iff]
      intro h
      exact h3 _ (by omega) (by omega) ((occ_iff s nm n1 i j).1 h))
    rw [this]
    omega
theorem mem_index (l : List UInt8) (c : UInt8) : 0 ≤ Lib.index l [c] ↔ c ∈ l := by
  rw [Lib.index_one]
  have := Lib.contains_iff_indexByte l c
  constructor
  · intro h
    rw [decide_eq_true h] at this
    simpa using this
  · intro h
    have h2 : l.contains c = true := by simpa using h
    rw [h2] at this
    exact of_decide_eq_true this.symm
theorem note_both (x : ByteArray) (hx : x.size ≤ 1048576) : ∃ r : Bool, Ev (fun k => spec_NoteOk.f k x) r ∧ Ev (fun k => impl_NoteOk.f k x) r := by
  obtain ⟨r, e1, e2⟩ := textOk_both x hx
  by_cases c0 : r = true
  case neg => exact ⟨false, by unfold spec_NoteOk.f; exact Ev.bind e1 (Ev.ifn c0 (Ev.now _)), by unfold impl_NoteOk.f; exact Ev.bind e2 (Ev.ifn c0 (Ev.now _))⟩
  obtain ⟨r13, f13, g13⟩ := find_e x hx 13 (by decide) (by decide)
  obtain ⟨r2, f2, g2⟩ := search_both x hx (⟨#[45, 45]⟩ : ByteArray) (by decide) (by decide) 0 (by omega)
  rw [List.drop_zero] at g2
  have s13 : strings_Contains.f x (⟨#[13]⟩ : ByteArray) = some (decide (0 ≤ r13)) := by
    unfold strings_Contains.f
    rw [if_pos (by omega)]
    congr 1
    unfold Lib.contains
    exact decide_eq_decide.mpr ((mem_index x.data.toList 13).trans g13.symm)
  have s2 : strings_Contains.f x (⟨#[45, 45]⟩ : ByteArray) = some (decide (0 ≤ r2)) := by
    unfold strings_Contains.f
    rw [if_pos (by omega)]
    congr 1
    unfold Lib.contains
    apply decide_eq_decide.mpr
    have hl : (⟨#[45, 45]⟩ : ByteArray).data.toList = [45, 45] := rfl
    rw [hl] at g2 ⊢
    rcases g2 with ⟨h1, h2⟩ | ⟨h1, h2, h3⟩ <;> omega
  by_cases c13 : 0 ≤ r13
  · refine ⟨false, ?_, ?_⟩
    · unfold spec_NoteOk.f
      refine Ev.bind e1 ?_
      refine Ev.ifp c0 ?_
      refine Ev.bind f13 ?_
      exact Ev.ifn (by omega) (Ev.now _)
    · unfold impl_NoteOk.f
      refine Ev.bind e2 ?_
      refine Ev.ifp c0 ?_
      refine Ev.bindc s13 ?_
      exact Ev.ifp (decide_eq_true c13) (Ev.now _)
  have spec1 : ∀ {q : Bool}, Ev (fun k => (spec_l5Search.f k x 0 (⟨#[45, 45]⟩ : ByteArray)).bind fun t437 => (if t437 < 0 then (if x.toList = ([] : List UInt8) then (some true) else (if 0 ≤ (wrap64 ((x.size : Int) - 1)) then (if (wrap64 ((x.size : Int) - 1)) < (x.size : Int) then (some ((bt x (wrap64 ((x.size : Int) - 1))) != 45)) else (none)) else (none))) else (some false))) q → Ev (fun k => spec_NoteOk.f k x) q := fun h => by
    unfold spec_NoteOk.f
    refine Ev.bind e1 ?_
    refine Ev.ifp c0 ?_
    refine Ev.bind f13 ?_
    exact Ev.ifp (by omega) h
  have impl1 : ∀ {q : Bool}, Ev (fun k => (strings_Contains.f x (⟨#[45, 45]⟩ : ByteArray)).bind fun t407 => (if t407 = true then (some false) else ((strings_HasSuffix.f x (⟨#[45]⟩ : ByteArray)).bind fun t408 => (some (!t408))))) q → Ev (fun k => impl_NoteOk.f k x) q := fun h => by
    unfold impl_NoteOk.f
    refine Ev.bind e2 ?_
    refine Ev.ifp c0 ?_
    refine Ev.bindc s13 ?_
    exact Ev.ifn (by rw [decide_eq_false c13]; simp) h
  by_cases c2 : 0 ≤ r2
  · refine ⟨false, spec1 ?_, impl1 ?_⟩
    · refine Ev.bind f2 ?_
      exact Ev.ifn (by omega) (Ev.now _)
    · refine Ev.bindc s2 ?_
      exact Ev.ifp (decide_eq_true c2) (Ev.now _)
  have h1s : ((⟨#[45]⟩ : ByteArray).size : Int) = 1 := rfl
  have h1l : (⟨#[45]⟩ : ByteArray).toList = [45] := by rw [Lib.toList_data]
  by_cases ce : x.toList = []
  · have hz : x.size = 0 := by rw [Lib.size_eq, ← Lib.toList_data, ce]; rfl
    refine ⟨true, spec1 ?_, impl1 ?_⟩
    · refine Ev.bind f2 ?_
      refine Ev.ifp (by omega) ?_
      exact Ev.ifp ce (Ev.now _)
    · refine Ev.bindc s2 ?_
      refine Ev.ifn (by rw [decide_eq_false c2]; simp) ?_
      refine Ev.bindc (a := false) ?_ (Ev.now _)
      unfold strings_HasSuffix.f stringslite_HasSuffix.f
      rw [if_neg (by rw [h1s, hz]; decide)]
      rfl
  · have hz : 1 ≤ x.size := by
      rw [Lib.size_eq, ← Lib.toList_data]
      exact List.length_pos_iff.mpr ce
    have hw : wrap64 ((x.size : Int) - 1) = (x.size : Int) - 1 := by unfold wrap64; omega
    refine ⟨bt x ((x.size : Int) - 1) != 45, spec1 ?_, impl1 ?_⟩
    · refine Ev.bind f2 ?_
      refine Ev.ifp (by omega) ?_
      refine Ev.ifn ce ?_
      rw [hw]
      refine Ev.ifp (by omega) ?_
      exact Ev.ifp (by omega) (Ev.now _)
    · refine Ev.bindc s2 ?_
      refine Ev.ifn (by rw [decide_eq_false c2]; simp) ?_
      refine Ev.bindc (a := bt x ((x.size : Int) - 1) == 45) ?_ (Ev.now _)
      unfold strings_HasSuffix.f stringslite_HasSuffix.f
      have hi := ext_iff x ((x.size : Int) - 1) (by omega) [45] (by show (x.size : Int) - 1 + 1 ≤ _; omega)
      rw [show ((x.size : Int) - 1 + (([45] : List UInt8).length : Int)).toNat = x.size by show ((x.size : Int) - 1 + ((1 : Nat) : Int)).toNat = _; omega] at hi
      rw [h1s, hw, if_pos (by omega), if_pos (by omega), if_pos (by omega), Option.bind_some, h1l]
      congr 1
      by_cases e : bt x ((x.size : Int) - 1) = 45
      · rw [beq_iff_eq.mpr e]
        apply beq_iff_eq.mpr
        refine hi.2 (fun j hj => ?_)
        have hj0 : j = 0 := by have : j < 1 := hj; omega
        subst hj0
        rw [show (x.size : Int) - 1 + ((0 : Nat) : Int) = (x.size : Int) - 1 by omega]
        exact e
      · rw [beq_eq_false_iff_ne.mpr e]
        apply beq_eq_false_iff_ne.mpr
        intro h
        have := hi.1 h 0 (by simp)
        rw [show (x.size : Int) - 1 + ((0 : Nat) : Int) = (x.size : Int) - 1 by omega] at this
        exact e this
theorem xnote_both (s : ByteArray) (hs : s.size ≤ 1048576) (a : Int) : ∃ q : ByteArray × Int, Ev (fun k => spec_XmlNote.f k s a) q ∧ Ev (fun k => impl_XmlNote.f k s a) q := by
  have hw1 : wrap64 ((s.size : Int) - 1) = (s.size : Int) - 1 := by unfold wrap64; omega
  have sj : Ev (fun k => spec_XmlNote.j0 k s a true) ((⟨#[]⟩ : ByteArray), (-1 : Int)) := by
    refine Ev.step (fun k => by simp only [spec_XmlNote.j0]; rfl) ?_
    exact Ev.ifp trivial (Ev.now _)
  by_cases c : 0 ≤ a ∧ a ≤ (s.size : Int) - 1
  case neg =>
    refine ⟨((⟨#[]⟩ : ByteArray), (-1 : Int)), ?_, ?_⟩
    · unfold spec_XmlNote.f
      by_cases c1 : a < 0
      · exact Ev.ifp c1 sj
      · refine Ev.ifn c1 ?_
        exact Ev.ifp (by omega) sj
    · unfold impl_XmlNote.f
      refine Ev.bindc (inRange_f _ _ _) ?_
      rw [hw1, decide_eq_false c]
      exact Ev.ifn (by simp) (Ev.now _)
  obtain ⟨a0, a1⟩ := c
  have spec0 : ∀ {q : ByteArray × Int}, Ev (fun k => spec_XmlNote.j0 k s a (!decide (standsAt s a (⟨#[60, 33, 45, 45]⟩ : ByteArray)))) q → Ev (fun k => spec_XmlNote.f k s a) q := fun h => by
    unfold spec_XmlNote.f
    refine Ev.ifn (by omega) ?_
    refine Ev.ifn (by omega) ?_
    exact Ev.bindc (stands_f s hs a _ (by decide) a0 (by omega)) h
  have cut := cut_f s a (⟨#[60, 33, 45, 45]⟩ : ByteArray) a0 (by omega)
  by_cases st : standsAt s a (⟨#[60, 33, 45, 45]⟩ : ByteArray)
  case neg =>
    rw [decide_eq_false st] at spec0
    refine ⟨_, spec0 sj, ?_⟩
    unfold impl_XmlNote.f
    refine Ev.bindc (inRange_f _ _ _) ?_
    rw [hw1, decide_eq_true (show 0 ≤ a ∧ a ≤ (s.size : Int) - 1 from ⟨a0, a1⟩)]
    refine Ev.ifp rfl ?_
    refine Ev.ifp a0 ?_
    refine Ev.ifp (by omega) ?_
    rw [if_neg st] at cut
    refine Ev.bindc cut ?_
    refine Ev.bindc (a := Lib.index (s.extract a.toNat s.size).data.toList [45, 45]) (by unfold strings_Index.f; rw [if_pos (by rw [ByteArray.size_extract]; omega)]) ?_
    exact Ev.ifn (by simp) (Ev.now _)
  rw [decide_eq_true st] at spec0
  have h4 : a + 4 ≤ s.size := st.1
  have hw4 : wrap64 (a + 4) = a + 4 := by unfold wrap64; omega
  have h4n : ((⟨#[60, 33, 45, 45]⟩ : ByteArray).size : Int) = 4 := rfl
  rw [if_pos st, h4n] at cut
  obtain ⟨e, f1, g1⟩ := search_both s hs (⟨#[45, 45]⟩ : ByteArray) (by decide) (by decide) (a + 4).toNat (by omega)
  rw [show (((a + 4).toNat : Nat) : Int) = a + 4 by omega] at f1 g1
  have hL : (s.extract (a + 4).toNat s.size).data.toList = s.data.toList.drop (a + 4).toNat := by
    rw [ByteArray.data_extract, Array.toList_extract, List.extract_eq_take_drop]
    apply List.take_of_length_le
    rw [List.length_drop, Array.length_toList]
    exact Nat.le_refl _
  have hdsz : (s.extract (a + 4).toNat s.size).size = s.size - (a + 4).toNat := by rw [ByteArray.size_extract]; omega
  have hix : strings_Index.f (s.extract (a + 4).toNat s.size) (⟨#[45, 45]⟩ : ByteArray) = some (Lib.index (s.data.toList.drop (a + 4).toNat) (⟨#[45, 45]⟩ : ByteArray).data.toList) := by
    unfold strings_Index.f
    rw [if_pos (by omega), hL]
  have spec1 : ∀ {q : ByteArray × Int}, Ev (fun k => (spec_l5Search.f k s (a + 4) (⟨#[45, 45]⟩ : ByteArray)).bind fun t439 => (if t439 < 0 then (some ((⟨#[]⟩ : ByteArray), (-1 : Int))) else ((spec_l5Stands.f s t439 (⟨#[45, 45, 62]⟩ : ByteArray)).bind fun t440 => (if t440 = true then (if 0 ≤ a + 4 then (if a + 4 ≤ t439 then (if t439 ≤ (s.size : Int) then ((spec_NoteOk.f k (s.extract (a + 4).toNat (t439 : Int).toNat)).bind fun t441 => (if t441 = true then (some (s.extract (a + 4).toNat (t439 : Int).toNat, wrap64 (t439 + 3))) else (some ((⟨#[]⟩ : ByteArray), (-1))))) else (none)) else (none)) else (none)) else (some ((⟨#[]⟩ : ByteArray), (-1))))))) q → Ev (fun k => spec_XmlNote.f k s a) q := fun h => by
    refine spec0 ?_
    refine Ev.step (fun k => by simp only [spec_XmlNote.j0]; rfl) ?_
    rw [hw4]
    exact Ev.ifn (by simp) h
  have impl1 : ∀ {q : ByteArray × Int} (t : Int), strings_Index.f (s.extract (a + 4).toNat s.size) (⟨#[45, 45]⟩ : ByteArray) = some t → Ev (fun k => (if t < 0 then (some ((⟨#[]⟩ : ByteArray), (-1 : Int))) else (if 0 ≤ t then (if t ≤ ((s.extract (a + 4).toNat s.size).size : Int) then ((impl_NoteOk.f k ((s.extract (a + 4).toNat s.size).extract 0 (t : Int).toNat)).bind fun t413 => (if t413 = true then ((strings_HasPrefix.f ((s.extract (a + 4).toNat s.size).extract (t : Int).toNat (s.extract (a + 4).toNat s.size).size) (⟨#[45, 45, 62]⟩ : ByteArray)).bind fun t414 => (if t414 = true then (some ((s.extract (a + 4).toNat s.size).extract 0 (t : Int).toNat, wrap64 ((wrap64 (a + 4 + t)) + 3))) else (some ((⟨#[]⟩ : ByteArray), (-1))))) else (some ((⟨#[]⟩ : ByteArray), (-1))))) else (none)) else (none)))) q → Ev (fun k => impl_XmlNote.f k s a) q := fun t ht h => by
    unfold impl_XmlNote.f
    refine Ev.bindc (inRange_f _ _ _) ?_
    rw [hw1, decide_eq_true (show 0 ≤ a ∧ a ≤ (s.size : Int) - 1 from ⟨a0, a1⟩)]
    refine Ev.ifp rfl ?_
    refine Ev.ifp a0 ?_
    refine Ev.ifp (by omega) ?_
    refine Ev.bindc cut ?_
    refine Ev.bindc ht ?_
    rw [hw4]
    exact Ev.ifp rfl h
  rcases g1 with ⟨g2, g3⟩ | ⟨g2, g3, g4⟩
  · rw [g3] at hix
    refine ⟨((⟨#[]⟩ : ByteArray), (-1 : Int)), spec1 ?_, impl1 _ hix ?_⟩
    · refine Ev.bind f1 ?_
      exact Ev.ifp (by omega) (Ev.now _)
    · exact Ev.ifp (by decide) (Ev.now _)
  rw [g4] at hix
  have ge : e + 2 ≤ s.size := g3.1
  have hx1 : (s.extract (a + 4).toNat s.size).extract 0 (e - (a + 4)).toNat = s.extract (a + 4).toNat e.toNat := by
    rw [ByteArray.extract_extract]
    congr 1
    omega
  have hx2 : (s.extract (a + 4).toNat s.size).extract (e - (a + 4)).toNat (s.size - (a + 4).toNat) = s.extract e.toNat s.size := by
    rw [ByteArray.extract_extract]
    congr 1
    · omega
    · omega
  have hwe : wrap64 (a + 4 + (e - (a + 4))) = e := by unfold wrap64; omega
  obtain ⟨r, n1, n2⟩ := note_both (s.extract (a + 4).toNat e.toNat) (by rw [ByteArray.size_extract]; omega)
  have hpf := hasPrefix_f s e (⟨#[45, 45, 62]⟩ : ByteArray) (by omega) (by omega)
  refine ⟨if standsAt s e (⟨#[45, 45, 62]⟩ : ByteArray) ∧ r = true then (s.extract (a + 4).toNat e.toNat, wrap64 (e + 3)) else ((⟨#[]⟩ : ByteArray), (-1 : Int)), spec1 ?_, impl1 _ hix ?_⟩
  · refine Ev.bind f1 ?_
    refine Ev.ifn (by omega) ?_
    refine Ev.bindc (stands_f s hs e _ (by decide) (by omega) (by omega)) ?_
    by_cases c1 : standsAt s e (⟨#[45, 45, 62]⟩ : ByteArray)
    · rw [decide_eq_true c1]
      refine Ev.ifp rfl ?_
      refine Ev.ifp (by omega) ?_
      refine Ev.ifp g2 ?_
      refine Ev.ifp (by omega) ?_
      refine Ev.bind n1 ?_
      by_cases c2 : r = true
      · rw [if_pos (show standsAt s e (⟨#[45, 45, 62]⟩ : ByteArray) ∧ r = true from ⟨c1, c2⟩)]
        exact Ev.ifp c2 (Ev.now _)
      · rw [if_neg (show ¬ (standsAt s e (⟨#[45, 45, 62]⟩ : ByteArray) ∧ r = true) from fun h => c2 h.2)]
        exact Ev.ifn c2 (Ev.now _)
    · rw [decide_eq_false c1, if_neg (show ¬ (standsAt s e (⟨#[45, 45, 62]⟩ : ByteArray) ∧ r = true) from fun h => c1 h.1)]
      exact Ev.ifn (by simp) (Ev.now _)
  · rw [hdsz, hx1, hx2, hwe]
    refine Ev.ifn (by omega) ?_
    refine Ev.ifp (by omega) ?_
    refine Ev.ifp (by omega) ?_
    refine Ev.bind n2 ?_
    by_cases c2 : r = true
    · refine Ev.ifp c2 ?_
      refine Ev.bindc hpf ?_
      by_cases c1 : standsAt s e (⟨#[45, 45, 62]⟩ : ByteArray)
      · rw [decide_eq_true c1, if_pos (show standsAt s e (⟨#[45, 45, 62]⟩ : ByteArray) ∧ r = true from ⟨c1, c2⟩)]
        exact Ev.ifp rfl (Ev.now _)
      · rw [decide_eq_false c1, if_neg (show ¬ (standsAt s e (⟨#[45, 45, 62]⟩ : ByteArray) ∧ r = true) from fun h => c1 h.1)]
        exact Ev.ifn (by simp) (Ev.now _)
    · rw [if_neg (show ¬ (standsAt s e (⟨#[45, 45, 62]⟩ : ByteArray) ∧ r = true) from fun h => c2 h.2)]
      exact Ev.ifn c2 (Ev.now _)
def esc1 (c : UInt8) (new : List UInt8) (l : List UInt8) : List UInt8 := l.flatMap fun b => if b = c then new else [b]
theorem replaceK_one (c : UInt8) (new : List UInt8) : ∀ l : List UInt8, Lib.replaceK [c] new (l.count c) l = esc1 c new l
  | [] => by simp [esc1, Lib.replaceK]
  | b :: l => by
    have ih := replaceK_one c new l
    by_cases h : b = c
    · subst h
      have hi : Lib.index (b :: l) [b] = ((0 : Nat) : Int) := by simp [Lib.index]
      rw [List.count_cons_self, Lib.replaceK_hit [b] new _ (b :: l) 0 hi]
      simp only [List.take_zero, List.nil_append, List.length_singleton, Nat.zero_add, List.drop_succ_cons, List.drop_zero, ih]
      simp [esc1]
    · have hc : (b :: l).count c = l.count c := by simp [List.count_cons, h]
      have hE : esc1 c new (b :: l) = b :: esc1 c new l := by simp [esc1, h]
      rw [hc, hE, ← ih]
      cases hk : l.count c with
      | zero => simp [Lib.replaceK]
      | succ k =>
        have hpos : 0 < Lib.count l [c] := by rw [Lib.count_one, hk]; omega
        obtain ⟨i, hi⟩ := Lib.index_of_count hpos
        have hi2 : Lib.index (b :: l) [c] = ((i + 1 : Nat) : Int) := by
          have hne : ¬ c = b := fun e => h e.symm
          simp only [Lib.index, List.isPrefixOf, hi]
          have h1 : (c == b) = false := beq_eq_false_iff_ne.mpr hne
          rw [h1, Bool.false_and, if_neg (by simp), if_neg (by intro e; have := beq_iff_eq.1 e; omega)]
          omega
        rw [Lib.replaceK_hit [c] new k (b :: l) (i + 1) hi2, Lib.replaceK_hit [c] new k l i hi]
        simp
theorem replaceAll_one (c : UInt8) (new l : List UInt8) (h : [c] ≠ new) : Lib.replaceAll l [c] new = esc1 c new l := by
  unfold Lib.replaceAll Lib.replace Lib.replaceNum
  rw [if_neg (by simpa using h), if_pos (Or.inl (by decide)), Lib.count_one, replaceK_one]
theorem replaceAll_f (a : ByteArray) (c : UInt8) (new : ByteArray) (ha : a.size ≤ 100000000) (hn : new.size ≤ 6) (h : [c] ≠ new.data.toList) : strings_ReplaceAll.f a (⟨#[c]⟩ : ByteArray) new = some ⟨(esc1 c new.data.toList a.data.toList).toArray⟩ := by
  unfold strings_ReplaceAll.f
  have hc := Lib.countB_le (⟨#[c]⟩ : ByteArray) (by show 1 ≤ 1; decide) a.size a (Nat.le_refl _)
  have hm : Lib.countB a (⟨#[c]⟩ : ByteArray) * new.size ≤ 100000000 * 6 := Nat.mul_le_mul (by omega) hn
  rw [if_pos ⟨by omega, by show 1 ≤ 1; decide, by omega⟩]
  congr 3
  exact replaceAll_one c new.data.toList a.data.toList h
theorem esc1_flat (c : UInt8) (new : List UInt8) (l : List UInt8) (g : UInt8 → List UInt8) : esc1 c new (l.flatMap g) = l.flatMap fun b => esc1 c new (g b) := by
  unfold esc1
  rw [List.flatMap_assoc]
theorem flat_len (l : List UInt8) (g : UInt8 → List UInt8) (h : ∀ b, (g b).length ≤ 6) : (l.flatMap g).length ≤ 6 * l.length := by
  induction l with
  | nil => simp
  | cons b l ih =>
    have := h b
    rw [List.flatMap_cons, List.length_append, List.length_cons]
    omega
theorem u8_all {p : UInt8 → Prop} [DecidablePred p] (h : ∀ n : Nat, n < 256 → p (UInt8.ofNat n)) (b : UInt8) : p b := by
  have := h b.toNat b.toNat_lt
  simpa using this
def e38 : List UInt8 := [38, 97, 109, 112, 59]
def e60 : List UInt8 := [38, 108, 116, 59]
def e62 : List UInt8 := [38, 103, 116, 59]
def e13 : List UInt8 := [38, 35, 49, 51, 59]
def e34 : List UInt8 := [38, 113, 117, 111, 116, 59]
def e9 : List UInt8 := [38, 35, 57, 59]
def e10 : List UInt8 := [38, 35, 49, 48, 59]
def g1 (b : UInt8) : List UInt8 := if b = 38 then e38 else [b]
def g2 (b : UInt8) : List UInt8 := if b = 60 then e60 else g1 b
def g3 (b : UInt8) : List UInt8 := if b = 62 then e62 else g2 b
def gT (b : UInt8) : List UInt8 := if b = 13 then e13 else g3 b
def g5 (b : UInt8) : List UInt8 := if b = 34 then e34 else gT b
def g6 (b : UInt8) : List UInt8 := if b = 9 then e9 else g5 b
def gV (b : UInt8) : List UInt8 := if b = 10 then e10 else g6 b
theorem g_steps : ∀ n : Nat, n < 256 → (esc1 60 e60 (g1 (UInt8.ofNat n)) = g2 (UInt8.ofNat n) ∧ esc1 62 e62 (g2 (UInt8.ofNat n)) = g3 (UInt8.ofNat n) ∧ esc1 13 e13 (g3 (UInt8.ofNat n)) = gT (UInt8.ofNat n)) ∧ (esc1 34 e34 (gT (UInt8.ofNat n)) = g5 (UInt8.ofNat n) ∧ esc1 9 e9 (g5 (UInt8.ofNat n)) = g6 (UInt8.ofNat n) ∧ esc1 10 e10 (g6 (UInt8.ofNat n)) = gV (UInt8.ofNat n)) := by decide +kernel
theorem g_lens : ∀ n : Nat, n < 256 → ((g1 (UInt8.ofNat n)).length ≤ 6 ∧ (g2 (UInt8.ofNat n)).length ≤ 6 ∧ (g3 (UInt8.ofNat n)).length ≤ 6 ∧ (gT (UInt8.ofNat n)).length ≤ 6) ∧ ((g5 (UInt8.ofNat n)).length ≤ 6 ∧ (g6 (UInt8.ofNat n)).length ≤ 6 ∧ (gV (UInt8.ofNat n)).length ≤ 6) := by decide +kernel
def escT (s : ByteArray) : ByteArray := ⟨(s.data.toList.flatMap gT).toArray⟩
def escV (s : ByteArray) : ByteArray := ⟨(s.data.toList.flatMap gV).toArray⟩
theorem rep_step (s : ByteArray) (hs : s.size ≤ 1048576) (g g' : UInt8 → List UInt8) (c : UInt8) (new : ByteArray) (hn : new.size ≤ 6) (hne : [c] ≠ new.data.toList) (hg : ∀ b, (g b).length ≤ 6) (hgg : ∀ b, esc1 c new.data.toList (g b) = g' b) :
    strings_ReplaceAll.f ⟨(s.data.toList.flatMap g).toArray⟩ (⟨#[c]⟩ : ByteArray) new = some ⟨(s.data.toList.flatMap g').toArray⟩ := by
  have hl := flat_len s.data.toList g hg
  have hsz : s.data.toList.length = s.size := (Lib.size_eq s).symm
  rw [replaceAll_f _ c new (by show (s.data.toList.flatMap g).toArray.size ≤ _; rw [List.size_toArray]; omega) hn hne]
  congr 2
  rw [show (⟨(s.data.toList.flatMap g).toArray⟩ : ByteArray).data.toList = s.data.toList.flatMap g from rfl, esc1_flat]
  rw [show (fun b => esc1 c new.data.toList (g b)) = g' from funext hgg]
theorem implEscape_f (s : ByteArray) (hs : s.size ≤ 1048576) (v : Bool) : impl_Escape.f s v = some (if v = true then escV s else escT s) := by
  have st := fun b => u8_all (p := fun b => (esc1 60 e60 (g1 b) = g2 b ∧ esc1 62 e62 (g2 b) = g3 b ∧ esc1 13 e13 (g3 b) = gT b) ∧ (esc1 34 e34 (gT b) = g5 b ∧ esc1 9 e9 (g5 b) = g6 b ∧ esc1 10 e10 (g6 b) = gV b)) g_steps b
  have ln := fun b => u8_all (p := fun b => ((g1 b).length ≤ 6 ∧ (g2 b).length ≤ 6 ∧ (g3 b).length ≤ 6 ∧ (gT b).length ≤ 6) ∧ ((g5 b).length ≤ 6 ∧ (g6 b).length ≤ 6 ∧ (gV b).length ≤ 6)) g_lens b
  have h1 : strings_ReplaceAll.f s (⟨#[38]⟩ : ByteArray) (⟨#[38, 97, 109, 112, 59]⟩ : ByteArray) = some ⟨(s.data.toList.flatMap g1).toArray⟩ := replaceAll_f s 38 (⟨#[38, 97, 109, 112, 59]⟩ : ByteArray) (by omega) (by decide) (by decide)
  have h2 := rep_step s hs g1 g2 60 (⟨#[38, 108, 116, 59]⟩ : ByteArray) (by decide) (by decide) (fun b => (ln b).1.1) (fun b => (st b).1.1)
  have h3 := rep_step s hs g2 g3 62 (⟨#[38, 103, 116, 59]⟩ : ByteArray) (by decide) (by decide) (fun b => (ln b).1.2.1) (fun b => (st b).1.2.1)
  have h4 := rep_step s hs g3 gT 13 (⟨#[38, 35, 49, 51, 59]⟩ : ByteArray) (by decide) (by decide) (fun b => (ln b).1.2.2.1) (fun b => (st b).1.2.2)
  have h5 := rep_step s hs gT g5 34 (⟨#[38, 113, 117, 111, 116, 59]⟩ : ByteArray) (by decide) (by decide) (fun b => (ln b).1.2.2.2) (fun b => (st b).2.1)
  have h6 := rep_step s hs g5 g6 9 (⟨#[38, 35, 57, 59]⟩ : ByteArray) (by decide) (by decide) (fun b => (ln b).2.1) (fun b => (st b).2.2.1)
  have h7 := rep_step s hs g6 gV 10 (⟨#[38, 35, 49, 48, 59]⟩ : ByteArray) (by decide) (by decide) (fun b => (ln b).2.2.1) (fun b => (st b).2.2.2)
  unfold impl_Escape.f impl_textSaid.f impl_escaped.f
  rw [h1, Option.bind_some, h2, Option.bind_some, h3, Option.bind_some, Option.bind_some, h4, Option.bind_some, Option.bind_some]
  cases v with
  | true => rw [if_pos rfl, h5, Option.bind_some, h6, Option.bind_some, h7, Option.bind_some, if_pos rfl]; rfl
  | false => rw [if_neg (by simp), if_neg (by simp)]; rfl
theorem swap_l (s : ByteArray) (hs : s.size ≤ 1048576) (m : ByteArray) (ws : List ByteArray) (g : UInt8 → List UInt8) (hg : ∀ b, (g b).length ≤ 6)
    (hm : ∀ b : UInt8, ∃ j : Int, Ev (fun k => spec_l4Find.f k m 0 (b.toNat : Int)) j ∧ ((j < 0 ∧ g b = [b]) ∨ (0 ≤ j ∧ j < (ws.length : Int) ∧ (rdOf ByteArray.empty ws j).data.toList = g b))) :
    ∀ (d : Nat) (i : Nat) (out : List UInt8), s.size - i = d → i ≤ s.size → out.length ≤ 6 * i → Ev (fun k => spec_l5Swap.l0 k s m ws (asInts out) (i : Int)) ⟨(out ++ (s.data.toList.drop i).flatMap g).toArray⟩ := by
  intro d
  induction d with
  | zero =>
    intro i out hd hi ho
    have hz := Lib.size_eq s
    refine Ev.step (fun k => by simp only [spec_l5Swap.l0]; rfl) ?_
    refine Ev.ifn (by omega) ?_
    rw [List.drop_of_length_le (by omega), List.flatMap_nil, List.append_nil, ← strOf_asInts]
    exact Ev.now _
  | succ d ih =>
    intro i out hd hi ho
    have hz := Lib.size_eq s
    have hlt : i < s.size := by omega
    obtain ⟨b, e1, e2⟩ := bt_list s (i : Int) (by omega) (by omega)
    rw [show ((i : Int)).toNat = i by omega] at e1
    obtain ⟨j, j1, j2⟩ := hm b
    have hw : wrap64 ((i : Int) + 1) = ((i + 1 : Nat) : Int) := by unfold wrap64; omega
    have hlen : (asInts out).length = out.length := by simp [asInts]
    have hgb := hg b
    have hdr : s.data.toList.drop i = b :: s.data.toList.drop (i + 1) := by
      rw [List.drop_eq_getElem_cons (by omega)]
      congr 1
      have := (List.getElem?_eq_some_iff.1 e1).2
      exact this
    have nx := ih (i + 1) (out ++ g b) (by omega) (by omega) (by rw [List.length_append]; omega)
    rw [show out ++ g b ++ (s.data.toList.drop (i + 1)).flatMap g = out ++ (s.data.toList.drop i).flatMap g by rw [hdr, List.flatMap_cons, List.append_assoc]] at nx
    refine Ev.step (fun k => by simp only [spec_l5Swap.l0]; rfl) ?_
    rw [e2, hw]
    refine Ev.ifp (by omega) ?_
    refine Ev.ifp (by omega) ?_
    refine Ev.bind j1 ?_
    rcases j2 with ⟨j3, j4⟩ | ⟨j3, j4, j5⟩
    · refine Ev.ifp j3 ?_
      refine Ev.ifp (by rw [hlen]; omega) ?_
      rw [show asInts out ++ [(b.toNat : Int)] = asInts (out ++ g b) by rw [j4]; simp [asInts]]
      exact nx
    · refine Ev.ifn (by omega) ?_
      refine Ev.ifp j4 ?_
      refine Ev.ifp (by rw [hlen, Lib.size_eq, j5]; omega) ?_
      rw [show asInts out ++ bytesOf (rdOf ByteArray.empty ws j) = asInts (out ++ g b) by rw [← j5]; simp [asInts, bytesOf]]
      exact nx
abbrev mkT : ByteArray := ⟨#[38, 60, 62, 13]⟩
abbrev mkV : ByteArray := ⟨#[38, 60, 62, 13, 34, 9, 10]⟩
abbrev wsT : List ByteArray := [(⟨#[38, 97, 109, 112, 59]⟩ : ByteArray), (⟨#[38, 108, 116, 59]⟩ : ByteArray), (⟨#[38, 103, 116, 59]⟩ : ByteArray), (⟨#[38, 35, 49, 51, 59]⟩ : ByteArray)]
abbrev wsV : List ByteArray := [(⟨#[38, 97, 109, 112, 59]⟩ : ByteArray), (⟨#[38, 108, 116, 59]⟩ : ByteArray), (⟨#[38, 103, 116, 59]⟩ : ByteArray), (⟨#[38, 35, 49, 51, 59]⟩ : ByteArray), (⟨#[38, 113, 117, 111, 116, 59]⟩ : ByteArray), (⟨#[38, 35, 57, 59]⟩ : ByteArray), (⟨#[38, 35, 49, 48, 59]⟩ : ByteArray)]
def jT (n : Nat) : Int := if n = 38 then 0 else if n = 60 then 1 else if n = 62 then 2 else if n = 13 then 3 else -1
def jV (n : Nat) : Int := if n = 38 then 0 else if n = 60 then 1 else if n = 62 then 2 else if n = 13 then 3 else if n = 34 then 4 else if n = 9 then 5 else if n = 10 then 6 else -1
theorem jT_tab : ∀ n : Nat, n < 256 → spec_l4Find.f 9 mkT 0 (n : Int) = some (jT n) ∧ ((jT n < 0 ∧ gT (UInt8.ofNat n) = [UInt8.ofNat n]) ∨ (0 ≤ jT n ∧ jT n < 4 ∧ (rdOf ByteArray.empty wsT (jT n)).data.toList = gT (UInt8.ofNat n))) := by decide +kernel
theorem jV_tab : ∀ n : Nat, n < 256 → spec_l4Find.f 9 mkV 0 (n : Int) = some (jV n) ∧ ((jV n < 0 ∧ gV (UInt8.ofNat n) = [UInt8.ofNat n]) ∨ (0 ≤ jV n ∧ jV n < 7 ∧ (rdOf ByteArray.empty wsV (jV n)).data.toList = gV (UInt8.ofNat n))) := by decide +kernel
theorem ev_specEscape (s : ByteArray) (hs : s.size ≤ 1048576) (v : Bool) : Ev (fun k => spec_Escape.f k s v) (if v = true then escV s else escT s) := by
  have ln := fun b => u8_all (p := fun b => ((g1 b).length ≤ 6 ∧ (g2 b).length ≤ 6 ∧ (g3 b).length ≤ 6 ∧ (gT b).length ≤ 6) ∧ ((g5 b).length ≤ 6 ∧ (g6 b).length ≤ 6 ∧ (gV b).length ≤ 6)) g_lens b
  have hb : ∀ b : UInt8, UInt8.ofNat b.toNat = b := fun b => by simp
  unfold spec_Escape.f
  cases v with
  | true =>
    refine Ev.ifp rfl ?_
    refine Ev.bind ?_ (Ev.now _)
    exact swap_l s hs mkV wsV gV (fun b => (ln b).2.2.2) (fun b => by
      obtain ⟨t1, t2⟩ := jV_tab b.toNat b.toNat_lt
      rw [hb] at t2
      exact ⟨jV b.toNat, Ev.of (spec_l4Find.mono mkV 0 (b.toNat : Int)) (k := 9) t1, t2⟩) s.size 0 [] (by omega) (by omega) (by simp)
  | false =>
    refine Ev.ifn (by simp) ?_
    refine Ev.bind ?_ (Ev.now _)
    exact swap_l s hs mkT wsT gT (fun b => (ln b).1.2.2.2) (fun b => by
      obtain ⟨t1, t2⟩ := jT_tab b.toNat b.toNat_lt
      rw [hb] at t2
      exact ⟨jT b.toNat, Ev.of (spec_l4Find.mono mkT 0 (b.toNat : Int)) (k := 9) t1, t2⟩) s.size 0 [] (by omega) (by omega) (by simp)
def Ez {α : Type} (f : Nat → Option α) (P : α → Prop) : Prop := ∃ r, Ev f r ∧ P r
theorem Ez.bind {α β : Type} {g : Nat → Option α} {f : Nat → α → Option β} {P : α → Prop} {Q : β → Prop} (h : Ez g P) (k : ∀ a, P a → Ez (fun n => f n a) Q) : Ez (fun n => (g n).bind (f n)) Q := by
  obtain ⟨a, ha, pa⟩ := h
  obtain ⟨b, hb, qb⟩ := k a pa
  exact ⟨b, Ev.bind ha hb, qb⟩
theorem Ez.bindc {α β : Type} {x : Option α} {f : Nat → α → Option β} {P : α → Prop} {Q : β → Prop} (h : ∃ a, x = some a ∧ P a) (k : ∀ a, P a → Ez (fun n => f n a) Q) : Ez (fun n => x.bind (f n)) Q := by
  obtain ⟨a, ha, pa⟩ := h
  obtain ⟨b, hb, qb⟩ := k a pa
  exact ⟨b, Ev.bindc ha hb, qb⟩
theorem Ez.now {α : Type} {r : α} {P : α → Prop} (h : P r) : Ez (fun _ => some r) P := ⟨r, Ev.now r, h⟩
theorem Ez.ifp {α : Type} {c : Prop} [Decidable c] {f g : Nat → Option α} {P : α → Prop} (hc : c) (h : Ez f P) : Ez (fun k => if c then f k else g k) P := by
  obtain ⟨r, e, p⟩ := h; exact ⟨r, Ev.ifp hc e, p⟩
theorem Ez.ifn {α : Type} {c : Prop} [Decidable c] {f g : Nat → Option α} {P : α → Prop} (hc : ¬ c) (h : Ez g P) : Ez (fun k => if c then f k else g k) P := by
  obtain ⟨r, e, p⟩ := h; exact ⟨r, Ev.ifn hc e, p⟩
theorem Ez.step {α : Type} {f g : Nat → Option α} {P : α → Prop} (h : ∀ k, g (k + 1) = f k) (hf : Ez f P) : Ez g P := by
  obtain ⟨r, e, p⟩ := hf; exact ⟨r, Ev.step h e, p⟩
theorem Ez.mono {α : Type} {f : Nat → Option α} {P Q : α → Prop} (h : Ez f P) (k : ∀ a, P a → Q a) : Ez f Q := by
  obtain ⟨r, e, p⟩ := h; exact ⟨r, e, k r p⟩
theorem i64_and255 (n : Int) : bits .and .i64 n 255 = n % 256 := by
  have h255 : (BitVec.ofInt 64 255).toNat = 2 ^ 8 - 1 := by decide
  have key : (BitVec.ofInt 64 n &&& BitVec.ofInt 64 255).toNat = (n % ((2 ^ 64 : Nat) : Int)).toNat % 2 ^ 8 := by
    rw [BitVec.toNat_and, BitVec.toNat_ofInt, h255, Nat.and_two_pow_sub_one_eq_mod]
  show IntKind.i64.wrap ((BitVec.ofInt 64 n &&& BitVec.ofInt 64 255).toNat : Nat) = n % 256
  rw [key, IntKind.wrap_i64]
  omega
theorem and255_range (n : Int) : 0 ≤ bits .and .i64 n 255 ∧ bits .and .i64 n 255 ≤ 255 := by
  rw [i64_and255]; omega
theorem l1Byte_ok (l : List Int) (i h : Int) (h0 : 0 ≤ i) (hl : l.length ≤ 1048576) : ∃ r, spec_l1Byte.f l i h = some r ∧ 0 ≤ r.1 ∧ r.1 ≤ 255 ∧ 0 ≤ r.2.1 := by
  unfold spec_l1Byte.f
  by_cases c : i < (l.length : Int)
  · rw [if_pos c, if_pos h0]
    exact ⟨_, rfl, (and255_range _).1, (and255_range _).2, by show 0 ≤ wrap64 (i + 1); unfold wrap64; omega⟩
  · rw [if_neg c]
    exact ⟨_, rfl, (and255_range _).1, (and255_range _).2, h0⟩
theorem l1Below_ok (l : List Int) (i h n : Int) (h0 : 0 ≤ i) (hl : l.length ≤ 1048576) (hn : 0 < n) (hn1 : n ≤ 256) : ∃ r, spec_l1Below.f l i h n = some r ∧ 0 ≤ r.1 ∧ r.1 < n ∧ 0 ≤ r.2.1 := by
  obtain ⟨r, e, a, b, c⟩ := l1Byte_ok l i h h0 hl
  unfold spec_l1Below.f
  rw [if_neg (by omega), if_pos hn1, e, Option.bind_some, if_neg (by omega)]
  exact ⟨_, rfl, Int.tmod_nonneg _ a, Int.tmod_lt_of_pos _ hn, c⟩
theorem getD_mem {α : Type} (ls : List α) (d : α) (j : Int) (h0 : 0 ≤ j) (h1 : j < (ls.length : Int)) : ls.getD j.toNat d ∈ ls := by
  rw [List.getD_eq_getElem?_getD, List.getElem?_eq_getElem (show j.toNat < ls.length by omega), Option.getD_some]
  exact List.getElem_mem _
theorem l1Pick_ok (l : List Int) (i h : Int) (ls : List ByteArray) (h0 : 0 ≤ i) (hl : l.length ≤ 1048576) (hn : 0 < ls.length) (hn1 : ls.length ≤ 256) : ∃ r, spec_l1Pick.f l i h ls = some r ∧ r.1 ∈ ls ∧ 0 ≤ r.2.1 := by
  obtain ⟨r, e, a, b, c⟩ := l1Below_ok l i h (ls.length : Int) h0 hl (by omega) (by omega)
  unfold spec_l1Pick.f
  rw [e, Option.bind_some, if_pos a, if_pos b]
  exact ⟨_, rfl, getD_mem ls _ _ a b, c⟩
theorem l1PickInt_ok (l : List Int) (i h : Int) (ls : List Int) (h0 : 0 ≤ i) (hl : l.length ≤ 1048576) (hn : 0 < ls.length) (hn1 : ls.length ≤ 256) : ∃ r, spec_l1PickInt.f l i h ls = some r ∧ r.1 ∈ ls ∧ 0 ≤ r.2.1 := by
  obtain ⟨r, e, a, b, c⟩ := l1Below_ok l i h (ls.length : Int) h0 hl (by omega) (by omega)
  unfold spec_l1PickInt.f
  rw [e, Option.bind_some, if_pos a, if_pos b]
  exact ⟨_, rfl, getD_mem ls _ _ a b, c⟩
theorem l1New_l (l : List Int) (hl : l.length ≤ 1048576) (d : Nat) : ∀ (i h : Int), 0 ≤ i → l.length - i.toNat = d → Ez (fun k => spec_l1New.l0 k l h i) (fun r => r.1 = l ∧ r.2.1 = 0) := by
  induction d with
  | zero =>
    intro i h h0 hd
    refine Ez.step (fun k => by simp only [spec_l1New.l0]; rfl) (Ez.ifn (by omega) (Ez.now ⟨rfl, rfl⟩))
  | succ d ih =>
    intro i h h0 hd
    refine Ez.step (fun k => by simp only [spec_l1New.l0]; rfl) (Ez.ifp (by omega) ?_)
    by_cases c : i < 4000
    · refine Ez.ifp c (Ez.ifp h0 ?_)
      have hw : wrap64 (i + 1) = i + 1 := by unfold wrap64; omega
      rw [hw]
      exact ih (i + 1) _ (by omega) (by omega)
    · exact Ez.ifn c (Ez.now ⟨rfl, rfl⟩)
theorem l1New_ok (l : List Int) (hl : l.length ≤ 1048576) : Ez (fun k => spec_l1New.f k l) (fun r => r.1 = l ∧ r.2.1 = 0) :=
  l1New_l l hl _ 0 _ (by omega) rfl
theorem pick_size {ls : List ByteArray} {m : Nat} (h : ls.all (fun x => decide (x.size ≤ m)) = true) {x : ByteArray} (hx : x ∈ ls) : x.size ≤ m := by
  have := List.all_eq_true.mp h x hx
  simpa using this
theorem l14Draw_l (l : List Int) (hl : l.length ≤ 1048576) (d : Nat) : ∀ (x3 : ByteArray) (x4 i h : Int), 0 ≤ x4 → x4 ≤ 5 → 0 ≤ i → (5 - x4).toNat = d → (x3.size : Int) ≤ 20 * x4 →
    Ez (fun k => spec_l14Draw.l0 k x3 x4 l i h) (fun r => r.1.size ≤ 200 ∧ 0 ≤ r.2.1) := by
  induction d with
  | zero =>
    intro x3 x4 i h h0 h5 hi hd hs
    refine Ez.step (fun k => by simp only [spec_l14Draw.l0]; rfl) (Ez.bindc (l1Below_ok l i h 5 hi hl (by omega) (by omega)) ?_)
    intro a ⟨a0, a1, a2⟩
    exact Ez.ifn (by omega) (Ez.now ⟨by show x3.size ≤ 200; omega, a2⟩)
  | succ d ih =>
    intro x3 x4 i h h0 h5 hi hd hs
    refine Ez.step (fun k => by simp only [spec_l14Draw.l0]; rfl) (Ez.bindc (l1Below_ok l i h 5 hi hl (by omega) (by omega)) ?_)
    intro a ⟨a0, a1, a2⟩
    by_cases c : x4 < a.1
    · refine Ez.ifp c (Ez.bindc (l1Pick_ok l _ _ _ a2 hl (by decide) (by decide)) ?_)
      intro b ⟨hb, b2⟩
      have hz := pick_size (m := 3) (by decide) hb
      refine Ez.ifp (by omega) ?_
      have hw : wrap64 (x4 + 1) = x4 + 1 := by unfold wrap64; omega
      rw [hw]
      refine ih (x3 ++ b.1) (x4 + 1) b.2.1 b.2.2 (by omega) (by omega) b2 (by omega) ?_
      rw [ByteArray.size_append]; omega
    · exact Ez.ifn c (Ez.now ⟨by show x3.size ≤ 200; omega, a2⟩)
theorem l14Draw_ok (l : List Int) (hl : l.length ≤ 1048576) (i h : Int) (hi : 0 ≤ i) : Ez (fun k => spec_l14Draw.f k l i h) (fun r => r.1.size ≤ 200 ∧ 0 ≤ r.2.1) := by
  unfold spec_l14Draw.f
  exact l14Draw_l l hl _ (⟨#[]⟩ : ByteArray) 0 i h (by omega) (by omega) hi rfl (by decide)
theorem l18Draw_l (l : List Int) (hl : l.length ≤ 1048576) (d : Nat) : ∀ (x3 : ByteArray) (x4 i h : Int), 0 ≤ x4 → x4 ≤ 5 → 0 ≤ i → (5 - x4).toNat = d → (x3.size : Int) ≤ 20 * x4 →
    Ez (fun k => spec_l18Draw.l0 k x3 x4 l i h) (fun r => r.1.size ≤ 200 ∧ 0 ≤ r.2.1) := by
  induction d with
  | zero =>
    intro x3 x4 i h h0 h5 hi hd hs
    refine Ez.step (fun k => by simp only [spec_l18Draw.l0]; rfl) (Ez.bindc (l1Below_ok l i h 5 hi hl (by omega) (by omega)) ?_)
    intro a ⟨a0, a1, a2⟩
    exact Ez.ifn (by omega) (Ez.now ⟨by show x3.size ≤ 200; omega, a2⟩)
  | succ d ih =>
    intro x3 x4 i h h0 h5 hi hd hs
    refine Ez.step (fun k => by simp only [spec_l18Draw.l0]; rfl) (Ez.bindc (l1Below_ok l i h 5 hi hl (by omega) (by omega)) ?_)
    intro a ⟨a0, a1, a2⟩
    by_cases c : x4 < a.1
    · refine Ez.ifp c (Ez.bindc (l1Pick_ok l _ _ _ a2 hl (by decide) (by decide)) ?_)
      intro b ⟨hb, b2⟩
      have hz := pick_size (m := 11) (by decide) hb
      refine Ez.ifp (by omega) ?_
      have hw : wrap64 (x4 + 1) = x4 + 1 := by unfold wrap64; omega
      rw [hw]
      refine ih (x3 ++ b.1) (x4 + 1) b.2.1 b.2.2 (by omega) (by omega) b2 (by omega) ?_
      rw [ByteArray.size_append]; omega
    · exact Ez.ifn c (Ez.now ⟨by show x3.size ≤ 200; omega, a2⟩)
theorem l18Draw_ok (l : List Int) (hl : l.length ≤ 1048576) (i h : Int) (hi : 0 ≤ i) : Ez (fun k => spec_l18Draw.f k l i h) (fun r => r.1.size ≤ 200 ∧ 0 ≤ r.2.1) := by
  unfold spec_l18Draw.f
  exact l18Draw_l l hl _ (⟨#[]⟩ : ByteArray) 0 i h (by omega) (by omega) hi rfl (by decide)
theorem drawAt_ok (l : List Int) (hl : l.length ≤ 1048576) : Ez (fun k => spec_l18DrawAt.f k l) (fun r => r.1.size ≤ 1000 ∧ (Lit.int .i64 r.2).wf = true) := by
  unfold spec_l18DrawAt.f
  refine Ez.bind (l1New_ok l hl) ?_
  rintro ⟨l', i, h⟩ ⟨rfl, rfl⟩
  refine Ez.bindc (l1Pick_ok _ _ _ _ (Int.le_refl 0) hl (by decide) (by decide)) ?_
  intro a ⟨ha, a2⟩
  have hz := pick_size (m := 9) (by decide) ha
  refine Ez.bind (l18Draw_ok _ hl _ _ a2) ?_
  intro b ⟨b1, b2⟩
  have hs : (a.1 ++ b.1).size = a.1.size + b.1.size := ByteArray.size_append
  refine Ez.ifp (by omega) (Ez.bindc (l1PickInt_ok _ _ _ _ b2 hl (by simp) (by simp)) ?_)
  intro c ⟨hc, c2⟩
  refine Ez.now ⟨?_, ?_⟩
  · show (a.1 ++ b.1).size ≤ 1000; omega
  · show (Lit.int .i64 c.1).wf = true
    have hr : -1 ≤ c.1 ∧ c.1 ≤ 9223372036854775807 := by
      simp only [List.mem_cons, List.not_mem_nil, or_false] at hc
      omega
    have hw : wrap64 c.1 = c.1 := by unfold wrap64; omega
    rw [← hw]
    exact wrap64_wf _
theorem drawEscape_ok (l : List Int) (hl : l.length ≤ 1048576) : Ez (fun k => spec_DrawEscape.f k l) (fun r => r.1.size ≤ 1000) := by
  unfold spec_DrawEscape.f
  refine Ez.bind (l1New_ok l hl) ?_
  rintro ⟨l', i, h⟩ ⟨rfl, rfl⟩
  refine Ez.bind (l14Draw_ok _ hl _ _ (Int.le_refl 0)) ?_
  intro b ⟨b1, b2⟩
  refine Ez.bindc (l1Pick_ok _ _ _ _ b2 hl (by decide) (by decide)) ?_
  intro a ⟨ha, a2⟩
  have hz := pick_size (m := 1) (by decide) ha
  have hs : (b.1 ++ a.1).size = b.1.size + a.1.size := ByteArray.size_append
  obtain ⟨r, hr, r0, r1, r2⟩ := l1Below_ok l' a.2.1 a.2.2 2 a2 hl (by omega) (by omega)
  refine Ez.ifp (by omega) (Ez.bindc (P := fun _ => True) ⟨_, by unfold spec_l1Once.f; rw [hr, Option.bind_some], trivial⟩ ?_)
  intro c _
  exact Ez.now (by show (b.1 ++ a.1).size ≤ 1000; omega)
theorem drawSpace_ok (l : List Int) (hl : l.length ≤ 1048576) : Ez (fun k => spec_DrawSpaceName.f k l) (fun r => -1 ≤ r ∧ r ≤ 4) := by
  unfold spec_DrawSpaceName.f
  refine Ez.bind (l1New_ok l hl) ?_
  rintro ⟨l', i, h⟩ ⟨rfl, rfl⟩
  refine Ez.bindc (l1Below_ok _ _ _ 6 (Int.le_refl 0) hl (by omega) (by omega)) ?_
  intro b ⟨b0, b1, b2⟩
  exact Ez.now (by show -1 ≤ wrap64 (b.1 - 1) ∧ wrap64 (b.1 - 1) ≤ 4; unfold wrap64; omega)
theorem drawText_ok (l : List Int) (hl : l.length ≤ 1048576) : Ez (fun k => spec_DrawXmlText.f k l) (fun r => r.1.size ≤ 1000 ∧ (Lit.int .i64 r.2.1).wf = true ∧ r.2.2.size ≤ 2) := by
  unfold spec_DrawXmlText.f
  refine Ez.bind (drawAt_ok l hl) ?_
  intro a ⟨a0, a1⟩
  refine Ez.bind (l1New_ok l hl) ?_
  rintro ⟨l', i, h⟩ ⟨rfl, rfl⟩
  refine Ez.bindc (l1Pick_ok _ _ _ _ (Int.le_refl 0) hl (by decide) (by decide)) ?_
  intro b ⟨hb, b2⟩
  have hz := pick_size (m := 2) (by decide) hb
  exact Ez.now ⟨a0, a1, hz⟩
theorem drawName_ok (l : List Int) (hl : l.length ≤ 1048576) : Ez (fun k => spec_DrawXmlName.f k l) (fun r => r.1.size ≤ 1000 ∧ (Lit.int .i64 r.2).wf = true) := by
  unfold spec_DrawXmlName.f
  exact Ez.bind (drawAt_ok l hl) (fun a h => Ez.now h)
theorem drawRef_ok (l : List Int) (hl : l.length ≤ 1048576) : Ez (fun k => spec_DrawXmlRef.f k l) (fun r => r.1.size ≤ 1000 ∧ (Lit.int .i64 r.2).wf = true) := by
  unfold spec_DrawXmlRef.f
  exact Ez.bind (drawAt_ok l hl) (fun a h => Ez.now h)
theorem drawAttr_ok (l : List Int) (hl : l.length ≤ 1048576) : Ez (fun k => spec_DrawXmlAttr.f k l) (fun r => r.1.size ≤ 1000 ∧ (Lit.int .i64 r.2).wf = true) := by
  unfold spec_DrawXmlAttr.f
  exact Ez.bind (drawAt_ok l hl) (fun a h => Ez.now h)
theorem drawNote_ok (l : List Int) (hl : l.length ≤ 1048576) : Ez (fun k => spec_DrawXmlNote.f k l) (fun r => r.1.size ≤ 1000 ∧ (Lit.int .i64 r.2).wf = true) := by
  unfold spec_DrawXmlNote.f
  exact Ez.bind (drawAt_ok l hl) (fun a h => Ez.now h)
theorem anyIdx_iff (chars : List UInt8) : ∀ l : List UInt8, 0 ≤ Lib.indexAny l chars ↔ ∃ b ∈ l, chars.contains b = true
  | [] => by simp [Lib.indexAny]
  | b :: l => by
    have hge := Lib.indexAny_ge chars l
    have ih := anyIdx_iff chars l
    rw [Lib.indexAny]
    by_cases c : chars.contains b = true
    · rw [if_pos c]
      exact ⟨fun _ => ⟨b, by simp, c⟩, fun _ => Int.le_refl _⟩
    · rw [if_neg c]
      by_cases c2 : Lib.indexAny l chars = -1
      · rw [if_pos (beq_iff_eq.mpr c2)]
        refine ⟨fun h => absurd h (by decide), fun ⟨x, hx, hc⟩ => ?_⟩
        rcases List.mem_cons.1 hx with rfl | hx
        · exact absurd hc c
        · have := ih.2 ⟨x, hx, hc⟩
          omega
      · rw [if_neg (fun h => c2 (beq_iff_eq.1 h))]
        refine ⟨fun h => ?_, fun _ => by omega⟩
        obtain ⟨x, hx, hc⟩ := ih.1 (by omega)
        exact ⟨x, List.mem_cons_of_mem _ hx, hc⟩
theorem find_any (x : ByteArray) (hm : x.size ≤ 1048576) : ∃ r9 r10 : Int, Ev (fun k => spec_l4Find.f k x 0 9) r9 ∧ Ev (fun k => spec_l4Find.f k x 0 10) r10 ∧ strings_ContainsAny.f x (⟨#[9, 10]⟩ : ByteArray) = some (decide (0 ≤ r9 ∨ 0 ≤ r10)) := by
  obtain ⟨r9, e9, f9⟩ := find_l x hm 9 _ 0 (Nat.le_refl _) (Int.le_refl _)
  obtain ⟨r10, e10, f10⟩ := find_l x hm 10 _ 0 (Nat.le_refl _) (Int.le_refl _)
  refine ⟨r9, r10, e9, e10, ?_⟩
  have m9 := (f9.trans (bt_mem x 9))
  have m10 := (f10.trans (bt_mem x 10))
  unfold strings_ContainsAny.f
  rw [if_pos ⟨rfl, by omega⟩]
  congr 1
  unfold Lib.containsAny
  apply decide_eq_decide.mpr
  rw [anyIdx_iff, m9, m10]
  constructor
  · rintro ⟨b, hb, hc⟩
    have : b = 9 ∨ b = 10 := by simpa using hc
    rcases this with rfl | rfl
    · exact .inl hb
    · exact .inr hb
  · rintro (h | h)
    · exact ⟨9, h, by decide⟩
    · exact ⟨10, h, by decide⟩
theorem attr_both (s : ByteArray) (hs : s.size ≤ 1048576) (a : Int) (aw : (Lit.int .i64 a).wf = true) : ∃ q : ByteArray × ByteArray × Int, Ev (fun k => spec_XmlAttr.f k s a) q ∧ Ev (fun k => impl_XmlAttr.f k s a) q := by
  obtain ⟨⟨nm, e⟩, n1, n2, n3⟩ := name_both s hs a aw
  have sj : Ev (fun k => spec_XmlAttr.j0 k s nm e true) ((⟨#[]⟩ : ByteArray), (⟨#[]⟩ : ByteArray), (-1 : Int)) := by
    refine Ev.step (fun k => by simp only [spec_XmlAttr.j0]; rfl) ?_
    exact Ev.ifp trivial (Ev.now _)
  have ij : Ev (fun k => impl_XmlAttr.j0 k s nm e true) ((⟨#[]⟩ : ByteArray), (⟨#[]⟩ : ByteArray), (-1 : Int)) := by
    refine Ev.step (fun k => by simp only [impl_XmlAttr.j0]; rfl) ?_
    exact Ev.ifp trivial (Ev.now _)
  by_cases c1 : nm.toList = []
  · refine ⟨((⟨#[]⟩ : ByteArray), (⟨#[]⟩ : ByteArray), (-1 : Int)), ?_, ?_⟩
    · unfold spec_XmlAttr.f
      refine Ev.bind n1 ?_
      exact Ev.ifp c1 sj
    · unfold impl_XmlAttr.f
      refine Ev.bind n2 ?_
      exact Ev.ifp c1 ij
  have n4 : 0 ≤ e ∧ e ≤ s.size := by
    rcases n3 with h | h
    · exact absurd h c1
    · exact h
  obtain ⟨e0, e1⟩ := n4
  have hst := stands_f s hs e (⟨#[61, 34]⟩ : ByteArray) (by decide) e0 e1
  have hpf := hasPrefix_f s e (⟨#[61, 34]⟩ : ByteArray) e0 e1
  have spec0 : ∀ {q : ByteArray × ByteArray × Int}, Ev (fun k => spec_XmlAttr.j0 k s nm e (!decide (standsAt s e (⟨#[61, 34]⟩ : ByteArray)))) q → Ev (fun k => spec_XmlAttr.f k s a) q := fun h => by
    unfold spec_XmlAttr.f
    refine Ev.bind n1 ?_
    refine Ev.ifn c1 ?_
    exact Ev.bindc hst h
  have impl0 : ∀ {q : ByteArray × ByteArray × Int}, Ev (fun k => impl_XmlAttr.j0 k s nm e (!decide (standsAt s e (⟨#[61, 34]⟩ : ByteArray)))) q → Ev (fun k => impl_XmlAttr.f k s a) q := fun h => by
    unfold impl_XmlAttr.f
    refine Ev.bind n2 ?_
    refine Ev.ifn c1 ?_
    refine Ev.ifp e0 ?_
    refine Ev.ifp e1 ?_
    exact Ev.bindc hpf h
  by_cases c2 : standsAt s e (⟨#[61, 34]⟩ : ByteArray)
  case neg =>
    rw [decide_eq_false c2] at spec0 impl0
    exact ⟨_, spec0 sj, impl0 ij⟩
  rw [decide_eq_true c2] at spec0 impl0
  have e2 : e + 2 ≤ s.size := c2.1
  have hw : wrap64 (e + 2) = e + 2 := by unfold wrap64; omega
  obtain ⟨⟨v, n⟩, t1, t2, t3⟩ := text_both qEnd (by decide) s hs (e + 2) (by omega)
  have spec1 : ∀ {q : ByteArray × ByteArray × Int}, Ev (fun k => (if n < 0 then (some ((⟨#[]⟩ : ByteArray), (⟨#[]⟩ : ByteArray), (-1 : Int))) else (if n ≥ (s.size : Int) then (some ((⟨#[]⟩ : ByteArray), (⟨#[]⟩ : ByteArray), (-1))) else (if 0 ≤ e + 2 then (if e + 2 ≤ n then (if n ≤ (s.size : Int) then ((spec_l4Find.f k (s.extract (e + 2).toNat n.toNat) 0 9).bind fun t301 => (if t301 ≥ 0 then (some ((⟨#[]⟩ : ByteArray), (⟨#[]⟩ : ByteArray), (-1))) else ((spec_l4Find.f k (s.extract (e + 2).toNat n.toNat) 0 10).bind fun t302 => (if t302 ≥ 0 then (some ((⟨#[]⟩ : ByteArray), (⟨#[]⟩ : ByteArray), (-1))) else (some (nm, v, wrap64 (n + 1))))))) else (none)) else (none)) else (none))))) q → Ev (fun k => spec_XmlAttr.f k s a) q := fun h => by
    refine spec0 ?_
    refine Ev.step (fun k => by simp only [spec_XmlAttr.j0]; rfl) ?_
    rw [hw]
    refine Ev.ifn (by simp) ?_
    exact Ev.bind t2 h
  have impl1 : ∀ {q : ByteArray × ByteArray × Int}, Ev (fun k => (if n < 0 then (some ((⟨#[]⟩ : ByteArray), (⟨#[]⟩ : ByteArray), (-1 : Int))) else (if n = (s.size : Int) then (some ((⟨#[]⟩ : ByteArray), (⟨#[]⟩ : ByteArray), (-1))) else (if 0 ≤ e + 2 then (if e + 2 ≤ n then (if n ≤ (s.size : Int) then ((strings_ContainsAny.f (s.extract (e + 2).toNat n.toNat) (⟨#[9, 10]⟩ : ByteArray)).bind fun t367 => (if t367 = true then (some ((⟨#[]⟩ : ByteArray), (⟨#[]⟩ : ByteArray), (-1))) else (some (nm, v, wrap64 (n + 1))))) else (none)) else (none)) else (none))))) q → Ev (fun k => impl_XmlAttr.f k s a) q := fun h => by
    refine impl0 ?_
    refine Ev.step (fun k => by simp only [impl_XmlAttr.j0]; rfl) ?_
    rw [hw]
    refine Ev.ifn (by simp) ?_
    exact Ev.bind t3 h
  rcases t1 with tm | ⟨tn1, tn2⟩
  · have tm' : n = -1 := tm
    exact ⟨(⟨#[]⟩, ⟨#[]⟩, -1), spec1 (Ev.ifp (by omega) (Ev.now _)), impl1 (Ev.ifp (by omega) (Ev.now _))⟩
  have tn1' : e + 2 ≤ n := tn1
  have tn2' : n ≤ s.size := tn2
  by_cases c3 : n = (s.size : Int)
  · exact ⟨(⟨#[]⟩, ⟨#[]⟩, -1), spec1 (Ev.ifn (by omega) (Ev.ifp (by omega) (Ev.now _))), impl1 (Ev.ifn (by omega) (Ev.ifp c3 (Ev.now _)))⟩
  obtain ⟨r9, r10, f9, f10, fc⟩ := find_any (s.extract (e + 2).toNat n.toNat) (by rw [ByteArray.size_extract]; omega)
  refine ⟨if 0 ≤ r9 ∨ 0 ≤ r10 then (⟨#[]⟩, ⟨#[]⟩, -1) else (nm, v, wrap64 (n + 1)), spec1 ?_, impl1 ?_⟩
  · refine Ev.ifn (by omega) ?_
    refine Ev.ifn (by omega) ?_
    refine Ev.ifp (by omega) ?_
    refine Ev.ifp tn1' ?_
    refine Ev.ifp tn2' ?_
    refine Ev.bind f9 ?_
    by_cases g9 : 0 ≤ r9
    · rw [if_pos (Or.inl g9)]
      exact Ev.ifp g9 (Ev.now _)
    · refine Ev.ifn g9 ?_
      refine Ev.bind f10 ?_
      by_cases g10 : 0 ≤ r10
      · rw [if_pos (Or.inr g10)]
        exact Ev.ifp g10 (Ev.now _)
      · rw [if_neg (show ¬ (0 ≤ r9 ∨ 0 ≤ r10) from fun h => Or.elim h g9 g10)]
        exact Ev.ifn g10 (Ev.now _)
  · refine Ev.ifn (by omega) ?_
    refine Ev.ifn c3 ?_
    refine Ev.ifp (by omega) ?_
    refine Ev.ifp tn1' ?_
    refine Ev.ifp tn2' ?_
    refine Ev.bindc fc ?_
    by_cases g : 0 ≤ r9 ∨ 0 ≤ r10
    · rw [if_pos g]
      exact Ev.ifp (decide_eq_true g) (Ev.now _)
    · rw [if_neg g]
      exact Ev.ifn (by rw [decide_eq_false g]; simp) (Ev.now _)
theorem text_all (en : ByteArray) (hen : en.size ≤ 1048576) (s : ByteArray) (hs : s.size ≤ 1048576) (a : Int) : ∃ q : ByteArray × Int, Ev (fun k => spec_XmlText.f k s a en) q ∧ Ev (fun k => impl_XmlText.f k s a en) q := by
  by_cases c : 0 ≤ a
  · obtain ⟨q, _, h1, h2⟩ := text_both en hen s hs a c
    exact ⟨q, h1, h2⟩
  · refine ⟨(⟨#[]⟩, -1), ?_, ?_⟩
    · unfold spec_XmlText.f
      exact Ev.ifp (by omega) (Ev.now _)
    · unfold impl_XmlText.f
      refine Ev.bindc (inRange_f _ _ _) ?_
      rw [decide_eq_false (show ¬ (0 ≤ a ∧ a ≤ (s.size : Int)) from fun h => c h.1)]
      exact Ev.ifn (by simp) (Ev.now _)
theorem nm_first : ∀ j : Nat, j < 5 → (nameJ j).data.toList[0]? = some 38 := by decide
theorem ref_all (s : ByteArray) (hs : s.size ≤ 1048576) (a : Int) : ∃ q : ByteArray × Int, Ev (fun k => spec_XmlRef.f k s a) q ∧ Ev (fun k => impl_XmlRef.f k s a) q := by
  have hw1 : wrap64 ((s.size : Int) - 1) = (s.size : Int) - 1 := by unfold wrap64; omega
  have sj : Ev (fun k => spec_XmlRef.j0 k s a true) ((⟨#[]⟩ : ByteArray), (-1 : Int)) := by
    refine Ev.step (fun k => by simp only [spec_XmlRef.j0]; rfl) ?_
    exact Ev.ifp trivial (Ev.now _)
  by_cases c : 0 ≤ a ∧ a ≤ (s.size : Int) - 1
  case neg =>
    refine ⟨((⟨#[]⟩ : ByteArray), (-1 : Int)), ?_, ?_⟩
    · unfold spec_XmlRef.f
      by_cases c1 : a < 0
      · exact Ev.ifp c1 sj
      · refine Ev.ifn c1 ?_
        exact Ev.ifp (by omega) sj
    · unfold impl_XmlRef.f
      refine Ev.bindc (inRange_f _ _ _) ?_
      rw [hw1, decide_eq_false c]
      exact Ev.ifn (by simp) (Ev.now _)
  obtain ⟨a0, a1⟩ := c
  by_cases c38 : bt s a = 38
  · obtain ⟨q, _, h1, h2⟩ := ref_both s hs a a0 (by omega) c38
    exact ⟨q, h1, h2⟩
  have no : ∀ nm : ByteArray, 1 ≤ nm.size → nm.data.toList[0]? = some 38 → ¬ standsAt s a nm := fun nm h1 h2 h => by
    obtain ⟨b, e1, e2⟩ := stands_bt h a0 0 h1
    rw [h2] at e1
    obtain rfl := Option.some.inj e1
    rw [show a + ((0 : Nat) : Int) = a by omega] at e2
    exact c38 e2
  refine ⟨((⟨#[]⟩ : ByteArray), (-1 : Int)), ?_, ?_⟩
  · unfold spec_XmlRef.f
    refine Ev.ifn (by omega) ?_
    refine Ev.ifn (by omega) ?_
    refine Ev.ifp a0 ?_
    refine Ev.ifp (by omega) ?_
    rw [show (bt s a != 38) = true from bne_iff_ne.mpr c38]
    exact sj
  · unfold impl_XmlRef.f
    refine Ev.bindc (inRange_f _ _ _) ?_
    rw [hw1, decide_eq_true (show 0 ≤ a ∧ a ≤ (s.size : Int) - 1 from ⟨a0, a1⟩)]
    refine Ev.ifp rfl ?_
    refine Ev.ifp ⟨a0, by omega⟩ ?_
    unfold xrB impl_namedRef.f
    refine Ev.bindc (nrF_none s a a0 (by omega) nrL nsgL (fun i hi => no (nameJ i) (nm_size i hi).2.1 (nm_first i hi))) ?_
    refine Ev.ifn (show ¬ (0 : Int) > 0 by decide) ?_
    refine Ev.bindc (cut_f s a _ a0 (by omega)) ?_
    rw [if_neg (no _ (by decide) rfl)]
    refine Ev.bindc (a := Lib.indexByte (s.extract a.toNat s.size).data.toList 59) rfl ?_
    exact Ev.ifn (by simp) (Ev.now _)
theorem space_both (n : Int) : ∃ r : ByteArray, impl_SpaceName.f n = some r ∧ spec_SpaceName.f n = some r := by
  refine ⟨spNF n, rfl, ?_⟩
  unfold spec_SpaceName.f spNF
  repeat' split
  all_goals rfl
def RoundOk : Prop := ∀ (s : ByteArray) (v : Bool), s.size ≤ 1000 → Ev (fun k => laws_FnPieces.j2 k s (if v = true then escV s else escT s) false) true
theorem Pieces_of (H : RoundOk) (l0 : List Int) : ∃ k, laws_FnPieces.f k l0 = some true := by
  suffices h : Ev (fun k => laws_FnPieces.f k l0) true by
    obtain ⟨k, hk⟩ := h
    exact ⟨k, hk k (Nat.le_refl _)⟩
  unfold laws_FnPieces.f
  by_cases cb : (l0.length : Int) > 1048576
  · refine Ev.bindc (a := true) (by unfold laws_big.f; rw [decide_eq_true cb]) ?_
    exact Ev.ifp rfl (Ev.now _)
  have hl : l0.length ≤ 1048576 := by omega
  refine Ev.bindc (a := false) (by unfold laws_big.f; rw [decide_eq_false cb]) ?_
  refine Ev.ifn (by simp) ?_
  obtain ⟨⟨s, v⟩, d1, hs⟩ := drawEscape_ok l0 hl
  have hs' : s.size ≤ 1000 := hs
  have hR := H s v hs'
  obtain ⟨n, d2, _⟩ := drawSpace_ok l0 hl
  obtain ⟨⟨na, ni⟩, d3, hna, hni⟩ := drawName_ok l0 hl
  obtain ⟨⟨ra, ri⟩, d4, hra, hri⟩ := drawRef_ok l0 hl
  obtain ⟨⟨ta, ti, te⟩, d5, hta, hti, hte⟩ := drawText_ok l0 hl
  obtain ⟨⟨aa, ai⟩, d6, haa, hai⟩ := drawAttr_ok l0 hl
  obtain ⟨⟨oa, oi⟩, d7, hoa, hoi⟩ := drawNote_ok l0 hl
  have hna' : na.size ≤ 1000 := hna
  have hra' : ra.size ≤ 1000 := hra
  have hta' : ta.size ≤ 1000 := hta
  have hte' : te.size ≤ 2 := hte
  have haa' : aa.size ≤ 1000 := haa
  have hoa' : oa.size ≤ 1000 := hoa
  obtain ⟨qn, n1, n2, _⟩ := name_both na (by omega) ni hni
  obtain ⟨qr, r1, r2⟩ := ref_all ra (by omega) ri
  obtain ⟨qt, t1, t2⟩ := text_all te (by omega) ta (by omega) ti
  obtain ⟨qa, a1, a2⟩ := attr_both aa (by omega) ai hai
  obtain ⟨qo, o1, o2⟩ := xnote_both oa (by omega) oi
  obtain ⟨sp, p1, p2⟩ := space_both n
  refine Ev.bind d1 ?_
  refine Ev.bindc (implEscape_f s (by omega) v) ?_
  refine Ev.bind d2 ?_
  refine Ev.bind (ev_specEscape s (by omega) v) ?_
  refine Ev.ifp rfl ?_
  refine Ev.bindc p1 ?_
  refine Ev.bindc p2 ?_
  rw [show (sp.toList != sp.toList) = false by simp]
  refine Ev.step (fun k => by simp only [laws_FnPieces.j0]; rfl) ?_
  refine Ev.ifn (by simp) ?_
  refine Ev.bind d3 ?_
  refine Ev.bind n2 ?_
  refine Ev.bind n1 ?_
  refine Ev.bind d4 ?_
  refine Ev.bind r2 ?_
  refine Ev.bind r1 ?_
  refine Ev.bind d5 ?_
  refine Ev.bind t2 ?_
  refine Ev.bind t1 ?_
  refine Ev.ifp rfl ?_
  refine Ev.ifp rfl ?_
  refine Ev.ifp rfl ?_
  refine Ev.ifp rfl ?_
  refine Ev.ifp rfl ?_
  rw [show (qt.2 != qt.2) = false by simp]
  refine Ev.step (fun k => by simp only [laws_FnPieces.j1]; rfl) ?_
  refine Ev.ifn (by simp) ?_
  refine Ev.bind d6 ?_
  refine Ev.bind a2 ?_
  refine Ev.bind a1 ?_
  refine Ev.bind d7 ?_
  refine Ev.bind o2 ?_
  refine Ev.bind o1 ?_
  refine Ev.ifn (by simp) ?_
  refine Ev.ifp rfl ?_
  refine Ev.ifp rfl ?_
  rw [show (qo.2 != qo.2) = false by simp]
  exact hR
theorem wrap_small (m : Int) (h0 : 0 ≤ m) (h1 : m < 256) : wrap64 m = m := by unfold wrap64; omega
theorem begin_many (b : Int) (h0 : 194 ≤ b) (h1 : b ≤ 244) {g : Int × Int × Int × Int} (h : Ev (fun _ : Nat => (if b < 224 then (some ((1 : Int), wrap64 (Go.bits .and .u8 b 31), (128 : Int), (191 : Int))) else (if b = 224 then (some (2, 0, 160, 191)) else (if b = 237 then (some (2, 13, 128, 159)) else (if b < 240 then (some (2, wrap64 (Go.bits .and .u8 b 15), 128, 191)) else (if b = 240 then (some (3, 0, 144, 191)) else (if b = 244 then (some (3, 4, 128, 143)) else (some (3, wrap64 (Go.bits .and .u8 b 7), 128, 191))))))))) g) : Ev (fun k => impl_beginning.f k b) g := by
  unfold impl_beginning.f
  refine Ev.ifn (by omega) ?_
  refine Ev.ifn (by omega) ?_
  rw [decide_eq_false (by omega)]
  refine Ev.step (fun k => by simp only [impl_beginning.j0]; rfl) ?_
  exact Ev.ifn (by simp) h
theorem and_of (b : Int) (h0 : 0 ≤ b) (h1 : b ≤ 255) : bits .and .u8 b 31 = b % 32 ∧ bits .and .u8 b 15 = b % 16 ∧ bits .and .u8 b 7 = b % 8 := by
  have := u8and b.toNat (by omega)
  rw [show ((b.toNat : Nat) : Int) = b by omega] at this
  exact this.2
section
variable (s : ByteArray) (hs : s.size ≤ 1048576) (i : Int) (i0 : 0 ≤ i) (n : Int)
include hs i0
theorem get2 (h0 : 128 ≤ n) (h1 : n < 2048) (hi : i + 2 ≤ s.size) (e0 : bt s i = 192 + n / 64) (e1 : bt s (i + 1) = 128 + n % 64) : Ev (fun k => impl_getSign.f k s i) (n, 2) := by
  have ha := (and_of (bt s i) (by omega) (by omega)).1
  unfold impl_getSign.f
  refine Ev.ifp i0 ?_
  refine Ev.ifp (by omega) ?_
  refine Ev.bind (a := (1, n / 64, 128, 191)) (begin_many _ (by omega) (by omega) ?_) ?_
  · rw [ha, wrap_small _ (by omega) (by omega), e0, show (192 + n / 64) % 32 = n / 64 by omega]
    exact Ev.ifp (by omega) (Ev.now _)
  · refine Ev.ifn (by simp) ?_
    have := impl_Gs s i i0 (by omega) hs 1 (n / 64) 128 191 1 (by omega) (by omega) (by show n / 64 < (17179869184 : Int); omega) (by omega) (by omega)
    rw [Gs, if_neg (by omega), if_neg (by omega), Gs, e1, show n / 64 * 64 + (128 + n % 64) % 64 = n by omega] at this
    exact this
theorem get3 (h0 : 2048 ≤ n) (h1 : n < 65536) (hn : ¬ (55296 ≤ n ∧ n ≤ 57343)) (hi : i + 3 ≤ s.size) (e0 : bt s i = 224 + n / 4096) (e1 : bt s (i + 1) = 128 + n / 64 % 64) (e2 : bt s (i + 2) = 128 + n % 64) : Ev (fun k => impl_getSign.f k s i) (n, 3) := by
  have ha := (and_of (bt s i) (by omega) (by omega)).2.1
  have fin : ∀ lo hi' : Int, lo ≤ 128 + n / 64 % 64 → 128 + n / 64 % 64 ≤ hi' → Ev (fun k => impl_getSign.l0 k s i 2 (n / 4096) lo hi' 1) (n, 3) := fun lo hi' hlo hhi => by
    have := impl_Gs s i i0 (by omega) hs 2 (n / 4096) lo hi' 1 (by omega) (by omega) (by show n / 4096 < (268435456 : Int); omega) (by omega) (by omega)
    rw [Gs, if_neg (by omega), if_neg (by omega), Gs, show i + (1 + 1) = i + 2 by omega, if_neg (by omega), if_neg (by omega), Gs, e1, e2, show (n / 4096 * 64 + (128 + n / 64 % 64) % 64) * 64 + (128 + n % 64) % 64 = n by omega] at this
    exact this
  unfold impl_getSign.f
  refine Ev.ifp i0 ?_
  refine Ev.ifp (by omega) ?_
  by_cases c1 : n / 4096 = 0
  · refine Ev.bind (a := (2, 0, 160, 191)) (begin_many _ (by omega) (by omega) ?_) ?_
    · refine Ev.ifn (by omega) ?_
      exact Ev.ifp (by omega) (Ev.now _)
    · refine Ev.ifn (by simp) ?_
      have := fin 160 191 (by omega) (by omega)
      rw [c1] at this
      exact this
  by_cases c2 : n / 4096 = 13
  · refine Ev.bind (a := (2, 13, 128, 159)) (begin_many _ (by omega) (by omega) ?_) ?_
    · refine Ev.ifn (by omega) ?_
      refine Ev.ifn (by omega) ?_
      exact Ev.ifp (by omega) (Ev.now _)
    · refine Ev.ifn (by simp) ?_
      have := fin 128 159 (by omega) (by omega)
      rw [c2] at this
      exact this
  refine Ev.bind (a := (2, n / 4096, 128, 191)) (begin_many _ (by omega) (by omega) ?_) ?_
  · rw [ha, wrap_small (bt s i % 16) (by omega) (by omega), e0, show (224 + n / 4096) % 16 = n / 4096 by omega]
    refine Ev.ifn (by omega) ?_
    refine Ev.ifn (by omega) ?_
    refine Ev.ifn (by omega) ?_
    exact Ev.ifp (by omega) (Ev.now _)
  · refine Ev.ifn (by simp) ?_
    exact fin 128 191 (by omega) (by omega)
theorem get4 (h0 : 65536 ≤ n) (h1 : n ≤ 1114111) (hi : i + 4 ≤ s.size) (e0 : bt s i = 240 + n / 262144) (e1 : bt s (i + 1) = 128 + n / 4096 % 64) (e2 : bt s (i + 2) = 128 + n / 64 % 64) (e3 : bt s (i + 3) = 128 + n % 64) : Ev (fun k => impl_getSign.f k s i) (n, 4) := by
  have ha := (and_of (bt s i) (by omega) (by omega)).2.2
  have fin : ∀ lo hi' : Int, lo ≤ 128 + n / 4096 % 64 → 128 + n / 4096 % 64 ≤ hi' → Ev (fun k => impl_getSign.l0 k s i 3 (n / 262144) lo hi' 1) (n, 4) := fun lo hi' hlo hhi => by
    have := impl_Gs s i i0 (by omega) hs 3 (n / 262144) lo hi' 1 (by omega) (by omega) (by show n / 262144 < (4194304 : Int); omega) (by omega) (by omega)
    rw [Gs, if_neg (by omega), if_neg (by omega), Gs, show i + (1 + 1) = i + 2 by omega, if_neg (by omega), if_neg (by omega), Gs, show i + (1 + 1 + 1) = i + 3 by omega, if_neg (by omega), if_neg (by omega), Gs, e1, e2, e3, show ((n / 262144 * 64 + (128 + n / 4096 % 64) % 64) * 64 + (128 + n / 64 % 64) % 64) * 64 + (128 + n % 64) % 64 = n by omega] at this
    exact this
  unfold impl_getSign.f
  refine Ev.ifp i0 ?_
  refine Ev.ifp (by omega) ?_
  by_cases c1 : n / 262144 = 0
  · refine Ev.bind (a := (3, 0, 144, 191)) (begin_many _ (by omega) (by omega) ?_) ?_
    · refine Ev.ifn (by omega) ?_
      refine Ev.ifn (by omega) ?_
      refine Ev.ifn (by omega) ?_
      refine Ev.ifn (by omega) ?_
      exact Ev.ifp (by omega) (Ev.now _)
    · refine Ev.ifn (by simp) ?_
      have := fin 144 191 (by omega) (by omega)
      rw [c1] at this
      exact this
  by_cases c2 : n / 262144 = 4
  · refine Ev.bind (a := (3, 4, 128, 143)) (begin_many _ (by omega) (by omega) ?_) ?_
    · refine Ev.ifn (by omega) ?_
      refine Ev.ifn (by omega) ?_
      refine Ev.ifn (by omega) ?_
      refine Ev.ifn (by omega) ?_
      refine Ev.ifn (by omega) ?_
      exact Ev.ifp (by omega) (Ev.now _)
    · refine Ev.ifn (by simp) ?_
      have := fin 128 143 (by omega) (by omega)
      rw [c2] at this
      exact this
  refine Ev.bind (a := (3, n / 262144, 128, 191)) (begin_many _ (by omega) (by omega) ?_) ?_
  · rw [ha, wrap_small (bt s i % 8) (by omega) (by omega), e0, show (240 + n / 262144) % 8 = n / 262144 by omega]
    refine Ev.ifn (by omega) ?_
    refine Ev.ifn (by omega) ?_
    refine Ev.ifn (by omega) ?_
    refine Ev.ifn (by omega) ?_
    refine Ev.ifn (by omega) ?_
    refine Ev.ifn (by omega) ?_
    exact Ev.now _
  · refine Ev.ifn (by simp) ?_
    exact fin 128 191 (by omega) (by omega)
end
theorem get_put (s : ByteArray) (hs : s.size ≤ 1048576) (i : Int) (i0 : 0 ≤ i) (n : Int) (hn : signOk n = true) (hst : standsAt s i (putF n)) : Ev (fun k => impl_getSign.f k s i) (n, ((putF n).size : Int)) := by
  have hn' := hn
  simp only [signOk, Bool.and_eq_true, decide_eq_true_eq, Bool.not_eq_true', decide_eq_false_iff_not] at hn'
  have hb : ∀ (j : Nat) (x : Int), (putF n).data.toList[j]? = some x.toNat.toUInt8 → 0 ≤ x → x ≤ 255 → bt s (i + j) = x := fun j x hx x0 x1 => by
    have hj : j < (putF n).size := by
      have := (List.getElem?_eq_some_iff.1 hx).1
      rw [← Lib.size_eq] at this
      exact this
    obtain ⟨b, e1, e2⟩ := stands_bt hst i0 j hj
    rw [hx] at e1
    rw [e2, ← Option.some.inj e1]
    exact u8_back x x0 x1
  have hsz := hst.1
  have hp : putF n = put0 n := by unfold putF; rw [if_pos hn]
  by_cases c1 : n < 128
  · have hl : (putF n).data.toList = [n.toNat.toUInt8] := by rw [← Lib.toList_data]; exact put_low_list n (by omega) c1
    have h1 : (putF n).size = 1 := by rw [Lib.size_eq, hl]; rfl
    have b0 := hb 0 n (by rw [hl]; rfl) (by omega) (by omega)
    rw [show i + ((0 : Nat) : Int) = i by omega] at b0
    obtain ⟨q, q1, q4, ⟨qe, qn, qa⟩, e1, e2⟩ := sign_both s hs i i0 (by omega)
    rw [qa (by omega), b0] at e2
    rw [h1]
    exact e2
  by_cases c2 : n < 2048
  · have hl : (putF n).data.toList = [((192 + n / 64) % 256).toNat.toUInt8, ((128 + n % 64) % 256).toNat.toUInt8] := by
      rw [hp]; unfold put0; rw [if_neg c1, if_pos c2, nums_data]; rfl
    have h1 : (putF n).size = 2 := by rw [Lib.size_eq, hl]; rfl
    have b0 := hb 0 _ (by rw [hl]; rfl) (by omega) (by omega)
    have b1 := hb 1 _ (by rw [hl]; rfl) (by omega) (by omega)
    rw [show i + ((0 : Nat) : Int) = i by omega] at b0
    rw [h1]
    rw [h1] at hsz
    exact get2 s hs i i0 n (by omega) c2 (by omega) (by omega) (by rw [show i + 1 = i + ((1 : Nat) : Int) by omega]; omega)
  by_cases c3 : n < 65536
  · have hl : (putF n).data.toList = [((224 + n / 4096) % 256).toNat.toUInt8, ((128 + n / 64 % 64) % 256).toNat.toUInt8, ((128 + n % 64) % 256).toNat.toUInt8] := by
      rw [hp]; unfold put0; rw [if_neg c1, if_neg c2, if_pos c3, nums_data]; rfl
    have h1 : (putF n).size = 3 := by rw [Lib.size_eq, hl]; rfl
    have b0 := hb 0 _ (by rw [hl]; rfl) (by omega) (by omega)
    have b1 := hb 1 _ (by rw [hl]; rfl) (by omega) (by omega)
    have b2 := hb 2 _ (by rw [hl]; rfl) (by omega) (by omega)
    rw [show i + ((0 : Nat) : Int) = i by omega] at b0
    rw [h1]
    rw [h1] at hsz
    exact get3 s hs i i0 n (by omega) c3 (by omega) (by omega) (by omega) (by rw [show i + 1 = i + ((1 : Nat) : Int) by omega]; omega) (by rw [show i + 2 = i + ((2 : Nat) : Int) by omega]; omega)
  · have hl : (putF n).data.toList = [((240 + n / 262144) % 256).toNat.toUInt8, ((128 + n / 4096 % 64) % 256).toNat.toUInt8, ((128 + n / 64 % 64) % 256).toNat.toUInt8, ((128 + n % 64) % 256).toNat.toUInt8] := by
      rw [hp]; unfold put0; rw [if_neg c1, if_neg c2, if_neg c3, nums_data]; rfl
    have h1 : (putF n).size = 4 := by rw [Lib.size_eq, hl]; rfl
    have b0 := hb 0 _ (by rw [hl]; rfl) (by omega) (by omega)
    have b1 := hb 1 _ (by rw [hl]; rfl) (by omega) (by omega)
    have b2 := hb 2 _ (by rw [hl]; rfl) (by omega) (by omega)
    have b3 := hb 3 _ (by rw [hl]; rfl) (by omega) (by omega)
    rw [show i + ((0 : Nat) : Int) = i by omega] at b0
    rw [h1]
    rw [h1] at hsz
    exact get4 s hs i i0 n (by omega) (by omega) (by omega) (by omega) (by rw [show i + 1 = i + ((1 : Nat) : Int) by omega]; omega) (by rw [show i + 2 = i + ((2 : Nat) : Int) by omega]; omega) (by rw [show i + 3 = i + ((3 : Nat) : Int) by omega]; omega)
theorem clean_put (s : ByteArray) (hs : s.size ≤ 1048576) (i : Int) (i0 : 0 ≤ i) (n : Int) (hn : signOk n = true) (h1 : 1 ≤ (putF n).size) (hst : standsAt s i (putF n)) : Ev (fun k => impl_cleanSign.f k s i) (n, ((putF n).size : Int)) := by
  have hg := get_put s hs i i0 n hn hst
  have hsz := hst.1
  have h4 := putF_size n
  have hw : wrap64 (i + ((putF n).size : Int)) = i + (putF n).size := by unfold wrap64; omega
  unfold impl_cleanSign.f
  refine Ev.ifn (by omega) ?_
  refine Ev.bind hg ?_
  refine Ev.bind (Ev.up 1 (fun k => implPut_f k n)) ?_
  rw [hw]
  refine Ev.ifp i0 ?_
  refine Ev.ifp (by omega) ?_
  refine Ev.ifp (by omega) ?_
  exact Ev.ifp hst.2.symm (Ev.now _)
end Go.Proofs.YtkmmoheeoblmnaaGreatDoor.A
namespace Go.Proofs.YtkmmoheeoblmnaaGreatDoor.A
open Go.RowKit Go.Proofs.YtkmmoheeoblmnaaGreatDoorW.PrintWords Go.Proofs.YtkmmoheeoblmnaaGreatDoorW.PrintLast Go.Proofs.YtkmmoheeoblmnaaGreatDoorW.PrintMore
set_option linter.unusedVariables false
theorem impl_ref0 (s : ByteArray) (hs : s.size ≤ 1048576) (a : Int) (a0 : 0 ≤ a) (a1 : a < (s.size : Int)) {q : ByteArray × Int} (h : Ev (fun k => xrB k s a) q) : Ev (fun k => impl_XmlRef.f k s a) q := by
  have hw1 : wrap64 ((s.size : Int) - 1) = (s.size : Int) - 1 := by unfold wrap64; omega
  unfold impl_XmlRef.f
  refine Ev.bindc (inRange_f _ _ _) ?_
  rw [hw1, decide_eq_true (show 0 ≤ a ∧ a ≤ (s.size : Int) - 1 by omega)]
  refine Ev.ifp rfl ?_
  exact Ev.ifp ⟨a0, by omega⟩ h
theorem two_stand {s : ByteArray} {a : Int} (a0 : 0 ≤ a) {x y : ByteArray} {b c : UInt8} (hx : standsAt s a x) (hy : standsAt s a y) (bx : x.data.toList[1]? = some b) (cy : y.data.toList[1]? = some c) : b = c := by
  have l1 : 1 < x.size := by
    have := (List.getElem?_eq_some_iff.1 bx).1
    rw [← Lib.size_eq] at this
    exact this
  have l2 : 1 < y.size := by
    have := (List.getElem?_eq_some_iff.1 cy).1
    rw [← Lib.size_eq] at this
    exact this
  obtain ⟨b1, e1, e2⟩ := stands_bt hx a0 1 l1
  obtain ⟨b2, f1, f2⟩ := stands_bt hy a0 1 l2
  rw [bx] at e1
  rw [cy] at f1
  obtain rfl := Option.some.inj e1
  obtain rfl := Option.some.inj f1
  apply UInt8.toNat_inj.mp
  omega
theorem nm_second : ∀ j : Nat, j < 5 → (nameJ j).data.toList[1]? = some (([97, 108, 103, 113, 97] : List UInt8).getD j 0) := by decide
theorem nm_apart : ∀ i : Nat, i < 4 → ∀ j : Nat, j < i → ([97, 108, 103, 113, 97] : List UInt8).getD j 0 ≠ ([97, 108, 103, 113, 97] : List UInt8).getD i 0 := by decide
theorem ref_name (s : ByteArray) (hs : s.size ≤ 1048576) (a : Int) (a0 : 0 ≤ a) (j : Nat) (hj : j < 4) (hy : standsAt s a (nameJ j)) : Ev (fun k => impl_XmlRef.f k s a) (signJ j, a + (nameJ j).size) := by
  have hz := nm_size j (by omega)
  have h1 := hy.1
  have hw : wrap64 (a + ((nameJ j).size : Int)) = a + (nameJ j).size := by unfold wrap64; omega
  refine impl_ref0 s hs a a0 (by omega) ?_
  unfold xrB impl_namedRef.f
  refine Ev.bindc (nrF_at s a a0 (by omega) j nrL nsgL rfl j rfl (show j < 5 by omega) (fun i hi h => nm_apart j hj i hi (two_stand a0 h hy (nm_second i (by omega)) (nm_second j (by omega)))) hy) ?_
  refine Ev.ifp (show ((nameJ j).size : Int) > 0 by omega) ?_
  show Ev (fun _ => some (signJ j, wrap64 (a + ((nameJ j).size : Int)))) _
  rw [hw]
  exact Ev.now _
theorem nm_no35 : ∀ j : Nat, j < 5 → ([97, 108, 103, 113, 97] : List UInt8).getD j 0 ≠ 35 := by decide
theorem ref_num (s : ByteArray) (hs : s.size ≤ 1048576) (a : Int) (a0 : 0 ≤ a) (nm : ByteArray) (e v : Nat) (hz : nm.size = e + 3) (h1 : 1 ≤ e) (h7 : e ≤ 7) (c59 : (nm.data.toList.drop 2)[e]? = some 59) (c48 : (nm.data.toList.drop 2)[0]? ≠ some 48)
    (cd : Lib.decFrom 0 ((nm.data.toList.drop 2).take e) = some v) (c38 : nm.data.toList[0]? = some 38) (c35 : nm.data.toList[1]? = some 35) (ht : isT v = true) (hy : standsAt s a nm) : Ev (fun k => impl_XmlRef.f k s a) (putF v, a + nm.size) := by
  have hb := hy.1
  refine impl_ref0 s hs a a0 (by omega) ?_
  unfold xrB impl_namedRef.f
  refine Ev.bindc (nrF_none s a a0 (by omega) nrL nsgL (fun i hi h => nm_no35 i hi (two_stand a0 h hy (nm_second i hi) c35))) ?_
  refine Ev.ifn (show ¬ (0 : Int) > 0 by decide) ?_
  have sn : standsAt s a (⟨#[38, 35]⟩ : ByteArray) := by
    refine ⟨by show a + 2 ≤ _; omega, ?_⟩
    have hl : (⟨#[38, 35]⟩ : ByteArray).toList = [38, 35] := by rw [Lib.toList_data]
    rw [hl]
    refine (ext_iff s a a0 [38, 35] (by show a + 2 ≤ _; omega)).2 (fun j hj => ?_)
    have hj' : j < 2 := hj
    obtain ⟨b, f1, f2⟩ := stands_bt hy a0 j (by omega)
    rcases (show j = 0 ∨ j = 1 by omega) with rfl | rfl
    · rw [c38] at f1; rw [f2, ← Option.some.inj f1]; rfl
    · rw [c35] at f1; rw [f2, ← Option.some.inj f1]; rfl
  refine Ev.bindc (cut_f s a _ a0 (by omega)) ?_
  rw [if_pos sn]
  have hL : (numL s a).take (e + 1) = nm.data.toList.drop 2 := by
    have h2 := hy.2
    rw [Lib.toList_data, Lib.toList_data, ByteArray.data_extract, Array.toList_extract, List.extract_eq_take_drop] at h2
    rw [← h2, List.drop_take, List.drop_drop, show a.toNat + 2 = (a + 2).toNat by omega, show (a + (nm.size : Int)).toNat - a.toNat - 2 = e + 1 by omega]
  have hN : NumP (numL s a) e v := by
    refine ⟨h1, h7, ?_, ?_, ?_⟩
    · have := congrArg (fun l => l[e]?) hL
      simp only [List.getElem?_take] at this
      rw [if_pos (by omega)] at this
      rw [this]
      exact c59
    · have := congrArg (fun l => l[0]?) hL
      simp only [List.getElem?_take] at this
      rw [if_pos (by omega)] at this
      rw [this]
      exact c48
    · have := congrArg (fun l => l.take e) hL
      simp only [List.take_take] at this
      rw [Nat.min_eq_left (by omega)] at this
      rw [this]
      exact cd
  have := impl_num s hs a a0 (by omega) ((v : Int), a + 2 + e) (.inl ⟨e, v, hN, ht, rfl⟩)
  rw [if_neg (show ¬ a + 2 + (e : Int) < 0 by omega)] at this
  have h2n : ((⟨#[38, 35]⟩ : ByteArray).size : Int) = 2 := rfl
  rw [h2n, show a + (nm.size : Int) = a + 2 + (e : Int) + 1 by omega]
  exact this
theorem ref_esc (s : ByteArray) (hs : s.size ≤ 1048576) (a : Int) (a0 : 0 ≤ a) (c : UInt8) (hc : c = 38 ∨ c = 60 ∨ c = 62 ∨ c = 34 ∨ c = 13 ∨ c = 9 ∨ c = 10) (nm : ByteArray) (hnm : nm.data.toList = gV c) (hy : standsAt s a nm) : Ev (fun k => impl_XmlRef.f k s a) (⟨#[c]⟩, a + nm.size) := by
  have heq : nm = ⟨(gV c).toArray⟩ := by
    apply ByteArray.ext
    rw [← hnm]
  subst heq
  rcases hc with rfl | rfl | rfl | rfl | rfl | rfl | rfl
  · exact ref_name s hs a a0 0 (by decide) hy
  · exact ref_name s hs a a0 1 (by decide) hy
  · exact ref_name s hs a a0 2 (by decide) hy
  · exact ref_name s hs a a0 3 (by decide) hy
  · exact ref_num s hs a a0 _ 2 13 rfl (by decide) (by decide) rfl (by decide) rfl rfl rfl (by decide) hy
  · exact ref_num s hs a a0 _ 1 9 rfl (by decide) (by decide) rfl (by decide) rfl rfl rfl (by decide) hy
  · exact ref_num s hs a a0 _ 2 10 rfl (by decide) (by decide) rfl (by decide) rfl rfl rfl (by decide) hy
structure Esc (g : UInt8 → List UInt8) : Prop where
  two : ∀ b, g b = [b] ∨ (g b = gV b ∧ (b = 38 ∨ b = 60 ∨ b = 62 ∨ b = 34 ∨ b = 13 ∨ b = 9 ∨ b = 10))
  high : ∀ b : UInt8, 128 ≤ b.toNat → g b = [b]
  bare : ∀ b : UInt8, b = 38 ∨ b = 60 ∨ b = 62 ∨ b = 13 → g b ≠ [b]
theorem gT_tab : ∀ n : Nat, n < 256 → (gT (UInt8.ofNat n) = [UInt8.ofNat n] ∨ (gT (UInt8.ofNat n) = gV (UInt8.ofNat n) ∧ (UInt8.ofNat n = 38 ∨ UInt8.ofNat n = 60 ∨ UInt8.ofNat n = 62 ∨ UInt8.ofNat n = 34 ∨ UInt8.ofNat n = 13 ∨ UInt8.ofNat n = 9 ∨ UInt8.ofNat n = 10))) ∧ (128 ≤ n → gT (UInt8.ofNat n) = [UInt8.ofNat n]) ∧ ((UInt8.ofNat n = 38 ∨ UInt8.ofNat n = 60 ∨ UInt8.ofNat n = 62 ∨ UInt8.ofNat n = 13) → gT (UInt8.ofNat n) ≠ [UInt8.ofNat n]) := by decide +kernel
theorem gV_tab : ∀ n : Nat, n < 256 → (gV (UInt8.ofNat n) = [UInt8.ofNat n] ∨ (gV (UInt8.ofNat n) = gV (UInt8.ofNat n) ∧ (UInt8.ofNat n = 38 ∨ UInt8.ofNat n = 60 ∨ UInt8.ofNat n = 62 ∨ UInt8.ofNat n = 34 ∨ UInt8.ofNat n = 13 ∨ UInt8.ofNat n = 9 ∨ UInt8.ofNat n = 10))) ∧ (128 ≤ n → gV (UInt8.ofNat n) = [UInt8.ofNat n]) ∧ ((UInt8.ofNat n = 38 ∨ UInt8.ofNat n = 60 ∨ UInt8.ofNat n = 62 ∨ UInt8.ofNat n = 13) → gV (UInt8.ofNat n) ≠ [UInt8.ofNat n]) := by decide +kernel
theorem u8_of (b : UInt8) : UInt8.ofNat b.toNat = b := by simp
theorem escT_ok : Esc gT := ⟨fun b => by have := (gT_tab b.toNat b.toNat_lt).1; rwa [u8_of] at this, fun b h => by have := (gT_tab b.toNat b.toNat_lt).2.1 h; rwa [u8_of] at this, fun b h => by have := (gT_tab b.toNat b.toNat_lt).2.2; rw [u8_of] at this; exact this h⟩
theorem escV_ok : Esc gV := ⟨fun b => by have := (gV_tab b.toNat b.toNat_lt).1; rwa [u8_of] at this, fun b h => by have := (gV_tab b.toNat b.toNat_lt).2.1 h; rwa [u8_of] at this, fun b h => by have := (gV_tab b.toNat b.toNat_lt).2.2; rw [u8_of] at this; exact this h⟩
abbrev putL (n : Int) : List UInt8 := (putF n).data.toList
theorem isT_ok {n : Int} (h : isT n = true) : signOk n = true := by
  unfold isT at h
  split at h
  · rename_i h9; subst h9; decide
  · split at h
    · rename_i h9; subst h9; decide
    · split at h
      · rename_i h9; subst h9; decide
      · split at h
        · assumption
        · cases h
theorem group_of (g : UInt8 → List UInt8) (hg : Esc g) (n : Int) (hn : isT n = true) : (∃ c : UInt8, putF n = ⟨#[c]⟩ ∧ g c ≠ [c]) ∨ ((putL n).flatMap g = putL n ∧ 1 ≤ (putF n).size ∧ ∀ b ∈ putL n, g b = [b]) := by
  have hok := isT_ok hn
  have hpos := isT_nn hn
  by_cases c1 : n < 128
  · have hl : putL n = [n.toNat.toUInt8] := by show (putF n).data.toList = _; rw [← Lib.toList_data]; exact put_low_list n (by omega) c1
    by_cases c2 : g n.toNat.toUInt8 = [n.toNat.toUInt8]
    · refine .inr ⟨by rw [hl]; simp [c2], by rw [Lib.size_eq, show (putF n).data.toList = _ from hl]; simp, fun b hb => ?_⟩
      rw [hl] at hb
      obtain rfl := List.mem_singleton.1 hb
      exact c2
    · refine .inl ⟨n.toNat.toUInt8, ?_, c2⟩
      apply ByteArray.ext
      apply Array.ext'
      exact hl
  · have hp : putF n = put0 n := by unfold putF; rw [if_pos hok]
    have hok' := hok
    simp only [signOk, Bool.and_eq_true, decide_eq_true_eq] at hok'
    have hh : ∀ b ∈ putL n, g b = [b] := fun b hb => hg.high b (by
      have hb' : b ∈ (put0 n).data.toList := by rw [← hp]; exact hb
      exact put0_high n (by omega) (by omega) b hb')
    refine .inr ⟨?_, ?_, hh⟩
    · generalize putL n = L at hh
      induction L with
      | nil => rfl
      | cons b L ih => rw [List.flatMap_cons, hh b (by simp), ih (fun x hx => hh x (by simp [hx]))]; rfl
    · rw [hp]
      unfold put0
      rw [if_neg c1]
      split
      · show 1 ≤ 2; decide
      · split
        · show 1 ≤ 3; decide
        · show 1 ≤ 4; decide
theorem stands_of_drop (s : ByteArray) (i : Nat) (nm rest : List UInt8) (h : s.data.toList.drop i = nm ++ rest) (hi : i ≤ s.size) : standsAt s (i : Int) ⟨nm.toArray⟩ ∧ s.data.toList.drop (i + nm.length) = rest ∧ i + nm.length ≤ s.size := by
  have hz := Lib.size_eq s
  have hlen := congrArg List.length h
  rw [List.length_drop, List.length_append] at hlen
  have hsz : (⟨nm.toArray⟩ : ByteArray).size = nm.length := by rw [Lib.size_eq]
  refine ⟨⟨by rw [hsz]; omega, ?_⟩, ?_, by omega⟩
  · rw [Lib.toList_data, Lib.toList_data, ByteArray.data_extract, Array.toList_extract, List.extract_eq_take_drop, hsz, show ((i : Int)).toNat = i by omega, show ((i : Int) + (nm.length : Int)).toNat - i = nm.length by omega, h, List.take_left']
    rfl
  · rw [← List.drop_drop, h, List.drop_left']
    rfl
theorem bt_drop (s : ByteArray) (i : Nat) (b : UInt8) (rest : List UInt8) (h : s.data.toList.drop i = b :: rest) : bt s (i : Int) = (b.toNat : Int) ∧ i < s.size := by
  have hz := Lib.size_eq s
  have hlen := congrArg List.length h
  rw [List.length_drop, List.length_cons] at hlen
  obtain ⟨c, e1, e2⟩ := bt_list s (i : Int) (by omega) (by omega)
  rw [show ((i : Int)).toNat = i by omega] at e1
  have := congrArg (fun l => l[0]?) h
  simp only [List.getElem?_drop, Nat.add_zero, List.getElem?_cons_zero] at this
  rw [e1] at this
  obtain rfl := Option.some.inj this
  exact ⟨e2, by omega⟩
theorem first38 (c : UInt8) (hc : c = 38 ∨ c = 60 ∨ c = 62 ∨ c = 34 ∨ c = 13 ∨ c = 9 ∨ c = 10) : ∃ r, gV c = 38 :: r := by
  rcases hc with rfl | rfl | rfl | rfl | rfl | rfl | rfl <;> exact ⟨_, rfl⟩
theorem esc_len (g : UInt8 → List UInt8) (hg : Esc g) (b : UInt8) : 1 ≤ (g b).length := by
  rcases hg.two b with h | ⟨h, hc⟩
  · rw [h]; simp
  · obtain ⟨r, hr⟩ := first38 b hc
    rw [h, hr]
    simp
set_option maxHeartbeats 1000000 in
theorem read_l (s : ByteArray) (hs : s.size ≤ 1048576) (g : UInt8 → List UInt8) (hg : Esc g) (x : UInt8) (hx : g x ≠ [x]) (x38 : x ≠ 38) (a : Nat) : ∀ (l : List Int), (∀ n ∈ l, isT n = true) → ∀ (i : Nat) (out rest : List UInt8), a ≤ i → i ≤ s.size → out.length ≤ 4 * i →
    s.data.toList.drop i = (l.flatMap fun n => (putL n).flatMap g) ++ x :: rest →
    Ev (fun k => xtL k s (a : Int) (⟨#[x]⟩ : ByteArray) (i : Int) out) (⟨(out ++ l.flatMap putL).toArray⟩, ((i + (l.flatMap fun n => (putL n).flatMap g).length : Nat) : Int)) := by
  have xl : (⟨#[x]⟩ : ByteArray).data.toList = [x] := rfl
  intro l
  induction l with
  | nil =>
    intro hl i out rest ai is ho hd
    rw [List.flatMap_nil, List.nil_append] at hd
    obtain ⟨hb, hi⟩ := bt_drop s i x rest hd
    obtain ⟨ri, eri, hri⟩ := index_e (⟨#[x]⟩ : ByteArray) (bt s (i : Int))
    have hin : inE (⟨#[x]⟩ : ByteArray) (bt s (i : Int)) := by
      unfold inE
      rw [xl, hb]
      simp
    refine Ev.step (fun k => by simp only [xtL]; rfl) ?_
    refine Ev.ifp (by omega) ?_
    refine Ev.ifp (by omega) ?_
    refine Ev.bindc eri ?_
    refine Ev.ifn (by have := hri.2 hin; omega) ?_
    rw [List.flatMap_nil, List.flatMap_nil, List.append_nil]
    exact Ev.now _
  | cons n r ih =>
    intro hl i out rest ai is ho hd
    have hn := hl n (by simp)
    rw [List.flatMap_cons, List.append_assoc] at hd
    rw [List.flatMap_cons, List.flatMap_cons, List.length_append]
    obtain ⟨hst, hdr, his⟩ := stands_of_drop s i ((putL n).flatMap g) _ hd is
    have no : ∀ b : UInt8, b ≠ x → bt s (i : Int) = (b.toNat : Int) → ¬ inE (⟨#[x]⟩ : ByteArray) (bt s (i : Int)) := fun b hbx hb h => by
      unfold inE at h
      rw [xl, hb] at h
      apply hbx
      have := List.mem_singleton.1 h
      simpa using this
    rcases group_of g hg n hn with ⟨c, hpc, hgc⟩ | ⟨hfl, hp1, hfix⟩
    · have hpl : putL n = [c] := by show (putF n).data.toList = _; rw [hpc]
      have hgr : (putL n).flatMap g = g c := by rw [hpl]; simp
      rw [hgr] at hst hdr his hd ⊢
      obtain ⟨h2, hc⟩ := (hg.two c).resolve_left hgc
      obtain ⟨r2, hr2⟩ := first38 c hc
      obtain ⟨hb, hi⟩ := bt_drop s i 38 (r2 ++ _) (by rw [hd, h2, hr2]; rfl)
      have hr := ref_esc s hs (i : Int) (by omega) c hc ⟨(g c).toArray⟩ h2 hst
      have hsz : (⟨(g c).toArray⟩ : ByteArray).size = (g c).length := by rw [Lib.size_eq]
      have h38 : bt s (i : Int) = 38 := by rw [hb]; rfl
      have hgl := esc_len g hg c
      obtain ⟨ri, eri, hri⟩ := index_e (⟨#[x]⟩ : ByteArray) (bt s (i : Int))
      have nx := ih (fun m hm => hl m (by simp [hm])) (i + (g c).length) (out ++ [c]) rest (by omega) his (by rw [List.length_append, List.length_singleton]; omega) hdr
      rw [hpl, show out ++ ([c] ++ r.flatMap putL) = out ++ [c] ++ r.flatMap putL by simp, ← Nat.add_assoc]
      refine Ev.step (fun k => by simp only [xtL]; rfl) ?_
      refine Ev.ifp (by omega) ?_
      refine Ev.ifp (by omega) ?_
      refine Ev.bindc eri ?_
      refine Ev.ifp (by have := mt hri.1 (no 38 (fun e => x38 e.symm) hb); omega) ?_
      refine Ev.ifp h38 ?_
      refine Ev.bind hr ?_
      refine Ev.ifn (by show ¬ ((i : Int) + ((⟨(g c).toArray⟩ : ByteArray).size : Int) < 0); omega) ?_
      refine Ev.ifp (by show out.length + 1 ≤ _; omega) ?_
      show Ev (fun k => xtL k s (a : Int) (⟨#[x]⟩ : ByteArray) ((i : Int) + ((⟨(g c).toArray⟩ : ByteArray).size : Int)) (out ++ [c])) _
      rw [hsz, show (i : Int) + ((g c).length : Int) = ((i + (g c).length : Nat) : Int) by omega]
      exact nx
    · rw [hfl] at hst hdr his hd ⊢
      have hpe : (⟨(putL n).toArray⟩ : ByteArray) = putF n := by apply ByteArray.ext; rfl
      rw [hpe] at hst
      have hplen : (putL n).length = (putF n).size := (Lib.size_eq _).symm
      obtain ⟨b, lr, hbl⟩ : ∃ b lr, putL n = b :: lr := by
        cases hq : putL n with
        | nil => rw [hq] at hplen; simp at hplen; omega
        | cons b lr => exact ⟨b, lr, rfl⟩
      obtain ⟨hb, hi⟩ := bt_drop s i b (lr ++ _) (by rw [hd, hbl]; rfl)
      have hgb := hfix b (by rw [hbl]; simp)
      have hbx : b ≠ x := fun e => hx (by rw [← e]; exact hgb)
      have nb : ∀ c : UInt8, (c = 38 ∨ c = 60 ∨ c = 62 ∨ c = 13) → b ≠ c := fun c hc e => hg.bare c hc (by rw [← e]; exact hgb)
      have nlow : ∀ m : Int, 0 ≤ m → m < 128 → n = m → b = m.toNat.toUInt8 := fun m m0 m1 e => by
        have h1 := put_low_list m m0 m1
        rw [Lib.toList_data] at h1
        rw [e] at hbl
        rw [show putL m = _ from h1] at hbl
        exact (List.cons.inj hbl).1.symm
      have hc := clean_put s hs (i : Int) (by omega) n (isT_ok hn) hp1 hst
      have hpos := isT_nn hn
      have h4 := putF_size n
      obtain ⟨ri, eri, hri⟩ := index_e (⟨#[x]⟩ : ByteArray) (bt s (i : Int))
      have hw : wrap64 ((i : Int) + ((putF n).size : Int)) = (i : Int) + (putF n).size := by unfold wrap64; omega
      have hext : (s.extract ((i : Int)).toNat ((i : Int) + ((putF n).size : Int)).toNat).data.toList = putL n := by
        have := hst.2
        rw [Lib.toList_data, Lib.toList_data] at this
        exact this
      have nx := ih (fun m hm => hl m (by simp [hm])) (i + (putL n).length) (out ++ putL n) rest (by omega) his (by rw [List.length_append]; omega) hdr
      rw [← List.append_assoc, ← Nat.add_assoc]
      refine Ev.step (fun k => by simp only [xtL]; rfl) ?_
      refine Ev.ifp (by omega) ?_
      refine Ev.ifp (by omega) ?_
      refine Ev.bindc eri ?_
      refine Ev.ifp (by have := mt hri.1 (no b hbx hb); omega) ?_
      refine Ev.ifn (fun e => nb 38 (by simp) (by apply UInt8.toNat_inj.mp; show b.toNat = 38; omega)) ?_
      refine Ev.bind hc ?_
      unfold xtSign
      refine Ev.ifn (show ¬ n < 0 by omega) ?_
      refine Ev.bindc (implIsT n) ?_
      refine Ev.ifp hn ?_
      refine Ev.ifn (fun e => nb 13 (by simp) (nlow 13 (by decide) (by decide) e)) ?_
      refine Ev.ifn (fun e => nb 60 (by simp) (nlow 60 (by decide) (by decide) e)) ?_
      refine Ev.ifn (fun e => nb 62 (by simp) (nlow 62 (by decide) (by decide) e)) ?_
      unfold xtGo
      show Ev (fun k => if (i : Int) ≤ wrap64 ((i : Int) + ((putF n).size : Int)) ∧ wrap64 ((i : Int) + ((putF n).size : Int)) ≤ (s.size : Int) ∧ out.length + (s.extract ((i : Int)).toNat (wrap64 ((i : Int) + ((putF n).size : Int))).toNat).size ≤ 140737488355327 then xtL k s (a : Int) (⟨#[x]⟩ : ByteArray) (wrap64 ((i : Int) + ((putF n).size : Int))) (out ++ (s.extract ((i : Int)).toNat (wrap64 ((i : Int) + ((putF n).size : Int))).toNat).data.toList) else none) _
      rw [hw, hext]
      refine Ev.ifp ⟨by omega, by omega, by rw [Lib.size_eq, hext]; omega⟩ ?_
      rw [show (i : Int) + ((putF n).size : Int) = ((i + (putL n).length : Nat) : Int) by omega]
      exact nx
theorem sg_text : ∀ (l : List Int) (o : List UInt8), o.length + 4 * l.length ≤ 140737488355327 → ∀ ps : Nat → Int → Option ByteArray, (∀ k n, ps (k + 1) n = some (putF n)) → Ev (fun k => sgF (ps k) l o) ⟨(o ++ l.flatMap putL).toArray⟩
  | [], o, h => fun ps hp => by
    simp only [sgF, List.flatMap_nil, List.append_nil]
    exact Ev.now _
  | n :: r, o, h => fun ps hp => by
    have h4 := putF_size n
    rw [List.length_cons] at h
    have hl : (o ++ (putF n).data.toList).length = o.length + (putF n).size := by rw [List.length_append, data_length]
    have e := sg_text r (o ++ (putF n).data.toList) (by rw [hl]; omega) ps hp
    simp only [sgF]
    rw [List.flatMap_cons, ← List.append_assoc]
    exact Ev.bind (Ev.up 1 (fun k => hp k n)) (Ev.ifp (by omega) e)
theorem textOk_signs (s : ByteArray) (hs : s.size ≤ 1048576) : ∃ r : Bool, Ev (fun k => impl_TextOk.f k s) r ∧ (r = true → ∃ l : List Int, (∀ n ∈ l, isT n = true) ∧ s.data.toList = l.flatMap putL) := by
  obtain ⟨l, hl, e1, e2⟩ := signs_both s hs
  have hT := sg_text l [] (by simp; omega) _ implPut_f
  rw [List.nil_append] at hT
  obtain ⟨t, ht⟩ : ∃ t : ByteArray, (⟨(l.flatMap putL).toArray⟩ : ByteArray) = t := ⟨_, rfl⟩
  rw [ht] at hT
  have hI : Ev (fun k => (impl_CleanOk.f k s).bind fun t404 => (some t404)) (t.toList == s.toList) := by
    refine Ev.bind ?_ (Ev.now _)
    unfold impl_CleanOk.f impl_Clean.f impl_SignText.f
    exact Ev.bind (Ev.bind e2 (Ev.bind hT (Ev.now t))) (Ev.now _)
  have hrd : ∀ (j : Int), 0 ≤ j → (h : j.toNat < l.length) → rd l j = l[j.toNat] := fun j h0 h => by
    unfold rd
    simp [h]
  have loop : ∀ (d : Nat) (j : Int), 0 ≤ j → j ≤ l.length → ((l.length : Int) - j).toNat ≤ d → ∃ r : Bool, Ev (fun k => impl_TextOk.l0 k s l (l.length : Int) j) r ∧ (r = true → (∀ m : Nat, j.toNat ≤ m → (h : m < l.length) → isT l[m] = true) ∧ t.toList = s.toList) := by
    intro d
    induction d with
    | zero =>
      intro j h0 hj hd
      refine ⟨_, ?_, fun h => ⟨fun m h1 h2 => absurd h2 (by omega), beq_iff_eq.mp h⟩⟩
      refine Ev.step (fun k => by rw [impl_TextOk.l0]) ?_
      exact Ev.ifn (by omega) hI
    | succ d ih =>
      intro j h0 hj hd
      by_cases hlt : j < (l.length : Int)
      case neg => exact ih j h0 hj (by omega)
      have hw : wrap64 (j + 1) = j + 1 := by unfold wrap64; omega
      by_cases hT2 : isT (rd l j) = true
      · obtain ⟨r, f1, f2⟩ := ih (j + 1) (by omega) (by omega) (by omega)
        refine ⟨r, ?_, fun h => ⟨fun m h1 h2 => ?_, (f2 h).2⟩⟩
        · refine Ev.step (fun k => by rw [impl_TextOk.l0]) ?_
          rw [hw]
          refine Ev.ifp hlt ?_
          refine Ev.ifp h0 ?_
          refine Ev.ifp hlt ?_
          refine Ev.bindc (implIsT _) ?_
          exact Ev.ifp hT2 f1
        · by_cases e : m = j.toNat
          · subst e
            rw [← hrd j h0 h2]
            exact hT2
          · exact (f2 h).1 m (by omega) h2
      · refine ⟨false, ?_, fun h => nomatch h⟩
        refine Ev.step (fun k => by rw [impl_TextOk.l0]) ?_
        refine Ev.ifp hlt ?_
        refine Ev.ifp h0 ?_
        refine Ev.ifp hlt ?_
        refine Ev.bindc (implIsT _) ?_
        exact Ev.ifn hT2 (Ev.now _)
  obtain ⟨r, f1, f2⟩ := loop _ 0 (by omega) (by omega) (Nat.le_refl _)
  refine ⟨r, ?_, fun h => ⟨l, fun n hn => ?_, ?_⟩⟩
  · unfold impl_TextOk.f
    exact Ev.bind e2 f1
  · obtain ⟨m, hm, rfl⟩ := List.getElem_of_mem hn
    exact (f2 h).1 m (by omega) hm
  · have := (f2 h).2
    rw [← ht, Lib.toList_data, Lib.toList_data] at this
    exact this.symm
theorem esc_flat (g : UInt8 → List UInt8) (l : List Int) : (l.flatMap putL).flatMap g = l.flatMap fun n => (putL n).flatMap g := by
  rw [List.flatMap_assoc]
theorem back_text (s : ByteArray) (hs : s.size ≤ 1000) (l : List Int) (hl : ∀ n ∈ l, isT n = true) (hsl : s.data.toList = l.flatMap putL) (g : UInt8 → List UInt8) (hg : Esc g) (h6 : ∀ b, (g b).length ≤ 6) (e : ByteArray) (he : e.data.toList = s.data.toList.flatMap g) :
    Ev (fun k => impl_XmlText.f k (e ++ (⟨#[60]⟩ : ByteArray)) 0 (⟨#[60]⟩ : ByteArray)) (s, (e.size : Int)) := by
  have hz := flat_len s.data.toList g h6
  have hez : e.size = (s.data.toList.flatMap g).length := by rw [Lib.size_eq, he]
  have hsz : s.data.toList.length = s.size := (Lib.size_eq s).symm
  have hes : (e ++ (⟨#[60]⟩ : ByteArray)).size = e.size + 1 := ByteArray.size_append
  unfold impl_XmlText.f
  refine Ev.bindc (inRange_f _ _ _) ?_
  rw [decide_eq_true (show (0 : Int) ≤ 0 ∧ 0 ≤ ((e ++ (⟨#[60]⟩ : ByteArray)).size : Int) by omega)]
  refine Ev.ifp rfl ?_
  have := read_l (e ++ (⟨#[60]⟩ : ByteArray)) (by omega) g hg 60 (hg.bare 60 (by simp)) (by decide) 0 l hl 0 [] [] (by omega) (by omega) (by simp) (by
    rw [List.drop_zero, ByteArray.data_append, Array.toList_append, he, hsl, esc_flat])
  rw [List.nil_append, ← hsl, ← esc_flat, ← hsl, ← hez, Nat.zero_add] at this
  exact this
theorem clean_low (s : ByteArray) (hs : s.size ≤ 1048576) (i : Int) (i0 : 0 ≤ i) (c : Int) (is : i < s.size) (hc : bt s i = c) (c0 : 0 ≤ c) (c1 : c < 128) : Ev (fun k => impl_cleanSign.f k s i) (c, 1) := by
  obtain ⟨q, q1, q4, ⟨qe, qn, qa⟩, e1, e2⟩ := clean_both s hs i i0 is
  obtain rfl := qa (by omega)
  have hcl : (putF (bt s i)).toList = (s.extract i.toNat (i + 1).toNat).toList := by
    rw [put_low_list _ (by omega) (by omega)]
    refine ((ext_iff s i i0 [(bt s i).toNat.toUInt8] (by show i + 1 ≤ _; omega)).2 (fun j hj => ?_)).symm
    have hj0 : j = 0 := by have : j < 1 := hj; omega
    subst hj0
    rw [show i + ((0 : Nat) : Int) = i by omega]
    exact (u8_back (bt s i) (by omega) (by omega)).symm
  rw [if_pos hcl, hc] at e2
  exact e2
theorem gV_no : ∀ n : Nat, n < 256 → ¬ (9 ∈ gV (UInt8.ofNat n)) ∧ ¬ (10 ∈ gV (UInt8.ofNat n)) := by decide +kernel
theorem any_none (x : ByteArray) (h : x.size ≤ 1048576) (L : List UInt8) (hx : x.data.toList = L.flatMap gV) : strings_ContainsAny.f x (⟨#[9, 10]⟩ : ByteArray) = some false := by
  unfold strings_ContainsAny.f
  rw [if_pos ⟨rfl, by omega⟩]
  congr 1
  unfold Lib.containsAny
  apply decide_eq_false
  rw [anyIdx_iff, hx]
  rintro ⟨b, hb, hc⟩
  obtain ⟨c, _, hbc⟩ := List.mem_flatMap.1 hb
  have hno := gV_no c.toNat c.toNat_lt
  rw [u8_of] at hno
  have : b = 9 ∨ b = 10 := by simpa using hc
  rcases this with h9 | h10
  · rw [h9] at hbc
    exact hno.1 hbc
  · rw [h10] at hbc
    exact hno.2 hbc
set_option maxHeartbeats 2000000 in
theorem back_attr (s : ByteArray) (hs : s.size ≤ 1000) (l : List Int) (hl : ∀ n ∈ l, isT n = true) (hsl : s.data.toList = l.flatMap putL) :
    Ev (fun k => impl_XmlAttr.f k (((⟨#[107, 61, 34]⟩ : ByteArray) ++ escV s) ++ (⟨#[34, 32]⟩ : ByteArray)) 0) ((⟨#[107]⟩ : ByteArray), s, ((escV s).size : Int) + 4) := by
  have h6 : ∀ b, (gV b).length ≤ 6 := fun b => by have := (g_lens b.toNat b.toNat_lt).2.2.2; rwa [u8_of] at this
  have hz := flat_len s.data.toList gV h6
  have hE : (escV s).data.toList = s.data.toList.flatMap gV := rfl
  have hez : (escV s).size = (s.data.toList.flatMap gV).length := by rw [Lib.size_eq, hE]
  have hsz : s.data.toList.length = s.size := (Lib.size_eq s).symm
  obtain ⟨T, hT⟩ : ∃ T : ByteArray, ((⟨#[107, 61, 34]⟩ : ByteArray) ++ escV s) ++ (⟨#[34, 32]⟩ : ByteArray) = T := ⟨_, rfl⟩
  rw [hT]
  have hTl : T.data.toList = 107 :: 61 :: 34 :: (s.data.toList.flatMap gV ++ [34, 32]) := by
    rw [← hT, ByteArray.data_append, Array.toList_append, ByteArray.data_append, Array.toList_append, hE]
    rfl
  have hTs : T.size = (escV s).size + 5 := by
    rw [Lib.size_eq, hTl, hez]
    simp
  have b0 : bt T 0 = 107 := by have := (bt_drop T 0 107 _ (by rw [List.drop_zero]; exact hTl)).1; simpa using this
  have b1 : bt T 1 = 61 := by have := (bt_drop T 1 61 (34 :: (s.data.toList.flatMap gV ++ [34, 32])) (by rw [hTl, List.drop_succ_cons, List.drop_zero])).1; simpa using this
  have b2 : bt T 2 = 34 := by have := (bt_drop T 2 34 (s.data.toList.flatMap gV ++ [34, 32]) (by rw [hTl, List.drop_succ_cons, List.drop_succ_cons, List.drop_zero])).1; simpa using this
  have hTm : T.size ≤ 1048576 := by omega
  have e1 : T.extract (0 : Int).toNat (1 : Int).toNat = (⟨#[107]⟩ : ByteArray) := by
    apply ByteArray.ext
    apply Array.ext'
    rw [ByteArray.data_extract, Array.toList_extract, hTl]
    rfl
  have hname : Ev (fun k => impl_XmlName.f k T 0) ((⟨#[107]⟩ : ByteArray), 1) := by
    have hw1 : wrap64 ((T.size : Int) - 1) = (T.size : Int) - 1 := by unfold wrap64; omega
    have hw2 : wrap64 (0 + 1) = 1 := by unfold wrap64; omega
    unfold impl_XmlName.f
    refine Ev.bindc (inRange_f _ _ _) ?_
    rw [hw1, decide_eq_true (show (0 : Int) ≤ 0 ∧ 0 ≤ (T.size : Int) - 1 by omega)]
    refine Ev.ifp rfl ?_
    refine Ev.step (fun k => by simp only [impl_XmlName.l0]; rfl) ?_
    refine Ev.bind (clean_low T hTm 0 (by omega) 107 (by omega) b0 (by decide) (by decide)) ?_
    refine Ev.ifn (by decide) ?_
    refine Ev.ifp trivial ?_
    refine Ev.bindc (implFirst_f 107) ?_
    refine Ev.ifp (by decide) ?_
    refine Ev.bindc (implNext_f 107) ?_
    refine Ev.ifp (by decide) ?_
    rw [hw2]
    refine Ev.step (fun k => by simp only [impl_XmlName.l0]; rfl) ?_
    refine Ev.bind (clean_low T hTm 1 (by omega) 61 (by omega) b1 (by decide) (by decide)) ?_
    refine Ev.ifn (by decide) ?_
    refine Ev.ifn (by decide) ?_
    refine Ev.bindc (implNext_f 61) ?_
    refine Ev.ifn (by decide) ?_
    refine Ev.ifp (by decide) ?_
    refine Ev.ifp (by decide) ?_
    refine Ev.ifp (by omega) ?_
    rw [e1]
    exact Ev.now _
  have hst : standsAt T 1 (⟨#[61, 34]⟩ : ByteArray) := by
    refine ⟨by show (1 : Int) + 2 ≤ _; omega, ?_⟩
    have hll : (⟨#[61, 34]⟩ : ByteArray).toList = [61, 34] := by rw [Lib.toList_data]
    rw [hll]
    refine (ext_iff T 1 (by decide) [61, 34] (by show (1 : Int) + 2 ≤ _; omega)).2 (fun j hj => ?_)
    have hj' : j < 2 := hj
    rcases (show j = 0 ∨ j = 1 by omega) with rfl | rfl
    · exact b1
    · exact b2
  have htext : Ev (fun k => impl_XmlText.f k T 3 (⟨#[34]⟩ : ByteArray)) (s, 3 + ((escV s).size : Int)) := by
    unfold impl_XmlText.f
    refine Ev.bindc (inRange_f _ _ _) ?_
    rw [decide_eq_true (show (0 : Int) ≤ 3 ∧ 3 ≤ (T.size : Int) by omega)]
    refine Ev.ifp rfl ?_
    have := read_l T hTm gV escV_ok 34 (by decide) (by decide) 3 l hl 3 [] [32] (by omega) (by omega) (by simp) (by
      rw [hTl, hsl, esc_flat]
      rfl)
    rw [List.nil_append, ← hsl, ← esc_flat, ← hsl, ← hez] at this
    rw [show (3 : Int) + ((escV s).size : Int) = ((3 + (escV s).size : Nat) : Int) by omega]
    exact this
  have hx : (T.extract (3 : Int).toNat (3 + ((escV s).size : Int)).toNat).data.toList = s.data.toList.flatMap gV := by
    rw [ByteArray.data_extract, Array.toList_extract, List.extract_eq_take_drop, hTl, show (3 + ((escV s).size : Int)).toNat - (3 : Int).toNat = (s.data.toList.flatMap gV).length by omega]
    show List.take _ (s.data.toList.flatMap gV ++ [34, 32]) = _
    exact List.take_left' rfl
  have hany : strings_ContainsAny.f (T.extract (3 : Int).toNat (3 + ((escV s).size : Int)).toNat) (⟨#[9, 10]⟩ : ByteArray) = some false := any_none _ (by rw [ByteArray.size_extract]; omega) _ hx
  have hw3 : wrap64 (1 + 2) = 3 := by unfold wrap64; omega
  have hwn : wrap64 (3 + ((escV s).size : Int) + 1) = ((escV s).size : Int) + 4 := by unfold wrap64; omega
  unfold impl_XmlAttr.f
  refine Ev.bind hname ?_
  refine Ev.ifn (by rw [Lib.toList_data]; simp) ?_
  refine Ev.ifp (by decide) ?_
  refine Ev.ifp (by show (1 : Int) ≤ _; omega) ?_
  refine Ev.bindc (hasPrefix_f T 1 (⟨#[61, 34]⟩ : ByteArray) (by decide) (by omega)) ?_
  rw [decide_eq_true hst]
  refine Ev.step (fun k => by simp only [impl_XmlAttr.j0]; rfl) ?_
  refine Ev.ifn (by simp) ?_
  rw [hw3]
  refine Ev.bind htext ?_
  refine Ev.ifn (by show ¬ 3 + ((escV s).size : Int) < 0; omega) ?_
  refine Ev.ifn (by show ¬ 3 + ((escV s).size : Int) = (T.size : Int); omega) ?_
  refine Ev.ifp (by decide) ?_
  refine Ev.ifp (by show (3 : Int) ≤ 3 + ((escV s).size : Int); omega) ?_
  refine Ev.ifp (by show 3 + ((escV s).size : Int) ≤ (T.size : Int); omega) ?_
  refine Ev.bindc hany ?_
  refine Ev.ifn (by simp) ?_
  rw [hwn]
  exact Ev.now _
theorem round_ok : RoundOk := by
  intro s v hs
  have h6V : ∀ b, (gV b).length ≤ 6 := fun b => by have := (g_lens b.toNat b.toNat_lt).2.2.2; rwa [u8_of] at this
  have h6T : ∀ b, (gT b).length ≤ 6 := fun b => by have := (g_lens b.toNat b.toNat_lt).1.2.2.2; rwa [u8_of] at this
  obtain ⟨r, t1, t2⟩ := textOk_signs s (by omega)
  refine Ev.step (fun k => by simp only [laws_FnPieces.j2]; rfl) ?_
  refine Ev.ifn (by simp) ?_
  refine Ev.bind t1 ?_
  by_cases hr : r = true
  case neg => exact Ev.ifn hr (Ev.now _)
  obtain ⟨l, hl, hsl⟩ := t2 hr
  refine Ev.ifp hr ?_
  have hzV := flat_len s.data.toList gV h6V
  have hzT := flat_len s.data.toList gT h6T
  have hsz : s.data.toList.length = s.size := (Lib.size_eq s).symm
  have heV : (escV s).size = (s.data.toList.flatMap gV).length := by rw [Lib.size_eq]; rfl
  have heT : (escT s).size = (s.data.toList.flatMap gT).length := by rw [Lib.size_eq]; rfl
  have hb : Ev (fun k => impl_XmlText.f k ((if v = true then escV s else escT s) ++ (⟨#[60]⟩ : ByteArray)) 0 (⟨#[60]⟩ : ByteArray)) (s, ((if v = true then escV s else escT s).size : Int)) := by
    cases v with
    | true => exact back_text s hs l hl hsl gV escV_ok h6V (escV s) rfl
    | false => exact back_text s hs l hl hsl gT escT_ok h6T (escT s) rfl
  refine Ev.ifp (by cases v <;> simp only [if_true, if_false, Bool.false_eq_true] <;> omega) ?_
  refine Ev.bind hb ?_
  refine Ev.ifp rfl ?_
  rw [show ((s, ((if v = true then escV s else escT s).size : Int)).2 != ((if v = true then escV s else escT s).size : Int)) = false by simp]
  refine Ev.step (fun k => by simp only [laws_FnPieces.j3]; rfl) ?_
  refine Ev.ifn (by simp) ?_
  have hesc := implEscape_f s (by omega) true
  rw [if_pos rfl] at hesc
  refine Ev.bindc hesc ?_
  refine Ev.ifp (by omega) ?_
  refine Ev.ifp (by rw [ByteArray.size_append]; show 3 + (escV s).size + 2 ≤ _; omega) ?_
  refine Ev.bind (back_attr s hs l hl hsl) ?_
  refine Ev.ifp rfl ?_
  refine Ev.bindc hesc ?_
  have hw : wrap64 (((escV s).size : Int) + 4) = ((escV s).size : Int) + 4 := by unfold wrap64; omega
  rw [hw]
  show Ev (fun _ => some (((escV s).size : Int) + 4 == ((escV s).size : Int) + 4)) true
  rw [show (((escV s).size : Int) + 4 == ((escV s).size : Int) + 4) = true by simp]
  exact Ev.now _
end Go.Proofs.YtkmmoheeoblmnaaGreatDoor.A
namespace Go.Proofs.YtkmmoheeoblmnaaGreatDoor.A
open Go.RowKit Go.Proofs.YtkmmoheeoblmnaaGreatDoorW.PrintWords Go.Proofs.YtkmmoheeoblmnaaGreatDoorW.PrintLast Go.Proofs.YtkmmoheeoblmnaaGreatDoorW.PrintMore
theorem Pieces_pure : laws_FnPieces.Pure := fun l0 _ _ _ => Pieces_of round_ok l0
end Go.Proofs.YtkmmoheeoblmnaaGreatDoor.A
