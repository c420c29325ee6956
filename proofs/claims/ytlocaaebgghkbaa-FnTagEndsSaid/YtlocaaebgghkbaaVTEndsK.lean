-- joined by wip/tools/shake.py
import Derived.Test.YtlocaaebgghkbaaVTEndsWWords
import Derived.Test.YtlocaaebgghkbaaVTEndsWLast
import Derived.Test.YtlocaaebgghkbaaVTEndsWMore
import Derived.Test.YtlocaaebgghkbaaVTEndsWNEv
import Derived.StillTailTactics
namespace Go.Proofs.Ytlocaaebgghkbaa.A
open Go.RowKit Go.Proofs.YtlocaaebgghkbaaW.PrintWords Go.Proofs.YtlocaaebgghkbaaW.PrintLast Go.Proofs.YtlocaaebgghkbaaW.PrintMore
def blk (c : Int) : Bool := c == 9 || c == 10 || c == 12 || c == 13 || c == 32
def ovr (s : ByteArray) (k : Int) (e : Bool) : Bool := decide ((s.size : Int) ≤ k) || (e && bt s k == 62)
theorem ovr_lt {s : ByteArray} {j : Int} {e : Bool} (d1 : ovr s j e = false) : j < (s.size : Int) := by
  have : ¬ ((s.size : Int) ≤ j) := fun h => by simp [ovr, h] at d1
  omega
def sepF (s : ByteArray) (e : Bool) (k : Int) (sl : Bool) : Int × Bool :=
  if k < (s.size : Int) then
    if ovr s k e = false ∧ (blk (bt s k) = true ∨ bt s k = 47) then sepF s e (k + 1) (bt s k == 47) else (k, sl)
  else (k, sl)
termination_by ((s.size : Int) - k).toNat
decreasing_by omega
theorem sepF_go {s : ByteArray} {e : Bool} {k : Int} {sl : Bool} (h : k < (s.size : Int)) (h1 : ovr s k e = false) (h2 : blk (bt s k) = true ∨ bt s k = 47) : sepF s e k sl = sepF s e (k + 1) (bt s k == 47) := by
  rw [sepF, if_pos h, if_pos ⟨h1, h2⟩]
theorem sepF_stop {s : ByteArray} {e : Bool} {k : Int} {sl : Bool} (h : ¬ (k < (s.size : Int)) ∨ ¬ (ovr s k e = false ∧ (blk (bt s k) = true ∨ bt s k = 47))) : sepF s e k sl = (k, sl) := by
  rw [sepF]
  rcases h with h | h
  · rw [if_neg h]
  · rw [if_neg h]; split <;> rfl
def pastB (s : ByteArray) (k : Int) : Int :=
  if k < (s.size : Int) then if blk (bt s k) = true then pastB s (k + 1) else k else k
termination_by ((s.size : Int) - k).toNat
decreasing_by omega
theorem pastB_go {s : ByteArray} {k : Int} (h : k < (s.size : Int)) (h1 : blk (bt s k) = true) : pastB s k = pastB s (k + 1) := by
  rw [pastB, if_pos h, if_pos h1]
theorem pastB_stop {s : ByteArray} {k : Int} (h : ¬ (k < (s.size : Int)) ∨ blk (bt s k) = false) : pastB s k = k := by
  rw [pastB]
  rcases h with h | h
  · rw [if_neg h]
  · by_cases hk : k < (s.size : Int)
    · rw [if_pos hk, if_neg (by rw [h]; simp)]
    · rw [if_neg hk]
theorem pastB_le {s : ByteArray} : ∀ (d : Nat) (k : Int), ((s.size : Int) - k).toNat = d → k ≤ s.size → k ≤ pastB s k ∧ pastB s k ≤ s.size := by
  intro d
  induction d with
  | zero => intro k hd hk; rw [pastB_stop (.inl (by omega))]; omega
  | succ d ih =>
    intro k hd hk
    by_cases h : blk (bt s k) = true
    · rw [pastB_go (by omega) h]
      have := ih (k + 1) (by omega) (by omega)
      omega
    · rw [pastB_stop (.inr (by simpa using h))]; omega
def plF (s : ByteArray) (e : Bool) (k : Int) : Int :=
  if k < (s.size : Int) then if ovr s k e = false ∧ blk (bt s k) = false then plF s e (k + 1) else k else k
termination_by ((s.size : Int) - k).toNat
decreasing_by omega
theorem plF_go {s : ByteArray} {e : Bool} {k : Int} (h : k < (s.size : Int)) (h1 : ovr s k e = false) (h2 : blk (bt s k) = false) : plF s e k = plF s e (k + 1) := by
  rw [plF, if_pos h, if_pos ⟨h1, h2⟩]
theorem plF_stop {s : ByteArray} {e : Bool} {k : Int} (h : ¬ (ovr s k e = false ∧ blk (bt s k) = false)) : plF s e k = k := by
  rw [plF]
  by_cases hk : k < (s.size : Int)
  · rw [if_pos hk, if_neg h]
  · rw [if_neg hk]
def inNm (s : ByteArray) (from_ k : Int) : Bool := !(blk (bt s k) || bt s k == 47 || (bt s k == 61 && decide (from_ < k)))
def nmF (s : ByteArray) (e : Bool) (from_ k : Int) : Int :=
  if k < (s.size : Int) then if ovr s k e = false ∧ inNm s from_ k = true then nmF s e from_ (k + 1) else k else k
termination_by ((s.size : Int) - k).toNat
decreasing_by omega
theorem nmF_go {s : ByteArray} {e : Bool} {f k : Int} (h : k < (s.size : Int)) (h1 : ovr s k e = false) (h2 : inNm s f k = true) : nmF s e f k = nmF s e f (k + 1) := by
  rw [nmF, if_pos h, if_pos ⟨h1, h2⟩]
theorem nmF_stop {s : ByteArray} {e : Bool} {f k : Int} (h : ¬ (k < (s.size : Int)) ∨ ¬ (ovr s k e = false ∧ inNm s f k = true)) : nmF s e f k = k := by
  rw [nmF]
  rcases h with h | h
  · rw [if_neg h]
  · by_cases hk : k < (s.size : Int)
    · rw [if_pos hk, if_neg h]
    · rw [if_neg hk]
def inTn (c : Int) : Bool := !(blk c || c == 47 || c == 62)
def tnE (s : ByteArray) (k : Int) : Int :=
  if k < (s.size : Int) then if inTn (bt s k) = true then tnE s (k + 1) else k else k
termination_by ((s.size : Int) - k).toNat
decreasing_by omega
theorem tnE_go {s : ByteArray} {k : Int} (h : k < (s.size : Int)) (h1 : inTn (bt s k) = true) : tnE s k = tnE s (k + 1) := by
  rw [tnE, if_pos h, if_pos h1]
theorem tnE_stop {s : ByteArray} {k : Int} (h : ¬ (k < (s.size : Int)) ∨ inTn (bt s k) = false) : tnE s k = k := by
  rw [tnE]
  rcases h with h | h
  · rw [if_neg h]
  · by_cases hk : k < (s.size : Int)
    · rw [if_pos hk, if_neg (by rw [h]; simp)]
    · rw [if_neg hk]
theorem tnE_le {s : ByteArray} : ∀ (d : Nat) (k : Int), ((s.size : Int) - k).toNat = d → k ≤ s.size → k ≤ tnE s k ∧ tnE s k ≤ s.size := by
  intro d
  induction d with
  | zero => intro k hd hk; rw [tnE_stop (.inl (by omega))]; omega
  | succ d ih =>
    intro k hd hk
    by_cases h : inTn (bt s k) = true
    · rw [tnE_go (by omega) h]
      have := ih (k + 1) (by omega) (by omega)
      omega
    · rw [tnE_stop (.inr (by simpa using h))]; omega
theorem sepF_le {s : ByteArray} {e : Bool} : ∀ (d : Nat) (k : Int) (sl : Bool), ((s.size : Int) - k).toNat = d → k ≤ s.size → k ≤ (sepF s e k sl).1 ∧ (sepF s e k sl).1 ≤ s.size := by
  intro d
  induction d with
  | zero => intro k sl hd hk; rw [sepF_stop (.inl (by omega))]; exact ⟨Int.le_refl _, hk⟩
  | succ d ih =>
    intro k sl hd hk
    by_cases h : ovr s k e = false ∧ (blk (bt s k) = true ∨ bt s k = 47)
    · rw [sepF_go (by omega) h.1 h.2]
      have := ih (k + 1) (bt s k == 47) (by omega) (by omega)
      omega
    · rw [sepF_stop (.inr h)]; exact ⟨Int.le_refl _, hk⟩
end Go.Proofs.Ytlocaaebgghkbaa.A
