/- What the reference's loops over a tag come to, in words of mine: names, values, separators. -/
import Derived.Test.YtlocaaebgghkbaaK
import Derived.Test.YtlocaaebgghkbaaAx11
import Derived.Test.YtlocaaebgghkbaaAx26
import Derived.Lib.IndexLaws
namespace Go.Proofs.Ytlocaaebgghkbaa.A
open Go.RowKit Go.Proofs.YtlocaaebgghkbaaW.PrintWords Go.Proofs.YtlocaaebgghkbaaW.PrintLast Go.Proofs.YtlocaaebgghkbaaW.PrintMore
set_option linter.unusedVariables false

theorem w1 {i : Int} {n : Nat} (h0 : 0 ≤ i) (h1 : i ≤ (n : Int)) (hm : n ≤ 140737488351232) : wrap64 (i + 1) = i + 1 := by unfold wrap64; omega
theorem l4Blank_f (c : Int) (h0 : 0 ≤ c) (h1 : c ≤ 255) : spec_l4Blank.f c = some (blk c) := by
  have hw : wrap64 c = c := by unfold wrap64; omega
  unfold spec_l4Blank.f spec_IsBlank.f blk
  rw [hw]
  by_cases a1 : c = 9
  · simp [a1]
  by_cases a2 : c = 10
  · simp [a2]
  by_cases a3 : c = 12
  · simp [a3]
  by_cases a4 : c = 13
  · simp [a4]
  simp [a1, a2, a3, a4]
theorem l4Tag_l (s : ByteArray) (hm : s.size ≤ 140737488351232) (d : Nat) : ∀ (k : Nat) (i : Int), 0 ≤ i → i ≤ s.size → ((s.size : Int) - i).toNat = d → d < k → spec_l4Tag.l0 k s i = some (tnE s i) := by
  induction d with
  | zero =>
    intro k i h0 h1 hd hk
    obtain ⟨k, rfl⟩ : ∃ m, k = m + 1 := ⟨k - 1, by omega⟩
    simp only [spec_l4Tag.l0]
    rw [if_neg (by omega), tnE_stop (.inl (by omega))]
  | succ d ih =>
    intro k i h0 h1 hd hk
    obtain ⟨k, rfl⟩ : ∃ m, k = m + 1 := ⟨k - 1, by omega⟩
    have hr := bt_range s i
    simp only [spec_l4Tag.l0]
    rw [if_pos (by omega), if_pos h0, l4Blank_f _ hr.1 hr.2]
    simp only [Option.bind_some]
    by_cases c1 : blk (bt s i) = true
    · rw [if_pos c1, tnE_stop (.inr (by simp [inTn, c1]))]
    rw [if_neg c1]
    have c1' : blk (bt s i) = false := by simpa using c1
    by_cases c2 : bt s i = 47
    · rw [if_pos c2, tnE_stop (.inr (by simp [inTn, c2]))]
    rw [if_neg c2]
    by_cases c3 : bt s i = 62
    · rw [if_pos c3, tnE_stop (.inr (by simp [inTn, c3]))]
    rw [if_neg c3, w1 h0 h1 hm, tnE_go (by omega) (by simp [inTn, c1', c2, c3])]
    exact ih k (i + 1) (by omega) (by omega) (by omega) (by omega)
theorem l4Blanks_l (s : ByteArray) (hm : s.size ≤ 140737488351232) (d : Nat) : ∀ (k : Nat) (i : Int), 0 ≤ i → i ≤ s.size → ((s.size : Int) - i).toNat = d → d < k → spec_l4Blanks.l0 k s i = some (pastB s i) := by
  induction d with
  | zero =>
    intro k i h0 h1 hd hk
    obtain ⟨k, rfl⟩ : ∃ m, k = m + 1 := ⟨k - 1, by omega⟩
    simp only [spec_l4Blanks.l0]
    rw [if_neg (by omega), pastB_stop (.inl (by omega))]
  | succ d ih =>
    intro k i h0 h1 hd hk
    obtain ⟨k, rfl⟩ : ∃ m, k = m + 1 := ⟨k - 1, by omega⟩
    have hr := bt_range s i
    simp only [spec_l4Blanks.l0]
    rw [if_pos (by omega), if_pos h0, l4Blank_f _ hr.1 hr.2]
    simp only [Option.bind_some]
    by_cases c1 : blk (bt s i) = true
    · rw [if_pos c1, w1 h0 h1 hm, pastB_go (by omega) c1]
      exact ih k (i + 1) (by omega) (by omega) (by omega) (by omega)
    · rw [if_neg c1, pastB_stop (.inr (by simpa using c1))]
/-- separators: blanks and '/'; what stands in 'slash' turns nothing -/
theorem l4Skip_l (s : ByteArray) (hm : s.size ≤ 140737488351232) (d : Nat) : ∀ (k : Nat) (i : Int) (b : Bool), 0 ≤ i → i ≤ s.size → ((s.size : Int) - i).toNat = d → d < k → spec_l4Skip.l0 k s i = some (sepF s true i b).1 := by
  induction d with
  | zero =>
    intro k i b h0 h1 hd hk
    obtain ⟨k, rfl⟩ : ∃ m, k = m + 1 := ⟨k - 1, by omega⟩
    simp only [spec_l4Skip.l0]
    rw [if_neg (by omega), sepF_stop (.inl (by omega))]
  | succ d ih =>
    intro k i b h0 h1 hd hk
    obtain ⟨k, rfl⟩ : ∃ m, k = m + 1 := ⟨k - 1, by omega⟩
    have hr := bt_range s i
    have hlt : i < (s.size : Int) := by omega
    simp only [spec_l4Skip.l0]
    rw [if_pos hlt, if_pos h0, l4Blank_f _ hr.1 hr.2]
    simp only [Option.bind_some]
    by_cases c1 : blk (bt s i) = true
    · have ho : ovr s i true = false := by
        have : bt s i ≠ 62 := fun h => by rw [h] at c1; exact absurd c1 (by decide)
        simp [ovr, this]; omega
      rw [if_pos c1, w1 h0 h1 hm, sepF_go hlt ho (.inl c1)]
      exact ih k (i + 1) _ (by omega) (by omega) (by omega) (by omega)
    rw [if_neg c1]
    by_cases c2 : bt s i = 47
    · have ho : ovr s i true = false := by simp [ovr, c2]; omega
      rw [if_pos c2, w1 h0 h1 hm, sepF_go hlt ho (.inr c2)]
      exact ih k (i + 1) _ (by omega) (by omega) (by omega) (by omega)
    · rw [if_neg c2, sepF_stop (.inr (fun h => h.2.elim c1 c2))]
theorem l4Name_l (s : ByteArray) (f : Int) (e : Bool) (hm : s.size ≤ 140737488351232) (d : Nat) : ∀ (k : Nat) (i : Int), 0 ≤ i → f ≤ i → i ≤ s.size → ((s.size : Int) - i).toNat = d → d < k → spec_l4Name.l0 k s f e i = some (nmF s e f i) := by
  induction d with
  | zero =>
    intro k i h0 hf h1 hd hk
    obtain ⟨k, rfl⟩ : ∃ m, k = m + 1 := ⟨k - 1, by omega⟩
    simp only [spec_l4Name.l0]
    rw [if_neg (by omega), nmF_stop (.inl (by omega))]
  | succ d ih =>
    intro k i h0 hf h1 hd hk
    obtain ⟨k, rfl⟩ : ∃ m, k = m + 1 := ⟨k - 1, by omega⟩
    have hr := bt_range s i
    have hlt : i < (s.size : Int) := by omega
    simp only [spec_l4Name.l0]
    rw [if_pos hlt, if_pos h0, l4Blank_f _ hr.1 hr.2]
    simp only [Option.bind_some]
    have goon : ovr s i e = false → inNm s f i = true → spec_l4Name.l0 k s f e (wrap64 (i + 1)) = some (nmF s e f i) := fun ho hi => by
      rw [w1 h0 h1 hm, nmF_go hlt ho hi]; exact ih k (i + 1) (by omega) (by omega) (by omega) (by omega) (by omega)
    by_cases c1 : blk (bt s i) = true
    · rw [if_pos c1, nmF_stop (.inr (by simp [inNm, c1]))]
    rw [if_neg c1]
    have c1' : blk (bt s i) = false := by simpa using c1
    by_cases c2 : bt s i = 47
    · rw [if_pos c2, nmF_stop (.inr (by simp [inNm, c2]))]
    rw [if_neg c2]
    have hov : ∀ b, e = b → ovr s i e = (b && bt s i == 62) := fun b hb => by
      have : decide ((s.size : Int) ≤ i) = false := decide_eq_false (by omega)
      subst hb; simp only [ovr, this, Bool.false_or]
    by_cases c3 : bt s i = 61
    · rw [if_pos c3]
      have h62 : ¬ ((bt s i) = 62) := by omega
      have ho : ovr s i e = false := by rw [hov e rfl]; simp [c3]
      by_cases c4 : i = f
      · have hi : inNm s f i = true := by
          have : decide (f < i) = false := decide_eq_false (by omega)
          simp only [inNm, c1', c3, this]; rfl
        rw [if_pos c4]
        cases e
        · rw [if_neg (by simp)]; exact goon ho hi
        · rw [if_pos rfl, if_neg h62]; exact goon ho hi
      · rw [if_neg c4, nmF_stop (.inr (fun h => by
          have : decide (f < i) = true := decide_eq_true (by omega)
          have h2 := h.2
          simp only [inNm, c1', c3, this] at h2
          exact absurd h2 (by decide)))]
    · rw [if_neg c3]
      have hi : inNm s f i = true := by simp [inNm, c1', c2, c3]
      cases e
      · rw [if_neg (by simp)]; exact goon (by rw [hov false rfl]; rfl) hi
      · rw [if_pos rfl]
        by_cases h62 : bt s i = 62
        · rw [if_pos h62, nmF_stop (.inr (fun h => by have h1 := h.1; rw [hov true rfl, h62] at h1; exact absurd h1 (by decide)))]
        · rw [if_neg h62]; exact goon (by rw [hov true rfl]; simp [h62]) hi
theorem l4Plain_l (s : ByteArray) (e : Bool) (hm : s.size ≤ 140737488351232) (d : Nat) : ∀ (k : Nat) (i : Int), 0 ≤ i → i ≤ s.size → ((s.size : Int) - i).toNat = d → d < k → spec_l4Plain.l0 k s i e = some (plF s e i) := by
  induction d with
  | zero =>
    intro k i h0 h1 hd hk
    obtain ⟨k, rfl⟩ : ∃ m, k = m + 1 := ⟨k - 1, by omega⟩
    simp only [spec_l4Plain.l0]
    rw [if_neg (by omega), plF_stop (fun h => by have := ovr_lt h.1; omega)]
  | succ d ih =>
    intro k i h0 h1 hd hk
    obtain ⟨k, rfl⟩ : ∃ m, k = m + 1 := ⟨k - 1, by omega⟩
    have hr := bt_range s i
    have hlt : i < (s.size : Int) := by omega
    simp only [spec_l4Plain.l0]
    rw [if_pos hlt, if_pos h0, l4Blank_f _ hr.1 hr.2]
    simp only [Option.bind_some]
    have hd0 : decide ((s.size : Int) ≤ i) = false := decide_eq_false (by omega)
    by_cases c1 : blk (bt s i) = true
    · rw [if_pos c1, plF_stop (by rw [c1]; simp)]
    rw [if_neg c1]
    have c1' : blk (bt s i) = false := by simpa using c1
    cases e
    · have ho : ovr s i false = false := by simp only [ovr, hd0]; rfl
      rw [if_neg (by simp), w1 h0 h1 hm, plF_go hlt ho c1']
      exact ih k (i + 1) (by omega) (by omega) (by omega) (by omega)
    · rw [if_pos rfl]
      by_cases h62 : bt s i = 62
      · rw [if_pos h62, plF_stop (fun h => by have h1 := h.1; simp only [ovr, hd0, h62] at h1; exact absurd h1 (by decide))]
      · have ho : ovr s i true = false := by simp [ovr, hd0, h62]
        rw [if_neg h62, w1 h0 h1 hm, plF_go hlt ho c1']
        exact ih k (i + 1) (by omega) (by omega) (by omega) (by omega)
/-- the first place of a byte from i on; -1: none -/
def fndF (s : ByteArray) (i c : Int) : Int :=
  if i < (s.size : Int) then if bt s i = c then i else fndF s (i + 1) c else -1
termination_by ((s.size : Int) - i).toNat
decreasing_by omega
theorem l4Find_l (s : ByteArray) (c : Int) (hm : s.size ≤ 140737488351232) (d : Nat) : ∀ (k : Nat) (i : Int), 0 ≤ i → i ≤ s.size → ((s.size : Int) - i).toNat = d → d < k → spec_l4Find.l0 k s i c = some (fndF s i c) := by
  induction d with
  | zero =>
    intro k i h0 h1 hd hk
    obtain ⟨k, rfl⟩ : ∃ m, k = m + 1 := ⟨k - 1, by omega⟩
    simp only [spec_l4Find.l0]
    rw [if_neg (by omega), fndF, if_neg (by omega)]
  | succ d ih =>
    intro k i h0 h1 hd hk
    obtain ⟨k, rfl⟩ : ∃ m, k = m + 1 := ⟨k - 1, by omega⟩
    have hlt : i < (s.size : Int) := by omega
    simp only [spec_l4Find.l0]
    rw [if_pos hlt, if_pos h0, fndF, if_pos hlt]
    by_cases c1 : bt s i = c
    · rw [if_pos c1, if_pos c1]
    · rw [if_neg c1, if_neg c1, w1 h0 h1 hm]
      exact ih k (i + 1) (by omega) (by omega) (by omega) (by omega)
end Go.Proofs.Ytlocaaebgghkbaa.A
