-- joined by wip/tools/merge.py
import Derived.Test.YtlocaaebgghkbaaK
import Derived.Test.YtlocaaebgghkbaaMAttrs0
import Derived.Test.YtlocaaebgghkbaaMAttrs2
import Derived.Test.YtlocaaebgghkbaaMAttrs1
import Derived.Lib.IndexLaws
import Derived.Test.YtlocaaebgghkbaaMAttrs5
import Derived.Test.YtlocaaebgghkbaaMAttrs3
import Derived.Laws.Bits128
import Derived.Laws.Strings
/- What the reference's loops over a tag come to, in words of mine: names, values, separators. -/
namespace Go.Proofs.Ytlocaaebgghkbaa.A
open Go.RowKit Go.Proofs.YtlocaaebgghkbaaW.PrintWords Go.Proofs.YtlocaaebgghkbaaW.PrintLast Go.Proofs.YtlocaaebgghkbaaW.PrintMore
set_option linter.unusedVariables false

theorem w1 {i : Int} {n : Nat} (h0 : 0 ≤ i) (h1 : i ≤ (n : Int)) (hm : n ≤ 140737488351232) : wrap64 (i + 1) = i + 1 := by unfold wrap64; omega
theorem l4Blank_f (c : Int) (h0 : 0 ≤ c) (h1 : c ≤ 255) : spec_l4Blank.f c = some (blk c) := by
  have hw : wrap64 c = c := by unfold wrap64; omega
  unfold spec_l4Blank.f spec_IsBlank.f blk
  rw [hw]
  by_cases a1 : c = 9
  · simp [a1]
  by_cases a2 : c = 10
  · simp [a2]
  by_cases a3 : c = 12
  · simp [a3]
  by_cases a4 : c = 13
  · simp [a4]
  simp [a1, a2, a3, a4]
theorem l4Blanks_l (s : ByteArray) (hm : s.size ≤ 140737488351232) (d : Nat) : ∀ (k : Nat) (i : Int), 0 ≤ i → i ≤ s.size → ((s.size : Int) - i).toNat = d → d < k → spec_l4Blanks.l0 k s i = some (pastB s i) := by
  induction d with
  | zero =>
    intro k i h0 h1 hd hk
    obtain ⟨k, rfl⟩ : ∃ m, k = m + 1 := ⟨k - 1, by omega⟩
    simp only [spec_l4Blanks.l0]
    rw [if_neg (by omega), pastB_stop (.inl (by omega))]
  | succ d ih =>
    intro k i h0 h1 hd hk
    obtain ⟨k, rfl⟩ : ∃ m, k = m + 1 := ⟨k - 1, by omega⟩
    have hr := bt_range s i
    simp only [spec_l4Blanks.l0]
    rw [if_pos (by omega), if_pos h0, l4Blank_f _ hr.1 hr.2]
    simp only [Option.bind_some]
    by_cases c1 : blk (bt s i) = true
    · rw [if_pos c1, w1 h0 h1 hm, pastB_go (by omega) c1]
      exact ih k (i + 1) (by omega) (by omega) (by omega) (by omega)
    · rw [if_neg c1, pastB_stop (.inr (by simpa using c1))]
/-- separators: blanks and '/'; what stands in 'slash' turns nothing -/
theorem l4Skip_l (s : ByteArray) (hm : s.size ≤ 140737488351232) (d : Nat) : ∀ (k : Nat) (i : Int) (b : Bool), 0 ≤ i → i ≤ s.size → ((s.size : Int) - i).toNat = d → d < k → spec_l4Skip.l0 k s i = some (sepF s true i b).1 := by
  induction d with
  | zero =>
    intro k i b h0 h1 hd hk
    obtain ⟨k, rfl⟩ : ∃ m, k = m + 1 := ⟨k - 1, by omega⟩
    simp only [spec_l4Skip.l0]
    rw [if_neg (by omega), sepF_stop (.inl (by omega))]
  | succ d ih =>
    intro k i b h0 h1 hd hk
    obtain ⟨k, rfl⟩ : ∃ m, k = m + 1 := ⟨k - 1, by omega⟩
    have hr := bt_range s i
    have hlt : i < (s.size : Int) := by omega
    simp only [spec_l4Skip.l0]
    rw [if_pos hlt, if_pos h0, l4Blank_f _ hr.1 hr.2]
    simp only [Option.bind_some]
    by_cases c1 : blk (bt s i) = true
    · have ho : ovr s i true = false := by
        have : bt s i ≠ 62 := fun h => by rw [h] at c1; exact absurd c1 (by decide)
        simp [ovr, this]; omega
      rw [if_pos c1, w1 h0 h1 hm, sepF_go hlt ho (.inl c1)]
      exact ih k (i + 1) _ (by omega) (by omega) (by omega) (by omega)
    rw [if_neg c1]
    by_cases c2 : bt s i = 47
    · have ho : ovr s i true = false := by simp [ovr, c2]; omega
      rw [if_pos c2, w1 h0 h1 hm, sepF_go hlt ho (.inr c2)]
      exact ih k (i + 1) _ (by omega) (by omega) (by omega) (by omega)
    · rw [if_neg c2, sepF_stop (.inr (fun h => h.2.elim c1 c2))]
theorem l4Name_l (s : ByteArray) (f : Int) (e : Bool) (hm : s.size ≤ 140737488351232) (d : Nat) : ∀ (k : Nat) (i : Int), 0 ≤ i → f ≤ i → i ≤ s.size → ((s.size : Int) - i).toNat = d → d < k → spec_l4Name.l0 k s f e i = some (nmF s e f i) := by
  induction d with
  | zero =>
    intro k i h0 hf h1 hd hk
    obtain ⟨k, rfl⟩ : ∃ m, k = m + 1 := ⟨k - 1, by omega⟩
    simp only [spec_l4Name.l0]
    rw [if_neg (by omega), nmF_stop (.inl (by omega))]
  | succ d ih =>
    intro k i h0 hf h1 hd hk
    obtain ⟨k, rfl⟩ : ∃ m, k = m + 1 := ⟨k - 1, by omega⟩
    have hr := bt_range s i
    have hlt : i < (s.size : Int) := by omega
    simp only [spec_l4Name.l0]
    rw [if_pos hlt, if_pos h0, l4Blank_f _ hr.1 hr.2]
    simp only [Option.bind_some]
    have goon : ovr s i e = false → inNm s f i = true → spec_l4Name.l0 k s f e (wrap64 (i + 1)) = some (nmF s e f i) := fun ho hi => by
      rw [w1 h0 h1 hm, nmF_go hlt ho hi]; exact ih k (i + 1) (by omega) (by omega) (by omega) (by omega) (by omega)
    by_cases c1 : blk (bt s i) = true
    · rw [if_pos c1, nmF_stop (.inr (by simp [inNm, c1]))]
    rw [if_neg c1]
    have c1' : blk (bt s i) = false := by simpa using c1
    by_cases c2 : bt s i = 47
    · rw [if_pos c2, nmF_stop (.inr (by simp [inNm, c2]))]
    rw [if_neg c2]
    have hov : ∀ b, e = b → ovr s i e = (b && bt s i == 62) := fun b hb => by
      have : decide ((s.size : Int) ≤ i) = false := decide_eq_false (by omega)
      subst hb; simp only [ovr, this, Bool.false_or]
    by_cases c3 : bt s i = 61
    · rw [if_pos c3]
      have h62 : ¬ ((bt s i) = 62) := by omega
      have ho : ovr s i e = false := by rw [hov e rfl]; simp [c3]
      by_cases c4 : i = f
      · have hi : inNm s f i = true := by
          have : decide (f < i) = false := decide_eq_false (by omega)
          simp only [inNm, c1', c3, this]; rfl
        rw [if_pos c4]
        cases e
        · rw [if_neg (by simp)]; exact goon ho hi
        · rw [if_pos rfl, if_neg h62]; exact goon ho hi
      · rw [if_neg c4, nmF_stop (.inr (fun h => by
          have : decide (f < i) = true := decide_eq_true (by omega)
          have h2 := h.2
          simp only [inNm, c1', c3, this] at h2
          exact absurd h2 (by decide)))]
    · rw [if_neg c3]
      have hi : inNm s f i = true := by simp [inNm, c1', c2, c3]
      cases e
      · rw [if_neg (by simp)]; exact goon (by rw [hov false rfl]; rfl) hi
      · rw [if_pos rfl]
        by_cases h62 : bt s i = 62
        · rw [if_pos h62, nmF_stop (.inr (fun h => by have h1 := h.1; rw [hov true rfl, h62] at h1; exact absurd h1 (by decide)))]
        · rw [if_neg h62]; exact goon (by rw [hov true rfl]; simp [h62]) hi
theorem l4Plain_l (s : ByteArray) (e : Bool) (hm : s.size ≤ 140737488351232) (d : Nat) : ∀ (k : Nat) (i : Int), 0 ≤ i → i ≤ s.size → ((s.size : Int) - i).toNat = d → d < k → spec_l4Plain.l0 k s i e = some (plF s e i) := by
  induction d with
  | zero =>
    intro k i h0 h1 hd hk
    obtain ⟨k, rfl⟩ : ∃ m, k = m + 1 := ⟨k - 1, by omega⟩
    simp only [spec_l4Plain.l0]
    rw [if_neg (by omega), plF_stop (fun h => by have := ovr_lt h.1; omega)]
  | succ d ih =>
    intro k i h0 h1 hd hk
    obtain ⟨k, rfl⟩ : ∃ m, k = m + 1 := ⟨k - 1, by omega⟩
    have hr := bt_range s i
    have hlt : i < (s.size : Int) := by omega
    simp only [spec_l4Plain.l0]
    rw [if_pos hlt, if_pos h0, l4Blank_f _ hr.1 hr.2]
    simp only [Option.bind_some]
    have hd0 : decide ((s.size : Int) ≤ i) = false := decide_eq_false (by omega)
    by_cases c1 : blk (bt s i) = true
    · rw [if_pos c1, plF_stop (by rw [c1]; simp)]
    rw [if_neg c1]
    have c1' : blk (bt s i) = false := by simpa using c1
    cases e
    · have ho : ovr s i false = false := by simp only [ovr, hd0]; rfl
      rw [if_neg (by simp), w1 h0 h1 hm, plF_go hlt ho c1']
      exact ih k (i + 1) (by omega) (by omega) (by omega) (by omega)
    · rw [if_pos rfl]
      by_cases h62 : bt s i = 62
      · rw [if_pos h62, plF_stop (fun h => by have h1 := h.1; simp only [ovr, hd0, h62] at h1; exact absurd h1 (by decide))]
      · have ho : ovr s i true = false := by simp [ovr, hd0, h62]
        rw [if_neg h62, w1 h0 h1 hm, plF_go hlt ho c1']
        exact ih k (i + 1) (by omega) (by omega) (by omega) (by omega)
/-- the first place of a byte from i on; -1: none -/
def fndF (s : ByteArray) (i c : Int) : Int :=
  if i < (s.size : Int) then if bt s i = c then i else fndF s (i + 1) c else -1
termination_by ((s.size : Int) - i).toNat
decreasing_by omega
theorem l4Find_l (s : ByteArray) (c : Int) (hm : s.size ≤ 140737488351232) (d : Nat) : ∀ (k : Nat) (i : Int), 0 ≤ i → i ≤ s.size → ((s.size : Int) - i).toNat = d → d < k → spec_l4Find.l0 k s i c = some (fndF s i c) := by
  induction d with
  | zero =>
    intro k i h0 h1 hd hk
    obtain ⟨k, rfl⟩ : ∃ m, k = m + 1 := ⟨k - 1, by omega⟩
    simp only [spec_l4Find.l0]
    rw [if_neg (by omega), fndF, if_neg (by omega)]
  | succ d ih =>
    intro k i h0 h1 hd hk
    obtain ⟨k, rfl⟩ : ∃ m, k = m + 1 := ⟨k - 1, by omega⟩
    have hlt : i < (s.size : Int) := by omega
    simp only [spec_l4Find.l0]
    rw [if_pos hlt, if_pos h0, fndF, if_pos hlt]
    by_cases c1 : bt s i = c
    · rw [if_pos c1, if_pos c1]
    · rw [if_neg c1, if_neg c1, w1 h0 h1 hm]
      exact ih k (i + 1) (by omega) (by omega) (by omega) (by omega)
end Go.Proofs.Ytlocaaebgghkbaa.A

/- The end of a tag, in the program and in the reference: one place. -/
namespace Go.Proofs.Ytlocaaebgghkbaa.A
open Go.RowKit Go.Proofs.YtlocaaebgghkbaaW.PrintWords Go.Proofs.YtlocaaebgghkbaaW.PrintLast Go.Proofs.YtlocaaebgghkbaaW.PrintMore
set_option linter.unusedVariables false

theorem extract_list (s : ByteArray) (a b : Nat) : (s.extract a b).data.toList = (s.data.toList.drop a).take (b - a) := by
  rw [ByteArray.data_extract, Array.toList_extract, List.extract_eq_take_drop]
theorem extract_end (s : ByteArray) (a : Nat) : (s.extract a s.size).data.toList = s.data.toList.drop a := by
  rw [extract_list, List.take_of_length_le (by rw [List.length_drop, data_length]; omega)]
theorem drop_cons (s : ByteArray) (i : Nat) (h : i < s.size) : s.data.toList.drop i = s[i] :: s.data.toList.drop (i + 1) := by
  have h' : i < s.data.toList.length := by rw [data_length]; exact h
  rw [List.drop_eq_getElem_cons h']
  rfl
theorem fnd_ix (s : ByteArray) (c : Int) (hc0 : 0 ≤ c) (hc1 : c ≤ 255) (d : Nat) : ∀ (i : Int), 0 ≤ i → i ≤ s.size → ((s.size : Int) - i).toNat = d →
    fndF s i c = if Lib.indexByte (s.data.toList.drop i.toNat) c.toNat.toUInt8 < 0 then -1 else i + Lib.indexByte (s.data.toList.drop i.toNat) c.toNat.toUInt8 := by
  induction d with
  | zero =>
    intro i h0 h1 hd
    rw [fndF, if_neg (by omega), List.drop_of_length_le (by rw [data_length]; omega)]
    rfl
  | succ d ih =>
    intro i h0 h1 hd
    have hlt : i < (s.size : Int) := by omega
    have hn : i.toNat < s.size := by omega
    have hb := bt_at s i hn
    rw [fndF, if_pos hlt, drop_cons s i.toNat hn]
    have e1 : (i + 1).toNat = i.toNat + 1 := by omega
    have ih1 := ih (i + 1) (by omega) (by omega) (by omega)
    rw [e1] at ih1
    have hge := Lib.indexByte_ge (s.data.toList.drop (i.toNat + 1)) c.toNat.toUInt8
    generalize hx : Lib.indexByte (s.data.toList.drop (i.toNat + 1)) c.toNat.toUInt8 = x at *
    have hcc : (c.toNat.toUInt8.toNat : Int) = c := by
      have : c.toNat.toUInt8.toNat = c.toNat := by simp; omega
      omega
    unfold Lib.indexByte
    by_cases h : bt s i = c
    · have hs : s[i.toNat] = c.toNat.toUInt8 := by
        apply UInt8.toNat_inj.mp
        have h9 : (s[i.toNat].toNat : Int) = c.toNat.toUInt8.toNat := by rw [hcc, ← h]; exact hb
        exact Int.ofNat.inj h9
      rw [if_pos h, hs]; simp
    · have hs : ¬ s[i.toNat] = c.toNat.toUInt8 := fun he => h (by rw [← hb, he, hcc])
      rw [if_neg h, ih1, hx]
      simp only [beq_iff_eq, if_neg hs]
      by_cases hm1 : x = -1
      · subst hm1; simp
      · rw [if_neg hm1, if_neg (by omega), if_neg (by omega)]; omega

theorem nm_more {s : ByteArray} {j : Int} (h : j < (s.size : Int)) (ho : ovr s j true = false) (h1 : blk (bt s j) = false) (h2 : bt s j ≠ 47) : nmF s true j j = nmF s true j (j + 1) := by
  refine nmF_go h ho ?_
  have : decide (j < j) = false := decide_eq_false (by omega)
  simp [inNm, h1, h2]
theorem nmF_le {s : ByteArray} {e : Bool} {f : Int} : ∀ (d : Nat) (k : Int), ((s.size : Int) - k).toNat = d → k ≤ s.size → k ≤ nmF s e f k ∧ nmF s e f k ≤ s.size := by
  intro d
  induction d with
  | zero => intro k hd hk; rw [nmF_stop (.inl (by omega))]; omega
  | succ d ih =>
    intro k hd hk
    by_cases h : ovr s k e = false ∧ inNm s f k = true
    · rw [nmF_go (by omega) h.1 h.2]
      have := ih (k + 1) (by omega) (by omega)
      omega
    · rw [nmF_stop (.inr h)]; omega
theorem plF_le {s : ByteArray} {e : Bool} : ∀ (d : Nat) (k : Int), ((s.size : Int) - k).toNat = d → k ≤ s.size → k ≤ plF s e k ∧ plF s e k ≤ s.size := by
  intro d
  induction d with
  | zero => intro k hd hk; rw [plF_stop (fun h => by have := ovr_lt h.1; omega)]; omega
  | succ d ih =>
    intro k hd hk
    by_cases h : ovr s k e = false ∧ blk (bt s k) = false
    · rw [plF_go (by omega) h.1 h.2]
      have := ih (k + 1) (by omega) (by omega)
      omega
    · rw [plF_stop h]; omega
theorem sep_at {s : ByteArray} {e : Bool} : ∀ (d : Nat) (k : Int) (sl : Bool), ((s.size : Int) - k).toNat = d → k ≤ s.size → ovr s (sepF s e k sl).1 e = false → blk (bt s (sepF s e k sl).1) = false ∧ bt s (sepF s e k sl).1 ≠ 47 := by
  intro d
  induction d with
  | zero => intro k sl hd hk ho; rw [sepF_stop (.inl (by omega))] at ho; have := ovr_lt ho; simp only at this; omega
  | succ d ih =>
    intro k sl hd hk ho
    by_cases h : ovr s k e = false ∧ (blk (bt s k) = true ∨ bt s k = 47)
    · rw [sepF_go (by omega) h.1 h.2] at ho ⊢
      exact ih _ _ (by omega) (by omega) ho
    · rw [sepF_stop (.inr h)] at ho ⊢
      simp only at ho ⊢
      exact ⟨by cases hb : blk (bt s k) with
        | false => rfl
        | true => exact absurd ⟨ho, .inl hb⟩ h, fun he => h ⟨ho, .inr he⟩⟩

/-- the quoted value -/
theorem quoted_f (s : ByteArray) (k : Int) (e sl : Bool) (hm : s.size ≤ 140737488351232) (h0 : 0 ≤ k) (h1 : k < (s.size : Int)) :
    impl_tagger_quoted.f s k e sl = if fndF s (k + 1) (bt s k) < 0 then some (s.extract (k + 1).toNat s.size, false, s, (s.size : Int), e, sl)
      else some (s.extract (k + 1).toNat (fndF s (k + 1) (bt s k)).toNat, true, s, fndF s (k + 1) (bt s k) + 1, e, sl) := by
  have hw := w1 (n := s.size) h0 (by omega) hm
  have hr := bt_range s k
  unfold impl_tagger_quoted.f strings_IndexByte.f
  rw [hw, if_pos h0, if_pos h1, if_pos (by omega), if_pos (by omega), extract_end]
  simp only [Option.bind_some]
  have hf := fnd_ix s (bt s k) hr.1 hr.2 _ (k + 1) (by omega) (by omega) rfl
  have hub : Lib.indexByte (s.data.toList.drop (k + 1).toNat) (bt s k).toNat.toUInt8 < 0 ∨ (k + 1) + Lib.indexByte (s.data.toList.drop (k + 1).toNat) (bt s k).toNat.toUInt8 < s.size := by
    by_cases hn : Lib.indexByte (s.data.toList.drop (k + 1).toNat) (bt s k).toNat.toUInt8 < 0
    · exact .inl hn
    · obtain ⟨o, ho⟩ : ∃ o : Nat, Lib.indexByte (s.data.toList.drop (k + 1).toNat) (bt s k).toNat.toUInt8 = o := ⟨_, (Int.toNat_of_nonneg (by omega)).symm⟩
      have h9 := (Lib.indexByte_some ho).1
      have h8 : o < (s.data.toList.drop (k + 1).toNat).length := by
        rcases Nat.lt_or_ge o (s.data.toList.drop (k + 1).toNat).length with h | h
        · exact h
        · rw [List.getElem?_eq_none h] at h9; cases h9
      rw [List.length_drop, data_length] at h8
      right; rw [ho]; omega
  generalize Lib.indexByte (s.data.toList.drop (k + 1).toNat) (bt s k).toNat.toUInt8 = x at *
  by_cases hx : x < 0
  · rw [if_pos hx] at hf
    rw [if_pos hx, hf, if_pos (by omega)]
  · rw [if_neg hx] at hf
    have h7 := hub.resolve_left hx
    have e1 : wrap64 (k + 1 + x) = k + 1 + x := by unfold wrap64; omega
    have e2 : wrap64 (k + 1 + x + 1) = k + 1 + x + 1 := by unfold wrap64; omega
    rw [if_neg hx, hf, e1, e2, if_pos (by omega), if_pos (by omega), if_neg (by omega)]

/-! ### the two ends -/
theorem ev_skip (s : ByteArray) (hm : s.size ≤ 140737488351232) (i : Int) (b : Bool) (h0 : 0 ≤ i) (h1 : i ≤ s.size) : Ev (fun k => spec_l4Skip.f k s i) (sepF s true i b).1 :=
  Ev.of (spec_l4Skip.mono s i) (k := ((s.size : Int) - i).toNat + 1) (l4Skip_l s hm _ _ i b h0 h1 rfl (Nat.lt_succ_self _))
theorem ev_blanks (s : ByteArray) (hm : s.size ≤ 140737488351232) (i : Int) (h0 : 0 ≤ i) (h1 : i ≤ s.size) : Ev (fun k => spec_l4Blanks.f k s i) (pastB s i) :=
  Ev.of (spec_l4Blanks.mono s i) (k := ((s.size : Int) - i).toNat + 1) (l4Blanks_l s hm _ _ i h0 h1 rfl (Nat.lt_succ_self _))
theorem ev_name (s : ByteArray) (hm : s.size ≤ 140737488351232) (i : Int) (e : Bool) (h0 : 0 ≤ i) (h1 : i ≤ s.size) : Ev (fun k => spec_l4Name.f k s i e) (nmF s e i i) :=
  Ev.of (spec_l4Name.mono s i e) (k := ((s.size : Int) - i).toNat + 1) (l4Name_l s i e hm _ _ i h0 (Int.le_refl _) h1 rfl (Nat.lt_succ_self _))
theorem ev_plain (s : ByteArray) (hm : s.size ≤ 140737488351232) (i : Int) (e : Bool) (h0 : 0 ≤ i) (h1 : i ≤ s.size) : Ev (fun k => spec_l4Plain.f k s i e) (plF s e i) :=
  Ev.of (spec_l4Plain.mono s i e) (k := ((s.size : Int) - i).toNat + 1) (l4Plain_l s e hm _ _ i h0 h1 rfl (Nat.lt_succ_self _))
theorem ev_find (s : ByteArray) (hm : s.size ≤ 140737488351232) (i c : Int) (h0 : 0 ≤ i) (h1 : i ≤ s.size) : Ev (fun k => spec_l4Find.f k s i c) (fndF s i c) :=
  Ev.of (spec_l4Find.mono s i c) (k := ((s.size : Int) - i).toNat + 1) (l4Find_l s c hm _ _ i h0 h1 rfl (Nat.lt_succ_self _))
theorem fnd_le {s : ByteArray} {c : Int} : ∀ (d : Nat) (k : Int), ((s.size : Int) - k).toNat = d → 0 ≤ k → ¬ fndF s k c < 0 → k ≤ fndF s k c ∧ fndF s k c < s.size := by
  intro d
  induction d with
  | zero => intro k hd h0 h; rw [fndF, if_neg (by omega)] at h; omega
  | succ d ih =>
    intro k hd h0 h
    rw [fndF, if_pos (by omega)] at h ⊢
    by_cases hc : bt s k = c
    · rw [if_pos hc]; omega
    · rw [if_neg hc] at h ⊢
      have := ih (k + 1) (by omega) (by omega) h
      omega

end Go.Proofs.Ytlocaaebgghkbaa.A

/- References: a sign put in bytes, a sign by number; the program's and the reference's answers are one. -/
namespace Go.Proofs.Ytlocaaebgghkbaa.A
open Go.RowKit Go.Proofs.YtlocaaebgghkbaaW.PrintWords Go.Proofs.YtlocaaebgghkbaaW.PrintLast Go.Proofs.YtlocaaebgghkbaaW.PrintMore
set_option linter.unusedVariables false

theorem i64_and63 (n : Int) : bits .and .i64 n 63 = n % 64 := by
  have h63 : (BitVec.ofInt 64 63).toNat = 2 ^ 6 - 1 := by decide
  have key : (BitVec.ofInt 64 n &&& BitVec.ofInt 64 63).toNat = (n % ((2 ^ 64 : Nat) : Int)).toNat % 2 ^ 6 := by
    rw [BitVec.toNat_and, BitVec.toNat_ofInt, h63, Nat.and_two_pow_sub_one_eq_mod]
  show IntKind.i64.wrap ((BitVec.ofInt 64 n &&& BitVec.ofInt 64 63).toNat : Nat) = n % 64
  rw [key, IntKind.wrap_i64]
  omega
theorem or128_nat : ∀ c : Nat, c < 64 → bits .or .i64 128 (c : Int) = 128 + (c : Int) := by decide
theorem or192_nat : ∀ c : Nat, c < 32 → bits .or .i64 192 (c : Int) = 192 + (c : Int) := by decide
theorem or224_nat : ∀ c : Nat, c < 16 → bits .or .i64 224 (c : Int) = 224 + (c : Int) := by decide
theorem or240_nat : ∀ c : Nat, c < 8 → bits .or .i64 240 (c : Int) = 240 + (c : Int) := by decide
theorem or_of {a : Int} {m : Nat} (h : ∀ c : Nat, c < m → bits .or .i64 a (c : Int) = a + (c : Int)) {x : Int} (h0 : 0 ≤ x) (h1 : x < m) : bits .or .i64 a x = a + x := by
  have := h x.toNat (by omega)
  rwa [show ((x.toNat : Nat) : Int) = x by omega] at this
def signOk (n : Int) : Bool := decide (0 ≤ n ∧ n ≤ 1114111) && !decide (55296 ≤ n ∧ n ≤ 57343)
theorem inRange_f (n a b : Int) : impl_inRange.f n a b = some (decide (a ≤ n ∧ n ≤ b)) := by
  unfold impl_inRange.f
  by_cases h : n ≥ a
  · rw [if_pos h]
    by_cases h2 : n ≤ b
    · rw [decide_eq_true h2, decide_eq_true (show a ≤ n ∧ n ≤ b from ⟨h, h2⟩)]
    · rw [decide_eq_false h2, decide_eq_false (show ¬ (a ≤ n ∧ n ≤ b) from fun hh => h2 hh.2)]
  · rw [if_neg h, decide_eq_false (show ¬ (a ≤ n ∧ n ≤ b) from fun hh => h hh.1)]
theorem l1In_f (n a b : Int) : spec_l1In.f n a b = some (decide (a ≤ n ∧ n ≤ b)) := inRange_f n a b
theorem implSignOk_f (n : Int) : impl_SignOk.f n = some (signOk n) := by
  unfold impl_SignOk.f signOk
  rw [inRange_f, inRange_f]
  simp only [Option.bind_some]
  by_cases h : decide (0 ≤ n ∧ n ≤ 1114111) = true
  · rw [if_pos h, h]; rfl
  · rw [if_neg h, Bool.eq_false_iff.mpr h]; rfl
theorem specSignOk_f (n : Int) : spec_SignOk.f n = some (signOk n) := by
  unfold spec_SignOk.f signOk
  rw [l1In_f, l1In_f]
  simp only [Option.bind_some]
  by_cases h : decide (0 ≤ n ∧ n ≤ 1114111) = true
  · rw [if_pos h, h]; rfl
  · rw [if_neg h, Bool.eq_false_iff.mpr h]; rfl
def put0 (x : Int) : ByteArray :=
  if x < 128 then strOfNums [x % 256]
  else if x < 2048 then strOfNums [(192 + x / 64) % 256, (128 + x % 64) % 256]
  else if x < 65536 then strOfNums [(224 + x / 4096) % 256, (128 + x / 64 % 64) % 256, (128 + x % 64) % 256]
  else strOfNums [(240 + x / 262144) % 256, (128 + x / 4096 % 64) % 256, (128 + x / 64 % 64) % 256, (128 + x % 64) % 256]
theorem follow_f (x : Int) (b : Nat) (hb : b = 0 ∨ b = 6 ∨ b = 12) : impl_follow.f x (b : Int) = some ((128 + x / 2 ^ b % 64) % 256) := by
  unfold impl_follow.f
  have hw : IntKind.u64.wrap (b : Int) = (b : Int) := by rcases hb with rfl | rfl | rfl <;> decide
  rw [hw, if_pos (by omega), i64_and63]
  have hs : shr .i64 x (b : Int) = x / 2 ^ b := by
    unfold shr
    rcases hb with rfl | rfl | rfl <;> rfl
  rw [hs, or_of or128_nat (by omega) (by omega)]
theorem specPut0_f (k : Nat) (x : Int) (h0 : 0 ≤ x) (h1 : x ≤ 1114111) : spec_PutSign.j0 (k + 1) x = some (put0 x) := by
  have hw : ∀ a : Int, 0 ≤ a → a ≤ 1000000 → wrap64 a = a := fun a _ _ => by unfold wrap64; omega
  simp only [spec_PutSign.j0, put0, i64_and63]
  rw [hw (192 + x / 64) (by omega) (by omega), hw (128 + x % 64) (by omega) (by omega), hw (224 + x / 4096) (by omega) (by omega), hw (128 + x / 64 % 64) (by omega) (by omega), hw (240 + x / 262144) (by omega) (by omega), hw (128 + x / 4096 % 64) (by omega) (by omega)]
  by_cases c1 : x < 128
  · simp [c1]
  · by_cases c2 : x < 2048
    · simp [c1, c2]
    · by_cases c3 : x < 65536 <;> simp [c1, c2, c3]
theorem implPut0_f (k : Nat) (x : Int) (h0 : 0 ≤ x) (h1 : x ≤ 1114111) : impl_PutSign.j0 (k + 1) x = some (put0 x) := by
  have f0 : impl_follow.f x 0 = some ((128 + x % 64) % 256) := by
    have := follow_f x 0 (.inl rfl)
    rwa [show (2 : Int) ^ 0 = 1 from rfl, Int.ediv_one] at this
  have f6 : impl_follow.f x 6 = some ((128 + x / 64 % 64) % 256) := follow_f x 6 (.inr (.inl rfl))
  have f12 : impl_follow.f x 12 = some ((128 + x / 4096 % 64) % 256) := follow_f x 12 (.inr (.inr rfl))
  simp only [impl_PutSign.j0, put0]
  by_cases c1 : x < 128
  · simp [c1]
  · by_cases c2 : x < 2048
    · rw [if_neg c1, if_neg c1, if_pos c2, if_pos c2, or_of or192_nat (by omega) (by omega)]
      rw [f0]
      rfl
    · by_cases c3 : x < 65536
      · rw [if_neg c1, if_neg c1, if_neg c2, if_neg c2, if_pos c3, if_pos c3, or_of or224_nat (by omega) (by omega)]
        rw [f0, f6]
        rfl
      · rw [if_neg c1, if_neg c1, if_neg c2, if_neg c2, if_neg c3, if_neg c3, or_of or240_nat (by omega) (by omega)]
        rw [f0, f6, f12]
        rfl
def putF (n : Int) : ByteArray := if signOk n = true then put0 n else put0 65533
theorem specPut_f (k : Nat) (n : Int) : spec_PutSign.f (k + 1) n = some (putF n) := by
  unfold spec_PutSign.f putF
  rw [specSignOk_f, Option.bind_some]
  by_cases h : signOk n = true
  · have h' := h
    simp only [signOk, Bool.and_eq_true, decide_eq_true_eq] at h'
    rw [if_pos h, if_pos h, specPut0_f k n (by omega) (by omega)]
  · rw [if_neg h, if_neg h, specPut0_f k 65533 (by omega) (by omega)]
theorem implPut_f (k : Nat) (n : Int) : impl_PutSign.f (k + 1) n = some (putF n) := by
  unfold impl_PutSign.f putF
  rw [implSignOk_f, Option.bind_some]
  by_cases h : signOk n = true
  · have h' := h
    simp only [signOk, Bool.and_eq_true, decide_eq_true_eq] at h'
    rw [if_pos h, if_pos h, implPut0_f k n (by omega) (by omega)]
  · rw [if_neg h, if_neg h, implPut0_f k 65533 (by omega) (by omega)]
theorem putF_size (n : Int) : (putF n).size ≤ 4 := by
  have hp : ∀ x, (put0 x).size ≤ 4 := by
    intro x
    unfold put0
    split
    · exact Nat.le_trans (Nat.le_of_eq (show _ = 1 from rfl)) (by omega)
    · split
      · exact Nat.le_trans (Nat.le_of_eq (show _ = 2 from rfl)) (by omega)
      · split
        · exact Nat.le_trans (Nat.le_of_eq (show _ = 3 from rfl)) (by omega)
        · exact Nat.le_trans (Nat.le_of_eq (show _ = 4 from rfl)) (by omega)
  unfold putF
  split <;> exact hp _
def numF (n : Int) : Int := if 128 ≤ n ∧ n ≤ 159 then rd numL (n - 128) else if n = 0 then 65533 else if signOk n = true then n else 65533
theorem implNumbered_f (n : Int) : impl_Numbered.f n = some (numF n) := by
  unfold impl_Numbered.f numF
  by_cases h : 128 ≤ n ∧ n ≤ 159
  · rw [if_pos h, if_pos h]
  · rw [if_neg h, if_neg h]
    by_cases h0 : n = 0
    · rw [if_pos h0, if_pos h0]
    · rw [if_neg h0, if_neg h0, implSignOk_f, Option.bind_some]
      by_cases hs : signOk n = true
      · rw [if_pos hs, if_pos hs]
      · rw [if_neg hs, if_neg hs]
theorem specNumbered_f (k : Nat) (n : Int) : spec_Numbered.f (k + 1) n = some (numF n) := by
  unfold spec_Numbered.f numF
  simp only [Option.bind_some, spec_Numbered.j0, l1In_f, specSignOk_f]
  by_cases h0 : n = 0
  · subst h0; rfl
  · rw [if_neg h0, if_neg h0]
    by_cases h : 128 ≤ n ∧ n ≤ 159
    · have hs : signOk n = true := by simp [signOk]; omega
      have hw : wrap64 (n - 128) = n - 128 := by unfold wrap64; omega
      rw [if_pos h, hs, if_neg (by simp), if_pos (decide_eq_true h), hw, if_pos (by omega), if_pos (by show n - 128 < 32; omega)]
      rfl
    · rw [if_neg h, if_neg (show ¬ (decide (128 ≤ n ∧ n ≤ 159) = true) by simpa using h)]
      cases signOk n <;> rfl
end Go.Proofs.Ytlocaaebgghkbaa.A

/- References by number and by name: the program's and the reference's answers are one. -/
namespace Go.Proofs.Ytlocaaebgghkbaa.A
open Go.RowKit Go.Proofs.YtlocaaebgghkbaaW.PrintWords Go.Proofs.YtlocaaebgghkbaaW.PrintLast Go.Proofs.YtlocaaebgghkbaaW.PrintMore
set_option linter.unusedVariables false

theorem Ev.ifp {α : Type} {c : Prop} [Decidable c] {f g : Nat → Option α} {r : α} (hc : c) (h : Ev f r) : Ev (fun k => if c then f k else g k) r := Ev.congr (fun k => if_pos hc) h
theorem Ev.ifn {α : Type} {c : Prop} [Decidable c] {f g : Nat → Option α} {r : α} (hc : ¬ c) (h : Ev g r) : Ev (fun k => if c then f k else g k) r := Ev.congr (fun k => if_neg hc) h
theorem Ev.bindc {α β : Type} {x : Option α} {a : α} {f : Nat → α → Option β} {r : β} (hx : x = some a) (h : Ev (fun n => f n a) r) : Ev (fun n => x.bind (f n)) r := Ev.congr (fun k => by rw [hx, Option.bind_some]) h
theorem Ev.up {α : Type} {f : Nat → Option α} {r : α} (m : Nat) (h : ∀ k, f (k + m) = some r) : Ev f r := ⟨m, fun k hk => by have := h (k - m); rwa [Nat.sub_add_cancel hk] at this⟩

def digF (b : Int) (hex : Bool) : Int := if 48 ≤ b ∧ b ≤ 57 then b - 48 else if hex = true ∧ 97 ≤ b ∧ b ≤ 102 then b - 87 else if hex = true ∧ 65 ≤ b ∧ b ≤ 70 then b - 55 else -1
def bas (hex : Bool) : Int := if hex = true then 16 else 10
theorem digF_range (b : Int) (hex : Bool) : -1 ≤ digF b hex ∧ digF b hex ≤ 15 := by
  unfold digF
  split
  · omega
  · split
    · omega
    · split <;> omega
theorem digit_tab : ∀ b : Nat, b < 256 → impl_digitOf.f 3 (b : Int) 10 = some (digF b false) ∧ impl_digitOf.f 3 (b : Int) 16 = some (digF b true) ∧ spec_l3Digit.f 2 (b : Int) false = some (digF b false) ∧ spec_l3Digit.f 2 (b : Int) true = some (digF b true) := by decide +kernel
theorem ev_specDigit (b : Int) (hex : Bool) (h0 : 0 ≤ b) (h1 : b ≤ 255) : Ev (fun k => spec_l3Digit.f k b hex) (digF b hex) := by
  have := digit_tab b.toNat (by omega)
  rw [show ((b.toNat : Nat) : Int) = b by omega] at this
  refine Ev.of (spec_l3Digit.mono b hex) (k := 2) ?_
  cases hex
  · exact this.2.2.1
  · exact this.2.2.2
theorem ev_implDigit (b : Int) (hex : Bool) (h0 : 0 ≤ b) (h1 : b ≤ 255) : Ev (fun k => impl_digitOf.f k b (bas hex)) (digF b hex) := by
  have := digit_tab b.toNat (by omega)
  rw [show ((b.toNat : Nat) : Int) = b by omega] at this
  refine Ev.of (impl_digitOf.mono b (bas hex)) (k := 3) ?_
  cases hex
  · exact this.1
  · exact this.2.1

def addF (n d : Int) (hex : Bool) : Int := if n * bas hex + d < 1114112 then n * bas hex + d else 1114112
def numE (s : ByteArray) (hex : Bool) (i n : Int) : Int × Int :=
  if i < (s.size : Int) then if digF (bt s i) hex ≥ 0 then numE s hex (i + 1) (addF n (digF (bt s i) hex) hex) else (i, n) else (i, n)
termination_by ((s.size : Int) - i).toNat
decreasing_by omega
def numR (s : ByteArray) (p from_ : Int) (e : Int × Int) : ByteArray × Int :=
  if e.1 = from_ then (⟨#[]⟩, 0) else (putF (numF e.2), (if e.1 < (s.size : Int) ∧ bt s e.1 = 59 then e.1 + 1 else e.1) - p)
theorem addF_range {n d : Int} {hex : Bool} (h0 : 0 ≤ n) (h1 : 0 ≤ d) : 0 ≤ addF n d hex ∧ addF n d hex ≤ 1114112 := by
  have : 0 ≤ n * bas hex := Int.mul_nonneg h0 (by unfold bas; split <;> omega)
  unfold addF
  split <;> omega
theorem mul_range {n : Int} {hex : Bool} (h0 : 0 ≤ n) (h1 : n ≤ 1114112) : 0 ≤ n * bas hex ∧ n * bas hex ≤ 20000000 := by
  unfold bas
  split <;> omega
theorem numE_le {s : ByteArray} {hex : Bool} : ∀ (d : Nat) (i n : Int), ((s.size : Int) - i).toNat = d → i ≤ s.size → i ≤ (numE s hex i n).1 ∧ (numE s hex i n).1 ≤ s.size := by
  intro d
  induction d with
  | zero => intro i n hd hi; rw [numE, if_neg (by omega)]; exact ⟨Int.le_refl _, hi⟩
  | succ d ih =>
    intro i n hd hi
    rw [numE, if_pos (by omega)]
    split
    · have := ih (i + 1) (addF n (digF (bt s i) hex) hex) (by omega) (by omega)
      omega
    · exact ⟨Int.le_refl _, hi⟩
theorem ev_specEnd (s : ByteArray) (hm : s.size ≤ 140737488351232) (p from_ i n : Int) (hex : Bool) (p0 : 0 ≤ p) (hp : p ≤ i) (h0 : 0 ≤ i) (h1 : i ≤ s.size) :
    Ev (fun k => if i = from_ then (some ((⟨#[]⟩ : ByteArray), (0 : Int))) else (if i < (s.size : Int) then (if 0 ≤ i then (spec_l3Number.j4 k p i n ((bt s i) == 59)) else (none)) else (spec_l3Number.j4 k p i n false))) (numR s p from_ (i, n)) := by
  unfold numR
  dsimp only
  by_cases c : i = from_
  · rw [if_pos c]; exact Ev.ifp c (Ev.now _)
  · rw [if_neg c]
    refine Ev.ifn c ?_
    have hw : wrap64 (i - p) = i - p := by unfold wrap64; omega
    have hw2 : wrap64 (i + 1 - p) = i + 1 - p := by unfold wrap64; omega
    have hw1 : wrap64 (i + 1) = i + 1 := by unfold wrap64; omega
    have j4 : ∀ b : Bool, Ev (fun k => spec_l3Number.j4 k p i n b) (putF (numF n), (if b = true then i + 1 else i) - p) := by
      intro b
      refine Ev.step (fun k => by simp only [spec_l3Number.j4]; rfl) ?_
      cases b
      · refine Ev.ifn (by simp) (Ev.bind (Ev.up 1 (fun k => specNumbered_f k n)) (Ev.bind (Ev.up 1 (fun k => specPut_f k _)) ?_))
        rw [hw]; exact Ev.now _
      · refine Ev.ifp (rfl : true = true) (Ev.bind (Ev.up 1 (fun k => specNumbered_f k n)) (Ev.bind (Ev.up 1 (fun k => specPut_f k _)) ?_))
        rw [hw1, hw2]; exact Ev.now _
    by_cases c2 : i < (s.size : Int)
    · refine Ev.ifp c2 (Ev.ifp h0 ?_)
      have := j4 (bt s i == 59)
      by_cases c3 : bt s i = 59
      · rw [if_pos ⟨c2, c3⟩]; simpa [c3] using this
      · rw [if_neg (fun h => c3 h.2)]; simpa [c3] using this
    · rw [if_neg (fun h => c2 h.1)]
      exact Ev.ifn c2 (by simpa using j4 false)
theorem ev_specNum (s : ByteArray) (hm : s.size ≤ 140737488351232) (p from_ : Int) (hex : Bool) (p0 : 0 ≤ p) (d : Nat) : ∀ (i n : Int), p ≤ i → 0 ≤ i → i ≤ s.size → 0 ≤ n → n ≤ 1114112 → ((s.size : Int) - i).toNat = d →
    Ev (fun k => spec_l3Number.l0 k s p i hex (bas hex) from_ n) (numR s p from_ (numE s hex i n)) := by
  induction d with
  | zero =>
    intro i n hp h0 h1 n0 n1 hd
    rw [numE, if_neg (by omega)]
    refine Ev.step (fun k => by simp only [spec_l3Number.l0]; rfl) (Ev.ifn (by omega) ?_)
    refine Ev.step (fun k => by simp only [spec_l3Number.j3]; rfl) (Ev.ifn (by simp) ?_)
    exact ev_specEnd s hm p from_ i n hex p0 hp h0 h1
  | succ d ih =>
    intro i n hp h0 h1 n0 n1 hd
    have hb := bt_range s i
    have hi : i < (s.size : Int) := by omega
    have hdr := digF_range (bt s i) hex
    have hmul := mul_range (hex := hex) n0 n1
    rw [numE, if_pos hi]
    refine Ev.step (fun k => by simp only [spec_l3Number.l0]; rfl) (Ev.ifp hi (Ev.ifp h0 (Ev.bind (ev_specDigit _ hex hb.1 hb.2) ?_)))
    by_cases c : digF (bt s i) hex ≥ 0
    · rw [if_pos c, decide_eq_true c]
      refine Ev.step (fun k => by simp only [spec_l3Number.j3]; rfl) (Ev.ifp (rfl : true = true) (Ev.ifp h0 (Ev.ifp hi (Ev.bind (ev_specDigit _ hex hb.1 hb.2) ?_))))
      have hw : wrap64 (wrap64 (n * bas hex) + digF (bt s i) hex) = n * bas hex + digF (bt s i) hex := by unfold wrap64; omega
      have hw1 : wrap64 (i + 1) = i + 1 := by unfold wrap64; omega
      have hmin : spec_l1Min.f (wrap64 (wrap64 (n * bas hex) + digF (bt s i) hex)) 1114112 = some (addF n (digF (bt s i) hex) hex) := by
        rw [hw]; unfold spec_l1Min.f addF; split <;> rfl
      refine Ev.bindc hmin ?_
      rw [hw1]
      have ha := addF_range (hex := hex) n0 c
      exact ih (i + 1) _ (by omega) (by omega) (by omega) ha.1 ha.2 (by omega)
    · rw [if_neg c, decide_eq_false c]
      refine Ev.step (fun k => by simp only [spec_l3Number.j3]; rfl) (Ev.ifn (by simp) ?_)
      exact ev_specEnd s hm p from_ i n hex p0 hp h0 h1
theorem withEnd_f (s : ByteArray) (i : Int) (hm : s.size ≤ 140737488351232) (h0 : 0 ≤ i) (h1 : i ≤ s.size) : impl_withEnd.f s i = some (if i < (s.size : Int) ∧ bt s i = 59 then i + 1 else i) := by
  unfold impl_withEnd.f
  have hw1 : wrap64 (i + 1) = i + 1 := by unfold wrap64; omega
  by_cases c2 : i < (s.size : Int)
  · rw [if_pos c2, if_pos h0]
    by_cases c3 : bt s i = 59
    · rw [if_pos c3, if_pos ⟨c2, c3⟩, hw1]
    · rw [if_neg c3, if_neg (fun h => c3 h.2)]
  · rw [if_neg c2, if_neg (fun h => c2 h.1)]
theorem ev_implEnd (s : ByteArray) (hm : s.size ≤ 140737488351232) (p from_ i n : Int) (p0 : 0 ≤ p) (hp : p ≤ i) (h0 : 0 ≤ i) (h1 : i ≤ s.size) :
    Ev (fun k => impl_numberRef.j3 k s p from_ n i) (numR s p from_ (i, n)) := by
  unfold numR
  dsimp only
  refine Ev.step (fun k => by simp only [impl_numberRef.j3]; rfl) ?_
  by_cases c : i = from_
  · rw [if_pos c]; exact Ev.ifp c (Ev.now _)
  · rw [if_neg c]
    refine Ev.ifn c (Ev.bindc (implNumbered_f n) (Ev.bind (Ev.up 1 (fun k => implPut_f k _)) (Ev.bindc (withEnd_f s i hm h0 h1) ?_)))
    have hw : wrap64 ((if i < (s.size : Int) ∧ bt s i = 59 then i + 1 else i) - p) = (if i < (s.size : Int) ∧ bt s i = 59 then i + 1 else i) - p := by
      unfold wrap64; split <;> omega
    rw [hw]
    exact Ev.now _
theorem ev_implNum (s : ByteArray) (hm : s.size ≤ 140737488351232) (p from_ : Int) (hex : Bool) (p0 : 0 ≤ p) (d : Nat) : ∀ (i n : Int), p ≤ i → 0 ≤ i → i ≤ s.size → 0 ≤ n → n ≤ 1114112 → ((s.size : Int) - i).toNat = d →
    Ev (fun k => impl_numberRef.l0 k s p from_ (bas hex) n i) (numR s p from_ (numE s hex i n)) := by
  induction d with
  | zero =>
    intro i n hp h0 h1 n0 n1 hd
    rw [numE, if_neg (by omega)]
    refine Ev.step (fun k => by simp only [impl_numberRef.l0]; rfl) (Ev.ifn (by omega) ?_)
    exact ev_implEnd s hm p from_ i n p0 hp h0 h1
  | succ d ih =>
    intro i n hp h0 h1 n0 n1 hd
    have hb := bt_range s i
    have hi : i < (s.size : Int) := by omega
    have hmul := mul_range (hex := hex) n0 n1
    have hdr := digF_range (bt s i) hex
    rw [numE, if_pos hi]
    refine Ev.step (fun k => by simp only [impl_numberRef.l0]; rfl) (Ev.ifp hi (Ev.ifp h0 (Ev.bind (ev_implDigit _ hex hb.1 hb.2) ?_)))
    by_cases c : digF (bt s i) hex ≥ 0
    · rw [if_pos c]
      refine Ev.ifp c (Ev.bind (ev_implDigit _ hex hb.1 hb.2) ?_)
      have hw : wrap64 (wrap64 (n * bas hex) + digF (bt s i) hex) = n * bas hex + digF (bt s i) hex := by unfold wrap64; omega
      have hw1 : wrap64 (i + 1) = i + 1 := by unfold wrap64; omega
      have hmn : mn (wrap64 (wrap64 (n * bas hex) + digF (bt s i) hex)) 1114112 = addF n (digF (bt s i) hex) hex := by
        rw [hw]; unfold mn addF; split <;> split <;> omega
      rw [hmn, hw1]
      have ha := addF_range (hex := hex) n0 c
      exact ih (i + 1) _ (by omega) (by omega) (by omega) ha.1 ha.2 (by omega)
    · rw [if_neg c]
      refine Ev.ifn c ?_
      exact ev_implEnd s hm p from_ i n p0 hp h0 h1
end Go.Proofs.Ytlocaaebgghkbaa.A

/- References: the program's Ref and the reference's are one function; so are Refs. -/
namespace Go.Proofs.Ytlocaaebgghkbaa.A
open Go.RowKit Go.Proofs.YtlocaaebgghkbaaW.PrintWords Go.Proofs.YtlocaaebgghkbaaW.PrintLast Go.Proofs.YtlocaaebgghkbaaW.PrintMore
set_option linter.unusedVariables false

def standsAt (s : ByteArray) (p : Int) (nm : ByteArray) : Prop := p + nm.size ≤ s.size ∧ (s.extract p.toNat (p + nm.size).toNat).toList = nm.toList
instance (s : ByteArray) (p : Int) (nm : ByteArray) : Decidable (standsAt s p nm) := by unfold standsAt; infer_instance
theorem hasPrefix_f (s : ByteArray) (p : Int) (nm : ByteArray) (h0 : 0 ≤ p) (hp : p ≤ s.size) : strings_HasPrefix.f (s.extract p.toNat s.size) nm = some (decide (standsAt s p nm)) := by
  unfold strings_HasPrefix.f stringslite_HasPrefix.f
  have hsz : (s.extract p.toNat s.size).size = s.size - p.toNat := by rw [ByteArray.size_extract]; omega
  rw [hsz]
  by_cases c : p + nm.size ≤ s.size
  · have hx : (s.extract p.toNat s.size).extract 0 ((nm.size : Int)).toNat = s.extract p.toNat (p + nm.size).toNat := by
      rw [ByteArray.extract_extract]
      congr 1
      omega
    rw [if_pos (by omega), if_pos (by omega), if_pos (by omega), Option.bind_some, hx]
    congr 1
    by_cases h : (s.extract p.toNat (p + nm.size).toNat).toList = nm.toList
    · rw [decide_eq_true (show standsAt s p nm from ⟨c, h⟩)]; exact beq_iff_eq.mpr h
    · rw [decide_eq_false (show ¬ standsAt s p nm from fun hh => h hh.2)]; exact beq_eq_false_iff_ne.mpr h
  · rw [if_neg (by omega), Option.bind_some, decide_eq_false (show ¬ standsAt s p nm from fun hh => c hh.1)]
def longF (s : ByteArray) (p : Int) : List ByteArray → ByteArray → ByteArray
  | [], b => b
  | n :: ns, b => if n.size > b.size ∧ standsAt s p n then longF s p ns n else longF s p ns b
theorem longF_ok (s : ByteArray) (p : Int) : ∀ (L : List ByteArray) (b : ByteArray), standsAt s p b → standsAt s p (longF s p L b)
  | [], b, h => h
  | n :: ns, b, h => by
    unfold longF
    split
    · rename_i hh; exact longF_ok s p ns n hh.2
    · exact longF_ok s p ns b h
theorem longF_le (s : ByteArray) (p : Int) (m : Nat) : ∀ (L : List ByteArray) (b : ByteArray), (∀ n ∈ L, n.size ≤ m) → b.size ≤ m → (longF s p L b).size ≤ m
  | [], b, _, h => h
  | n :: ns, b, hL, h => by
    unfold longF
    split
    · exact longF_le s p m ns n (fun x hx => hL x (List.mem_cons_of_mem _ hx)) (hL n List.mem_cons_self)
    · exact longF_le s p m ns b (fun x hx => hL x (List.mem_cons_of_mem _ hx)) h
theorem rdOf_at (L : List ByteArray) (j : Int) (h : j.toNat < L.length) : rdOf ByteArray.empty L j = L[j.toNat] := by
  unfold rdOf; rw [List.getD_eq_getElem?_getD, List.getElem?_eq_getElem h]; rfl
theorem ev_longest (s : ByteArray) (hm : s.size ≤ 140737488351232) (p : Int) (p0 : 0 ≤ p) (p1 : p ≤ s.size) (L : List ByteArray) (hL : ∀ n ∈ L, n.size ≤ 100) (hl : L.length ≤ 1000) (d : Nat) : ∀ (j : Int) (b : ByteArray), 0 ≤ j → L.length - j.toNat = d → j ≤ L.length →
    Ev (fun k => spec_l3Longest.l0 k s p b L j) (longF s p (L.drop j.toNat) b) := by
  induction d with
  | zero =>
    intro j b h0 hd hj
    rw [List.drop_of_length_le (by omega)]
    exact Ev.step (fun k => by simp only [spec_l3Longest.l0]; rfl) (Ev.ifn (by omega) (Ev.now _))
  | succ d ih =>
    intro j b h0 hd hj
    have hjl : j.toNat < L.length := by omega
    have hsz := hL _ (List.getElem_mem hjl)
    have hw1 : wrap64 (j + 1) = j + 1 := by unfold wrap64; omega
    have hj1 : (j + 1).toNat = j.toNat + 1 := by omega
    rw [List.drop_eq_getElem_cons hjl]
    unfold longF
    refine Ev.step (fun k => by simp only [spec_l3Longest.l0]; rfl) (Ev.ifp (by omega) (Ev.ifp h0 ?_))
    rw [rdOf_at L j hjl, hw1]
    generalize hn : L[j.toNat] = n at *
    have hw : wrap64 (p + (n.size : Int)) = p + (n.size : Int) := by unfold wrap64; omega
    rw [hw]
    have ih2 := fun b => ih (j + 1) b (by omega) (by omega) (by omega)
    rw [hj1] at ih2
    by_cases c1 : (n.size : Int) > (b.size : Int)
    · refine Ev.ifp c1 ?_
      by_cases c2 : p + (n.size : Int) ≤ (s.size : Int)
      · refine Ev.ifp c2 (Ev.ifp p0 (Ev.ifp (by omega) ?_))
        by_cases c3 : (s.extract p.toNat (p + n.size).toNat).toList = n.toList
        · rw [if_pos ⟨by omega, c2, c3⟩]
          exact Ev.ifp c3 (ih2 n)
        · rw [if_neg (fun h => c3 h.2.2)]
          exact Ev.ifn c3 (ih2 b)
      · rw [if_neg (fun h => c2 h.2.1)]
        exact Ev.ifn c2 (ih2 b)
    · rw [if_neg (fun h => c1 (by have := h.1; omega))]
      exact Ev.ifn c1 (ih2 b)
theorem specNamed_f : spec_Named.f = some namedL := rfl
theorem named_le : ∀ n ∈ namedL, n.size ≤ 100 := by
  intro n hn
  simp only [namedL, List.mem_cons, List.not_mem_nil, or_false] at hn
  rcases hn with rfl | rfl | rfl | rfl | rfl | rfl | rfl | rfl | rfl | rfl | rfl | rfl | rfl | rfl <;> decide
theorem ev_nameSign (nm : ByteArray) (d : Nat) : ∀ (j : Int), 0 ≤ j → 14 - j.toNat = d → j ≤ 14 → Ev (fun k => spec_NameSign.l0 k nm signL namedL j) (nsL (namedL.drop j.toNat) (signL.drop j.toNat) nm) := by
  have hl : namedL.length = 14 := rfl
  have hl2 : signL.length = 14 := rfl
  induction d with
  | zero =>
    intro j h0 hd hj
    rw [List.drop_of_length_le (by omega)]
    exact Ev.step (fun k => by simp only [spec_NameSign.l0]; rfl) (Ev.ifn (by omega) (Ev.now _))
  | succ d ih =>
    intro j h0 hd hj
    have hjl : j.toNat < namedL.length := by omega
    have hw1 : wrap64 (j + 1) = j + 1 := by unfold wrap64; omega
    have hj1 : (j + 1).toNat = j.toNat + 1 := by omega
    rw [ns_drop nm namedL signL j.toNat rfl hjl]
    refine Ev.step (fun k => by simp only [spec_NameSign.l0]; rfl) (Ev.ifp (by omega) (Ev.ifp h0 ?_))
    rw [rdOf_at namedL j hjl, hw1]
    have ih2 := ih (j + 1) (by omega) (by omega) (by omega)
    rw [hj1] at ih2
    by_cases c : namedL[j.toNat].toList = nm.toList
    · rw [if_pos c]; exact Ev.ifp c (Ev.ifp (by omega) (Ev.now _))
    · rw [if_neg c]; exact Ev.ifn c ih2
def sgnF (nm : ByteArray) : Int := nsL namedL signL nm
theorem ev_specSign (nm : ByteArray) : Ev (fun k => spec_NameSign.f k nm) (sgnF nm) := by
  refine Ev.congr (fun k => by unfold spec_NameSign.f; rw [specNamed_f, Option.bind_some]; rfl) (ev_nameSign nm 14 0 (by omega) rfl (by omega))
def letF (c : Int) : Bool := decide (97 ≤ c ∧ c ≤ 122) || decide (65 ≤ c ∧ c ≤ 90)
theorem implLetter_f (c : Int) : impl_IsLetter.f c = some (letF c) := by
  unfold impl_IsLetter.f letF
  rw [inRange_f, inRange_f]
  simp only [Option.bind_some]
  by_cases h : decide (97 ≤ c ∧ c ≤ 122) = true
  · rw [if_pos h, h]; rfl
  · rw [if_neg h, Bool.eq_false_iff.mpr h]; rfl
theorem specLetter_f (c : Int) : spec_IsLetter.f c = some (letF c) := by
  unfold spec_IsLetter.f letF
  rw [l1In_f, l1In_f]
  simp only [Option.bind_some]
  by_cases h : decide (97 ≤ c ∧ c ≤ 122) = true
  · rw [if_pos h, h]; rfl
  · rw [if_neg h, Bool.eq_false_iff.mpr h]; rfl
def aftF (s : ByteArray) (i : Int) : Bool := if i < (s.size : Int) then (if bt s i = 61 then true else if letF (bt s i) = true then true else decide (digF (bt s i) false ≥ 0)) else false
theorem ev_isAfter (s : ByteArray) (i : Int) (h0 : 0 ≤ i) : Ev (fun k => impl_isAfter.f k s i) (aftF s i) := by
  have hb := bt_range s i
  have hw : wrap64 (bt s i) = bt s i := by unfold wrap64; omega
  unfold impl_isAfter.f aftF
  rw [hw]
  by_cases c : i < (s.size : Int)
  · rw [if_pos c]
    refine Ev.ifp c (Ev.ifp h0 ?_)
    by_cases c1 : bt s i = 61
    · rw [if_pos c1]; exact Ev.ifp c1 (Ev.now _)
    · rw [if_neg c1]
      refine Ev.ifn c1 (Ev.bindc (implLetter_f _) ?_)
      by_cases c2 : letF (bt s i) = true
      · rw [if_pos c2]; exact Ev.ifp c2 (Ev.now _)
      · rw [if_neg c2]
        exact Ev.ifn c2 (Ev.bind (ev_implDigit (bt s i) false hb.1 hb.2) (Ev.now _))
  · rw [if_neg c]; exact Ev.ifn c (Ev.now _)
def semi (s : ByteArray) (i : Int) : Int := if i < (s.size : Int) ∧ bt s i = 59 then i + 1 else i
def refT (s : ByteArray) (p : Int) (v : Bool) (b : ByteArray) : ByteArray × Int :=
  if b.toList = [] then (⟨#[]⟩, 0)
  else if semi s (p + 1 + b.size) = p + 1 + b.size ∧ v = true ∧ aftF s (p + 1 + b.size) = true then (⟨#[]⟩, 0)
  else (putF (sgnF b), semi s (p + 1 + b.size) - p)
theorem semi_or (s : ByteArray) (i : Int) : semi s i = i ∨ semi s i = i + 1 := by unfold semi; split <;> simp
theorem ev_specTail (s : ByteArray) (hm : s.size ≤ 140737488351232) (p : Int) (p0 : 0 ≤ p) (v : Bool) (b : ByteArray) (hb : p + 1 + b.size ≤ s.size) (hs : b.size ≤ 100) :
    Ev (fun k => if b.toList = ([] : List UInt8) then (some ((⟨#[]⟩ : ByteArray), (0 : Int))) else (if (wrap64 ((wrap64 (p + 1)) + (b.size : Int))) < (s.size : Int) then (if 0 ≤ (wrap64 ((wrap64 (p + 1)) + (b.size : Int))) then (spec_Ref.j2 k s p v b (wrap64 ((wrap64 (p + 1)) + (b.size : Int))) ((bt s (wrap64 ((wrap64 (p + 1)) + (b.size : Int)))) == 59)) else (none)) else (spec_Ref.j2 k s p v b (wrap64 ((wrap64 (p + 1)) + (b.size : Int))) false))) (refT s p v b) := by
  have hw1 : wrap64 (p + 1) = p + 1 := by unfold wrap64; omega
  have hw : wrap64 (p + 1 + (b.size : Int)) = p + 1 + (b.size : Int) := by unfold wrap64; omega
  rw [hw1, hw]
  unfold refT
  generalize hq : p + 1 + (b.size : Int) = q at *
  have hq0 : 0 ≤ q := by omega
  have hbt := bt_range s q
  by_cases c0 : b.toList = []
  · rw [if_pos c0]; exact Ev.ifp c0 (Ev.now _)
  rw [if_neg c0]
  refine Ev.ifn c0 ?_
  have j3 : Ev (fun k => spec_Ref.j3 k p b q false) (putF (sgnF b), q - p) := by
    refine Ev.step (fun k => by simp only [spec_Ref.j3]; rfl) (Ev.ifn (by simp) (Ev.bind (ev_specSign b) (Ev.bind (Ev.up 1 (fun k => specPut_f k _)) ?_)))
    rw [show wrap64 (q - p) = q - p by unfold wrap64; omega]
    exact Ev.now _
  have j3t : Ev (fun k => spec_Ref.j3 k p b q true) ((⟨#[]⟩ : ByteArray), (0 : Int)) :=
    Ev.step (fun k => by simp only [spec_Ref.j3]; rfl) (Ev.ifp (rfl : true = true) (Ev.now _))
  have j2f : semi s q = q → Ev (fun k => spec_Ref.j2 k s p v b q false) (if semi s q = q ∧ v = true ∧ aftF s q = true then (⟨#[]⟩, 0) else (putF (sgnF b), semi s q - p)) := by
    intro hsm
    rw [hsm]
    refine Ev.step (fun k => by simp only [spec_Ref.j2]; rfl) (Ev.ifn (by simp) ?_)
    cases v
    · rw [if_neg (by simp)]; exact Ev.ifn (by simp) j3
    · refine Ev.ifp (rfl : true = true) ?_
      unfold aftF
      by_cases c : q < (s.size : Int)
      · rw [if_pos c]
        refine Ev.ifp c (Ev.ifp hq0 ?_)
        by_cases c1 : bt s q = 61
        · rw [if_pos c1, if_pos ⟨rfl, rfl, rfl⟩]; exact Ev.ifp c1 j3t
        · rw [if_neg c1, show wrap64 (bt s q) = bt s q by unfold wrap64; omega]
          refine Ev.ifn c1 (Ev.bindc (specLetter_f _) ?_)
          by_cases c2 : letF (bt s q) = true
          · rw [if_pos c2, if_pos ⟨rfl, rfl, rfl⟩]; exact Ev.ifp c2 j3t
          · rw [if_neg c2]
            refine Ev.ifn c2 (Ev.bind (ev_specDigit (bt s q) false hbt.1 hbt.2) ?_)
            by_cases c3 : digF (bt s q) false ≥ 0
            · rw [decide_eq_true c3, if_pos ⟨rfl, rfl, rfl⟩]; exact j3t
            · rw [decide_eq_false c3, if_neg (by simp)]; exact j3
      · rw [if_neg c, if_neg (by simp)]
        exact Ev.ifn c j3
  by_cases c : q < (s.size : Int)
  · refine Ev.ifp c (Ev.ifp hq0 ?_)
    by_cases c1 : bt s q = 59
    · have hsm : semi s q = q + 1 := by unfold semi; rw [if_pos ⟨c, c1⟩]
      rw [hsm, if_neg (fun h => by have := h.1; omega), show (bt s q == 59) = true from beq_iff_eq.mpr c1]
      refine Ev.step (fun k => by simp only [spec_Ref.j2]; rfl) (Ev.ifp (rfl : true = true) (Ev.bind (ev_specSign b) (Ev.bind (Ev.up 1 (fun k => specPut_f k _)) ?_)))
      rw [show wrap64 (q + 1) = q + 1 by unfold wrap64; omega, show wrap64 (q + 1 - p) = q + 1 - p by unfold wrap64; omega]
      exact Ev.now _
    · rw [show (bt s q == 59) = false from beq_eq_false_iff_ne.mpr c1]
      exact j2f (by unfold semi; rw [if_neg (fun h => c1 h.2)])
  · exact Ev.ifn c (j2f (by unfold semi; rw [if_neg (fun h => c h.1)]))
end Go.Proofs.Ytlocaaebgghkbaa.A

/- References: Ref and Refs, the program's and the reference's. -/
namespace Go.Proofs.Ytlocaaebgghkbaa.A
open Go.RowKit Go.Proofs.YtlocaaebgghkbaaW.PrintWords Go.Proofs.YtlocaaebgghkbaaW.PrintLast Go.Proofs.YtlocaaebgghkbaaW.PrintMore
set_option linter.unusedVariables false

theorem ev_implTail (s : ByteArray) (hm : s.size ≤ 140737488351232) (p : Int) (p0 : 0 ≤ p) (v : Bool) (b : ByteArray) (hb : p + 1 + b.size ≤ s.size) (hs : b.size ≤ 100) :
    Ev (fun k => if b.toList = ([] : List UInt8) then (some ((⟨#[]⟩ : ByteArray), (0 : Int))) else ((impl_withEnd.f s (wrap64 ((wrap64 (p + 1)) + (b.size : Int)))).bind fun t308 => (if t308 = (wrap64 ((wrap64 (p + 1)) + (b.size : Int))) then (if v = true then ((impl_isAfter.f k s (wrap64 ((wrap64 (p + 1)) + (b.size : Int)))).bind fun t309 => (impl_Ref.j2 k s p b (wrap64 ((wrap64 (p + 1)) + (b.size : Int))) t309)) else (impl_Ref.j2 k s p b (wrap64 ((wrap64 (p + 1)) + (b.size : Int))) false)) else (impl_Ref.j2 k s p b (wrap64 ((wrap64 (p + 1)) + (b.size : Int))) false)))) (refT s p v b) := by
  have hw1 : wrap64 (p + 1) = p + 1 := by unfold wrap64; omega
  have hw : wrap64 (p + 1 + (b.size : Int)) = p + 1 + (b.size : Int) := by unfold wrap64; omega
  rw [hw1, hw]
  unfold refT
  generalize hq : p + 1 + (b.size : Int) = q at *
  have hq0 : 0 ≤ q := by omega
  by_cases c0 : b.toList = []
  · rw [if_pos c0]; exact Ev.ifp c0 (Ev.now _)
  rw [if_neg c0]
  refine Ev.ifn c0 ?_
  have hwe : impl_withEnd.f s q = some (semi s q) := withEnd_f s q hm hq0 hb
  have j2f : Ev (fun k => impl_Ref.j2 k s p b q false) (putF (sgnF b), semi s q - p) := by
    refine Ev.step (fun k => by simp only [impl_Ref.j2]; rfl) (Ev.ifn (by simp) (Ev.bindc (show impl_NameSign.f b = some (sgnF b) from rfl) (Ev.bind (a := putF (sgnF b)) (Ev.up 1 (fun k => implPut_f k _)) ?_)))
    refine Ev.bindc (f := fun _ t => some (putF (sgnF b), wrap64 (t - p))) hwe ?_
    have hsm := semi_or s q
    rw [show wrap64 (semi s q - p) = semi s q - p by unfold wrap64; omega]
    exact Ev.now _
  have j2t : Ev (fun k => impl_Ref.j2 k s p b q true) ((⟨#[]⟩ : ByteArray), (0 : Int)) :=
    Ev.step (fun k => by simp only [impl_Ref.j2]; rfl) (Ev.ifp (rfl : true = true) (Ev.now _))
  refine Ev.bindc hwe ?_
  by_cases c1 : semi s q = q
  · refine Ev.ifp c1 ?_
    cases v
    · rw [if_neg (by simp)]; exact Ev.ifn (by simp) j2f
    · refine Ev.ifp (rfl : true = true) (Ev.bind (ev_isAfter s q hq0) ?_)
      by_cases c2 : aftF s q = true
      · rw [if_pos ⟨c1, rfl, c2⟩, c2]; exact j2t
      · rw [if_neg (fun h => c2 h.2.2), Bool.eq_false_iff.mpr c2]; exact j2f
  · rw [if_neg (fun h => c1 h.1)]
    exact Ev.ifn c1 j2f
theorem ev_implLoop (s : ByteArray) (hm : s.size ≤ 140737488351232) (p : Int) (v : Bool) (p0 : 0 ≤ p) (p1 : p + 1 ≤ s.size) (L : List ByteArray) (hL : ∀ n ∈ L, n.size ≤ 100) (hl : L.length ≤ 1000) (d : Nat) : ∀ (j : Int) (b : ByteArray), 0 ≤ j → L.length - j.toNat = d → j ≤ L.length → standsAt s (p + 1) b → b.size ≤ 100 →
    Ev (fun k => impl_Ref.l0 k s p v (s.extract (p + 1).toNat s.size) b L (L.length : Int) j) (refT s p v (longF s (p + 1) (L.drop j.toNat) b)) := by
  induction d with
  | zero =>
    intro j b h0 hd hj hst hsz
    rw [List.drop_of_length_le (by omega)]
    exact Ev.step (fun k => by simp only [impl_Ref.l0]; rfl) (Ev.ifn (by omega) (ev_implTail s hm p p0 v b (by have := hst.1; omega) hsz))
  | succ d ih =>
    intro j b h0 hd hj hst hsz
    have hjl : j.toNat < L.length := by omega
    have hszn := hL _ (List.getElem_mem hjl)
    have hw1 : wrap64 (j + 1) = j + 1 := by unfold wrap64; omega
    have hj1 : (j + 1).toNat = j.toNat + 1 := by omega
    rw [List.drop_eq_getElem_cons hjl]
    unfold longF
    refine Ev.step (fun k => by simp only [impl_Ref.l0]; rfl) (Ev.ifp (by omega) (Ev.ifp h0 (Ev.ifp (by omega) ?_)))
    rw [rdOf_at L j hjl, hw1]
    generalize hn : L[j.toNat] = n at *
    have ih2 := fun b => ih (j + 1) b (by omega) (by omega) (by omega)
    rw [hj1] at ih2
    by_cases c1 : (n.size : Int) > (b.size : Int)
    · refine Ev.ifp c1 (Ev.bindc (hasPrefix_f s (p + 1) n (by omega) p1) ?_)
      by_cases c3 : standsAt s (p + 1) n
      · rw [if_pos ⟨by omega, c3⟩, decide_eq_true c3]
        exact Ev.ifp (rfl : true = true) (ih2 n c3 hszn)
      · rw [if_neg (fun h => c3 h.2), decide_eq_false c3]
        exact Ev.ifn (by simp) (ih2 b hst hsz)
    · rw [if_neg (fun h => c1 (by have := h.1; omega))]
      exact Ev.ifn c1 (ih2 b hst hsz)
theorem bt_byte (s : ByteArray) (q : Int) (h0 : 0 ≤ q) (h1 : q < (s.size : Int)) : ((s[q.toNat]'(by omega)).toNat : Int) = bt s q := bt_at s q (by omega)
theorem stands_one (s : ByteArray) (q : Int) (c : UInt8) (h0 : 0 ≤ q) : standsAt s q (⟨#[c]⟩ : ByteArray) ↔ q < (s.size : Int) ∧ bt s q = (c.toNat : Int) := by
  unfold standsAt
  have h1 : (⟨#[c]⟩ : ByteArray).size = 1 := rfl
  have h2 : (⟨#[c]⟩ : ByteArray).toList = [c] := by rw [ByteArray.toList_eq]
  rw [h1, h2, ByteArray.toList_eq, extract_list]
  constructor
  · rintro ⟨ha, hb⟩
    have hq : q.toNat < s.size := by omega
    refine ⟨by omega, ?_⟩
    rw [drop_cons s q.toNat hq, show (q + ((1 : Nat) : Int)).toNat - q.toNat = 1 by omega] at hb
    simp at hb
    rw [← bt_byte s q h0 (by omega), hb]
  · rintro ⟨ha, hb⟩
    have hq : q.toNat < s.size := by omega
    refine ⟨by omega, ?_⟩
    rw [drop_cons s q.toNat hq, show (q + ((1 : Nat) : Int)).toNat - q.toNat = 1 by omega]
    have := bt_byte s q h0 ha
    rw [hb] at this
    simp
    exact UInt8.toNat_inj.mp (by omega)
def hexF (s : ByteArray) (i : Int) : Bool := decide (i < (s.size : Int) ∧ (bt s i = 120 ∨ bt s i = 88))
def froF (s : ByteArray) (p : Int) : Int := if hexF s (p + 2) = true then p + 3 else p + 2
def numberF (s : ByteArray) (p : Int) : ByteArray × Int := numR s p (froF s p) (numE s (hexF s (p + 2)) (froF s p) 0)
theorem froF_le (s : ByteArray) (p : Int) (h : p + 2 ≤ s.size) : p + 2 ≤ froF s p ∧ froF s p ≤ s.size := by
  unfold froF hexF
  split
  · rename_i hh
    have := (of_decide_eq_true hh).1
    omega
  · omega
theorem ev_specNumber (s : ByteArray) (hm : s.size ≤ 140737488351232) (p : Int) (p0 : 0 ≤ p) (h : p + 2 ≤ s.size) : Ev (fun k => spec_l3Number.f k s p) (numberF s p) := by
  have hw : wrap64 (p + 2) = p + 2 := by unfold wrap64; omega
  have hfl := froF_le s p h
  have run : ∀ hex : Bool, Ev (fun k => spec_l3Number.j0 k s p (p + 2) hex) (numR s p (if hex = true then p + 3 else p + 2) (numE s hex (if hex = true then p + 3 else p + 2) 0)) ∨ ¬ ((if hex = true then p + 3 else p + 2) ≤ (s.size : Int)) := by
    intro hex
    by_cases hc : (if hex = true then p + 3 else p + 2) ≤ (s.size : Int)
    · left
      refine Ev.step (fun k => by simp only [spec_l3Number.j0]; rfl) ?_
      cases hex
      · refine Ev.ifn (by simp) (Ev.step (fun k => by simp only [spec_l3Number.j1]; rfl) ?_)
        simp only [Bool.false_eq_true, if_false] at hc ⊢
        exact ev_specNum s hm p (p + 2) false p0 _ (p + 2) 0 (by omega) (by omega) hc (by omega) (by omega) rfl
      · refine Ev.ifp (rfl : true = true) (Ev.step (fun k => by simp only [spec_l3Number.j1]; rfl) ?_)
        simp only [if_true] at hc ⊢
        rw [show wrap64 (p + 2 + 1) = p + 3 by unfold wrap64; omega]
        exact ev_specNum s hm p (p + 3) true p0 _ (p + 3) 0 (by omega) (by omega) hc (by omega) (by omega) rfl
    · exact .inr hc
  have fin : Ev (fun k => spec_l3Number.j0 k s p (p + 2) (hexF s (p + 2))) (numberF s p) := by
    rcases run (hexF s (p + 2)) with h1 | h1
    · exact h1
    · exact absurd hfl.2 h1
  unfold spec_l3Number.f
  rw [hw]
  by_cases c : p + 2 < (s.size : Int)
  · refine Ev.ifp c (Ev.ifp (by omega) ?_)
    by_cases c1 : bt s (p + 2) = 120
    · have : hexF s (p + 2) = true := by unfold hexF; exact decide_eq_true ⟨c, .inl c1⟩
      rw [this] at fin
      exact Ev.ifp c1 fin
    · have : hexF s (p + 2) = (bt s (p + 2) == 88) := by
        unfold hexF
        by_cases c2 : bt s (p + 2) = 88
        · rw [decide_eq_true ⟨c, .inr c2⟩, c2]; rfl
        · rw [decide_eq_false (by omega)]; exact (beq_eq_false_iff_ne.mpr c2).symm
      rw [this] at fin
      exact Ev.ifn c1 fin
  · have : hexF s (p + 2) = false := by unfold hexF; exact decide_eq_false (fun h => c h.1)
    rw [this] at fin
    exact Ev.ifn c fin
theorem ev_implNumber (s : ByteArray) (hm : s.size ≤ 140737488351232) (p : Int) (p0 : 0 ≤ p) (h : p + 2 ≤ s.size) : Ev (fun k => impl_numberRef.f k s p) (numberF s p) := by
  have hw : wrap64 (p + 2) = p + 2 := by unfold wrap64; omega
  have hfl := froF_le s p h
  have run : ∀ hex : Bool, Ev (fun k => impl_numberRef.j0 k s p (p + 2) 10 hex) (numR s p (if hex = true then p + 3 else p + 2) (numE s hex (if hex = true then p + 3 else p + 2) 0)) ∨ ¬ ((if hex = true then p + 3 else p + 2) ≤ (s.size : Int)) := by
    intro hex
    by_cases hc : (if hex = true then p + 3 else p + 2) ≤ (s.size : Int)
    · left
      refine Ev.step (fun k => by simp only [impl_numberRef.j0]; rfl) ?_
      cases hex
      · refine Ev.ifn (by simp) (Ev.step (fun k => by simp only [impl_numberRef.j1]; rfl) ?_)
        simp only [Bool.false_eq_true, if_false] at hc ⊢
        exact ev_implNum s hm p (p + 2) false p0 _ (p + 2) 0 (by omega) (by omega) hc (by omega) (by omega) rfl
      · refine Ev.ifp (rfl : true = true) (Ev.step (fun k => by simp only [impl_numberRef.j1]; rfl) ?_)
        simp only [if_true] at hc ⊢
        rw [show wrap64 (p + 2 + 1) = p + 3 by unfold wrap64; omega]
        exact ev_implNum s hm p (p + 3) true p0 _ (p + 3) 0 (by omega) (by omega) hc (by omega) (by omega) rfl
    · exact .inr hc
  have fin : Ev (fun k => impl_numberRef.j0 k s p (p + 2) 10 (hexF s (p + 2))) (numberF s p) := by
    rcases run (hexF s (p + 2)) with h1 | h1
    · exact h1
    · exact absurd hfl.2 h1
  unfold impl_numberRef.f
  rw [hw]
  by_cases c : p + 2 < (s.size : Int)
  · refine Ev.ifp c (Ev.ifp (by omega) ?_)
    by_cases c1 : bt s (p + 2) = 120
    · have : hexF s (p + 2) = true := by unfold hexF; exact decide_eq_true ⟨c, .inl c1⟩
      rw [this] at fin
      exact Ev.ifp c1 fin
    · have : hexF s (p + 2) = (bt s (p + 2) == 88) := by
        unfold hexF
        by_cases c2 : bt s (p + 2) = 88
        · rw [decide_eq_true ⟨c, .inr c2⟩, c2]; rfl
        · rw [decide_eq_false (by omega)]; exact (beq_eq_false_iff_ne.mpr c2).symm
      rw [this] at fin
      exact Ev.ifn c1 fin
  · have : hexF s (p + 2) = false := by unfold hexF; exact decide_eq_false (fun h => c h.1)
    rw [this] at fin
    exact Ev.ifn c fin
end Go.Proofs.Ytlocaaebgghkbaa.A

/- References: Ref and Refs, the program's and the reference's, are one function. -/
namespace Go.Proofs.Ytlocaaebgghkbaa.A
open Go.RowKit Go.Proofs.YtlocaaebgghkbaaW.PrintWords Go.Proofs.YtlocaaebgghkbaaW.PrintLast Go.Proofs.YtlocaaebgghkbaaW.PrintMore
set_option linter.unusedVariables false

def refA (s : ByteArray) (p : Int) (v : Bool) : ByteArray × Int :=
  if bt s p = 38 then (if p + 1 < (s.size : Int) ∧ bt s (p + 1) = 35 then numberF s p else refT s p v (longF s (p + 1) namedL ⟨#[]⟩)) else (⟨#[]⟩, 0)
theorem stands_nil (s : ByteArray) (q : Int) (h0 : 0 ≤ q) (h1 : q ≤ s.size) : standsAt s q (⟨#[]⟩ : ByteArray) := by
  refine ⟨by show q + ((0 : Nat) : Int) ≤ _; omega, ?_⟩
  rw [ByteArray.toList_eq, ByteArray.toList_eq, extract_list, show (q + ((⟨#[]⟩ : ByteArray).size : Int)).toNat - q.toNat = 0 by show (q + ((0 : Nat) : Int)).toNat - q.toNat = 0; omega]
  simp
theorem ev_specRef (s : ByteArray) (hm : s.size ≤ 140737488351232) (p : Int) (v : Bool) (p0 : 0 ≤ p) (p1 : p < (s.size : Int)) : Ev (fun k => spec_Ref.f k s p v) (refA s p v) := by
  have hw1 : wrap64 (p + 1) = p + 1 := by unfold wrap64; omega
  unfold spec_Ref.f refA
  refine Ev.ifn (by omega) (Ev.ifn (by omega) (Ev.ifp p0 (Ev.ifp p1 ?_)))
  by_cases c : bt s p = 38
  · rw [if_pos c, show (bt s p != 38) = false by rw [c]; rfl]
    refine Ev.step (fun k => by simp only [spec_Ref.j0]; rfl) (Ev.ifn (by simp) ?_)
    rw [hw1]
    have j1f : ¬ (p + 1 < (s.size : Int) ∧ bt s (p + 1) = 35) → Ev (fun k => spec_Ref.j1 k s p v false) (refT s p v (longF s (p + 1) namedL ⟨#[]⟩)) := by
      intro hn
      refine Ev.step (fun k => by simp only [spec_Ref.j1]; rfl) (Ev.ifn (by simp) (Ev.bind (a := longF s (p + 1) namedL ⟨#[]⟩) ?_ ?_))
      · rw [hw1]
        refine Ev.congr (fun k => by unfold spec_l3Longest.f; rw [specNamed_f, Option.bind_some]) ?_
        exact ev_longest s hm (p + 1) (by omega) (by omega) namedL named_le (by decide) 14 0 ⟨#[]⟩ (by omega) rfl (by decide)
      · have hst := longF_ok s (p + 1) namedL ⟨#[]⟩ (stands_nil s (p + 1) (by omega) (by omega))
        have hsz := longF_le s (p + 1) 100 namedL ⟨#[]⟩ named_le (by show 0 ≤ 100; omega)
        exact ev_specTail s hm p p0 v _ (by have := hst.1; omega) hsz
    by_cases c1 : p + 1 < (s.size : Int)
    · refine Ev.ifp c1 (Ev.ifp (by omega) ?_)
      by_cases c2 : bt s (p + 1) = 35
      · rw [if_pos ⟨c1, c2⟩, show (bt s (p + 1) == 35) = true by rw [c2]; rfl]
        refine Ev.step (fun k => by simp only [spec_Ref.j1]; rfl) (Ev.ifp (rfl : true = true) (Ev.bind (ev_specNumber s hm p p0 (by omega)) (Ev.now _)))
      · rw [if_neg (fun h => c2 h.2), show (bt s (p + 1) == 35) = false from beq_eq_false_iff_ne.mpr c2]
        exact j1f (fun h => c2 h.2)
    · rw [if_neg (fun h => c1 h.1)]
      exact Ev.ifn c1 (j1f (fun h => c1 h.1))
  · rw [if_neg c, show (bt s p != 38) = true from bne_iff_ne.mpr c]
    exact Ev.step (fun k => by simp only [spec_Ref.j0]; rfl) (Ev.ifp (rfl : true = true) (Ev.now _))
theorem ev_implRef (s : ByteArray) (hm : s.size ≤ 140737488351232) (p : Int) (v : Bool) (p0 : 0 ≤ p) (p1 : p < (s.size : Int)) : Ev (fun k => impl_Ref.f k s p v) (refA s p v) := by
  have hw1 : wrap64 (p + 1) = p + 1 := by unfold wrap64; omega
  have hw2 : wrap64 ((s.size : Int) - 1) = (s.size : Int) - 1 := by unfold wrap64; omega
  unfold impl_Ref.f refA
  refine Ev.bindc (inRange_f _ _ _) ?_
  rw [hw2, decide_eq_true (show 0 ≤ p ∧ p ≤ (s.size : Int) - 1 by omega)]
  refine Ev.ifp (rfl : true = true) (Ev.ifp p0 (Ev.ifp p1 ?_))
  by_cases c : bt s p = 38
  · rw [if_pos c, show (bt s p != 38) = false by rw [c]; rfl]
    refine Ev.step (fun k => by simp only [impl_Ref.j0]; rfl) (Ev.ifn (by simp) ?_)
    rw [hw1]
    refine Ev.ifp (by omega) (Ev.ifp (by omega) (Ev.bindc (hasPrefix_f s (p + 1) ⟨#[35]⟩ (by omega) (by omega)) ?_))
    have h35 := stands_one s (p + 1) 35 (by omega)
    by_cases c2 : p + 1 < (s.size : Int) ∧ bt s (p + 1) = 35
    · rw [if_pos c2, decide_eq_true (h35.mpr c2)]
      exact Ev.ifp (rfl : true = true) (Ev.bind (ev_implNumber s hm p p0 (by omega)) (Ev.now _))
    · rw [if_neg c2, decide_eq_false (fun h => c2 (h35.mp h))]
      refine Ev.ifn (by simp) (Ev.bindc named_f ?_)
      exact ev_implLoop s hm p v p0 (by omega) namedL named_le (by decide) 14 0 ⟨#[]⟩ (by omega) rfl (by decide) (stands_nil s (p + 1) (by omega) (by omega)) (by show 0 ≤ 100; omega)
  · rw [if_neg c, show (bt s p != 38) = true from bne_iff_ne.mpr c]
    exact Ev.step (fun k => by simp only [impl_Ref.j0]; rfl) (Ev.ifp (rfl : true = true) (Ev.now _))
theorem semi_le (s : ByteArray) (i : Int) (h : i ≤ s.size) : i ≤ semi s i ∧ semi s i ≤ s.size := by
  unfold semi
  split
  · rename_i hh; have := hh.1; omega
  · omega
theorem refA_le (s : ByteArray) (p : Int) (v : Bool) (p0 : 0 ≤ p) (p1 : p < (s.size : Int)) : 0 ≤ (refA s p v).2 ∧ p + (refA s p v).2 ≤ s.size ∧ (refA s p v).1.size ≤ 4 := by
  have hz : (⟨#[]⟩ : ByteArray).size = 0 := rfl
  unfold refA
  split
  · split
    · rename_i h
      have hf := froF_le s p (by omega)
      have he := numE_le (s := s) (hex := hexF s (p + 2)) _ (froF s p) 0 rfl hf.2
      unfold numberF numR
      generalize numE s (hexF s (p + 2)) (froF s p) 0 = e at *
      have hs := semi_le s e.1 he.2
      have hput := putF_size (numF e.2)
      unfold semi at hs
      split
      · simp only [hz]; omega
      · simp only; omega
    · have hst := longF_ok s (p + 1) namedL ⟨#[]⟩ (stands_nil s (p + 1) (by omega) (by omega))
      unfold refT
      generalize longF s (p + 1) namedL ⟨#[]⟩ = b at *
      have hs := semi_le s (p + 1 + b.size) hst.1
      have hput := putF_size (sgnF b)
      split
      · simp only [hz]; omega
      · split
        · simp only [hz]; omega
        · simp only; omega
  · simp only [hz]; omega
def refsF (s : ByteArray) (v : Bool) (j : Int) : List UInt8 :=
  if j < (s.size : Int) then (if (refA s j v).2 > 0 then (refA s j v).1.data.toList ++ refsF s v (j + (refA s j v).2) else byU s j :: refsF s v (j + 1)) else []
termination_by ((s.size : Int) - j).toNat
decreasing_by all_goals omega
def asInts (l : List UInt8) : List Int := l.map fun b => (b.toNat : Int)
theorem strOf_asInts (l : List UInt8) : strOfNums (asInts l) = ⟨l.toArray⟩ := by
  unfold strOfNums asInts
  congr 2
  rw [List.map_map]
  conv => rhs; rw [← List.map_id l]
  apply List.map_congr_left
  intro b _
  simp
theorem ev_refs (s : ByteArray) (v : Bool) (hm : s.size ≤ 1048576) (d : Nat) : ∀ (j : Int) (out : List UInt8), 0 ≤ j → ((s.size : Int) - j).toNat ≤ d → out.length + 4 * d ≤ 140737488355000 →
    Ev (fun k => spec_Refs.l0 k s v (asInts out) j) (⟨(out ++ refsF s v j).toArray⟩) ∧ Ev (fun k => impl_Refs.l0 k s v out j) (⟨(out ++ refsF s v j).toArray⟩) := by
  induction d with
  | zero =>
    intro j out h0 hd hl
    rw [refsF, if_neg (by omega), List.append_nil]
    constructor
    · rw [← strOf_asInts]
      exact Ev.step (fun k => by simp only [spec_Refs.l0]; rfl) (Ev.ifn (by omega) (Ev.now _))
    · exact Ev.step (fun k => by simp only [impl_Refs.l0]; rfl) (Ev.ifn (by omega) (Ev.now _))
  | succ d ih =>
    intro j out h0 hd hl
    by_cases hj : j < (s.size : Int)
    · have hle := refA_le s j v h0 hj
      have e1 := ev_specRef s (by omega) j v h0 hj
      have e2 := ev_implRef s (by omega) j v h0 hj
      rw [refsF, if_pos hj]
      have hsz : (refA s j v).1.size = (refA s j v).1.data.toList.length := (data_length _).symm
      generalize refA s j v = t at *
      have hlen : (asInts out).length = out.length := by simp [asInts]
      by_cases hu : t.2 > 0
      · have hw : wrap64 (j + t.2) = j + t.2 := by unfold wrap64; omega
        have ih2 := ih (j + t.2) (out ++ t.1.data.toList) (by omega) (by omega) (by rw [List.length_append]; omega)
        rw [if_pos hu, ← List.append_assoc]
        constructor
        · refine Ev.step (fun k => by simp only [spec_Refs.l0]; rfl) (Ev.ifp hj (Ev.bind e1 (Ev.ifp hu (Ev.ifp (show (asInts out).length + t.1.size ≤ 140737488355327 by rw [hlen]; omega) ?_))))
          rw [hw, show asInts out ++ bytesOf t.1 = asInts (out ++ t.1.data.toList) by simp [asInts, bytesOf]]
          exact ih2.1
        · refine Ev.step (fun k => by simp only [impl_Refs.l0]; rfl) (Ev.ifp hj (Ev.bind e2 (Ev.ifn (show ¬ t.2 = 0 by omega) (Ev.ifp (show out.length + t.1.size ≤ 140737488355328 by omega) ?_))))
          rw [hw]
          exact ih2.2
      · have hw : wrap64 (j + 1) = j + 1 := by unfold wrap64; omega
        have ih2 := ih (j + 1) (out ++ [byU s j]) (by omega) (by omega) (by rw [List.length_append, List.length_singleton]; omega)
        rw [if_neg hu, show out ++ byU s j :: refsF s v (j + 1) = (out ++ [byU s j]) ++ refsF s v (j + 1) by simp]
        constructor
        · refine Ev.step (fun k => by simp only [spec_Refs.l0]; rfl) (Ev.ifp hj (Ev.bind e1 (Ev.ifn hu (Ev.ifp h0 (Ev.ifp (show (asInts out).length < 140737488355328 by rw [hlen]; omega) ?_)))))
          rw [hw, show asInts out ++ [bt s j] = asInts (out ++ [byU s j]) by simp [asInts, byU_bt]]
          exact ih2.1
        · refine Ev.step (fun k => by simp only [impl_Refs.l0]; rfl) (Ev.ifp hj (Ev.bind e2 (Ev.ifp (show t.2 = 0 by omega) (Ev.ifp h0 (Ev.ifp (show out.length + 1 ≤ 140737488355328 by omega) ?_)))))
          rw [hw]
          exact ih2.2
    · rw [refsF, if_neg hj, List.append_nil]
      constructor
      · rw [← strOf_asInts]
        exact Ev.step (fun k => by simp only [spec_Refs.l0]; rfl) (Ev.ifn hj (Ev.now _))
      · exact Ev.step (fun k => by simp only [impl_Refs.l0]; rfl) (Ev.ifn hj (Ev.now _))
def refsB (s : ByteArray) (v : Bool) : ByteArray := ⟨(refsF s v 0).toArray⟩
theorem ev_specRefs (s : ByteArray) (v : Bool) (hm : s.size ≤ 1048576) : Ev (fun k => spec_Refs.f k s v) (refsB s v) :=
  (ev_refs s v hm s.size 0 [] (by omega) (by omega) (by simp; omega)).1
theorem ev_implRefs (s : ByteArray) (v : Bool) (hm : s.size ≤ 1048576) : Ev (fun k => impl_Refs.f k s v) (refsB s v) :=
  (ev_refs s v hm s.size 0 [] (by omega) (by omega) (by simp; omega)).2
end Go.Proofs.Ytlocaaebgghkbaa.A

/- Attributes: the program's Attrs and the reference's read one row of them. -/
namespace Go.Proofs.Ytlocaaebgghkbaa.A
open Go.RowKit Go.Proofs.YtlocaaebgghkbaaW.PrintWords Go.Proofs.YtlocaaebgghkbaaW.PrintLast Go.Proofs.YtlocaaebgghkbaaW.PrintMore
set_option linter.unusedVariables false

theorem ovr_f {s : ByteArray} {k : Int} (h : k < (s.size : Int)) : ovr s k false = false := by simp [ovr]; omega
theorem ovr_t {s : ByteArray} {k : Int} (h : k < (s.size : Int)) (h1 : blk (bt s k) = true ∨ bt s k = 47) : ovr s k true = false := by
  have h62 : ¬ (bt s k = 62) := by
    rintro h62
    rw [h62] at h1
    rcases h1 with h1 | h1
    · simp [blk] at h1
    · omega
  simp [ovr, h62]; omega
theorem sep_tf (s : ByteArray) (d : Nat) : ∀ (k : Int) (b : Bool), ((s.size : Int) - k).toNat = d → sepF s true k b = sepF s false k b := by
  induction d with
  | zero => intro k b hd; rw [sepF_stop (.inl (by omega)), sepF_stop (.inl (by omega))]
  | succ d ih =>
    intro k b hd
    by_cases h : blk (bt s k) = true ∨ bt s k = 47
    · rw [sepF_go (by omega) (ovr_t (by omega) h) h, sepF_go (by omega) (ovr_f (by omega)) h]
      exact ih (k + 1) _ (by omega)
    · rw [sepF_stop (.inr (fun hh => h hh.2)), sepF_stop (.inr (fun hh => h hh.2))]
theorem sep_flag (s : ByteArray) (d : Nat) : ∀ (k : Int) (b : Bool), ((s.size : Int) - k).toNat = d → (sepF s false k b).2 = if (sepF s false k b).1 > k then (bt s ((sepF s false k b).1 - 1) == 47) else b := by
  induction d with
  | zero => intro k b hd; rw [sepF_stop (.inl (by omega)), if_neg (by simp only; omega)]
  | succ d ih =>
    intro k b hd
    by_cases h : blk (bt s k) = true ∨ bt s k = 47
    · rw [sepF_go (by omega) (ovr_f (by omega)) h]
      have hle := sepF_le (s := s) (e := false) _ (k + 1) (bt s k == 47) rfl (by omega)
      rw [ih (k + 1) _ (by omega)]
      by_cases c : (sepF s false (k + 1) (bt s k == 47)).1 > k + 1
      · rw [if_pos c, if_pos (by omega)]
      · have he : (sepF s false (k + 1) (bt s k == 47)).1 = k + 1 := by omega
        rw [if_neg c, if_pos (by omega), he, show k + 1 - 1 = k by omega]
    · rw [sepF_stop (.inr (fun hh => h hh.2)), if_neg (by simp only; omega)]
theorem sep_past (s : ByteArray) (d : Nat) : ∀ (k : Int), ((s.size : Int) - k).toNat = d → sepF s false (pastB s k) false = sepF s false k false := by
  induction d with
  | zero => intro k hd; rw [pastB_stop (.inl (by omega))]
  | succ d ih =>
    intro k hd
    by_cases h : blk (bt s k) = true
    · have h47 : (bt s k == 47) = false := by
        refine beq_eq_false_iff_ne.mpr (fun hh => ?_)
        rw [hh] at h
        simp [blk] at h
      rw [pastB_go (by omega) h, ih (k + 1) (by omega), sepF_go (k := k) (by omega) (ovr_f (by omega)) (.inl h), h47]
    · rw [pastB_stop (.inr (by simpa using h))]
theorem has_any (l : List (S53)) (nm : ByteArray) (hl : l.length ≤ 140737488351232) (d : Nat) : ∀ (j : Int), 0 ≤ j → l.length - j.toNat = d → j ≤ l.length → Ev (fun k => spec_l4Has.l0 k l nm j) ((l.drop j.toNat).any fun x => x.f0.toList == nm.toList) := by
  induction d with
  | zero =>
    intro j h0 hd hj
    rw [List.drop_of_length_le (by omega)]
    exact Ev.step (fun k => by simp only [spec_l4Has.l0]; rfl) (Ev.ifn (show ¬ j < (l.length : Int) by omega) (Ev.now _))
  | succ d ih =>
    intro j h0 hd hj
    have hjl : j.toNat < l.length := by omega
    have hw1 : wrap64 (j + 1) = j + 1 := by unfold wrap64; omega
    have hrd : rd_T53 l j = l[j.toNat] := by unfold rd_T53; rw [List.getD_eq_getElem?_getD, List.getElem?_eq_getElem hjl]; rfl
    rw [List.drop_eq_getElem_cons hjl, List.any_cons]
    refine Ev.step (fun k => by simp only [spec_l4Has.l0]; rfl) (Ev.ifp (show j < (l.length : Int) by omega) (Ev.ifp h0 ?_))
    rw [hrd, hw1]
    have ih2 := ih (j + 1) (by omega) (by omega) (by omega)
    rw [show (j + 1).toNat = j.toNat + 1 by omega] at ih2
    by_cases c : (l[j.toNat]).f0.toList = nm.toList
    · rw [show ((l[j.toNat]).f0.toList == nm.toList) = true from beq_iff_eq.mpr c, Bool.true_or]
      exact Ev.ifp c (Ev.now _)
    · rw [show ((l[j.toNat]).f0.toList == nm.toList) = false from beq_eq_false_iff_ne.mpr c, Bool.false_or]
      exact Ev.ifn c ih2
theorem ev_has (l : List (S53)) (nm : ByteArray) (hl : l.length ≤ 140737488351232) : Ev (fun k => spec_l4Has.f k l nm) (l.any fun x => x.f0.toList == nm.toList) := by
  have := has_any l nm hl l.length 0 (by omega) (by simp) (by omega)
  unfold spec_l4Has.f
  simpa using this
theorem nm_moreF {s : ByteArray} {j : Int} (h : j < (s.size : Int)) (h1 : blk (bt s j) = false) (h2 : bt s j ≠ 47) : nmF s false j j = nmF s false j (j + 1) := by
  refine nmF_go h (ovr_f h) ?_
  have : decide (j < j) = false := decide_eq_false (by omega)
  simp [inNm, h1, h2]
theorem extract_none (s : ByteArray) (a : Nat) : s.extract a a = ⟨#[]⟩ := by
  apply ByteArray.ext
  rw [ByteArray.data_extract]
  apply Array.ext'
  rw [Array.toList_extract, List.extract_eq_take_drop]
  simp
theorem ext_size (s : ByteArray) (a b : Nat) (h : b ≤ s.size) : (s.extract a b).size ≤ s.size := by rw [ByteArray.size_extract]; omega
/-- the value behind a name: its text, whether the walk goes on, where -/
theorem value_f (s : ByteArray) (ne : Int) (sa : Bool) (hm : s.size ≤ 1048576) (h0 : 0 ≤ ne) (h1 : ne ≤ s.size) :
    ∃ (t : ByteArray) (g : Bool) (q : Int), impl_tagger_value.f s ne false sa = some (t, g, s, q, false, sa) ∧ ne ≤ q ∧ q ≤ s.size ∧ t.size ≤ s.size ∧
      ((pastB s ne < (s.size : Int) ∧ bt s (pastB s ne) = 61 ∧ Ev (fun k => spec_l4Value.f k s (pastB s (pastB s ne + 1))) (t, q)) ∨ (¬ (pastB s ne < (s.size : Int) ∧ bt s (pastB s ne) = 61) ∧ t = ⟨#[]⟩ ∧ q = pastB s ne)) := by
  have hm' : s.size ≤ 140737488351232 := by omega
  unfold impl_tagger_value.f
  rw [if_pos ⟨h0, h1, hm'⟩]
  obtain ⟨c1, c2⟩ := pastB_le (s := s) _ ne rfl h1
  generalize pastB s ne = k1 at *
  by_cases c : k1 < (s.size : Int) ∧ bt s k1 = 61
  · rw [if_pos ⟨ovr_f c.1, c.2⟩]
    obtain ⟨d1, d2⟩ := pastB_le (s := s) _ (k1 + 1) rfl (by omega)
    generalize pastB s (k1 + 1) = k2 at *
    by_cases e1 : k2 < (s.size : Int)
    · have hb := bt_range s k2
      have hw : wrap64 (k2 + 1) = k2 + 1 := by unfold wrap64; omega
      rw [ovr_f e1, if_neg (by simp)]
      by_cases e2 : bt s k2 = 34 ∨ bt s k2 = 39
      · rw [if_pos e2, quoted_f s k2 false sa hm' (by omega) e1]
        have hj0 : ∀ r, Ev (fun k => spec_l4Value.j0 k s k2 true) r → Ev (fun k => spec_l4Value.f k s k2) r := by
          intro r hr
          unfold spec_l4Value.f
          refine Ev.ifp e1 (Ev.ifp (by omega) ?_)
          by_cases e3 : bt s k2 = 34
          · exact Ev.ifp e3 hr
          · have e4 : bt s k2 = 39 := e2.resolve_left e3
            rw [show (bt s k2 == 39) = true by rw [e4]; rfl]
            exact Ev.ifn e3 hr
        have hfn := ev_find s hm' (k2 + 1) (bt s k2) (by omega) (by omega)
        have hle := fnd_le (s := s) (c := bt s k2) _ (k2 + 1) rfl (by omega)
        generalize fndF s (k2 + 1) (bt s k2) = fn at *
        by_cases e5 : fn < 0
        · rw [if_pos e5]
          refine ⟨_, _, _, rfl, by omega, by omega, ext_size _ _ _ (Nat.le_refl _), .inl ⟨c.1, c.2, hj0 _ ?_⟩⟩
          refine Ev.step (fun k => by simp only [spec_l4Value.j0]; rfl) (Ev.ifp (rfl : true = true) (Ev.ifp (show 0 ≤ k2 by omega) (Ev.ifp e1 ?_)))
          rw [hw]
          exact Ev.bind hfn (Ev.ifn (show ¬ fn ≥ 0 by omega) (Ev.ifp (show 0 ≤ k2 + 1 by omega) (Ev.ifp (show k2 + 1 ≤ (s.size : Int) by omega) (Ev.now _))))
        · have hle2 := hle e5
          rw [if_neg e5]
          refine ⟨_, _, _, rfl, by omega, by omega, ext_size _ _ _ (by omega), .inl ⟨c.1, c.2, hj0 _ ?_⟩⟩
          refine Ev.step (fun k => by simp only [spec_l4Value.j0]; rfl) (Ev.ifp (rfl : true = true) (Ev.ifp (show 0 ≤ k2 by omega) (Ev.ifp e1 ?_)))
          rw [hw]
          refine Ev.bind hfn (Ev.ifp (show fn ≥ 0 by omega) (Ev.ifp (show 0 ≤ k2 + 1 by omega) (Ev.ifp (show k2 + 1 ≤ fn by omega) (Ev.ifp (show fn ≤ (s.size : Int) by omega) ?_))))
          rw [show wrap64 (fn + 1) = fn + 1 by unfold wrap64; omega]
          exact Ev.now _
      · rw [if_neg e2]
        have hpl := plF_le (s := s) (e := false) _ k2 rfl d2
        have evp := ev_plain s hm' k2 false (by omega) d2
        generalize plF s false k2 = q at *
        refine ⟨_, _, _, rfl, by omega, by omega, ext_size _ _ _ (by omega), .inl ⟨c.1, c.2, ?_⟩⟩
        unfold spec_l4Value.f
        refine Ev.ifp e1 (Ev.ifp (show 0 ≤ k2 by omega) (Ev.ifn (fun h => e2 (.inl h)) ?_))
        rw [show (bt s k2 == 39) = false from beq_eq_false_iff_ne.mpr (fun h => e2 (.inr h))]
        exact Ev.step (fun k => by simp only [spec_l4Value.j0]; rfl) (Ev.ifn (by simp) (Ev.bind evp (Ev.ifp (show 0 ≤ k2 by omega) (Ev.ifp hpl.1 (Ev.ifp hpl.2 (Ev.now _))))))
    · have ho : ovr s k2 false = true := by simp [ovr]; omega
      rw [if_pos ho]
      refine ⟨_, _, _, rfl, by omega, by omega, Nat.zero_le _, .inl ⟨c.1, c.2, ?_⟩⟩
      have evp := ev_plain s hm' k2 false (by omega) d2
      have hst : plF s false k2 = k2 := by rw [plF, if_neg e1]
      rw [hst] at evp
      unfold spec_l4Value.f
      refine Ev.ifn e1 (Ev.step (fun k => by simp only [spec_l4Value.j0]; rfl) (Ev.ifn (by simp) (Ev.bind evp (Ev.ifp (show 0 ≤ k2 by omega) (Ev.ifp (Int.le_refl _) (Ev.ifp d2 ?_))))))
      rw [extract_none]
      exact Ev.now _
  · have hn : ¬ (ovr s k1 false = false ∧ bt s k1 = 61) := fun h => c ⟨ovr_lt h.1, h.2⟩
    rw [if_neg hn]
    exact ⟨_, _, _, rfl, by omega, by omega, Nat.zero_le _, .inr ⟨c, rfl, rfl⟩⟩
end Go.Proofs.Ytlocaaebgghkbaa.A

/- Attributes: the program's Attrs and the reference's read one row of them; what is marked is held. -/
namespace Go.Proofs.Ytlocaaebgghkbaa.A
open Go.RowKit Go.Proofs.YtlocaaebgghkbaaW.PrintWords Go.Proofs.YtlocaaebgghkbaaW.PrintLast Go.Proofs.YtlocaaebgghkbaaW.PrintMore
set_option linter.unusedVariables false

theorem refsB_nil (v : Bool) : refsB ⟨#[]⟩ v = ⟨#[]⟩ := by
  unfold refsB
  rw [refsF, if_neg (show ¬ ((0 : Int) < (((⟨#[]⟩ : ByteArray).size : Nat) : Int)) by show ¬ ((0 : Int) < ((0 : Nat) : Int)); omega)]
def smallB (s : ByteArray) : ByteArray := strOfNums ((bytesOf s).map lowB)
theorem implSmall_f (s : ByteArray) (h : s.size ≤ 140737488351232) : impl_Small.f s = some (smallB s) := by unfold impl_Small.f; rw [if_pos (by omega)]; rfl
theorem specSmall_f (s : ByteArray) (h : s.size ≤ 140737488351232) : spec_Small.f s = some (smallB s) := by unfold spec_Small.f; rw [if_pos (by omega)]; rfl
theorem implHas_f (l : List (S53)) (nm : ByteArray) (hl : l.length ≤ 140737488351232) : impl_hasAttr.f l nm = some (l.any fun x => x.f0.toList == nm.toList) := by unfold impl_hasAttr.f; rw [if_pos (by omega)]
theorem attrs_both (s : ByteArray) (hm : s.size ≤ 1048576) (d : Nat) : ∀ (j j' : Int) (out : List (S53)), 0 ≤ j → j ≤ j' → j' ≤ s.size → sepF s false j' false = sepF s false j false → ((s.size : Int) - j).toNat ≤ d → (out.length : Int) ≤ j →
    ∃ R : List (S53) × Bool, Ev (fun k => attL k s j' out) R ∧ Ev (fun k => spec_Attrs.l0 k s out false j) R ∧ (R.1.length : Int) ≤ s.size := by
  have hm' : s.size ≤ 140737488351232 := by omega
  have base : ∀ (j j' : Int) (out : List (S53)), 0 ≤ j → j ≤ j' → j' ≤ s.size → sepF s false j' false = sepF s false j false → ¬ j < (s.size : Int) → (out.length : Int) ≤ j →
      ∃ R : List (S53) × Bool, Ev (fun k => attL k s j' out) R ∧ Ev (fun k => spec_Attrs.l0 k s out false j) R ∧ (R.1.length : Int) ≤ s.size := by
    intro j j' out h0 hjj hj' hsp hd hl
    refine ⟨(out, false), ?_, ?_, by simp only; omega⟩
    · refine Ev.step (fun k => by simp only [attL]; rfl) (Ev.ifp (show 0 ≤ j' ∧ j' ≤ (s.size : Int) ∧ s.size ≤ 140737488351232 from ⟨by omega, hj', hm'⟩) ?_)
      rw [sepF_stop (s := s) (e := false) (k := j') (sl := false) (.inl (by omega))]
      exact Ev.ifp (by simp [ovr]; omega) (Ev.now _)
    · exact Ev.step (fun k => by simp only [spec_Attrs.l0]; rfl) (Ev.ifn hd (Ev.now _))
  induction d with
  | zero => intro j j' out h0 hjj hj' hsp hd hl; exact base j j' out h0 hjj hj' hsp (by omega) hl
  | succ d ih =>
    intro j j' out h0 hjj hj' hsp hd hl
    by_cases hj : j < (s.size : Int)
    case neg => exact base j j' out h0 hjj hj' hsp hj hl
    have evs := ev_skip s hm' j false h0 (by omega)
    rw [sep_tf s _ j false rfl] at evs
    have hle := sepF_le (s := s) (e := false) _ j false rfl (by omega)
    have hfl := sep_flag s _ j false rfl
    have hat := sep_at (s := s) (e := false) _ j false rfl (by omega)
    have impl : ∀ R, Ev (fun n => (if ovr s (sepF s false j false).1 false = true then some (out, (sepF s false j false).2)
      else (impl_Small.f (s.extract (sepF s false j false).1.toNat (nmF s false (sepF s false j false).1 (sepF s false j false).1).toNat)).bind fun nm =>
        (impl_tagger_value.f s (nmF s false (sepF s false j false).1 (sepF s false j false).1) false (sepF s false j false).2).bind fun v =>
        (if v.2.2.1 = s ∧ v.2.2.2.2.1 = false then
          (impl_hasAttr.f out nm).bind fun b =>
            (if b = true then attL n s v.2.2.2.1 out
            else (impl_Refs.f n v.1 true).bind fun rv => (if out.length < 4398046511104 then attL n s v.2.2.2.1 (out ++ [⟨nm, rv⟩]) else none))
        else none))) R → Ev (fun k => attL k s j' out) R := by
      intro R hR
      refine Ev.step (fun k => by simp only [attL]; rfl) (Ev.ifp (show 0 ≤ j' ∧ j' ≤ (s.size : Int) ∧ s.size ≤ 140737488351232 from ⟨by omega, hj', hm'⟩) ?_)
      rw [hsp]
      exact hR
    generalize sepF s false j false = J at *
    obtain ⟨ja, sa⟩ := J
    simp only at evs hle hfl hat impl
    have hw1 : wrap64 (ja - 1) = ja - 1 := by unfold wrap64; omega
    by_cases hja : ja = s.size
    · refine ⟨(out, sa), impl _ (Ev.ifp (by simp [ovr]; omega) (Ev.now _)), ?_, by simp only; omega⟩
      rw [if_pos (by omega)] at hfl
      refine Ev.step (fun k => by simp only [spec_Attrs.l0]; rfl) (Ev.ifp hj (Ev.bind evs (Ev.ifp hja (Ev.ifp (show ja > j by omega) ?_))))
      rw [hw1, ← hfl]
      refine Ev.ifp (show 0 ≤ ja - 1 by omega) (Ev.ifp (show ja - 1 < (s.size : Int) by omega) ?_)
      exact Ev.step (fun k => by simp only [spec_Attrs.j1]; rfl) (Ev.ifp hja (Ev.now _))
    have hjl : ja < (s.size : Int) := by omega
    obtain ⟨b1, b2⟩ := hat (ovr_f hjl)
    have evn := ev_name s hm' ja false (by omega) (by omega)
    have hnl := nmF_le (s := s) (e := false) (f := ja) _ (ja + 1) rfl (by omega)
    rw [← nm_moreF hjl b1 b2] at hnl
    generalize nmF s false ja ja = ne at *
    obtain ⟨t, g, q, hv, q1, q2, tsz, hcase⟩ := value_f s ne sa hm (by omega) hnl.2
    have hnm := implSmall_f (s.extract ja.toNat ne.toNat) (by rw [ByteArray.size_extract]; omega)
    have hnm2 := specSmall_f (s.extract ja.toNat ne.toNat) (by rw [ByteArray.size_extract]; omega)
    generalize smallB (s.extract ja.toNat ne.toNat) = nm at *
    have hhas := implHas_f out nm (by omega)
    have evh := ev_has out nm (by omega)
    generalize (out.any fun x => x.f0.toList == nm.toList) = hb at *
    have evb := ev_blanks s hm' ne (by omega) hnl.2
    obtain ⟨c1, c2⟩ := pastB_le (s := s) _ ne rfl hnl.2
    have hpast := sep_past s _ ne rfl
    have ho : ¬ (ovr s ja false = true) := by rw [ovr_f hjl]; simp
    have evr := ev_implRefs t true (by omega)
    have evr2 := ev_specRefs t true (by omega)
    -- where both go on
    have next : ∀ (sj : Int) (out' : List (S53)), (sj = q ∨ (sj = ne ∧ q = pastB s ne)) → (out'.length : Int) ≤ ne →
        ∃ R : List (S53) × Bool, Ev (fun k => attL k s q out') R ∧ Ev (fun k => spec_Attrs.l0 k s out' false sj) R ∧ (R.1.length : Int) ≤ s.size := by
      intro sj out' hs' hl'
      refine ih sj q out' (by omega) (by omega) (by omega) ?_ (by omega) (by omega)
      rcases hs' with rfl | ⟨rfl, rfl⟩
      · rfl
      · exact hpast
    have im1 : ∀ R, hb = true → Ev (fun k => attL k s q out) R → Ev (fun k => attL k s j' out) R := by
      intro R hbt hR
      refine impl R (Ev.ifn ho (Ev.bindc hnm (Ev.bindc hv (Ev.ifp (show s = s ∧ false = false from ⟨rfl, rfl⟩) (Ev.bindc hhas ?_)))))
      rw [hbt]
      exact Ev.ifp (rfl : true = true) hR
    have im2 : ∀ R, hb = false → Ev (fun k => attL k s q (out ++ [⟨nm, refsB t true⟩])) R → Ev (fun k => attL k s j' out) R := by
      intro R hbt hR
      refine impl R (Ev.ifn ho (Ev.bindc hnm (Ev.bindc hv (Ev.ifp (show s = s ∧ false = false from ⟨rfl, rfl⟩) (Ev.bindc hhas ?_)))))
      rw [hbt]
      exact Ev.ifn (by simp) (Ev.bind evr (Ev.ifp (show out.length < 4398046511104 by omega) hR))
    have sp : ∀ R, Ev (fun k => spec_Attrs.j1 k s out false ja) R → Ev (fun k => spec_Attrs.l0 k s out false j) R := by
      intro R hR
      exact Ev.step (fun k => by simp only [spec_Attrs.l0]; rfl) (Ev.ifp hj (Ev.bind evs (Ev.ifn hja hR)))
    have sp2 : ∀ R, Ev (fun k => if pastB s ne < (s.size : Int) then (if 0 ≤ pastB s ne then (spec_Attrs.j2 k s out false ne (pastB s ne) ((bt s (pastB s ne)) == 61) nm (⟨#[]⟩ : ByteArray)) else (none)) else (spec_Attrs.j2 k s out false ne (pastB s ne) false nm (⟨#[]⟩ : ByteArray))) R → Ev (fun k => spec_Attrs.j1 k s out false ja) R := by
      intro R hR
      exact Ev.step (fun k => by simp only [spec_Attrs.j1]; rfl) (Ev.ifn hja (Ev.bind evn (Ev.ifp (show 0 ≤ ja by omega) (Ev.ifp (show ja ≤ ne by omega) (Ev.ifp hnl.2 (Ev.bindc hnm2 (Ev.bind evb hR)))))))
    have hlen : ((out ++ [(⟨nm, refsB t true⟩ : S53)]).length : Int) ≤ ne := by rw [List.length_append, List.length_singleton]; omega
    rcases hcase with ⟨e1, e2, evv⟩ | ⟨e1, rfl, hq⟩
    · have hw2 : wrap64 (pastB s ne + 1) = pastB s ne + 1 := by unfold wrap64; omega
      have evb2 := ev_blanks s hm' (pastB s ne + 1) (by omega) (by omega)
      have j2 : ∀ R, Ev (fun k => (if hb = true then (spec_Attrs.l0 k s out false q) else (if out.length < 4398046511104 then (spec_Attrs.l0 k s (out ++ [(⟨nm, refsB t true⟩ : S53)]) false q) else (none)))) R → Ev (fun k => spec_Attrs.l0 k s out false j) R := by
        intro R hR
        refine sp R (sp2 R (Ev.ifp e1 (Ev.ifp (show 0 ≤ pastB s ne by omega) ?_)))
        rw [show (bt s (pastB s ne) == 61) = true by rw [e2]; rfl]
        refine Ev.step (fun k => by simp only [spec_Attrs.j2]; rfl) (Ev.ifp (rfl : true = true) ?_)
        rw [hw2]
        exact Ev.bind evb2 (Ev.bind evv (Ev.bind evr2 (Ev.bind evh hR)))
      by_cases hbt : hb = true
      · obtain ⟨R, r1, r2, r3⟩ := next q out (.inl rfl) (by omega)
        exact ⟨R, im1 R hbt r1, j2 R (Ev.ifp hbt r2), r3⟩
      · obtain ⟨R, r1, r2, r3⟩ := next q _ (.inl rfl) hlen
        exact ⟨R, im2 R (Bool.eq_false_iff.mpr hbt) r1, j2 R (Ev.ifn hbt (Ev.ifp (show out.length < 4398046511104 by omega) r2)), r3⟩
    · rw [refsB_nil] at hlen im2
      have j2 : ∀ R, Ev (fun k => (if hb = true then (spec_Attrs.l0 k s out false ne) else (if out.length < 4398046511104 then (spec_Attrs.l0 k s (out ++ [(⟨nm, ⟨#[]⟩⟩ : S53)]) false ne) else (none)))) R → Ev (fun k => spec_Attrs.l0 k s out false j) R := by
        intro R hR
        have jj : Ev (fun k => spec_Attrs.j2 k s out false ne (pastB s ne) false nm (⟨#[]⟩ : ByteArray)) R :=
          Ev.step (fun k => by simp only [spec_Attrs.j2]; rfl) (Ev.ifn (by simp) (Ev.bind evh hR))
        refine sp R (sp2 R ?_)
        by_cases hk : pastB s ne < (s.size : Int)
        · refine Ev.ifp hk (Ev.ifp (show 0 ≤ pastB s ne by omega) ?_)
          rw [show (bt s (pastB s ne) == 61) = false from beq_eq_false_iff_ne.mpr (fun h => e1 ⟨hk, h⟩)]
          exact jj
        · exact Ev.ifn hk jj
      by_cases hbt : hb = true
      · obtain ⟨R, r1, r2, r3⟩ := next ne out (.inr ⟨rfl, hq⟩) (by omega)
        exact ⟨R, im1 R hbt r1, j2 R (Ev.ifp hbt r2), r3⟩
      · obtain ⟨R, r1, r2, r3⟩ := next ne _ (.inr ⟨rfl, hq⟩) hlen
        exact ⟨R, im2 R (Bool.eq_false_iff.mpr hbt) r1, j2 R (Ev.ifn hbt (Ev.ifp (show out.length < 4398046511104 by omega) r2)), r3⟩
theorem Attrs_both (s : ByteArray) (hm : s.size ≤ 1048576) : ∃ R : List (S53) × Bool, Ev (fun k => impl_Attrs.f k s) R ∧ Ev (fun k => spec_Attrs.f k s) R ∧ (R.1.length : Int) ≤ s.size :=
  attrs_both s hm s.size 0 0 [] (by omega) (by omega) (by omega) rfl (by omega) (by simp)
end Go.Proofs.Ytlocaaebgghkbaa.A

/- The laws' own small functions: rows of attributes compared, marked and held. -/
namespace Go.Proofs.Ytlocaaebgghkbaa.A
open Go.RowKit Go.Proofs.YtlocaaebgghkbaaW.PrintWords Go.Proofs.YtlocaaebgghkbaaW.PrintLast Go.Proofs.YtlocaaebgghkbaaW.PrintMore
set_option linter.unusedVariables false

theorem rdAttr_at (L : List (S53)) (j : Int) (h : j.toNat < L.length) : rd_T53 L j = L[j.toNat] := by
  unfold rd_T53; rw [List.getD_eq_getElem?_getD, List.getElem?_eq_getElem h]; rfl
theorem eqAttr_self (L : List (S53)) (hl : L.length ≤ 140737488351232) (d : Nat) : ∀ (j : Int), 0 ≤ j → L.length - j.toNat = d → j ≤ L.length → Ev (fun k => laws_eqAttrS.l0 k L L j) true := by
  induction d with
  | zero =>
    intro j h0 hd hj
    exact Ev.step (fun k => by simp only [laws_eqAttrS.l0]; rfl) (Ev.ifn (show ¬ j < (L.length : Int) by omega) (Ev.now _))
  | succ d ih =>
    intro j h0 hd hj
    have hw1 : wrap64 (j + 1) = j + 1 := by unfold wrap64; omega
    refine Ev.step (fun k => by simp only [laws_eqAttrS.l0]; rfl) (Ev.ifp (show j < (L.length : Int) by omega) (Ev.ifp h0 (Ev.ifp (show j < (L.length : Int) by omega) (Ev.bindc (a := true) ?_ (Ev.ifp (rfl : true = true) ?_)))))
    · unfold laws_eqAttr.f; rw [if_pos rfl, if_pos rfl]
    · rw [hw1]; exact ih (j + 1) (by omega) (by omega) (by omega)
theorem ev_eqAttrS (L : List (S53)) (hl : L.length ≤ 140737488351232) : Ev (fun k => laws_eqAttrS.f k L L) true := by
  unfold laws_eqAttrS.f
  exact Ev.ifp rfl (eqAttr_self L hl L.length 0 (by omega) (by simp) (by omega))
theorem markText_l (d : Nat) : ∀ (n : Int) (x : ByteArray), 0 ≤ n → n ≤ d → d ≤ 1000000000 → x.size + d ≤ 2000000000 → ∃ t, Ev (fun k => laws_markText.l0 k n x) t := by
  induction d with
  | zero =>
    intro n x h0 hd hb hx
    exact ⟨_, Ev.step (fun k => by simp only [laws_markText.l0]; rfl) (Ev.ifn (show ¬ n > 0 by omega) (Ev.ifp (show 1 + x.size ≤ 9223372036854775807 by omega) (Ev.now _)))⟩
  | succ d ih =>
    intro n x h0 hd hb hx
    by_cases hn : n > 0
    · have hw : wrap64 (Int.tdiv n 10) = n / 10 := by
        rw [Int.tdiv_eq_ediv_of_nonneg h0]
        unfold wrap64; omega
      have h1 : (strOfNums [(wrap64 (48 + (Int.tmod n 10))) % 256]).size = 1 := rfl
      obtain ⟨t, ht⟩ := ih (n / 10) (strOfNums [(wrap64 (48 + (Int.tmod n 10))) % 256] ++ x) (by omega) (by omega) (by omega) (by rw [ByteArray.size_append, h1]; omega)
      refine ⟨t, Ev.step (fun k => by simp only [laws_markText.l0]; rfl) (Ev.ifp hn (Ev.bindc rfl (Ev.ifp (show (strOfNums [(wrap64 (48 + (Int.tmod n 10))) % 256]).size + x.size ≤ 9223372036854775807 by rw [h1]; omega) ?_)))⟩
      rw [hw]
      exact ht
    · exact ⟨_, Ev.step (fun k => by simp only [laws_markText.l0]; rfl) (Ev.ifn hn (Ev.ifp (show 1 + x.size ≤ 9223372036854775807 by omega) (Ev.now _)))⟩
theorem markText_ex (n : Int) : ∃ t, (n ≤ 1000000000 → Ev (fun k => laws_markText.f k n) t) := by
  by_cases h : n ≤ 1000000000
  · by_cases h0 : n ≤ 0
    · refine ⟨(⟨#[109, 48]⟩ : ByteArray), fun _ => ?_⟩
      unfold laws_markText.f
      exact Ev.ifp h0 (Ev.now _)
    · obtain ⟨t, ht⟩ := markText_l n.toNat n ⟨#[]⟩ (by omega) (by omega) (by omega) (by show 0 + n.toNat ≤ 2000000000; omega)
      refine ⟨t, fun _ => ?_⟩
      unfold laws_markText.f
      exact Ev.ifn h0 ht
  · exact ⟨⟨#[]⟩, fun hh => absurd hh h⟩
/-- the mark of a number -/
noncomputable def mkT (n : Int) : ByteArray := Classical.choose (markText_ex n)
theorem ev_mark (n : Int) (h : n ≤ 1000000000) : Ev (fun k => laws_markText.f k n) (mkT n) := Classical.choose_spec (markText_ex n) h
def Marked (c : Int) (L : List (S53)) (j : Nat) : Prop := ∀ i (h : i < L.length), i < j → L[i] = ⟨mkT (c + 2 * i), mkT (c + 2 * i + 1)⟩
theorem markAttr_l (c : Int) (hc : 0 ≤ c) (hc1 : c ≤ 100000000) (d : Nat) : ∀ (j : Int) (L : List (S53)), L.length ≤ 100000000 → 0 ≤ j → L.length - j.toNat = d → j ≤ L.length → Marked c L j.toNat →
    ∃ M : List (S53), M.length = L.length ∧ Marked c M M.length ∧ Ev (fun k => laws_markAttrS.l0 k L (c + 2 * j) j) (c + 2 * L.length, M) := by
  induction d with
  | zero =>
    intro j L hl h0 hd hj hM
    have : j = L.length := by omega
    refine ⟨L, rfl, fun i h _ => hM i h (by omega), ?_⟩
    rw [this]
    exact Ev.step (fun k => by simp only [laws_markAttrS.l0]; rfl) (Ev.ifn (by omega) (Ev.now _))
  | succ d ih =>
    intro j L hl h0 hd hj hM
    have hjl : j.toNat < L.length := by omega
    have hw1 : wrap64 (c + 2 * j + 1) = c + 2 * j + 1 := by unfold wrap64; omega
    have hw2 : wrap64 (c + 2 * j + 1 + 1) = c + 2 * (j + 1) := by unfold wrap64; omega
    have hw3 : wrap64 (j + 1) = j + 1 := by unfold wrap64; omega
    let L1 := L.set j.toNat ⟨mkT (c + 2 * j), (rd_T53 L j).f1⟩
    let L2 := L1.set j.toNat ⟨(rd_T53 L1 j).f0, mkT (c + 2 * j + 1)⟩
    have l1 : L1.length = L.length := List.length_set
    have l2 : L2.length = L.length := by rw [← l1]; exact List.length_set
    have hf0 : (rd_T53 L1 j).f0 = mkT (c + 2 * j) := by
      rw [rdAttr_at L1 j (by omega)]
      show (L.set j.toNat _)[j.toNat].f0 = _
      rw [List.getElem_set_self]
    have hM2 : Marked c L2 (j + 1).toNat := by
      intro i h hi
      by_cases hij : i = j.toNat
      · subst hij
        show (L1.set j.toNat _)[j.toNat] = _
        rw [List.getElem_set_self, hf0, show ((j.toNat : Nat) : Int) = j by omega]
      · show (L1.set j.toNat _)[i] = _
        rw [List.getElem_set_ne (by omega)]
        show (L.set j.toNat _)[i] = _
        rw [List.getElem_set_ne (by omega)]
        exact hM i (by omega) (by omega)
    obtain ⟨M, m1, m2, m3⟩ := ih (j + 1) L2 (by omega) (by omega) (by omega) (by omega) hM2
    refine ⟨M, by omega, m2, ?_⟩
    rw [l2] at m3
    refine Ev.step (fun k => by simp only [laws_markAttrS.l0]; rfl) (Ev.ifp (show j < (L.length : Int) by omega) (Ev.bind (ev_mark (c + 2 * j) (by omega)) (Ev.ifp h0 (Ev.bindc (a := L1) rfl ?_))))
    rw [hw1]
    refine Ev.bind (ev_mark (c + 2 * j + 1) (by omega)) ?_
    rw [hw2, hw3]
    exact m3
theorem heldAttr_l (c : Int) (hc : 0 ≤ c) (hc1 : c ≤ 100000000) (L : List (S53)) (hl : L.length ≤ 100000000) (hM : Marked c L L.length) (d : Nat) : ∀ (j : Int), 0 ≤ j → L.length - j.toNat = d → j ≤ L.length →
    Ev (fun k => laws_heldAttrS.l0 k L (c + 2 * j) j) (c + 2 * L.length) := by
  induction d with
  | zero =>
    intro j h0 hd hj
    have : j = L.length := by omega
    rw [this]
    exact Ev.step (fun k => by simp only [laws_heldAttrS.l0]; rfl) (Ev.ifn (by omega) (Ev.now _))
  | succ d ih =>
    intro j h0 hd hj
    have hjl : j.toNat < L.length := by omega
    have hw1 : wrap64 (c + 2 * j + 1) = c + 2 * j + 1 := by unfold wrap64; omega
    have hw2 : wrap64 (c + 2 * j + 1 + 1) = c + 2 * (j + 1) := by unfold wrap64; omega
    have hw3 : wrap64 (j + 1) = j + 1 := by unfold wrap64; omega
    have hx := hM j.toNat hjl hjl
    rw [show ((j.toNat : Nat) : Int) = j by omega] at hx
    refine Ev.step (fun k => by simp only [laws_heldAttrS.l0]; rfl) (Ev.ifp (show j < (L.length : Int) by omega) (Ev.ifp h0 (Ev.bind (ev_mark (c + 2 * j) (by omega)) ?_)))
    rw [rdAttr_at L j hjl, hx, hw1]
    refine Ev.ifp rfl (Ev.bind (ev_mark (c + 2 * j + 1) (by omega)) (Ev.ifp rfl ?_))
    rw [hw2, hw3]
    exact ih (j + 1) (by omega) (by omega) (by omega)
theorem mark_held (L : List (S53)) (hl : L.length ≤ 100000000) :
    ∃ M : List (S53), Ev (fun k => laws_markAttrS.f k L 1) (1 + 2 * L.length, M) ∧ Ev (fun k => laws_heldAttrS.f k M 1) (1 + 2 * L.length) := by
  obtain ⟨M, m1, m2, m3⟩ := markAttr_l 1 (by omega) (by omega) L.length 0 L hl (by omega) (by simp) (by omega) (fun i h hi => by simp at hi)
  have h := heldAttr_l 1 (by omega) (by omega) M (by omega) m2 M.length 0 (by omega) (by simp) (by omega)
  rw [m1] at h
  refine ⟨M, ?_, ?_⟩
  · unfold laws_markAttrS.f; simpa using m3
  · unfold laws_heldAttrS.f; simpa using h
end Go.Proofs.Ytlocaaebgghkbaa.A

/- FnExactAttrs holds for every text. -/
namespace Go.Proofs.Ytlocaaebgghkbaa.Pure
open Go.RowKit Go.Proofs.Ytlocaaebgghkbaa.A Go.Proofs.YtlocaaebgghkbaaW.PrintWords Go.Proofs.YtlocaaebgghkbaaW.PrintLast

theorem FnExactAttrs : laws_FnExactAttrs.Pure := by
  intro s hs
  refine Ev.rounds ?_
  unfold laws_FnExactAttrs.f
  by_cases hb : (s.size : Int) > 1048576
  · exact Ev.ifp hb (Ev.now _)
  · obtain ⟨R, e1, e2, hlen⟩ := Attrs_both s (by omega)
    obtain ⟨M, m1, m2⟩ := mark_held R.1 (by omega)
    have eq := ev_eqAttrS R.1 (by omega)
    have hne : (R.2 != R.2) = false := by cases R.2 <;> rfl
    refine Ev.ifn hb (Ev.bind e2 (Ev.bind e1 (Ev.bind eq (Ev.ifp (rfl : true = true) ?_))))
    rw [hne]
    refine Ev.step (fun k => by simp only [laws_FnExactAttrs.j0]; rfl) (Ev.ifn (by simp) (Ev.bind m1 (Ev.bind m2 (Ev.ifn (show ¬ (1 + 2 * (R.1.length : Int)) < 0 by omega) (Ev.ifp rfl (Ev.bind e1 (Ev.bind eq (Ev.ifp (rfl : true = true) ?_))))))))
    rw [hne]
    refine Ev.step (fun k => by simp only [laws_FnExactAttrs.j1]; rfl) (Ev.ifn (by simp) (Ev.bind m2 (Ev.ifn (show ¬ (1 + 2 * (R.1.length : Int)) < 0 by omega) (Ev.ifp rfl (Ev.now _)))))

end Go.Proofs.Ytlocaaebgghkbaa.Pure
