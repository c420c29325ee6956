-- joined by wip/tools/shake.py
import Derived.Test.YtkbbfeckieckoaaGreatDoorVScW9
import Derived.Test.YtkbbfeckieckoaaGreatDoorMSc2
import Derived.Test.YtkbbfeckieckoaaGreatDoorMSc3
import Derived.Test.YtkbbfeckieckoaaGreatDoorMSc6
import Derived.Lib.IndexLaws
import Derived.Test.YtkbbfeckieckoaaGreatDoorMSc0
import Derived.Laws.Bits128
import Derived.Test.YtkbbfeckieckoaaGreatDoorMSc5
import Derived.Laws.Strings
import Derived.Test.YtkbbfeckieckoaaGreatDoorMSc7
import Derived.Test.YtkbbfeckieckoaaGreatDoorMSc8
import Derived.Test.YtkbbfeckieckoaaGreatDoorMSc4
import Derived.Test.YtkbbfeckieckoaaGreatDoorMSc9
import Derived.Lib.IndexMore
import Derived.Lib.SplitLaws
import Derived.Lib.ReplaceLaws
set_option maxHeartbeats 16000000
set_option maxRecDepth 100000
namespace Go.Proofs.YtkbbfeckieckoaaGreatDoor.A
open Go.RowKit Go.Proofs.YtkbbfeckieckoaaGreatDoorW.PrintWords Go.Proofs.YtkbbfeckieckoaaGreatDoorW.PrintLast Go.Proofs.YtkbbfeckieckoaaGreatDoorW.PrintMore
set_option linter.unusedVariables false
theorem w1 {i : Int} {n : Nat} (h0 : 0 ≤ i) (h1 : i ≤ (n : Int)) (hm : n ≤ 140737488351232) : wrap64 (i + 1) = i + 1 := by unfold wrap64; omega
theorem l4Blank_f (c : Int) (h0 : 0 ≤ c) (h1 : c ≤ 255) : spec_l4Blank.f c = some (blk c) := by
 have hw : wrap64 c = c := by unfold wrap64; omega
 unfold spec_l4Blank.f spec_IsBlank.f blk;rw [hw];by_cases a1 : c = 9
 ·simp [a1]
 by_cases a2 : c = 10
 ·simp [a2]
 by_cases a3 : c = 12
 ·simp [a3]
 by_cases a4 : c = 13
 ·simp [a4]
 simp [a1, a2, a3, a4]
theorem l4Blanks_l (s : BA) (hm : s.size ≤ 140737488351232) (d : Nat) : ∀ (k : Nat) (i : Int), 0 ≤ i → i ≤ s.size → ((s.size : Int) - i).toNat = d → d < k → spec_l4Blanks.l0 k s i = some (pastB s i) := by
 induction d with
 | zero =>
  intro k i h0 h1 hd hk;obtain ⟨k, rfl⟩ : ∃ m, k = m + 1 := ⟨k - 1, om_⟩;simp only [spec_l4Blanks.l0];rw [if_neg om_, pastB_stop (.inl om_)]
 | succ d ih =>
  intro k i h0 h1 hd hk;obtain ⟨k, rfl⟩ : ∃ m, k = m + 1 := ⟨k - 1, om_⟩;have hr := bt_range s i;simp only [spec_l4Blanks.l0];rw [if_pos om_, if_pos h0, l4Blank_f _ hr.1 hr.2];simp only [Option.bind_some];by_cases c1 : blk (bt s i) = true
  ·rw [if_pos c1, w1 h0 h1 hm, pastB_go om_ c1];exact ih k (i + 1) om_ om_ om_ om_
  ·rw [if_neg c1, pastB_stop (.inr (by simpa using c1))]
theorem l4Skip_l (s : BA) (hm : s.size ≤ 140737488351232) (d : Nat) : ∀ (k : Nat) (i : Int) (b : Bool), 0 ≤ i → i ≤ s.size → ((s.size : Int) - i).toNat = d → d < k → spec_l4Skip.l0 k s i = some (sepF s true i b).1 := by
 induction d with
 | zero =>
  intro k i b h0 h1 hd hk;obtain ⟨k, rfl⟩ : ∃ m, k = m + 1 := ⟨k - 1, om_⟩;simp only [spec_l4Skip.l0];rw [if_neg om_, sepF_stop (.inl om_)]
 | succ d ih =>
  intro k i b h0 h1 hd hk;obtain ⟨k, rfl⟩ : ∃ m, k = m + 1 := ⟨k - 1, om_⟩;have hr := bt_range s i;have hlt : i < (s.size : Int) := om_;simp only [spec_l4Skip.l0];rw [if_pos hlt, if_pos h0, l4Blank_f _ hr.1 hr.2];simp only [Option.bind_some];by_cases c1 : blk (bt s i) = true
  ·have ho : ovr s i true = false := by
    have : bt s i ≠ 62 := fun h => by rw [h] at c1; exact absurd c1 de_
    simp [ovr, this]; omega
   rw [if_pos c1, w1 h0 h1 hm, sepF_go hlt ho (.inl c1)];exact ih k (i + 1) _ om_ om_ om_ om_
  rw [if_neg c1];by_cases c2 : bt s i = 47
  ·have ho : ovr s i true = false := by simp [ovr, c2]; omega
   rw [if_pos c2, w1 h0 h1 hm, sepF_go hlt ho (.inr c2)];exact ih k (i + 1) _ om_ om_ om_ om_
  ·rw [if_neg c2, sepF_stop (.inr (fun h => h.2.elim c1 c2))]
theorem l4Name_l (s : BA) (f : Int) (e : Bool) (hm : s.size ≤ 140737488351232) (d : Nat) : ∀ (k : Nat) (i : Int), 0 ≤ i → f ≤ i → i ≤ s.size → ((s.size : Int) - i).toNat = d → d < k → spec_l4Name.l0 k s f e i = some (nmF s e f i) := by
 induction d with
 | zero =>
  intro k i h0 hf h1 hd hk;obtain ⟨k, rfl⟩ : ∃ m, k = m + 1 := ⟨k - 1, om_⟩;simp only [spec_l4Name.l0];rw [if_neg om_, nmF_stop (.inl om_)]
 | succ d ih =>
  intro k i h0 hf h1 hd hk;obtain ⟨k, rfl⟩ : ∃ m, k = m + 1 := ⟨k - 1, om_⟩;have hr := bt_range s i;have hlt : i < (s.size : Int) := om_;simp only [spec_l4Name.l0];rw [if_pos hlt, if_pos h0, l4Blank_f _ hr.1 hr.2];simp only [Option.bind_some];have goon : ovr s i e = false → inNm s f i = true → spec_l4Name.l0 k s f e (wrap64 (i + 1)) = some (nmF s e f i) := fun ho hi => by
   rw [w1 h0 h1 hm, nmF_go hlt ho hi]; exact ih k (i + 1) om_ om_ om_ om_ om_
  by_cases c1 : blk (bt s i) = true
  ·rw [if_pos c1, nmF_stop (.inr (by simp [inNm, c1]))]
  rw [if_neg c1];have c1' : blk (bt s i) = false := by simpa using c1
  by_cases c2 : bt s i = 47
  ·rw [if_pos c2, nmF_stop (.inr (by simp [inNm, c2]))]
  rw [if_neg c2];have hov : ∀ b, e = b → ovr s i e = (b && bt s i == 62) := fun b hb => by
   have : decide ((s.size : Int) ≤ i) = false := dF_ om_;subst hb; simp only [ovr, this, Bool.false_or]
  by_cases c3 : bt s i = 61
  ·rw [if_pos c3];have h62 : ¬ ((bt s i) = 62) := om_;have ho : ovr s i e = false := by rw [hov e rfl]; simp [c3]
   by_cases c4 : i = f
   ·have hi : inNm s f i = true := by
     have : decide (f < i) = false := dF_ om_;simp only [inNm, c1', c3, this]; rfl
    rw [if_pos c4];cases e
    ·rw [if_neg si_]; exact goon ho hi
    ·rw [if_pos rfl, if_neg h62]; exact goon ho hi
   ·rw [if_neg c4, nmF_stop (.inr (fun h => by
     have : decide (f < i) = true := dE_ om_;have h2 := h.2;simp only [inNm, c1', c3, this] at h2;exact absurd h2 de_))]
  ·rw [if_neg c3];have hi : inNm s f i = true := by simp [inNm, c1', c2, c3]
   cases e
   ·rw [if_neg si_]; exact goon (by rw [hov false rfl]; rfl) hi
   ·rw [if_pos rfl];by_cases h62 : bt s i = 62
    ·rw [if_pos h62, nmF_stop (.inr (fun h => by have h1 := h.1; rw [hov true rfl, h62] at h1; exact absurd h1 de_))]
    ·rw [if_neg h62]; exact goon (by rw [hov true rfl]; simp [h62]) hi
theorem l4Plain_l (s : BA) (e : Bool) (hm : s.size ≤ 140737488351232) (d : Nat) : ∀ (k : Nat) (i : Int), 0 ≤ i → i ≤ s.size → ((s.size : Int) - i).toNat = d → d < k → spec_l4Plain.l0 k s i e = some (plF s e i) := by
 induction d with
 | zero =>
  intro k i h0 h1 hd hk;obtain ⟨k, rfl⟩ : ∃ m, k = m + 1 := ⟨k - 1, om_⟩;simp only [spec_l4Plain.l0];rw [if_neg om_, plF_stop (fun h => by have := ovr_lt h.1; omega)]
 | succ d ih =>
  intro k i h0 h1 hd hk;obtain ⟨k, rfl⟩ : ∃ m, k = m + 1 := ⟨k - 1, om_⟩;have hr := bt_range s i;have hlt : i < (s.size : Int) := om_;simp only [spec_l4Plain.l0];rw [if_pos hlt, if_pos h0, l4Blank_f _ hr.1 hr.2];simp only [Option.bind_some];have hd0 : decide ((s.size : Int) ≤ i) = false := dF_ om_;by_cases c1 : blk (bt s i) = true
  ·rw [if_pos c1, plF_stop (by rw [c1]; simp)]
  rw [if_neg c1];have c1' : blk (bt s i) = false := by simpa using c1
  cases e
  ·have ho : ovr s i false = false := by simp only [ovr, hd0]; rfl
   rw [if_neg si_, w1 h0 h1 hm, plF_go hlt ho c1'];exact ih k (i + 1) om_ om_ om_ om_
  ·rw [if_pos rfl];by_cases h62 : bt s i = 62
   ·rw [if_pos h62, plF_stop (fun h => by have h1 := h.1; simp only [ovr, hd0, h62] at h1; exact absurd h1 de_)]
   ·have ho : ovr s i true = false := by simp [ovr, hd0, h62]
    rw [if_neg h62, w1 h0 h1 hm, plF_go hlt ho c1'];exact ih k (i + 1) om_ om_ om_ om_
def fndF (s : BA) (i c : Int) : Int :=
 if i < (s.size : Int) then if bt s i = c then i else fndF s (i + 1) c else -1
termination_by ((s.size : Int) - i).toNat
decreasing_by omega
theorem l4Find_l (s : BA) (c : Int) (hm : s.size ≤ 140737488351232) (d : Nat) : ∀ (k : Nat) (i : Int), 0 ≤ i → i ≤ s.size → ((s.size : Int) - i).toNat = d → d < k → spec_l4Find.l0 k s i c = some (fndF s i c) := by
 induction d with
 | zero =>
  intro k i h0 h1 hd hk;obtain ⟨k, rfl⟩ : ∃ m, k = m + 1 := ⟨k - 1, om_⟩;simp only [spec_l4Find.l0];rw [if_neg om_, fndF, if_neg om_]
 | succ d ih =>
  intro k i h0 h1 hd hk;obtain ⟨k, rfl⟩ : ∃ m, k = m + 1 := ⟨k - 1, om_⟩;have hlt : i < (s.size : Int) := om_;simp only [spec_l4Find.l0];rw [if_pos hlt, if_pos h0, fndF, if_pos hlt];by_cases c1 : bt s i = c
  ·rw [if_pos c1, if_pos c1]
  ·rw [if_neg c1, if_neg c1, w1 h0 h1 hm];exact ih k (i + 1) om_ om_ om_ om_
theorem extract_list (s : BA) (a b : Nat) : (s.extract a b).data.toList = (s.data.toList.drop a).take (b - a) := by
 rw [ByteArray.data_extract, Array.toList_extract, List.extract_eq_take_drop]
theorem extract_end (s : BA) (a : Nat) : (s.extract a s.size).data.toList = s.data.toList.drop a := by
 rw [extract_list, List.take_of_length_le (by rw [List.length_drop, data_length]; omega)]
theorem drop_cons (s : BA) (i : Nat) (h : i < s.size) : s.data.toList.drop i = s[i] :: s.data.toList.drop (i + 1) := by
 have h' : i < s.data.toList.length := by rw [data_length]; exact h
 rw [List.drop_eq_getElem_cons h'];rfl
theorem fnd_ix (s : BA) (c : Int) (hc0 : 0 ≤ c) (hc1 : c ≤ 255) (d : Nat) : ∀ (i : Int), 0 ≤ i → i ≤ s.size → ((s.size : Int) - i).toNat = d →
  fndF s i c = if Lib.indexByte (s.data.toList.drop i.toNat) c.toNat.toUInt8 < 0 then -1 else i + Lib.indexByte (s.data.toList.drop i.toNat) c.toNat.toUInt8 := by
 induction d with
 | zero =>
  intro i h0 h1 hd;rw [fndF, if_neg om_, List.drop_of_length_le (by rw [data_length]; omega)];rfl
 | succ d ih =>
  intro i h0 h1 hd;have hlt : i < (s.size : Int) := om_;have hn : i.toNat < s.size := om_;have hb := bt_at s i hn;rw [fndF, if_pos hlt, drop_cons s i.toNat hn];have e1 : (i + 1).toNat = i.toNat + 1 := om_;have ih1 := ih (i + 1) om_ om_ om_;rw [e1] at ih1;have hge := Lib.indexByte_ge (s.data.toList.drop (i.toNat + 1)) c.toNat.toUInt8;generalize hx : Lib.indexByte (s.data.toList.drop (i.toNat + 1)) c.toNat.toUInt8 = x at *;have hcc : (c.toNat.toUInt8.toNat : Int) = c := by
   have : c.toNat.toUInt8.toNat = c.toNat := by simp; omega
   omega
  unfold Lib.indexByte;by_cases h : bt s i = c
  ·have hs : s[i.toNat] = c.toNat.toUInt8 := by
    apply UInt8.toNat_inj.mp
    have h9 : (s[i.toNat].toNat : Int) = c.toNat.toUInt8.toNat := by rw [hcc, ← h]; exact hb
    exact Int.ofNat.inj h9
   rw [if_pos h, hs]; simp
  ·have hs : ¬ s[i.toNat] = c.toNat.toUInt8 := fun he => h (by rw [← hb, he, hcc])
   rw [if_neg h, ih1, hx];simp only [beq_iff_eq, if_neg hs];by_cases hm1 : x = -1
   ·subst hm1; simp
   ·rw [if_neg hm1, if_neg om_, if_neg om_]; omega
theorem nm_more {s : BA} {j : Int} (h : j < (s.size : Int)) (ho : ovr s j true = false) (h1 : blk (bt s j) = false) (h2 : bt s j ≠ 47) : nmF s true j j = nmF s true j (j + 1) := by
 refine nmF_go h ho ?_;have : decide (j < j) = false := dF_ om_;simp [inNm, h1, h2]
theorem nmF_le {s : BA} {e : Bool} {f : Int} : ∀ (d : Nat) (k : Int), ((s.size : Int) - k).toNat = d → k ≤ s.size → k ≤ nmF s e f k ∧ nmF s e f k ≤ s.size := by
 intro d;induction d with
 | zero => intro k hd hk; rw [nmF_stop (.inl om_)]; omega
 | succ d ih =>
  intro k hd hk;by_cases h : ovr s k e = false ∧ inNm s f k = true
  ·rw [nmF_go om_ h.1 h.2];have := ih (k + 1) om_ om_;omega
  ·rw [nmF_stop (.inr h)]; omega
theorem plF_le {s : BA} {e : Bool} : ∀ (d : Nat) (k : Int), ((s.size : Int) - k).toNat = d → k ≤ s.size → k ≤ plF s e k ∧ plF s e k ≤ s.size := by
 intro d;induction d with
 | zero => intro k hd hk; rw [plF_stop (fun h => by have := ovr_lt h.1; omega)]; omega
 | succ d ih =>
  intro k hd hk;by_cases h : ovr s k e = false ∧ blk (bt s k) = false
  ·rw [plF_go om_ h.1 h.2];have := ih (k + 1) om_ om_;omega
  ·rw [plF_stop h]; omega
theorem sep_at {s : BA} {e : Bool} : ∀ (d : Nat) (k : Int) (sl : Bool), ((s.size : Int) - k).toNat = d → k ≤ s.size → ovr s (sepF s e k sl).1 e = false → blk (bt s (sepF s e k sl).1) = false ∧ bt s (sepF s e k sl).1 ≠ 47 := by
 intro d;induction d with
 | zero => intro k sl hd hk ho; rw [sepF_stop (.inl om_)] at ho; have := ovr_lt ho; simp only at this; omega
 | succ d ih =>
  intro k sl hd hk ho;by_cases h : ovr s k e = false ∧ (blk (bt s k) = true ∨ bt s k = 47)
  ·rw [sepF_go om_ h.1 h.2] at ho ⊢;exact ih _ _ om_ om_ ho
  ·rw [sepF_stop (.inr h)] at ho ⊢;simp only at ho ⊢;exact ⟨by cases hb : blk (bt s k) with
    | false => rfl
    | true => exact absurd ⟨ho, .inl hb⟩ h, fun he => h ⟨ho, .inr he⟩⟩
theorem quoted_f (s : BA) (k : Int) (e sl : Bool) (hm : s.size ≤ 140737488351232) (h0 : 0 ≤ k) (h1 : k < (s.size : Int)) :
  impl_tagger_quoted.f s k e sl = if fndF s (k + 1) (bt s k) < 0 then some (s.extract (k + 1).toNat s.size, false, s, (s.size : Int), e, sl)
   else some (s.extract (k + 1).toNat (fndF s (k + 1) (bt s k)).toNat, true, s, fndF s (k + 1) (bt s k) + 1, e, sl) := by
 have hw := w1 (n := s.size) h0 om_ hm;have hr := bt_range s k;unfold impl_tagger_quoted.f strings_IndexByte.f;rw [hw, if_pos h0, if_pos h1, if_pos om_, if_pos om_, extract_end];simp only [Option.bind_some];have hf := fnd_ix s (bt s k) hr.1 hr.2 _ (k + 1) om_ om_ rfl;have hub : Lib.indexByte (s.data.toList.drop (k + 1).toNat) (bt s k).toNat.toUInt8 < 0 ∨ (k + 1) + Lib.indexByte (s.data.toList.drop (k + 1).toNat) (bt s k).toNat.toUInt8 < s.size := by
  by_cases hn : Lib.indexByte (s.data.toList.drop (k + 1).toNat) (bt s k).toNat.toUInt8 < 0
  ·exact .inl hn
  ·obtain ⟨o, ho⟩ : ∃ o : Nat, Lib.indexByte (s.data.toList.drop (k + 1).toNat) (bt s k).toNat.toUInt8 = o := ⟨_, (Int.toNat_of_nonneg om_).symm⟩;have h9 := (Lib.indexByte_some ho).1;have h8 : o < (s.data.toList.drop (k + 1).toNat).length := by
    rcases Nat.lt_or_ge o (s.data.toList.drop (k + 1).toNat).length with h | h
    ·exact h
    ·rw [List.getElem?_eq_none h] at h9; cases h9
   rw [List.length_drop, data_length] at h8;right; rw [ho]; omega
 generalize Lib.indexByte (s.data.toList.drop (k + 1).toNat) (bt s k).toNat.toUInt8 = x at *;by_cases hx : x < 0
 ·rw [if_pos hx] at hf;rw [if_pos hx, hf, if_pos om_]
 ·rw [if_neg hx] at hf;have h7 := hub.resolve_left hx;have e1 : wrap64 (k + 1 + x) = k + 1 + x := by unfold wrap64; omega
  have e2 : wrap64 (k + 1 + x + 1) = k + 1 + x + 1 := by unfold wrap64; omega
  rw [if_neg hx, hf, e1, e2, if_pos om_, if_pos om_, if_neg om_]
theorem ev_skip (s : BA) (hm : s.size ≤ 140737488351232) (i : Int) (b : Bool) (h0 : 0 ≤ i) (h1 : i ≤ s.size) : Ev (fun k => spec_l4Skip.f k s i) (sepF s true i b).1 :=
 Ev.of (spec_l4Skip.mono s i) (k := ((s.size : Int) - i).toNat + 1) (l4Skip_l s hm _ _ i b h0 h1 rfl (Nat.lt_succ_self _))
theorem ev_blanks (s : BA) (hm : s.size ≤ 140737488351232) (i : Int) (h0 : 0 ≤ i) (h1 : i ≤ s.size) : Ev (fun k => spec_l4Blanks.f k s i) (pastB s i) :=
 Ev.of (spec_l4Blanks.mono s i) (k := ((s.size : Int) - i).toNat + 1) (l4Blanks_l s hm _ _ i h0 h1 rfl (Nat.lt_succ_self _))
theorem ev_name (s : BA) (hm : s.size ≤ 140737488351232) (i : Int) (e : Bool) (h0 : 0 ≤ i) (h1 : i ≤ s.size) : Ev (fun k => spec_l4Name.f k s i e) (nmF s e i i) :=
 Ev.of (spec_l4Name.mono s i e) (k := ((s.size : Int) - i).toNat + 1) (l4Name_l s i e hm _ _ i h0 (Int.le_refl _) h1 rfl (Nat.lt_succ_self _))
theorem ev_plain (s : BA) (hm : s.size ≤ 140737488351232) (i : Int) (e : Bool) (h0 : 0 ≤ i) (h1 : i ≤ s.size) : Ev (fun k => spec_l4Plain.f k s i e) (plF s e i) :=
 Ev.of (spec_l4Plain.mono s i e) (k := ((s.size : Int) - i).toNat + 1) (l4Plain_l s e hm _ _ i h0 h1 rfl (Nat.lt_succ_self _))
theorem ev_find (s : BA) (hm : s.size ≤ 140737488351232) (i c : Int) (h0 : 0 ≤ i) (h1 : i ≤ s.size) : Ev (fun k => spec_l4Find.f k s i c) (fndF s i c) :=
 Ev.of (spec_l4Find.mono s i c) (k := ((s.size : Int) - i).toNat + 1) (l4Find_l s c hm _ _ i h0 h1 rfl (Nat.lt_succ_self _))
theorem fnd_le {s : BA} {c : Int} : ∀ (d : Nat) (k : Int), ((s.size : Int) - k).toNat = d → 0 ≤ k → ¬ fndF s k c < 0 → k ≤ fndF s k c ∧ fndF s k c < s.size := by
 intro d;induction d with
 | zero => intro k hd h0 h; rw [fndF, if_neg om_] at h; omega
 | succ d ih =>
  intro k hd h0 h;rw [fndF, if_pos om_] at h ⊢;by_cases hc : bt s k = c
  ·rw [if_pos hc]; omega
  ·rw [if_neg hc] at h ⊢;have := ih (k + 1) om_ om_ h;omega
theorem Ev.ifp {α : Type} {c : Prop} [Decidable c] {f g : Nat → Option α} {r : α} (hc : c) (h : Ev f r) : Ev (fun k => if c then f k else g k) r := Ev.congr (fun k => if_pos hc) h
theorem Ev.ifn {α : Type} {c : Prop} [Decidable c] {f g : Nat → Option α} {r : α} (hc : ¬ c) (h : Ev g r) : Ev (fun k => if c then f k else g k) r := Ev.congr (fun k => if_neg hc) h
theorem Ev.bindc {α β : Type} {x : Option α} {a : α} {f : Nat → α → Option β} {r : β} (hx : x = some a) (h : Ev (fun n => f n a) r) : Ev (fun n => x.bind (f n)) r := Ev.congr (fun k => by rw [hx, Option.bind_some]) h
theorem Ev.up {α : Type} {f : Nat → Option α} {r : α} (m : Nat) (h : ∀ k, f (k + m) = some r) : Ev f r := ⟨m, fun k hk => by have := h (k - m); rwa [Nat.sub_add_cancel hk] at this⟩
theorem i64_and63 (n : Int) : bits .and .i64 n 63 = n % 64 := by
 have h63 : (BitVec.ofInt 64 63).toNat = 2 ^ 6 - 1 := by decide
 have key : (BitVec.ofInt 64 n &&& BitVec.ofInt 64 63).toNat = (n % ((2 ^ 64 : Nat) : Int)).toNat % 2 ^ 6 := by
  rw [BitVec.toNat_and, BitVec.toNat_ofInt, h63, Nat.and_two_pow_sub_one_eq_mod]
 show IntKind.i64.wrap ((BitVec.ofInt 64 n &&& BitVec.ofInt 64 63).toNat : Nat) = n % 64;rw [key, IntKind.wrap_i64];omega
theorem or128_nat : ∀ c : Nat, c < 64 → bits .or .i64 128 (c : Int) = 128 + (c : Int) := by decide
theorem or192_nat : ∀ c : Nat, c < 32 → bits .or .i64 192 (c : Int) = 192 + (c : Int) := by decide
theorem or224_nat : ∀ c : Nat, c < 16 → bits .or .i64 224 (c : Int) = 224 + (c : Int) := by decide
theorem or240_nat : ∀ c : Nat, c < 8 → bits .or .i64 240 (c : Int) = 240 + (c : Int) := by decide
theorem or_of {a : Int} {m : Nat} (h : ∀ c : Nat, c < m → bits .or .i64 a (c : Int) = a + (c : Int)) {x : Int} (h0 : 0 ≤ x) (h1 : x < m) : bits .or .i64 a x = a + x := by
 have := h x.toNat om_;rwa [show ((x.toNat : Nat) : Int) = x by omega] at this
def signOk (n : Int) : Bool := decide (0 ≤ n ∧ n ≤ 1114111) && !decide (55296 ≤ n ∧ n ≤ 57343)
theorem inRange_f (n a b : Int) : impl_inRange.f n a b = some (decide (a ≤ n ∧ n ≤ b)) := by
 unfold impl_inRange.f;by_cases h : n ≥ a
 ·rw [if_pos h];by_cases h2 : n ≤ b
  ·rw [dE_ h2, dE_ (show a ≤ n ∧ n ≤ b from ⟨h, h2⟩)]
  ·rw [dF_ h2, dF_ (show ¬ (a ≤ n ∧ n ≤ b) from fun hh => h2 hh.2)]
 ·rw [if_neg h, dF_ (show ¬ (a ≤ n ∧ n ≤ b) from fun hh => h hh.1)]
theorem l1In_f (n a b : Int) : spec_l1In.f n a b = some (decide (a ≤ n ∧ n ≤ b)) := inRange_f n a b
theorem implSignOk_f (n : Int) : impl_SignOk.f n = some (signOk n) := by
 unfold impl_SignOk.f signOk;rw [inRange_f, inRange_f];simp only [Option.bind_some];by_cases h : decide (0 ≤ n ∧ n ≤ 1114111) = true
 ·rw [if_pos h, h]; rfl
 ·rw [if_neg h, bF_ h]; rfl
theorem specSignOk_f (n : Int) : spec_SignOk.f n = some (signOk n) := by
 unfold spec_SignOk.f signOk;rw [l1In_f, l1In_f];simp only [Option.bind_some];by_cases h : decide (0 ≤ n ∧ n ≤ 1114111) = true
 ·rw [if_pos h, h]; rfl
 ·rw [if_neg h, bF_ h]; rfl
def put0 (x : Int) : ByteArray :=
 if x < 128 then strOfNums [x % 256]
 else if x < 2048 then strOfNums [(192 + x / 64) % 256, (128 + x % 64) % 256]
 else if x < 65536 then strOfNums [(224 + x / 4096) % 256, (128 + x / 64 % 64) % 256, (128 + x % 64) % 256]
 else strOfNums [(240 + x / 262144) % 256, (128 + x / 4096 % 64) % 256, (128 + x / 64 % 64) % 256, (128 + x % 64) % 256]
theorem follow_f (x : Int) (b : Nat) (hb : b = 0 ∨ b = 6 ∨ b = 12) : impl_follow.f x (b : Int) = some ((128 + x / 2 ^ b % 64) % 256) := by
 unfold impl_follow.f;have hw : IntKind.u64.wrap (b : Int) = (b : Int) := by rcases hb with rfl | rfl | rfl <;> decide
 rw [hw, if_pos om_, i64_and63];have hs : shr .i64 x (b : Int) = x / 2 ^ b := by
  unfold shr;rcases hb with rfl | rfl | rfl <;> rfl
 rw [hs, or_of or128_nat om_ om_]
theorem specPut0_f (k : Nat) (x : Int) (h0 : 0 ≤ x) (h1 : x ≤ 1114111) : spec_PutSign.j0 (k + 1) x = some (put0 x) := by
 have hw : ∀ a : Int, 0 ≤ a → a ≤ 1000000 → wrap64 a = a := fun a _ _ => by unfold wrap64; omega
 simp only [spec_PutSign.j0, put0, i64_and63];rw [hw (192 + x / 64) om_ om_, hw (128 + x % 64) om_ om_, hw (224 + x / 4096) om_ om_, hw (128 + x / 64 % 64) om_ om_, hw (240 + x / 262144) om_ om_, hw (128 + x / 4096 % 64) om_ om_];by_cases c1 : x < 128
 ·simp [c1]
 ·by_cases c2 : x < 2048
  ·simp [c1, c2]
  ·by_cases c3 : x < 65536 <;> simp [c1, c2, c3]
theorem implPut0_f (k : Nat) (x : Int) (h0 : 0 ≤ x) (h1 : x ≤ 1114111) : impl_PutSign.j0 (k + 1) x = some (put0 x) := by
 have f0 : impl_follow.f x 0 = some ((128 + x % 64) % 256) := by
  have := follow_f x 0 (.inl rfl);rwa [show (2 : Int) ^ 0 = 1 from rfl, Int.ediv_one] at this
 have f6 : impl_follow.f x 6 = some ((128 + x / 64 % 64) % 256) := follow_f x 6 (.inr (.inl rfl));have f12 : impl_follow.f x 12 = some ((128 + x / 4096 % 64) % 256) := follow_f x 12 (.inr (.inr rfl));simp only [impl_PutSign.j0, put0];by_cases c1 : x < 128
 ·simp [c1]
 ·by_cases c2 : x < 2048
  ·rw [if_neg c1, if_neg c1, if_pos c2, if_pos c2, or_of or192_nat om_ om_];rw [f0];rfl
  ·by_cases c3 : x < 65536
   ·rw [if_neg c1, if_neg c1, if_neg c2, if_neg c2, if_pos c3, if_pos c3, or_of or224_nat om_ om_];rw [f0, f6];rfl
   ·rw [if_neg c1, if_neg c1, if_neg c2, if_neg c2, if_neg c3, if_neg c3, or_of or240_nat om_ om_];rw [f0, f6, f12];rfl
def putF (n : Int) : ByteArray := if signOk n = true then put0 n else put0 65533
theorem specPut_f (k : Nat) (n : Int) : spec_PutSign.f (k + 1) n = some (putF n) := by
 unfold spec_PutSign.f putF;rw [specSignOk_f, Option.bind_some];by_cases h : signOk n = true
 ·have h' := h;simp only [signOk, Bool.and_eq_true, decide_eq_true_eq] at h';rw [if_pos h, if_pos h, specPut0_f k n om_ om_]
 ·rw [if_neg h, if_neg h, specPut0_f k 65533 om_ om_]
theorem implPut_f (k : Nat) (n : Int) : impl_PutSign.f (k + 1) n = some (putF n) := by
 unfold impl_PutSign.f putF;rw [implSignOk_f, Option.bind_some];by_cases h : signOk n = true
 ·have h' := h;simp only [signOk, Bool.and_eq_true, decide_eq_true_eq] at h';rw [if_pos h, if_pos h, implPut0_f k n om_ om_]
 ·rw [if_neg h, if_neg h, implPut0_f k 65533 om_ om_]
theorem putF_size (n : Int) : (putF n).size ≤ 4 := by
 have hp : ∀ x, (put0 x).size ≤ 4 := by
  intro x;unfold put0;split
  ·exact Nat.le_trans (Nat.le_of_eq (show _ = 1 from rfl)) om_
  ·split
   ·exact Nat.le_trans (Nat.le_of_eq (show _ = 2 from rfl)) om_
   ·split
    ·exact Nat.le_trans (Nat.le_of_eq (show _ = 3 from rfl)) om_
    ·exact Nat.le_trans (Nat.le_of_eq (show _ = 4 from rfl)) om_
 unfold putF;split <;> exact hp _
def numF (n : Int) : Int := if 128 ≤ n ∧ n ≤ 159 then rd numL (n - 128) else if n = 0 then 65533 else if signOk n = true then n else 65533
theorem implNumbered_f (n : Int) : impl_Numbered.f n = some (numF n) := by
 unfold impl_Numbered.f numF;by_cases h : 128 ≤ n ∧ n ≤ 159
 ·rw [if_pos h, if_pos h]
 ·rw [if_neg h, if_neg h];by_cases h0 : n = 0
  ·rw [if_pos h0, if_pos h0]
  ·rw [if_neg h0, if_neg h0, implSignOk_f, Option.bind_some];by_cases hs : signOk n = true
   ·rw [if_pos hs, if_pos hs]
   ·rw [if_neg hs, if_neg hs]
theorem specNumbered_f (k : Nat) (n : Int) : spec_Numbered.f (k + 1) n = some (numF n) := by
 unfold spec_Numbered.f numF;simp only [Option.bind_some, spec_Numbered.j0, l1In_f, specSignOk_f];by_cases h0 : n = 0
 ·subst h0; rfl
 ·rw [if_neg h0, if_neg h0];by_cases h : 128 ≤ n ∧ n ≤ 159
  ·have hs : signOk n = true := by simp [signOk]; omega
   have hw : wrap64 (n - 128) = n - 128 := by unfold wrap64; omega
   rw [if_pos h, hs, if_neg si_, if_pos (dE_ h), hw, if_pos om_, if_pos (by show n - 128 < 32; omega)];rfl
  ·rw [if_neg h, if_neg (show ¬ (decide (128 ≤ n ∧ n ≤ 159) = true) by simpa using h)];cases signOk n <;> rfl
def digF (b : Int) (hex : Bool) : Int := if 48 ≤ b ∧ b ≤ 57 then b - 48 else if hex = true ∧ 97 ≤ b ∧ b ≤ 102 then b - 87 else if hex = true ∧ 65 ≤ b ∧ b ≤ 70 then b - 55 else -1
def bas (hex : Bool) : Int := if hex = true then 16 else 10
theorem digF_range (b : Int) (hex : Bool) : -1 ≤ digF b hex ∧ digF b hex ≤ 15 := by
 unfold digF;split
 ·omega
 ·split
  ·omega
  ·split <;> omega
theorem digit_tab : ∀ b : Nat, b < 256 → impl_digitOf.f 3 (b : Int) 10 = some (digF b false) ∧ impl_digitOf.f 3 (b : Int) 16 = some (digF b true) ∧ spec_l3Digit.f 2 (b : Int) false = some (digF b false) ∧ spec_l3Digit.f 2 (b : Int) true = some (digF b true) := by decide +kernel
theorem ev_specDigit (b : Int) (hex : Bool) (h0 : 0 ≤ b) (h1 : b ≤ 255) : Ev (fun k => spec_l3Digit.f k b hex) (digF b hex) := by
 have := digit_tab b.toNat om_;rw [show ((b.toNat : Nat) : Int) = b by omega] at this;refine Ev.of (spec_l3Digit.mono b hex) (k := 2) ?_;cases hex
 ·exact this.2.2.1
 ·exact this.2.2.2
theorem ev_implDigit (b : Int) (hex : Bool) (h0 : 0 ≤ b) (h1 : b ≤ 255) : Ev (fun k => impl_digitOf.f k b (bas hex)) (digF b hex) := by
 have := digit_tab b.toNat om_;rw [show ((b.toNat : Nat) : Int) = b by omega] at this;refine Ev.of (impl_digitOf.mono b (bas hex)) (k := 3) ?_;cases hex
 ·exact this.1
 ·exact this.2.1
def addF (n d : Int) (hex : Bool) : Int := if n * bas hex + d < 1114112 then n * bas hex + d else 1114112
def numE (s : BA) (hex : Bool) (i n : Int) : Int × Int :=
 if i < (s.size : Int) then if digF (bt s i) hex ≥ 0 then numE s hex (i + 1) (addF n (digF (bt s i) hex) hex) else (i, n) else (i, n)
termination_by ((s.size : Int) - i).toNat
decreasing_by omega
def numR (s : BA) (p from_ : Int) (e : Int × Int) : ByteArray × Int :=
 if e.1 = from_ then (⟨#[]⟩, 0) else (putF (numF e.2), (if e.1 < (s.size : Int) ∧ bt s e.1 = 59 then e.1 + 1 else e.1) - p)
theorem addF_range {n d : Int} {hex : Bool} (h0 : 0 ≤ n) (h1 : 0 ≤ d) : 0 ≤ addF n d hex ∧ addF n d hex ≤ 1114112 := by
 have : 0 ≤ n * bas hex := Int.mul_nonneg h0 (by unfold bas; split <;> omega);unfold addF;split <;> omega
theorem mul_range {n : Int} {hex : Bool} (h0 : 0 ≤ n) (h1 : n ≤ 1114112) : 0 ≤ n * bas hex ∧ n * bas hex ≤ 20000000 := by
 unfold bas;split <;> omega
theorem numE_le {s : BA} {hex : Bool} : ∀ (d : Nat) (i n : Int), ((s.size : Int) - i).toNat = d → i ≤ s.size → i ≤ (numE s hex i n).1 ∧ (numE s hex i n).1 ≤ s.size := by
 intro d;induction d with
 | zero => intro i n hd hi; rw [numE, if_neg om_]; exact ⟨Int.le_refl _, hi⟩
 | succ d ih =>
  intro i n hd hi;rw [numE, if_pos om_];split
  ·have := ih (i + 1) (addF n (digF (bt s i) hex) hex) om_ om_;omega
  ·exact ⟨Int.le_refl _, hi⟩
theorem ev_specEnd (s : BA) (hm : s.size ≤ 140737488351232) (p from_ i n : Int) (hex : Bool) (p0 : 0 ≤ p) (hp : p ≤ i) (h0 : 0 ≤ i) (h1 : i ≤ s.size) :
  Ev (fun k => if i = from_ then (some ((⟨#[]⟩ : BA), (0 : Int))) else (if i < (s.size : Int) then (if 0 ≤ i then (spec_l3Number.j4 k p i n ((bt s i) == 59)) else (none)) else (spec_l3Number.j4 k p i n false))) (numR s p from_ (i, n)) := by
 unfold numR;dsimp only;by_cases c : i = from_
 ·rw [if_pos c]; exact Ev.ifp c (Ev.now _)
 ·rw [if_neg c];refine Ev.ifn c ?_;have hw : wrap64 (i - p) = i - p := by unfold wrap64; omega
  have hw2 : wrap64 (i + 1 - p) = i + 1 - p := by unfold wrap64; omega
  have hw1 : wrap64 (i + 1) = i + 1 := by unfold wrap64; omega
  have j4 : ∀ b : Bool, Ev (fun k => spec_l3Number.j4 k p i n b) (putF (numF n), (if b = true then i + 1 else i) - p) := by
   intro b;refine Ev.step (fun k => by simp only [spec_l3Number.j4]; rfl) ?_;cases b
   ·refine Ev.ifn si_ (Ev.bind (Ev.up 1 (fun k => specNumbered_f k n)) (Ev.bind (Ev.up 1 (fun k => specPut_f k _)) ?_));rw [hw]; exact Ev.now _
   ·refine Ev.ifp (rfl : true = true) (Ev.bind (Ev.up 1 (fun k => specNumbered_f k n)) (Ev.bind (Ev.up 1 (fun k => specPut_f k _)) ?_));rw [hw1, hw2]; exact Ev.now _
  by_cases c2 : i < (s.size : Int)
  ·refine Ev.ifp c2 (Ev.ifp h0 ?_);have := j4 (bt s i == 59);by_cases c3 : bt s i = 59
   ·rw [if_pos ⟨c2, c3⟩]; simpa [c3] using this
   ·rw [if_neg (fun h => c3 h.2)]; simpa [c3] using this
  ·rw [if_neg (fun h => c2 h.1)];exact Ev.ifn c2 (by simpa using j4 false)
theorem ev_specNum (s : BA) (hm : s.size ≤ 140737488351232) (p from_ : Int) (hex : Bool) (p0 : 0 ≤ p) (d : Nat) : ∀ (i n : Int), p ≤ i → 0 ≤ i → i ≤ s.size → 0 ≤ n → n ≤ 1114112 → ((s.size : Int) - i).toNat = d →
  Ev (fun k => spec_l3Number.l0 k s p i hex (bas hex) from_ n) (numR s p from_ (numE s hex i n)) := by
 induction d with
 | zero =>
  intro i n hp h0 h1 n0 n1 hd;rw [numE, if_neg om_];refine Ev.step (fun k => by simp only [spec_l3Number.l0]; rfl) (Ev.ifn om_ ?_);refine Ev.step (fun k => by simp only [spec_l3Number.j3]; rfl) (Ev.ifn si_ ?_);exact ev_specEnd s hm p from_ i n hex p0 hp h0 h1
 | succ d ih =>
  intro i n hp h0 h1 n0 n1 hd;have hb := bt_range s i;have hi : i < (s.size : Int) := om_;have hdr := digF_range (bt s i) hex;have hmul := mul_range (hex := hex) n0 n1;rw [numE, if_pos hi];refine Ev.step (fun k => by simp only [spec_l3Number.l0]; rfl) (Ev.ifp hi (Ev.ifp h0 (Ev.bind (ev_specDigit _ hex hb.1 hb.2) ?_)));by_cases c : digF (bt s i) hex ≥ 0
  ·rw [if_pos c, dE_ c];refine Ev.step (fun k => by simp only [spec_l3Number.j3]; rfl) (Ev.ifp (rfl : true = true) (Ev.ifp h0 (Ev.ifp hi (Ev.bind (ev_specDigit _ hex hb.1 hb.2) ?_))));have hw : wrap64 (wrap64 (n * bas hex) + digF (bt s i) hex) = n * bas hex + digF (bt s i) hex := by unfold wrap64; omega
   have hw1 : wrap64 (i + 1) = i + 1 := by unfold wrap64; omega
   have hmin : spec_l1Min.f (wrap64 (wrap64 (n * bas hex) + digF (bt s i) hex)) 1114112 = some (addF n (digF (bt s i) hex) hex) := by
    rw [hw]; unfold spec_l1Min.f addF; split <;> rfl
   refine Ev.bindc hmin ?_;rw [hw1];have ha := addF_range (hex := hex) n0 c;exact ih (i + 1) _ om_ om_ om_ ha.1 ha.2 om_
  ·rw [if_neg c, dF_ c];refine Ev.step (fun k => by simp only [spec_l3Number.j3]; rfl) (Ev.ifn si_ ?_);exact ev_specEnd s hm p from_ i n hex p0 hp h0 h1
theorem withEnd_f (s : BA) (i : Int) (hm : s.size ≤ 140737488351232) (h0 : 0 ≤ i) (h1 : i ≤ s.size) : impl_withEnd.f s i = some (if i < (s.size : Int) ∧ bt s i = 59 then i + 1 else i) := by
 unfold impl_withEnd.f;have hw1 : wrap64 (i + 1) = i + 1 := by unfold wrap64; omega
 by_cases c2 : i < (s.size : Int)
 ·rw [if_pos c2, if_pos h0];by_cases c3 : bt s i = 59
  ·rw [if_pos c3, if_pos ⟨c2, c3⟩, hw1]
  ·rw [if_neg c3, if_neg (fun h => c3 h.2)]
 ·rw [if_neg c2, if_neg (fun h => c2 h.1)]
theorem ev_implEnd (s : BA) (hm : s.size ≤ 140737488351232) (p from_ i n : Int) (p0 : 0 ≤ p) (hp : p ≤ i) (h0 : 0 ≤ i) (h1 : i ≤ s.size) :
  Ev (fun k => impl_numberRef.j3 k s p from_ n i) (numR s p from_ (i, n)) := by
 unfold numR;dsimp only;refine Ev.step (fun k => by simp only [impl_numberRef.j3]; rfl) ?_;by_cases c : i = from_
 ·rw [if_pos c]; exact Ev.ifp c (Ev.now _)
 ·rw [if_neg c];refine Ev.ifn c (Ev.bindc (implNumbered_f n) (Ev.bind (Ev.up 1 (fun k => implPut_f k _)) (Ev.bindc (withEnd_f s i hm h0 h1) ?_)));have hw : wrap64 ((if i < (s.size : Int) ∧ bt s i = 59 then i + 1 else i) - p) = (if i < (s.size : Int) ∧ bt s i = 59 then i + 1 else i) - p := by
   unfold wrap64; split <;> omega
  rw [hw];exact Ev.now _
theorem ev_implNum (s : BA) (hm : s.size ≤ 140737488351232) (p from_ : Int) (hex : Bool) (p0 : 0 ≤ p) (d : Nat) : ∀ (i n : Int), p ≤ i → 0 ≤ i → i ≤ s.size → 0 ≤ n → n ≤ 1114112 → ((s.size : Int) - i).toNat = d →
  Ev (fun k => impl_numberRef.l0 k s p from_ (bas hex) n i) (numR s p from_ (numE s hex i n)) := by
 induction d with
 | zero =>
  intro i n hp h0 h1 n0 n1 hd;rw [numE, if_neg om_];refine Ev.step (fun k => by simp only [impl_numberRef.l0]; rfl) (Ev.ifn om_ ?_);exact ev_implEnd s hm p from_ i n p0 hp h0 h1
 | succ d ih =>
  intro i n hp h0 h1 n0 n1 hd;have hb := bt_range s i;have hi : i < (s.size : Int) := om_;have hmul := mul_range (hex := hex) n0 n1;have hdr := digF_range (bt s i) hex;rw [numE, if_pos hi];refine Ev.step (fun k => by simp only [impl_numberRef.l0]; rfl) (Ev.ifp hi (Ev.ifp h0 (Ev.bind (ev_implDigit _ hex hb.1 hb.2) ?_)));by_cases c : digF (bt s i) hex ≥ 0
  ·rw [if_pos c];refine Ev.ifp c (Ev.bind (ev_implDigit _ hex hb.1 hb.2) ?_);have hw : wrap64 (wrap64 (n * bas hex) + digF (bt s i) hex) = n * bas hex + digF (bt s i) hex := by unfold wrap64; omega
   have hw1 : wrap64 (i + 1) = i + 1 := by unfold wrap64; omega
   have hmn : mn (wrap64 (wrap64 (n * bas hex) + digF (bt s i) hex)) 1114112 = addF n (digF (bt s i) hex) hex := by
    rw [hw]; unfold mn addF; split <;> split <;> omega
   rw [hmn, hw1];have ha := addF_range (hex := hex) n0 c;exact ih (i + 1) _ om_ om_ om_ ha.1 ha.2 om_
  ·rw [if_neg c];refine Ev.ifn c ?_;exact ev_implEnd s hm p from_ i n p0 hp h0 h1
def standsAt (s : BA) (p : Int) (nm : BA) : Prop := p + nm.size ≤ s.size ∧ (s.extract p.toNat (p + nm.size).toNat).toList = nm.toList
instance (s : BA) (p : Int) (nm : BA) : Decidable (standsAt s p nm) := by unfold standsAt; infer_instance
theorem hasPrefix_f (s : BA) (p : Int) (nm : BA) (h0 : 0 ≤ p) (hp : p ≤ s.size) : strings_HasPrefix.f (s.extract p.toNat s.size) nm = some (decide (standsAt s p nm)) := by
 unfold strings_HasPrefix.f stringslite_HasPrefix.f;have hsz : (s.extract p.toNat s.size).size = s.size - p.toNat := by rw [ByteArray.size_extract]; omega
 rw [hsz];by_cases c : p + nm.size ≤ s.size
 ·have hx : (s.extract p.toNat s.size).extract 0 ((nm.size : Int)).toNat = s.extract p.toNat (p + nm.size).toNat := by
   rw [ByteArray.extract_extract];congr 1
   omega
  rw [if_pos om_, if_pos om_, if_pos om_, Option.bind_some, hx];congr 1
  by_cases h : (s.extract p.toNat (p + nm.size).toNat).toList = nm.toList
  ·rw [dE_ (show standsAt s p nm from ⟨c, h⟩)]; exact bQ_ h
  ·rw [dF_ (show ¬ standsAt s p nm from fun hh => h hh.2)]; exact bN_ h
 ·rw [if_neg om_, Option.bind_some, dF_ (show ¬ standsAt s p nm from fun hh => c hh.1)]
def longF (s : BA) (p : Int) : List ByteArray → ByteArray → ByteArray
 | [], b => b
 | n :: ns, b => if n.size > b.size ∧ standsAt s p n then longF s p ns n else longF s p ns b
theorem longF_ok (s : BA) (p : Int) : ∀ (L : List ByteArray) (b : BA), standsAt s p b → standsAt s p (longF s p L b)
 | [], b, h => h
 | n :: ns, b, h => by
  unfold longF;split
  ·rename_i hh; exact longF_ok s p ns n hh.2
  ·exact longF_ok s p ns b h
theorem longF_le (s : BA) (p : Int) (m : Nat) : ∀ (L : List ByteArray) (b : BA), (∀ n ∈ L, n.size ≤ m) → b.size ≤ m → (longF s p L b).size ≤ m
 | [], b, _, h => h
 | n :: ns, b, hL, h => by
  unfold longF;split
  ·exact longF_le s p m ns n (fun x hx => hL x (List.mem_cons_of_mem _ hx)) (hL n List.mem_cons_self)
  ·exact longF_le s p m ns b (fun x hx => hL x (List.mem_cons_of_mem _ hx)) h
theorem rdOf_at (L : List ByteArray) (j : Int) (h : j.toNat < L.length) : rdOf ByteArray.empty L j = L[j.toNat] := by
 unfold rdOf; rw [List.getD_eq_getElem?_getD, List.getElem?_eq_getElem h]; rfl
theorem ev_longest (s : BA) (hm : s.size ≤ 140737488351232) (p : Int) (p0 : 0 ≤ p) (p1 : p ≤ s.size) (L : List ByteArray) (hL : ∀ n ∈ L, n.size ≤ 100) (hl : L.length ≤ 1000) (d : Nat) : ∀ (j : Int) (b : BA), 0 ≤ j → L.length - j.toNat = d → j ≤ L.length →
  Ev (fun k => spec_l3Longest.l0 k s p b L j) (longF s p (L.drop j.toNat) b) := by
 induction d with
 | zero =>
  intro j b h0 hd hj;rw [List.drop_of_length_le om_];exact Ev.step (fun k => by simp only [spec_l3Longest.l0]; rfl) (Ev.ifn om_ (Ev.now _))
 | succ d ih =>
  intro j b h0 hd hj;have hjl : j.toNat < L.length := om_;have hsz := hL _ (List.getElem_mem hjl);have hw1 : wrap64 (j + 1) = j + 1 := by unfold wrap64; omega
  have hj1 : (j + 1).toNat = j.toNat + 1 := om_;rw [List.drop_eq_getElem_cons hjl];unfold longF;refine Ev.step (fun k => by simp only [spec_l3Longest.l0]; rfl) (Ev.ifp om_ (Ev.ifp h0 ?_));rw [rdOf_at L j hjl, hw1];generalize hn : L[j.toNat] = n at *;have hw : wrap64 (p + (n.size : Int)) = p + (n.size : Int) := by unfold wrap64; omega
  rw [hw];have ih2 := fun b => ih (j + 1) b om_ om_ om_
  rw [hj1] at ih2;by_cases c1 : (n.size : Int) > (b.size : Int)
  ·refine Ev.ifp c1 ?_;by_cases c2 : p + (n.size : Int) ≤ (s.size : Int)
   ·refine Ev.ifp c2 (Ev.ifp p0 (Ev.ifp om_ ?_));by_cases c3 : (s.extract p.toNat (p + n.size).toNat).toList = n.toList
    ·rw [if_pos ⟨om_, c2, c3⟩];exact Ev.ifp c3 (ih2 n)
    ·rw [if_neg (fun h => c3 h.2.2)];exact Ev.ifn c3 (ih2 b)
   ·rw [if_neg (fun h => c2 h.2.1)];exact Ev.ifn c2 (ih2 b)
  ·rw [if_neg (fun h => c1 (by have := h.1; omega))];exact Ev.ifn c1 (ih2 b)
theorem specNamed_f : spec_Named.f = some namedL := rfl
theorem named_le : ∀ n ∈ namedL, n.size ≤ 100 := by
 intro n hn;simp only [namedL, List.mem_cons, List.not_mem_nil, or_false] at hn;rcases hn with rfl | rfl | rfl | rfl | rfl | rfl | rfl | rfl | rfl | rfl | rfl | rfl | rfl | rfl <;> decide
theorem ev_nameSign (nm : BA) (d : Nat) : ∀ (j : Int), 0 ≤ j → 14 - j.toNat = d → j ≤ 14 → Ev (fun k => spec_NameSign.l0 k nm signL namedL j) (nsL (namedL.drop j.toNat) (signL.drop j.toNat) nm) := by
 have hl : namedL.length = 14 := rfl;have hl2 : signL.length = 14 := rfl;induction d with
 | zero =>
  intro j h0 hd hj;rw [List.drop_of_length_le om_];exact Ev.step (fun k => by simp only [spec_NameSign.l0]; rfl) (Ev.ifn om_ (Ev.now _))
 | succ d ih =>
  intro j h0 hd hj;have hjl : j.toNat < namedL.length := om_;have hw1 : wrap64 (j + 1) = j + 1 := by unfold wrap64; omega
  have hj1 : (j + 1).toNat = j.toNat + 1 := om_;rw [ns_drop nm namedL signL j.toNat rfl hjl];refine Ev.step (fun k => by simp only [spec_NameSign.l0]; rfl) (Ev.ifp om_ (Ev.ifp h0 ?_));rw [rdOf_at namedL j hjl, hw1];have ih2 := ih (j + 1) om_ om_ om_;rw [hj1] at ih2;by_cases c : namedL[j.toNat].toList = nm.toList
  ·rw [if_pos c]; exact Ev.ifp c (Ev.ifp om_ (Ev.now _))
  ·rw [if_neg c]; exact Ev.ifn c ih2
def sgnF (nm : BA) : Int := nsL namedL signL nm
theorem ev_specSign (nm : BA) : Ev (fun k => spec_NameSign.f k nm) (sgnF nm) := by
 refine Ev.congr (fun k => by unfold spec_NameSign.f; rw [specNamed_f, Option.bind_some]; rfl) (ev_nameSign nm 14 0 om_ rfl om_)
def letF (c : Int) : Bool := decide (97 ≤ c ∧ c ≤ 122) || decide (65 ≤ c ∧ c ≤ 90)
theorem implLetter_f (c : Int) : impl_IsLetter.f c = some (letF c) := by
 unfold impl_IsLetter.f letF;rw [inRange_f, inRange_f];simp only [Option.bind_some];by_cases h : decide (97 ≤ c ∧ c ≤ 122) = true
 ·rw [if_pos h, h]; rfl
 ·rw [if_neg h, bF_ h]; rfl
theorem specLetter_f (c : Int) : spec_IsLetter.f c = some (letF c) := by
 unfold spec_IsLetter.f letF;rw [l1In_f, l1In_f];simp only [Option.bind_some];by_cases h : decide (97 ≤ c ∧ c ≤ 122) = true
 ·rw [if_pos h, h]; rfl
 ·rw [if_neg h, bF_ h]; rfl
def aftF (s : BA) (i : Int) : Bool := if i < (s.size : Int) then (if bt s i = 61 then true else if letF (bt s i) = true then true else decide (digF (bt s i) false ≥ 0)) else false
theorem ev_isAfter (s : BA) (i : Int) (h0 : 0 ≤ i) : Ev (fun k => impl_isAfter.f k s i) (aftF s i) := by
 have hb := bt_range s i;have hw : wrap64 (bt s i) = bt s i := by unfold wrap64; omega
 unfold impl_isAfter.f aftF;rw [hw];by_cases c : i < (s.size : Int)
 ·rw [if_pos c];refine Ev.ifp c (Ev.ifp h0 ?_);by_cases c1 : bt s i = 61
  ·rw [if_pos c1]; exact Ev.ifp c1 (Ev.now _)
  ·rw [if_neg c1];refine Ev.ifn c1 (Ev.bindc (implLetter_f _) ?_);by_cases c2 : letF (bt s i) = true
   ·rw [if_pos c2]; exact Ev.ifp c2 (Ev.now _)
   ·rw [if_neg c2];exact Ev.ifn c2 (Ev.bind (ev_implDigit (bt s i) false hb.1 hb.2) (Ev.now _))
 ·rw [if_neg c]; exact Ev.ifn c (Ev.now _)
def semi (s : BA) (i : Int) : Int := if i < (s.size : Int) ∧ bt s i = 59 then i + 1 else i
def refT (s : BA) (p : Int) (v : Bool) (b : BA) : ByteArray × Int :=
 if b.toList = [] then (⟨#[]⟩, 0)
 else if semi s (p + 1 + b.size) = p + 1 + b.size ∧ v = true ∧ aftF s (p + 1 + b.size) = true then (⟨#[]⟩, 0)
 else (putF (sgnF b), semi s (p + 1 + b.size) - p)
theorem semi_or (s : BA) (i : Int) : semi s i = i ∨ semi s i = i + 1 := by unfold semi; split <;> simp
theorem ev_specTail (s : BA) (hm : s.size ≤ 140737488351232) (p : Int) (p0 : 0 ≤ p) (v : Bool) (b : BA) (hb : p + 1 + b.size ≤ s.size) (hs : b.size ≤ 100) :
  Ev (fun k => if b.toList = ([] : List UInt8) then (some ((⟨#[]⟩ : BA), (0 : Int))) else (if (wrap64 ((wrap64 (p + 1)) + (b.size : Int))) < (s.size : Int) then (if 0 ≤ (wrap64 ((wrap64 (p + 1)) + (b.size : Int))) then (spec_Ref.j2 k s p v b (wrap64 ((wrap64 (p + 1)) + (b.size : Int))) ((bt s (wrap64 ((wrap64 (p + 1)) + (b.size : Int)))) == 59)) else (none)) else (spec_Ref.j2 k s p v b (wrap64 ((wrap64 (p + 1)) + (b.size : Int))) false))) (refT s p v b) := by
 have hw1 : wrap64 (p + 1) = p + 1 := by unfold wrap64; omega
 have hw : wrap64 (p + 1 + (b.size : Int)) = p + 1 + (b.size : Int) := by unfold wrap64; omega
 rw [hw1, hw];unfold refT;generalize hq : p + 1 + (b.size : Int) = q at *;have hq0 : 0 ≤ q := om_;have hbt := bt_range s q;by_cases c0 : b.toList = []
 ·rw [if_pos c0]; exact Ev.ifp c0 (Ev.now _)
 rw [if_neg c0];refine Ev.ifn c0 ?_;have j3 : Ev (fun k => spec_Ref.j3 k p b q false) (putF (sgnF b), q - p) := by
  refine Ev.step (fun k => by simp only [spec_Ref.j3]; rfl) (Ev.ifn si_ (Ev.bind (ev_specSign b) (Ev.bind (Ev.up 1 (fun k => specPut_f k _)) ?_)));rw [show wrap64 (q - p) = q - p by unfold wrap64; omega];exact Ev.now _
 have j3t : Ev (fun k => spec_Ref.j3 k p b q true) ((⟨#[]⟩ : BA), (0 : Int)) :=
  Ev.step (fun k => by simp only [spec_Ref.j3]; rfl) (Ev.ifp (rfl : true = true) (Ev.now _))
 have j2f : semi s q = q → Ev (fun k => spec_Ref.j2 k s p v b q false) (if semi s q = q ∧ v = true ∧ aftF s q = true then (⟨#[]⟩, 0) else (putF (sgnF b), semi s q - p)) := by
  intro hsm;rw [hsm];refine Ev.step (fun k => by simp only [spec_Ref.j2]; rfl) (Ev.ifn si_ ?_);cases v
  ·rw [if_neg si_]; exact Ev.ifn si_ j3
  ·refine Ev.ifp (rfl : true = true) ?_;unfold aftF;by_cases c : q < (s.size : Int)
   ·rw [if_pos c];refine Ev.ifp c (Ev.ifp hq0 ?_);by_cases c1 : bt s q = 61
    ·rw [if_pos c1, if_pos ⟨rfl, rfl, rfl⟩]; exact Ev.ifp c1 j3t
    ·rw [if_neg c1, show wrap64 (bt s q) = bt s q by unfold wrap64; omega];refine Ev.ifn c1 (Ev.bindc (specLetter_f _) ?_);by_cases c2 : letF (bt s q) = true
     ·rw [if_pos c2, if_pos ⟨rfl, rfl, rfl⟩]; exact Ev.ifp c2 j3t
     ·rw [if_neg c2];refine Ev.ifn c2 (Ev.bind (ev_specDigit (bt s q) false hbt.1 hbt.2) ?_);by_cases c3 : digF (bt s q) false ≥ 0
      ·rw [dE_ c3, if_pos ⟨rfl, rfl, rfl⟩]; exact j3t
      ·rw [dF_ c3, if_neg si_]; exact j3
   ·rw [if_neg c, if_neg si_];exact Ev.ifn c j3
 by_cases c : q < (s.size : Int)
 ·refine Ev.ifp c (Ev.ifp hq0 ?_);by_cases c1 : bt s q = 59
  ·have hsm : semi s q = q + 1 := by unfold semi; rw [if_pos ⟨c, c1⟩]
   rw [hsm, if_neg (fun h => by have := h.1; omega), show (bt s q == 59) = true from bQ_ c1];refine Ev.step (fun k => by simp only [spec_Ref.j2]; rfl) (Ev.ifp (rfl : true = true) (Ev.bind (ev_specSign b) (Ev.bind (Ev.up 1 (fun k => specPut_f k _)) ?_)));rw [show wrap64 (q + 1) = q + 1 by unfold wrap64; omega, show wrap64 (q + 1 - p) = q + 1 - p by unfold wrap64; omega];exact Ev.now _
  ·rw [show (bt s q == 59) = false from bN_ c1];exact j2f (by unfold semi; rw [if_neg (fun h => c1 h.2)])
 ·exact Ev.ifn c (j2f (by unfold semi; rw [if_neg (fun h => c h.1)]))
theorem ev_implTail (s : BA) (hm : s.size ≤ 140737488351232) (p : Int) (p0 : 0 ≤ p) (v : Bool) (b : BA) (hb : p + 1 + b.size ≤ s.size) (hs : b.size ≤ 100) :
  Ev (fun k => if b.toList = ([] : List UInt8) then (some ((⟨#[]⟩ : BA), (0 : Int))) else ((impl_withEnd.f s (wrap64 ((wrap64 (p + 1)) + (b.size : Int)))).bind fun t308 => (if t308 = (wrap64 ((wrap64 (p + 1)) + (b.size : Int))) then (if v = true then ((impl_isAfter.f k s (wrap64 ((wrap64 (p + 1)) + (b.size : Int)))).bind fun t309 => (impl_Ref.j2 k s p b (wrap64 ((wrap64 (p + 1)) + (b.size : Int))) t309)) else (impl_Ref.j2 k s p b (wrap64 ((wrap64 (p + 1)) + (b.size : Int))) false)) else (impl_Ref.j2 k s p b (wrap64 ((wrap64 (p + 1)) + (b.size : Int))) false)))) (refT s p v b) := by
 have hw1 : wrap64 (p + 1) = p + 1 := by unfold wrap64; omega
 have hw : wrap64 (p + 1 + (b.size : Int)) = p + 1 + (b.size : Int) := by unfold wrap64; omega
 rw [hw1, hw];unfold refT;generalize hq : p + 1 + (b.size : Int) = q at *;have hq0 : 0 ≤ q := om_;by_cases c0 : b.toList = []
 ·rw [if_pos c0]; exact Ev.ifp c0 (Ev.now _)
 rw [if_neg c0];refine Ev.ifn c0 ?_;have hwe : impl_withEnd.f s q = some (semi s q) := withEnd_f s q hm hq0 hb;have j2f : Ev (fun k => impl_Ref.j2 k s p b q false) (putF (sgnF b), semi s q - p) := by
  refine Ev.step (fun k => by simp only [impl_Ref.j2]; rfl) (Ev.ifn si_ (Ev.bindc (show impl_NameSign.f b = some (sgnF b) from rfl) (Ev.bind (a := putF (sgnF b)) (Ev.up 1 (fun k => implPut_f k _)) ?_)));refine Ev.bindc (f := fun _ t => some (putF (sgnF b), wrap64 (t - p))) hwe ?_;have hsm := semi_or s q;rw [show wrap64 (semi s q - p) = semi s q - p by unfold wrap64; omega];exact Ev.now _
 have j2t : Ev (fun k => impl_Ref.j2 k s p b q true) ((⟨#[]⟩ : BA), (0 : Int)) :=
  Ev.step (fun k => by simp only [impl_Ref.j2]; rfl) (Ev.ifp (rfl : true = true) (Ev.now _))
 refine Ev.bindc hwe ?_;by_cases c1 : semi s q = q
 ·refine Ev.ifp c1 ?_;cases v
  ·rw [if_neg si_]; exact Ev.ifn si_ j2f
  ·refine Ev.ifp (rfl : true = true) (Ev.bind (ev_isAfter s q hq0) ?_);by_cases c2 : aftF s q = true
   ·rw [if_pos ⟨c1, rfl, c2⟩, c2]; exact j2t
   ·rw [if_neg (fun h => c2 h.2.2), bF_ c2]; exact j2f
 ·rw [if_neg (fun h => c1 h.1)];exact Ev.ifn c1 j2f
theorem ev_implLoop (s : BA) (hm : s.size ≤ 140737488351232) (p : Int) (v : Bool) (p0 : 0 ≤ p) (p1 : p + 1 ≤ s.size) (L : List ByteArray) (hL : ∀ n ∈ L, n.size ≤ 100) (hl : L.length ≤ 1000) (d : Nat) : ∀ (j : Int) (b : BA), 0 ≤ j → L.length - j.toNat = d → j ≤ L.length → standsAt s (p + 1) b → b.size ≤ 100 →
  Ev (fun k => impl_Ref.l0 k s p v (s.extract (p + 1).toNat s.size) b L (L.length : Int) j) (refT s p v (longF s (p + 1) (L.drop j.toNat) b)) := by
 induction d with
 | zero =>
  intro j b h0 hd hj hst hsz;rw [List.drop_of_length_le om_];exact Ev.step (fun k => by simp only [impl_Ref.l0]; rfl) (Ev.ifn om_ (ev_implTail s hm p p0 v b (by have := hst.1; omega) hsz))
 | succ d ih =>
  intro j b h0 hd hj hst hsz;have hjl : j.toNat < L.length := om_;have hszn := hL _ (List.getElem_mem hjl);have hw1 : wrap64 (j + 1) = j + 1 := by unfold wrap64; omega
  have hj1 : (j + 1).toNat = j.toNat + 1 := om_;rw [List.drop_eq_getElem_cons hjl];unfold longF;refine Ev.step (fun k => by simp only [impl_Ref.l0]; rfl) (Ev.ifp om_ (Ev.ifp h0 (Ev.ifp om_ ?_)));rw [rdOf_at L j hjl, hw1];generalize hn : L[j.toNat] = n at *;have ih2 := fun b => ih (j + 1) b om_ om_ om_
  rw [hj1] at ih2;by_cases c1 : (n.size : Int) > (b.size : Int)
  ·refine Ev.ifp c1 (Ev.bindc (hasPrefix_f s (p + 1) n om_ p1) ?_);by_cases c3 : standsAt s (p + 1) n
   ·rw [if_pos ⟨om_, c3⟩, dE_ c3];exact Ev.ifp (rfl : true = true) (ih2 n c3 hszn)
   ·rw [if_neg (fun h => c3 h.2), dF_ c3];exact Ev.ifn si_ (ih2 b hst hsz)
  ·rw [if_neg (fun h => c1 (by have := h.1; omega))];exact Ev.ifn c1 (ih2 b hst hsz)
theorem bt_byte (s : BA) (q : Int) (h0 : 0 ≤ q) (h1 : q < (s.size : Int)) : ((s[q.toNat]'om_).toNat : Int) = bt s q := bt_at s q om_
theorem stands_one (s : BA) (q : Int) (c : UInt8) (h0 : 0 ≤ q) : standsAt s q (⟨#[c]⟩ : BA) ↔ q < (s.size : Int) ∧ bt s q = (c.toNat : Int) := by
 unfold standsAt;have h1 : (⟨#[c]⟩ : BA).size = 1 := rfl;have h2 : (⟨#[c]⟩ : BA).toList = [c] := by rw [ByteArray.toList_eq]
 rw [h1, h2, ByteArray.toList_eq, extract_list];constructor
 ·rintro ⟨ha, hb⟩;have hq : q.toNat < s.size := om_;refine ⟨om_, ?_⟩;rw [drop_cons s q.toNat hq, show (q + ((1 : Nat) : Int)).toNat - q.toNat = 1 by omega] at hb;simp at hb
  rw [← bt_byte s q h0 om_, hb]
 ·rintro ⟨ha, hb⟩;have hq : q.toNat < s.size := om_;refine ⟨om_, ?_⟩;rw [drop_cons s q.toNat hq, show (q + ((1 : Nat) : Int)).toNat - q.toNat = 1 by omega];have := bt_byte s q h0 ha;rw [hb] at this;simp
  exact UInt8.toNat_inj.mp om_
def hexF (s : BA) (i : Int) : Bool := decide (i < (s.size : Int) ∧ (bt s i = 120 ∨ bt s i = 88))
def froF (s : BA) (p : Int) : Int := if hexF s (p + 2) = true then p + 3 else p + 2
def numberF (s : BA) (p : Int) : ByteArray × Int := numR s p (froF s p) (numE s (hexF s (p + 2)) (froF s p) 0)
theorem froF_le (s : BA) (p : Int) (h : p + 2 ≤ s.size) : p + 2 ≤ froF s p ∧ froF s p ≤ s.size := by
 unfold froF hexF;split
 ·rename_i hh
  have := (of_decide_eq_true hh).1;omega
 ·omega
theorem ev_specNumber (s : BA) (hm : s.size ≤ 140737488351232) (p : Int) (p0 : 0 ≤ p) (h : p + 2 ≤ s.size) : Ev (fun k => spec_l3Number.f k s p) (numberF s p) := by
 have hw : wrap64 (p + 2) = p + 2 := by unfold wrap64; omega
 have hfl := froF_le s p h;have run : ∀ hex : Bool, Ev (fun k => spec_l3Number.j0 k s p (p + 2) hex) (numR s p (if hex = true then p + 3 else p + 2) (numE s hex (if hex = true then p + 3 else p + 2) 0)) ∨ ¬ ((if hex = true then p + 3 else p + 2) ≤ (s.size : Int)) := by
  intro hex;by_cases hc : (if hex = true then p + 3 else p + 2) ≤ (s.size : Int)
  ·left
   refine Ev.step (fun k => by simp only [spec_l3Number.j0]; rfl) ?_;cases hex
   ·refine Ev.ifn si_ (Ev.step (fun k => by simp only [spec_l3Number.j1]; rfl) ?_);simp only [Bool.false_eq_true, if_false] at hc ⊢;exact ev_specNum s hm p (p + 2) false p0 _ (p + 2) 0 om_ om_ hc om_ om_ rfl
   ·refine Ev.ifp (rfl : true = true) (Ev.step (fun k => by simp only [spec_l3Number.j1]; rfl) ?_);simp only [if_true] at hc ⊢;rw [show wrap64 (p + 2 + 1) = p + 3 by unfold wrap64; omega];exact ev_specNum s hm p (p + 3) true p0 _ (p + 3) 0 om_ om_ hc om_ om_ rfl
  ·exact .inr hc
 have fin : Ev (fun k => spec_l3Number.j0 k s p (p + 2) (hexF s (p + 2))) (numberF s p) := by
  rcases run (hexF s (p + 2)) with h1 | h1
  ·exact h1
  ·exact absurd hfl.2 h1
 unfold spec_l3Number.f;rw [hw];by_cases c : p + 2 < (s.size : Int)
 ·refine Ev.ifp c (Ev.ifp om_ ?_);by_cases c1 : bt s (p + 2) = 120
  ·have : hexF s (p + 2) = true := by unfold hexF; exact dE_ ⟨c, .inl c1⟩
   rw [this] at fin;exact Ev.ifp c1 fin
  ·have : hexF s (p + 2) = (bt s (p + 2) == 88) := by
    unfold hexF;by_cases c2 : bt s (p + 2) = 88
    ·rw [dE_ ⟨c, .inr c2⟩, c2]; rfl
    ·rw [dF_ om_]; exact (bN_ c2).symm
   rw [this] at fin;exact Ev.ifn c1 fin
 ·have : hexF s (p + 2) = false := by unfold hexF; exact dF_ (fun h => c h.1)
  rw [this] at fin;exact Ev.ifn c fin
theorem ev_implNumber (s : BA) (hm : s.size ≤ 140737488351232) (p : Int) (p0 : 0 ≤ p) (h : p + 2 ≤ s.size) : Ev (fun k => impl_numberRef.f k s p) (numberF s p) := by
 have hw : wrap64 (p + 2) = p + 2 := by unfold wrap64; omega
 have hfl := froF_le s p h;have run : ∀ hex : Bool, Ev (fun k => impl_numberRef.j0 k s p (p + 2) 10 hex) (numR s p (if hex = true then p + 3 else p + 2) (numE s hex (if hex = true then p + 3 else p + 2) 0)) ∨ ¬ ((if hex = true then p + 3 else p + 2) ≤ (s.size : Int)) := by
  intro hex;by_cases hc : (if hex = true then p + 3 else p + 2) ≤ (s.size : Int)
  ·left
   refine Ev.step (fun k => by simp only [impl_numberRef.j0]; rfl) ?_;cases hex
   ·refine Ev.ifn si_ (Ev.step (fun k => by simp only [impl_numberRef.j1]; rfl) ?_);simp only [Bool.false_eq_true, if_false] at hc ⊢;exact ev_implNum s hm p (p + 2) false p0 _ (p + 2) 0 om_ om_ hc om_ om_ rfl
   ·refine Ev.ifp (rfl : true = true) (Ev.step (fun k => by simp only [impl_numberRef.j1]; rfl) ?_);simp only [if_true] at hc ⊢;rw [show wrap64 (p + 2 + 1) = p + 3 by unfold wrap64; omega];exact ev_implNum s hm p (p + 3) true p0 _ (p + 3) 0 om_ om_ hc om_ om_ rfl
  ·exact .inr hc
 have fin : Ev (fun k => impl_numberRef.j0 k s p (p + 2) 10 (hexF s (p + 2))) (numberF s p) := by
  rcases run (hexF s (p + 2)) with h1 | h1
  ·exact h1
  ·exact absurd hfl.2 h1
 unfold impl_numberRef.f;rw [hw];by_cases c : p + 2 < (s.size : Int)
 ·refine Ev.ifp c (Ev.ifp om_ ?_);by_cases c1 : bt s (p + 2) = 120
  ·have : hexF s (p + 2) = true := by unfold hexF; exact dE_ ⟨c, .inl c1⟩
   rw [this] at fin;exact Ev.ifp c1 fin
  ·have : hexF s (p + 2) = (bt s (p + 2) == 88) := by
    unfold hexF;by_cases c2 : bt s (p + 2) = 88
    ·rw [dE_ ⟨c, .inr c2⟩, c2]; rfl
    ·rw [dF_ om_]; exact (bN_ c2).symm
   rw [this] at fin;exact Ev.ifn c1 fin
 ·have : hexF s (p + 2) = false := by unfold hexF; exact dF_ (fun h => c h.1)
  rw [this] at fin;exact Ev.ifn c fin
def refA (s : BA) (p : Int) (v : Bool) : ByteArray × Int :=
 if bt s p = 38 then (if p + 1 < (s.size : Int) ∧ bt s (p + 1) = 35 then numberF s p else refT s p v (longF s (p + 1) namedL ⟨#[]⟩)) else (⟨#[]⟩, 0)
theorem stands_nil (s : BA) (q : Int) (h0 : 0 ≤ q) (h1 : q ≤ s.size) : standsAt s q (⟨#[]⟩ : BA) := by
 refine ⟨by show q + ((0 : Nat) : Int) ≤ _; omega, ?_⟩;rw [ByteArray.toList_eq, ByteArray.toList_eq, extract_list, show (q + ((⟨#[]⟩ : BA).size : Int)).toNat - q.toNat = 0 by show (q + ((0 : Nat) : Int)).toNat - q.toNat = 0; omega];simp
theorem ev_specRef (s : BA) (hm : s.size ≤ 140737488351232) (p : Int) (v : Bool) (p0 : 0 ≤ p) (p1 : p < (s.size : Int)) : Ev (fun k => spec_Ref.f k s p v) (refA s p v) := by
 have hw1 : wrap64 (p + 1) = p + 1 := by unfold wrap64; omega
 unfold spec_Ref.f refA;refine Ev.ifn om_ (Ev.ifn om_ (Ev.ifp p0 (Ev.ifp p1 ?_)));by_cases c : bt s p = 38
 ·rw [if_pos c, show (bt s p != 38) = false by rw [c]; rfl];refine Ev.step (fun k => by simp only [spec_Ref.j0]; rfl) (Ev.ifn si_ ?_);rw [hw1];have j1f : ¬ (p + 1 < (s.size : Int) ∧ bt s (p + 1) = 35) → Ev (fun k => spec_Ref.j1 k s p v false) (refT s p v (longF s (p + 1) namedL ⟨#[]⟩)) := by
   intro hn;refine Ev.step (fun k => by simp only [spec_Ref.j1]; rfl) (Ev.ifn si_ (Ev.bind (a := longF s (p + 1) namedL ⟨#[]⟩) ?_ ?_))
   ·rw [hw1];refine Ev.congr (fun k => by unfold spec_l3Longest.f; rw [specNamed_f, Option.bind_some]) ?_;exact ev_longest s hm (p + 1) om_ om_ namedL named_le de_ 14 0 ⟨#[]⟩ om_ rfl de_
   ·have hst := longF_ok s (p + 1) namedL ⟨#[]⟩ (stands_nil s (p + 1) om_ om_);have hsz := longF_le s (p + 1) 100 namedL ⟨#[]⟩ named_le (by show 0 ≤ 100; omega);exact ev_specTail s hm p p0 v _ (by have := hst.1; omega) hsz
  by_cases c1 : p + 1 < (s.size : Int)
  ·refine Ev.ifp c1 (Ev.ifp om_ ?_);by_cases c2 : bt s (p + 1) = 35
   ·rw [if_pos ⟨c1, c2⟩, show (bt s (p + 1) == 35) = true by rw [c2]; rfl];refine Ev.step (fun k => by simp only [spec_Ref.j1]; rfl) (Ev.ifp (rfl : true = true) (Ev.bind (ev_specNumber s hm p p0 om_) (Ev.now _)))
   ·rw [if_neg (fun h => c2 h.2), show (bt s (p + 1) == 35) = false from bN_ c2];exact j1f (fun h => c2 h.2)
  ·rw [if_neg (fun h => c1 h.1)];exact Ev.ifn c1 (j1f (fun h => c1 h.1))
 ·rw [if_neg c, show (bt s p != 38) = true from nN_ c];exact Ev.step (fun k => by simp only [spec_Ref.j0]; rfl) (Ev.ifp (rfl : true = true) (Ev.now _))
theorem ev_implRef (s : BA) (hm : s.size ≤ 140737488351232) (p : Int) (v : Bool) (p0 : 0 ≤ p) (p1 : p < (s.size : Int)) : Ev (fun k => impl_Ref.f k s p v) (refA s p v) := by
 have hw1 : wrap64 (p + 1) = p + 1 := by unfold wrap64; omega
 have hw2 : wrap64 ((s.size : Int) - 1) = (s.size : Int) - 1 := by unfold wrap64; omega
 unfold impl_Ref.f refA;refine Ev.bindc (inRange_f _ _ _) ?_;rw [hw2, dE_ (show 0 ≤ p ∧ p ≤ (s.size : Int) - 1 by omega)];refine Ev.ifp (rfl : true = true) (Ev.ifp p0 (Ev.ifp p1 ?_));by_cases c : bt s p = 38
 ·rw [if_pos c, show (bt s p != 38) = false by rw [c]; rfl];refine Ev.step (fun k => by simp only [impl_Ref.j0]; rfl) (Ev.ifn si_ ?_);rw [hw1];refine Ev.ifp om_ (Ev.ifp om_ (Ev.bindc (hasPrefix_f s (p + 1) ⟨#[35]⟩ om_ om_) ?_));have h35 := stands_one s (p + 1) 35 om_;by_cases c2 : p + 1 < (s.size : Int) ∧ bt s (p + 1) = 35
  ·rw [if_pos c2, dE_ (h35.mpr c2)];exact Ev.ifp (rfl : true = true) (Ev.bind (ev_implNumber s hm p p0 om_) (Ev.now _))
  ·rw [if_neg c2, dF_ (fun h => c2 (h35.mp h))];refine Ev.ifn si_ (Ev.bindc named_f ?_);exact ev_implLoop s hm p v p0 om_ namedL named_le de_ 14 0 ⟨#[]⟩ om_ rfl de_ (stands_nil s (p + 1) om_ om_) (by show 0 ≤ 100; omega)
 ·rw [if_neg c, show (bt s p != 38) = true from nN_ c];exact Ev.step (fun k => by simp only [impl_Ref.j0]; rfl) (Ev.ifp (rfl : true = true) (Ev.now _))
theorem semi_le (s : BA) (i : Int) (h : i ≤ s.size) : i ≤ semi s i ∧ semi s i ≤ s.size := by
 unfold semi;split
 ·rename_i hh; have := hh.1; omega
 ·omega
theorem refA_le (s : BA) (p : Int) (v : Bool) (p0 : 0 ≤ p) (p1 : p < (s.size : Int)) : 0 ≤ (refA s p v).2 ∧ p + (refA s p v).2 ≤ s.size ∧ (refA s p v).1.size ≤ 4 := by
 have hz : (⟨#[]⟩ : BA).size = 0 := rfl;unfold refA;split
 ·split
  ·rename_i h
   have hf := froF_le s p om_;have he := numE_le (s := s) (hex := hexF s (p + 2)) _ (froF s p) 0 rfl hf.2;unfold numberF numR;generalize numE s (hexF s (p + 2)) (froF s p) 0 = e at *;have hs := semi_le s e.1 he.2;have hput := putF_size (numF e.2);unfold semi at hs;split
   ·simp only [hz]; omega
   ·simp only; omega
  ·have hst := longF_ok s (p + 1) namedL ⟨#[]⟩ (stands_nil s (p + 1) om_ om_);unfold refT;generalize longF s (p + 1) namedL ⟨#[]⟩ = b at *;have hs := semi_le s (p + 1 + b.size) hst.1;have hput := putF_size (sgnF b);split
   ·simp only [hz]; omega
   ·split
    ·simp only [hz]; omega
    ·simp only; omega
 ·simp only [hz]; omega
def refsF (s : BA) (v : Bool) (j : Int) : List UInt8 :=
 if j < (s.size : Int) then (if (refA s j v).2 > 0 then (refA s j v).1.data.toList ++ refsF s v (j + (refA s j v).2) else byU s j :: refsF s v (j + 1)) else []
termination_by ((s.size : Int) - j).toNat
decreasing_by all_goals omega
def asInts (l : List UInt8) : List Int := l.map fun b => (b.toNat : Int)
theorem strOf_asInts (l : List UInt8) : strOfNums (asInts l) = ⟨l.toArray⟩ := by
 unfold strOfNums asInts;congr 2
 rw [List.map_map];conv => rhs; rw [← List.map_id l]
 apply List.map_congr_left
 intro b _;simp
theorem ev_refs (s : BA) (v : Bool) (hm : s.size ≤ 1048576) (d : Nat) : ∀ (j : Int) (out : List UInt8), 0 ≤ j → ((s.size : Int) - j).toNat ≤ d → out.length + 4 * d ≤ 140737488355000 →
  Ev (fun k => spec_Refs.l0 k s v (asInts out) j) (⟨(out ++ refsF s v j).toArray⟩) ∧ Ev (fun k => impl_Refs.l0 k s v out j) (⟨(out ++ refsF s v j).toArray⟩) := by
 induction d with
 | zero =>
  intro j out h0 hd hl;rw [refsF, if_neg om_, List.append_nil];constructor
  ·rw [← strOf_asInts];exact Ev.step (fun k => by simp only [spec_Refs.l0]; rfl) (Ev.ifn om_ (Ev.now _))
  ·exact Ev.step (fun k => by simp only [impl_Refs.l0]; rfl) (Ev.ifn om_ (Ev.now _))
 | succ d ih =>
  intro j out h0 hd hl;by_cases hj : j < (s.size : Int)
  ·have hle := refA_le s j v h0 hj;have e1 := ev_specRef s om_ j v h0 hj;have e2 := ev_implRef s om_ j v h0 hj;rw [refsF, if_pos hj];have hsz : (refA s j v).1.size = (refA s j v).1.data.toList.length := (data_length _).symm;generalize refA s j v = t at *;have hlen : (asInts out).length = out.length := by simp [asInts]
   by_cases hu : t.2 > 0
   ·have hw : wrap64 (j + t.2) = j + t.2 := by unfold wrap64; omega
    have ih2 := ih (j + t.2) (out ++ t.1.data.toList) om_ om_ (by rw [List.length_append]; omega);rw [if_pos hu, ← List.append_assoc];constructor
    ·refine Ev.step (fun k => by simp only [spec_Refs.l0]; rfl) (Ev.ifp hj (Ev.bind e1 (Ev.ifp hu (Ev.ifp (show (asInts out).length + t.1.size ≤ 140737488355327 by rw [hlen]; omega) ?_))));rw [hw, show asInts out ++ bytesOf t.1 = asInts (out ++ t.1.data.toList) by simp [asInts, bytesOf]];exact ih2.1
    ·refine Ev.step (fun k => by simp only [impl_Refs.l0]; rfl) (Ev.ifp hj (Ev.bind e2 (Ev.ifn (show ¬ t.2 = 0 by omega) (Ev.ifp (show out.length + t.1.size ≤ 140737488355328 by omega) ?_))));rw [hw];exact ih2.2
   ·have hw : wrap64 (j + 1) = j + 1 := by unfold wrap64; omega
    have ih2 := ih (j + 1) (out ++ [byU s j]) om_ om_ (by rw [List.length_append, List.length_singleton]; omega);rw [if_neg hu, show out ++ byU s j :: refsF s v (j + 1) = (out ++ [byU s j]) ++ refsF s v (j + 1) by simp];constructor
    ·refine Ev.step (fun k => by simp only [spec_Refs.l0]; rfl) (Ev.ifp hj (Ev.bind e1 (Ev.ifn hu (Ev.ifp h0 (Ev.ifp (show (asInts out).length < 140737488355328 by rw [hlen]; omega) ?_)))));rw [hw, show asInts out ++ [bt s j] = asInts (out ++ [byU s j]) by simp [asInts, byU_bt]];exact ih2.1
    ·refine Ev.step (fun k => by simp only [impl_Refs.l0]; rfl) (Ev.ifp hj (Ev.bind e2 (Ev.ifp (show t.2 = 0 by omega) (Ev.ifp h0 (Ev.ifp (show out.length + 1 ≤ 140737488355328 by omega) ?_)))));rw [hw];exact ih2.2
  ·rw [refsF, if_neg hj, List.append_nil];constructor
   ·rw [← strOf_asInts];exact Ev.step (fun k => by simp only [spec_Refs.l0]; rfl) (Ev.ifn hj (Ev.now _))
   ·exact Ev.step (fun k => by simp only [impl_Refs.l0]; rfl) (Ev.ifn hj (Ev.now _))
def refsB (s : BA) (v : Bool) : ByteArray := ⟨(refsF s v 0).toArray⟩
theorem ev_specRefs (s : BA) (v : Bool) (hm : s.size ≤ 1048576) : Ev (fun k => spec_Refs.f k s v) (refsB s v) :=
 (ev_refs s v hm s.size 0 [] om_ om_ (by simp; omega)).1
theorem ev_implRefs (s : BA) (v : Bool) (hm : s.size ≤ 1048576) : Ev (fun k => impl_Refs.f k s v) (refsB s v) :=
 (ev_refs s v hm s.size 0 [] om_ om_ (by simp; omega)).2
theorem ovr_f {s : BA} {k : Int} (h : k < (s.size : Int)) : ovr s k false = false := by simp [ovr]; omega
theorem ovr_t {s : BA} {k : Int} (h : k < (s.size : Int)) (h1 : blk (bt s k) = true ∨ bt s k = 47) : ovr s k true = false := by
 have h62 : ¬ (bt s k = 62) := by
  rintro h62;rw [h62] at h1;rcases h1 with h1 | h1
  ·simp [blk] at h1
  ·omega
 simp [ovr, h62]; omega
theorem sep_tf (s : BA) (d : Nat) : ∀ (k : Int) (b : Bool), ((s.size : Int) - k).toNat = d → sepF s true k b = sepF s false k b := by
 induction d with
 | zero => intro k b hd; rw [sepF_stop (.inl om_), sepF_stop (.inl om_)]
 | succ d ih =>
  intro k b hd;by_cases h : blk (bt s k) = true ∨ bt s k = 47
  ·rw [sepF_go om_ (ovr_t om_ h) h, sepF_go om_ (ovr_f om_) h];exact ih (k + 1) _ om_
  ·rw [sepF_stop (.inr (fun hh => h hh.2)), sepF_stop (.inr (fun hh => h hh.2))]
theorem sep_flag (s : BA) (d : Nat) : ∀ (k : Int) (b : Bool), ((s.size : Int) - k).toNat = d → (sepF s false k b).2 = if (sepF s false k b).1 > k then (bt s ((sepF s false k b).1 - 1) == 47) else b := by
 induction d with
 | zero => intro k b hd; rw [sepF_stop (.inl om_), if_neg (by simp only; omega)]
 | succ d ih =>
  intro k b hd;by_cases h : blk (bt s k) = true ∨ bt s k = 47
  ·rw [sepF_go om_ (ovr_f om_) h];have hle := sepF_le (s := s) (e := false) _ (k + 1) (bt s k == 47) rfl om_;rw [ih (k + 1) _ om_];by_cases c : (sepF s false (k + 1) (bt s k == 47)).1 > k + 1
   ·rw [if_pos c, if_pos om_]
   ·have he : (sepF s false (k + 1) (bt s k == 47)).1 = k + 1 := om_;rw [if_neg c, if_pos om_, he, show k + 1 - 1 = k by omega]
  ·rw [sepF_stop (.inr (fun hh => h hh.2)), if_neg (by simp only; omega)]
theorem sep_past (s : BA) (d : Nat) : ∀ (k : Int), ((s.size : Int) - k).toNat = d → sepF s false (pastB s k) false = sepF s false k false := by
 induction d with
 | zero => intro k hd; rw [pastB_stop (.inl om_)]
 | succ d ih =>
  intro k hd;by_cases h : blk (bt s k) = true
  ·have h47 : (bt s k == 47) = false := by
    refine bN_ (fun hh => ?_);rw [hh] at h;simp [blk] at h
   rw [pastB_go om_ h, ih (k + 1) om_, sepF_go (k := k) om_ (ovr_f om_) (.inl h), h47]
  ·rw [pastB_stop (.inr (by simpa using h))]
theorem has_any (l : List (S84)) (nm : BA) (hl : l.length ≤ 140737488351232) (d : Nat) : ∀ (j : Int), 0 ≤ j → l.length - j.toNat = d → j ≤ l.length → Ev (fun k => spec_l4Has.l0 k l nm j) ((l.drop j.toNat).any fun x => x.f0.toList == nm.toList) := by
 induction d with
 | zero =>
  intro j h0 hd hj;rw [List.drop_of_length_le om_];exact Ev.step (fun k => by simp only [spec_l4Has.l0]; rfl) (Ev.ifn (show ¬ j < (l.length : Int) by omega) (Ev.now _))
 | succ d ih =>
  intro j h0 hd hj;have hjl : j.toNat < l.length := om_;have hw1 : wrap64 (j + 1) = j + 1 := by unfold wrap64; omega
  have hrd : rd_T84 l j = l[j.toNat] := by unfold rd_T84; rw [List.getD_eq_getElem?_getD, List.getElem?_eq_getElem hjl]; rfl
  rw [List.drop_eq_getElem_cons hjl, List.any_cons];refine Ev.step (fun k => by simp only [spec_l4Has.l0]; rfl) (Ev.ifp (show j < (l.length : Int) by omega) (Ev.ifp h0 ?_));rw [hrd, hw1];have ih2 := ih (j + 1) om_ om_ om_;rw [show (j + 1).toNat = j.toNat + 1 by omega] at ih2;by_cases c : (l[j.toNat]).f0.toList = nm.toList
  ·rw [show ((l[j.toNat]).f0.toList == nm.toList) = true from bQ_ c, Bool.true_or];exact Ev.ifp c (Ev.now _)
  ·rw [show ((l[j.toNat]).f0.toList == nm.toList) = false from bN_ c, Bool.false_or];exact Ev.ifn c ih2
theorem ev_has (l : List (S84)) (nm : BA) (hl : l.length ≤ 140737488351232) : Ev (fun k => spec_l4Has.f k l nm) (l.any fun x => x.f0.toList == nm.toList) := by
 have := has_any l nm hl l.length 0 om_ si_ om_;unfold spec_l4Has.f;simpa using this
theorem nm_moreF {s : BA} {j : Int} (h : j < (s.size : Int)) (h1 : blk (bt s j) = false) (h2 : bt s j ≠ 47) : nmF s false j j = nmF s false j (j + 1) := by
 refine nmF_go h (ovr_f h) ?_;have : decide (j < j) = false := dF_ om_;simp [inNm, h1, h2]
theorem extract_none (s : BA) (a : Nat) : s.extract a a = ⟨#[]⟩ := by
 apply ByteArray.ext
 rw [ByteArray.data_extract];apply Array.ext'
 rw [Array.toList_extract, List.extract_eq_take_drop];simp
theorem ext_size (s : BA) (a b : Nat) (h : b ≤ s.size) : (s.extract a b).size ≤ s.size := by rw [ByteArray.size_extract]; omega
theorem value_f (s : BA) (ne : Int) (sa : Bool) (hm : s.size ≤ 1048576) (h0 : 0 ≤ ne) (h1 : ne ≤ s.size) :
  ∃ (t : BA) (g : Bool) (q : Int), impl_tagger_value.f s ne false sa = some (t, g, s, q, false, sa) ∧ ne ≤ q ∧ q ≤ s.size ∧ t.size ≤ s.size ∧
   ((pastB s ne < (s.size : Int) ∧ bt s (pastB s ne) = 61 ∧ Ev (fun k => spec_l4Value.f k s (pastB s (pastB s ne + 1))) (t, q)) ∨ (¬ (pastB s ne < (s.size : Int) ∧ bt s (pastB s ne) = 61) ∧ t = ⟨#[]⟩ ∧ q = pastB s ne)) := by
 have hm' : s.size ≤ 140737488351232 := om_;unfold impl_tagger_value.f;rw [if_pos ⟨h0, h1, hm'⟩];obtain ⟨c1, c2⟩ := pastB_le (s := s) _ ne rfl h1;generalize pastB s ne = k1 at *;by_cases c : k1 < (s.size : Int) ∧ bt s k1 = 61
 ·rw [if_pos ⟨ovr_f c.1, c.2⟩];obtain ⟨d1, d2⟩ := pastB_le (s := s) _ (k1 + 1) rfl om_;generalize pastB s (k1 + 1) = k2 at *;by_cases e1 : k2 < (s.size : Int)
  ·have hb := bt_range s k2;have hw : wrap64 (k2 + 1) = k2 + 1 := by unfold wrap64; omega
   rw [ovr_f e1, if_neg si_];by_cases e2 : bt s k2 = 34 ∨ bt s k2 = 39
   ·rw [if_pos e2, quoted_f s k2 false sa hm' om_ e1];have hj0 : ∀ r, Ev (fun k => spec_l4Value.j0 k s k2 true) r → Ev (fun k => spec_l4Value.f k s k2) r := by
     intro r hr;unfold spec_l4Value.f;refine Ev.ifp e1 (Ev.ifp om_ ?_);by_cases e3 : bt s k2 = 34
     ·exact Ev.ifp e3 hr
     ·have e4 : bt s k2 = 39 := e2.resolve_left e3;rw [show (bt s k2 == 39) = true by rw [e4]; rfl];exact Ev.ifn e3 hr
    have hfn := ev_find s hm' (k2 + 1) (bt s k2) om_ om_;have hle := fnd_le (s := s) (c := bt s k2) _ (k2 + 1) rfl om_;generalize fndF s (k2 + 1) (bt s k2) = fn at *;by_cases e5 : fn < 0
    ·rw [if_pos e5];refine ⟨_, _, _, rfl, om_, om_, ext_size _ _ _ (Nat.le_refl _), .inl ⟨c.1, c.2, hj0 _ ?_⟩⟩;refine Ev.step (fun k => by simp only [spec_l4Value.j0]; rfl) (Ev.ifp (rfl : true = true) (Ev.ifp (show 0 ≤ k2 by omega) (Ev.ifp e1 ?_)));rw [hw];exact Ev.bind hfn (Ev.ifn (show ¬ fn ≥ 0 by omega) (Ev.ifp (show 0 ≤ k2 + 1 by omega) (Ev.ifp (show k2 + 1 ≤ (s.size : Int) by omega) (Ev.now _))))
    ·have hle2 := hle e5;rw [if_neg e5];refine ⟨_, _, _, rfl, om_, om_, ext_size _ _ _ om_, .inl ⟨c.1, c.2, hj0 _ ?_⟩⟩;refine Ev.step (fun k => by simp only [spec_l4Value.j0]; rfl) (Ev.ifp (rfl : true = true) (Ev.ifp (show 0 ≤ k2 by omega) (Ev.ifp e1 ?_)));rw [hw];refine Ev.bind hfn (Ev.ifp (show fn ≥ 0 by omega) (Ev.ifp (show 0 ≤ k2 + 1 by omega) (Ev.ifp (show k2 + 1 ≤ fn by omega) (Ev.ifp (show fn ≤ (s.size : Int) by omega) ?_))));rw [show wrap64 (fn + 1) = fn + 1 by unfold wrap64; omega];exact Ev.now _
   ·rw [if_neg e2];have hpl := plF_le (s := s) (e := false) _ k2 rfl d2;have evp := ev_plain s hm' k2 false om_ d2;generalize plF s false k2 = q at *;refine ⟨_, _, _, rfl, om_, om_, ext_size _ _ _ om_, .inl ⟨c.1, c.2, ?_⟩⟩;unfold spec_l4Value.f;refine Ev.ifp e1 (Ev.ifp (show 0 ≤ k2 by omega) (Ev.ifn (fun h => e2 (.inl h)) ?_));rw [show (bt s k2 == 39) = false from bN_ (fun h => e2 (.inr h))];exact Ev.step (fun k => by simp only [spec_l4Value.j0]; rfl) (Ev.ifn si_ (Ev.bind evp (Ev.ifp (show 0 ≤ k2 by omega) (Ev.ifp hpl.1 (Ev.ifp hpl.2 (Ev.now _))))))
  ·have ho : ovr s k2 false = true := by simp [ovr]; omega
   rw [if_pos ho];refine ⟨_, _, _, rfl, om_, om_, Nat.zero_le _, .inl ⟨c.1, c.2, ?_⟩⟩;have evp := ev_plain s hm' k2 false om_ d2;have hst : plF s false k2 = k2 := by rw [plF, if_neg e1]
   rw [hst] at evp;unfold spec_l4Value.f;refine Ev.ifn e1 (Ev.step (fun k => by simp only [spec_l4Value.j0]; rfl) (Ev.ifn si_ (Ev.bind evp (Ev.ifp (show 0 ≤ k2 by omega) (Ev.ifp (Int.le_refl _) (Ev.ifp d2 ?_))))));rw [extract_none];exact Ev.now _
 ·have hn : ¬ (ovr s k1 false = false ∧ bt s k1 = 61) := fun h => c ⟨ovr_lt h.1, h.2⟩
  rw [if_neg hn];exact ⟨_, _, _, rfl, om_, om_, Nat.zero_le _, .inr ⟨c, rfl, rfl⟩⟩
theorem refsB_nil (v : Bool) : refsB ⟨#[]⟩ v = ⟨#[]⟩ := by
 unfold refsB;rw [refsF, if_neg (show ¬ ((0 : Int) < (((⟨#[]⟩ : BA).size : Nat) : Int)) by show ¬ ((0 : Int) < ((0 : Nat) : Int)); omega)]
def smallB (s : BA) : ByteArray := strOfNums ((bytesOf s).map lowB)
theorem implSmall_f (s : BA) (h : s.size ≤ 140737488351232) : impl_Small.f s = some (smallB s) := by unfold impl_Small.f; rw [if_pos om_]; rfl
theorem specSmall_f (s : BA) (h : s.size ≤ 140737488351232) : spec_Small.f s = some (smallB s) := by unfold spec_Small.f; rw [if_pos om_]; rfl
theorem implHas_f (l : List (S84)) (nm : BA) (hl : l.length ≤ 140737488351232) : impl_hasAttr.f l nm = some (l.any fun x => x.f0.toList == nm.toList) := by unfold impl_hasAttr.f; rw [if_pos om_]
theorem attrs_both (s : BA) (hm : s.size ≤ 1048576) (d : Nat) : ∀ (j j' : Int) (out : List (S84)), 0 ≤ j → j ≤ j' → j' ≤ s.size → sepF s false j' false = sepF s false j false → ((s.size : Int) - j).toNat ≤ d → (out.length : Int) ≤ j →
  ∃ R : List (S84) × Bool, Ev (fun k => attL k s j' out) R ∧ Ev (fun k => spec_Attrs.l0 k s out false j) R ∧ (R.1.length : Int) ≤ s.size := by
 have hm' : s.size ≤ 140737488351232 := om_;have base : ∀ (j j' : Int) (out : List (S84)), 0 ≤ j → j ≤ j' → j' ≤ s.size → sepF s false j' false = sepF s false j false → ¬ j < (s.size : Int) → (out.length : Int) ≤ j →
   ∃ R : List (S84) × Bool, Ev (fun k => attL k s j' out) R ∧ Ev (fun k => spec_Attrs.l0 k s out false j) R ∧ (R.1.length : Int) ≤ s.size := by
  intro j j' out h0 hjj hj' hsp hd hl;refine ⟨(out, false), ?_, ?_, by simp only; omega⟩
  ·refine Ev.step (fun k => by simp only [attL]; rfl) (Ev.ifp (show 0 ≤ j' ∧ j' ≤ (s.size : Int) ∧ s.size ≤ 140737488351232 from ⟨om_, hj', hm'⟩) ?_);rw [sepF_stop (s := s) (e := false) (k := j') (sl := false) (.inl om_)];exact Ev.ifp (by simp [ovr]; omega) (Ev.now _)
  ·exact Ev.step (fun k => by simp only [spec_Attrs.l0]; rfl) (Ev.ifn hd (Ev.now _))
 induction d with
 | zero => intro j j' out h0 hjj hj' hsp hd hl; exact base j j' out h0 hjj hj' hsp om_ hl
 | succ d ih =>
  intro j j' out h0 hjj hj' hsp hd hl;by_cases hj : j < (s.size : Int)
  case neg => exact base j j' out h0 hjj hj' hsp hj hl
  have evs := ev_skip s hm' j false h0 om_;rw [sep_tf s _ j false rfl] at evs;have hle := sepF_le (s := s) (e := false) _ j false rfl om_;have hfl := sep_flag s _ j false rfl;have hat := sep_at (s := s) (e := false) _ j false rfl om_;have impl : ∀ R, Ev (fun n => (if ovr s (sepF s false j false).1 false = true then some (out, (sepF s false j false).2)
   else (impl_Small.f (s.extract (sepF s false j false).1.toNat (nmF s false (sepF s false j false).1 (sepF s false j false).1).toNat)).bind fun nm =>
    (impl_tagger_value.f s (nmF s false (sepF s false j false).1 (sepF s false j false).1) false (sepF s false j false).2).bind fun v =>
    (if v.2.2.1 = s ∧ v.2.2.2.2.1 = false then
     (impl_hasAttr.f out nm).bind fun b =>
      (if b = true then attL n s v.2.2.2.1 out
      else (impl_Refs.f n v.1 true).bind fun rv => (if out.length < 4398046511104 then attL n s v.2.2.2.1 (out ++ [⟨nm, rv⟩]) else none))
    else none))) R → Ev (fun k => attL k s j' out) R := by
   intro R hR;refine Ev.step (fun k => by simp only [attL]; rfl) (Ev.ifp (show 0 ≤ j' ∧ j' ≤ (s.size : Int) ∧ s.size ≤ 140737488351232 from ⟨om_, hj', hm'⟩) ?_);rw [hsp];exact hR
  generalize sepF s false j false = J at *;obtain ⟨ja, sa⟩ := J;simp only at evs hle hfl hat impl;have hw1 : wrap64 (ja - 1) = ja - 1 := by unfold wrap64; omega
  by_cases hja : ja = s.size
  ·refine ⟨(out, sa), impl _ (Ev.ifp (by simp [ovr]; omega) (Ev.now _)), ?_, by simp only; omega⟩;rw [if_pos om_] at hfl;refine Ev.step (fun k => by simp only [spec_Attrs.l0]; rfl) (Ev.ifp hj (Ev.bind evs (Ev.ifp hja (Ev.ifp (show ja > j by omega) ?_))));rw [hw1, ← hfl];refine Ev.ifp (show 0 ≤ ja - 1 by omega) (Ev.ifp (show ja - 1 < (s.size : Int) by omega) ?_);exact Ev.step (fun k => by simp only [spec_Attrs.j1]; rfl) (Ev.ifp hja (Ev.now _))
  have hjl : ja < (s.size : Int) := om_;obtain ⟨b1, b2⟩ := hat (ovr_f hjl);have evn := ev_name s hm' ja false om_ om_;have hnl := nmF_le (s := s) (e := false) (f := ja) _ (ja + 1) rfl om_;rw [← nm_moreF hjl b1 b2] at hnl;generalize nmF s false ja ja = ne at *;obtain ⟨t, g, q, hv, q1, q2, tsz, hcase⟩ := value_f s ne sa hm om_ hnl.2;have hnm := implSmall_f (s.extract ja.toNat ne.toNat) (by rw [ByteArray.size_extract]; omega);have hnm2 := specSmall_f (s.extract ja.toNat ne.toNat) (by rw [ByteArray.size_extract]; omega);generalize smallB (s.extract ja.toNat ne.toNat) = nm at *;have hhas := implHas_f out nm om_;have evh := ev_has out nm om_;generalize (out.any fun x => x.f0.toList == nm.toList) = hb at *;have evb := ev_blanks s hm' ne om_ hnl.2;obtain ⟨c1, c2⟩ := pastB_le (s := s) _ ne rfl hnl.2;have hpast := sep_past s _ ne rfl;have ho : ¬ (ovr s ja false = true) := by rw [ovr_f hjl]; simp
  have evr := ev_implRefs t true om_;have evr2 := ev_specRefs t true om_
  -- where both go on
  have next : ∀ (sj : Int) (out' : List (S84)), (sj = q ∨ (sj = ne ∧ q = pastB s ne)) → (out'.length : Int) ≤ ne →
    ∃ R : List (S84) × Bool, Ev (fun k => attL k s q out') R ∧ Ev (fun k => spec_Attrs.l0 k s out' false sj) R ∧ (R.1.length : Int) ≤ s.size := by
   intro sj out' hs' hl';refine ih sj q out' om_ om_ om_ ?_ om_ om_;rcases hs' with rfl | ⟨rfl, rfl⟩
   ·rfl
   ·exact hpast
  have im1 : ∀ R, hb = true → Ev (fun k => attL k s q out) R → Ev (fun k => attL k s j' out) R := by
   intro R hbt hR;refine impl R (Ev.ifn ho (Ev.bindc hnm (Ev.bindc hv (Ev.ifp (show s = s ∧ false = false from ⟨rfl, rfl⟩) (Ev.bindc hhas ?_)))));rw [hbt];exact Ev.ifp (rfl : true = true) hR
  have im2 : ∀ R, hb = false → Ev (fun k => attL k s q (out ++ [⟨nm, refsB t true⟩])) R → Ev (fun k => attL k s j' out) R := by
   intro R hbt hR;refine impl R (Ev.ifn ho (Ev.bindc hnm (Ev.bindc hv (Ev.ifp (show s = s ∧ false = false from ⟨rfl, rfl⟩) (Ev.bindc hhas ?_)))));rw [hbt];exact Ev.ifn si_ (Ev.bind evr (Ev.ifp (show out.length < 4398046511104 by omega) hR))
  have sp : ∀ R, Ev (fun k => spec_Attrs.j1 k s out false ja) R → Ev (fun k => spec_Attrs.l0 k s out false j) R := by
   intro R hR;exact Ev.step (fun k => by simp only [spec_Attrs.l0]; rfl) (Ev.ifp hj (Ev.bind evs (Ev.ifn hja hR)))
  have sp2 : ∀ R, Ev (fun k => if pastB s ne < (s.size : Int) then (if 0 ≤ pastB s ne then (spec_Attrs.j2 k s out false ne (pastB s ne) ((bt s (pastB s ne)) == 61) nm (⟨#[]⟩ : BA)) else (none)) else (spec_Attrs.j2 k s out false ne (pastB s ne) false nm (⟨#[]⟩ : BA))) R → Ev (fun k => spec_Attrs.j1 k s out false ja) R := by
   intro R hR;exact Ev.step (fun k => by simp only [spec_Attrs.j1]; rfl) (Ev.ifn hja (Ev.bind evn (Ev.ifp (show 0 ≤ ja by omega) (Ev.ifp (show ja ≤ ne by omega) (Ev.ifp hnl.2 (Ev.bindc hnm2 (Ev.bind evb hR)))))))
  have hlen : ((out ++ [(⟨nm, refsB t true⟩ : S84)]).length : Int) ≤ ne := by rw [List.length_append, List.length_singleton]; omega
  rcases hcase with ⟨e1, e2, evv⟩ | ⟨e1, rfl, hq⟩
  ·have hw2 : wrap64 (pastB s ne + 1) = pastB s ne + 1 := by unfold wrap64; omega
   have evb2 := ev_blanks s hm' (pastB s ne + 1) om_ om_;have j2 : ∀ R, Ev (fun k => (if hb = true then (spec_Attrs.l0 k s out false q) else (if out.length < 4398046511104 then (spec_Attrs.l0 k s (out ++ [(⟨nm, refsB t true⟩ : S84)]) false q) else (none)))) R → Ev (fun k => spec_Attrs.l0 k s out false j) R := by
    intro R hR;refine sp R (sp2 R (Ev.ifp e1 (Ev.ifp (show 0 ≤ pastB s ne by omega) ?_)));rw [show (bt s (pastB s ne) == 61) = true by rw [e2]; rfl];refine Ev.step (fun k => by simp only [spec_Attrs.j2]; rfl) (Ev.ifp (rfl : true = true) ?_);rw [hw2];exact Ev.bind evb2 (Ev.bind evv (Ev.bind evr2 (Ev.bind evh hR)))
   by_cases hbt : hb = true
   ·obtain ⟨R, r1, r2, r3⟩ := next q out (.inl rfl) om_;exact ⟨R, im1 R hbt r1, j2 R (Ev.ifp hbt r2), r3⟩
   ·obtain ⟨R, r1, r2, r3⟩ := next q _ (.inl rfl) hlen;exact ⟨R, im2 R (bF_ hbt) r1, j2 R (Ev.ifn hbt (Ev.ifp (show out.length < 4398046511104 by omega) r2)), r3⟩
  ·rw [refsB_nil] at hlen im2;have j2 : ∀ R, Ev (fun k => (if hb = true then (spec_Attrs.l0 k s out false ne) else (if out.length < 4398046511104 then (spec_Attrs.l0 k s (out ++ [(⟨nm, ⟨#[]⟩⟩ : S84)]) false ne) else (none)))) R → Ev (fun k => spec_Attrs.l0 k s out false j) R := by
    intro R hR;have jj : Ev (fun k => spec_Attrs.j2 k s out false ne (pastB s ne) false nm (⟨#[]⟩ : BA)) R :=
     Ev.step (fun k => by simp only [spec_Attrs.j2]; rfl) (Ev.ifn si_ (Ev.bind evh hR))
    refine sp R (sp2 R ?_);by_cases hk : pastB s ne < (s.size : Int)
    ·refine Ev.ifp hk (Ev.ifp (show 0 ≤ pastB s ne by omega) ?_);rw [show (bt s (pastB s ne) == 61) = false from bN_ (fun h => e1 ⟨hk, h⟩)];exact jj
    ·exact Ev.ifn hk jj
   by_cases hbt : hb = true
   ·obtain ⟨R, r1, r2, r3⟩ := next ne out (.inr ⟨rfl, hq⟩) om_;exact ⟨R, im1 R hbt r1, j2 R (Ev.ifp hbt r2), r3⟩
   ·obtain ⟨R, r1, r2, r3⟩ := next ne _ (.inr ⟨rfl, hq⟩) hlen;exact ⟨R, im2 R (bF_ hbt) r1, j2 R (Ev.ifn hbt (Ev.ifp (show out.length < 4398046511104 by omega) r2)), r3⟩
theorem Attrs_both (s : BA) (hm : s.size ≤ 1048576) : ∃ R : List (S84) × Bool, Ev (fun k => impl_Attrs.f k s) R ∧ Ev (fun k => spec_Attrs.f k s) R ∧ (R.1.length : Int) ≤ s.size :=
 attrs_both s hm s.size 0 0 [] om_ om_ om_ rfl om_ si_
theorem l4Tag_l (s : BA) (hm : s.size ≤ 140737488351232) (d : Nat) : ∀ (k : Nat) (i : Int), 0 ≤ i → i ≤ s.size → ((s.size : Int) - i).toNat = d → d < k → spec_l4Tag.l0 k s i = some (tnE s i) := by
 induction d with
 | zero =>
  intro k i h0 h1 hd hk;obtain ⟨k, rfl⟩ : ∃ m, k = m + 1 := ⟨k - 1, om_⟩;simp only [spec_l4Tag.l0];rw [if_neg om_, tnE_stop (.inl om_)]
 | succ d ih =>
  intro k i h0 h1 hd hk;obtain ⟨k, rfl⟩ : ∃ m, k = m + 1 := ⟨k - 1, om_⟩;have hr := bt_range s i;simp only [spec_l4Tag.l0];rw [if_pos om_, if_pos h0, l4Blank_f _ hr.1 hr.2];simp only [Option.bind_some];by_cases c1 : blk (bt s i) = true
  ·rw [if_pos c1, tnE_stop (.inr (by simp [inTn, c1]))]
  rw [if_neg c1];have c1' : blk (bt s i) = false := by simpa using c1
  by_cases c2 : bt s i = 47
  ·rw [if_pos c2, tnE_stop (.inr (by simp [inTn, c2]))]
  rw [if_neg c2];by_cases c3 : bt s i = 62
  ·rw [if_pos c3, tnE_stop (.inr (by simp [inTn, c3]))]
  rw [if_neg c3, w1 h0 h1 hm, tnE_go om_ (by simp [inTn, c1', c2, c3])];exact ih k (i + 1) om_ om_ om_ om_
theorem ev_tag (s : BA) (hm : s.size ≤ 140737488351232) (i : Int) (h0 : 0 ≤ i) (h1 : i ≤ s.size) : Ev (fun k => spec_l4Tag.f k s i) (tnE s i) :=
 Ev.of (spec_l4Tag.mono s i) (k := ((s.size : Int) - i).toNat + 1) (l4Tag_l s hm _ _ i h0 h1 rfl (Nat.lt_succ_self _))
theorem tag_bothB (s : BA) (hm : s.size ≤ 140737488351232) (d : Nat) : ∀ (j : Int) (sl : Bool), 0 ≤ j → j ≤ s.size → ((s.size : Int) - j).toNat ≤ d → ∀ m, d < m →
  ∃ r, (r = -1 ∨ (j ≤ r ∧ r < (s.size : Int))) ∧ tagL m s j sl = some r ∧ Ev (fun k => spec_TagEnd.l0 k s j) r := by
 induction d with
 | zero =>
  intro j sl h0 h1 hd m hk;obtain ⟨m, rfl⟩ : ∃ q, m = q + 1 := ⟨m - 1, om_⟩;have hj : j = s.size := om_;have hs : sepF s true j sl = (j, sl) := sepF_stop (.inl om_);have ho : ovr s j true = true := by simp [ovr, hj]
  refine ⟨-1, .inl rfl, ?_, ?_⟩
  ·simp only [tagL];rw [if_pos ⟨h0, h1, hm⟩, hs, if_pos ho, if_pos om_]
  ·refine Ev.step (fun k => by simp only [spec_TagEnd.l0]; rfl) (Ev.bind (ev_skip s hm j sl h0 h1) ?_);rw [hs];exact Ev.congr (fun k => if_pos (show j ≥ (s.size : Int) by omega)) (Ev.now _)
 | succ d ih =>
  intro j sl h0 h1 hd m hk;obtain ⟨m, rfl⟩ : ∃ q, m = q + 1 := ⟨m - 1, om_⟩;obtain ⟨a1, a2⟩ := sepF_le (s := s) (e := true) _ j sl rfl h1;have hat := sep_at (s := s) (e := true) _ j sl rfl h1;have hev := ev_skip s hm j sl h0 h1;have step : ∀ r, Ev (fun k => if (sepF s true j sl).1 ≥ (s.size : Int) then (some (-1)) else (if 0 ≤ (sepF s true j sl).1 then (if (sepF s true j sl).1 < (s.size : Int) then (if (bt s (sepF s true j sl).1) = 62 then (some (sepF s true j sl).1) else ((spec_l4Name.f k s (sepF s true j sl).1 true).bind fun t110 => ((spec_l4Blanks.f k s t110).bind fun t111 => (if t111 ≥ (s.size : Int) then (spec_TagEnd.j2 k s t111 true) else (if 0 ≤ t111 then (if t111 < (s.size : Int) then (spec_TagEnd.j2 k s t111 ((bt s t111) != 61)) else (none)) else (none)))))) else (none)) else (none))) r → Ev (fun k => spec_TagEnd.l0 k s j) r := fun r hr =>
   Ev.step (fun k => by simp only [spec_TagEnd.l0]; rfl) (Ev.bind hev hr)
  have impl : ∀ v, (if ovr s (sepF s true j sl).1 true = true then (if (sepF s true j sl).1 ≥ s.size then some (-1) else some (sepF s true j sl).1) else (impl_tagger_value.f s (nmF s true (sepF s true j sl).1 (sepF s true j sl).1) true (sepF s true j sl).2).bind fun v => if v.2.1 = true then (if v.2.2.1 = s ∧ v.2.2.2.2.1 = true then tagL m s v.2.2.2.1 v.2.2.2.2.2 else none) else some (-1)) = v → tagL (m + 1) s j sl = v := fun v hv => by
   simp only [tagL]; rw [if_pos ⟨h0, h1, hm⟩]; exact hv
  generalize (sepF s true j sl).2 = sa at *;generalize (sepF s true j sl).1 = j1 at *;have j10 : 0 ≤ j1 := om_;by_cases ho : ovr s j1 true = true
  ·by_cases hz : j1 ≥ (s.size : Int)
   ·exact ⟨-1, .inl rfl, impl _ (by rw [if_pos ho, if_pos hz]), step _ (Ev.congr (fun k => if_pos hz) (Ev.now _))⟩
   ·have h62 : bt s j1 = 62 := by
     have hd0 : decide ((s.size : Int) ≤ j1) = false := dF_ om_;simpa [ovr, hd0] using ho
    exact ⟨j1, .inr ⟨om_, om_⟩, impl _ (by rw [if_pos ho, if_neg hz]), step _ (Ev.congr (fun k => by rw [if_neg hz, if_pos j10, if_pos om_, if_pos h62]) (Ev.now _))⟩
  have ho' : ovr s j1 true = false := by simpa using ho
  have hlt := ovr_lt ho';have h62 : ¬ (bt s j1 = 62) := fun h => by simp [ovr, h] at ho'
  obtain ⟨b1, b2⟩ := hat ho';have hnm := nm_more hlt ho' b1 b2;have hnl := nmF_le (s := s) (e := true) (f := j1) _ (j1 + 1) rfl om_;rw [← hnm] at hnl;have evn := ev_name s hm j1 true j10 a2;generalize nmF s true j1 j1 = jn at *;have evb := ev_blanks s hm jn om_ hnl.2;obtain ⟨c1, c2⟩ := pastB_le (s := s) _ jn rfl hnl.2;have hval : impl_tagger_value.f s jn true sa = if ovr s (pastB s jn) true = false ∧ bt s (pastB s jn) = 61 then
   if ovr s (pastB s (pastB s jn + 1)) true = true then some (⟨#[]⟩, true, s, pastB s (pastB s jn + 1), true, sa)
   else if bt s (pastB s (pastB s jn + 1)) = 34 ∨ bt s (pastB s (pastB s jn + 1)) = 39 then impl_tagger_quoted.f s (pastB s (pastB s jn + 1)) true sa
   else some (s.extract (pastB s (pastB s jn + 1)).toNat (plF s true (pastB s (pastB s jn + 1))).toNat, true, s, plF s true (pastB s (pastB s jn + 1)), true, sa)
  else some (⟨#[]⟩, true, s, pastB s jn, true, sa) := by
   unfold impl_tagger_value.f; rw [if_pos ⟨om_, hnl.2, hm⟩]
  generalize pastB s jn = k1 at *
  -- what is left: behind the name's blanks
  have step2 : ∀ r, Ev (fun k => if k1 ≥ (s.size : Int) then (spec_TagEnd.j2 k s k1 true) else (if 0 ≤ k1 then (if k1 < (s.size : Int) then (spec_TagEnd.j2 k s k1 ((bt s k1) != 61)) else (none)) else (none))) r → ∃ r', r' = r ∧ Ev (fun k => spec_TagEnd.l0 k s j) r' := fun r hr =>
   ⟨r, rfl, step r (Ev.congr (fun k => by rw [if_neg om_, if_pos j10, if_pos hlt, if_neg h62]) (Ev.bind evn (Ev.bind evb hr)))⟩
  have done : ∀ (k2 : Int) (v : BA), k1 ≤ k2 → k2 ≤ s.size → impl_tagger_value.f s jn true sa = some (v, true, s, k2, true, sa) → (∀ r, Ev (fun k => spec_TagEnd.l0 k s k2) r → Ev (fun k => if k1 ≥ (s.size : Int) then (spec_TagEnd.j2 k s k1 true) else (if 0 ≤ k1 then (if k1 < (s.size : Int) then (spec_TagEnd.j2 k s k1 ((bt s k1) != 61)) else (none)) else (none))) r) →
    ∃ r, (r = -1 ∨ (j ≤ r ∧ r < (s.size : Int))) ∧ tagL (m + 1) s j sl = some r ∧ Ev (fun k => spec_TagEnd.l0 k s j) r := by
   intro k2 v e1 e2 hv hk2;obtain ⟨r, hr0, q1, q2⟩ := ih k2 sa om_ e2 om_ m om_;obtain ⟨r', rfl, q3⟩ := step2 r (hk2 r q2);refine ⟨_, hr0.imp id (fun h => ⟨om_, h.2⟩), impl _ ?_, q3⟩;rw [if_neg ho, hv];simp only [Option.bind_some, and_self, if_true];exact q1
  by_cases e61 : ovr s k1 true = false ∧ bt s k1 = 61
  case neg =>
   refine done k1 ⟨#[]⟩ (Int.le_refl _) c2 (by rw [hval, if_neg e61]) (fun r hr => ?_);by_cases hz : k1 ≥ (s.size : Int)
   ·exact Ev.congr (fun k => if_pos hz) (Ev.step (fun k => by simp only [spec_TagEnd.j2, if_true]) hr)
   ·have hne : (bt s k1 != 61) = true := by
     rw [bne_iff_ne]; intro h;refine e61 ⟨?_, h⟩;have hd0 : decide ((s.size : Int) ≤ k1) = false := dF_ om_;simp [ovr, hd0, h]
    exact Ev.congr (fun k => by rw [if_neg hz, if_pos om_, if_pos om_, hne]) (Ev.step (fun k => by simp only [spec_TagEnd.j2, if_true]) hr)
  obtain ⟨oo, e61⟩ := e61;have klt := ovr_lt oo;have evb2 := ev_blanks s hm (k1 + 1) om_ om_;obtain ⟨c3, c4⟩ := pastB_le (s := s) _ (k1 + 1) rfl om_;rw [if_pos ⟨oo, e61⟩] at hval;generalize pastB s (k1 + 1) = k2 at *;have step3 : ∀ r, Ev (fun k => if k2 < (s.size : Int) then (if 0 ≤ k2 then (if (bt s k2) = 34 then (spec_TagEnd.j3 k s k2 true) else (spec_TagEnd.j3 k s k2 ((bt s k2) == 39))) else (none)) else (spec_TagEnd.j3 k s k2 false)) r →
    Ev (fun k => if k1 ≥ (s.size : Int) then (spec_TagEnd.j2 k s k1 true) else (if 0 ≤ k1 then (if k1 < (s.size : Int) then (spec_TagEnd.j2 k s k1 ((bt s k1) != 61)) else (none)) else (none))) r := fun r hr =>
   Ev.congr (fun k => by rw [if_neg om_, if_pos om_, if_pos klt, show (bt s k1 != 61) = false by rw [e61]; rfl])
    (Ev.step (fun k => by simp only [spec_TagEnd.j2, Bool.false_eq_true, if_false]; rw [w1 (n := s.size) om_ om_ hm]) (Ev.bind evb2 hr))
  by_cases ho2 : ovr s k2 true = true
  ·rw [if_pos ho2] at hval;refine done k2 _ om_ c4 hval (fun r hr => step3 r ?_);have hpl : plF s true k2 = k2 := plF_stop (fun h => by rw [ho2] at h; exact absurd h.1 de_);have evp := ev_plain s hm k2 true om_ c4;rw [hpl] at evp;have h3 : Ev (fun k => spec_TagEnd.j3 k s k2 false) r := Ev.step (fun k => by simp only [spec_TagEnd.j3, Bool.false_eq_true, if_false]) (Ev.bind evp hr);by_cases hz : k2 < (s.size : Int)
   ·have hb : bt s k2 = 62 := by
     have hd0 : decide ((s.size : Int) ≤ k2) = false := dF_ om_;simpa [ovr, hd0] using ho2
    exact Ev.congr (fun k => by rw [if_pos hz, if_pos om_, if_neg om_, show (bt s k2 == 39) = false by rw [hb]; rfl]) h3
   ·exact Ev.congr (fun k => if_neg hz) h3
  rw [if_neg ho2] at hval;have ho2' : ovr s k2 true = false := by simpa using ho2
  have k2lt := ovr_lt ho2';by_cases hq : bt s k2 = 34 ∨ bt s k2 = 39
  case neg =>
   rw [if_neg hq] at hval;obtain ⟨p1, p2⟩ := plF_le (s := s) (e := true) _ k2 rfl c4;refine done _ _ om_ p2 hval (fun r hr => step3 r ?_);exact Ev.congr (fun k => by rw [if_pos k2lt, if_pos om_, if_neg (fun h => hq (.inl h)), show (bt s k2 == 39) = false from bN_ (fun h => hq (.inr h))])
    (Ev.step (fun k => by simp only [spec_TagEnd.j3, Bool.false_eq_true, if_false]) (Ev.bind (ev_plain s hm k2 true om_ c4) hr))
  rw [if_pos hq, quoted_f s k2 true sa hm om_ k2lt] at hval;have evf := ev_find s hm (k2 + 1) (bt s k2) om_ om_;have hfl := fnd_le (s := s) (c := bt s k2) _ (k2 + 1) rfl om_;generalize fndF s (k2 + 1) (bt s k2) = kf at *;have step4 : ∀ r, Ev (fun k => if kf < 0 then (some (-1)) else (spec_TagEnd.l0 k s (wrap64 (kf + 1)))) r →
    Ev (fun k => if k2 < (s.size : Int) then (if 0 ≤ k2 then (if (bt s k2) = 34 then (spec_TagEnd.j3 k s k2 true) else (spec_TagEnd.j3 k s k2 ((bt s k2) == 39))) else (none)) else (spec_TagEnd.j3 k s k2 false)) r := fun r hr => by
   have h3 : Ev (fun k => spec_TagEnd.j3 k s k2 true) r := Ev.step (fun k => by simp only [spec_TagEnd.j3, if_true]; rw [if_pos om_, if_pos k2lt, w1 (n := s.size) om_ om_ hm]) (Ev.bind evf hr);refine Ev.congr (fun k => ?_) h3;rw [if_pos k2lt, if_pos om_];by_cases h34 : bt s k2 = 34
   ·rw [if_pos h34]
   ·rw [if_neg h34, show (bt s k2 == 39) = true from bQ_ (hq.resolve_left h34)]
  by_cases hkf : kf < 0
  ·rw [if_pos hkf] at hval;obtain ⟨r', rfl, q3⟩ := step2 (-1) (step3 _ (step4 _ (Ev.congr (fun k => if_pos hkf) (Ev.now _))));refine ⟨_, .inl rfl, impl _ ?_, q3⟩;rw [if_neg ho, hval];simp
  ·rw [if_neg hkf] at hval;obtain ⟨f1, f2⟩ := hfl hkf;refine done _ _ om_ om_ hval (fun r hr => step3 r (step4 r ?_));exact Ev.congr (fun k => by rw [if_neg hkf, w1 (n := s.size) om_ om_ hm]) hr
theorem after_f (s : BA) (k : Int) (hm : s.size ≤ 140737488351232) (h0 : 0 ≤ k) (h1 : k < s.size) : spec_l4After.f s k = some (tagFrom s k) := by
 unfold spec_l4After.f tagFrom;rw [w1 (n := s.size) h0 om_ hm];by_cases c : k + 1 < (s.size : Int)
 ·rw [if_pos c, if_pos om_];by_cases c2 : bt s (k + 1) = 47
  ·rw [if_pos c2, if_pos ⟨c, c2⟩, show wrap64 (k + 2) = k + 1 + 1 by unfold wrap64; omega]
  ·rw [if_neg c2, if_neg (fun h => c2 h.2)]
 ·rw [if_neg c, if_neg (fun h => c h.1)]
theorem TagEnd_bothB (s : BA) (k : Int) (hm : s.size ≤ 140737488351232) (h0 : 0 ≤ k) (h1 : k < s.size) (h2 : bt s k = 60) : ∃ r, (r = -1 ∨ (tnE s (tagFrom s k) ≤ r ∧ r < (s.size : Int))) ∧ impl_TagEnd.f s k = some r ∧ Ev (fun n => spec_TagEnd.f n s k) r := by
 have hA := after_f s k hm h0 h1;have hb : k + 1 ≤ tagFrom s k ∧ tagFrom s k ≤ s.size := by unfold tagFrom; split <;> omega
 have evt := ev_tag s hm (tagFrom s k) om_ hb.2;have htl := tnE_le (s := s) _ (tagFrom s k) rfl hb.2;obtain ⟨r, hr, q1, q2⟩ := tag_bothB s hm s.size (tnE s (tagFrom s k)) false om_ htl.2 om_ (s.size + 1) (Nat.lt_succ_self _);refine ⟨r, hr, by unfold impl_TagEnd.f; rw [if_pos ⟨h0, h1, h2, hm⟩]; exact q1, ?_⟩;refine Ev.congr (fun n => by unfold spec_TagEnd.f; rw [if_neg om_, if_neg om_, if_pos h0, if_pos h1, show (bt s k != 60) = false by rw [h2]; rfl]) (Ev.step (fun n => by simp only [spec_TagEnd.j0, Bool.false_eq_true, if_false]; rw [hA, Option.bind_some]) (Ev.bind evt q2))
def low8 (b : UInt8) : UInt8 := if 65 ≤ b.toNat ∧ b.toNat ≤ 90 then b + 32 else b
theorem lowB_low8 (b : UInt8) : lowB (b.toNat : Int) = ((low8 b).toNat : Int) := by
 have h : ∀ n : Fin 256, lowB (((UInt8.ofNat n.val).toNat : Nat) : Int) = ((low8 (UInt8.ofNat n.val)).toNat : Int) := by decide +kernel
 have := h ⟨b.toNat, b.toNat_lt⟩;simpa using this
theorem small_list (s : BA) : (smallB s).toList = s.data.toList.map low8 := by
 rw [ByteArray.toList_eq];unfold smallB strOfNums bytesOf;simp only [List.map_map];rw [List.map_congr_left (g := low8)];intro b hb;show UInt8.ofNat (lowB (b.toNat : Int)).toNat = low8 b;rw [lowB_low8];simp
theorem small_size (s : BA) : (smallB s).size = s.size := by
 rw [← data_length, ← ByteArray.toList_eq, small_list, List.length_map, data_length]
theorem low8_60 (b : UInt8) : low8 b = 60 ↔ b = 60 := by
 have h : ∀ n : Fin 256, low8 (UInt8.ofNat n.val) = 60 ↔ UInt8.ofNat n.val = 60 := by decide +kernel
 have := h ⟨b.toNat, b.toNat_lt⟩;simpa using this
theorem low8_47 (b : UInt8) : low8 b = 47 ↔ b = 47 := by
 have h : ∀ n : Fin 256, low8 (UInt8.ofNat n.val) = 47 ↔ UInt8.ofNat n.val = 47 := by decide +kernel
 have := h ⟨b.toNat, b.toNat_lt⟩;simpa using this
theorem bt_get (s : BA) (i : Nat) (h : i < s.size) (c : UInt8) : bt s (i : Int) = (c.toNat : Int) ↔ s[i] = c := by
 have := bt_at s (i : Int) (by simpa using h);rw [← this];constructor
 ·intro e;have : (s[(i : Int).toNat]'(by simpa using h)).toNat = c.toNat := om_;exact UInt8.toNat.inj this
 ·intro e;subst e;rfl
theorem begin_iff (s nm : BA) (i : Nat) (hs : i + 2 + nm.size < s.size) :
  (smallB (s.extract i (i + 2 + nm.size))).toList = ((⟨#[60, 47]⟩ : BA) ++ smallB nm).toList ↔
  (bt s (i : Int) = 60 ∧ bt s ((i + 1 : Nat) : Int) = 47) ∧ (smallB (s.extract (i + 2) (i + 2 + nm.size))).toList = (smallB nm).toList := by
 have e1 : ((⟨#[60, 47]⟩ : BA) ++ smallB nm).toList = 60 :: 47 :: (smallB nm).toList := by
  rw [ByteArray.toList_eq, ByteArray.toList_eq, ByteArray.data_append, Array.toList_append];rfl
 have e2 : (s.extract i (i + 2 + nm.size)).data.toList = s[i] :: s[i + 1] :: (s.extract (i + 2) (i + 2 + nm.size)).data.toList := by
  rw [extract_list, extract_list, drop_cons s i om_, drop_cons s (i + 1) om_];rw [show i + 2 + nm.size - i = nm.size + 1 + 1 by omega, show i + 2 + nm.size - (i + 2) = nm.size by omega];rfl
 have c0 : bt s (i : Int) = 60 ↔ s[i] = 60 := bt_get s i om_ 60;have c1 : bt s ((i + 1 : Nat) : Int) = 47 ↔ s[i + 1] = 47 := bt_get s (i + 1) om_ 47;rw [e1, small_list, e2, small_list, small_list, List.map_cons, List.map_cons, List.cons.injEq, List.cons.injEq, low8_60, low8_47, c0, c1];exact and_assoc.symm
theorem rawEnd_l (s nm : BA) (hs : s.size ≤ 1048576) (hn : nm.size ≤ 1048576) (d : Nat) : ∀ i : Nat, i ≤ 2000000 → s.size - i ≤ d →
  ∃ r, (i ≤ s.size → (i : Int) ≤ r ∧ r ≤ s.size) ∧ Ev (fun k => impl_RawEnd.l0 k s ((⟨#[60, 47]⟩ : BA) ++ smallB nm) (i : Int)) r ∧ Ev (fun k => spec_RawEnd.l0 k s nm (nm.size : Int) (i : Int)) r := by
 have hz : ((⟨#[60, 47]⟩ : BA) ++ smallB nm).size = 2 + nm.size := by rw [ByteArray.size_append, small_size]; rfl
 induction d with
 | zero =>
  intro i hi hd;have w1 : wrap64 ((i : Int) + (((⟨#[60, 47]⟩ : BA) ++ smallB nm).size : Int)) = ((i + 2 + nm.size : Nat) : Int) := by rw [hz]; unfold wrap64; omega
  have w2 : wrap64 (wrap64 ((i : Int) + 2) + (nm.size : Int)) = ((i + 2 + nm.size : Nat) : Int) := by unfold wrap64; omega
  refine ⟨(s.size : Int), fun hi_ => ⟨om_, om_⟩, Ev.step (fun k => by simp only [impl_RawEnd.l0]; rfl) ?_, Ev.step (fun k => by simp only [spec_RawEnd.l0]; rfl) ?_⟩
  ·rw [w1]; exact Ev.ifn om_ (Ev.now _)
  ·rw [w2]; exact Ev.ifn om_ (Ev.now _)
 | succ d ih =>
  intro i hi hd;have w1 : wrap64 ((i : Int) + (((⟨#[60, 47]⟩ : BA) ++ smallB nm).size : Int)) = ((i + 2 + nm.size : Nat) : Int) := by rw [hz]; unfold wrap64; omega
  have w2 : wrap64 (((i + 2 : Nat) : Int) + (nm.size : Int)) = ((i + 2 + nm.size : Nat) : Int) := by unfold wrap64; omega
  have w3 : wrap64 ((i : Int) + 2) = ((i + 2 : Nat) : Int) := by unfold wrap64; omega
  have w4 : wrap64 ((i : Int) + 1) = ((i + 1 : Nat) : Int) := by unfold wrap64; omega
  by_cases c : i + 2 + nm.size < s.size
  case neg =>
   refine ⟨(s.size : Int), fun hi_ => ⟨om_, om_⟩, Ev.step (fun k => by simp only [impl_RawEnd.l0]; rfl) ?_, Ev.step (fun k => by simp only [spec_RawEnd.l0]; rfl) ?_⟩
   ·rw [w1]; exact Ev.ifn om_ (Ev.now _)
   ·rw [w3, w2]; exact Ev.ifn om_ (Ev.now _)
  obtain ⟨r, hr0, f1, f2⟩ := ih (i + 1) om_ om_;have hr1 : i ≤ s.size → (i : Int) ≤ r ∧ r ≤ s.size := fun _ => by have := hr0 om_; omega
  have hb := begin_iff s nm i c;have hx := ext_size s i (i + 2 + nm.size) om_;have hx2 := ext_size s (i + 2) (i + 2 + nm.size) om_;have hr := bt_range s ((i + 2 + nm.size : Nat) : Int);by_cases c1 : bt s (i : Int) = 60
  case neg =>
   refine ⟨r, hr1, Ev.step (fun k => by simp only [impl_RawEnd.l0]; rfl) ?_, Ev.step (fun k => by simp only [spec_RawEnd.l0]; rfl) ?_⟩
   ·rw [w1, w4]; exact Ev.ifp om_ (Ev.ifp om_ (Ev.ifp om_ (Ev.ifp om_ (Ev.ifn c1 f1))))
   ·rw [w3, w2, w4]; exact Ev.ifp om_ (Ev.ifp om_ (Ev.ifp om_ (Ev.ifn c1 f2)))
  by_cases c2 : bt s ((i + 1 : Nat) : Int) = 47 ∧ (smallB (s.extract (i + 2) (i + 2 + nm.size))).toList = (smallB nm).toList
  case neg =>
   have hb' : ¬ (smallB (s.extract i (i + 2 + nm.size))).toList = ((⟨#[60, 47]⟩ : BA) ++ smallB nm).toList := fun e => c2 ⟨(hb.mp e).1.2, (hb.mp e).2⟩
   refine ⟨r, hr1, Ev.step (fun k => by simp only [impl_RawEnd.l0]; rfl) ?_, Ev.step (fun k => by simp only [spec_RawEnd.l0]; rfl) ?_⟩
   ·rw [w1, w4];refine Ev.ifp om_ (Ev.ifp om_ (Ev.ifp om_ (Ev.ifp om_ (Ev.ifp c1 (Ev.ifp om_ (Ev.ifp om_ ?_))))));rw [Int.toNat_natCast, Int.toNat_natCast];exact Ev.bindc (implSmall_f _ om_) (Ev.ifn hb' f1)
   ·rw [w3, w2, w4];refine Ev.ifp om_ (Ev.ifp om_ (Ev.ifp om_ (Ev.ifp c1 (Ev.ifp om_ (Ev.ifp om_ ?_)))));by_cases c3 : bt s ((i + 1 : Nat) : Int) = 47
    ·refine Ev.ifp c3 (Ev.ifp om_ (Ev.ifp om_ (Ev.ifp om_ ?_)));rw [Int.toNat_natCast, Int.toNat_natCast];exact Ev.bindc (specSmall_f _ om_) (Ev.bindc (specSmall_f _ om_) (Ev.ifn (fun e => c2 ⟨c3, e⟩) f2))
    ·exact Ev.ifn c3 f2
  have hb' := hb.mpr ⟨⟨c1, c2.1⟩, c2.2⟩;have key : ∀ q, ((blk (bt s ((i + 2 + nm.size : Nat) : Int)) = true ∨ bt s ((i + 2 + nm.size : Nat) : Int) = 47 ∨ bt s ((i + 2 + nm.size : Nat) : Int) = 62) → q = (i : Int)) → (¬ (blk (bt s ((i + 2 + nm.size : Nat) : Int)) = true ∨ bt s ((i + 2 + nm.size : Nat) : Int) = 47 ∨ bt s ((i + 2 + nm.size : Nat) : Int) = 62) → q = r) →
    Ev (fun k => impl_RawEnd.l0 k s ((⟨#[60, 47]⟩ : BA) ++ smallB nm) (i : Int)) q ∧ Ev (fun k => spec_RawEnd.l0 k s nm (nm.size : Int) (i : Int)) q := by
   intro q h1 h2;refine ⟨Ev.step (fun k => by simp only [impl_RawEnd.l0]; rfl) ?_, Ev.step (fun k => by simp only [spec_RawEnd.l0]; rfl) ?_⟩
   ·rw [w1, w4];refine Ev.ifp om_ (Ev.ifp om_ (Ev.ifp om_ (Ev.ifp om_ (Ev.ifp c1 (Ev.ifp om_ (Ev.ifp om_ ?_))))));rw [Int.toNat_natCast, Int.toNat_natCast];refine Ev.bindc (implSmall_f _ om_) (Ev.ifp hb' (Ev.bindc (isBlankByte_f _ hr.1 hr.2) ?_));by_cases d1 : blk (bt s ((i + 2 + nm.size : Nat) : Int)) = true
    ·obtain rfl := h1 (.inl d1); exact Ev.ifp d1 (Ev.now _)
    refine Ev.ifn d1 ?_;by_cases d2 : bt s ((i + 2 + nm.size : Nat) : Int) = 47
    ·obtain rfl := h1 (.inr (.inl d2)); exact Ev.ifp d2 (Ev.now _)
    refine Ev.ifn d2 ?_;by_cases d3 : bt s ((i + 2 + nm.size : Nat) : Int) = 62
    ·obtain rfl := h1 (.inr (.inr d3)); exact Ev.ifp d3 (Ev.now _)
    obtain rfl := h2 (fun e => e.elim d1 (fun e => e.elim d2 d3));exact Ev.ifn d3 f1
   ·rw [w3, w2, w4];refine Ev.ifp om_ (Ev.ifp om_ (Ev.ifp om_ (Ev.ifp c1 (Ev.ifp om_ (Ev.ifp om_ (Ev.ifp c2.1 (Ev.ifp om_ (Ev.ifp om_ (Ev.ifp om_ ?_)))))))));rw [Int.toNat_natCast, Int.toNat_natCast];refine Ev.bindc (specSmall_f _ om_) (Ev.bindc (specSmall_f _ om_) (Ev.ifp c2.2 (Ev.ifp om_ (Ev.bindc (l4Blank_f _ hr.1 hr.2) ?_))));by_cases d1 : blk (bt s ((i + 2 + nm.size : Nat) : Int)) = true
    ·obtain rfl := h1 (.inl d1); exact Ev.ifp d1 (Ev.now _)
    refine Ev.ifn d1 ?_;by_cases d2 : bt s ((i + 2 + nm.size : Nat) : Int) = 47
    ·obtain rfl := h1 (.inr (.inl d2)); exact Ev.ifp d2 (Ev.now _)
    refine Ev.ifn d2 ?_;by_cases d3 : bt s ((i + 2 + nm.size : Nat) : Int) = 62
    ·obtain rfl := h1 (.inr (.inr d3)); exact Ev.ifp d3 (Ev.now _)
    obtain rfl := h2 (fun e => e.elim d1 (fun e => e.elim d2 d3));exact Ev.ifn d3 f2
  by_cases g : blk (bt s ((i + 2 + nm.size : Nat) : Int)) = true ∨ bt s ((i + 2 + nm.size : Nat) : Int) = 47 ∨ bt s ((i + 2 + nm.size : Nat) : Int) = 62
  ·exact ⟨_, fun _ => ⟨Int.le_refl _, om_⟩, key (i : Int) (fun _ => rfl) (fun h => absurd g h)⟩
  ·exact ⟨_, hr1, key r (fun h => absurd h g) (fun _ => rfl)⟩
theorem RawEnd_both (s nm : BA) (i : Int) (hs : s.size ≤ 1048576) (hn : nm.size ≤ 1048576) (h0 : 0 ≤ i) (h1 : i ≤ s.size) :
  ∃ r, i ≤ r ∧ r ≤ s.size ∧ Ev (fun k => impl_RawEnd.f k s i nm) r ∧ Ev (fun k => spec_RawEnd.f k s i nm) r := by
 have hm : mx i 0 = (i.toNat : Int) := by unfold mx; omega
 have hz : (smallB nm).size = nm.size := small_size nm;obtain ⟨r, hr, f1, f2⟩ := rawEnd_l s nm om_ om_ _ i.toNat om_ (Nat.le_refl _);obtain ⟨r0, r1⟩ := hr om_;by_cases c : i ≥ (s.size : Int)
 ·refine ⟨(s.size : Int), om_, om_, ?_, Ev.ifp c (Ev.now _)⟩;unfold impl_RawEnd.f;refine Ev.bindc (implSmall_f nm om_) (Ev.ifp om_ ?_);rw [hm];refine Ev.step (fun k => by simp only [impl_RawEnd.l0]; rfl) (Ev.ifn ?_ (Ev.now _));rw [ByteArray.size_append, hz, show (⟨#[60, 47]⟩ : BA).size = 2 from rfl];unfold wrap64;omega
 ·refine ⟨r, om_, r1, ?_, Ev.ifn c (Ev.bindc (a := max i 0) ?_ ?_)⟩
  ·unfold impl_RawEnd.f;refine Ev.bindc (implSmall_f nm om_) (Ev.ifp om_ ?_);rw [hm];exact f1
  ·unfold spec_l1Max.f;by_cases h : i > 0
   ·rw [if_pos h]; congr 1; omega
   ·rw [if_neg h]; congr 1; omega
  ·rw [show max i 0 = (i.toNat : Int) by omega];exact f2
theorem putF_pos (n : Int) : 1 ≤ (putF n).size := by
 have hp : ∀ x, 1 ≤ (put0 x).size := by
  intro x;unfold put0;split
  ·exact Nat.le_of_eq (show 1 = _ from rfl)
  ·split
   ·exact Nat.le_trans om_ (Nat.le_of_eq (show 2 = _ from rfl))
   ·split
    ·exact Nat.le_trans om_ (Nat.le_of_eq (show 3 = _ from rfl))
    ·exact Nat.le_trans om_ (Nat.le_of_eq (show 4 = _ from rfl))
 unfold putF;split <;> exact hp _
theorem refA_pos (s : BA) (p : Int) (v : Bool) (h : (refA s p v).2 > 0) : 1 ≤ (refA s p v).1.size := by
 unfold refA at h ⊢;split at h
 ·rename_i h1
  rw [if_pos h1];split at h
  ·rename_i h2
   rw [if_pos h2];unfold numberF numR at h ⊢;split at h
   ·exact absurd h si_
   ·rename_i h3
    rw [if_neg h3];exact putF_pos _
  ·rename_i h2
   rw [if_neg h2];unfold refT at h ⊢;split at h
   ·exact absurd h si_
   ·rename_i h3
    rw [if_neg h3];split at h
    ·exact absurd h si_
    ·rename_i h4
     rw [if_neg h4];exact putF_pos _
 ·exact absurd h si_
theorem refsF_len (s : BA) (v : Bool) (d : Nat) : ∀ (j : Int), 0 ≤ j → ((s.size : Int) - j).toNat ≤ d → (refsF s v j).length ≤ 4 * d := by
 induction d with
 | zero =>
  intro j h0 hd;rw [refsF, if_neg om_];simp
 | succ d ih =>
  intro j h0 hd;by_cases hj : j < (s.size : Int)
  ·have hle := refA_le s j v h0 hj;rw [refsF, if_pos hj];by_cases hu : (refA s j v).2 > 0
   ·have h2 := ih (j + (refA s j v).2) om_ om_;have h3 := data_length (refA s j v).1;rw [if_pos hu, List.length_append];omega
   ·have h2 := ih (j + 1) om_ om_;rw [if_neg hu, List.length_cons];omega
  ·rw [refsF, if_neg hj];simp
theorem refsB_size (s : BA) (v : Bool) : (refsB s v).size ≤ 4 * s.size := by
 have := refsF_len s v s.size 0 om_ om_;unfold refsB;show (refsF s v 0).toArray.size ≤ _;rw [List.size_toArray];exact this
theorem refsB_pos (s : BA) (v : Bool) (h : 0 < s.size) : 1 ≤ (refsB s v).size := by
 unfold refsB;show 1 ≤ (refsF s v 0).toArray.size;rw [List.size_toArray, refsF, if_pos om_];by_cases hu : (refA s 0 v).2 > 0
 ·have h1 := refA_pos s 0 v hu;have h2 := data_length (refA s 0 v).1;rw [if_pos hu, List.length_append];omega
 ·rw [if_neg hu, List.length_cons];omega
theorem ne_of_size {t : BA} (h : 1 ≤ t.size) : ¬ t.toList = [] := by
 intro e;rw [ByteArray.toList_eq] at e;have := data_length t;rw [e] at this;simp at this
 omega
theorem begins_both (s : BA) (hs : s.size ≤ 1000000) (j : Int) (h0 : 0 ≤ j) (h1 : j < s.size) : ∃ c : Bool, impl_begins.f s j = some c ∧ spec_l5Begins.f s j = some c ∧ (c = true → j + 1 < (s.size : Int) ∧ bt s j = 60 ∧ (bt s (j + 1) = 33 ∨ bt s (j + 1) = 63 ∨ bt s (j + 1) = 47 ∨ letF (bt s (j + 1)) = true)) := by
 have hw : wrap64 (j + 1) = j + 1 := by unfold wrap64; omega
 have hr := bt_range s (j + 1);have hw2 : wrap64 (bt s (j + 1)) = bt s (j + 1) := by unfold wrap64; omega
 unfold impl_begins.f spec_l5Begins.f;rw [hw, hw2, implLetter_f, specLetter_f];by_cases c1 : j + 1 ≥ (s.size : Int)
 ·refine ⟨false, by rw [if_pos c1], ?_, by simp⟩;rw [if_pos h0, if_pos h1, if_pos c1];by_cases c2 : bt s j = 60
  ·rw [if_pos c2]
  ·rw [if_neg c2]
 rw [if_neg c1, if_pos h0, if_pos h1, if_pos h0, if_pos h1];by_cases c2 : bt s j = 60
 case neg => exact ⟨false, by rw [if_neg c2], by rw [if_neg c2], by simp⟩
 case pos =>
 rw [if_pos c2, if_pos c2, if_neg c1, if_pos (show 0 ≤ j + 1 by omega), if_pos (show j + 1 < (s.size : Int) by omega)];by_cases c3 : bt s (j + 1) = 33
 ·exact ⟨true, by rw [if_pos c3], by rw [if_pos c3], fun _ => ⟨om_, c2, .inl c3⟩⟩
 by_cases c4 : bt s (j + 1) = 63
 ·exact ⟨true, by rw [if_neg c3, if_pos c4], by rw [if_neg c3, if_pos c4], fun _ => ⟨om_, c2, .inr (.inl c4)⟩⟩
 by_cases c5 : bt s (j + 1) = 47
 ·exact ⟨true, by rw [if_neg c3, if_neg c4, if_pos c5], by rw [if_neg c3, if_neg c4, if_pos c5], fun _ => ⟨om_, c2, .inr (.inr (.inl c5))⟩⟩
 exact ⟨letF (bt s (j + 1)), by rw [if_neg c3, if_neg c4, if_neg c5]; rfl, by rw [if_neg c3, if_neg c4, if_neg c5]; rfl, fun h => ⟨om_, c2, .inr (.inr (.inr h))⟩⟩
theorem textTo_s (k : Nat) (s : BA) (j : Int) : textTo (k + 1) s j = if j < (s.size : Int) then (impl_begins.f s j).bind fun c => if c = true then some j else textTo k s (j + 1) else some j := by rw [textTo]
theorem sTextTo_s (k : Nat) (s : BA) (j : Int) : sTextTo (k + 1) s j = if j < (s.size : Int) then (spec_l5Begins.f s j).bind fun c => if c = true then some j else sTextTo k s (j + 1) else some j := by rw [sTextTo]
theorem textTo_both (s : BA) (hs : s.size ≤ 1000000) (d : Nat) : ∀ (j : Int), 0 ≤ j → j ≤ s.size → ((s.size : Int) - j).toNat ≤ d → ∃ te : Int, j ≤ te ∧ te ≤ s.size ∧ Ev (fun k => textTo k s j) te ∧ Ev (fun k => sTextTo k s j) te := by
 induction d with
 | zero =>
  intro j h0 h1 hd;exact ⟨j, Int.le_refl _, h1, Ev.step (fun k => textTo_s k s j) (Ev.ifn om_ (Ev.now _)), Ev.step (fun k => sTextTo_s k s j) (Ev.ifn om_ (Ev.now _))⟩
 | succ d ih =>
  intro j h0 h1 hd;by_cases hj : j < (s.size : Int)
  ·obtain ⟨c, e1, e2, _⟩ := begins_both s hs j h0 hj;cases c with
   | true => exact ⟨j, Int.le_refl _, h1, Ev.step (fun k => textTo_s k s j) (Ev.ifp hj (Ev.bindc e1 (Ev.ifp rfl (Ev.now _)))), Ev.step (fun k => sTextTo_s k s j) (Ev.ifp hj (Ev.bindc e2 (Ev.ifp rfl (Ev.now _))))⟩
   | false =>
    obtain ⟨te, t0, t1, f1, f2⟩ := ih (j + 1) om_ om_ om_;exact ⟨te, om_, t1, Ev.step (fun k => textTo_s k s j) (Ev.ifp hj (Ev.bindc e1 (Ev.ifn si_ f1))), Ev.step (fun k => sTextTo_s k s j) (Ev.ifp hj (Ev.bindc e2 (Ev.ifn si_ f2)))⟩
  ·exact ⟨j, Int.le_refl _, h1, Ev.step (fun k => textTo_s k s j) (Ev.ifn hj (Ev.now _)), Ev.step (fun k => sTextTo_s k s j) (Ev.ifn hj (Ev.now _))⟩
theorem stands_f (s : BA) (hs : s.size ≤ 1048576) (p : Int) (nm : BA) (hn : nm.size ≤ 2000000) (h0 : 0 ≤ p) (hp : p ≤ s.size) : spec_l5Stands.f s p nm = some (decide (standsAt s p nm)) := by
 unfold spec_l5Stands.f;have hw : wrap64 (p + (nm.size : Int)) = p + nm.size := by unfold wrap64; omega
 rw [hw];by_cases c : p + nm.size ≤ s.size
 ·rw [if_pos c, if_pos h0, if_pos om_];congr 1
  by_cases h : (s.extract p.toNat (p + nm.size).toNat).toList = nm.toList
  ·rw [dE_ (show standsAt s p nm from ⟨c, h⟩)]; exact bQ_ h
  ·rw [dF_ (show ¬ standsAt s p nm from fun hh => h hh.2)]; exact bN_ h
 ·rw [if_neg c, dF_ (show ¬ standsAt s p nm from fun hh => c hh.1)]
theorem search_l (s : BA) (hs : s.size ≤ 1048576) (nm : BA) (hn : nm.size ≤ 1000) (n1 : 1 ≤ nm.size) : ∀ (d : Nat) (i : Int), ((s.size : Int) - i).toNat ≤ d → 0 ≤ i → i ≤ s.size →
  ∃ r : Int, Ev (fun k => spec_l5Search.l0 k s i nm) r ∧ ((r = -1 ∧ ∀ j : Int, i ≤ j → ¬ standsAt s j nm) ∨ (i ≤ r ∧ standsAt s r nm ∧ ∀ j : Int, i ≤ j → j < r → ¬ standsAt s j nm)) := by
 intro d;induction d with
 | zero =>
  intro i hd h0 h1;have hw : wrap64 (i + (nm.size : Int)) = i + nm.size := by unfold wrap64; omega
  refine ⟨-1, ?_, .inl ⟨rfl, fun j hj h => by have := h.1; omega⟩⟩;refine Ev.step (fun k => by simp only [spec_l5Search.l0]; rfl) ?_;rw [hw];exact Ev.ifn om_ (Ev.now _)
 | succ d ih =>
  intro i hd h0 h1;have hw : wrap64 (i + (nm.size : Int)) = i + nm.size := by unfold wrap64; omega
  have hw1 : wrap64 (i + 1) = i + 1 := by unfold wrap64; omega
  by_cases c : i + nm.size ≤ s.size
  ·by_cases st : standsAt s i nm
   ·refine ⟨i, ?_, .inr ⟨Int.le_refl _, st, fun j h2 h3 => by omega⟩⟩;refine Ev.step (fun k => by simp only [spec_l5Search.l0]; rfl) ?_;rw [hw];refine Ev.ifp c (Ev.bindc (stands_f s hs i nm om_ h0 h1) ?_);rw [dE_ st];exact Ev.ifp rfl (Ev.now _)
   ·obtain ⟨r, e1, e2⟩ := ih (i + 1) om_ om_ om_;refine ⟨r, ?_, ?_⟩
    ·refine Ev.step (fun k => by simp only [spec_l5Search.l0]; rfl) ?_;rw [hw, hw1];refine Ev.ifp c (Ev.bindc (stands_f s hs i nm om_ h0 h1) ?_);rw [dF_ st];exact Ev.ifn si_ e1
    ·have ex : ∀ j : Int, i ≤ j → (i + 1 ≤ j → ¬ standsAt s j nm) → ¬ standsAt s j nm := fun j hj hh => by
      by_cases e : j = i
      ·rw [e]; exact st
      ·exact hh om_
     rcases e2 with ⟨h3, h4⟩ | ⟨h3, h4, h5⟩
     ·exact .inl ⟨h3, fun j hj => ex j hj (h4 j)⟩
     ·exact .inr ⟨om_, h4, fun j hj hr => ex j hj (fun h6 => h5 j h6 hr)⟩
  ·refine ⟨-1, ?_, .inl ⟨rfl, fun j hj h => by have := h.1; omega⟩⟩;refine Ev.step (fun k => by simp only [spec_l5Search.l0]; rfl) ?_;rw [hw];exact Ev.ifn c (Ev.now _)
theorem occ_iff (s nm : BA) (n1 : 1 ≤ nm.size) (i j : Nat) : Lib.occAt (s.data.toList.drop i) nm.data.toList j = true ↔ standsAt s ((i + j : Nat) : Int) nm := by
 unfold Lib.occAt standsAt;rw [List.isPrefixOf_iff_prefix, List.drop_drop, List.prefix_iff_eq_take, Lib.toList_data, Lib.toList_data, ByteArray.data_extract, Array.toList_extract, List.extract_eq_take_drop, ← Lib.size_eq nm,
  show (((i + j : Nat) : Int) + (nm.size : Int)).toNat - (((i + j : Nat) : Int)).toNat = nm.size by omega, show (((i + j : Nat) : Int)).toNat = i + j by omega]
 constructor
 ·intro h;refine ⟨?_, h.symm⟩;have := congrArg List.length h;rw [List.length_take, List.length_drop, ← Lib.size_eq, ← Lib.size_eq] at this;omega
 ·intro h;exact h.2.symm
theorem search_both (s : BA) (hs : s.size ≤ 1048576) (nm : BA) (hn : nm.size ≤ 1000) (n1 : 1 ≤ nm.size) (i : Nat) (hi : i ≤ s.size) :
  ∃ r : Int, Ev (fun k => spec_l5Search.f k s (i : Int) nm) r ∧ ((r = -1 ∧ Lib.index (s.data.toList.drop i) nm.data.toList = -1) ∨ ((i : Int) ≤ r ∧ standsAt s r nm ∧ Lib.index (s.data.toList.drop i) nm.data.toList = r - i)) := by
 obtain ⟨r, e1, e2⟩ := search_l s hs nm hn n1 _ (i : Int) (Nat.le_refl _) om_ om_;refine ⟨r, e1, ?_⟩;have hz := Lib.size_eq s;rcases e2 with ⟨h1, h2⟩ | ⟨h1, h2, h3⟩
 ·refine .inl ⟨h1, Lib.index_none (fun j hj => ?_)⟩;rw [Bool.eq_false_iff];intro h;exact h2 _ om_ ((occ_iff s nm n1 i j).1 h)
 ·refine .inr ⟨h1, h2, ?_⟩;have hr := h2.1;have he : ((i + (r - i).toNat : Nat) : Int) = r := om_;have := Lib.index_first (s := s.data.toList.drop i) (sub := nm.data.toList) (i := (r - i).toNat) (by rw [List.length_drop]; omega) ((occ_iff s nm n1 i (r - i).toNat).2 (by rw [he]; exact h2)) (fun j hj => by
   rw [Bool.eq_false_iff];intro h;exact h3 _ om_ om_ ((occ_iff s nm n1 i j).1 h))
  rw [this];omega
theorem rdAttr_at (L : List (S84)) (j : Int) (h : j.toNat < L.length) : rd_T84 L j = L[j.toNat] := by
 unfold rd_T84; rw [List.getD_eq_getElem?_getD, List.getElem?_eq_getElem h]; rfl
theorem eqAttr_self (L : List (S84)) (hl : L.length ≤ 140737488351232) (d : Nat) : ∀ (j : Int), 0 ≤ j → L.length - j.toNat = d → j ≤ L.length → Ev (fun k => laws_eqAttrS.l0 k L L j) true := by
 induction d with
 | zero =>
  intro j h0 hd hj;exact Ev.step (fun k => by simp only [laws_eqAttrS.l0]; rfl) (Ev.ifn (show ¬ j < (L.length : Int) by omega) (Ev.now _))
 | succ d ih =>
  intro j h0 hd hj;have hw1 : wrap64 (j + 1) = j + 1 := by unfold wrap64; omega
  refine Ev.step (fun k => by simp only [laws_eqAttrS.l0]; rfl) (Ev.ifp (show j < (L.length : Int) by omega) (Ev.ifp h0 (Ev.ifp (show j < (L.length : Int) by omega) (Ev.bindc (a := true) ?_ (Ev.ifp (rfl : true = true) ?_)))))
  ·unfold laws_eqAttr.f; rw [if_pos rfl, if_pos rfl]
  ·rw [hw1]; exact ih (j + 1) om_ om_ om_
theorem ev_eqAttrS (L : List (S84)) (hl : L.length ≤ 140737488351232) : Ev (fun k => laws_eqAttrS.f k L L) true := by
 unfold laws_eqAttrS.f;exact Ev.ifp rfl (eqAttr_self L hl L.length 0 om_ si_ om_)
theorem markText_l (d : Nat) : ∀ (n : Int) (x : BA), 0 ≤ n → n ≤ d → d ≤ 1000000000 → x.size + d ≤ 2000000000 → ∃ t, Ev (fun k => laws_markText.l0 k n x) t := by
 induction d with
 | zero =>
  intro n x h0 hd hb hx;exact ⟨_, Ev.step (fun k => by simp only [laws_markText.l0]; rfl) (Ev.ifn (show ¬ n > 0 by omega) (Ev.ifp (show 1 + x.size ≤ 9223372036854775807 by omega) (Ev.now _)))⟩
 | succ d ih =>
  intro n x h0 hd hb hx;by_cases hn : n > 0
  ·have hw : wrap64 (Int.tdiv n 10) = n / 10 := by
    rw [Int.tdiv_eq_ediv_of_nonneg h0];unfold wrap64; omega
   have h1 : (strOfNums [(wrap64 (48 + (Int.tmod n 10))) % 256]).size = 1 := rfl;obtain ⟨t, ht⟩ := ih (n / 10) (strOfNums [(wrap64 (48 + (Int.tmod n 10))) % 256] ++ x) om_ om_ om_ (by rw [ByteArray.size_append, h1]; omega);refine ⟨t, Ev.step (fun k => by simp only [laws_markText.l0]; rfl) (Ev.ifp hn (Ev.bindc rfl (Ev.ifp (show (strOfNums [(wrap64 (48 + (Int.tmod n 10))) % 256]).size + x.size ≤ 9223372036854775807 by rw [h1]; omega) ?_)))⟩;rw [hw];exact ht
  ·exact ⟨_, Ev.step (fun k => by simp only [laws_markText.l0]; rfl) (Ev.ifn hn (Ev.ifp (show 1 + x.size ≤ 9223372036854775807 by omega) (Ev.now _)))⟩
theorem markText_ex (n : Int) : ∃ t, (n ≤ 1000000000 → Ev (fun k => laws_markText.f k n) t) := by
 by_cases h : n ≤ 1000000000
 ·by_cases h0 : n ≤ 0
  ·refine ⟨(⟨#[109, 48]⟩ : BA), fun _ => ?_⟩;unfold laws_markText.f;exact Ev.ifp h0 (Ev.now _)
  ·obtain ⟨t, ht⟩ := markText_l n.toNat n ⟨#[]⟩ om_ om_ om_ (by show 0 + n.toNat ≤ 2000000000; omega);refine ⟨t, fun _ => ?_⟩;unfold laws_markText.f;exact Ev.ifn h0 ht
 ·exact ⟨⟨#[]⟩, fun hh => absurd hh h⟩
noncomputable def mrkT (n : Int) : ByteArray := Classical.choose (markText_ex n)
theorem ev_mark (n : Int) (h : n ≤ 1000000000) : Ev (fun k => laws_markText.f k n) (mrkT n) := Classical.choose_spec (markText_ex n) h
def Marked (c : Int) (L : List (S84)) (j : Nat) : Prop := ∀ i (h : i < L.length), i < j → L[i] = ⟨mrkT (c + 2 * i), mrkT (c + 2 * i + 1)⟩
theorem markAttr_l (c : Int) (hc : 0 ≤ c) (hc1 : c ≤ 100000000) (d : Nat) : ∀ (j : Int) (L : List (S84)), L.length ≤ 100000000 → 0 ≤ j → L.length - j.toNat = d → j ≤ L.length → Marked c L j.toNat →
  ∃ M : List (S84), M.length = L.length ∧ Marked c M M.length ∧ Ev (fun k => laws_markAttrS.l0 k L (c + 2 * j) j) (c + 2 * L.length, M) := by
 induction d with
 | zero =>
  intro j L hl h0 hd hj hM;have : j = L.length := om_;refine ⟨L, rfl, fun i h _ => hM i h om_, ?_⟩;rw [this];exact Ev.step (fun k => by simp only [laws_markAttrS.l0]; rfl) (Ev.ifn om_ (Ev.now _))
 | succ d ih =>
  intro j L hl h0 hd hj hM;have hjl : j.toNat < L.length := om_;have hw1 : wrap64 (c + 2 * j + 1) = c + 2 * j + 1 := by unfold wrap64; omega
  have hw2 : wrap64 (c + 2 * j + 1 + 1) = c + 2 * (j + 1) := by unfold wrap64; omega
  have hw3 : wrap64 (j + 1) = j + 1 := by unfold wrap64; omega
  let L1 := L.set j.toNat ⟨mrkT (c + 2 * j), (rd_T84 L j).f1⟩
  let L2 := L1.set j.toNat ⟨(rd_T84 L1 j).f0, mrkT (c + 2 * j + 1)⟩
  have l1 : L1.length = L.length := List.length_set;have l2 : L2.length = L.length := by rw [← l1]; exact List.length_set
  have hf0 : (rd_T84 L1 j).f0 = mrkT (c + 2 * j) := by
   rw [rdAttr_at L1 j om_];show (L.set j.toNat _)[j.toNat].f0 = _;rw [List.getElem_set_self]
  have hM2 : Marked c L2 (j + 1).toNat := by
   intro i h hi;by_cases hij : i = j.toNat
   ·subst hij;show (L1.set j.toNat _)[j.toNat] = _;rw [List.getElem_set_self, hf0, show ((j.toNat : Nat) : Int) = j by omega]
   ·show (L1.set j.toNat _)[i] = _;rw [List.getElem_set_ne om_];show (L.set j.toNat _)[i] = _;rw [List.getElem_set_ne om_];exact hM i om_ om_
  obtain ⟨M, m1, m2, m3⟩ := ih (j + 1) L2 om_ om_ om_ om_ hM2;refine ⟨M, om_, m2, ?_⟩;rw [l2] at m3;refine Ev.step (fun k => by simp only [laws_markAttrS.l0]; rfl) (Ev.ifp (show j < (L.length : Int) by omega) (Ev.bind (ev_mark (c + 2 * j) om_) (Ev.ifp h0 (Ev.bindc (a := L1) rfl ?_))));rw [hw1];refine Ev.bind (ev_mark (c + 2 * j + 1) om_) ?_;rw [hw2, hw3];exact m3
theorem heldAttr_l (c : Int) (hc : 0 ≤ c) (hc1 : c ≤ 100000000) (L : List (S84)) (hl : L.length ≤ 100000000) (hM : Marked c L L.length) (d : Nat) : ∀ (j : Int), 0 ≤ j → L.length - j.toNat = d → j ≤ L.length →
  Ev (fun k => laws_heldAttrS.l0 k L (c + 2 * j) j) (c + 2 * L.length) := by
 induction d with
 | zero =>
  intro j h0 hd hj;have : j = L.length := om_;rw [this];exact Ev.step (fun k => by simp only [laws_heldAttrS.l0]; rfl) (Ev.ifn om_ (Ev.now _))
 | succ d ih =>
  intro j h0 hd hj;have hjl : j.toNat < L.length := om_;have hw1 : wrap64 (c + 2 * j + 1) = c + 2 * j + 1 := by unfold wrap64; omega
  have hw2 : wrap64 (c + 2 * j + 1 + 1) = c + 2 * (j + 1) := by unfold wrap64; omega
  have hw3 : wrap64 (j + 1) = j + 1 := by unfold wrap64; omega
  have hx := hM j.toNat hjl hjl;rw [show ((j.toNat : Nat) : Int) = j by omega] at hx;refine Ev.step (fun k => by simp only [laws_heldAttrS.l0]; rfl) (Ev.ifp (show j < (L.length : Int) by omega) (Ev.ifp h0 (Ev.bind (ev_mark (c + 2 * j) om_) ?_)));rw [rdAttr_at L j hjl, hx, hw1];refine Ev.ifp rfl (Ev.bind (ev_mark (c + 2 * j + 1) om_) (Ev.ifp rfl ?_));rw [hw2, hw3];exact ih (j + 1) om_ om_ om_
theorem attr_marks (L : List (S84)) (c : Int) (hc : 0 ≤ c) (hc1 : c ≤ 100000000) (hl : L.length ≤ 100000000) :
  ∃ M : List (S84), Ev (fun k => laws_markAttrS.f k L c) (c + 2 * L.length, M) ∧ Ev (fun k => laws_heldAttrS.f k M c) (c + 2 * L.length) := by
 obtain ⟨M, m1, m2, m3⟩ := markAttr_l c hc hc1 L.length 0 L hl om_ si_ om_ (fun i h hi => by simp at hi);have h := heldAttr_l c hc hc1 M om_ m2 M.length 0 om_ si_ om_;rw [m1] at h;refine ⟨M, ?_, ?_⟩
 ·unfold laws_markAttrS.f; simpa using m3
 ·unfold laws_heldAttrS.f; simpa using h
theorem Ev.fn {α : Type} {f g : Nat → Option α} {a : α} (h : ∀ k, f k = g k) (hg : Ev g a) : Ev f a := by rw [funext h]; exact hg
abbrev STk := S43
def aS : List STk → Nat
 | [] => 0
 | t :: l => t.f2.length + aS l
theorem aS_append : ∀ a b : List STk, aS (a ++ b) = aS a + aS b
 | [], b => by rw [List.nil_append, aS, Nat.zero_add]
 | x :: a, b => by rw [List.cons_append, aS, aS, aS_append a b, Nat.add_assoc]
theorem aS_one (t : STk) : aS [t] = t.f2.length := by rw [aS, aS]; omega
theorem aS_mem : ∀ (l : List STk) (t : STk), t ∈ l → t.f2.length ≤ aS l
 | [], t, h => by cases h
 | x :: l, t, h => by
  rw [aS];rcases List.mem_cons.1 h with e | h
  ·rw [e]; omega
  ·have := aS_mem l t h; omega
def mkVT (k : Nat) : STk → Int → Option (Int × STk)
 | ⟨_, _, at_, _, _⟩, n => (laws_markText.f k (wrap64 (n + 1))).bind fun t1 => (laws_markAttrS.f k at_ (wrap64 (wrap64 (n + 1) + 1))).bind fun q => (laws_markText.f k q.1).bind fun t3 => some (wrap64 (wrap64 (q.1 + 1) + 1), ⟨n, t1, q.2, t3, decide (Int.tmod (wrap64 (q.1 + 1)) 3 = 0)⟩)
def mkVL (k : Nat) : List STk → Int → Option (Int × List STk)
 | [], n => some (n, [])
 | x :: xs, n => (mkVT k x n).bind fun p => (mkVL k xs p.1).bind fun q => some (q.1, p.2 :: q.2)
theorem mkT_er (k : Nat) (x : GT) (n m : Int) (y : STk) (h : mkVT k (erT x) n = some (m, y)) : ∃ x', mkT k x n = some (m, x') ∧ erT x' = y := by
 obtain ⟨f0, f1, f2, f3, f4, b2⟩ := x;unfold erT at h;rw [mkVT] at h;obtain ⟨t1, h1, h⟩ := oB_ h;obtain ⟨q, h2, h⟩ := oB_ h;obtain ⟨t3, h3, h⟩ := oB_ h;obtain ⟨rfl, rfl⟩ := Prod.mk.inj (sI_ h);refine ⟨⟨n, t1, q.2, t3, decide (Int.tmod (wrap64 (q.1 + 1)) 3 = 0), b2⟩, ?_, rfl⟩;rw [mkT, h1, Option.bind_some, h2, Option.bind_some, h3, Option.bind_some]
theorem mkTL_er (k : Nat) : ∀ (xs : List GT) (n m : Int) (ys : List STk), mkVL k (xs.map erT) n = some (m, ys) → ∃ xs', mkTL k xs n = some (m, xs') ∧ xs'.map erT = ys
 | [], n, m, ys, h => by
  rw [List.map_nil, mkVL] at h;obtain ⟨rfl, rfl⟩ := Prod.mk.inj (sI_ h);exact ⟨[], by rw [mkTL], rfl⟩
 | x :: xs, n, m, ys, h => by
  rw [List.map_cons, mkVL] at h;obtain ⟨⟨p1, p2⟩, h1, h⟩ := oB_ h;obtain ⟨⟨q1, q2⟩, h2, h⟩ := oB_ h;obtain ⟨rfl, rfl⟩ := Prod.mk.inj (sI_ h);obtain ⟨x', e1, e2⟩ := mkT_er k x n p1 p2 h1;obtain ⟨xs', e3, e4⟩ := mkTL_er k xs p1 q1 q2 h2;refine ⟨x' :: xs', ?_, by rw [List.map_cons, e2, e4]⟩;rw [mkTL, e1, Option.bind_some, e3, Option.bind_some]
theorem mkVT_ok (t : STk) (c : Int) (h0 : 0 ≤ c) (h1 : c + 4 + 2 * t.f2.length ≤ 100000000) : ∃ y, Ev (fun k => mkVT k t c) (c + 4 + 2 * t.f2.length, y) ∧ Ev (fun k => heldT k y c) (c + 4 + 2 * t.f2.length) := by
 obtain ⟨f0, f1, f2, f3, f4⟩ := t;dsimp only at h1 ⊢;have w1_ : wrap64 (c + 1) = c + 1 := by unfold wrap64; omega
 have w2_ : wrap64 (c + 1 + 1) = c + 2 := by unfold wrap64; omega
 obtain ⟨M, m1, m2⟩ := attr_marks f2 (c + 2) om_ om_ om_;have w3_ : wrap64 (c + 2 + 2 * (f2.length : Int) + 1) = c + 2 + 2 * (f2.length : Int) + 1 := by unfold wrap64; omega
 have w4_ : wrap64 (c + 2 + 2 * (f2.length : Int) + 1 + 1) = c + 4 + 2 * (f2.length : Int) := by unfold wrap64; omega
 have a1 := ev_mark (c + 1) om_;have a2 := ev_mark (c + 2 + 2 * (f2.length : Int)) om_;refine ⟨⟨c, mrkT (c + 1), M, mrkT (c + 2 + 2 * (f2.length : Int)), decide (Int.tmod (c + 2 + 2 * (f2.length : Int) + 1) 3 = 0)⟩, ?_, ?_⟩
 ·refine Ev.fn (fun k => by rw [mkVT, w1_, w2_]) (Ev.bind a1 (Ev.bind m1 (Ev.bind a2 ?_)));dsimp only;rw [w3_, w4_];exact Ev.now _
 ·refine Ev.fn (fun k => by rw [heldT, w1_, w2_]) (Ev.ifp rfl (Ev.bind a1 (Ev.ifp rfl (Ev.bind m2 (Ev.ifp (show 0 ≤ c + 2 + 2 * (f2.length : Int) by omega) (Ev.bind a2 (Ev.ifp rfl ?_)))))));rw [w3_, w4_];exact Ev.ifp rfl (Ev.now _)
theorem mkVL_ok : ∀ (l : List STk) (c : Int), 0 ≤ c → c + 4 * l.length + 2 * aS l ≤ 100000000 → ∃ m ys, Ev (fun k => mkVL k l c) (m, ys) ∧ Ev (fun k => heldTL k ys c) m ∧ c ≤ m
 | [], c, h0, h => ⟨c, [], Ev.now _, Ev.now _, Int.le_refl _⟩
 | t :: l, c, h0, h => by
  rw [aS, List.length_cons] at h;obtain ⟨y, e1, e2⟩ := mkVT_ok t c h0 om_;obtain ⟨m, ys, e3, e4, e5⟩ := mkVL_ok l (c + 4 + 2 * t.f2.length) om_ om_;refine ⟨m, y :: ys, ?_, ?_, om_⟩
  ·refine Ev.fn (fun k => by rw [mkVL]) (Ev.bind e1 ?_);dsimp only;exact Ev.bind (f := fun _ q => some (q.1, y :: q.2)) e3 (Ev.now (m, y :: ys))
  ·exact Ev.fn (fun k => by rw [heldTL]) (Ev.bind e2 e4)
theorem rdTok_at (L : List STk) (j : Int) (h : j.toNat < L.length) : rd_T43 L j = L[j.toNat] := by
 unfold rd_T43; rw [List.getD_eq_getElem?_getD, List.getElem?_eq_getElem h]; rfl
theorem eqTok_self (L : List STk) (hl : L.length ≤ 1000000) (ha : ∀ t ∈ L, t.f2.length ≤ 140737488351232) (d : Nat) : ∀ (j : Int), 0 ≤ j → L.length - j.toNat = d → j ≤ L.length → Ev (fun k => laws_eqTokenS.l0 k L L j) true := by
 induction d with
 | zero =>
  intro j h0 hd hj;exact Ev.step (fun k => by simp only [laws_eqTokenS.l0]; rfl) (Ev.ifn om_ (Ev.now _))
 | succ d ih =>
  intro j h0 hd hj;have hlt : j.toNat < L.length := om_;have hw : wrap64 (j + 1) = j + 1 := by unfold wrap64; omega
  have h2 := ha (rd_T43 L j) (by rw [rdTok_at L j hlt]; exact List.getElem_mem hlt);have e := ev_eqAttrS (rd_T43 L j).f2 h2;refine Ev.step (fun k => by simp only [laws_eqTokenS.l0]; rfl) (Ev.ifp om_ (Ev.ifp h0 (Ev.ifp om_ (Ev.bind (a := true) ?_ ?_))))
  ·unfold laws_eqToken.f;exact Ev.ifp rfl (Ev.ifp rfl (Ev.bind e (Ev.ifp rfl (Ev.ifp rfl (Ev.ifn si_ (Ev.now _))))))
  ·refine Ev.ifp rfl ?_;rw [hw];exact ih (j + 1) om_ om_ om_
theorem eqTokenS_ok (L : List STk) (hl : L.length ≤ 1000000) (ha : ∀ t ∈ L, t.f2.length ≤ 140737488351232) : Ev (fun k => laws_eqTokenS.f k L L) true := by
 unfold laws_eqTokenS.f;exact Ev.ifp rfl (eqTok_self L hl ha L.length 0 om_ si_ om_)
structure Wf (out : List STk) (p : Int) : Prop where
 len : (out.length : Int) ≤ p
 at_ : (aS out : Int) ≤ p
 tx : ∀ t ∈ out, (t.f3.size : Int) ≤ 4 * p
theorem Wf.mono {out : List STk} {p q : Int} (h : Wf out p) (hq : p ≤ q) : Wf out q := ⟨by have := h.len; omega, by have := h.at_; omega, fun t ht => by have := h.tx t ht; omega⟩
theorem Wf.app {out : List STk} {p q : Int} (h : Wf out p) (t : STk) (hq : p < q) (ht : (t.f3.size : Int) ≤ 4 * q) (ha : (t.f2.length : Int) ≤ q - p) : Wf (out ++ [t]) q := by
 refine ⟨by have := h.len; rw [List.length_append, List.length_singleton]; omega, by have := h.at_; rw [aS_append, aS_one]; omega, fun x hx => ?_⟩;rcases List.mem_append.1 hx with hx | hx
 ·have := h.tx x hx; omega
 ·rw [List.mem_singleton] at hx; rw [hx]; exact ht
theorem appT_ok {out : List STk} {p : Int} (h : Wf out p) (hp : p ≤ 1000000) (t : STk) : appT out t = some (out ++ [t]) := by
 unfold appT;rw [if_pos (by have := h.len; omega)]
theorem put_other {out : List STk} {p : Int} (h : Wf out p) (hp : p ≤ 1000000) (t : STk) (hk : ¬ t.f0 = 1) : impl_scanner_put.f out t = some (out ++ [t]) ∧ spec_l5Put.f out t = some (out ++ [t]) := by
 unfold impl_scanner_put.f spec_l5Put.f tkPut;rw [if_neg hk, if_neg hk, appT_ok h hp];exact ⟨rfl, rfl⟩
theorem put_text {out : List STk} {p q : Int} (h : Wf out p) (hq : p < q) (hq2 : q ≤ 1000000) (t : STk) (ht : (t.f3.size : Int) ≤ 4 * (q - p)) (ha : t.f2 = []) (hk : t.f0 = 1) (he : ¬ t.f3.toList = []) : ∃ o, impl_scanner_put.f out t = some o ∧ spec_l5Put.f out t = some o ∧ Wf o q := by
 have h0 : 0 ≤ p := by have := h.len; omega
 have happ := appT_ok h om_ t;have hW : Wf (out ++ [t]) q := h.app t hq om_ (by rw [ha]; simp; omega);unfold spec_l5Put.f impl_scanner_put.f;rw [if_pos hk, if_neg he];unfold tkPut;rw [if_pos hk];rcases snoc_of out with rfl | ⟨a, x, rfl⟩
 ·exact ⟨_, happ, happ, hW⟩
 have hl : lastT (a ++ [x]) = some x := by unfold lastT; simp
 rw [hl];dsimp only;by_cases c : x.f0 = 1
 ·have hx := h.tx x si_;rw [if_pos c, if_pos om_, List.dropLast_concat];refine ⟨_, rfl, rfl, ?_, ?_, ?_⟩
  ·have := h.len;rw [List.length_append, List.length_singleton] at this ⊢;omega
  ·have := h.at_;rw [aS_append, aS_one] at this ⊢;show ((aS a + x.f2.length : Nat) : Int) ≤ q;omega
  ·intro y hy;rcases List.mem_append.1 hy with hy | hy
   ·have := h.tx y (List.mem_append_left _ hy); omega
   ·rw [List.mem_singleton] at hy;rw [hy];show ((x.f3 ++ t.f3).size : Int) ≤ _;rw [ByteArray.size_append];omega
 ·rw [if_neg c];exact ⟨_, happ, happ, hW⟩
theorem ext_sz (s : BA) (a b : Int) (h0 : 0 ≤ a) (h1 : a ≤ b) (h2 : b ≤ s.size) : ((s.extract a.toNat b.toNat).size : Int) = b - a := by
 rw [ByteArray.size_extract];omega
theorem text_step (s : BA) (hs : s.size ≤ 1000000) (p : Int) (out : List STk) (hW : Wf out p) (h1 : p < s.size) : ∃ r : Int × List STk, p < r.1 ∧ r.1 ≤ s.size ∧ Wf r.2 r.1 ∧ Ev (fun k => impl_scanner_text.f k s p out) r ∧ Ev (fun k => sText k s p out) r := by
 have h0 : 0 ≤ p := by have := hW.len; omega
 obtain ⟨te, t0, t1, e1, e2⟩ := textTo_both s hs _ (p + 1) om_ om_ (Nat.le_refl _);have hz := ext_sz s p te h0 om_ t1;generalize htx : s.extract p.toNat te.toNat = tx at *;have hr := refsB_size tx false;have hp := refsB_pos tx false om_;obtain ⟨o, q1, q2, q3⟩ := put_text hW (q := te) om_ om_ ⟨1, ⟨#[]⟩, [], refsB tx false, false⟩ (by show ((refsB tx false).size : Int) ≤ _; omega) rfl rfl (ne_of_size hp);refine ⟨(te, o), by show p < te; omega, t1, q3, ?_, ?_⟩
 ·unfold impl_scanner_text.f;refine Ev.ifp ⟨h0, h1, hs⟩ (Ev.bind e1 (Ev.ifp ⟨om_, t1⟩ ?_));rw [htx];exact Ev.bind (ev_implRefs tx false om_) (Ev.bindc q1 (Ev.now _))
 ·unfold sText;refine Ev.bind e2 (Ev.ifp ⟨om_, t1⟩ ?_);rw [htx];exact Ev.bind (ev_specRefs tx false om_) (Ev.bindc q2 (Ev.now _))
theorem data_drop (s : BA) (i : Nat) : (s.extract i s.size).data.toList = s.data.toList.drop i := by
 rw [extract_list, ← data_length s];exact List.take_of_length_le (by rw [List.length_drop]; omega)
theorem index_f (s : BA) (hs : s.size ≤ 1000000) (i : Nat) (nm : BA) : strings_Index.f (s.extract i s.size) nm = some (Lib.index (s.data.toList.drop i) nm.data.toList) := by
 unfold strings_Index.f;rw [if_pos (by rw [ByteArray.size_extract]; omega), data_drop]
theorem note_step (s : BA) (hs : s.size ≤ 1000000) (p : Int) (out : List STk) (hW : Wf out p) (h1 : p + 4 ≤ s.size) : ∃ r : Int × List STk, p < r.1 ∧ r.1 ≤ s.size ∧ Wf r.2 r.1 ∧ Ev (fun _ => impl_scanner_note.f s p out) r ∧ Ev (fun k => spec_l5Note.f k s p out) r := by
 have h0 : 0 ≤ p := by have := hW.len; omega
 obtain ⟨r, e1, e2⟩ := search_both s om_ ⟨#[45, 45, 62]⟩ de_ de_ (p + 2).toNat om_;have hn : ((p + 2).toNat : Int) = p + 2 := om_;rw [hn] at e1 e2;have hidx := index_f s hs (p + 2).toNat ⟨#[45, 45, 62]⟩;have hx : (⟨#[45, 45, 62]⟩ : BA).size = 3 := rfl;have putN : ∀ (tx : BA) (q : Int), p < q → q ≤ 1000000 → (tx.size : Int) ≤ 4 * q → (impl_scanner_put.f out ⟨4, ⟨#[]⟩, [], tx, false⟩ = some (out ++ [⟨4, ⟨#[]⟩, [], tx, false⟩]) ∧ spec_l5Put.f out ⟨4, ⟨#[]⟩, [], tx, false⟩ = some (out ++ [⟨4, ⟨#[]⟩, [], tx, false⟩])) ∧ Wf (out ++ [⟨4, ⟨#[]⟩, [], tx, false⟩]) q := fun tx q hq hq2 ht =>
  ⟨put_other hW om_ _ (by show ¬ (4 : Int) = 1; decide), hW.app _ hq ht (by show ((0 : Nat) : Int) ≤ _; omega)⟩
 rcases e2 with ⟨rfl, e3⟩ | ⟨e3, e4, e5⟩
 ·have hz := ext_sz s (p + 4) s.size om_ h1 (Int.le_refl _);rw [Int.toNat_natCast] at hz;obtain ⟨⟨q1, q2⟩, q3⟩ := putN (s.extract (p + 4).toNat s.size) s.size om_ om_ om_;refine ⟨((s.size : Int), _), by show p < (s.size : Int); omega, Int.le_refl _, q3, ?_, ?_⟩
  ·unfold impl_scanner_note.f;rw [hidx, e3];exact Ev.ifp ⟨h0, h1, hs⟩ (Ev.bindc rfl (Ev.ifp de_ (Ev.bindc q1 (Ev.now _))))
  ·unfold spec_l5Note.f;exact Ev.ifp ⟨h0, h1, hs⟩ (Ev.bind e1 (Ev.ifp de_ (Ev.bindc q2 (Ev.now _))))
 ·have e6 := e4.1;rw [hx] at e6;by_cases cm : p + 4 < r
  ·have hz := ext_sz s (p + 4) r om_ om_ om_;obtain ⟨⟨q1, q2⟩, q3⟩ := putN (s.extract (p + 4).toNat r.toNat) (r + 3) om_ om_ om_;refine ⟨(r + 3, _), by show p < r + 3; omega, by show r + 3 ≤ (s.size : Int); omega, q3, ?_, ?_⟩
   ·unfold impl_scanner_note.f;rw [hidx, e5];refine Ev.ifp ⟨h0, h1, hs⟩ (Ev.bindc rfl (Ev.ifn om_ (Ev.ifp om_ (Ev.ifp om_ ?_))));rw [show p + 2 + (r - (p + 2)) = r by omega];exact Ev.bindc q1 (Ev.now _)
   ·unfold spec_l5Note.f;exact Ev.ifp ⟨h0, h1, hs⟩ (Ev.bind e1 (Ev.ifn om_ (Ev.ifp om_ (Ev.ifp cm (Ev.bindc q2 (Ev.now _))))))
  ·obtain ⟨⟨q1, q2⟩, q3⟩ := putN (⟨#[]⟩ : BA) (r + 3) om_ om_ (by show ((0 : Nat) : Int) ≤ _; omega);refine ⟨(r + 3, _), by show p < r + 3; omega, by show r + 3 ≤ (s.size : Int); omega, q3, ?_, ?_⟩
   ·unfold impl_scanner_note.f;rw [hidx, e5];refine Ev.ifp ⟨h0, h1, hs⟩ (Ev.bindc rfl (Ev.ifn om_ (Ev.ifp om_ (Ev.ifn om_ ?_))));rw [show p + 2 + (r - (p + 2)) = r by omega];exact Ev.bindc q1 (Ev.now _)
   ·unfold spec_l5Note.f;exact Ev.ifp ⟨h0, h1, hs⟩ (Ev.bind e1 (Ev.ifn om_ (Ev.ifp om_ (Ev.ifn cm (Ev.bindc q2 (Ev.now _))))))
theorem nmEnd_l (s : BA) (hm : s.size ≤ 140737488351232) (d : Nat) : ∀ (k : Nat) (i : Int), 0 ≤ i → i ≤ s.size → ((s.size : Int) - i).toNat = d → d < k → impl_nameEnd.l0 k s i = some (tnE s i) := by
 induction d with
 | zero =>
  intro k i h0 h1 hd hk;obtain ⟨k, rfl⟩ : ∃ m, k = m + 1 := ⟨k - 1, om_⟩;simp only [impl_nameEnd.l0];rw [if_neg om_, tnE_stop (.inl om_)]
 | succ d ih =>
  intro k i h0 h1 hd hk;obtain ⟨k, rfl⟩ : ∃ m, k = m + 1 := ⟨k - 1, om_⟩;have hr := bt_range s i;simp only [impl_nameEnd.l0];rw [if_pos om_, if_pos h0, isBlankByte_f _ hr.1 hr.2];simp only [Option.bind_some];by_cases c1 : blk (bt s i) = true
  ·rw [if_pos c1, tnE_stop (.inr (by simp [inTn, c1]))]
  rw [if_neg c1];have c1' : blk (bt s i) = false := by simpa using c1
  by_cases c2 : bt s i = 47
  ·rw [if_pos c2, tnE_stop (.inr (by simp [inTn, c2]))]
  rw [if_neg c2];by_cases c3 : bt s i = 62
  ·rw [if_pos c3, tnE_stop (.inr (by simp [inTn, c3]))]
  rw [if_neg c3, w1 h0 h1 hm, tnE_go om_ (by simp [inTn, c1', c2, c3])];exact ih k (i + 1) om_ om_ om_ om_
theorem ev_nmEnd (s : BA) (hm : s.size ≤ 140737488351232) (i : Int) (h0 : 0 ≤ i) (h1 : i ≤ s.size) : Ev (fun k => impl_nameEnd.f k s i) (tnE s i) :=
 Ev.of (impl_nameEnd.mono s i) (k := ((s.size : Int) - i).toNat + 1) (nmEnd_l s hm _ _ i h0 h1 rfl (Nat.lt_succ_self _))
theorem past_l (s : BA) (hm : s.size ≤ 140737488351232) (d : Nat) : ∀ (k : Nat) (i : Int), 0 ≤ i → i ≤ s.size → ((s.size : Int) - i).toNat = d → d < k → impl_pastBlanks.l0 k s i = some (pastB s i) := by
 induction d with
 | zero =>
  intro k i h0 h1 hd hk;obtain ⟨k, rfl⟩ : ∃ m, k = m + 1 := ⟨k - 1, om_⟩;simp only [impl_pastBlanks.l0];rw [if_neg om_, pastB_stop (.inl om_)]
 | succ d ih =>
  intro k i h0 h1 hd hk;obtain ⟨k, rfl⟩ : ∃ m, k = m + 1 := ⟨k - 1, om_⟩;have hr := bt_range s i;simp only [impl_pastBlanks.l0];rw [if_pos om_, if_pos h0, isBlankByte_f _ hr.1 hr.2];simp only [Option.bind_some];by_cases c1 : blk (bt s i) = true
  ·rw [if_pos c1, w1 h0 h1 hm, pastB_go om_ c1];exact ih k (i + 1) om_ om_ om_ om_
  ·rw [if_neg c1, pastB_stop (.inr (by simpa using c1))]
theorem ev_past (s : BA) (hm : s.size ≤ 140737488351232) (i : Int) (h0 : 0 ≤ i) (h1 : i ≤ s.size) : Ev (fun k => impl_pastBlanks.f k s i) (pastB s i) :=
 Ev.of (impl_pastBlanks.mono s i) (k := ((s.size : Int) - i).toNat + 1) (past_l s hm _ _ i h0 h1 rfl (Nat.lt_succ_self _))
def rawL : List UInt8 := [32, 115, 99, 114, 105, 112, 116, 32, 115, 116, 121, 108, 101, 32, 116, 105, 116, 108, 101, 32, 116, 101, 120, 116, 97, 114, 101, 97, 32]
def rawFour : List (List UInt8) := [[115, 99, 114, 105, 112, 116], [115, 116, 121, 108, 101], [116, 105, 116, 108, 101], [116, 101, 120, 116, 97, 114, 101, 97]]
theorem pre_take (n : List UInt8) (h : ∀ x ∈ n, (x != 32) = true) : ∀ R : List UInt8, n ++ [32] <+: R → n = R.takeWhile (· != 32) := by
 induction n with
 | nil =>
  intro R hR;obtain ⟨t, rfl⟩ := hR;simp
 | cons x n ih =>
  intro R hR;obtain ⟨t, rfl⟩ := hR;have hx := h x List.mem_cons_self;rw [List.cons_append, List.cons_append, List.takeWhile_cons, if_pos hx];congr 1
  exact ih (fun y hy => h y (List.mem_cons_of_mem _ hy)) _ ⟨t, rfl⟩
theorem raw_occ (n : List UInt8) (hn : n ≠ []) (h : ∀ x ∈ n, (x != 32) = true) (j : Nat) (hj : (32 :: (n ++ [32])) <+: rawL.drop j) : n ∈ rawFour := by
 have hl := hj.length_le;have key : ∀ j, j < 29 → (rawL.drop j).head? = some 32 → (rawL.drop j).tail.takeWhile (· != 32) = [] ∨ (rawL.drop j).tail.takeWhile (· != 32) ∈ rawFour := by decide +kernel
 have hj2 : j < 29 := by
  rw [List.length_drop] at hl;simp [rawL] at hl
  omega
 obtain ⟨t, ht⟩ := hj;have e1 : (rawL.drop j).head? = some 32 := by rw [← ht]; rfl
 have e2 : n = (rawL.drop j).tail.takeWhile (· != 32) := pre_take n h _ ⟨t, by rw [← ht]; simp⟩;rcases key j hj2 e1 with h1 | h1
 ·exact absurd (e2.trans h1) hn
 ·rw [e2]; exact h1
theorem ba_of (n : BA) (l : List UInt8) (h : n.toList = l) : n = ⟨l.toArray⟩ := by
 rw [ByteArray.toList_eq] at h;obtain ⟨⟨d⟩⟩ := n;subst h;rfl
theorem idx_one (l : List UInt8) (c : UInt8) (h : c ∈ l) : 0 ≤ Lib.index l [c] := by
 induction l with
 | nil => cases h
 | cons b l ih =>
  unfold Lib.index;by_cases e : b = c
  ·subst e;rw [if_pos si_];exact Int.le_refl _
  ·have h2 := ih (by
    rcases List.mem_cons.1 h with h | h
    ·exact absurd h.symm e
    ·exact h)
   split
   ·exact Int.le_refl _
   ·split
    ·rename_i h3
     have := beq_iff_eq.mp h3;omega
    ·omega
theorem Raw_both (n : BA) (hn : n.size ≤ 1000000) : ∃ b : Bool, impl_Raw.f n = some b ∧ spec_Raw.f n = some b ∧ (b = true → n.toList ∈ rawFour) := by
 by_cases h : n.toList ∈ rawFour
 ·have h' := h;simp only [rawFour, List.mem_cons, List.not_mem_nil, or_false] at h';rcases h' with h' | h' | h' | h'
  ·obtain rfl := ba_of n _ h';exact ⟨true, by decide +kernel, by decide +kernel, fun _ => h⟩
  ·obtain rfl := ba_of n _ h';exact ⟨true, by decide +kernel, by decide +kernel, fun _ => h⟩
  ·obtain rfl := ba_of n _ h';exact ⟨true, by decide +kernel, by decide +kernel, fun _ => h⟩
  ·obtain rfl := ba_of n _ h';exact ⟨true, by decide +kernel, by decide +kernel, fun _ => h⟩
 have h' := h;simp only [rawFour, List.mem_cons, List.not_mem_nil, or_false, not_or] at h';refine ⟨false, ?_, ?_, fun e => by cases e⟩
 ·unfold impl_Raw.f impl_isOneOf.f;by_cases e : n.toList = []
  ·rw [if_pos e]; rfl
  rw [if_neg e];unfold strings_Contains.f;rw [if_pos (show n.size < 4294967281 by omega), Option.bind_some];by_cases c : Lib.contains n.data.toList (⟨#[32]⟩ : BA).data.toList = true
  ·rw [if_pos c]; rfl
  rw [if_neg c];have h32 : ∀ x ∈ n.toList, (x != 32) = true := by
   intro x hx;rw [bne_iff_ne];rintro rfl;refine c (dE_ ?_);rw [ByteArray.toList_eq] at hx;exact idx_one _ _ hx
  have z1 : (⟨#[115, 99, 114, 105, 112, 116, 32, 115, 116, 121, 108, 101, 32, 116, 105, 116, 108, 101, 32, 116, 101, 120, 116, 97, 114, 101, 97]⟩ : BA).size = 27 := rfl;have z2 : (⟨#[32]⟩ : BA).size = 1 := rfl;simp only [ByteArray.size_append, z1, z2];rw [if_pos om_, if_pos om_, if_pos om_, if_pos om_, if_pos om_];have hc : Lib.contains (((⟨#[32]⟩ : BA) ++ ⟨#[115, 99, 114, 105, 112, 116, 32, 115, 116, 121, 108, 101, 32, 116, 105, 116, 108, 101, 32, 116, 101, 120, 116, 97, 114, 101, 97]⟩) ++ (⟨#[32]⟩ : BA)).data.toList (((⟨#[32]⟩ : BA) ++ n) ++ (⟨#[32]⟩ : BA)).data.toList = false := by
   refine dF_ ?_;rw [Lib.index_none]
   ·decide
   ·intro j hj;rw [Bool.eq_false_iff];intro ho;refine h (raw_occ n.toList e h32 j ?_);unfold Lib.occAt at ho;rw [List.isPrefixOf_iff_prefix] at ho;have e1 : (((⟨#[32]⟩ : BA) ++ n) ++ (⟨#[32]⟩ : BA)).data.toList = 32 :: (n.toList ++ [32]) := by
     rw [ByteArray.data_append, ByteArray.data_append, Array.toList_append, Array.toList_append, ByteArray.toList_eq];rfl
    rw [e1] at ho;exact ho
  rw [hc];rfl
 ·unfold spec_Raw.f;rw [if_neg h'.1, if_neg h'.2.1, if_neg h'.2.2.1];rw [bN_ h'.2.2.2]
theorem raw_kind (nm : BA) (h : nm.toList ∈ rawFour) : nm.size ≤ 8 ∧ ((impl_isPlainRaw.f nm = some true ∧ ¬ nm.toList = [116, 105, 116, 108, 101] ∧ ¬ nm.toList = [116, 101, 120, 116, 97, 114, 101, 97]) ∨ (impl_isPlainRaw.f nm = some false ∧ (nm.toList = [116, 105, 116, 108, 101] ∨ nm.toList = [116, 101, 120, 116, 97, 114, 101, 97]))) := by
 simp only [rawFour, List.mem_cons, List.not_mem_nil, or_false] at h;rcases h with h | h | h | h
 ·obtain rfl := ba_of nm _ h;exact ⟨by decide, .inl ⟨by decide +kernel, by decide +kernel, by decide +kernel⟩⟩
 ·obtain rfl := ba_of nm _ h;exact ⟨by decide, .inl ⟨by decide +kernel, by decide +kernel, by decide +kernel⟩⟩
 ·obtain rfl := ba_of nm _ h;exact ⟨by decide, .inr ⟨by decide +kernel, .inl (by decide +kernel)⟩⟩
 ·obtain rfl := ba_of nm _ h;exact ⟨by decide, .inr ⟨by decide +kernel, .inr (by decide +kernel)⟩⟩
theorem nil_of {t : BA} (h : t.size = 0) : t.toList = [] := by
 rw [ByteArray.toList_eq];have := data_length t;exact List.length_eq_zero_iff.mp om_
theorem refsB_none {t : BA} (h : t.size = 0) (v : Bool) : (refsB t v).toList = [] := by
 refine nil_of ?_;have := refsB_size t v;omega
theorem put_raw {out : List STk} {p : Int} (h : Wf out p) (hp : p ≤ 1000000) (t : STk) (hl : ∃ l, lastT out = some l ∧ ¬ l.f0 = 1) : impl_scanner_put.f out t = some (out ++ [t]) := by
 obtain ⟨l, h1, h2⟩ := hl;have h3 := appT_ok h hp t;unfold impl_scanner_put.f tkPut;split
 ·rw [h1];dsimp only;rw [if_neg h2, h3]
 ·exact h3
theorem raw_step (s : BA) (hs : s.size ≤ 1000000) (p : Int) (out : List STk) (nm : BA) (hW : Wf out p) (h1 : p ≤ s.size) (hl : ∃ l, lastT out = some l ∧ ¬ l.f0 = 1) (hn : nm.toList ∈ rawFour) : ∃ r : Int × List STk, p ≤ r.1 ∧ r.1 ≤ s.size ∧ Wf r.2 r.1 ∧ Ev (fun k => impl_scanner_raw.f k s p out nm) r ∧ Ev (fun k => spec_l5Raw.f k s p out nm) r := by
 have h0 : 0 ≤ p := by have := hW.len; omega
 obtain ⟨hsz, hk⟩ := raw_kind nm hn;obtain ⟨te, t0, t1, e1, e2⟩ := RawEnd_both s nm p om_ om_ h0 h1;have hz := ext_sz s p te h0 t0 t1;by_cases ht : te = p
 ·-- nothing
  have he : (s.extract p.toNat te.toNat).size = 0 := om_;refine ⟨(te, out), t0, t1, hW.mono t0, ?_, ?_⟩
  ·unfold impl_scanner_raw.f;exact Ev.ifp ⟨h0, h1, hs⟩ (Ev.bind e1 (Ev.ifp ⟨t0, t1⟩ (Ev.ifp (nil_of he) (Ev.now _))))
  ·unfold spec_l5Raw.f;refine Ev.ifp ⟨h0, h1, hs⟩ (Ev.bind e2 (Ev.ifp ⟨t0, t1⟩ ?_));rcases hk with ⟨_, k1, k2⟩ | ⟨_, k1 | k1⟩
   ·exact Ev.bind (Ev.ifn k1 (Ev.ifn k2 (Ev.now _))) (Ev.ifp (nil_of he) (Ev.now _))
   ·exact Ev.bind (Ev.ifp k1 (ev_specRefs _ false om_)) (Ev.ifp (refsB_none he false) (Ev.now _))
   ·exact Ev.bind (Ev.ifn (by rw [k1]; decide) (Ev.ifp k1 (ev_specRefs _ false om_))) (Ev.ifp (refsB_none he false) (Ev.now _))
 generalize htx : s.extract p.toNat te.toNat = tx at *;have hne : ¬ tx.toList = [] := ne_of_size om_;have hr := refsB_size tx false;have hp := refsB_pos tx false om_;have hputs : ∀ t : ByteArray, (t.size : Int) ≤ 4 * te → impl_scanner_put.f out ⟨1, ⟨#[]⟩, [], t, false⟩ = some (out ++ [⟨1, ⟨#[]⟩, [], t, false⟩]) ∧ appT out ⟨1, ⟨#[]⟩, [], t, false⟩ = some (out ++ [⟨1, ⟨#[]⟩, [], t, false⟩]) ∧ Wf (out ++ [⟨1, ⟨#[]⟩, [], t, false⟩]) te := fun t h =>
  ⟨put_raw hW om_ _ hl, appT_ok hW om_ _, hW.app _ om_ h (by show ((0 : Nat) : Int) ≤ _; omega)⟩
 rcases hk with ⟨k0, k1, k2⟩ | ⟨k0, k1⟩
 ·obtain ⟨q1, q2, q3⟩ := hputs tx om_;refine ⟨(te, _), t0, t1, q3, ?_, ?_⟩
  ·unfold impl_scanner_raw.f;refine Ev.ifp ⟨h0, h1, hs⟩ (Ev.bind e1 (Ev.ifp ⟨t0, t1⟩ ?_));rw [htx];exact Ev.ifn hne (Ev.bindc k0 (Ev.ifp rfl (Ev.bindc q1 (Ev.now _))))
  ·unfold spec_l5Raw.f;refine Ev.ifp ⟨h0, h1, hs⟩ (Ev.bind e2 (Ev.ifp ⟨t0, t1⟩ ?_));rw [htx];exact Ev.bind (Ev.ifn k1 (Ev.ifn k2 (Ev.now _))) (Ev.ifn hne (Ev.bindc q2 (Ev.now _)))
 ·obtain ⟨q1, q2, q3⟩ := hputs (refsB tx false) om_;refine ⟨(te, _), t0, t1, q3, ?_, ?_⟩
  ·unfold impl_scanner_raw.f;refine Ev.ifp ⟨h0, h1, hs⟩ (Ev.bind e1 (Ev.ifp ⟨t0, t1⟩ ?_));rw [htx];exact Ev.ifn hne (Ev.bindc k0 (Ev.ifn si_ (Ev.bind (ev_implRefs tx false om_) (Ev.bindc q1 (Ev.now _)))))
  ·unfold spec_l5Raw.f;refine Ev.ifp ⟨h0, h1, hs⟩ (Ev.bind e2 (Ev.ifp ⟨t0, t1⟩ ?_));rw [htx];rcases k1 with k1 | k1
   ·exact Ev.bind (Ev.ifp k1 (ev_specRefs tx false om_)) (Ev.ifn (ne_of_size hp) (Ev.bindc q2 (Ev.now _)))
   ·exact Ev.bind (Ev.ifn (by rw [k1]; decide) (Ev.ifp k1 (ev_specRefs tx false om_))) (Ev.ifn (ne_of_size hp) (Ev.bindc q2 (Ev.now _)))
theorem last_app (out : List STk) (t : STk) : lastT (out ++ [t]) = some t := by unfold lastT; simp
theorem tag_step (s : BA) (hs : s.size ≤ 1000000) (p : Int) (out : List STk) (hW : Wf out p) (h1 : p < s.size) (h60 : bt s p = 60) (kd : Int) (hkd : (tagFrom s p = p + 2 ∧ kd = 3) ∨ (¬ tagFrom s p = p + 2 ∧ kd = 2)) : ∃ r : Int × List STk, p < r.1 ∧ r.1 ≤ s.size ∧ Wf r.2 r.1 ∧ Ev (fun k => impl_scanner_tag.f k s p out (tagFrom s p) kd) r ∧ Ev (fun k => spec_l5Tag.f k s p out) r := by
 have h0 : 0 ≤ p := by have := hW.len; omega
 obtain ⟨en, hen, e1, e2⟩ := TagEnd_bothB s p om_ h0 h1 h60;have hA := after_f s p om_ h0 h1;have hb : p + 1 ≤ tagFrom s p ∧ tagFrom s p ≤ s.size := by unfold tagFrom; split <;> omega
 have htl := tnE_le (s := s) _ (tagFrom s p) rfl hb.2;have evt := ev_tag s om_ (tagFrom s p) om_ hb.2;have evn := ev_nmEnd s om_ (tagFrom s p) om_ hb.2;generalize tagFrom s p = fr at *;generalize tnE s fr = te at *;rcases hen with rfl | ⟨n1, n2⟩
 ·refine ⟨((s.size : Int), out), h1, Int.le_refl _, hW.mono om_, ?_, ?_⟩
  ·unfold impl_scanner_tag.f;exact Ev.ifp ⟨h0, om_, hs, om_⟩ (Ev.bindc e1 (Ev.ifp de_ (Ev.now _)))
  ·unfold spec_l5Tag.f;exact Ev.ifp ⟨h0, om_, hs⟩ (Ev.bind e2 (Ev.ifp de_ (Ev.now _)))
 have hz := ext_sz s fr te om_ htl.1 htl.2;have hz2 := ext_sz s te en om_ n1 om_;have hsm := small_size (s.extract fr.toNat te.toNat);have es1 := implSmall_f (s.extract fr.toNat te.toNat) om_;have es2 := specSmall_f (s.extract fr.toNat te.toNat) om_;generalize smallB (s.extract fr.toNat te.toNat) = nm at *;have impl : ∀ {g : Nat → Option (Int × List STk)} {r : Int × List STk}, Ev g r → (∀ k, g k = if kd = 3 then (impl_scanner_put.f out ⟨kd, nm, [], ⟨#[]⟩, false⟩).bind fun o => some (en + 1, o) else
   (impl_Attrs.f k (s.extract te.toNat en.toNat)).bind fun q => (impl_scanner_put.f out ⟨kd, nm, q.1, ⟨#[]⟩, q.2⟩).bind fun o => (impl_Raw.f nm).bind fun rw_ => if rw_ = true then (if q.2 = true then some (en + 1, o) else impl_scanner_raw.f k s (en + 1) o nm) else some (en + 1, o)) → Ev (fun k => impl_scanner_tag.f k s p out fr kd) r := fun hg hh => by
  unfold impl_scanner_tag.f;refine Ev.ifp ⟨h0, om_, hs, om_⟩ (Ev.bindc e1 (Ev.ifn om_ (Ev.bind evn (Ev.ifp ⟨htl.1, n1, om_⟩ (Ev.bindc es1 ?_)))));exact Ev.fn (fun k => (hh k).symm) hg
 have spec : ∀ {g : Nat → Option (Int × List STk)} {r : Int × List STk}, Ev g r → (∀ k, g k = if fr = p + 2 then (spec_l5Put.f out ⟨3, nm, [], ⟨#[]⟩, false⟩).bind fun o => some (en + 1, o) else
   (spec_Attrs.f k (s.extract te.toNat en.toNat)).bind fun q => (spec_l5Put.f out ⟨2, nm, q.1, ⟨#[]⟩, q.2⟩).bind fun o => (spec_Raw.f nm).bind fun rw_ => if rw_ = true then (if q.2 = true then some (en + 1, o) else spec_l5Raw.f k s (en + 1) o nm) else some (en + 1, o)) → Ev (fun k => spec_l5Tag.f k s p out) r := fun hg hh => by
  unfold spec_l5Tag.f;refine Ev.ifp ⟨h0, om_, hs⟩ (Ev.bind e2 (Ev.ifn om_ (Ev.bindc hA (Ev.bind evt (Ev.ifp ⟨om_, htl.1, n1, om_⟩ (Ev.bindc es2 ?_))))));exact Ev.fn (fun k => (hh k).symm) hg
 rcases hkd with ⟨c1, rfl⟩ | ⟨c1, rfl⟩
 ·obtain ⟨q1, q2⟩ := put_other hW om_ ⟨3, nm, [], ⟨#[]⟩, false⟩ (by show ¬ (3 : Int) = 1; decide);have q3 : Wf (out ++ [⟨3, nm, [], ⟨#[]⟩, false⟩]) (en + 1) := hW.app _ om_ (by show ((0 : Nat) : Int) ≤ _; omega) (by show ((0 : Nat) : Int) ≤ _; omega);refine ⟨(en + 1, _), by show p < en + 1; omega, by show en + 1 ≤ (s.size : Int); omega, q3, impl (Ev.ifp rfl (Ev.bindc q1 (Ev.now _))) (fun k => rfl), spec (Ev.ifp c1 (Ev.bindc q2 (Ev.now _))) (fun k => rfl)⟩
 ·obtain ⟨R, a1, a2, a3⟩ := Attrs_both (s.extract te.toNat en.toNat) om_;obtain ⟨q1, q2⟩ := put_other hW om_ ⟨2, nm, R.1, ⟨#[]⟩, R.2⟩ (by show ¬ (2 : Int) = 1; decide);have q3 : Wf (out ++ [⟨2, nm, R.1, ⟨#[]⟩, R.2⟩]) (en + 1) := hW.app _ om_ (by show ((0 : Nat) : Int) ≤ _; omega) (by show (R.1.length : Int) ≤ _; omega);obtain ⟨rb, r1, r2, r3⟩ := Raw_both nm om_;cases rb with
  | false => exact ⟨(en + 1, _), by show p < en + 1; omega, by show en + 1 ≤ (s.size : Int); omega, q3, impl (Ev.ifn de_ (Ev.bind a1 (Ev.bindc q1 (Ev.bindc r1 (Ev.ifn si_ (Ev.now _)))))) (fun k => rfl), spec (Ev.ifn c1 (Ev.bind a2 (Ev.bindc q2 (Ev.bindc r2 (Ev.ifn si_ (Ev.now _)))))) (fun k => rfl)⟩
  | true =>
   by_cases cs : R.2 = true
   ·exact ⟨(en + 1, _), by show p < en + 1; omega, by show en + 1 ≤ (s.size : Int); omega, q3, impl (Ev.ifn de_ (Ev.bind a1 (Ev.bindc q1 (Ev.bindc r1 (Ev.ifp rfl (Ev.ifp cs (Ev.now _))))))) (fun k => rfl), spec (Ev.ifn c1 (Ev.bind a2 (Ev.bindc q2 (Ev.bindc r2 (Ev.ifp rfl (Ev.ifp cs (Ev.now _))))))) (fun k => rfl)⟩
   ·obtain ⟨r, w1_, w2_, w3_, w4_, w5_⟩ := raw_step s hs (en + 1) _ nm q3 om_ ⟨_, last_app _ _, by show ¬ (2 : Int) = 1; decide⟩ (r3 rfl);exact ⟨r, om_, w2_, w3_, impl (Ev.ifn de_ (Ev.bind a1 (Ev.bindc q1 (Ev.bindc r1 (Ev.ifp rfl (Ev.ifn cs w4_)))))) (fun k => rfl), spec (Ev.ifn c1 (Ev.bind a2 (Ev.bindc q2 (Ev.bindc r2 (Ev.ifp rfl (Ev.ifn cs w5_)))))) (fun k => rfl)⟩
def docT : ByteArray := ⟨#[100, 111, 99, 116, 121, 112, 101]⟩
theorem ext_ext (s : BA) (a b x y : Nat) (h : b ≤ s.size) (hx : x ≤ y) (hy : a + y ≤ b) : (s.extract a b).extract x y = s.extract (a + x) (a + y) := by
 apply ByteArray.ext
 apply Array.ext'
 rw [extract_list, extract_list, extract_list, List.drop_take, List.drop_drop, List.take_take];congr 1
 omega
theorem bt_ext2 (s : BA) (a b : Nat) (j : Int) (h0 : 0 ≤ j) (h1 : (a : Int) + j < b) (h2 : b ≤ s.size) : bt (s.extract a b) j = bt s (j + a) := by
 have hs : j.toNat < (s.extract a b).size := by rw [ByteArray.size_extract]; omega
 have hs2 : (j + a).toNat < s.size := om_;have e1 := bt_at (s.extract a b) j (by simpa using hs);have e2 := bt_at s (j + a) (by simpa using hs2);rw [← e1, ← e2];have : (s.extract a b)[j.toNat]'hs = s[(j + a).toNat]'hs2 := by
  have h3 : (j + a).toNat = a + j.toNat := om_;simp only [h3];exact ByteArray.getElem_extract ..
 rw [this]
theorem pastB_ext (s : BA) (a b : Nat) (hb : b ≤ s.size) (hab : a ≤ b) (d : Nat) : ∀ (j : Int), 0 ≤ j → (a : Int) + j ≤ b → ((b : Int) - a - j).toNat ≤ d → ((a : Int) + pastB (s.extract a b) j = (if pastB s (j + a) < b then pastB s (j + a) else b)) := by
 have hz : ((s.extract a b).size : Int) = (b : Int) - a := by rw [ByteArray.size_extract]; omega
 induction d with
 | zero =>
  intro j h0 h1 hd;have hj : j + a = b := om_;have h2 := (pastB_le (s := s) _ (j + a) rfl om_).1;rw [pastB_stop (s := s.extract a b) (k := j) (.inl om_), if_neg om_];omega
 | succ d ih =>
  intro j h0 h1 hd;by_cases hj : (a : Int) + j < b
  ·have hbt := bt_ext2 s a b j h0 hj hb;by_cases c : blk (bt s (j + a)) = true
   ·rw [pastB_go (s := s.extract a b) om_ (by rw [hbt]; exact c), pastB_go (s := s) om_ c, ih (j + 1) om_ om_ om_, show j + 1 + (a : Int) = j + a + 1 by omega]
   ·have c' : blk (bt s (j + a)) = false := by simpa using c
    rw [pastB_stop (s := s.extract a b) (.inr (by rw [hbt]; exact c')), pastB_stop (s := s) (.inr c'), if_pos om_];omega
  ·have h2 := (pastB_le (s := s) _ (j + a) rfl om_).1;rw [pastB_stop (s := s.extract a b) (k := j) (.inl om_), if_neg om_];omega
theorem small_data (s : BA) : (smallB s).data.toList = s.data.toList.map low8 := by rw [← ByteArray.toList_eq, small_list]
theorem small_ext (s : BA) (a b : Nat) : smallB (s.extract a b) = (smallB s).extract a b := by
 apply ByteArray.ext
 apply Array.ext'
 rw [extract_list, small_data, small_data, extract_list, List.map_take, List.map_drop]
theorem kind_iff (s : BA) (a en : Nat) (h1 : a ≤ en) (h2 : en ≤ s.size) (h62 : en = s.size ∨ bt s en = 62) : standsAt (smallB (s.extract a en)) 0 docT ↔ standsAt (smallB s) (a : Int) docT := by
 have hz := small_size s;have hd : docT.size = 7 := rfl;rw [small_ext];have hx : ((smallB s).extract a en).size = en - a := by rw [ByteArray.size_extract]; omega
 unfold standsAt;rw [hd, hx];have e0 : ((a : Int) + 7).toNat = a + 7 := om_;have e1 : ((0 : Int) + 7).toNat = 7 := rfl;constructor
 ·rintro ⟨h3, h4⟩;refine ⟨om_, ?_⟩;have h5 : ((smallB s).extract a en).extract (0 : Int).toNat ((0 : Int) + 7).toNat = (smallB s).extract a (a + 7) := by
   have := ext_ext (smallB s) a en 0 7 om_ om_ om_;rw [Nat.add_zero] at this;exact this
  rw [show ((7 : Nat) : Int) = 7 from rfl] at h4 ⊢;rw [h5] at h4;rw [e0, Int.toNat_natCast];exact h4
 ·rintro ⟨h3, h4⟩;rw [show ((7 : Nat) : Int) = 7 from rfl] at h3 h4 ⊢;rw [e0, Int.toNat_natCast] at h4;have h7 : a + 7 ≤ en := by
   rcases h62 with h | h
   ·omega
   ·by_cases c : a + 7 ≤ en
    ·exact c
    exfalso
    -- the byte 62 would stand in the kind
    have hsz : en < s.size := om_;have hb : (smallB s).data.toList[en]? = some 62 := by
     rw [small_data, List.getElem?_map];have hg := (bt_get s en hsz 62).1 h;have : s.data.toList[en]? = some s[en] := by
      rw [List.getElem?_eq_getElem (by rw [data_length]; exact hsz)];congr 1
     rw [this, hg];rfl
    have h6 := congrArg (fun l => l[en - a]?) h4;rw [ByteArray.toList_eq] at h6;simp only [extract_list] at h6;rw [List.getElem?_take, if_pos om_, List.getElem?_drop, show a + (en - a) = en by omega, hb] at h6;have : ∀ k, k < 7 → docT.toList[k]? ≠ some 62 := by decide +kernel
    exact this (en - a) om_ h6.symm
  refine ⟨om_, ?_⟩;have h5 : ((smallB s).extract a en).extract (0 : Int).toNat ((0 : Int) + 7).toNat = (smallB s).extract a (a + 7) := by
   have := ext_ext (smallB s) a en 0 7 om_ om_ om_;rw [Nat.add_zero] at this;exact this
  rw [h5];exact h4
theorem ext_all (t : BA) : t.extract (0 : Int).toNat t.size = t := by
 apply ByteArray.ext
 apply Array.ext'
 rw [extract_list, ← data_length t];show (t.data.toList.drop 0).take (t.data.toList.length - 0) = _;rw [List.drop_zero, Nat.sub_zero];exact List.take_of_length_le (Nat.le_refl _)
theorem min_f (a b : Int) : spec_l1Min.f a b = some (if a < b then a else b) := by
 unfold spec_l1Min.f;split <;> rfl
theorem odd_core (s : BA) (hs : s.size ≤ 1000000) (p : Int) (out : List STk) (n en te : Int) (hW : Wf out p) (h1 : p + 2 ≤ s.size) (e0 : p + 2 ≤ en) (e1 : en ≤ s.size) (t0 : en ≤ te) (t1 : te ≤ s.size) (h62 : en = s.size ∨ bt s en = 62) (hc : (en = p + 2 ∧ n = 0) ↔ (en = p + 2 ∧ te > en)) : ∃ r : Int × List STk, p < r.1 ∧ r.1 ≤ s.size ∧ Wf r.2 r.1 ∧ Ev (fun k => oddB k s p out n en te) r ∧ Ev (fun k => oddS k s p out en te) r := by
 have h0 : 0 ≤ p := by have := hW.len; omega
 have hz := ext_sz s (p + 2) en om_ e0 e1;have hki := kind_iff s (p + 2).toNat en.toNat om_ om_ (by
  rcases h62 with h | h
  ·exact .inl om_
  ·refine .inr ?_;rw [show ((en.toNat : Nat) : Int) = en by omega];exact h)
 rw [show (((p + 2).toNat : Nat) : Int) = p + 2 by omega] at hki;have hpe := pastB_ext s (p + 2).toNat en.toNat om_ om_;have hee := ext_ext s (p + 2).toNat en.toNat;generalize htx : s.extract (p + 2).toNat en.toNat = tx at *;have hput : ∀ (kd : Int) (t : BA), ¬ kd = 1 → (t.size : Int) ≤ 4 * te → impl_scanner_put.f out ⟨kd, ⟨#[]⟩, [], t, false⟩ = some (out ++ [⟨kd, ⟨#[]⟩, [], t, false⟩]) ∧ spec_l5Put.f out ⟨kd, ⟨#[]⟩, [], t, false⟩ = some (out ++ [⟨kd, ⟨#[]⟩, [], t, false⟩]) ∧ Wf (out ++ [⟨kd, ⟨#[]⟩, [], t, false⟩]) te := fun kd t hk ht =>
  ⟨(put_other hW om_ _ hk).1, (put_other hW om_ _ hk).2, hW.app _ om_ ht (by show ((0 : Nat) : Int) ≤ _; omega)⟩
 -- the way on which the text is a note
 have hm : ∀ a : Int, a ≤ en → spec_l1Min.f a en = some a := fun a ha => by
  rw [min_f];congr 1
  split <;> omega
 unfold oddB oddS;rw [htx];by_cases b33 : bt s (p + 1) = 33
 ·have ng : ¬ (bt s (p + 1) = 47 ∧ tx.toList = [] ∧ n = 0) := fun h => by omega
  have hsz := small_size tx;have hsz2 := small_size s;by_cases st : standsAt (smallB s) (p + 2) docT
  ·have st2 := hki.2 st;have h7 : 7 ≤ tx.size := by
    have := st2.1;rw [hsz, show docT.size = 7 from rfl] at this;omega
   have kI : (if bt s (p + 1) = 33 then (impl_Small.f tx).bind fun sm => strings_HasPrefix.f sm docT else some false) = some true := by
    rw [if_pos b33, implSmall_f tx om_, Option.bind_some];have := hasPrefix_f (smallB tx) 0 docT (Int.le_refl _) om_;rw [ext_all, dE_ st2] at this;exact this
   have kS : (if bt s (p + 1) = 33 then (spec_Small.f s).bind fun sm => spec_l5Stands.f sm (p + 2) docT else some false) = some true := by
    rw [if_pos b33, specSmall_f s om_, Option.bind_some, stands_f (smallB s) om_ (p + 2) docT de_ om_ om_, dE_ st]
   have hw9 : wrap64 (p + 9) = p + 9 := by unfold wrap64; omega
   have hp9 : p + 9 ≤ s.size := om_;have hpx := hpe _ 7 om_ om_ (Nat.le_refl _);rw [show (((p + 2).toNat : Nat) : Int) = p + 2 by omega, show (7 : Int) + (p + 2) = p + 9 by omega, show ((en.toNat : Nat) : Int) = en by omega] at hpx;have hbl := pastB_le (s := tx) _ 7 rfl om_;have evI := ev_past tx om_ 7 om_ om_;have evS := ev_blanks s om_ (p + 9) om_ hp9;generalize pastB tx 7 = bl at *;generalize pastB s (p + 9) = bs at *;have hx : tx.extract bl.toNat tx.size = s.extract (p + 2 + bl).toNat en.toNat := by
    have := hee bl.toNat tx.size om_ om_ om_;rw [this];congr 1 <;> omega
   have hzx := ext_sz s (p + 2 + bl) en om_ om_ e1;have hsk := small_size (s.extract (p + 2 + bl).toNat en.toNat);obtain ⟨q1, q2, q3⟩ := hput 5 (smallB (s.extract (p + 2 + bl).toNat en.toNat)) de_ om_;refine ⟨(te, _), by show p < te; omega, t1, q3, ?_, ?_⟩
   ·refine Ev.ifn ng (Ev.ifn om_ (Ev.bindc kI (Ev.ifp rfl (Ev.bind evI (Ev.ifp ⟨om_, om_⟩ ?_)))));rw [hx];exact Ev.bindc (implSmall_f _ om_) (Ev.bindc q1 (Ev.now _))
   ·rw [hw9];refine Ev.bindc kS (Ev.ifp rfl (Ev.bind evS (Ev.bindc (min_f bs en) ?_)));rw [← hpx];exact Ev.ifp ⟨om_, om_, e1⟩ (Ev.bindc (specSmall_f _ om_) (Ev.bindc q2 (Ev.now _)))
  ·have st2 : ¬ standsAt (smallB tx) 0 docT := fun h => st (hki.1 h)
   have kI : (if bt s (p + 1) = 33 then (impl_Small.f tx).bind fun sm => strings_HasPrefix.f sm docT else some false) = some false := by
    rw [if_pos b33, implSmall_f tx om_, Option.bind_some];have := hasPrefix_f (smallB tx) 0 docT (Int.le_refl _) om_;rw [ext_all, dF_ st2] at this;exact this
   have kS : (if bt s (p + 1) = 33 then (spec_Small.f s).bind fun sm => spec_l5Stands.f sm (p + 2) docT else some false) = some false := by
    rw [if_pos b33, specSmall_f s om_, Option.bind_some, stands_f (smallB s) om_ (p + 2) docT de_ om_ om_, dF_ st]
   obtain ⟨q1, q2, q3⟩ := hput 4 tx de_ om_;refine ⟨(te, _), by show p < te; omega, t1, q3, ?_, ?_⟩
   ·exact Ev.ifn ng (Ev.ifn om_ (Ev.bindc kI (Ev.ifn si_ (Ev.bindc q1 (Ev.now _)))))
   ·refine Ev.bindc kS (Ev.ifn si_ (Ev.ifn om_ ?_));rw [if_neg (show ¬ bt s (p + 1) = 63 by omega)];refine Ev.bindc (hm (p + 2) e0) (Ev.ifp ⟨om_, e0, e1⟩ ?_);rw [htx];exact Ev.bindc q2 (Ev.now _)
 ·have kI : (if bt s (p + 1) = 33 then (impl_Small.f tx).bind fun sm => strings_HasPrefix.f sm docT else some false) = some false := if_neg b33;have kS : (if bt s (p + 1) = 33 then (spec_Small.f s).bind fun sm => spec_l5Stands.f sm (p + 2) docT else some false) = some false := if_neg b33;by_cases b63 : bt s (p + 1) = 63
  ·have hz3 := ext_sz s (p + 1) en om_ om_ e1;obtain ⟨q1, q2, q3⟩ := hput 4 (s.extract (p + 1).toNat en.toNat) de_ om_;refine ⟨(te, _), by show p < te; omega, t1, q3, ?_, ?_⟩
   ·refine Ev.ifn (fun h => by omega) (Ev.ifp b63 ?_);rw [show (p + 2).toNat - 1 = (p + 1).toNat by omega];exact Ev.bindc q1 (Ev.now _)
   ·refine Ev.bindc kS (Ev.ifn si_ (Ev.ifn (fun h => by omega) ?_));rw [if_pos b63];exact Ev.bindc (hm (p + 1) om_) (Ev.ifp ⟨om_, om_, e1⟩ (Ev.bindc q2 (Ev.now _)))
  ·obtain ⟨q1, q2, q3⟩ := hput 4 tx de_ om_;by_cases g : bt s (p + 1) = 47 ∧ en = p + 2 ∧ te > en
   ·have g2 := hc.2 g.2;have he : tx.toList = [] := nil_of om_;exact ⟨(te, out), by show p < te; omega, t1, hW.mono om_, Ev.ifp ⟨g.1, he, g2.2⟩ (Ev.now _), Ev.bindc kS (Ev.ifn si_ (Ev.ifp g (Ev.now _)))⟩
   ·have g2 : ¬ (bt s (p + 1) = 47 ∧ tx.toList = [] ∧ n = 0) := fun h => by
     have h2 : en = p + 2 := by
      have h3 := h.2.1;rw [ByteArray.toList_eq] at h3;have h4 := data_length tx;rw [h3] at h4;simp at h4
      omega
     exact g ⟨h.1, hc.1 ⟨h2, h.2.2⟩⟩
    refine ⟨(te, _), by show p < te; omega, t1, q3, ?_, ?_⟩
    ·exact Ev.ifn g2 (Ev.ifn b63 (Ev.bindc kI (Ev.ifn si_ (Ev.bindc q1 (Ev.now _)))))
    ·refine Ev.bindc kS (Ev.ifn si_ (Ev.ifn g ?_));rw [if_neg b63];refine Ev.bindc (hm (p + 2) e0) (Ev.ifp ⟨om_, e0, e1⟩ ?_);rw [htx];exact Ev.bindc q2 (Ev.now _)
theorem odd_step (s : BA) (hs : s.size ≤ 1000000) (p : Int) (out : List STk) (hW : Wf out p) (h1 : p + 2 ≤ s.size) (h60 : bt s p = 60) (h62 : ¬ bt s (p + 1) = 62) : ∃ r : Int × List STk, p < r.1 ∧ r.1 ≤ s.size ∧ Wf r.2 r.1 ∧ Ev (fun k => impl_scanner_odd.f k s p out) r ∧ Ev (fun k => spec_l5Odd.f k s p out) r := by
 have h0 : 0 ≤ p := by have := hW.len; omega
 have hix := fnd_ix s 62 de_ de_ _ (p + 2) om_ h1 rfl;have hI : strings_IndexByte.f (s.extract (p + 2).toNat s.size) 62 = some (Lib.indexByte (s.data.toList.drop (p + 2).toNat) (62 : Int).toNat.toUInt8) := by
  unfold strings_IndexByte.f;rw [data_drop]
 have hF : fndF s p 62 = fndF s (p + 2) 62 := by
  rw [fndF, if_pos om_, if_neg om_, fndF, if_pos om_, if_neg h62, show p + 1 + 1 = p + 2 by omega]
 have evS := ev_find s om_ p 62 h0 om_;rw [hF] at evS;have hfl := fnd_le (s := s) (c := 62) _ (p + 2) rfl om_;have hge := Lib.indexByte_ge (s.data.toList.drop (p + 2).toNat) (62 : Int).toNat.toUInt8;have hat : ¬ fndF s (p + 2) 62 < 0 → bt s (fndF s (p + 2) 62) = 62 := by
  have key : ∀ (d : Nat) (j : Int), ((s.size : Int) - j).toNat = d → ¬ fndF s j 62 < 0 → bt s (fndF s j 62) = 62 := by
   intro d;induction d with
   | zero => intro j hd h; rw [fndF, if_neg om_] at h; omega
   | succ d ih =>
    intro j hd h;rw [fndF, if_pos om_] at h ⊢;by_cases c : bt s j = 62
    ·rw [if_pos c]; exact c
    ·rw [if_neg c] at h ⊢;exact ih (j + 1) om_ h
  exact key _ _ rfl
 generalize Lib.indexByte (s.data.toList.drop (p + 2).toNat) (62 : Int).toNat.toUInt8 = n at *;generalize fndF s (p + 2) 62 = e at *;by_cases c : n < 0
 ·rw [if_pos c] at hix;subst hix;obtain ⟨r, r1, r2, r3, r4, r5⟩ := odd_core s hs p out n s.size s.size hW h1 h1 (Int.le_refl _) (Int.le_refl _) (Int.le_refl _) (.inl rfl) ⟨fun h => by omega, fun h => by omega⟩;refine ⟨r, r1, r2, r3, ?_, ?_⟩
  ·unfold impl_scanner_odd.f;exact Ev.ifp ⟨h0, h1, hs⟩ (Ev.bindc hI (Ev.ifp ⟨hge, om_⟩ (Ev.ifp c r4)))
  ·unfold spec_l5Odd.f;exact Ev.ifp ⟨h0, h1, hs⟩ (Ev.bind evS (Ev.ifp de_ r5))
 ·rw [if_neg c] at hix;obtain ⟨f1, f2⟩ := hfl om_;have h3 := hat om_;obtain ⟨r, r1, r2, r3, r4, r5⟩ := odd_core s hs p out n e (e + 1) hW h1 f1 om_ om_ om_ (.inr h3) ⟨fun h => by omega, fun h => by omega⟩;refine ⟨r, r1, r2, r3, ?_, ?_⟩
  ·unfold impl_scanner_odd.f;refine Ev.ifp ⟨h0, h1, hs⟩ (Ev.bindc hI (Ev.ifp ⟨hge, om_⟩ (Ev.ifn c ?_)));rw [← hix];exact r4
  ·unfold spec_l5Odd.f;exact Ev.ifp ⟨h0, h1, hs⟩ (Ev.bind evS (Ev.ifn om_ (Ev.ifp om_ r5)))
def rpA (sub new l : List UInt8) : List UInt8 := Lib.replaceK sub new (Lib.count l sub) l
theorem rpA_hit (sub new l : List UInt8) (hs : sub ≠ []) (h : Lib.index l sub = ((0 : Nat) : Int)) : rpA sub new l = new ++ rpA sub new (l.drop sub.length) := by
 unfold rpA;rw [Lib.count_hit hs h, Nat.add_comm, Lib.replaceK_hit sub new _ l 0 h];simp
theorem rpA_miss (sub new : List UInt8) (b : UInt8) (l : List UInt8) (hs : sub ≠ []) (h : sub.isPrefixOf (b :: l) = false) : rpA sub new (b :: l) = b :: rpA sub new l := by
 have hge := Lib.index_ge l sub;have hi : Lib.index (b :: l) sub = if Lib.index l sub == -1 then -1 else Lib.index l sub + 1 := by
  rw [Lib.index, h];rfl
 unfold rpA;by_cases c : Lib.index l sub = -1
 ·rw [c] at hi;have hi2 : Lib.index (b :: l) sub = -1 := by rw [hi]; rfl
  rw [Lib.count_miss c, Lib.count_miss hi2];rfl
 ·obtain ⟨i, h1⟩ : ∃ i : Nat, Lib.index l sub = i := ⟨(Lib.index l sub).toNat, om_⟩;have hi2 : Lib.index (b :: l) sub = ((i + 1 : Nat) : Int) := by
   rw [hi, h1, if_neg (by intro e; have := beq_iff_eq.1 e; omega)];omega
  rw [Lib.count_hit hs h1, Lib.count_hit hs hi2, Nat.add_comm 1, Nat.add_comm 1, Lib.replaceK_hit sub new _ _ _ h1, Lib.replaceK_hit sub new _ _ _ hi2];rw [show i + 1 + sub.length = (i + sub.length) + 1 by omega, List.drop_succ_cons, List.take_succ_cons];simp
theorem rpA_nil (sub new : List UInt8) (hs : sub ≠ []) : rpA sub new [] = [] := by
 have h : Lib.index [] sub = -1 := by
  unfold Lib.index;cases sub with
  | nil => exact absurd rfl hs
  | cons a l => rfl
 unfold rpA;rw [Lib.count_miss h];rfl
theorem rpA_all (sub new l : List UInt8) (h : sub ≠ new) : Lib.replaceAll l sub new = rpA sub new l := by
 unfold Lib.replaceAll Lib.replace Lib.replaceNum rpA;rw [if_neg (by simpa using h), if_pos (Or.inl de_)]
def LnA : List UInt8 → List UInt8
 | [] => []
 | b :: l => match l with
  | [] => [b]
  | c :: l' => if b = 13 ∧ c = 10 then 10 :: LnA l' else b :: LnA (c :: l')
theorem LnA_eq : ∀ (n : Nat) (l : List UInt8), l.length ≤ n → rpA [13, 10] [10] l = LnA l
 | _, [], _ => by rw [rpA_nil _ _ si_, LnA]
 | 0, b :: l, h => by simp at h
 | n + 1, [b], h => by
  rw [rpA_miss _ _ b [] si_ (by simp [List.isPrefixOf]), rpA_nil _ _ si_, LnA]
 | n + 1, b :: c :: l, h => by
  rw [List.length_cons, List.length_cons] at h;rw [LnA];by_cases e : b = 13 ∧ c = 10
  ·obtain ⟨rfl, rfl⟩ := e;rw [if_pos ⟨rfl, rfl⟩, rpA_hit _ _ _ si_ (by simp [Lib.index])];rw [show List.drop [(13 : UInt8), 10].length (13 :: 10 :: l) = l from rfl, LnA_eq n l om_];rfl
  ·rw [if_neg e, rpA_miss _ _ b (c :: l) si_ (by
    rw [Bool.eq_false_iff];intro hp;rw [List.isPrefixOf_iff_prefix] at hp;obtain ⟨t, ht⟩ := hp;simp at ht
    exact e ⟨ht.1.symm, ht.2.1.symm⟩), LnA_eq n (c :: l) (by simp; omega)]
def LLA : List UInt8 → List UInt8
 | [] => []
 | b :: l => match l with
  | [] => [if b = 13 then 10 else b]
  | c :: l' => if b = 13 ∧ c = 10 then 10 :: LLA l' else (if b = 13 then 10 else b) :: LLA (c :: l')
theorem LLA_eq : ∀ (n : Nat) (l : List UInt8), l.length ≤ n → rpA [13] [10] (LnA l) = LLA l
 | _, [], _ => by rw [LnA, rpA_nil _ _ si_, LLA]
 | 0, b :: l, h => by simp at h
 | n + 1, [b], h => by
  rw [LnA, LLA];by_cases e : b = 13
  ·subst e;rw [rpA_hit _ _ _ si_ (by simp [Lib.index]), if_pos rfl];rw [show List.drop [(13 : UInt8)].length ([13] : List UInt8) = [] from rfl, rpA_nil _ _ si_];rfl
  ·rw [if_neg e, rpA_miss _ _ b [] si_ (by simp [List.isPrefixOf]; exact fun h => e h.symm), rpA_nil _ _ si_]
 | n + 1, b :: c :: l, h => by
  rw [List.length_cons, List.length_cons] at h;rw [LnA, LLA];by_cases e : b = 13 ∧ c = 10
  ·rw [if_pos e, if_pos e, rpA_miss _ _ 10 (LnA l) si_ (by simp [List.isPrefixOf]), LLA_eq n l om_]
  ·rw [if_neg e, if_neg e];by_cases e2 : b = 13
   ·subst e2;rw [if_pos rfl, rpA_hit _ _ _ si_ (by simp [Lib.index])];rw [show List.drop [(13 : UInt8)].length (13 :: LnA (c :: l)) = LnA (c :: l) from rfl, LLA_eq n (c :: l) (by simp; omega)];rfl
   ·rw [if_neg e2, rpA_miss _ _ b (LnA (c :: l)) si_ (by simp [List.isPrefixOf]; exact fun h => e2 h.symm), LLA_eq n (c :: l) (by simp; omega)]
theorem LLA_len : ∀ (n : Nat) (l : List UInt8), l.length ≤ n → (LLA l).length ≤ l.length
 | _, [], _ => by rw [LLA]; simp
 | 0, b :: l, h => by simp at h
 | n + 1, [b], h => by rw [LLA]; simp
 | n + 1, b :: c :: l, h => by
  rw [List.length_cons, List.length_cons] at h;rw [LLA];split
  ·have := LLA_len n l om_;rw [List.length_cons, List.length_cons, List.length_cons]; omega
  ·have := LLA_len n (c :: l) (by simp; omega);rw [List.length_cons, List.length_cons];omega
theorem LnA_len : ∀ (n : Nat) (l : List UInt8), l.length ≤ n → (LnA l).length ≤ l.length
 | _, [], _ => by rw [LnA]; simp
 | 0, b :: l, h => by simp at h
 | n + 1, [b], h => by rw [LnA]; simp
 | n + 1, b :: c :: l, h => by
  rw [List.length_cons, List.length_cons] at h;rw [LnA];split
  ·have := LnA_len n l om_;rw [List.length_cons, List.length_cons, List.length_cons]; omega
  ·have := LnA_len n (c :: l) (by simp; omega);rw [List.length_cons, List.length_cons];omega
theorem rep_f (a : BA) (old : BA) (ha : a.size ≤ 1000000) (h1 : 1 ≤ old.size) (h : old.data.toList ≠ [10]) : strings_ReplaceAll.f a old (⟨#[10]⟩ : BA) = some ⟨(rpA old.data.toList [10] a.data.toList).toArray⟩ := by
 unfold strings_ReplaceAll.f;have hc := Lib.countB_le old h1 a.size a (Nat.le_refl _);have hz : (⟨#[10]⟩ : BA).size = 1 := rfl;rw [if_pos ⟨om_, h1, by rw [hz]; omega⟩];congr 3
 exact rpA_all _ _ _ h
theorem impl_lines (s : BA) (hs : s.size ≤ 1000000) : impl_Lines.f s = some ⟨(LLA s.data.toList).toArray⟩ := by
 unfold impl_Lines.f;rw [rep_f s ⟨#[13, 10]⟩ hs de_ de_, Option.bind_some];rw [show (⟨#[13, 10]⟩ : BA).data.toList = [13, 10] from rfl, LnA_eq _ _ (Nat.le_refl _)];have hl := LnA_len _ s.data.toList (Nat.le_refl _);rw [data_length] at hl;rw [rep_f _ ⟨#[13]⟩ (by show (LnA s.data.toList).toArray.size ≤ _; rw [List.size_toArray]; omega) de_ de_, Option.bind_some];rw [show (⟨#[13]⟩ : BA).data.toList = [13] from rfl];congr 3
 show rpA [13] [10] (LnA s.data.toList).toArray.toList = _;rw [LLA_eq _ _ (Nat.le_refl _)]
theorem spec_lines_l (s : BA) (hs : s.size ≤ 1000000) (d : Nat) : ∀ (j : Int) (out : List Int), 0 ≤ j → j ≤ s.size → ((s.size : Int) - j).toNat ≤ d → out.length + d ≤ 10000000 → Ev (fun k => spec_Lines.l0 k s out j) (strOfNums (out ++ asInts (LLA (s.data.toList.drop j.toNat)))) := by
 induction d with
 | zero =>
  intro j out h0 h1 hd ho;refine Ev.step (fun k => by simp only [spec_Lines.l0]; rfl) (Ev.ifn om_ ?_);rw [List.drop_eq_nil_of_le (by rw [data_length]; omega), LLA];simp only [asInts, List.map_nil, List.append_nil];exact Ev.now _
 | succ d ih =>
  intro j out h0 h1 hd ho;by_cases hj : j < (s.size : Int)
  case neg =>
   refine Ev.step (fun k => by simp only [spec_Lines.l0]; rfl) (Ev.ifn hj ?_);rw [List.drop_eq_nil_of_le (by rw [data_length]; omega), LLA];simp only [asInts, List.map_nil, List.append_nil];exact Ev.now _
  have hjn : j.toNat < s.size := om_;have hw : wrap64 (j + 1) = j + 1 := by unfold wrap64; omega
  have hw2 : wrap64 (j + 1 + 1) = j + 2 := by unfold wrap64; omega
  have hd0 := drop_cons s j.toNat hjn;have hb0 : ∀ c : UInt8, bt s j = (c.toNat : Int) ↔ s[j.toNat] = c := fun c => by
   have := bt_get s j.toNat hjn c;rw [show ((j.toNat : Nat) : Int) = j by omega] at this;exact this
  have hx : bt s j = (s[j.toNat].toNat : Int) := (hb0 _).2 rfl;have i1 := fun o h => ih (j + 1) o om_ om_ om_ h
  rw [show (j + 1).toNat = j.toNat + 1 by omega] at i1;rw [hd0];refine Ev.step (fun k => by simp only [spec_Lines.l0, Option.bind_some]; rfl) (Ev.ifp hj (Ev.ifp h0 ?_));rw [hw, hw2];by_cases c13 : bt s j = 13
  ·have h13 : s[j.toNat] = 13 := (hb0 13).1 c13;refine Ev.ifp c13 (Ev.ifp om_ ?_);rw [h13];by_cases hj1 : j + 1 < (s.size : Int)
   ·have hjn1 : j.toNat + 1 < s.size := om_;have hd1 := drop_cons s (j.toNat + 1) hjn1;have hb1 : bt s (j + 1) = 10 ↔ s[j.toNat + 1] = 10 := by
     have := bt_get s (j.toNat + 1) hjn1 10;rw [show ((j.toNat + 1 : Nat) : Int) = j + 1 by omega] at this;exact this
    refine Ev.ifp hj1 (Ev.ifp om_ ?_);by_cases c10 : bt s (j + 1) = 10
    ·have i2 := ih (j + 2) (out ++ [10]) om_ om_ om_ (by rw [List.length_append, List.length_singleton]; omega);rw [show (j + 2).toNat = j.toNat + 1 + 1 by omega] at i2;refine Ev.ifp c10 ?_;rw [hd1, hb1.1 c10, LLA, if_pos ⟨rfl, rfl⟩, show out ++ asInts (10 :: LLA (s.data.toList.drop (j.toNat + 1 + 1))) = (out ++ [10]) ++ asInts (LLA (s.data.toList.drop (j.toNat + 1 + 1))) by simp [asInts]];exact i2
    ·have i2 := i1 (out ++ [10]) (by rw [List.length_append, List.length_singleton]; omega);refine Ev.ifn c10 ?_;rw [hd1] at i2 ⊢;rw [LLA, if_neg (fun h => c10 (hb1.2 h.2)), if_pos rfl, show out ++ asInts (10 :: LLA (s[j.toNat + 1] :: s.data.toList.drop (j.toNat + 1 + 1))) = (out ++ [10]) ++ asInts (LLA (s[j.toNat + 1] :: s.data.toList.drop (j.toNat + 1 + 1))) by simp [asInts]];exact i2
   ·have i2 := i1 (out ++ [10]) (by rw [List.length_append, List.length_singleton]; omega);refine Ev.ifn hj1 ?_;rw [List.drop_eq_nil_of_le (by rw [data_length]; omega)] at i2 ⊢;rw [LLA, if_pos rfl];rw [LLA] at i2;simpa [asInts] using i2
  ·have h13 : ¬ s[j.toNat] = 13 := fun h => c13 ((hb0 13).2 h)
   have i2 := i1 (out ++ [bt s j]) (by rw [List.length_append, List.length_singleton]; omega);refine Ev.ifn c13 (Ev.ifp om_ ?_);cases hr : s.data.toList.drop (j.toNat + 1) with
   | nil =>
    rw [hr, LLA] at i2;rw [LLA, if_neg h13, show out ++ asInts [s[j.toNat]] = (out ++ [bt s j]) ++ asInts [] by simp [asInts, hx]];exact i2
   | cons c l =>
    rw [hr] at i2;rw [LLA, if_neg (fun h => h13 h.1), if_neg h13, show out ++ asInts (s[j.toNat] :: LLA (c :: l)) = (out ++ [bt s j]) ++ asInts (LLA (c :: l)) by simp [asInts, hx]];exact i2
theorem Lines_both (s : BA) (hs : s.size ≤ 1000000) : ∃ t : ByteArray, t.size ≤ s.size ∧ impl_Lines.f s = some t ∧ Ev (fun k => spec_Lines.f k s) t := by
 refine ⟨⟨(LLA s.data.toList).toArray⟩, ?_, impl_lines s hs, ?_⟩
 ·have := LLA_len _ s.data.toList (Nat.le_refl _);rw [data_length] at this;show (LLA s.data.toList).toArray.size ≤ _;rw [List.size_toArray];exact this
 ·have := spec_lines_l s hs s.size 0 [] om_ om_ om_ (by simp; omega);rw [List.nil_append, strOf_asInts] at this;exact this
theorem u8and : ∀ c : Nat, c < 256 → bits .and .u8 (c : Int) 63 = (c : Int) % 64 ∧ bits .and .u8 (c : Int) 31 = (c : Int) % 32 ∧ bits .and .u8 (c : Int) 15 = (c : Int) % 16 ∧ bits .and .u8 (c : Int) 7 = (c : Int) % 8 := by decide +kernel
theorem i64and : ∀ c : Nat, c < 256 → bits .and .i64 (c : Int) 31 = (c : Int) % 32 ∧ bits .and .i64 (c : Int) 15 = (c : Int) % 16 ∧ bits .and .i64 (c : Int) 7 = (c : Int) % 8 := by decide +kernel
theorem or_add (n x : Int) (h0 : 0 ≤ n) (h1 : n ≤ 1099511627776) (x0 : 0 ≤ x) (x1 : x < 64) : bits .or .i64 (n * 64) x = n * 64 + x := by
 have key : (BitVec.ofInt 64 (n * 64) ||| BitVec.ofInt 64 x).toNat = n.toNat * 64 + x.toNat := by
  rw [BitVec.toNat_or, BitVec.toNat_ofInt, BitVec.toNat_ofInt];have e1 : (n * 64 % ((2 ^ 64 : Nat) : Int)).toNat = n.toNat <<< 6 := by rw [Nat.shiftLeft_eq]; omega
  have e2 : (x % ((2 ^ 64 : Nat) : Int)).toNat = x.toNat := om_;rw [e1, e2, ← Nat.shiftLeft_add_eq_or_of_lt (show x.toNat < 2 ^ 6 by omega), Nat.shiftLeft_eq]
 show IntKind.i64.wrap ((BitVec.ofInt 64 (n * 64) ||| BitVec.ofInt 64 x).toNat : Nat) = n * 64 + x;rw [key, IntKind.wrap_i64];omega
theorem bt_range (s : BA) (i : Int) : 0 ≤ bt s i ∧ bt s i ≤ 255 := by
 unfold bt;split
 ·rename_i h
  constructor
  ·omega
  ·have := (s[i.toNat]'h).toNat_lt;omega
 ·omega
def Bd : Nat → Int
 | 0 => 1099511627776
 | 1 => 17179869184
 | 2 => 268435456
 | _ => 4194304
def Gs (s : BA) (at_ : Int) : Nat → Int → Int → Int → Int → Int × Int
 | 0, n, _, _, i => (n, i)
 | r + 1, n, lo, hi, i => if (s.size : Int) ≤ at_ + i then (65533, i) else if bt s (at_ + i) < lo ∨ hi < bt s (at_ + i) then (65533, i) else Gs s at_ r (n * 64 + bt s (at_ + i) % 64) 128 191 (i + 1)
theorem Gs_range (s : BA) (at_ : Int) : ∀ (r : Nat) (n lo hi i : Int), i ≤ (Gs s at_ r n lo hi i).2 ∧ (Gs s at_ r n lo hi i).2 ≤ i + r
 | 0, n, lo, hi, i => by simp [Gs]
 | r + 1, n, lo, hi, i => by
  rw [Gs];split
  ·simp; omega
  ·split
   ·simp; omega
   ·have := Gs_range s at_ r (n * 64 + bt s (at_ + i) % 64) 128 191 (i + 1);omega
theorem impl_Gs (s : BA) (at_ : Int) (ha : 0 ≤ at_) (has : at_ < (s.size : Int)) (hs : s.size ≤ 1048576) : ∀ (r : Nat) (n lo hi i : Int), r ≤ 3 → 0 ≤ n → n < Bd r → 1 ≤ i → i + (r : Int) ≤ 4 → Ev (fun k => impl_getSign.l0 k s at_ (i + r - 1) n lo hi i) (Gs s at_ r n lo hi i) := by
 intro r;induction r with
 | zero =>
  intro n lo hi i hr h0 hn h1 h4;have hw : wrap64 (i + ((0 : Nat) : Int) - 1 + 1) = i := by unfold wrap64; omega
  refine Ev.step (fun k => by simp only [impl_getSign.l0]; rfl) (Ev.ifn om_ ?_);rw [hw];exact Ev.now _
 | succ r ih =>
  intro n lo hi i hr h0 hn h1 h4;have hw : wrap64 (at_ + i) = at_ + i := by unfold wrap64; omega
  have hw2 : wrap64 (i + 1) = i + 1 := by unfold wrap64; omega
  have hb := bt_range s (at_ + i);have hn2 : n ≤ 17179869184 := by
   match r, hr, hn with
   | 0, _, hn => exact Int.le_of_lt hn
   | 1, _, hn => have : n < 268435456 := hn; omega
   | 2, _, hn => have : n < 4194304 := hn; omega
  have hw3 : wrap64 (n * 64) = n * 64 := by unfold wrap64; omega
  have hand : bits .and .u8 (bt s (at_ + i)) 63 = bt s (at_ + i) % 64 := by
   have := (u8and (bt s (at_ + i)).toNat om_).1;rwa [show (((bt s (at_ + i)).toNat : Nat) : Int) = bt s (at_ + i) by omega] at this
  have hw4 : wrap64 (bt s (at_ + i) % 64) = bt s (at_ + i) % 64 := by unfold wrap64; omega
  refine Ev.step (fun k => by simp only [impl_getSign.l0]; rfl) (Ev.ifp om_ ?_);rw [hw, hw2, hw3, hand, hw4, or_add n _ h0 om_ om_ om_, Gs];by_cases c1 : (s.size : Int) ≤ at_ + i
  ·rw [if_pos c1];exact Ev.ifp c1 (Ev.now _)
  rw [if_neg c1];refine Ev.ifn c1 (Ev.ifp om_ (Ev.ifp om_ ?_));by_cases c2 : bt s (at_ + i) < lo
  ·rw [if_pos (Or.inl c2)];exact Ev.ifp c2 (Ev.now _)
  refine Ev.ifn c2 ?_;by_cases c3 : bt s (at_ + i) > hi
  ·rw [if_pos (Or.inr c3)];exact Ev.ifp c3 (Ev.now _)
  rw [if_neg om_];refine Ev.ifn c3 ?_;have := ih (n * 64 + bt s (at_ + i) % 64) 128 191 (i + 1) om_ om_ (by
   match r, hr, hn with
   | 0, _, hn => have : n < 17179869184 := hn; show _ < (1099511627776 : Int); omega
   | 1, _, hn => have : n < 268435456 := hn; show _ < (17179869184 : Int); omega
   | 2, _, hn => have : n < 4194304 := hn; show _ < (268435456 : Int); omega) om_ om_
  rw [show i + 1 + (r : Int) - 1 = i + ((r + 1 : Nat) : Int) - 1 by omega] at this;exact this
theorem spec_Gs2 (s : BA) (at_ a : Int) (ha : 0 ≤ at_) (has : at_ < (s.size : Int)) (hs : s.size ≤ 1048576) : ∀ (r : Nat) (n i : Int), r ≤ 3 → 0 ≤ n → n < Bd r → 2 ≤ i → i + (r : Int) ≤ 4 → Ev (fun k => spec_GetSign.l0 k s at_ a (i + r) n i) (Gs s at_ r n 128 191 i) := by
 intro r;induction r with
 | zero =>
  intro n i hr h0 hn h1 h4;refine Ev.step (fun k => by simp only [spec_GetSign.l0]; rfl) (Ev.ifn om_ ?_);rw [show i + ((0 : Nat) : Int) = i by omega];exact Ev.now _
 | succ r ih =>
  intro n i hr h0 hn h1 h4;have hw : wrap64 (at_ + i) = at_ + i := by unfold wrap64; omega
  have hw2 : wrap64 (i + 1) = i + 1 := by unfold wrap64; omega
  have hb := bt_range s (at_ + i);have hn2 : n ≤ 17179869184 := by
   match r, hr, hn with
   | 0, _, hn => exact Int.le_of_lt hn
   | 1, _, hn => have : n < 268435456 := hn; omega
   | 2, _, hn => have : n < 4194304 := hn; omega
  have hw3 : wrap64 (n * 64) = n * 64 := by unfold wrap64; omega
  have hw4 : wrap64 (bt s (at_ + i)) = bt s (at_ + i) := by unfold wrap64; omega
  have hw5 : wrap64 (n * 64 + bt s (at_ + i) % 64) = n * 64 + bt s (at_ + i) % 64 := by unfold wrap64; omega
  refine Ev.step (fun k => by simp only [spec_GetSign.l0]; rfl) (Ev.ifp om_ ?_);rw [hw, hw2, hw3, hw4, i64_and63, hw5, Gs];by_cases c1 : (s.size : Int) ≤ at_ + i
  ·rw [if_pos c1];exact Ev.ifp c1 (Ev.now _)
  rw [if_neg c1];refine Ev.ifn c1 (Ev.ifn om_ (Ev.ifp om_ (Ev.ifp om_ (Ev.bindc (l1In_f _ _ _) ?_))));by_cases c2 : 128 ≤ bt s (at_ + i) ∧ bt s (at_ + i) ≤ 191
  ·rw [dE_ c2, if_neg om_];refine Ev.ifp rfl ?_;have := ih (n * 64 + bt s (at_ + i) % 64) (i + 1) om_ om_ (by
    match r, hr, hn with
    | 0, _, hn => have : n < 17179869184 := hn; show _ < (1099511627776 : Int); omega
    | 1, _, hn => have : n < 268435456 := hn; show _ < (17179869184 : Int); omega
    | 2, _, hn => have : n < 4194304 := hn; show _ < (268435456 : Int); omega) om_ om_
   rw [show i + 1 + (r : Int) = i + ((r + 1 : Nat) : Int) by omega] at this;exact this
  ·rw [dF_ c2, if_pos om_];exact Ev.ifn si_ (Ev.now _)
def secLo (a : Int) : Int := if a = 224 then 160 else if a = 237 then 128 else if a = 240 then 144 else 128
def secHi (a : Int) : Int := if a = 224 then 191 else if a = 237 then 159 else if a = 240 then 191 else if a = 244 then 143 else 191
theorem second_f (a b : Int) : spec_l1Second.f a b = some (decide (secLo a ≤ b ∧ b ≤ secHi a)) := by
 unfold spec_l1Second.f secLo secHi;by_cases h1 : a = 224
 ·rw [if_pos h1, if_pos h1, if_pos h1, l1In_f]; rfl
 rw [if_neg h1, if_neg h1, if_neg h1];by_cases h2 : a = 237
 ·rw [if_pos h2, if_pos h2, if_pos h2, l1In_f]; rfl
 rw [if_neg h2, if_neg h2, if_neg h2];by_cases h3 : a = 240
 ·rw [if_pos h3, if_pos h3, if_pos h3, l1In_f]; rfl
 rw [if_neg h3, if_neg h3, if_neg h3];by_cases h4 : a = 244
 ·rw [if_pos h4, if_pos h4, l1In_f]; rfl
 rw [if_neg h4, if_neg h4, l1In_f]; rfl
theorem sec_in (a b : Int) (h : secLo a ≤ b ∧ b ≤ secHi a) : 128 ≤ b ∧ b ≤ 191 := by
 unfold secLo secHi at h;split at h
 ·omega
 ·split at h
  ·omega
  ·split at h
   ·omega
   ·split at h <;> omega
theorem spec_Gs1 (s : BA) (at_ a : Int) (ha : 0 ≤ at_) (has : at_ < (s.size : Int)) (hs : s.size ≤ 1048576) (r : Nat) (n : Int) (hr : r + 1 ≤ 3) (h0 : 0 ≤ n) (hn : n < Bd (r + 1)) :
  Ev (fun k => spec_GetSign.l0 k s at_ a ((r : Int) + 2) n 1) (Gs s at_ (r + 1) n (secLo a) (secHi a) 1) := by
 have hw : wrap64 (at_ + 1) = at_ + 1 := by unfold wrap64; omega
 have hw2 : wrap64 (1 + 1) = 2 := by unfold wrap64; omega
 have hb := bt_range s (at_ + 1);have hn2 : n ≤ 17179869184 := by
  match r, hr, hn with
  | 0, _, hn => exact Int.le_of_lt hn
  | 1, _, hn => have : n < 268435456 := hn; omega
  | 2, _, hn => have : n < 4194304 := hn; omega
 have hw3 : wrap64 (n * 64) = n * 64 := by unfold wrap64; omega
 have hw4 : wrap64 (bt s (at_ + 1)) = bt s (at_ + 1) := by unfold wrap64; omega
 have hw5 : wrap64 (n * 64 + bt s (at_ + 1) % 64) = n * 64 + bt s (at_ + 1) % 64 := by unfold wrap64; omega
 refine Ev.step (fun k => by rw [spec_GetSign.l0]) (Ev.ifp om_ ?_);rw [hw, hw2, hw3, hw4, i64_and63, hw5, Gs];by_cases c1 : (s.size : Int) ≤ at_ + 1
 ·rw [if_pos c1];exact Ev.ifp c1 (Ev.now _)
 rw [if_neg c1];refine Ev.ifn c1 (Ev.ifp rfl (Ev.ifp om_ (Ev.ifp om_ (Ev.bindc (second_f _ _) ?_))));by_cases c2 : secLo a ≤ bt s (at_ + 1) ∧ bt s (at_ + 1) ≤ secHi a
 ·rw [dE_ c2, if_neg om_];refine Ev.ifp rfl (Ev.ifp om_ (Ev.ifp om_ (Ev.bindc (l1In_f _ _ _) ?_)));rw [dE_ (sec_in a _ c2)];refine Ev.ifp rfl ?_;have := spec_Gs2 s at_ a ha has hs r (n * 64 + bt s (at_ + 1) % 64) 2 om_ om_ (by
   match r, hr, hn with
   | 0, _, hn => have : n < 17179869184 := hn; show _ < (1099511627776 : Int); omega
   | 1, _, hn => have : n < 268435456 := hn; show _ < (17179869184 : Int); omega
   | 2, _, hn => have : n < 4194304 := hn; show _ < (268435456 : Int); omega) om_ om_
  rw [show (2 : Int) + (r : Int) = (r : Int) + 2 by omega] at this;exact this
 ·rw [dF_ c2, if_pos om_];exact Ev.ifn si_ (Ev.now _)
theorem sign_both (s : BA) (hs : s.size ≤ 1048576) (at_ : Int) (ha : 0 ≤ at_) (has : at_ < (s.size : Int)) : ∃ q : Int × Int, 1 ≤ q.2 ∧ q.2 ≤ 4 ∧ Ev (fun k => spec_GetSign.f k s at_) q ∧ Ev (fun k => impl_getSign.f k s at_) q := by
 have hb := bt_range s at_;have hwb : wrap64 (bt s at_) = bt s at_ := by unfold wrap64; omega
 have hN : (((bt s at_).toNat : Nat) : Int) = bt s at_ := om_;have hand := u8and (bt s at_).toNat om_;have hand2 := i64and (bt s at_).toNat om_;rw [hN] at hand hand2;have spec0 : ∀ q, Ev (fun k => (spec_l1Many.f (bt s at_)).bind fun t => (if t < 2 then (if t = 1 then (some (bt s at_, (1 : Int))) else (some (65533, 1))) else (if 0 ≤ t then (spec_GetSign.l0 k s at_ (bt s at_) t (Go.bits .and .i64 (bt s at_) (shr .i64 127 t)) 1) else (none)))) q → Ev (fun k => spec_GetSign.f k s at_) q := by
  intro q h;unfold spec_GetSign.f;refine Ev.ifn om_ ?_;rw [dF_ om_];refine Ev.step (fun k => by simp only [spec_GetSign.j0]; rfl) (Ev.ifn si_ (Ev.ifp ha (Ev.ifp has ?_)));rw [hwb];exact h
 have impl0 : ∀ q, Ev (fun k => (impl_beginning.f k (bt s at_)).bind fun g => (if g.1 < 0 then (some (65533, 1)) else (impl_getSign.l0 k s at_ g.1 g.2.1 g.2.2.1 g.2.2.2 1))) q → Ev (fun k => impl_getSign.f k s at_) q := by
  intro q h;unfold impl_getSign.f;exact Ev.ifp ha (Ev.ifp has h)
 have bj : ∀ {g : Int × Int × Int × Int}, bt s at_ ≥ 194 → bt s at_ ≤ 244 → Ev (fun k => (if bt s at_ < 224 then (some ((1 : Int), wrap64 (Go.bits .and .u8 (bt s at_) 31), (128 : Int), (191 : Int))) else (if bt s at_ = 224 then (some (2, 0, 160, 191)) else (if bt s at_ = 237 then (some (2, 13, 128, 159)) else (if bt s at_ < 240 then (some (2, wrap64 (Go.bits .and .u8 (bt s at_) 15), 128, 191)) else (if bt s at_ = 240 then (some (3, 0, 144, 191)) else (if bt s at_ = 244 then (some (3, 4, 128, 143)) else (some (3, wrap64 (Go.bits .and .u8 (bt s at_) 7), 128, 191))))))))) g → Ev (fun k => impl_beginning.f k (bt s at_)) g := by
  intro g h1 h2 h;unfold impl_beginning.f;refine Ev.ifn om_ (Ev.ifn om_ ?_);rw [dF_ om_];refine Ev.step (fun k => by simp only [impl_beginning.j0]; rfl) (Ev.ifn si_ h)
 by_cases c1 : bt s at_ < 128
 ·refine ⟨(bt s at_, 1), by simp, by simp, spec0 _ ?_, impl0 _ ?_⟩
  ·refine Ev.bindc (a := 1) (by unfold spec_l1Many.f; rw [if_pos c1]) (Ev.ifp om_ (Ev.ifp rfl (Ev.now _)))
  ·refine Ev.bind (a := (0, bt s at_, 0, 0)) (by unfold impl_beginning.f; rw [hwb]; exact Ev.ifp c1 (Ev.now _)) (Ev.ifn si_ ?_);have := impl_Gs s at_ ha has hs 0 (bt s at_) 0 0 1 om_ hb.1 (by show _ < (1099511627776 : Int); omega) om_ om_;simpa [Gs] using this
 by_cases c2 : bt s at_ < 194 ∨ bt s at_ > 244
 ·refine ⟨(65533, 1), by simp, by simp, spec0 _ ?_, impl0 _ ?_⟩
  ·refine Ev.bindc (a := 0) ?_ (Ev.ifp om_ (Ev.ifn om_ (Ev.now _)));unfold spec_l1Many.f;rw [if_neg c1, l1In_f, dF_ om_, l1In_f, dF_ om_, l1In_f, dF_ om_];rfl
  ·refine Ev.bind (a := (-1, 0, 0, 0)) ?_ (Ev.ifp si_ (Ev.now _));unfold impl_beginning.f;refine Ev.ifn c1 ?_;have hj : Ev (fun k => impl_beginning.j0 k (bt s at_) true) (-1, 0, 0, 0) := Ev.step (f := fun _ => some (-1, 0, 0, 0)) (fun k => by simp [impl_beginning.j0]) (Ev.now _);by_cases c3 : bt s at_ < 194
   ·exact Ev.ifp c3 hj
   ·refine Ev.ifn c3 ?_;rw [dE_ om_];exact hj
 have many : ∀ (r : Nat) (n0 : Int), spec_l1Many.f (bt s at_) = some ((r : Int) + 2) → bits .and .i64 (bt s at_) (shr .i64 127 ((r : Int) + 2)) = n0 → r + 1 ≤ 3 → 0 ≤ n0 → n0 < 4194304 → Ev (fun k => impl_beginning.f k (bt s at_)) ((r : Int) + 1, n0, secLo (bt s at_), secHi (bt s at_)) →
   ∃ q : Int × Int, 1 ≤ q.2 ∧ q.2 ≤ 4 ∧ Ev (fun k => spec_GetSign.f k s at_) q ∧ Ev (fun k => impl_getSign.f k s at_) q := by
  intro r n0 hm hn hr h0 hB hbg;have hBd : n0 < Bd (r + 1) := by
   match r, hr with
   | 0, _ => show _ < (17179869184 : Int); omega
   | 1, _ => show _ < (268435456 : Int); omega
   | 2, _ => exact hB
  have hR := Gs_range s at_ (r + 1) n0 (secLo (bt s at_)) (secHi (bt s at_)) 1;refine ⟨Gs s at_ (r + 1) n0 (secLo (bt s at_)) (secHi (bt s at_)) 1, hR.1, om_, spec0 _ ?_, impl0 _ ?_⟩
  ·refine Ev.bindc hm (Ev.ifn om_ (Ev.ifp om_ ?_));rw [hn];exact spec_Gs1 s at_ _ ha has hs r n0 hr h0 hBd
  ·refine Ev.bind hbg (Ev.ifn (by show ¬ ((r : Int) + 1 < 0); omega) ?_);have := impl_Gs s at_ ha has hs (r + 1) n0 (secLo (bt s at_)) (secHi (bt s at_)) 1 hr h0 hBd om_ om_;rw [show (1 : Int) + ((r + 1 : Nat) : Int) - 1 = (r : Int) + 1 by omega] at this;exact this
 have wr : ∀ m : Int, 0 ≤ m → m < 256 → wrap64 m = m := by intro m h0 h1; unfold wrap64; omega
 by_cases c3 : bt s at_ < 224
 ·refine many 0 (bt s at_ % 32) ?_ ?_ om_ om_ om_ (bj om_ om_ ?_)
  ·unfold spec_l1Many.f;rw [if_neg c1, l1In_f, dE_ om_];rfl
  ·rw [show shr .i64 127 (((0 : Nat) : Int) + 2) = 31 by decide]; exact hand2.1
  ·rw [hand.2.1, wr _ om_ om_];refine Ev.ifp c3 ?_;rw [show secLo (bt s at_) = 128 by unfold secLo; rw [if_neg om_, if_neg om_, if_neg om_], show secHi (bt s at_) = 191 by unfold secHi; rw [if_neg om_, if_neg om_, if_neg om_, if_neg om_]];exact Ev.now _
 by_cases c4 : bt s at_ < 240
 ·refine many 1 (bt s at_ % 16) ?_ ?_ om_ om_ om_ (bj om_ om_ ?_)
  ·unfold spec_l1Many.f;rw [if_neg c1, l1In_f, dF_ om_, l1In_f, dE_ om_];rfl
  ·rw [show shr .i64 127 (((1 : Nat) : Int) + 2) = 15 by decide]; exact hand2.2.1
  ·rw [hand.2.2.1, wr (bt s at_ % 16) om_ om_];refine Ev.ifn c3 ?_;by_cases d1 : bt s at_ = 224
   ·refine Ev.ifp d1 ?_;rw [d1];exact Ev.now _
   refine Ev.ifn d1 ?_;by_cases d2 : bt s at_ = 237
   ·refine Ev.ifp d2 ?_;rw [d2];exact Ev.now _
   refine Ev.ifn d2 (Ev.ifp c4 ?_);rw [show secLo (bt s at_) = 128 by unfold secLo; rw [if_neg om_, if_neg om_, if_neg om_], show secHi (bt s at_) = 191 by unfold secHi; rw [if_neg om_, if_neg om_, if_neg om_, if_neg om_]];exact Ev.now _
 ·refine many 2 (bt s at_ % 8) ?_ ?_ om_ om_ om_ (bj om_ om_ ?_)
  ·unfold spec_l1Many.f;rw [if_neg c1, l1In_f, dF_ om_, l1In_f, dF_ om_, l1In_f, dE_ om_];rfl
  ·rw [show shr .i64 127 (((2 : Nat) : Int) + 2) = 7 by decide]; exact hand2.2.2
  ·rw [hand.2.2.2, wr (bt s at_ % 8) om_ om_];refine Ev.ifn c3 (Ev.ifn om_ (Ev.ifn om_ (Ev.ifn c4 ?_)));by_cases d1 : bt s at_ = 240
   ·refine Ev.ifp d1 ?_;rw [d1];exact Ev.now _
   refine Ev.ifn d1 ?_;by_cases d2 : bt s at_ = 244
   ·refine Ev.ifp d2 ?_;rw [d2];exact Ev.now _
   refine Ev.ifn d2 ?_;rw [show secLo (bt s at_) = 128 by unfold secLo; rw [if_neg om_, if_neg om_, if_neg om_], show secHi (bt s at_) = 191 by unfold secHi; rw [if_neg om_, if_neg om_, if_neg om_, if_neg om_]];exact Ev.now _
theorem signs_both (s : BA) (hs : s.size ≤ 1048576) : ∃ l : List Int, l.length ≤ s.size ∧ Ev (fun k => spec_Signs.f k s) l ∧ Ev (fun k => impl_Signs.f k s) l := by
 have key : ∀ (d : Nat) (j : Int) (o : List Int), 0 ≤ j → ((s.size : Int) - j).toNat ≤ d → o.length ≤ j.toNat → o.length ≤ s.size → ∃ l : List Int, l.length ≤ s.size ∧ Ev (fun k => spec_Signs.l0 k s o j) l ∧ Ev (fun k => impl_Signs.l0 k s o j) l := by
  intro d;induction d with
  | zero =>
   intro j o h0 hd ho hos;exact ⟨o, hos, Ev.step (fun k => by simp only [spec_Signs.l0]; rfl) (Ev.ifn om_ (Ev.now _)), Ev.step (fun k => by simp only [impl_Signs.l0]; rfl) (Ev.ifn om_ (Ev.now _))⟩
  | succ d ih =>
   intro j o h0 hd ho hos;by_cases hj : j < (s.size : Int)
   ·obtain ⟨q, q1, q2, e1, e2⟩ := sign_both s hs j h0 hj;have hw : wrap64 (j + q.2) = j + q.2 := by unfold wrap64; omega
    obtain ⟨l, hl, g1, g2⟩ := ih (j + q.2) (o ++ [q.1]) om_ om_ (by rw [List.length_append, List.length_singleton]; omega) (by rw [List.length_append, List.length_singleton]; omega);rw [← hw] at g1 g2;exact ⟨l, hl, Ev.step (fun k => by simp only [spec_Signs.l0]; rfl) (Ev.ifp hj (Ev.bind e1 (Ev.ifp (show o.length < 17592186044416 by omega) g1))), Ev.step (fun k => by simp only [impl_Signs.l0]; rfl) (Ev.ifp hj (Ev.bind e2 (Ev.ifp (show o.length < 17592186044416 by omega) g2)))⟩
   ·exact ⟨o, hos, Ev.step (fun k => by simp only [spec_Signs.l0]; rfl) (Ev.ifn hj (Ev.now _)), Ev.step (fun k => by simp only [impl_Signs.l0]; rfl) (Ev.ifn hj (Ev.now _))⟩
 obtain ⟨l, hl, e1, e2⟩ := key s.size 0 [] om_ om_ si_ si_;exact ⟨l, hl, e1, e2⟩
theorem sg_ex : ∀ (l : List Int) (o : List UInt8), o.length + 4 * l.length ≤ 140737488355327 → ∃ t : ByteArray, t.size ≤ o.length + 4 * l.length ∧ ∀ ps : Nat → Int → Option ByteArray, (∀ k n, ps (k + 1) n = some (putF n)) → Ev (fun k => sgF (ps k) l o) t
 | [], o, h => ⟨⟨o.toArray⟩, by simp [ByteArray.size], fun ps hp => by simp only [sgF]; exact Ev.now _⟩
 | n :: r, o, h => by
  have h4 := putF_size n;rw [List.length_cons] at h;have hl : (o ++ (putF n).data.toList).length = o.length + (putF n).size := by rw [List.length_append, data_length]
  obtain ⟨t, ht, e⟩ := sg_ex r (o ++ (putF n).data.toList) (by rw [hl]; omega);refine ⟨t, by rw [hl] at ht; rw [List.length_cons]; omega, fun ps hp => ?_⟩;simp only [sgF];exact Ev.bind (Ev.up 1 (fun k => hp k n)) (Ev.ifp om_ (e ps hp))
theorem clean_text_both (s : BA) (hs : s.size ≤ 1048576) : ∃ l : List Int, ∃ t : ByteArray, l.length ≤ s.size ∧ t.size ≤ 4 * s.size ∧ Ev (fun k => spec_Signs.f k s) l ∧ Ev (fun k => impl_Signs.f k s) l ∧ Ev (fun k => spec_SignText.f k l) t ∧ Ev (fun k => impl_SignText.f k l) t := by
 obtain ⟨l, hl, e1, e2⟩ := signs_both s hs;obtain ⟨t, ht, e3⟩ := sg_ex l [] (by simp; omega);refine ⟨l, t, hl, by simp at ht; omega, e1, e2, ?_, ?_⟩
 ·unfold spec_SignText.f; exact e3 _ specPut_f
 ·unfold impl_SignText.f; exact e3 _ implPut_f
def c4B : ByteArray := ⟨#[60, 33, 45, 45]⟩
theorem letAt_f (s : BA) (j : Int) (h0 : 0 ≤ j) : impl_isLetterAt.f s j = some (if j < (s.size : Int) then letF (bt s j) else false) := by
 have hr := Go.Proofs.YtkbbfeckieckoaaGreatDoor.A.bt_range s j;have hw : wrap64 (bt s j) = bt s j := by unfold wrap64; omega
 unfold impl_isLetterAt.f;rw [hw, implLetter_f];by_cases c : j < (s.size : Int)
 ·rw [if_pos c, if_pos h0, if_pos c]; rfl
 ·rw [if_neg c, if_neg c]
theorem next_step (s : BA) (hs : s.size ≤ 1000000) (p : Int) (out : List STk) (hW : Wf out p) (h1 : p < s.size) : ∃ r : Int × List STk, p < r.1 ∧ r.1 ≤ s.size ∧ Wf r.2 r.1 ∧ Ev (fun k => impl_scanner_next.f k s p out) r ∧ Ev (fun k => spec_l5One.f k s p out) r := by
 have h0 : 0 ≤ p := by have := hW.len; omega
 obtain ⟨c0, b1, b2, b3⟩ := begins_both s hs p h0 h1;cases c0 with
 | false =>
  obtain ⟨r, r1, r2, r3, r4, r5⟩ := text_step s hs p out hW h1;exact ⟨r, r1, r2, r3, by unfold impl_scanner_next.f; exact Ev.ifp ⟨h0, h1, hs⟩ (Ev.bindc b1 (Ev.ifn si_ r4)), by unfold spec_l5One.f; exact Ev.ifp ⟨h0, h1, hs⟩ (Ev.bindc b2 (Ev.ifn si_ r5))⟩
 | true =>
  obtain ⟨g1, g2, g3⟩ := b3 rfl;have hP := hasPrefix_f s p c4B h0 om_;have hS := stands_f s om_ p c4B de_ h0 om_;have hA := after_f s p om_ h0 h1;by_cases st : standsAt s p c4B
  ·rw [dE_ st] at hP hS;have h4 : p + 4 ≤ s.size := by
    have := st.1;rw [show c4B.size = 4 from rfl] at this;omega
   obtain ⟨r, r1, r2, r3, r4, r5⟩ := note_step s hs p out hW h4;exact ⟨r, r1, r2, r3, by unfold impl_scanner_next.f; exact Ev.ifp ⟨h0, h1, hs⟩ (Ev.bindc b1 (Ev.ifp rfl (Ev.bindc hP (Ev.ifp rfl r4)))), by unfold spec_l5One.f; exact Ev.ifp ⟨h0, h1, hs⟩ (Ev.bindc b2 (Ev.ifp rfl (Ev.bindc hA (Ev.bindc hS (Ev.ifp rfl r5)))))⟩
  rw [dF_ st] at hP hS;have hL := letAt_f s (p + 1) om_;rw [if_pos g1] at hL;have impl : ∀ {g : Nat → Option (Int × List STk)} {r : Int × List STk}, Ev g r → (∀ k, g k = (impl_isLetterAt.f s (p + 1)).bind fun c2 => if c2 = true then impl_scanner_tag.f k s p out (p + 1) 2 else
    if p + 1 < s.size then (if bt s (p + 1) = 47 then impl_isLetterAt.f s (p + 2) else some false).bind fun c3 => if c3 = true then impl_scanner_tag.f k s p out (p + 2) 3 else impl_scanner_odd.f k s p out else none) → Ev (fun k => impl_scanner_next.f k s p out) r := fun hg hh => by
   unfold impl_scanner_next.f;exact Ev.ifp ⟨h0, h1, hs⟩ (Ev.bindc b1 (Ev.ifp rfl (Ev.bindc hP (Ev.ifn si_ (Ev.fn (fun k => (hh k).symm) hg)))))
  have spec : ∀ {g : Nat → Option (Int × List STk)} {r : Int × List STk}, Ev g r → (∀ k, g k = if 0 ≤ tagFrom s p then (if tagFrom s p < s.size then (spec_IsLetter.f (bt s (tagFrom s p))) else some false).bind fun c2 => if c2 = true then spec_l5Tag.f k s p out else spec_l5Odd.f k s p out else none) → Ev (fun k => spec_l5One.f k s p out) r := fun hg hh => by
   unfold spec_l5One.f;exact Ev.ifp ⟨h0, h1, hs⟩ (Ev.bindc b2 (Ev.ifp rfl (Ev.bindc hA (Ev.bindc hS (Ev.ifn si_ (Ev.fn (fun k => (hh k).symm) hg))))))
  have odd : ¬ bt s (p + 1) = 62 → ∃ r : Int × List STk, p < r.1 ∧ r.1 ≤ s.size ∧ Wf r.2 r.1 ∧ Ev (fun k => impl_scanner_odd.f k s p out) r ∧ Ev (fun k => spec_l5Odd.f k s p out) r := fun h => odd_step s hs p out hW om_ g2 h
  by_cases cl : letF (bt s (p + 1)) = true
  ·-- a start
   have hn47 : ¬ bt s (p + 1) = 47 := fun h => by rw [h] at cl; exact absurd cl de_
   have hF : tagFrom s p = p + 1 := by unfold tagFrom; rw [if_neg (fun h => hn47 h.2)]
   obtain ⟨r, r1, r2, r3, r4, r5⟩ := tag_step s hs p out hW h1 g2 2 (.inr ⟨om_, rfl⟩);rw [hF] at r4;rw [cl] at hL;refine ⟨r, r1, r2, r3, impl (Ev.bindc hL (Ev.ifp rfl r4)) (fun k => rfl), ?_⟩;refine spec (g := fun k => if 0 ≤ tagFrom s p then (if tagFrom s p < s.size then (spec_IsLetter.f (bt s (tagFrom s p))) else some false).bind fun c2 => if c2 = true then spec_l5Tag.f k s p out else spec_l5Odd.f k s p out else none) ?_ (fun k => rfl);rw [hF];refine Ev.ifp om_ (Ev.bindc (a := true) ?_ (Ev.ifp rfl r5));rw [if_pos g1, specLetter_f, cl]
  have cl' : letF (bt s (p + 1)) = false := by simpa using cl
  rw [cl'] at hL;by_cases c47 : bt s (p + 1) = 47
  ·have hF : tagFrom s p = p + 2 := by unfold tagFrom; rw [if_pos ⟨g1, c47⟩]; omega
   have hL2 := letAt_f s (p + 2) om_;by_cases cx : (if p + 2 < (s.size : Int) then letF (bt s (p + 2)) else false) = true
   ·obtain ⟨r, r1, r2, r3, r4, r5⟩ := tag_step s hs p out hW h1 g2 3 (.inl ⟨hF, rfl⟩);rw [hF] at r4;rw [cx] at hL2;refine ⟨r, r1, r2, r3, ?_, ?_⟩
    ·refine impl (Ev.bindc hL (Ev.ifn si_ (Ev.ifp g1 (Ev.bindc (a := true) ?_ (Ev.ifp rfl r4))))) (fun k => rfl);rw [if_pos c47]; exact hL2
    ·refine spec (g := fun k => if 0 ≤ tagFrom s p then (if tagFrom s p < s.size then (spec_IsLetter.f (bt s (tagFrom s p))) else some false).bind fun c2 => if c2 = true then spec_l5Tag.f k s p out else spec_l5Odd.f k s p out else none) ?_ (fun k => rfl);rw [hF];refine Ev.ifp om_ (Ev.bindc (a := true) ?_ (Ev.ifp rfl r5));by_cases c2 : p + 2 < (s.size : Int)
     ·rw [if_pos c2] at cx;rw [if_pos c2, specLetter_f, cx]
     ·rw [if_neg c2] at cx; cases cx
   ·have cx' : (if p + 2 < (s.size : Int) then letF (bt s (p + 2)) else false) = false := by simpa using cx
    obtain ⟨r, r1, r2, r3, r4, r5⟩ := odd om_;rw [cx'] at hL2;refine ⟨r, r1, r2, r3, ?_, ?_⟩
    ·refine impl (Ev.bindc hL (Ev.ifn si_ (Ev.ifp g1 (Ev.bindc (a := false) ?_ (Ev.ifn si_ r4))))) (fun k => rfl);rw [if_pos c47]; exact hL2
    ·refine spec (g := fun k => if 0 ≤ tagFrom s p then (if tagFrom s p < s.size then (spec_IsLetter.f (bt s (tagFrom s p))) else some false).bind fun c2 => if c2 = true then spec_l5Tag.f k s p out else spec_l5Odd.f k s p out else none) ?_ (fun k => rfl);rw [hF];refine Ev.ifp om_ (Ev.bindc (a := false) ?_ (Ev.ifn si_ r5));by_cases c2 : p + 2 < (s.size : Int)
     ·rw [if_pos c2] at cx';rw [if_pos c2, specLetter_f, cx']
     ·rw [if_neg c2]
  ·have hF : tagFrom s p = p + 1 := by unfold tagFrom; rw [if_neg (fun h => c47 h.2)]
   obtain ⟨r, r1, r2, r3, r4, r5⟩ := odd (by rcases g3 with h | h | h | h <;> first | omega | (rw [h] at cl'; cases cl'));refine ⟨r, r1, r2, r3, ?_, ?_⟩
   ·refine impl (Ev.bindc hL (Ev.ifn si_ (Ev.ifp g1 (Ev.bindc (a := false) ?_ (Ev.ifn si_ r4))))) (fun k => rfl);rw [if_neg c47]
   ·refine spec (g := fun k => if 0 ≤ tagFrom s p then (if tagFrom s p < s.size then (spec_IsLetter.f (bt s (tagFrom s p))) else some false).bind fun c2 => if c2 = true then spec_l5Tag.f k s p out else spec_l5Odd.f k s p out else none) ?_ (fun k => rfl);rw [hF];refine Ev.ifp om_ (Ev.bindc (a := false) ?_ (Ev.ifn si_ r5));rw [if_pos g1, specLetter_f, cl']
theorem scan_loop (s : BA) (hs : s.size ≤ 1000000) (d : Nat) : ∀ (p : Int) (out : List STk), Wf out p → p ≤ s.size → ((s.size : Int) - p).toNat ≤ d → ∃ o : List STk, Wf o s.size ∧ Ev (fun k => scanL k s p out) o ∧ Ev (fun k => sScanL k s p out) o := by
 induction d with
 | zero =>
  intro p out hW h1 hd;exact ⟨out, hW.mono h1, Ev.step (fun k => by rw [scanL]) (Ev.ifn om_ (Ev.now _)), Ev.step (fun k => by rw [sScanL]) (Ev.ifn om_ (Ev.now _))⟩
 | succ d ih =>
  intro p out hW h1 hd;by_cases hp : p < (s.size : Int)
  ·obtain ⟨r, r1, r2, r3, r4, r5⟩ := next_step s hs p out hW hp;obtain ⟨o, o1, o2, o3⟩ := ih r.1 r.2 r3 r2 om_;exact ⟨o, o1, Ev.step (fun k => by rw [scanL]) (Ev.ifp hp (Ev.bind r4 o2)), Ev.step (fun k => by rw [sScanL]) (Ev.ifp hp (Ev.bind r5 o3))⟩
  ·exact ⟨out, hW.mono h1, Ev.step (fun k => by rw [scanL]) (Ev.ifn hp (Ev.now _)), Ev.step (fun k => by rw [sScanL]) (Ev.ifn hp (Ev.now _))⟩
theorem Scan_both (s : BA) : ∃ q : List STk, q.length ≤ 1000000 ∧ aS q ≤ 1000000 ∧ Ev (fun k => spec_Scan.f k s) q ∧ Ev (fun k => impl_Scan.f k s) q := by
 unfold spec_Scan.f impl_Scan.f;by_cases c : (s.size : Int) > 20000
 ·exact ⟨[], by simp, by rw [aS]; omega, Ev.ifp c (Ev.now _), Ev.ifp c (Ev.now _)⟩
 obtain ⟨l, t, hl, ht, e1, e2, e3, e4⟩ := clean_text_both s om_;obtain ⟨u, hu, f1, f2⟩ := Lines_both t om_;obtain ⟨o, o1, o2, o3⟩ := scan_loop u om_ u.size 0 [] ⟨by show ((0 : Nat) : Int) ≤ 0; decide, by rw [aS]; decide, fun t h => by cases h⟩ om_ om_;refine ⟨o, by have := o1.len; omega, by have := o1.at_; omega, Ev.ifn c ?_, Ev.ifn c ?_⟩
 ·unfold spec_Clean.f;exact Ev.bind (Ev.bind e1 (Ev.bind e3 (Ev.now _))) (Ev.bind f2 o3)
 ·unfold impl_Clean.f;exact Ev.bind (Ev.bind e2 (Ev.bind e4 (Ev.now _))) (Ev.bindc f1 o2)
theorem Scan_pure : laws_FnExactScan.Pure := by
 intro a0 _;unfold LwT;by_cases c : 1048576 < (a0.size : Int)
 ·exact ⟨0, .inl c⟩
 obtain ⟨L, hl, ha, ⟨K1, r1⟩, ⟨K2, r2⟩⟩ := Scan_both a0;obtain ⟨K3, r3⟩ := eqTokenS_ok L hl (fun t ht => by have := aS_mem L t ht; omega);obtain ⟨m, ys, ⟨K6, k1⟩, ⟨K7, k2⟩, k3⟩ := mkVL_ok L 1 om_ om_;refine ⟨K1 + K2 + K3 + K6 + K7, .inr ⟨c, L, r1 _ om_, r2 _ om_, r3 _ om_, fun gl hq => ?_⟩⟩;generalize hK : K1 + K2 + K3 + K6 + K7 = K;subst hq;obtain ⟨gl2, q1, q2⟩ := mkTL_er K gl 1 m ys (k1 K om_);exact ⟨m, gl2, q1, by rw [q2]; exact k2 K om_, om_⟩
end Go.Proofs.YtkbbfeckieckoaaGreatDoor.A
