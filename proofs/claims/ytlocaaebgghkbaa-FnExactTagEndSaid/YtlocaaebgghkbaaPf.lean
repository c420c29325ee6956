/- The end of a tag, in the program and in the reference: one place. -/
import Derived.Test.YtlocaaebgghkbaaPt
namespace Go.Proofs.Ytlocaaebgghkbaa.A
open Go.RowKit Go.Proofs.YtlocaaebgghkbaaW.PrintWords Go.Proofs.YtlocaaebgghkbaaW.PrintLast Go.Proofs.YtlocaaebgghkbaaW.PrintMore
set_option linter.unusedVariables false

theorem extract_list (s : ByteArray) (a b : Nat) : (s.extract a b).data.toList = (s.data.toList.drop a).take (b - a) := by
  rw [ByteArray.data_extract, Array.toList_extract, List.extract_eq_take_drop]
theorem extract_end (s : ByteArray) (a : Nat) : (s.extract a s.size).data.toList = s.data.toList.drop a := by
  rw [extract_list, List.take_of_length_le (by rw [List.length_drop, data_length]; omega)]
theorem drop_cons (s : ByteArray) (i : Nat) (h : i < s.size) : s.data.toList.drop i = s[i] :: s.data.toList.drop (i + 1) := by
  have h' : i < s.data.toList.length := by rw [data_length]; exact h
  rw [List.drop_eq_getElem_cons h']
  rfl
theorem fnd_ix (s : ByteArray) (c : Int) (hc0 : 0 ≤ c) (hc1 : c ≤ 255) (d : Nat) : ∀ (i : Int), 0 ≤ i → i ≤ s.size → ((s.size : Int) - i).toNat = d →
    fndF s i c = if Lib.indexByte (s.data.toList.drop i.toNat) c.toNat.toUInt8 < 0 then -1 else i + Lib.indexByte (s.data.toList.drop i.toNat) c.toNat.toUInt8 := by
  induction d with
  | zero =>
    intro i h0 h1 hd
    rw [fndF, if_neg (by omega), List.drop_of_length_le (by rw [data_length]; omega)]
    rfl
  | succ d ih =>
    intro i h0 h1 hd
    have hlt : i < (s.size : Int) := by omega
    have hn : i.toNat < s.size := by omega
    have hb := bt_at s i hn
    rw [fndF, if_pos hlt, drop_cons s i.toNat hn]
    have e1 : (i + 1).toNat = i.toNat + 1 := by omega
    have ih1 := ih (i + 1) (by omega) (by omega) (by omega)
    rw [e1] at ih1
    have hge := Lib.indexByte_ge (s.data.toList.drop (i.toNat + 1)) c.toNat.toUInt8
    generalize hx : Lib.indexByte (s.data.toList.drop (i.toNat + 1)) c.toNat.toUInt8 = x at *
    have hcc : (c.toNat.toUInt8.toNat : Int) = c := by
      have : c.toNat.toUInt8.toNat = c.toNat := by simp; omega
      omega
    unfold Lib.indexByte
    by_cases h : bt s i = c
    · have hs : s[i.toNat] = c.toNat.toUInt8 := by
        apply UInt8.toNat_inj.mp
        have h9 : (s[i.toNat].toNat : Int) = c.toNat.toUInt8.toNat := by rw [hcc, ← h]; exact hb
        exact Int.ofNat.inj h9
      rw [if_pos h, hs]; simp
    · have hs : ¬ s[i.toNat] = c.toNat.toUInt8 := fun he => h (by rw [← hb, he, hcc])
      rw [if_neg h, ih1, hx]
      simp only [beq_iff_eq, if_neg hs]
      by_cases hm1 : x = -1
      · subst hm1; simp
      · rw [if_neg hm1, if_neg (by omega), if_neg (by omega)]; omega

theorem nm_more {s : ByteArray} {j : Int} (h : j < (s.size : Int)) (ho : ovr s j true = false) (h1 : blk (bt s j) = false) (h2 : bt s j ≠ 47) : nmF s true j j = nmF s true j (j + 1) := by
  refine nmF_go h ho ?_
  have : decide (j < j) = false := decide_eq_false (by omega)
  simp [inNm, h1, h2]
theorem nmF_le {s : ByteArray} {e : Bool} {f : Int} : ∀ (d : Nat) (k : Int), ((s.size : Int) - k).toNat = d → k ≤ s.size → k ≤ nmF s e f k ∧ nmF s e f k ≤ s.size := by
  intro d
  induction d with
  | zero => intro k hd hk; rw [nmF_stop (.inl (by omega))]; omega
  | succ d ih =>
    intro k hd hk
    by_cases h : ovr s k e = false ∧ inNm s f k = true
    · rw [nmF_go (by omega) h.1 h.2]
      have := ih (k + 1) (by omega) (by omega)
      omega
    · rw [nmF_stop (.inr h)]; omega
theorem plF_le {s : ByteArray} {e : Bool} : ∀ (d : Nat) (k : Int), ((s.size : Int) - k).toNat = d → k ≤ s.size → k ≤ plF s e k ∧ plF s e k ≤ s.size := by
  intro d
  induction d with
  | zero => intro k hd hk; rw [plF_stop (fun h => by have := ovr_lt h.1; omega)]; omega
  | succ d ih =>
    intro k hd hk
    by_cases h : ovr s k e = false ∧ blk (bt s k) = false
    · rw [plF_go (by omega) h.1 h.2]
      have := ih (k + 1) (by omega) (by omega)
      omega
    · rw [plF_stop h]; omega
theorem sep_at {s : ByteArray} {e : Bool} : ∀ (d : Nat) (k : Int) (sl : Bool), ((s.size : Int) - k).toNat = d → k ≤ s.size → ovr s (sepF s e k sl).1 e = false → blk (bt s (sepF s e k sl).1) = false ∧ bt s (sepF s e k sl).1 ≠ 47 := by
  intro d
  induction d with
  | zero => intro k sl hd hk ho; rw [sepF_stop (.inl (by omega))] at ho; have := ovr_lt ho; simp only at this; omega
  | succ d ih =>
    intro k sl hd hk ho
    by_cases h : ovr s k e = false ∧ (blk (bt s k) = true ∨ bt s k = 47)
    · rw [sepF_go (by omega) h.1 h.2] at ho ⊢
      exact ih _ _ (by omega) (by omega) ho
    · rw [sepF_stop (.inr h)] at ho ⊢
      simp only at ho ⊢
      exact ⟨by cases hb : blk (bt s k) with
        | false => rfl
        | true => exact absurd ⟨ho, .inl hb⟩ h, fun he => h ⟨ho, .inr he⟩⟩

/-- the quoted value -/
theorem quoted_f (s : ByteArray) (k : Int) (e sl : Bool) (hm : s.size ≤ 140737488351232) (h0 : 0 ≤ k) (h1 : k < (s.size : Int)) :
    impl_tagger_quoted.f s k e sl = if fndF s (k + 1) (bt s k) < 0 then some (s.extract (k + 1).toNat s.size, false, s, (s.size : Int), e, sl)
      else some (s.extract (k + 1).toNat (fndF s (k + 1) (bt s k)).toNat, true, s, fndF s (k + 1) (bt s k) + 1, e, sl) := by
  have hw := w1 (n := s.size) h0 (by omega) hm
  have hr := bt_range s k
  unfold impl_tagger_quoted.f strings_IndexByte.f
  rw [hw, if_pos h0, if_pos h1, if_pos (by omega), if_pos (by omega), extract_end]
  simp only [Option.bind_some]
  have hf := fnd_ix s (bt s k) hr.1 hr.2 _ (k + 1) (by omega) (by omega) rfl
  have hub : Lib.indexByte (s.data.toList.drop (k + 1).toNat) (bt s k).toNat.toUInt8 < 0 ∨ (k + 1) + Lib.indexByte (s.data.toList.drop (k + 1).toNat) (bt s k).toNat.toUInt8 < s.size := by
    by_cases hn : Lib.indexByte (s.data.toList.drop (k + 1).toNat) (bt s k).toNat.toUInt8 < 0
    · exact .inl hn
    · obtain ⟨o, ho⟩ : ∃ o : Nat, Lib.indexByte (s.data.toList.drop (k + 1).toNat) (bt s k).toNat.toUInt8 = o := ⟨_, (Int.toNat_of_nonneg (by omega)).symm⟩
      have h9 := (Lib.indexByte_some ho).1
      have h8 : o < (s.data.toList.drop (k + 1).toNat).length := by
        rcases Nat.lt_or_ge o (s.data.toList.drop (k + 1).toNat).length with h | h
        · exact h
        · rw [List.getElem?_eq_none h] at h9; cases h9
      rw [List.length_drop, data_length] at h8
      right; rw [ho]; omega
  generalize Lib.indexByte (s.data.toList.drop (k + 1).toNat) (bt s k).toNat.toUInt8 = x at *
  by_cases hx : x < 0
  · rw [if_pos hx] at hf
    rw [if_pos hx, hf, if_pos (by omega)]
  · rw [if_neg hx] at hf
    have h7 := hub.resolve_left hx
    have e1 : wrap64 (k + 1 + x) = k + 1 + x := by unfold wrap64; omega
    have e2 : wrap64 (k + 1 + x + 1) = k + 1 + x + 1 := by unfold wrap64; omega
    rw [if_neg hx, hf, e1, e2, if_pos (by omega), if_pos (by omega), if_neg (by omega)]

/-! ### the two ends -/
theorem ev_skip (s : ByteArray) (hm : s.size ≤ 140737488351232) (i : Int) (b : Bool) (h0 : 0 ≤ i) (h1 : i ≤ s.size) : Ev (fun k => spec_l4Skip.f k s i) (sepF s true i b).1 :=
  Ev.of (spec_l4Skip.mono s i) (k := ((s.size : Int) - i).toNat + 1) (l4Skip_l s hm _ _ i b h0 h1 rfl (Nat.lt_succ_self _))
theorem ev_blanks (s : ByteArray) (hm : s.size ≤ 140737488351232) (i : Int) (h0 : 0 ≤ i) (h1 : i ≤ s.size) : Ev (fun k => spec_l4Blanks.f k s i) (pastB s i) :=
  Ev.of (spec_l4Blanks.mono s i) (k := ((s.size : Int) - i).toNat + 1) (l4Blanks_l s hm _ _ i h0 h1 rfl (Nat.lt_succ_self _))
theorem ev_name (s : ByteArray) (hm : s.size ≤ 140737488351232) (i : Int) (e : Bool) (h0 : 0 ≤ i) (h1 : i ≤ s.size) : Ev (fun k => spec_l4Name.f k s i e) (nmF s e i i) :=
  Ev.of (spec_l4Name.mono s i e) (k := ((s.size : Int) - i).toNat + 1) (l4Name_l s i e hm _ _ i h0 (Int.le_refl _) h1 rfl (Nat.lt_succ_self _))
theorem ev_plain (s : ByteArray) (hm : s.size ≤ 140737488351232) (i : Int) (e : Bool) (h0 : 0 ≤ i) (h1 : i ≤ s.size) : Ev (fun k => spec_l4Plain.f k s i e) (plF s e i) :=
  Ev.of (spec_l4Plain.mono s i e) (k := ((s.size : Int) - i).toNat + 1) (l4Plain_l s e hm _ _ i h0 h1 rfl (Nat.lt_succ_self _))
theorem ev_find (s : ByteArray) (hm : s.size ≤ 140737488351232) (i c : Int) (h0 : 0 ≤ i) (h1 : i ≤ s.size) : Ev (fun k => spec_l4Find.f k s i c) (fndF s i c) :=
  Ev.of (spec_l4Find.mono s i c) (k := ((s.size : Int) - i).toNat + 1) (l4Find_l s c hm _ _ i h0 h1 rfl (Nat.lt_succ_self _))
theorem ev_tag (s : ByteArray) (hm : s.size ≤ 140737488351232) (i : Int) (h0 : 0 ≤ i) (h1 : i ≤ s.size) : Ev (fun k => spec_l4Tag.f k s i) (tnE s i) :=
  Ev.of (spec_l4Tag.mono s i) (k := ((s.size : Int) - i).toNat + 1) (l4Tag_l s hm _ _ i h0 h1 rfl (Nat.lt_succ_self _))
theorem fnd_le {s : ByteArray} {c : Int} : ∀ (d : Nat) (k : Int), ((s.size : Int) - k).toNat = d → 0 ≤ k → ¬ fndF s k c < 0 → k ≤ fndF s k c ∧ fndF s k c < s.size := by
  intro d
  induction d with
  | zero => intro k hd h0 h; rw [fndF, if_neg (by omega)] at h; omega
  | succ d ih =>
    intro k hd h0 h
    rw [fndF, if_pos (by omega)] at h ⊢
    by_cases hc : bt s k = c
    · rw [if_pos hc]; omega
    · rw [if_neg hc] at h ⊢
      have := ih (k + 1) (by omega) (by omega) h
      omega

theorem tag_both (s : ByteArray) (hm : s.size ≤ 140737488351232) (d : Nat) : ∀ (j : Int) (sl : Bool), 0 ≤ j → j ≤ s.size → ((s.size : Int) - j).toNat ≤ d → ∀ m, d < m →
    ∃ r, tagL m s j sl = some r ∧ Ev (fun k => spec_TagEnd.l0 k s j) r := by
  induction d with
  | zero =>
    intro j sl h0 h1 hd m hk
    obtain ⟨m, rfl⟩ : ∃ q, m = q + 1 := ⟨m - 1, by omega⟩
    have hj : j = s.size := by omega
    have hs : sepF s true j sl = (j, sl) := sepF_stop (.inl (by omega))
    have ho : ovr s j true = true := by simp [ovr, hj]
    refine ⟨-1, ?_, ?_⟩
    · simp only [tagL]
      rw [if_pos ⟨h0, h1, hm⟩, hs, if_pos ho, if_pos (by omega)]
    · refine Ev.step (fun k => by simp only [spec_TagEnd.l0]; rfl) (Ev.bind (ev_skip s hm j sl h0 h1) ?_)
      rw [hs]
      exact Ev.congr (fun k => if_pos (show j ≥ (s.size : Int) by omega)) (Ev.now _)
  | succ d ih =>
    intro j sl h0 h1 hd m hk
    obtain ⟨m, rfl⟩ : ∃ q, m = q + 1 := ⟨m - 1, by omega⟩
    obtain ⟨a1, a2⟩ := sepF_le (s := s) (e := true) _ j sl rfl h1
    have hat := sep_at (s := s) (e := true) _ j sl rfl h1
    have hev := ev_skip s hm j sl h0 h1
    have step : ∀ r, Ev (fun k => if (sepF s true j sl).1 ≥ (s.size : Int) then (some (-1)) else (if 0 ≤ (sepF s true j sl).1 then (if (sepF s true j sl).1 < (s.size : Int) then (if (bt s (sepF s true j sl).1) = 62 then (some (sepF s true j sl).1) else ((spec_l4Name.f k s (sepF s true j sl).1 true).bind fun t110 => ((spec_l4Blanks.f k s t110).bind fun t111 => (if t111 ≥ (s.size : Int) then (spec_TagEnd.j2 k s t111 true) else (if 0 ≤ t111 then (if t111 < (s.size : Int) then (spec_TagEnd.j2 k s t111 ((bt s t111) != 61)) else (none)) else (none)))))) else (none)) else (none))) r → Ev (fun k => spec_TagEnd.l0 k s j) r := fun r hr =>
      Ev.step (fun k => by simp only [spec_TagEnd.l0]; rfl) (Ev.bind hev hr)
    have impl : ∀ v, (if ovr s (sepF s true j sl).1 true = true then (if (sepF s true j sl).1 ≥ s.size then some (-1) else some (sepF s true j sl).1) else (impl_tagger_value.f s (nmF s true (sepF s true j sl).1 (sepF s true j sl).1) true (sepF s true j sl).2).bind fun v => if v.2.1 = true then (if v.2.2.1 = s ∧ v.2.2.2.2.1 = true then tagL m s v.2.2.2.1 v.2.2.2.2.2 else none) else some (-1)) = v → tagL (m + 1) s j sl = v := fun v hv => by
      simp only [tagL]; rw [if_pos ⟨h0, h1, hm⟩]; exact hv
    generalize (sepF s true j sl).2 = sa at *
    generalize (sepF s true j sl).1 = j1 at *
    have j10 : 0 ≤ j1 := by omega
    by_cases ho : ovr s j1 true = true
    · by_cases hz : j1 ≥ (s.size : Int)
      · exact ⟨-1, impl _ (by rw [if_pos ho, if_pos hz]), step _ (Ev.congr (fun k => if_pos hz) (Ev.now _))⟩
      · have h62 : bt s j1 = 62 := by
          have hd0 : decide ((s.size : Int) ≤ j1) = false := decide_eq_false (by omega)
          simpa [ovr, hd0] using ho
        exact ⟨j1, impl _ (by rw [if_pos ho, if_neg hz]), step _ (Ev.congr (fun k => by rw [if_neg hz, if_pos j10, if_pos (by omega), if_pos h62]) (Ev.now _))⟩
    have ho' : ovr s j1 true = false := by simpa using ho
    have hlt := ovr_lt ho'
    have h62 : ¬ (bt s j1 = 62) := fun h => by simp [ovr, h] at ho'
    obtain ⟨b1, b2⟩ := hat ho'
    have hnm := nm_more hlt ho' b1 b2
    have hnl := nmF_le (s := s) (e := true) (f := j1) _ (j1 + 1) rfl (by omega)
    rw [← hnm] at hnl
    have evn := ev_name s hm j1 true j10 a2
    generalize nmF s true j1 j1 = jn at *
    have evb := ev_blanks s hm jn (by omega) hnl.2
    obtain ⟨c1, c2⟩ := pastB_le (s := s) _ jn rfl hnl.2
    have hval : impl_tagger_value.f s jn true sa = if ovr s (pastB s jn) true = false ∧ bt s (pastB s jn) = 61 then
      if ovr s (pastB s (pastB s jn + 1)) true = true then some (⟨#[]⟩, true, s, pastB s (pastB s jn + 1), true, sa)
      else if bt s (pastB s (pastB s jn + 1)) = 34 ∨ bt s (pastB s (pastB s jn + 1)) = 39 then impl_tagger_quoted.f s (pastB s (pastB s jn + 1)) true sa
      else some (s.extract (pastB s (pastB s jn + 1)).toNat (plF s true (pastB s (pastB s jn + 1))).toNat, true, s, plF s true (pastB s (pastB s jn + 1)), true, sa)
    else some (⟨#[]⟩, true, s, pastB s jn, true, sa) := by
      unfold impl_tagger_value.f; rw [if_pos ⟨by omega, hnl.2, hm⟩]
    generalize pastB s jn = k1 at *
    -- what is left: behind the name's blanks
    have step2 : ∀ r, Ev (fun k => if k1 ≥ (s.size : Int) then (spec_TagEnd.j2 k s k1 true) else (if 0 ≤ k1 then (if k1 < (s.size : Int) then (spec_TagEnd.j2 k s k1 ((bt s k1) != 61)) else (none)) else (none))) r → ∃ r', r' = r ∧ Ev (fun k => spec_TagEnd.l0 k s j) r' := fun r hr =>
      ⟨r, rfl, step r (Ev.congr (fun k => by rw [if_neg (by omega), if_pos j10, if_pos hlt, if_neg h62]) (Ev.bind evn (Ev.bind evb hr)))⟩
    have done : ∀ (k2 : Int) (v : ByteArray), k1 ≤ k2 → k2 ≤ s.size → impl_tagger_value.f s jn true sa = some (v, true, s, k2, true, sa) → (∀ r, Ev (fun k => spec_TagEnd.l0 k s k2) r → Ev (fun k => if k1 ≥ (s.size : Int) then (spec_TagEnd.j2 k s k1 true) else (if 0 ≤ k1 then (if k1 < (s.size : Int) then (spec_TagEnd.j2 k s k1 ((bt s k1) != 61)) else (none)) else (none))) r) →
        ∃ r, tagL (m + 1) s j sl = some r ∧ Ev (fun k => spec_TagEnd.l0 k s j) r := by
      intro k2 v e1 e2 hv hk2
      obtain ⟨r, q1, q2⟩ := ih k2 sa (by omega) e2 (by omega) m (by omega)
      obtain ⟨r', rfl, q3⟩ := step2 r (hk2 r q2)
      refine ⟨_, impl _ ?_, q3⟩
      rw [if_neg ho, hv]
      simp only [Option.bind_some, and_self, if_true]
      exact q1
    by_cases e61 : ovr s k1 true = false ∧ bt s k1 = 61
    case neg =>
      refine done k1 ⟨#[]⟩ (Int.le_refl _) c2 (by rw [hval, if_neg e61]) (fun r hr => ?_)
      by_cases hz : k1 ≥ (s.size : Int)
      · exact Ev.congr (fun k => if_pos hz) (Ev.step (fun k => by simp only [spec_TagEnd.j2, if_true]) hr)
      · have hne : (bt s k1 != 61) = true := by
          rw [bne_iff_ne]; intro h
          refine e61 ⟨?_, h⟩
          have hd0 : decide ((s.size : Int) ≤ k1) = false := decide_eq_false (by omega)
          simp [ovr, hd0, h]
        exact Ev.congr (fun k => by rw [if_neg hz, if_pos (by omega), if_pos (by omega), hne]) (Ev.step (fun k => by simp only [spec_TagEnd.j2, if_true]) hr)
    obtain ⟨oo, e61⟩ := e61
    have klt := ovr_lt oo
    have evb2 := ev_blanks s hm (k1 + 1) (by omega) (by omega)
    obtain ⟨c3, c4⟩ := pastB_le (s := s) _ (k1 + 1) rfl (by omega)
    rw [if_pos ⟨oo, e61⟩] at hval
    generalize pastB s (k1 + 1) = k2 at *
    have step3 : ∀ r, Ev (fun k => if k2 < (s.size : Int) then (if 0 ≤ k2 then (if (bt s k2) = 34 then (spec_TagEnd.j3 k s k2 true) else (spec_TagEnd.j3 k s k2 ((bt s k2) == 39))) else (none)) else (spec_TagEnd.j3 k s k2 false)) r →
        Ev (fun k => if k1 ≥ (s.size : Int) then (spec_TagEnd.j2 k s k1 true) else (if 0 ≤ k1 then (if k1 < (s.size : Int) then (spec_TagEnd.j2 k s k1 ((bt s k1) != 61)) else (none)) else (none))) r := fun r hr =>
      Ev.congr (fun k => by rw [if_neg (by omega), if_pos (by omega), if_pos klt, show (bt s k1 != 61) = false by rw [e61]; rfl])
        (Ev.step (fun k => by simp only [spec_TagEnd.j2, Bool.false_eq_true, if_false]; rw [w1 (n := s.size) (by omega) (by omega) hm]) (Ev.bind evb2 hr))
    by_cases ho2 : ovr s k2 true = true
    · rw [if_pos ho2] at hval
      refine done k2 _ (by omega) c4 hval (fun r hr => step3 r ?_)
      have hpl : plF s true k2 = k2 := plF_stop (fun h => by rw [ho2] at h; exact absurd h.1 (by decide))
      have evp := ev_plain s hm k2 true (by omega) c4
      rw [hpl] at evp
      have h3 : Ev (fun k => spec_TagEnd.j3 k s k2 false) r := Ev.step (fun k => by simp only [spec_TagEnd.j3, Bool.false_eq_true, if_false]) (Ev.bind evp hr)
      by_cases hz : k2 < (s.size : Int)
      · have hb : bt s k2 = 62 := by
          have hd0 : decide ((s.size : Int) ≤ k2) = false := decide_eq_false (by omega)
          simpa [ovr, hd0] using ho2
        exact Ev.congr (fun k => by rw [if_pos hz, if_pos (by omega), if_neg (by omega), show (bt s k2 == 39) = false by rw [hb]; rfl]) h3
      · exact Ev.congr (fun k => if_neg hz) h3
    rw [if_neg ho2] at hval
    have ho2' : ovr s k2 true = false := by simpa using ho2
    have k2lt := ovr_lt ho2'
    by_cases hq : bt s k2 = 34 ∨ bt s k2 = 39
    case neg =>
      rw [if_neg hq] at hval
      obtain ⟨p1, p2⟩ := plF_le (s := s) (e := true) _ k2 rfl c4
      refine done _ _ (by omega) p2 hval (fun r hr => step3 r ?_)
      exact Ev.congr (fun k => by rw [if_pos k2lt, if_pos (by omega), if_neg (fun h => hq (.inl h)), show (bt s k2 == 39) = false from beq_eq_false_iff_ne.mpr (fun h => hq (.inr h))])
        (Ev.step (fun k => by simp only [spec_TagEnd.j3, Bool.false_eq_true, if_false]) (Ev.bind (ev_plain s hm k2 true (by omega) c4) hr))
    rw [if_pos hq, quoted_f s k2 true sa hm (by omega) k2lt] at hval
    have evf := ev_find s hm (k2 + 1) (bt s k2) (by omega) (by omega)
    have hfl := fnd_le (s := s) (c := bt s k2) _ (k2 + 1) rfl (by omega)
    generalize fndF s (k2 + 1) (bt s k2) = kf at *
    have step4 : ∀ r, Ev (fun k => if kf < 0 then (some (-1)) else (spec_TagEnd.l0 k s (wrap64 (kf + 1)))) r →
        Ev (fun k => if k2 < (s.size : Int) then (if 0 ≤ k2 then (if (bt s k2) = 34 then (spec_TagEnd.j3 k s k2 true) else (spec_TagEnd.j3 k s k2 ((bt s k2) == 39))) else (none)) else (spec_TagEnd.j3 k s k2 false)) r := fun r hr => by
      have h3 : Ev (fun k => spec_TagEnd.j3 k s k2 true) r := Ev.step (fun k => by simp only [spec_TagEnd.j3, if_true]; rw [if_pos (by omega), if_pos k2lt, w1 (n := s.size) (by omega) (by omega) hm]) (Ev.bind evf hr)
      refine Ev.congr (fun k => ?_) h3
      rw [if_pos k2lt, if_pos (by omega)]
      by_cases h34 : bt s k2 = 34
      · rw [if_pos h34]
      · rw [if_neg h34, show (bt s k2 == 39) = true from beq_iff_eq.mpr (hq.resolve_left h34)]
    by_cases hkf : kf < 0
    · rw [if_pos hkf] at hval
      obtain ⟨r', rfl, q3⟩ := step2 (-1) (step3 _ (step4 _ (Ev.congr (fun k => if_pos hkf) (Ev.now _))))
      refine ⟨_, impl _ ?_, q3⟩
      rw [if_neg ho, hval]
      simp
    · rw [if_neg hkf] at hval
      obtain ⟨f1, f2⟩ := hfl hkf
      refine done _ _ (by omega) (by omega) hval (fun r hr => step3 r (step4 r ?_))
      exact Ev.congr (fun k => by rw [if_neg hkf, w1 (n := s.size) (by omega) (by omega) hm]) hr

theorem TagEnd_both (s : ByteArray) (k : Int) (hm : s.size ≤ 140737488351232) (hk : (Lit.int .i64 k).wf = true) : ∃ r, impl_TagEnd.f s k = some r ∧ Ev (fun n => spec_TagEnd.f n s k) r := by
  by_cases h : 0 ≤ k ∧ k < s.size ∧ bt s k = 60
  · obtain ⟨h0, h1, h2⟩ := h
    have hA : spec_l4After.f s k = some (tagFrom s k) := by
      unfold spec_l4After.f tagFrom
      rw [w1 (n := s.size) h0 (by omega) hm]
      by_cases c : k + 1 < (s.size : Int)
      · rw [if_pos c, if_pos (by omega)]
        by_cases c2 : bt s (k + 1) = 47
        · rw [if_pos c2, if_pos ⟨c, c2⟩, show wrap64 (k + 2) = k + 1 + 1 by unfold wrap64; omega]
        · rw [if_neg c2, if_neg (fun h => c2 h.2)]
      · rw [if_neg c, if_neg (fun h => c h.1)]
    have hb : k + 1 ≤ tagFrom s k ∧ tagFrom s k ≤ s.size := by unfold tagFrom; split <;> omega
    have evt := ev_tag s hm (tagFrom s k) (by omega) hb.2
    have htl := tnE_le (s := s) _ (tagFrom s k) rfl hb.2
    obtain ⟨r, q1, q2⟩ := tag_both s hm s.size (tnE s (tagFrom s k)) false (by omega) htl.2 (by omega) (s.size + 1) (Nat.lt_succ_self _)
    refine ⟨r, by unfold impl_TagEnd.f; rw [if_pos ⟨h0, h1, h2, hm⟩]; exact q1, ?_⟩
    refine Ev.congr (fun n => by unfold spec_TagEnd.f; rw [if_neg (by omega), if_neg (by omega), if_pos h0, if_pos h1, show (bt s k != 60) = false by rw [h2]; rfl]) (Ev.step (fun n => by simp only [spec_TagEnd.j0, Bool.false_eq_true, if_false]; rw [hA, Option.bind_some]) (Ev.bind evt q2))
  · refine ⟨-1, by unfold impl_TagEnd.f; rw [if_neg (fun x => h ⟨x.1, x.2.1, x.2.2.1⟩), if_pos hm], ?_⟩
    have h3 : Ev (fun n => spec_TagEnd.j0 n s k true) (-1) := Ev.step (fun n => by simp only [spec_TagEnd.j0, if_true]) (Ev.now _)
    refine Ev.congr (fun n => ?_) h3
    unfold spec_TagEnd.f
    by_cases c1 : k < 0
    · rw [if_pos c1]
    · rw [if_neg c1]
      by_cases c2 : k ≥ (s.size : Int)
      · rw [if_pos c2]
      · rw [if_neg c2, if_pos (by omega), if_pos (by omega), show (bt s k != 60) = true from bne_iff_ne.mpr (fun he => h ⟨by omega, by omega, he⟩)]
end Go.Proofs.Ytlocaaebgghkbaa.A
