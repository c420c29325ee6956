-- text made by wip/tools/myprint.py over the kit's print
import Derived.Test.YtlocaaebgghkbaaAx0
import Derived.Test.YtlocaaebgghkbaaAx12
import Derived.Test.YtlocaaebgghkbaaAx15
import Derived.Test.YtlocaaebgghkbaaAx16
import Derived.Test.YtlocaaebgghkbaaAx17
import Derived.Test.YtlocaaebgghkbaaAx18
import Derived.Test.YtlocaaebgghkbaaAx25
namespace Go.Proofs.Ytlocaaebgghkbaa.A
open Go.RowKit Go.Proofs.YtlocaaebgghkbaaW.PrintWords Go.Proofs.YtlocaaebgghkbaaW.PrintLast Go.Proofs.YtlocaaebgghkbaaW.PrintMore
attribute [local go_sem] max2_int min2_int max_two min_two max_three min_three max_four min_four   -- for this text's walks alone
set_option linter.unusedVariables false
set_option linter.unusedSimpArgs false

/-! ### impl_TagEnd: function 11 -/
theorem isOver_f (s : ByteArray) (k : Int) (e sl : Bool) (h0 : 0 ≤ k) : impl_tagger_isOver.f s k e sl = some (ovr s k e, s, k, e, sl) := by
  unfold impl_tagger_isOver.f ovr
  by_cases c : k ≥ (s.size : Int)
  · rw [if_pos c]; simp [show (s.size : Int) ≤ k from c]
  · rw [if_neg c]
    cases e
    · rw [if_neg (by simp)]; simp; omega
    · rw [if_pos rfl, if_pos h0, if_pos (by omega)]; simp; omega
theorem name_l (s : ByteArray) (from_ : Int) (e sl : Bool) (hf : 0 ≤ from_) (hm : s.size ≤ 140737488351232) (d : Nat) : ∀ (k : Nat) (i : Int), from_ ≤ i → i ≤ s.size → ((s.size : Int) - i).toNat = d → d < k →
    impl_tagger_name.l0 k from_ s i e sl = some (s.extract from_.toNat (nmF s e from_ i).toNat, s, nmF s e from_ i, e, sl) := by
  induction d with
  | zero =>
    intro k i h0 h1 hd hk
    obtain ⟨k, rfl⟩ : ∃ m, k = m + 1 := ⟨k - 1, by omega⟩
    have ho : ovr s i e = true := by simp [ovr, show (s.size : Int) ≤ i by omega]
    simp only [impl_tagger_name.l0]
    rw [isOver_f s i e sl (by omega), nmF_stop (.inr (by rw [ho]; simp))]
    simp only [Option.bind_some]
    rw [if_pos ho, if_pos hf, if_pos h0, if_pos h1]
  | succ d ih =>
    intro k i h0 h1 hd hk
    obtain ⟨k, rfl⟩ : ∃ m, k = m + 1 := ⟨k - 1, by omega⟩
    have hr := bt_range s i
    simp only [impl_tagger_name.l0]
    rw [isOver_f s i e sl (by omega)]
    simp only [Option.bind_some]
    by_cases ho : ovr s i e = true
    · rw [if_pos ho, if_pos hf, if_pos h0, if_pos h1, nmF_stop (.inr (by rw [ho]; simp))]
    · rw [if_neg ho, if_pos (by omega), if_pos (by omega), isBlankByte_f _ hr.1 hr.2]
      simp only [Option.bind_some]
      have hw : wrap64 (i + 1) = i + 1 := by unfold wrap64; omega
      have ho' : ovr s i e = false := by simpa using ho
      by_cases c1 : blk (bt s i) = true
      · rw [if_pos c1, if_pos hf, if_pos h0, if_pos h1, nmF_stop (.inr (by simp [inNm, c1]))]
      · rw [if_neg c1]
        have c1' : blk (bt s i) = false := by simpa using c1
        by_cases c2 : bt s i = 47
        · rw [if_pos c2, if_pos hf, if_pos h0, if_pos h1, nmF_stop (.inr (by simp [inNm, c2]))]
        · rw [if_neg c2]
          by_cases c3 : bt s i = 61
          · rw [if_pos c3]
            by_cases c4 : i > from_
            · rw [if_pos c4, if_pos hf, if_pos h0, if_pos h1, nmF_stop (.inr (by simp [inNm, c3]; omega))]
            · have hi' : decide (from_ < i) = false := decide_eq_false c4
              rw [if_neg c4, hw, nmF_go (by omega) ho' (by simp only [inNm, c1', c3, hi']; rfl)]
              exact ih k (i + 1) (by omega) (by omega) (by omega) (by omega)
          · rw [if_neg c3, hw, nmF_go (by omega) ho' (by simp [inNm, c1', c2, c3])]
            exact ih k (i + 1) (by omega) (by omega) (by omega) (by omega)
theorem name_f (s : ByteArray) (i : Int) (e sl : Bool) (h0 : 0 ≤ i) (h1 : i ≤ s.size) (hm : s.size ≤ 140737488351232) :
    impl_tagger_name.f (((s.size : Int) - i).toNat + 1) s i e sl = some (s.extract i.toNat (nmF s e i i).toNat, s, nmF s e i i, e, sl) := by
  unfold impl_tagger_name.f
  exact name_l s i e sl h0 hm _ _ i (Int.le_refl _) h1 rfl (Nat.lt_succ_self _)
theorem nameEnd_l (s : ByteArray) (hm : s.size ≤ 140737488351232) (d : Nat) : ∀ (k : Nat) (i : Int), 0 ≤ i → i ≤ s.size → ((s.size : Int) - i).toNat = d → d < k → impl_nameEnd.l0 k s i = some (tnE s i) := by
  induction d with
  | zero =>
    intro k i h0 h1 hd hk
    obtain ⟨k, rfl⟩ : ∃ m, k = m + 1 := ⟨k - 1, by omega⟩
    simp only [impl_nameEnd.l0]
    rw [if_neg (by omega), tnE_stop (.inl (by omega))]
  | succ d ih =>
    intro k i h0 h1 hd hk
    obtain ⟨k, rfl⟩ : ∃ m, k = m + 1 := ⟨k - 1, by omega⟩
    have hr := bt_range s i
    simp only [impl_nameEnd.l0]
    rw [if_pos (by omega), if_pos h0, isBlankByte_f _ hr.1 hr.2]
    simp only [Option.bind_some]
    have hw : wrap64 (i + 1) = i + 1 := by unfold wrap64; omega
    by_cases c1 : blk (bt s i) = true
    · rw [if_pos c1, tnE_stop (.inr (by simp [inTn, c1]))]
    rw [if_neg c1]
    have c1' : blk (bt s i) = false := by simpa using c1
    by_cases c2 : bt s i = 47
    · rw [if_pos c2, tnE_stop (.inr (by simp [inTn, c2]))]
    rw [if_neg c2]
    by_cases c3 : bt s i = 62
    · rw [if_pos c3, tnE_stop (.inr (by simp [inTn, c3]))]
    rw [if_neg c3, hw, tnE_go (by omega) (by simp [inTn, c1', c2, c3])]
    exact ih k (i + 1) (by omega) (by omega) (by omega) (by omega)
theorem nameEnd_f (s : ByteArray) (i : Int) (h0 : 0 ≤ i) (h1 : i ≤ s.size) (hm : s.size ≤ 140737488351232) :
    impl_nameEnd.f (((s.size : Int) - i).toNat + 1) s i = some (tnE s i) := by
  unfold impl_nameEnd.f
  exact nameEnd_l s hm _ _ i h0 h1 rfl (Nat.lt_succ_self _)

/-- the rounds of TagEnd: separators, a name, a value -/
def tagL : Nat → ByteArray → Int → Bool → Option Int
  | 0, _, _, _ => none
  | n + 1, s, k, sl =>
    if 0 ≤ k ∧ k ≤ s.size ∧ s.size ≤ 140737488351232 then
      if ovr s (sepF s true k sl).1 true = true then (if (sepF s true k sl).1 ≥ s.size then some (-1) else some (sepF s true k sl).1)
      else (impl_tagger_value.f s (nmF s true (sepF s true k sl).1 (sepF s true k sl).1) true (sepF s true k sl).2).bind fun v =>
        if v.2.1 = true then (if v.2.2.1 = s ∧ v.2.2.2.2.1 = true then tagL n s v.2.2.2.1 v.2.2.2.2.2 else none) else some (-1)
    else none
def tagFrom (s : ByteArray) (k : Int) : Int := if k + 1 < (s.size : Int) ∧ bt s (k + 1) = 47 then k + 1 + 1 else k + 1
def impl_TagEnd.f (s : ByteArray) (k : Int) : Option Int :=
  if 0 ≤ k ∧ k < s.size ∧ bt s k = 60 ∧ s.size ≤ 140737488351232 then tagL (s.size + 1) s (tnE s (tagFrom s k)) false
  else if s.size ≤ 140737488351232 then some (-1) else none
set_option maxHeartbeats 2000000 in
set_option maxRecDepth 100000 in
theorem impl_TagEnd.calls (s : ByteArray) (k : Int) (r : Int) (w : World) (hF : impl_TagEnd.f s k = some r) :
    Calls Try.prog 11 #[.string s, .int .i64 k] w fun e w' => e = .returned (.int .i64 r) ∧ Below w.heap.size w w' := by
  have hm : s.size ≤ 140737488351232 := by
    unfold impl_TagEnd.f at hF
    split at hF
    · rename_i h; exact h.2.2.2
    · split at hF
      · rename_i h; exact h
      · cases hF
  have hu := Try.underlying58
  have hw1 : wrap64 ((s.size : Int) - 1) = (s.size : Int) - 1 := by unfold wrap64; omega
  by_cases h0 : 0 ≤ k ∧ k < s.size
  case neg =>
    have hr : r = -1 := by
      unfold impl_TagEnd.f at hF
      rw [if_neg (fun h => h0 ⟨h.1, h.2.1⟩), if_pos hm] at hF
      exact (Option.some.inj hF).symm
    subst hr
    have hin : impl_inRange.f k 0 ((s.size : Int) - 1) = some false := by
      unfold impl_inRange.f
      by_cases hk : k ≥ 0
      · rw [if_pos hk, decide_eq_false (by omega)]
      · rw [if_neg hk]
    go_enter Try.func11, Try.ntmps11
    go_wp2_with ((go_at_call 48; (with_reducible refine (impl_inRange.calls k 0 ((s.size : Int) - 1) false _ hin).mono ?_); rintro r w' ⟨rfl, ⟨nd, rfl⟩⟩))
    go_ret
    exact ⟨rfl, pw_below_drewN (Below.refl _ _) _⟩
  obtain ⟨k0, k1⟩ := h0
  have hin : impl_inRange.f k 0 ((s.size : Int) - 1) = some true := by
    unfold impl_inRange.f
    rw [if_pos (show k ≥ 0 from k0), decide_eq_true (by omega)]
  have p7 := eq_true k0
  have q7 := eq_true k1
  have hx := bt_at s k
  by_cases c1 : bt s k = 60
  case neg =>
    have hr : r = -1 := by
      unfold impl_TagEnd.f at hF
      rw [if_neg (fun h => c1 h.2.2.1), if_pos hm] at hF
      exact (Option.some.inj hF).symm
    subst hr
    have c1b : (bt s k != 60) = true := bne_iff_ne.mpr c1
    clear c1 hF
    go_enter Try.func11, Try.ntmps11
    go_wp2_with ((go_at_call 48; (with_reducible refine (impl_inRange.calls k 0 ((s.size : Int) - 1) true _ hin).mono ?_); rintro r w' ⟨rfl, ⟨nd, rfl⟩⟩))
    go_ret
    exact ⟨rfl, pw_below_drewN (Below.refl _ _) _⟩
  have c1b : (bt s k != 60) = false := by rw [c1]; rfl
  have HF : Aside0 (tagL (s.size + 1) s (tnE s (tagFrom s k)) false = some r) := ⟨by
    unfold impl_TagEnd.f at hF
    rw [if_pos ⟨k0, k1, c1, hm⟩] at hF
    exact hF⟩
  clear hF c1
  obtain ⟨f0, hf1, hf2⟩ : ∃ f0, tagFrom s k = f0 ∧ k + 1 ≤ f0 ∧ f0 ≤ s.size := by
    refine ⟨_, rfl, ?_⟩
    unfold tagFrom
    split <;> omega
  have hnE := nameEnd_f s f0 (by omega) hf2.2 hm
  have hlt1 := tnE_le (s := s) _ f0 rfl hf2.2
  rw [hf1] at HF
  generalize hn0 : tnE s f0 = n0 at *
  have HnE := Aside0.mk hnE
  have Hf1 := Aside0.mk hf1
  clear hnE hf1 hn0
  have hx1 := bt_at s (k + 1)
  by_cases c2 : k + 1 < (s.size : Int) ∧ bt s (k + 1) = 47
  · have hf0 : f0 = k + 1 + 1 := by rw [← Hf1.out]; unfold tagFrom; rw [if_pos c2]
    obtain ⟨d1, d2⟩ := c2
    have d2b : (bt s (k + 1) == 47) = true := beq_iff_eq.mpr d2
    subst hf0
    clear d2
    have p8 : (0 ≤ k + 1) = True := eq_true (by omega)
    have q8 := eq_true d1
    go_enter Try.func11, Try.ntmps11
    go_wp2_with (first | (go_at_call 48; (with_reducible refine (impl_inRange.calls k 0 ((s.size : Int) - 1) true _ hin).mono ?_); rintro r w1 ⟨rfl, HD1⟩) | (go_at_call 49; (with_reducible refine (impl_nameEnd.calls _ s (k + 1 + 1) n0 _ HnE.out).mono ?_); rintro r w2 ⟨rfl, HD2⟩))
    clear p8 q8
    have hB2 : Below w.heap.size w w2 := by obtain ⟨n, rfl⟩ := HD2; exact pw_below_drewN HD1.below n
    have HS := Aside0.mk (IsS58.new w w2 s n0 true false hB2)
    have HBS := Aside0.mk (below_alloc hB2 (.cells #[.string s, .int .i64 n0, .bool true, .bool false] 58))
    clear hB2 HD1 HD2 p7 q7 hx hx1 c1b
    go_loopg [] (s.size + 1) (fun kq wr => ∃ (j : Int) (sl : Bool), Aside0 (tagL kq s j sl = some r) ∧ Aside0 (IsS58 w wr w2.heap.size s j true sl) ∧ Aside0 (Below w.heap.size w wr))
    case atStart => exact ⟨n0, false, HF, HS, HBS⟩
    case round =>
      clear HF HS HBS
      obtain ⟨j, sl, HA, HS, HBS⟩ := hrel
      cases gk with
      | zero => exact absurd HA.out (by simp [tagL])
      | succ n =>
      have H := HA.out
      clear HA
      simp only [tagL] at H
      split at H
      case isFalse => cases H
      case isTrue hg =>
      obtain ⟨j0, j1, _⟩ := hg
      obtain ⟨a1, a2⟩ := sepF_le (s := s) (e := true) _ j sl rfl j1
      have hsep : impl_tagger_separators.f s j true sl = some (s, (sepF s true j sl).1, true, (sepF s true j sl).2) := by
        unfold impl_tagger_separators.f; rw [if_pos ⟨j0, j1, hm⟩]
      generalize hja : (sepF s true j sl).1 = ja at *
      generalize hsa : (sepF s true j sl).2 = sa at *
      have Hsep := Aside0.mk hsep
      have HH := Aside0.mk H
      clear hsep hja hsa H
      have ja0 : 0 ≤ ja := by omega
      go_wp2_with ((go_at_call 50; (with_reducible refine (impl_tagger_separators.calls w2.heap.size s j true sl s ja true sa w _ HS.out HBS.out Hsep.out).mono ?_); rintro r w4 ⟨rfl, hi, hb, hk⟩))
      have HI4 := Aside0.mk hi
      have HB4 := Aside0.mk hb
      clear hi hb hk HS HBS
      by_cases co : ovr s ja true = true
      · have H := HH.out
        rw [if_pos co] at H
        by_cases cz : ja ≥ (s.size : Int)
        · rw [if_pos cz] at H
          obtain rfl := Option.some.inj H
          have cz' : decide ((s.size : Int) ≤ ja) = true := decide_eq_true cz
          clear cz H
          go_wp2_with ((go_at_call 51; (refine (isOver_any w2.heap.size s ja true sa w _ ?_ ja0).mono ?_); exact HI4.out; rintro r w5 ⟨rfl, HD5⟩; rw [co]; have HI5 : Aside0 (IsS58 w w5 w2.heap.size s ja true sa) := ⟨by obtain ⟨n, hn⟩ := HD5; rw [hn]; exact HI4.out.drewN n⟩; have HB5 : Aside0 (Below w.heap.size w w5) := ⟨by obtain ⟨n, hn⟩ := HD5; rw [hn]; exact pw_below_drewN HB4.out n⟩; clear HD5 HI4 HB4; obtain ⟨hc0, hc1, hc2, hc3, hf0, hf1, hf2, hf3⟩ := tagger_cells HI5.out))
          go_ret
          exact ⟨rfl, HB5.out⟩
        · rw [if_neg cz] at H
          obtain rfl := Option.some.inj H
          have cz' : decide ((s.size : Int) ≤ ja) = false := decide_eq_false cz
          clear cz H
          go_wp2_with ((go_at_call 51; (refine (isOver_any w2.heap.size s ja true sa w _ ?_ ja0).mono ?_); exact HI4.out; rintro r w5 ⟨rfl, HD5⟩; rw [co]; have HI5 : Aside0 (IsS58 w w5 w2.heap.size s ja true sa) := ⟨by obtain ⟨n, hn⟩ := HD5; rw [hn]; exact HI4.out.drewN n⟩; have HB5 : Aside0 (Below w.heap.size w w5) := ⟨by obtain ⟨n, hn⟩ := HD5; rw [hn]; exact pw_below_drewN HB4.out n⟩; clear HD5 HI4 HB4; obtain ⟨hc0, hc1, hc2, hc3, hf0, hf1, hf2, hf3⟩ := tagger_cells HI5.out))
          go_ret
          exact ⟨rfl, HB5.out⟩
      · replace co : ovr s ja true = false := by simpa using co
        have H := HH.out
        rw [if_neg (by rw [co]; simp)] at H
        obtain ⟨v, hv, H⟩ := Option.bind_eq_some_iff.mp H
        have Hv := Aside0.mk hv
        have HH2 := Aside0.mk H
        clear HH H hv
        obtain ⟨v1, ok, s', k', e', sl'⟩ := v
        have Hn := Aside0.mk (name_f s ja true sa ja0 a2 hm)
        generalize nmF s true ja ja = jn at *
        cases ok with
        | false =>
          have H := HH2.out
          rw [if_neg (by simp)] at H
          obtain rfl := Option.some.inj H
          clear HH2 H
          go_wp2_with (first | (go_at_call 51; (refine (isOver_any w2.heap.size s ja true sa w _ ?_ ja0).mono ?_); exact HI4.out; rintro r w5 ⟨rfl, ⟨n5, rfl⟩⟩; rw [co]) | (go_at_call 52; (refine (impl_tagger_name.calls _ w2.heap.size s ja true sa _ s jn true sa w _ ?_ ?_ Hn.out).mono ?_); exact HI4.out.drewN _; exact pw_below_drewN HB4.out _; rintro r w6 ⟨rfl, hi6, hb6, hk6⟩) | (go_at_call 53; (with_reducible refine (impl_tagger_value.calls w2.heap.size s jn true sa v1 false s' k' e' sl' w _ hi6 hb6 Hv.out).mono ?_); rintro r w7 ⟨rfl, hi7, hb7, hk7⟩))
          go_ret
          exact ⟨rfl, hb7⟩
        | true =>
          have H := HH2.out
          rw [if_pos rfl] at H
          split at H
          case isFalse => cases H
          case isTrue hg =>
          obtain ⟨hg1, hg2⟩ : s' = s ∧ e' = true := hg
          replace hg1 := hg1.symm
          replace hg2 := hg2.symm
          subst hg1 hg2
          have HH3 := Aside0.mk H
          clear HH2 H
          go_wp2_with (first | (go_at_call 51; (refine (isOver_any w2.heap.size s ja true sa w _ ?_ ja0).mono ?_); exact HI4.out; rintro r w5 ⟨rfl, ⟨n5, rfl⟩⟩; rw [co]) | (go_at_call 52; (refine (impl_tagger_name.calls _ w2.heap.size s ja true sa _ s jn true sa w _ ?_ ?_ Hn.out).mono ?_); exact HI4.out.drewN _; exact pw_below_drewN HB4.out _; rintro r w6 ⟨rfl, hi6, hb6, hk6⟩) | (go_at_call 53; (with_reducible refine (impl_tagger_value.calls w2.heap.size s jn true sa v1 true s k' true sl' w _ hi6 hb6 Hv.out).mono ?_); rintro r w7 ⟨rfl, hi7, hb7, hk7⟩))
          go_roundg n
          case measure => omega
          case rel => exact ⟨k', sl', HH3, ⟨hi7⟩, ⟨hb7⟩⟩
  have hf0 : f0 = k + 1 := by rw [← Hf1.out]; unfold tagFrom; rw [if_neg c2]
  subst hf0
  by_cases d1 : k + 1 < (s.size : Int)
  · have d2 : ¬ bt s (k + 1) = 47 := fun h => c2 ⟨d1, h⟩
    have d2b : (bt s (k + 1) == 47) = false := beq_eq_false_iff_ne.mpr d2
    clear d2 c2
    have p8 : (0 ≤ k + 1) = True := eq_true (by omega)
    have q8 := eq_true d1
    go_enter Try.func11, Try.ntmps11
    go_wp2_with (first | (go_at_call 48; (with_reducible refine (impl_inRange.calls k 0 ((s.size : Int) - 1) true _ hin).mono ?_); rintro r w1 ⟨rfl, HD1⟩) | (go_at_call 49; (with_reducible refine (impl_nameEnd.calls _ s (k + 1) n0 _ HnE.out).mono ?_); rintro r w2 ⟨rfl, HD2⟩))
    clear p8 q8
    have hB2 : Below w.heap.size w w2 := by obtain ⟨n, rfl⟩ := HD2; exact pw_below_drewN HD1.below n
    have HS := Aside0.mk (IsS58.new w w2 s n0 true false hB2)
    have HBS := Aside0.mk (below_alloc hB2 (.cells #[.string s, .int .i64 n0, .bool true, .bool false] 58))
    clear hB2 HD1 HD2 p7 q7 hx hx1 c1b
    go_loopg [] (s.size + 1) (fun kq wr => ∃ (j : Int) (sl : Bool), Aside0 (tagL kq s j sl = some r) ∧ Aside0 (IsS58 w wr w2.heap.size s j true sl) ∧ Aside0 (Below w.heap.size w wr))
    case atStart => exact ⟨n0, false, HF, HS, HBS⟩
    case round =>
      clear HF HS HBS
      obtain ⟨j, sl, HA, HS, HBS⟩ := hrel
      cases gk with
      | zero => exact absurd HA.out (by simp [tagL])
      | succ n =>
      have H := HA.out
      clear HA
      simp only [tagL] at H
      split at H
      case isFalse => cases H
      case isTrue hg =>
      obtain ⟨j0, j1, _⟩ := hg
      obtain ⟨a1, a2⟩ := sepF_le (s := s) (e := true) _ j sl rfl j1
      have hsep : impl_tagger_separators.f s j true sl = some (s, (sepF s true j sl).1, true, (sepF s true j sl).2) := by
        unfold impl_tagger_separators.f; rw [if_pos ⟨j0, j1, hm⟩]
      generalize hja : (sepF s true j sl).1 = ja at *
      generalize hsa : (sepF s true j sl).2 = sa at *
      have Hsep := Aside0.mk hsep
      have HH := Aside0.mk H
      clear hsep hja hsa H
      have ja0 : 0 ≤ ja := by omega
      go_wp2_with ((go_at_call 50; (with_reducible refine (impl_tagger_separators.calls w2.heap.size s j true sl s ja true sa w _ HS.out HBS.out Hsep.out).mono ?_); rintro r w4 ⟨rfl, hi, hb, hk⟩))
      have HI4 := Aside0.mk hi
      have HB4 := Aside0.mk hb
      clear hi hb hk HS HBS
      by_cases co : ovr s ja true = true
      · have H := HH.out
        rw [if_pos co] at H
        by_cases cz : ja ≥ (s.size : Int)
        · rw [if_pos cz] at H
          obtain rfl := Option.some.inj H
          have cz' : decide ((s.size : Int) ≤ ja) = true := decide_eq_true cz
          clear cz H
          go_wp2_with ((go_at_call 51; (refine (isOver_any w2.heap.size s ja true sa w _ ?_ ja0).mono ?_); exact HI4.out; rintro r w5 ⟨rfl, HD5⟩; rw [co]; have HI5 : Aside0 (IsS58 w w5 w2.heap.size s ja true sa) := ⟨by obtain ⟨n, hn⟩ := HD5; rw [hn]; exact HI4.out.drewN n⟩; have HB5 : Aside0 (Below w.heap.size w w5) := ⟨by obtain ⟨n, hn⟩ := HD5; rw [hn]; exact pw_below_drewN HB4.out n⟩; clear HD5 HI4 HB4; obtain ⟨hc0, hc1, hc2, hc3, hf0, hf1, hf2, hf3⟩ := tagger_cells HI5.out))
          go_ret
          exact ⟨rfl, HB5.out⟩
        · rw [if_neg cz] at H
          obtain rfl := Option.some.inj H
          have cz' : decide ((s.size : Int) ≤ ja) = false := decide_eq_false cz
          clear cz H
          go_wp2_with ((go_at_call 51; (refine (isOver_any w2.heap.size s ja true sa w _ ?_ ja0).mono ?_); exact HI4.out; rintro r w5 ⟨rfl, HD5⟩; rw [co]; have HI5 : Aside0 (IsS58 w w5 w2.heap.size s ja true sa) := ⟨by obtain ⟨n, hn⟩ := HD5; rw [hn]; exact HI4.out.drewN n⟩; have HB5 : Aside0 (Below w.heap.size w w5) := ⟨by obtain ⟨n, hn⟩ := HD5; rw [hn]; exact pw_below_drewN HB4.out n⟩; clear HD5 HI4 HB4; obtain ⟨hc0, hc1, hc2, hc3, hf0, hf1, hf2, hf3⟩ := tagger_cells HI5.out))
          go_ret
          exact ⟨rfl, HB5.out⟩
      · replace co : ovr s ja true = false := by simpa using co
        have H := HH.out
        rw [if_neg (by rw [co]; simp)] at H
        obtain ⟨v, hv, H⟩ := Option.bind_eq_some_iff.mp H
        have Hv := Aside0.mk hv
        have HH2 := Aside0.mk H
        clear HH H hv
        obtain ⟨v1, ok, s', k', e', sl'⟩ := v
        have Hn := Aside0.mk (name_f s ja true sa ja0 a2 hm)
        generalize nmF s true ja ja = jn at *
        cases ok with
        | false =>
          have H := HH2.out
          rw [if_neg (by simp)] at H
          obtain rfl := Option.some.inj H
          clear HH2 H
          go_wp2_with (first | (go_at_call 51; (refine (isOver_any w2.heap.size s ja true sa w _ ?_ ja0).mono ?_); exact HI4.out; rintro r w5 ⟨rfl, ⟨n5, rfl⟩⟩; rw [co]) | (go_at_call 52; (refine (impl_tagger_name.calls _ w2.heap.size s ja true sa _ s jn true sa w _ ?_ ?_ Hn.out).mono ?_); exact HI4.out.drewN _; exact pw_below_drewN HB4.out _; rintro r w6 ⟨rfl, hi6, hb6, hk6⟩) | (go_at_call 53; (with_reducible refine (impl_tagger_value.calls w2.heap.size s jn true sa v1 false s' k' e' sl' w _ hi6 hb6 Hv.out).mono ?_); rintro r w7 ⟨rfl, hi7, hb7, hk7⟩))
          go_ret
          exact ⟨rfl, hb7⟩
        | true =>
          have H := HH2.out
          rw [if_pos rfl] at H
          split at H
          case isFalse => cases H
          case isTrue hg =>
          obtain ⟨hg1, hg2⟩ : s' = s ∧ e' = true := hg
          replace hg1 := hg1.symm
          replace hg2 := hg2.symm
          subst hg1 hg2
          have HH3 := Aside0.mk H
          clear HH2 H
          go_wp2_with (first | (go_at_call 51; (refine (isOver_any w2.heap.size s ja true sa w _ ?_ ja0).mono ?_); exact HI4.out; rintro r w5 ⟨rfl, ⟨n5, rfl⟩⟩; rw [co]) | (go_at_call 52; (refine (impl_tagger_name.calls _ w2.heap.size s ja true sa _ s jn true sa w _ ?_ ?_ Hn.out).mono ?_); exact HI4.out.drewN _; exact pw_below_drewN HB4.out _; rintro r w6 ⟨rfl, hi6, hb6, hk6⟩) | (go_at_call 53; (with_reducible refine (impl_tagger_value.calls w2.heap.size s jn true sa v1 true s k' true sl' w _ hi6 hb6 Hv.out).mono ?_); rintro r w7 ⟨rfl, hi7, hb7, hk7⟩))
          go_roundg n
          case measure => omega
          case rel => exact ⟨k', sl', HH3, ⟨hi7⟩, ⟨hb7⟩⟩
  · clear c2
    have d1b : decide (k + 1 < (s.size : Int)) = false := decide_eq_false d1
    go_enter Try.func11, Try.ntmps11
    go_wp2_with (first | (go_at_call 48; (with_reducible refine (impl_inRange.calls k 0 ((s.size : Int) - 1) true _ hin).mono ?_); rintro r w1 ⟨rfl, HD1⟩) | (go_at_call 49; (with_reducible refine (impl_nameEnd.calls _ s (k + 1) n0 _ HnE.out).mono ?_); rintro r w2 ⟨rfl, HD2⟩))
    have hB2 : Below w.heap.size w w2 := by obtain ⟨n, rfl⟩ := HD2; exact pw_below_drewN HD1.below n
    have HS := Aside0.mk (IsS58.new w w2 s n0 true false hB2)
    have HBS := Aside0.mk (below_alloc hB2 (.cells #[.string s, .int .i64 n0, .bool true, .bool false] 58))
    clear hB2 HD1 HD2 p7 q7 hx hx1 c1b
    go_loopg [] (s.size + 1) (fun kq wr => ∃ (j : Int) (sl : Bool), Aside0 (tagL kq s j sl = some r) ∧ Aside0 (IsS58 w wr w2.heap.size s j true sl) ∧ Aside0 (Below w.heap.size w wr))
    case atStart => exact ⟨n0, false, HF, HS, HBS⟩
    case round =>
      clear HF HS HBS
      obtain ⟨j, sl, HA, HS, HBS⟩ := hrel
      cases gk with
      | zero => exact absurd HA.out (by simp [tagL])
      | succ n =>
      have H := HA.out
      clear HA
      simp only [tagL] at H
      split at H
      case isFalse => cases H
      case isTrue hg =>
      obtain ⟨j0, j1, _⟩ := hg
      obtain ⟨a1, a2⟩ := sepF_le (s := s) (e := true) _ j sl rfl j1
      have hsep : impl_tagger_separators.f s j true sl = some (s, (sepF s true j sl).1, true, (sepF s true j sl).2) := by
        unfold impl_tagger_separators.f; rw [if_pos ⟨j0, j1, hm⟩]
      generalize hja : (sepF s true j sl).1 = ja at *
      generalize hsa : (sepF s true j sl).2 = sa at *
      have Hsep := Aside0.mk hsep
      have HH := Aside0.mk H
      clear hsep hja hsa H
      have ja0 : 0 ≤ ja := by omega
      go_wp2_with ((go_at_call 50; (with_reducible refine (impl_tagger_separators.calls w2.heap.size s j true sl s ja true sa w _ HS.out HBS.out Hsep.out).mono ?_); rintro r w4 ⟨rfl, hi, hb, hk⟩))
      have HI4 := Aside0.mk hi
      have HB4 := Aside0.mk hb
      clear hi hb hk HS HBS
      by_cases co : ovr s ja true = true
      · have H := HH.out
        rw [if_pos co] at H
        by_cases cz : ja ≥ (s.size : Int)
        · rw [if_pos cz] at H
          obtain rfl := Option.some.inj H
          have cz' : decide ((s.size : Int) ≤ ja) = true := decide_eq_true cz
          clear cz H
          go_wp2_with ((go_at_call 51; (refine (isOver_any w2.heap.size s ja true sa w _ ?_ ja0).mono ?_); exact HI4.out; rintro r w5 ⟨rfl, HD5⟩; rw [co]; have HI5 : Aside0 (IsS58 w w5 w2.heap.size s ja true sa) := ⟨by obtain ⟨n, hn⟩ := HD5; rw [hn]; exact HI4.out.drewN n⟩; have HB5 : Aside0 (Below w.heap.size w w5) := ⟨by obtain ⟨n, hn⟩ := HD5; rw [hn]; exact pw_below_drewN HB4.out n⟩; clear HD5 HI4 HB4; obtain ⟨hc0, hc1, hc2, hc3, hf0, hf1, hf2, hf3⟩ := tagger_cells HI5.out))
          go_ret
          exact ⟨rfl, HB5.out⟩
        · rw [if_neg cz] at H
          obtain rfl := Option.some.inj H
          have cz' : decide ((s.size : Int) ≤ ja) = false := decide_eq_false cz
          clear cz H
          go_wp2_with ((go_at_call 51; (refine (isOver_any w2.heap.size s ja true sa w _ ?_ ja0).mono ?_); exact HI4.out; rintro r w5 ⟨rfl, HD5⟩; rw [co]; have HI5 : Aside0 (IsS58 w w5 w2.heap.size s ja true sa) := ⟨by obtain ⟨n, hn⟩ := HD5; rw [hn]; exact HI4.out.drewN n⟩; have HB5 : Aside0 (Below w.heap.size w w5) := ⟨by obtain ⟨n, hn⟩ := HD5; rw [hn]; exact pw_below_drewN HB4.out n⟩; clear HD5 HI4 HB4; obtain ⟨hc0, hc1, hc2, hc3, hf0, hf1, hf2, hf3⟩ := tagger_cells HI5.out))
          go_ret
          exact ⟨rfl, HB5.out⟩
      · replace co : ovr s ja true = false := by simpa using co
        have H := HH.out
        rw [if_neg (by rw [co]; simp)] at H
        obtain ⟨v, hv, H⟩ := Option.bind_eq_some_iff.mp H
        have Hv := Aside0.mk hv
        have HH2 := Aside0.mk H
        clear HH H hv
        obtain ⟨v1, ok, s', k', e', sl'⟩ := v
        have Hn := Aside0.mk (name_f s ja true sa ja0 a2 hm)
        generalize nmF s true ja ja = jn at *
        cases ok with
        | false =>
          have H := HH2.out
          rw [if_neg (by simp)] at H
          obtain rfl := Option.some.inj H
          clear HH2 H
          go_wp2_with (first | (go_at_call 51; (refine (isOver_any w2.heap.size s ja true sa w _ ?_ ja0).mono ?_); exact HI4.out; rintro r w5 ⟨rfl, ⟨n5, rfl⟩⟩; rw [co]) | (go_at_call 52; (refine (impl_tagger_name.calls _ w2.heap.size s ja true sa _ s jn true sa w _ ?_ ?_ Hn.out).mono ?_); exact HI4.out.drewN _; exact pw_below_drewN HB4.out _; rintro r w6 ⟨rfl, hi6, hb6, hk6⟩) | (go_at_call 53; (with_reducible refine (impl_tagger_value.calls w2.heap.size s jn true sa v1 false s' k' e' sl' w _ hi6 hb6 Hv.out).mono ?_); rintro r w7 ⟨rfl, hi7, hb7, hk7⟩))
          go_ret
          exact ⟨rfl, hb7⟩
        | true =>
          have H := HH2.out
          rw [if_pos rfl] at H
          split at H
          case isFalse => cases H
          case isTrue hg =>
          obtain ⟨hg1, hg2⟩ : s' = s ∧ e' = true := hg
          replace hg1 := hg1.symm
          replace hg2 := hg2.symm
          subst hg1 hg2
          have HH3 := Aside0.mk H
          clear HH2 H
          go_wp2_with (first | (go_at_call 51; (refine (isOver_any w2.heap.size s ja true sa w _ ?_ ja0).mono ?_); exact HI4.out; rintro r w5 ⟨rfl, ⟨n5, rfl⟩⟩; rw [co]) | (go_at_call 52; (refine (impl_tagger_name.calls _ w2.heap.size s ja true sa _ s jn true sa w _ ?_ ?_ Hn.out).mono ?_); exact HI4.out.drewN _; exact pw_below_drewN HB4.out _; rintro r w6 ⟨rfl, hi6, hb6, hk6⟩) | (go_at_call 53; (with_reducible refine (impl_tagger_value.calls w2.heap.size s jn true sa v1 true s k' true sl' w _ hi6 hb6 Hv.out).mono ?_); rintro r w7 ⟨rfl, hi7, hb7, hk7⟩))
          go_roundg n
          case measure => omega
          case rel => exact ⟨k', sl', HH3, ⟨hi7⟩, ⟨hb7⟩⟩

end Go.Proofs.Ytlocaaebgghkbaa.A
