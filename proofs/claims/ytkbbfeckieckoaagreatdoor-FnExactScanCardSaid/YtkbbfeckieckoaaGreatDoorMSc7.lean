-- joined by wip/tools/shake.py
import Derived.Test.YtkbbfeckieckoaaGreatDoorVScW9
import Derived.Test.YtkbbfeckieckoaaGreatDoorMSc0
import Derived.Test.YtkbbfeckieckoaaGreatDoorMSc6
import Derived.Test.YtkbbfeckieckoaaGreatDoorMSc5
import Derived.Test.YtkbbfeckieckoaaGreatDoorMSc1
set_option maxHeartbeats 16000000
set_option maxRecDepth 100000
namespace Go.Proofs.YtkbbfeckieckoaaGreatDoor.A
open Go.RowKit Go.Proofs.YtkbbfeckieckoaaGreatDoorW.PrintWords Go.Proofs.YtkbbfeckieckoaaGreatDoorW.PrintLast Go.Proofs.YtkbbfeckieckoaaGreatDoorW.PrintMore
attribute [local go_sem] max2_int min2_int max_two min_two max_three min_three max_four min_four
set_option linter.unusedVariables false
set_option linter.unusedSimpArgs false
theorem nameEnd_l (s : BA) (hm : s.size ≤ 140737488351232) (d : Nat) : ∀ (k : Nat) (i : Int), 0 ≤ i → i ≤ s.size → ((s.size : Int) - i).toNat = d → d < k → impl_nameEnd.l0 k s i = some (tnE s i) := by
 induction d with
 | zero =>
  intro k i h0 h1 hd hk;obtain ⟨k, rfl⟩ : ∃ m, k = m + 1 := ⟨k - 1, om_⟩;simp only [impl_nameEnd.l0];rw [if_neg om_, tnE_stop (.inl om_)]
 | succ d ih =>
  intro k i h0 h1 hd hk;obtain ⟨k, rfl⟩ : ∃ m, k = m + 1 := ⟨k - 1, om_⟩;have hr := bt_range s i;simp only [impl_nameEnd.l0];rw [if_pos om_, if_pos h0, isBlankByte_f _ hr.1 hr.2];simp only [Option.bind_some];have hw : wrap64 (i + 1) = i + 1 := by unfold wrap64; omega
  by_cases c1 : blk (bt s i) = true
  ·rw [if_pos c1, tnE_stop (.inr (by simp [inTn, c1]))]
  rw [if_neg c1];have c1' : blk (bt s i) = false := by simpa using c1
  by_cases c2 : bt s i = 47
  ·rw [if_pos c2, tnE_stop (.inr (by simp [inTn, c2]))]
  rw [if_neg c2];by_cases c3 : bt s i = 62
  ·rw [if_pos c3, tnE_stop (.inr (by simp [inTn, c3]))]
  rw [if_neg c3, hw, tnE_go om_ (by simp [inTn, c1', c2, c3])];exact ih k (i + 1) om_ om_ om_ om_
theorem nameEnd_f (s : BA) (i : Int) (h0 : 0 ≤ i) (h1 : i ≤ s.size) (hm : s.size ≤ 140737488351232) :
  impl_nameEnd.f (((s.size : Int) - i).toNat + 1) s i = some (tnE s i) := by
 unfold impl_nameEnd.f;exact nameEnd_l s hm _ _ i h0 h1 rfl (Nat.lt_succ_self _)
def tagL : Nat → ByteArray → Int → Bool → Option Int
 | 0, _, _, _ => none
 | n + 1, s, k, sl =>
  if 0 ≤ k ∧ k ≤ s.size ∧ s.size ≤ 140737488351232 then
   if ovr s (sepF s true k sl).1 true = true then (if (sepF s true k sl).1 ≥ s.size then some (-1) else some (sepF s true k sl).1)
   else (impl_tagger_value.f s (nmF s true (sepF s true k sl).1 (sepF s true k sl).1) true (sepF s true k sl).2).bind fun v =>
    if v.2.1 = true then (if v.2.2.1 = s ∧ v.2.2.2.2.1 = true then tagL n s v.2.2.2.1 v.2.2.2.2.2 else none) else some (-1)
  else none
def tagFrom (s : BA) (k : Int) : Int := if k + 1 < (s.size : Int) ∧ bt s (k + 1) = 47 then k + 1 + 1 else k + 1
def impl_TagEnd.f (s : BA) (k : Int) : Option Int :=
 if 0 ≤ k ∧ k < s.size ∧ bt s k = 60 ∧ s.size ≤ 140737488351232 then tagL (s.size + 1) s (tnE s (tagFrom s k)) false
 else if s.size ≤ 140737488351232 then some (-1) else none
theorem impl_TagEnd.calls (s : BA) (k : Int) (r : Int) (w : World) (hF : impl_TagEnd.f s k = some r) :
  Calls Tryz.prog 109 #[.string s, .int .i64 k] w fun e w' => e = .returned (.int .i64 r) ∧ Below w.heap.size w w' := by
 have hm : s.size ≤ 140737488351232 := by
  unfold impl_TagEnd.f at hF;split at hF
  ·rename_i h; exact h.2.2.2
  ·split at hF
   ·rename_i h; exact h
   ·cases hF
 have hu := Tryz.underlying127;have hw1 : wrap64 ((s.size : Int) - 1) = (s.size : Int) - 1 := by unfold wrap64; omega
 by_cases h0 : 0 ≤ k ∧ k < s.size
 case neg =>
  have hr : r = -1 := by
   unfold impl_TagEnd.f at hF;rw [if_neg (fun h => h0 ⟨h.1, h.2.1⟩), if_pos hm] at hF;exact (sI_ hF).symm
  subst hr;have hin : impl_inRange.f k 0 ((s.size : Int) - 1) = some false := by
   unfold impl_inRange.f;by_cases hk : k ≥ 0
   ·rw [if_pos hk, dF_ om_]
   ·rw [if_neg hk]
  go_enter Tryz.func109, Tryz.ntmps109
  go_wp2_with ((go_at_call 144; (with_reducible refine (impl_inRange.calls k 0 ((s.size : Int) - 1) false _ hin).mono ?_); rintro r w' ⟨rfl, ⟨nd, rfl⟩⟩))
  go_ret
  exact ⟨rfl, bN9 (Below.refl _ _) _⟩
 obtain ⟨k0, k1⟩ := h0;have hin : impl_inRange.f k 0 ((s.size : Int) - 1) = some true := by
  unfold impl_inRange.f;rw [if_pos (show k ≥ 0 from k0), dE_ om_]
 have p7 := eq_true k0;have q7 := eq_true k1;have hx := bt_at s k;by_cases c1 : bt s k = 60
 case neg =>
  have hr : r = -1 := by
   unfold impl_TagEnd.f at hF;rw [if_neg (fun h => c1 h.2.2.1), if_pos hm] at hF;exact (sI_ hF).symm
  subst hr;have c1b : (bt s k != 60) = true := nN_ c1;clear c1 hF;go_enter Tryz.func109, Tryz.ntmps109
  go_wp2_with ((go_at_call 144; (with_reducible refine (impl_inRange.calls k 0 ((s.size : Int) - 1) true _ hin).mono ?_); rintro r w' ⟨rfl, ⟨nd, rfl⟩⟩))
  go_ret
  exact ⟨rfl, bN9 (Below.refl _ _) _⟩
 have c1b : (bt s k != 60) = false := by rw [c1]; rfl
 have HF : As9 (tagL (s.size + 1) s (tnE s (tagFrom s k)) false = some r) := ⟨by
  unfold impl_TagEnd.f at hF;rw [if_pos ⟨k0, k1, c1, hm⟩] at hF;exact hF⟩
 clear hF c1;obtain ⟨f0, hf1, hf2⟩ : ∃ f0, tagFrom s k = f0 ∧ k + 1 ≤ f0 ∧ f0 ≤ s.size := by
  refine ⟨_, rfl, ?_⟩;unfold tagFrom;split <;> omega
 have hnE := nameEnd_f s f0 om_ hf2.2 hm;have hlt1 := tnE_le (s := s) _ f0 rfl hf2.2;rw [hf1] at HF;generalize hn0 : tnE s f0 = n0 at *;have HnE := A_ hnE;have Hf1 := A_ hf1;clear hnE hf1 hn0;have hx1 := bt_at s (k + 1);by_cases c2 : k + 1 < (s.size : Int) ∧ bt s (k + 1) = 47
 ·have hf0 : f0 = k + 1 + 1 := by rw [← Hf1.out]; unfold tagFrom; rw [if_pos c2]
  obtain ⟨d1, d2⟩ := c2;have d2b : (bt s (k + 1) == 47) = true := bQ_ d2;subst hf0;clear d2;have p8 : (0 ≤ k + 1) = True := eq_true om_;have q8 := eq_true d1;go_enter Tryz.func109, Tryz.ntmps109
  go_wp2_with (first | (go_at_call 144; (with_reducible refine (impl_inRange.calls k 0 ((s.size : Int) - 1) true _ hin).mono ?_); rintro r w1 ⟨rfl, HD1⟩) | (go_at_call 110; (with_reducible refine (impl_nameEnd.calls _ s (k + 1 + 1) n0 _ HnE.out).mono ?_); rintro r w2 ⟨rfl, HD2⟩))
  clear p8 q8;have hB2 : Below w.heap.size w w2 := by obtain ⟨n, rfl⟩ := HD2; exact bN9 HD1.below n
  have HS := A_ (IsS127.new w w2 s n0 true false hB2);have HBS := A_ (bA9 hB2 (.cells #[.string s, .int .i64 n0, .bool true, .bool false] 127));clear hB2 HD1 HD2 p7 q7 hx hx1 c1b;go_loopg [] (s.size + 1) (fun kq wr => ∃ (j : Int) (sl : Bool), As9 (tagL kq s j sl = some r) ∧ As9 (IsS127 w wr w2.heap.size s j true sl) ∧ As9 (Below w.heap.size w wr))
  case atStart => exact ⟨n0, false, HF, HS, HBS⟩
  case round =>
   clear HF HS HBS;obtain ⟨j, sl, HA, HS, HBS⟩ := hrel;cases gk with
   | zero => exact absurd HA.out (by simp [tagL])
   | succ n =>
   have H := HA.out;clear HA;simp only [tagL] at H;split at H
   case isFalse => cases H
   case isTrue hg =>
   obtain ⟨j0, j1, _⟩ := hg;obtain ⟨a1, a2⟩ := sepF_le (s := s) (e := true) _ j sl rfl j1;have hsep : impl_tagger_separators.f s j true sl = some (s, (sepF s true j sl).1, true, (sepF s true j sl).2) := by
    unfold impl_tagger_separators.f; rw [if_pos ⟨j0, j1, hm⟩]
   generalize hja : (sepF s true j sl).1 = ja at *;generalize hsa : (sepF s true j sl).2 = sa at *;have Hsep := A_ hsep;have HH := A_ H;clear hsep hja hsa H;have ja0 : 0 ≤ ja := om_;go_wp2_with ((go_at_call 147; (with_reducible refine (impl_tagger_separators.calls w2.heap.size s j true sl s ja true sa w _ HS.out HBS.out Hsep.out).mono ?_); rintro r w4 ⟨rfl, hi, hb, hk⟩))
   have HI4 := A_ hi;have HB4 := A_ hb;clear hi hb hk HS HBS;by_cases co : ovr s ja true = true
   ·have H := HH.out;rw [if_pos co] at H;rcases ic_ H with ⟨cz, H⟩ | ⟨cz, H⟩
    ·obtain rfl := sI_ H;have cz' : decide ((s.size : Int) ≤ ja) = true := dE_ cz;clear cz H;go_wp2_with ((go_at_call 148; (refine (isOver_any w2.heap.size s ja true sa w _ ?_ ja0).mono ?_); exact HI4.out; rintro r w5 ⟨rfl, HD5⟩; rw [co]; have HI5 : As9 (IsS127 w w5 w2.heap.size s ja true sa) := ⟨by obtain ⟨n, hn⟩ := HD5; rw [hn]; exact HI4.out.drewN n⟩; have HB5 : As9 (Below w.heap.size w w5) := ⟨by obtain ⟨n, hn⟩ := HD5; rw [hn]; exact bN9 HB4.out n⟩; clear HD5 HI4 HB4; obtain ⟨hc0, hc1, hc2, hc3, hf0, hf1, hf2, hf3⟩ := tagger_cells HI5.out))
     go_ret
     exact ⟨rfl, HB5.out⟩
    ·obtain rfl := sI_ H;have cz' : decide ((s.size : Int) ≤ ja) = false := dF_ cz;clear cz H;go_wp2_with ((go_at_call 148; (refine (isOver_any w2.heap.size s ja true sa w _ ?_ ja0).mono ?_); exact HI4.out; rintro r w5 ⟨rfl, HD5⟩; rw [co]; have HI5 : As9 (IsS127 w w5 w2.heap.size s ja true sa) := ⟨by obtain ⟨n, hn⟩ := HD5; rw [hn]; exact HI4.out.drewN n⟩; have HB5 : As9 (Below w.heap.size w w5) := ⟨by obtain ⟨n, hn⟩ := HD5; rw [hn]; exact bN9 HB4.out n⟩; clear HD5 HI4 HB4; obtain ⟨hc0, hc1, hc2, hc3, hf0, hf1, hf2, hf3⟩ := tagger_cells HI5.out))
     go_ret
     exact ⟨rfl, HB5.out⟩
   ·replace co : ovr s ja true = false := by simpa using co
    have H := HH.out;rw [if_neg (by rw [co]; simp)] at H;obtain ⟨v, hv, H⟩ := oB_ H;have Hv := A_ hv;have HH2 := A_ H;clear HH H hv;obtain ⟨v1, ok, s', k', e', sl'⟩ := v;have Hn := A_ (name_f s ja true sa ja0 a2 hm);generalize nmF s true ja ja = jn at *;cases ok with
    | false =>
     have H := HH2.out;rw [if_neg si_] at H;obtain rfl := sI_ H;clear HH2 H;go_wp2_with (first | (go_at_call 148; (refine (isOver_any w2.heap.size s ja true sa w _ ?_ ja0).mono ?_); exact HI4.out; rintro r w5 ⟨rfl, ⟨n5, rfl⟩⟩; rw [co]) | (go_at_call 149; (refine (impl_tagger_name.calls _ w2.heap.size s ja true sa _ s jn true sa w _ ?_ ?_ Hn.out).mono ?_); exact HI4.out.drewN _; exact bN9 HB4.out _; rintro r w6 ⟨rfl, hi6, hb6, hk6⟩) | (go_at_call 150; (with_reducible refine (impl_tagger_value.calls w2.heap.size s jn true sa v1 false s' k' e' sl' w _ hi6 hb6 Hv.out).mono ?_); rintro r w7 ⟨rfl, hi7, hb7, hk7⟩))
     go_ret
     exact ⟨rfl, hb7⟩
    | true =>
     have H := HH2.out;rw [if_pos rfl] at H;split at H
     case isFalse => cases H
     case isTrue hg =>
     obtain ⟨hg1, hg2⟩ : s' = s ∧ e' = true := hg;replace hg1 := hg1.symm;replace hg2 := hg2.symm;subst hg1 hg2;have HH3 := A_ H;clear HH2 H;go_wp2_with (first | (go_at_call 148; (refine (isOver_any w2.heap.size s ja true sa w _ ?_ ja0).mono ?_); exact HI4.out; rintro r w5 ⟨rfl, ⟨n5, rfl⟩⟩; rw [co]) | (go_at_call 149; (refine (impl_tagger_name.calls _ w2.heap.size s ja true sa _ s jn true sa w _ ?_ ?_ Hn.out).mono ?_); exact HI4.out.drewN _; exact bN9 HB4.out _; rintro r w6 ⟨rfl, hi6, hb6, hk6⟩) | (go_at_call 150; (with_reducible refine (impl_tagger_value.calls w2.heap.size s jn true sa v1 true s k' true sl' w _ hi6 hb6 Hv.out).mono ?_); rintro r w7 ⟨rfl, hi7, hb7, hk7⟩))
     go_roundg n
     case measure => omega
     case rel => exact ⟨k', sl', HH3, ⟨hi7⟩, ⟨hb7⟩⟩
 have hf0 : f0 = k + 1 := by rw [← Hf1.out]; unfold tagFrom; rw [if_neg c2]
 subst hf0;by_cases d1 : k + 1 < (s.size : Int)
 ·have d2 : ¬ bt s (k + 1) = 47 := fun h => c2 ⟨d1, h⟩
  have d2b : (bt s (k + 1) == 47) = false := bN_ d2;clear d2 c2;have p8 : (0 ≤ k + 1) = True := eq_true om_;have q8 := eq_true d1;go_enter Tryz.func109, Tryz.ntmps109
  go_wp2_with (first | (go_at_call 144; (with_reducible refine (impl_inRange.calls k 0 ((s.size : Int) - 1) true _ hin).mono ?_); rintro r w1 ⟨rfl, HD1⟩) | (go_at_call 110; (with_reducible refine (impl_nameEnd.calls _ s (k + 1) n0 _ HnE.out).mono ?_); rintro r w2 ⟨rfl, HD2⟩))
  clear p8 q8;have hB2 : Below w.heap.size w w2 := by obtain ⟨n, rfl⟩ := HD2; exact bN9 HD1.below n
  have HS := A_ (IsS127.new w w2 s n0 true false hB2);have HBS := A_ (bA9 hB2 (.cells #[.string s, .int .i64 n0, .bool true, .bool false] 127));clear hB2 HD1 HD2 p7 q7 hx hx1 c1b;go_loopg [] (s.size + 1) (fun kq wr => ∃ (j : Int) (sl : Bool), As9 (tagL kq s j sl = some r) ∧ As9 (IsS127 w wr w2.heap.size s j true sl) ∧ As9 (Below w.heap.size w wr))
  case atStart => exact ⟨n0, false, HF, HS, HBS⟩
  case round =>
   clear HF HS HBS;obtain ⟨j, sl, HA, HS, HBS⟩ := hrel;cases gk with
   | zero => exact absurd HA.out (by simp [tagL])
   | succ n =>
   have H := HA.out;clear HA;simp only [tagL] at H;split at H
   case isFalse => cases H
   case isTrue hg =>
   obtain ⟨j0, j1, _⟩ := hg;obtain ⟨a1, a2⟩ := sepF_le (s := s) (e := true) _ j sl rfl j1;have hsep : impl_tagger_separators.f s j true sl = some (s, (sepF s true j sl).1, true, (sepF s true j sl).2) := by
    unfold impl_tagger_separators.f; rw [if_pos ⟨j0, j1, hm⟩]
   generalize hja : (sepF s true j sl).1 = ja at *;generalize hsa : (sepF s true j sl).2 = sa at *;have Hsep := A_ hsep;have HH := A_ H;clear hsep hja hsa H;have ja0 : 0 ≤ ja := om_;go_wp2_with ((go_at_call 147; (with_reducible refine (impl_tagger_separators.calls w2.heap.size s j true sl s ja true sa w _ HS.out HBS.out Hsep.out).mono ?_); rintro r w4 ⟨rfl, hi, hb, hk⟩))
   have HI4 := A_ hi;have HB4 := A_ hb;clear hi hb hk HS HBS;by_cases co : ovr s ja true = true
   ·have H := HH.out;rw [if_pos co] at H;rcases ic_ H with ⟨cz, H⟩ | ⟨cz, H⟩
    ·obtain rfl := sI_ H;have cz' : decide ((s.size : Int) ≤ ja) = true := dE_ cz;clear cz H;go_wp2_with ((go_at_call 148; (refine (isOver_any w2.heap.size s ja true sa w _ ?_ ja0).mono ?_); exact HI4.out; rintro r w5 ⟨rfl, HD5⟩; rw [co]; have HI5 : As9 (IsS127 w w5 w2.heap.size s ja true sa) := ⟨by obtain ⟨n, hn⟩ := HD5; rw [hn]; exact HI4.out.drewN n⟩; have HB5 : As9 (Below w.heap.size w w5) := ⟨by obtain ⟨n, hn⟩ := HD5; rw [hn]; exact bN9 HB4.out n⟩; clear HD5 HI4 HB4; obtain ⟨hc0, hc1, hc2, hc3, hf0, hf1, hf2, hf3⟩ := tagger_cells HI5.out))
     go_ret
     exact ⟨rfl, HB5.out⟩
    ·obtain rfl := sI_ H;have cz' : decide ((s.size : Int) ≤ ja) = false := dF_ cz;clear cz H;go_wp2_with ((go_at_call 148; (refine (isOver_any w2.heap.size s ja true sa w _ ?_ ja0).mono ?_); exact HI4.out; rintro r w5 ⟨rfl, HD5⟩; rw [co]; have HI5 : As9 (IsS127 w w5 w2.heap.size s ja true sa) := ⟨by obtain ⟨n, hn⟩ := HD5; rw [hn]; exact HI4.out.drewN n⟩; have HB5 : As9 (Below w.heap.size w w5) := ⟨by obtain ⟨n, hn⟩ := HD5; rw [hn]; exact bN9 HB4.out n⟩; clear HD5 HI4 HB4; obtain ⟨hc0, hc1, hc2, hc3, hf0, hf1, hf2, hf3⟩ := tagger_cells HI5.out))
     go_ret
     exact ⟨rfl, HB5.out⟩
   ·replace co : ovr s ja true = false := by simpa using co
    have H := HH.out;rw [if_neg (by rw [co]; simp)] at H;obtain ⟨v, hv, H⟩ := oB_ H;have Hv := A_ hv;have HH2 := A_ H;clear HH H hv;obtain ⟨v1, ok, s', k', e', sl'⟩ := v;have Hn := A_ (name_f s ja true sa ja0 a2 hm);generalize nmF s true ja ja = jn at *;cases ok with
    | false =>
     have H := HH2.out;rw [if_neg si_] at H;obtain rfl := sI_ H;clear HH2 H;go_wp2_with (first | (go_at_call 148; (refine (isOver_any w2.heap.size s ja true sa w _ ?_ ja0).mono ?_); exact HI4.out; rintro r w5 ⟨rfl, ⟨n5, rfl⟩⟩; rw [co]) | (go_at_call 149; (refine (impl_tagger_name.calls _ w2.heap.size s ja true sa _ s jn true sa w _ ?_ ?_ Hn.out).mono ?_); exact HI4.out.drewN _; exact bN9 HB4.out _; rintro r w6 ⟨rfl, hi6, hb6, hk6⟩) | (go_at_call 150; (with_reducible refine (impl_tagger_value.calls w2.heap.size s jn true sa v1 false s' k' e' sl' w _ hi6 hb6 Hv.out).mono ?_); rintro r w7 ⟨rfl, hi7, hb7, hk7⟩))
     go_ret
     exact ⟨rfl, hb7⟩
    | true =>
     have H := HH2.out;rw [if_pos rfl] at H;split at H
     case isFalse => cases H
     case isTrue hg =>
     obtain ⟨hg1, hg2⟩ : s' = s ∧ e' = true := hg;replace hg1 := hg1.symm;replace hg2 := hg2.symm;subst hg1 hg2;have HH3 := A_ H;clear HH2 H;go_wp2_with (first | (go_at_call 148; (refine (isOver_any w2.heap.size s ja true sa w _ ?_ ja0).mono ?_); exact HI4.out; rintro r w5 ⟨rfl, ⟨n5, rfl⟩⟩; rw [co]) | (go_at_call 149; (refine (impl_tagger_name.calls _ w2.heap.size s ja true sa _ s jn true sa w _ ?_ ?_ Hn.out).mono ?_); exact HI4.out.drewN _; exact bN9 HB4.out _; rintro r w6 ⟨rfl, hi6, hb6, hk6⟩) | (go_at_call 150; (with_reducible refine (impl_tagger_value.calls w2.heap.size s jn true sa v1 true s k' true sl' w _ hi6 hb6 Hv.out).mono ?_); rintro r w7 ⟨rfl, hi7, hb7, hk7⟩))
     go_roundg n
     case measure => omega
     case rel => exact ⟨k', sl', HH3, ⟨hi7⟩, ⟨hb7⟩⟩
 ·clear c2;have d1b : decide (k + 1 < (s.size : Int)) = false := dF_ d1;go_enter Tryz.func109, Tryz.ntmps109
  go_wp2_with (first | (go_at_call 144; (with_reducible refine (impl_inRange.calls k 0 ((s.size : Int) - 1) true _ hin).mono ?_); rintro r w1 ⟨rfl, HD1⟩) | (go_at_call 110; (with_reducible refine (impl_nameEnd.calls _ s (k + 1) n0 _ HnE.out).mono ?_); rintro r w2 ⟨rfl, HD2⟩))
  have hB2 : Below w.heap.size w w2 := by obtain ⟨n, rfl⟩ := HD2; exact bN9 HD1.below n
  have HS := A_ (IsS127.new w w2 s n0 true false hB2);have HBS := A_ (bA9 hB2 (.cells #[.string s, .int .i64 n0, .bool true, .bool false] 127));clear hB2 HD1 HD2 p7 q7 hx hx1 c1b;go_loopg [] (s.size + 1) (fun kq wr => ∃ (j : Int) (sl : Bool), As9 (tagL kq s j sl = some r) ∧ As9 (IsS127 w wr w2.heap.size s j true sl) ∧ As9 (Below w.heap.size w wr))
  case atStart => exact ⟨n0, false, HF, HS, HBS⟩
  case round =>
   clear HF HS HBS;obtain ⟨j, sl, HA, HS, HBS⟩ := hrel;cases gk with
   | zero => exact absurd HA.out (by simp [tagL])
   | succ n =>
   have H := HA.out;clear HA;simp only [tagL] at H;split at H
   case isFalse => cases H
   case isTrue hg =>
   obtain ⟨j0, j1, _⟩ := hg;obtain ⟨a1, a2⟩ := sepF_le (s := s) (e := true) _ j sl rfl j1;have hsep : impl_tagger_separators.f s j true sl = some (s, (sepF s true j sl).1, true, (sepF s true j sl).2) := by
    unfold impl_tagger_separators.f; rw [if_pos ⟨j0, j1, hm⟩]
   generalize hja : (sepF s true j sl).1 = ja at *;generalize hsa : (sepF s true j sl).2 = sa at *;have Hsep := A_ hsep;have HH := A_ H;clear hsep hja hsa H;have ja0 : 0 ≤ ja := om_;go_wp2_with ((go_at_call 147; (with_reducible refine (impl_tagger_separators.calls w2.heap.size s j true sl s ja true sa w _ HS.out HBS.out Hsep.out).mono ?_); rintro r w4 ⟨rfl, hi, hb, hk⟩))
   have HI4 := A_ hi;have HB4 := A_ hb;clear hi hb hk HS HBS;by_cases co : ovr s ja true = true
   ·have H := HH.out;rw [if_pos co] at H;rcases ic_ H with ⟨cz, H⟩ | ⟨cz, H⟩
    ·obtain rfl := sI_ H;have cz' : decide ((s.size : Int) ≤ ja) = true := dE_ cz;clear cz H;go_wp2_with ((go_at_call 148; (refine (isOver_any w2.heap.size s ja true sa w _ ?_ ja0).mono ?_); exact HI4.out; rintro r w5 ⟨rfl, HD5⟩; rw [co]; have HI5 : As9 (IsS127 w w5 w2.heap.size s ja true sa) := ⟨by obtain ⟨n, hn⟩ := HD5; rw [hn]; exact HI4.out.drewN n⟩; have HB5 : As9 (Below w.heap.size w w5) := ⟨by obtain ⟨n, hn⟩ := HD5; rw [hn]; exact bN9 HB4.out n⟩; clear HD5 HI4 HB4; obtain ⟨hc0, hc1, hc2, hc3, hf0, hf1, hf2, hf3⟩ := tagger_cells HI5.out))
     go_ret
     exact ⟨rfl, HB5.out⟩
    ·obtain rfl := sI_ H;have cz' : decide ((s.size : Int) ≤ ja) = false := dF_ cz;clear cz H;go_wp2_with ((go_at_call 148; (refine (isOver_any w2.heap.size s ja true sa w _ ?_ ja0).mono ?_); exact HI4.out; rintro r w5 ⟨rfl, HD5⟩; rw [co]; have HI5 : As9 (IsS127 w w5 w2.heap.size s ja true sa) := ⟨by obtain ⟨n, hn⟩ := HD5; rw [hn]; exact HI4.out.drewN n⟩; have HB5 : As9 (Below w.heap.size w w5) := ⟨by obtain ⟨n, hn⟩ := HD5; rw [hn]; exact bN9 HB4.out n⟩; clear HD5 HI4 HB4; obtain ⟨hc0, hc1, hc2, hc3, hf0, hf1, hf2, hf3⟩ := tagger_cells HI5.out))
     go_ret
     exact ⟨rfl, HB5.out⟩
   ·replace co : ovr s ja true = false := by simpa using co
    have H := HH.out;rw [if_neg (by rw [co]; simp)] at H;obtain ⟨v, hv, H⟩ := oB_ H;have Hv := A_ hv;have HH2 := A_ H;clear HH H hv;obtain ⟨v1, ok, s', k', e', sl'⟩ := v;have Hn := A_ (name_f s ja true sa ja0 a2 hm);generalize nmF s true ja ja = jn at *;cases ok with
    | false =>
     have H := HH2.out;rw [if_neg si_] at H;obtain rfl := sI_ H;clear HH2 H;go_wp2_with (first | (go_at_call 148; (refine (isOver_any w2.heap.size s ja true sa w _ ?_ ja0).mono ?_); exact HI4.out; rintro r w5 ⟨rfl, ⟨n5, rfl⟩⟩; rw [co]) | (go_at_call 149; (refine (impl_tagger_name.calls _ w2.heap.size s ja true sa _ s jn true sa w _ ?_ ?_ Hn.out).mono ?_); exact HI4.out.drewN _; exact bN9 HB4.out _; rintro r w6 ⟨rfl, hi6, hb6, hk6⟩) | (go_at_call 150; (with_reducible refine (impl_tagger_value.calls w2.heap.size s jn true sa v1 false s' k' e' sl' w _ hi6 hb6 Hv.out).mono ?_); rintro r w7 ⟨rfl, hi7, hb7, hk7⟩))
     go_ret
     exact ⟨rfl, hb7⟩
    | true =>
     have H := HH2.out;rw [if_pos rfl] at H;split at H
     case isFalse => cases H
     case isTrue hg =>
     obtain ⟨hg1, hg2⟩ : s' = s ∧ e' = true := hg;replace hg1 := hg1.symm;replace hg2 := hg2.symm;subst hg1 hg2;have HH3 := A_ H;clear HH2 H;go_wp2_with (first | (go_at_call 148; (refine (isOver_any w2.heap.size s ja true sa w _ ?_ ja0).mono ?_); exact HI4.out; rintro r w5 ⟨rfl, ⟨n5, rfl⟩⟩; rw [co]) | (go_at_call 149; (refine (impl_tagger_name.calls _ w2.heap.size s ja true sa _ s jn true sa w _ ?_ ?_ Hn.out).mono ?_); exact HI4.out.drewN _; exact bN9 HB4.out _; rintro r w6 ⟨rfl, hi6, hb6, hk6⟩) | (go_at_call 150; (with_reducible refine (impl_tagger_value.calls w2.heap.size s jn true sa v1 true s k' true sl' w _ hi6 hb6 Hv.out).mono ?_); rintro r w7 ⟨rfl, hi7, hb7, hk7⟩))
     go_roundg n
     case measure => omega
     case rel => exact ⟨k', sl', HH3, ⟨hi7⟩, ⟨hb7⟩⟩
def impl_Small.f (a0 : BA) : Option ByteArray := if a0.size ≤ 140737488355328 then some (strOfNums ((bytesOf a0).map lowB)) else none
theorem impl_Small.calls (a0 : BA) (r : BA) (w : World) (h : impl_Small.f a0 = some r) :
  Calls Tryz.prog 111 #[.string a0] w fun e w' => e = .returned (.string r) ∧ Below w.heap.size w w' := by
 unfold impl_Small.f at h;have hs : a0.size ≤ 140737488355328 := by
  by_cases hs : a0.size ≤ 140737488355328
  ·exact hs
  ·rw [if_neg hs] at h; cases h
 rw [if_pos hs] at h;obtain rfl := sI_ h;clear h;have hcv := print_bytes (P := Tryz.prog) 9 27 5 Tryz.underlying9 Tryz.underlying27 Tryz.underlying5 a0 w;have HT := A_ (TxtRow.new w a0 om_);have HB := A_ (bytes_below (Below.refl _ _) (Nat.le_refl _) 5 a0 : Below w.heap.size w (Lib.bytesWorld w 5 a0));generalize Lib.bytesWorld w 5 a0 = w2 at hcv HT HB;generalize grownCap w a0.size 0 5 = cp at hcv;have HBN := A_ (bytesOf_bound a0);have HLN := A_ (bytesOf_length a0);go_enter Tryz.func111, Tryz.ntmps111
 go_wp2
 go_loopg [10, 4, 5] a0.size (fun kq v10 v4 v5 wr => ∃ j : Int, v10 = .int .i64 j ∧ 0 ≤ j ∧ j ≤ (a0.size : Int) ∧ As9 (kq = a0.size - j.toNat) ∧ As9 (TxtRow wr w.heap.size (lowL (bytesOf a0) j.toNat)) ∧ As9 (Below w.heap.size w wr))
 case atStart => exact ⟨0, rfl, Int.le_refl _, om_, ⟨rfl⟩, ⟨by simpa [lowL] using HT.out⟩, HB⟩
 case round =>
  obtain ⟨j, rfl, j0, hj, HM, HX, HW⟩ := hrel;clear HT HB;by_cases hlt : j < (a0.size : Int)
  ·have hjn : j.toNat < (bytesOf a0).length := by rw [HLN.out]; omega
   have hjl : j.toNat < (lowL (bytesOf a0) j.toNat).length := by rw [lowL_length]; exact hjn
   have hcell := HX.out.cell j.toNat hjl;rw [lowL_getD _ _ hjn] at hcell;have hfz := HX.out.frozen j.toNat hjl;have hbd := HBN.out j.toNat hjn;have HS := A_ (lowL_set (bytesOf a0) j.toNat hjn);have HE := A_ (lowL_same (bytesOf a0) j.toNat hjn);have HXS := A_ (fun x => HX.out.set j.toNat hjl x);generalize hv : (bytesOf a0).getD j.toNat 0 = v at hcell hbd HS HE;have Hv := A_ hv;clear hv hjn hjl;have p7 := eq_true j0;have q7 := eq_true hlt;by_cases h1 : v ≥ 65
   ·by_cases h2 : v ≤ 90
    ·have h1b := dE_ h1;have h2b := dE_ h2;have hw : IntKind.u8.wrap (v + 32) = v + 32 := u8_wrap om_ om_;go_wp2
     go_roundg (a0.size - (j + 1).toNat)
     case measure => have := HM.out; omega
     case rel => exact ⟨j + 1, rfl, om_, om_, ⟨rfl⟩, ⟨by rw [show (j + 1).toNat = j.toNat + 1 by omega, ← HS.out]; unfold lowB; rw [if_pos ⟨h1, h2⟩]; exact HXS.out _⟩, ⟨below_set HW.out (Nat.le_refl _)⟩⟩
    ·have h1b := dE_ h1;have h2b := dF_ h2;go_wp2
     go_roundg (a0.size - (j + 1).toNat)
     case measure => have := HM.out; omega
     case rel => exact ⟨j + 1, rfl, om_, om_, ⟨rfl⟩, ⟨by rw [show (j + 1).toNat = j.toNat + 1 by omega, ← HE.out om_]; exact HX.out⟩, HW⟩
   ·have h1b := dF_ h1;go_wp2
    go_roundg (a0.size - (j + 1).toNat)
    case measure => have := HM.out; omega
    case rel => exact ⟨j + 1, rfl, om_, om_, ⟨rfl⟩, ⟨by rw [show (j + 1).toNat = j.toNat + 1 by omega, ← HE.out om_]; exact HX.out⟩, HW⟩
  ·have hje : j.toNat = (bytesOf a0).length := by rw [HLN.out]; omega
   have hX2 := HX.out;rw [hje] at hX2;have hl2 : lowL (bytesOf a0) (bytesOf a0).length = (bytesOf a0).map lowB := by simp [lowL]
   rw [hl2] at hX2;have hback := string_of_reads (P := Tryz.prog) (src := 27) (dst := 9) (c := cp) Tryz.underlying27 Tryz.underlying5 Tryz.underlying9 hX2.reads;rw [List.length_map, HLN.out] at hback;clear hX2 hje hl2;go_wp2
   go_ret
   exact ⟨rfl, HW.out⟩
theorem hasAttr_1 (a b n : BA) (h : Nat) (w : World) (hc : w.cell? ⟨h, 0, none⟩ = some (.string n)) :
  Calls Tryz.prog 153 #[.agg #[.string a, .string b], .pointer (some ⟨h, 0, none⟩)] w fun e w' => e = .returned (.bool (a.toList == n.toList)) ∧ Below w.heap.size w w' := by
 have hl := World.block_lt_of_cell? w _ hc;go_enter Tryz.func153, Tryz.ntmps153
 go_wp2
 go_ret
 exact ⟨rfl, bA9 (Below.refl _ _) _⟩
def hasP (n : BA) (x : S84) : Bool := x.f0.toList == n.toList
def IxPost (b : Bool) (w : World) (e : Ending) (w' : World) : Prop := ∃ r : Int, e = .returned (.int .i64 r) ∧ decide (0 ≤ r) = b ∧ Below w.heap.size w w'
theorem take_any {α : Type} (l : List α) (p : α → Bool) (j : Nat) (h : j < l.length) (h0 : (l.take j).any p = false) (h1 : p (l[j]'h) = false) : (l.take (j + 1)).any p = false := by
 rw [List.take_succ_eq_append_getElem h, List.any_append, h0]; simp [h1]
theorem indexFunc_any (A0 : Option Addr) (c0 : Nat) (l0 : List (S84)) (n : BA) (h : Nat) (w : World) (hr0 : Kd.C k84 w A0 l0.length l0) (hc0 : l0.length ≤ c0) (hl : l0.length ≤ 140737488355328) (hc : w.cell? ⟨h, 0, none⟩ = some (.string n)) :
  Calls Tryz.prog 173 #[.slice A0 l0.length c0, .func (Fn.func 153) #[] #[.pointer (some ⟨h, 0, none⟩)]] w (IxPost (l0.any (hasP n)) w) := by
 have HR := A_ hr0;have HC := A_ hc;clear hr0 hc;go_enter Tryz.func173, Tryz.ntmps173
 go_wp2
 go_loopg [8] l0.length (fun kq v wr => ∃ j : Int, v = .int .i64 j ∧ 0 ≤ j ∧ j ≤ l0.length ∧ As9 (kq = l0.length - j.toNat) ∧ As9 ((l0.take j.toNat).any (hasP n) = false) ∧ As9 (Below w.heap.size w wr))
 case atStart => exact ⟨0, rfl, Int.le_refl _, om_, ⟨rfl⟩, ⟨by simp⟩, ⟨Below.refl _ _⟩⟩
 case round =>
  obtain ⟨j, rfl, j0, hj, HM, HE, HB⟩ := hrel;have hlm : (l0.length : Int) ≤ 140737488355328 := om_;by_cases hlt : j < l0.length
  ·have hjn : j.toNat < l0.length := om_;have hel : rd_T84 l0 j = l0[j.toNat] := by
    unfold rd_T84; first | (rw [List.getD_eq_getElem?_getD, List.getElem?_eq_getElem hjn]; rfl) | (simp [rdOf, List.getD_eq_getElem?_getD, List.getElem?_eq_getElem hjn])
   have Hel := A_ hel;clear hel;obtain ⟨ad, ea, hx0, hx1⟩ := at_T84 (Kd.C_below HR.out HB.out) j j0 hlt;cases ea;have hcn := pw_cell_below HB.out HC.out;have p7 := eq_true j0;have q7 := eq_true hlt;cases hp : hasP n (rd_T84 l0 j) with
   | true =>
    have HP := A_ hp;clear hp;go_wp2_with ((go_at_call 153; (with_reducible refine (hasAttr_1 _ _ n h _ hcn).mono ?_); rintro r w2 ⟨rfl, hb⟩; rw [show ((rd_T84 l0 j).f0.toList == n.toList) = true from HP.out]))
    go_ret
    exact ⟨j, rfl, by rw [dE_ j0]; symm; rw [List.any_eq_true]; exact ⟨l0[j.toNat], List.getElem_mem _, by rw [← Hel.out]; exact HP.out⟩, below_step HB.out hb⟩
   | false =>
    have HP := A_ hp;clear hp;go_wp2_with ((go_at_call 153; (with_reducible refine (hasAttr_1 _ _ n h _ hcn).mono ?_); rintro r w2 ⟨rfl, hb⟩; rw [show ((rd_T84 l0 j).f0.toList == n.toList) = false from HP.out]))
    go_roundg (l0.length - (j + 1).toNat)
    case measure => have := HM.out; omega
    case rel => exact ⟨j + 1, rfl, om_, om_, ⟨rfl⟩, ⟨by rw [show (j + 1).toNat = j.toNat + 1 by omega]; exact take_any _ _ _ hjn HE.out (by rw [← Hel.out]; exact HP.out)⟩, ⟨below_step HB.out hb⟩⟩
  ·go_wp2
   go_ret
   have he := HE.out;rw [List.take_of_length_le om_] at he;exact ⟨-1, rfl, by rw [he]; rfl, HB.out⟩
theorem containsFunc_any (A0 : Option Addr) (c0 : Nat) (l0 : List (S84)) (n : BA) (h : Nat) (w : World) (hr0 : Kd.C k84 w A0 l0.length l0) (hc0 : l0.length ≤ c0) (hl : l0.length ≤ 140737488355328) (hc : w.cell? ⟨h, 0, none⟩ = some (.string n)) :
  Calls Tryz.prog 152 #[.slice A0 l0.length c0, .func (Fn.func 153) #[] #[.pointer (some ⟨h, 0, none⟩)]] w fun e w' => e = .returned (.bool (l0.any (hasP n))) ∧ Below w.heap.size w w' := by
 go_enter Tryz.func152, Tryz.ntmps152
 go_wp2_with ((go_at_call 173; (with_reducible refine (indexFunc_any A0 c0 l0 n h _ hr0 hc0 hl hc).mono ?_); rintro r w2 ⟨i, rfl, hi, hb⟩))
 go_ret
 exact ⟨by rw [← hi]; rfl, hb⟩
def impl_hasAttr.f (l0 : List (S84)) (a1 : BA) : Option Bool :=
 if l0.length ≤ 140737488355328 then some (l0.any fun x => x.f0.toList == a1.toList) else none
theorem impl_hasAttr.calls (A0 : Option Addr) (c0 : Nat) (l0 : List (S84)) (a1 : BA) (r : Bool) (w : World) (hr0 : Kd.C k84 w A0 l0.length l0) (hc0 : l0.length ≤ c0) (h : impl_hasAttr.f l0 a1 = some r) :
  Calls Tryz.prog 121 #[.slice A0 l0.length c0, .string a1] w fun e w' => e = .returned (.bool r) ∧ Below w.heap.size w w' := by
 unfold impl_hasAttr.f at h;split at h
 case isFalse => cases h
 case isTrue hl =>
 obtain rfl := sI_ h;have hr1 := A_ (Kd.C_alloc hr0 (.cells #[.string a1] 9));have hc1 : As9 ((w.alloc (.cells #[.string a1] 9)).cell? ⟨w.heap.size, 0, none⟩ = some (.string a1)) := ⟨(blk_cell (heap_alloc_new w _) 0).trans rfl⟩;clear hr0 h;go_enter Tryz.func121, Tryz.ntmps121
 go_wp2_with ((go_at_call 152; (refine (containsFunc_any A0 c0 l0 a1 w.heap.size _ hr1.out hc0 hl hc1.out).mono ?_); rintro r w2 ⟨rfl, hb⟩))
 go_ret
 exact ⟨rfl, below_step (bA9 (Below.refl _ _) _) hb⟩
def attL : Nat → ByteArray → Int → List (S84) → Option (List (S84) × Bool)
 | 0, _, _, _ => none
 | n + 1, s, k, out =>
  if 0 ≤ k ∧ k ≤ s.size ∧ s.size ≤ 140737488351232 then
   (if ovr s (sepF s false k false).1 false = true then some (out, (sepF s false k false).2)
   else (impl_Small.f (s.extract (sepF s false k false).1.toNat (nmF s false (sepF s false k false).1 (sepF s false k false).1).toNat)).bind fun nm =>
    (impl_tagger_value.f s (nmF s false (sepF s false k false).1 (sepF s false k false).1) false (sepF s false k false).2).bind fun v =>
    (if v.2.2.1 = s ∧ v.2.2.2.2.1 = false then
     (impl_hasAttr.f out nm).bind fun b =>
      (if b = true then attL n s v.2.2.2.1 out
      else (impl_Refs.f n v.1 true).bind fun rv => (if out.length < 4398046511104 then attL n s v.2.2.2.1 (out ++ [⟨nm, rv⟩]) else none))
    else none))
  else none
theorem attL_mono : ∀ k y0 y1 y2, LeO (attL k y0 y1 y2) (attL (k + 1) y0 y1 y2)
 | 0 => fun _ _ _ r h => by simp [attL] at h
 | k + 1 => by
  have ih0 := attL_mono k;intro y0 y1 y2;rw [attL, attL];refine LeO.ite (LeO.ite (LeO.refl _) (LeO.bind (LeO.refl _) (fun nm => LeO.bind (LeO.refl _) (fun v => LeO.ite (LeO.bind (LeO.refl _) (fun b => LeO.ite (ih0 _ _ _) (LeO.bind (impl_Refs.mono _ _ _) (fun rv => LeO.ite (ih0 _ _ _) (LeO.refl _))))) (LeO.refl _))))) (LeO.refl _)
def impl_Attrs.f (k : Nat) (a0 : BA) : Option (List (S84) × Bool) := attL k a0 0 []
theorem impl_Attrs.mono : ∀ a0 k, LeO (impl_Attrs.f k a0) (impl_Attrs.f (k + 1) a0) := fun _ k => attL_mono k _ _ _
theorem impl_Attrs.calls (k : Nat) (a0 : BA) (r1 : List (S84)) (r2 : Bool) (w : World) (h : impl_Attrs.f k a0 = some (r1, r2)) :
  Calls Tryz.prog 112 #[.string a0] w fun e w' => ∃ v0_ : Value, e = .returned (.tuple #[v0_, .bool r2]) ∧ Kd.R k84 84 w' w.heap.size (fun _ => True) v0_ r1 ∧ Below w.heap.size w w' := by
 have hu := Tryz.underlying127;have hu2 := Tryz.underlying84;have HF : As9 (attL k a0 0 [] = some (r1, r2)) := ⟨h⟩;clear h;have HS := A_ (IsS127.new w w a0 0 false false (Below.refl _ _));have HB := A_ (bA9 (Below.refl _ _) (.cells #[.string a0, .int .i64 0, .bool false, .bool false] 127) : Below w.heap.size w _);go_enter Tryz.func112, Tryz.ntmps112
 go_wp2
 go_loopg [5] k (fun kq v5 wr => ∃ (out : List (S84)) (j : Int) (sl : Bool), As9 (attL kq a0 j out = some (r1, r2)) ∧ As9 (IsS127 w wr w.heap.size a0 j false sl) ∧ As9 (Kd.R k84 84 wr w.heap.size (fun k_ => k_ ≠ w.heap.size) v5 out) ∧ As9 (Below w.heap.size w wr))
 case atStart => exact ⟨[], 0, false, HF, HS, ⟨Kd.R_nil _ _ _ _ _⟩, HB⟩
 case round =>
  clear HF HS HB;obtain ⟨out, j, sl, HA, HS, HO, HB⟩ := hrel;obtain ⟨A5, c5, rfl⟩ := Kd.R_slice HO.out;cases gk with
  | zero => exact absurd HA.out (by simp [attL])
  | succ n =>
  have H := HA.out;clear HA;simp only [attL] at H;split at H
  case isFalse => cases H
  case isTrue hg =>
  obtain ⟨j0, j1, hm⟩ := hg;obtain ⟨a1, a2⟩ := sepF_le (s := a0) (e := false) _ j false rfl j1;have hsep : impl_tagger_separators.f a0 j false false = some (a0, (sepF a0 false j false).1, false, (sepF a0 false j false).2) := by
   unfold impl_tagger_separators.f; rw [if_pos ⟨j0, j1, hm⟩]
  generalize hja : (sepF a0 false j false).1 = ja at *;generalize hsa : (sepF a0 false j false).2 = sa at *;have Hsep := A_ hsep;have HH := A_ H;clear hsep hja hsa H;have ja0 : 0 ≤ ja := om_;obtain ⟨hc0, hc1, hc2, hc3, hf0, hf1, hf2, hf3⟩ := tagger_cells HS.out;have HS1 := A_ (HS.out.set_3 false);have HO1 := A_ (Kd.R_far (p := ⟨w.heap.size, 3, none⟩) HO.out (fun k_ hk => hk) (.bool false));have HB1 := A_ (below_set (j := 3) (v := .bool false) HB.out (Nat.le_refl w.heap.size));go_wp2_with ((go_at_call 147; (with_reducible refine (impl_tagger_separators.calls w.heap.size a0 j false false a0 ja false sa w _ HS1.out HB1.out Hsep.out).mono ?_); rintro r w4 ⟨rfl, hi, hb, hk⟩))
  have HI4 := A_ hi;have HB4 := A_ hb;have HO4 := A_ (Kd.R_step HO1.out (fun k_ ho hlt => hk.2 k_ hlt ho si_));clear hi hb hk HS HO HB HS1 HO1 HB1 hc0 hc1 hc2 hc3 hf0 hf1 hf2 hf3;by_cases co : ovr a0 ja false = true
  ·have H := HH.out;rw [if_pos co] at H;obtain ⟨rfl, rfl⟩ := Prod.mk.inj (sI_ H);clear H HH;go_wp2_with ((go_at_call 148; (refine (isOver_any w.heap.size a0 ja false sa w _ ?_ ja0).mono ?_); exact HI4.out; rintro r w5 ⟨rfl, HD5⟩; rw [co]; have HI5 : As9 (IsS127 w w5 w.heap.size a0 ja false sa) := ⟨by obtain ⟨n, hn⟩ := HD5; rw [hn]; exact HI4.out.drewN n⟩; have HB5 : As9 (Below w.heap.size w w5) := ⟨by obtain ⟨n, hn⟩ := HD5; rw [hn]; exact bN9 HB4.out n⟩; have HO5 := A_ (Kd.R_step (w1 := w5) HO4.out (fun k_ ho hlt => by obtain ⟨n, hn⟩ := HD5; rw [hn]; rfl)); clear HD5 HI4 HB4 HO4; obtain ⟨hc0, hc1, hc2, hc3, hf0, hf1, hf2, hf3⟩ := tagger_cells HI5.out))
   go_wp2
   go_quiet (fail)
   go_wp2
   go_ret2
   exact ⟨_, rfl, Kd.R_mono (kQ_ HO5.out) (fun _ _ => trivial), by repeat (first | (with_reducible first | exact HB5.out | apply bA9 | apply bN9 | apply bD9) | exact HB5.out)⟩
  ·replace co : ovr a0 ja false = false := by simpa using co
   have H := HH.out;rw [if_neg (by rw [co]; simp)] at H;obtain ⟨nm, hnm, H⟩ := oB_ H;obtain ⟨v, hv, H⟩ := oB_ H;split at H
   case isFalse => cases H
   case isTrue hg =>
   have Hnm := A_ hnm;have Hv := A_ hv;obtain ⟨v1, ok, s', k', e', sl'⟩ := v;obtain ⟨hg1, hg2⟩ : s' = a0 ∧ e' = false := hg;replace hg1 := hg1.symm;replace hg2 := hg2.symm;subst hg1 hg2;obtain ⟨b, hb_, H⟩ := oB_ H;have Hb := A_ hb_;clear hnm hv hb_ HH;have Hn := A_ (name_f a0 ja false sa ja0 a2 hm);generalize nmF a0 false ja ja = jn at *;cases b with
   | true =>
    rw [if_pos rfl] at H;have HH := A_ H;clear H;go_wp2_with (first | (go_at_call 148; (refine (isOver_any w.heap.size a0 ja false sa w _ ?_ ja0).mono ?_); exact HI4.out; rintro r w5 ⟨rfl, HD5⟩; rw [co]; have HI5 : As9 (IsS127 w w5 w.heap.size a0 ja false sa) := ⟨by obtain ⟨n, hn⟩ := HD5; rw [hn]; exact HI4.out.drewN n⟩; have HB5 : As9 (Below w.heap.size w w5) := ⟨by obtain ⟨n, hn⟩ := HD5; rw [hn]; exact bN9 HB4.out n⟩; have HO5 := A_ (Kd.R_step (w1 := w5) HO4.out (fun k_ ho hlt => by obtain ⟨n, hn⟩ := HD5; rw [hn]; rfl)); clear HD5 HI4 HB4 HO4) | (go_at_call 149; (with_reducible refine (impl_tagger_name.calls _ w.heap.size a0 ja false sa _ a0 jn false sa w _ HI5.out HB5.out Hn.out).mono ?_); rintro r w6 ⟨rfl, hi, hb, hk⟩; have HI6 := A_ hi; have HB6 := A_ hb; have HO6 := A_ (Kd.R_step HO5.out (fun k_ ho hlt => hk.2 k_ hlt ho si_)); clear hi hb hk HI5 HB5 HO5) | (go_at_call 111; (with_reducible refine (impl_Small.calls _ nm _ Hnm.out).mono ?_); rintro r w7 ⟨rfl, hb⟩; have HI7 := A_ (HI6.out.below hb); have HB7 := A_ (below_step HB6.out hb); have HO7 := A_ (Kd.R_below HO6.out hb); clear hb HI6 HB6 HO6) | (go_at_call 150; (with_reducible refine (impl_tagger_value.calls w.heap.size a0 jn false sa v1 ok a0 k' false sl' w _ HI7.out HB7.out Hv.out).mono ?_); rintro r w8 ⟨rfl, hi, hb, hk⟩; have HI8 := A_ hi; have HB8 := A_ hb; have HO8 := A_ (Kd.R_step HO7.out (fun k_ ho hlt => hk.2 k_ hlt ho si_)); clear hi hb hk HI7 HB7 HO7) | (go_at_call 121; (with_reducible refine (impl_hasAttr.calls A5 c5 out nm true _ (Kd.R_reads' HO8.out).2.2 (Kd.R_reads' HO8.out).2.1 Hb.out).mono ?_); rintro r w9 ⟨rfl, hb⟩; have HI9 := A_ (HI8.out.below hb); have HB9 := A_ (below_step HB8.out hb); have HO9 := A_ (Kd.R_below HO8.out hb); clear hb HI8 HB8 HO8))
    go_roundg n
    case measure => omega
    case rel => exact ⟨out, k', sl', HH, HI9, HO9, HB9⟩
   | false =>
    rw [if_neg si_] at H;obtain ⟨rv, hrv, H⟩ := oB_ H;split at H
    case isFalse => cases H
    case isTrue hlim =>
    have HH := A_ H;have Hrv := A_ hrv;have HL := A_ hlim;clear H hrv hlim;go_wp2_with (first | (go_at_call 148; (refine (isOver_any w.heap.size a0 ja false sa w _ ?_ ja0).mono ?_); exact HI4.out; rintro r w5 ⟨rfl, HD5⟩; rw [co]; have HI5 : As9 (IsS127 w w5 w.heap.size a0 ja false sa) := ⟨by obtain ⟨n, hn⟩ := HD5; rw [hn]; exact HI4.out.drewN n⟩; have HB5 : As9 (Below w.heap.size w w5) := ⟨by obtain ⟨n, hn⟩ := HD5; rw [hn]; exact bN9 HB4.out n⟩; have HO5 := A_ (Kd.R_step (w1 := w5) HO4.out (fun k_ ho hlt => by obtain ⟨n, hn⟩ := HD5; rw [hn]; rfl)); clear HD5 HI4 HB4 HO4) | (go_at_call 149; (with_reducible refine (impl_tagger_name.calls _ w.heap.size a0 ja false sa _ a0 jn false sa w _ HI5.out HB5.out Hn.out).mono ?_); rintro r w6 ⟨rfl, hi, hb, hk⟩; have HI6 := A_ hi; have HB6 := A_ hb; have HO6 := A_ (Kd.R_step HO5.out (fun k_ ho hlt => hk.2 k_ hlt ho si_)); clear hi hb hk HI5 HB5 HO5) | (go_at_call 111; (with_reducible refine (impl_Small.calls _ nm _ Hnm.out).mono ?_); rintro r w7 ⟨rfl, hb⟩; have HI7 := A_ (HI6.out.below hb); have HB7 := A_ (below_step HB6.out hb); have HO7 := A_ (Kd.R_below HO6.out hb); clear hb HI6 HB6 HO6) | (go_at_call 150; (with_reducible refine (impl_tagger_value.calls w.heap.size a0 jn false sa v1 ok a0 k' false sl' w _ HI7.out HB7.out Hv.out).mono ?_); rintro r w8 ⟨rfl, hi, hb, hk⟩; have HI8 := A_ hi; have HB8 := A_ hb; have HO8 := A_ (Kd.R_step HO7.out (fun k_ ho hlt => hk.2 k_ hlt ho si_)); clear hi hb hk HI7 HB7 HO7) | (go_at_call 121; (with_reducible refine (impl_hasAttr.calls A5 c5 out nm false _ (Kd.R_reads' HO8.out).2.2 (Kd.R_reads' HO8.out).2.1 Hb.out).mono ?_); rintro r w9 ⟨rfl, hb⟩; have HI9 := A_ (HI8.out.below hb); have HB9 := A_ (below_step HB8.out hb); have HO9 := A_ (Kd.R_below HO8.out hb); clear hb HI8 HB8 HO8) | (go_at_call 105; (with_reducible refine (impl_Refs.calls n v1 true rv _ Hrv.out).mono ?_); rintro r w10 ⟨rfl, hb⟩; have HI10 := A_ (HI9.out.below hb); have HB10 := A_ (below_step HB9.out hb); have HO10 := A_ (Kd.R_below HO9.out hb); clear hb HI9 HB9 HO9) | ((with_reducible refine gate_builtin (b := .append) (xs := #[.tmp 27, .tmp 32]) rfl ?_); at_builtin; go_loud (refine Kd.R_append k84 (w0 := w) w.heap.size rfl (.tmp 27) (.tmp 32) 41 84 (.agg #[(.string ⟨#[]⟩), (.string ⟨#[]⟩)]) 32 rfl Tryz.underlying41 info84 rfl de_ om_ (.slice A5 out.length c5) out (⟨nm, rv⟩ : S84) [.string nm, .string rv] (fun k_ => k_ ≠ w.heap.size) (fun _ => False) rfl rfl ?aP (fun _ hk => hk.elim) ?aF ?aO ?aB ?aS ?aL ?_); (case aP => exact k84_mkM _ _ _ (⟨nm, rv⟩ : S84)); (case aF => exact HI10.out.fresh); (case aO => (with_reducible repeat (first | apply Kd.R_alloc | apply Kd.R_drewN | apply Kd.R_drew)); exact HO10.out); (case aB => exact (by repeat (first | (with_reducible first | exact HB10.out | apply bA9 | apply bN9 | apply bD9) | exact HB10.out))); (case aS => exact (below_size (by repeat (first | (with_reducible first | exact HB10.out | apply bA9 | apply bN9 | apply bD9) | exact HB10.out)))); (case aL => have := HL.out; omega); intro v6 w11 ho hb hg hat; have HO11 := A_ ho; have HB11 := A_ hb; have HI11 := A_ (HI10.out.grown hg (Kd.R_away HO10.out (fun _ hk => hk))); clear ho hb hg hat HI10 HB10 HO10))
    go_roundg n
    case measure => omega
    case rel => exact ⟨_, k', sl', HH, HI11, HO11, HB11⟩
def impl_isPlainRaw.f (a0 : BA) : Option (Bool) := if a0.toList = ([115, 99, 114, 105, 112, 116] : List UInt8) then (some true) else (some (a0.toList == ([115, 116, 121, 108, 101] : List UInt8)))
theorem impl_isPlainRaw.calls (a0 : BA) (r : Bool) (w : World) (h : impl_isPlainRaw.f a0 = some r) :
  Calls Tryz.prog 73 #[.string a0] w fun e w' => e = .returned (.bool r) ∧ Drawn0 w w' := by
 have H : (if a0.toList = ([115, 99, 114, 105, 112, 116] : List UInt8) then (some true) else (some (a0.toList == ([115, 116, 121, 108, 101] : List UInt8)))) = some r := h;clear h;rcases ic_ H with ⟨c2, H⟩ | ⟨c2, H⟩
 ·obtain ⟨c2b0, c2b1⟩ := be_ c2;clear c2;obtain rfl := sI_ H;go_enter Tryz.func73, Tryz.ntmps73
  go_wp2
  go_ret
  exact ⟨e2_, d0_⟩
 ·obtain ⟨c2b0, c2b1⟩ := bn_ c2;obtain rfl := sI_ H;go_enter Tryz.func73, Tryz.ntmps73
  go_wp2
  go_ret
  exact ⟨e2_, d0_⟩
def impl_RawEnd.l0 : Nat → ByteArray → ByteArray → Int → Option (Int)
 | 0, _, _, _ => none
 | k + 1, x0, x7, x8 => if (wrap64 (x8 + (x7.size : Int))) < (x0.size : Int) then (if 0 ≤ (wrap64 (x8 + (x7.size : Int))) then (if 0 ≤ x8 then (if x8 < (x0.size : Int) then (if (bt x0 x8) = 60 then (if x8 ≤ (wrap64 (x8 + (x7.size : Int))) then (if (wrap64 (x8 + (x7.size : Int))) ≤ (x0.size : Int) then ((impl_Small.f (x0.extract (x8 : Int).toNat ((wrap64 (x8 + (x7.size : Int))) : Int).toNat)).bind fun t314 => (if t314.toList = x7.toList then ((impl_isBlankByte.f (bt x0 (wrap64 (x8 + (x7.size : Int))))).bind fun t315 => (if t315 = true then (some x8) else (if (bt x0 (wrap64 (x8 + (x7.size : Int)))) = 47 then (some x8) else (if (bt x0 (wrap64 (x8 + (x7.size : Int)))) = 62 then (some x8) else (impl_RawEnd.l0 k x0 x7 (wrap64 (x8 + 1))))))) else (impl_RawEnd.l0 k x0 x7 (wrap64 (x8 + 1))))) else (none)) else (none)) else (impl_RawEnd.l0 k x0 x7 (wrap64 (x8 + 1)))) else (none)) else (none)) else (none)) else (some (x0.size : Int))
def impl_RawEnd.f (k : Nat) (a0 : BA) (a1 : Int) (a2 : BA) : Option (Int) := (impl_Small.f a2).bind fun t313 => (if 2 + t313.size ≤ 9223372036854775807 then (impl_RawEnd.l0 k a0 ((⟨#[60, 47]⟩ : BA) ++ t313) (mx a1 0)) else (none))
theorem impl_RawEnd.mono_l : ∀ k, (∀ y0 y1 y2, LeO (impl_RawEnd.l0 k y0 y1 y2) (impl_RawEnd.l0 (k + 1) y0 y1 y2))
 | 0 => fun _ _ _ r h => by simp [impl_RawEnd.l0] at h
 | k + 1 => by
  have ih0 := impl_RawEnd.mono_l k
  ·intro y0 y1 y2;unfold impl_RawEnd.l0;with_reducible repeat' first | exact ih0 _ _ _ | apply LeO.refl | apply LeO.none | apply LeO.ite | apply LeO.bind | intro
theorem impl_RawEnd.mono : ∀ a0 a1 a2 k, LeO (impl_RawEnd.f k a0 a1 a2) (impl_RawEnd.f (k + 1) a0 a1 a2) := by
 intro a0 a1 a2 k;have ih0 := impl_RawEnd.mono_l k;unfold impl_RawEnd.f;with_reducible repeat' first | exact ih0 _ _ _ | apply LeO.refl | apply LeO.none | apply LeO.ite | apply LeO.bind | intro
theorem impl_RawEnd.calls (k : Nat) (a0 : BA) (a1 : Int) (a2 : BA) (r : Int) (w : World) (h : impl_RawEnd.f k a0 a1 a2 = some r) :
  Calls Tryz.prog 82 #[.string a0, .int .i64 a1, .string a2] w fun e w' => e = .returned (.int .i64 r) ∧ Below w.heap.size w w' := by
 have HB := A_ (Below.refl w.heap.size w);have H : ((impl_Small.f a2).bind fun t313 => (if 2 + t313.size ≤ 9223372036854775807 then (impl_RawEnd.l0 k a0 ((⟨#[60, 47]⟩ : BA) ++ t313) (mx a1 0)) else (none))) = some r := h;clear h;obtain ⟨t313, A4, H⟩ := ob_ H;obtain ⟨c5, H⟩ := ifn_ H;have c5b0 := eq_true c5;have c5b1 := dE_ c5;try have c5b2 : (9223372036854775807 < 2 + t313.size) = False := eq_false (Nat.not_lt.2 c5)
 obtain ⟨ji6, hji6⟩ : ∃ j_ : Int, (mx a1 0) = j_ := ⟨_, rfl⟩;replace H : (impl_RawEnd.l0 k a0 ((⟨#[60, 47]⟩ : BA) ++ t313) ji6) = some r := by first | (rw [hji6] at H; exact H) | (simp only [hji6] at H ⊢; exact H)
 (try rw [hji6] at A4)
 (try (have hji6l : 0 ≤ ji6 := by (rw [← hji6]; unfold mx; (repeat' split) <;> omega)))
 (try (have hji6m : 0 ≤ ji6 := om_))
 have hji6_ : (if a1 < 0 then 0 else a1) = ji6 := hji6;have H' := A_ H;clear H;go_enter Tryz.func82, Tryz.ntmps82
 go_wp2_with (first | ((with_reducible refine gC_ 111 ?_); refine gL_ 11 Tryz.func111 #[.string a2] ?_; refine bm_ (impl_Small.calls a2 t313 _ A4.out) ?_; clear HB; intro w7 HB))
 go_loopg [8] k (fun kq v8 w' => ∃ (x8_1 : Int), v8 = .int .i64 x8_1 ∧ As9 (impl_RawEnd.l0 kq a0 ((⟨#[60, 47]⟩ : BA) ++ t313) x8_1 = some r) ∧ As9 (kq ≤ k) ∧ As9 (Below w.heap.size w w'))
 case atStart => exact ⟨(ji6), (by first | rfl | (simp; done) | (simp only [← hji6] <;> (first | rfl | simp)) | (simp [*]; done)), H', ⟨Nat.le_refl _⟩, ⟨hB_⟩⟩
 case round =>
  clear H';try clear c1
  try clear p2
  try clear c5
  try clear c5b0
  try clear c5b1
  try clear c5b2
  obtain ⟨x8_1, rfl, HA, HK1, HB⟩ := hrel;cases gk with
  | zero => exact absurd HA.out (by simp [impl_RawEnd.l0])
  | succ k1 =>
   have H := HA.out;clear HA;simp only [impl_RawEnd.l0] at H;rcases ic_ H with ⟨c8, H⟩ | ⟨c8, H⟩
   ·have c8b0 := dE_ c8;(try (have c8b0z := c8b0; simp only [ByteArray.size_append, Int.natCast_add, Int.cast_ofNat_Int, Int.natCast_one, show (⟨#[60, 47]⟩ : BA).size = 2 from rfl] at c8b0z))
    clear c8;obtain ⟨ji9, hji9⟩ : ∃ j_ : Int, (wrap64 (x8_1 + (((⟨#[60, 47]⟩ : BA) ++ t313).size : Int))) = j_ := ⟨_, rfl⟩;replace H : (if 0 ≤ (ji9) then (if 0 ≤ x8_1 then (if x8_1 < (a0.size : Int) then (if (bt a0 x8_1) = 60 then (if x8_1 ≤ (ji9) then (if (ji9) ≤ (a0.size : Int) then ((impl_Small.f (a0.extract (x8_1 : Int).toNat ((ji9) : Int).toNat)).bind fun t314 => (if t314.toList = ((⟨#[60, 47]⟩ : BA) ++ t313).toList then ((impl_isBlankByte.f (bt a0 (ji9))).bind fun t315 => (if t315 = true then (some x8_1) else (if (bt a0 (ji9)) = 47 then (some x8_1) else (if (bt a0 (ji9)) = 62 then (some x8_1) else (impl_RawEnd.l0 k1 a0 ((⟨#[60, 47]⟩ : BA) ++ t313) (wrap64 (x8_1 + 1))))))) else (impl_RawEnd.l0 k1 a0 ((⟨#[60, 47]⟩ : BA) ++ t313) (wrap64 (x8_1 + 1))))) else (none)) else (none)) else (impl_RawEnd.l0 k1 a0 ((⟨#[60, 47]⟩ : BA) ++ t313) (wrap64 (x8_1 + 1)))) else (none)) else (none)) else (none)) = some r := by first | (rw [hji9] at H; exact H) | (simp only [hji9] at H ⊢; exact H)
    (try rw [hji9] at c8b0)
    have hji9w : (IntKind.i64.wrap (x8_1 + (((⟨#[60, 47]⟩ : BA) ++ t313).size : Int))) = ji9 := (i64_w _).trans hji9;(try (have hji9z := hji9; simp only [ByteArray.size_append, Int.natCast_add, Int.cast_ofNat_Int, Int.natCast_one, show (⟨#[60, 47]⟩ : BA).size = 2 from rfl] at hji9z))
    (try (have hji9wz := hji9w; simp only [ByteArray.size_append, Int.natCast_add, Int.cast_ofNat_Int, Int.natCast_one, show (⟨#[60, 47]⟩ : BA).size = 2 from rfl] at hji9wz))
    obtain ⟨c10, H⟩ := ifn_ H;have c10b0 := dE_ c10;clear c10;obtain ⟨c12, H⟩ := ifn_ H;have c12b0 := dE_ c12;clear c12;obtain ⟨c13, H⟩ := ifn_ H;have c13b0 := dE_ c13;clear c13;rcases ic_ H with ⟨c15, H⟩ | ⟨c15, H⟩
    ·obtain ⟨c15b0, c15b1⟩ := be_ c15;clear c15;have c16b0 := eq_true (dT_ : 0 ≤ x8_1);obtain ⟨c17, H⟩ := ifn_ H;have c17b0 := eq_true c17;have c17b1 := dE_ c17;clear c17;obtain ⟨c18, H⟩ := ifn_ H;have c18b0 := eq_true c18;have c18b1 := dE_ c18;clear c18;obtain ⟨t314, A19, H⟩ := ob_ H;rcases ic_ H with ⟨c20, H⟩ | ⟨c20, H⟩
     ·obtain ⟨c20b0, c20b1⟩ := be_ c20;clear c20;obtain ⟨t315, A21, H⟩ := ob_ H;(try dsimp only at H)
      by_cases c22 : t315 = true
      ·subst c22;rw [if_pos rfl] at H;obtain rfl := sI_ H;have p11 : 0 ≤ ((ji9) : Int) := dT_;have q11 : (ji9) < (a0.size : Int) := dT_;have hx11 := bt_at a0 (ji9);replace p11 := eq_true p11;replace q11 := eq_true q11;have p14 : 0 ≤ (x8_1 : Int) := dT_;have q14 : x8_1 < (a0.size : Int) := dT_;have hx14 := bt_at a0 x8_1;replace p14 := eq_true p14;replace q14 := eq_true q14;go_wp2_with (first | (go_at_call 111; (with_reducible refine (impl_Small.calls (a0.extract (x8_1 : Int).toNat ((ji9) : Int).toNat) t314 _ A19.out).mono ?_); rintro e w23 ⟨rfl, hb⟩; replace HB := bS_ hb; clear hb) | (go_at_call 122; (with_reducible refine (impl_isBlankByte.calls (bt a0 (ji9)) true _ A21.out).mono ?_); rintro e w' ⟨rfl, ⟨nd, rfl⟩⟩))
       go_ret
       exact ⟨by first | rfl | (simp [errW_none, errW_some] <;> rfl) | (simp only [← hji6, ← hji9]; first | rfl | (simp [errW_none, errW_some] <;> rfl)) | (simp [*, errW_none, errW_some] <;> rfl), hB_⟩
      ·replace c22 := bF_ c22;subst c22;rw [if_neg nF_] at H;rcases ic_ H with ⟨c24, H⟩ | ⟨c24, H⟩
       ·obtain ⟨c24b0, c24b1⟩ := be_ c24;clear c24;obtain rfl := sI_ H;have p11 : 0 ≤ ((ji9) : Int) := dT_;have q11 : (ji9) < (a0.size : Int) := dT_;have hx11 := bt_at a0 (ji9);replace p11 := eq_true p11;replace q11 := eq_true q11;have p14 : 0 ≤ (x8_1 : Int) := dT_;have q14 : x8_1 < (a0.size : Int) := dT_;have hx14 := bt_at a0 x8_1;replace p14 := eq_true p14;replace q14 := eq_true q14;go_wp2_with (first | (go_at_call 111; (with_reducible refine (impl_Small.calls (a0.extract (x8_1 : Int).toNat ((ji9) : Int).toNat) t314 _ A19.out).mono ?_); rintro e w25 ⟨rfl, hb⟩; replace HB := bS_ hb; clear hb) | (go_at_call 122; (with_reducible refine (impl_isBlankByte.calls (bt a0 (ji9)) false _ A21.out).mono ?_); rintro e w' ⟨rfl, ⟨nd, rfl⟩⟩))
        go_ret
        exact ⟨by first | rfl | (simp [errW_none, errW_some] <;> rfl) | (simp only [← hji6, ← hji9]; first | rfl | (simp [errW_none, errW_some] <;> rfl)) | (simp [*, errW_none, errW_some] <;> rfl), hB_⟩
       ·obtain ⟨c24b0, c24b1⟩ := bn_ c24;rcases ic_ H with ⟨c26, H⟩ | ⟨c26, H⟩
        ·obtain ⟨c26b0, c26b1⟩ := be_ c26;clear c26;obtain rfl := sI_ H;have p11 : 0 ≤ ((ji9) : Int) := dT_;have q11 : (ji9) < (a0.size : Int) := dT_;have hx11 := bt_at a0 (ji9);replace p11 := eq_true p11;replace q11 := eq_true q11;have p14 : 0 ≤ (x8_1 : Int) := dT_;have q14 : x8_1 < (a0.size : Int) := dT_;have hx14 := bt_at a0 x8_1;replace p14 := eq_true p14;replace q14 := eq_true q14;go_wp2_with (first | (go_at_call 111; (with_reducible refine (impl_Small.calls (a0.extract (x8_1 : Int).toNat ((ji9) : Int).toNat) t314 _ A19.out).mono ?_); rintro e w27 ⟨rfl, hb⟩; replace HB := bS_ hb; clear hb) | (go_at_call 122; (with_reducible refine (impl_isBlankByte.calls (bt a0 (ji9)) false _ A21.out).mono ?_); rintro e w' ⟨rfl, ⟨nd, rfl⟩⟩))
         go_ret
         exact ⟨by first | rfl | (simp [errW_none, errW_some] <;> rfl) | (simp only [← hji6, ← hji9]; first | rfl | (simp [errW_none, errW_some] <;> rfl)) | (simp [*, errW_none, errW_some] <;> rfl), hB_⟩
        ·obtain ⟨c26b0, c26b1⟩ := bn_ c26;have H' := A_ H;clear H;have p11 : 0 ≤ ((ji9) : Int) := dT_;have q11 : (ji9) < (a0.size : Int) := dT_;have hx11 := bt_at a0 (ji9);replace p11 := eq_true p11;replace q11 := eq_true q11;have p14 : 0 ≤ (x8_1 : Int) := dT_;have q14 : x8_1 < (a0.size : Int) := dT_;have hx14 := bt_at a0 x8_1;replace p14 := eq_true p14;replace q14 := eq_true q14;go_wp2_with (first | (go_at_call 111; (with_reducible refine (impl_Small.calls (a0.extract (x8_1 : Int).toNat ((ji9) : Int).toNat) t314 _ A19.out).mono ?_); rintro e w28 ⟨rfl, hb⟩; replace HB := bS_ hb; clear hb) | (go_at_call 122; (with_reducible refine (impl_isBlankByte.calls (bt a0 (ji9)) false _ A21.out).mono ?_); rintro e w' ⟨rfl, ⟨nd, rfl⟩⟩))
         go_roundg k1
         case measure => have := HK1.out; omega
         case rel => exact ⟨(wrap64 (x8_1 + 1)), e2_, H', ⟨by have := HK1.out; omega⟩, ⟨hB_⟩⟩
     ·obtain ⟨c20b0, c20b1⟩ := bn_ c20;have H' := A_ H;clear H;have p11 : 0 ≤ ((ji9) : Int) := dT_;have q11 : (ji9) < (a0.size : Int) := dT_;have hx11 := bt_at a0 (ji9);replace p11 := eq_true p11;replace q11 := eq_true q11;have p14 : 0 ≤ (x8_1 : Int) := dT_;have q14 : x8_1 < (a0.size : Int) := dT_;have hx14 := bt_at a0 x8_1;replace p14 := eq_true p14;replace q14 := eq_true q14;go_wp2_with (first | (go_at_call 111; (with_reducible refine (impl_Small.calls (a0.extract (x8_1 : Int).toNat ((ji9) : Int).toNat) t314 _ A19.out).mono ?_); rintro e w29 ⟨rfl, hb⟩; replace HB := bS_ hb; clear hb))
      go_roundg k1
      case measure => have := HK1.out; omega
      case rel => exact ⟨(wrap64 (x8_1 + 1)), e2_, H', ⟨by have := HK1.out; omega⟩, ⟨hB_⟩⟩
    ·obtain ⟨c15b0, c15b1⟩ := bn_ c15;have H' := A_ H;clear H;have p11 : 0 ≤ ((ji9) : Int) := dT_;have q11 : (ji9) < (a0.size : Int) := dT_;have hx11 := bt_at a0 (ji9);replace p11 := eq_true p11;replace q11 := eq_true q11;have p14 : 0 ≤ (x8_1 : Int) := dT_;have q14 : x8_1 < (a0.size : Int) := dT_;have hx14 := bt_at a0 x8_1;replace p14 := eq_true p14;replace q14 := eq_true q14;go_wp2
     go_roundg k1
     case measure => have := HK1.out; omega
     case rel => exact ⟨(wrap64 (x8_1 + 1)), e2_, H', ⟨by have := HK1.out; omega⟩, ⟨hB_⟩⟩
   ·have c8b0 := dF_ c8;(try (have c8b0z := c8b0; simp only [ByteArray.size_append, Int.natCast_add, Int.cast_ofNat_Int, Int.natCast_one, show (⟨#[60, 47]⟩ : BA).size = 2 from rfl] at c8b0z))
    clear c8;obtain rfl := sI_ H;go_wp2
    go_ret
    exact ⟨by first | rfl | (simp [errW_none, errW_some] <;> rfl) | (simp only [← hji6]; first | rfl | (simp [errW_none, errW_some] <;> rfl)) | (simp [*, errW_none, errW_some] <;> rfl), hB_⟩
def impl_scanner_raw.f (k : Nat) (s : BA) (p : Int) (out : List S43) (nm : BA) : Option (Int × List S43) :=
 if 0 ≤ p ∧ p ≤ s.size ∧ s.size ≤ 1000000 then (impl_RawEnd.f k s p nm).bind fun te => if p ≤ te ∧ te ≤ s.size then
  (if (s.extract p.toNat te.toNat).toList = [] then some (te, out) else (impl_isPlainRaw.f nm).bind fun pl => if pl = true then (impl_scanner_put.f out ⟨1, ⟨#[]⟩, [], (s.extract p.toNat te.toNat), false⟩).bind fun o => some (te, o)
   else (impl_Refs.f k (s.extract p.toNat te.toNat) false).bind fun t => (impl_scanner_put.f out ⟨1, ⟨#[]⟩, [], t, false⟩).bind fun o => some (te, o)) else none
 else none
theorem impl_scanner_raw.mono : ∀ s p out nm k, LeO (impl_scanner_raw.f k s p out nm) (impl_scanner_raw.f (k + 1) s p out nm) := fun s p out nm k => LeO.ite (LeO.bind (impl_RawEnd.mono _ _ _ _) fun te => LeO.ite (LeO.ite (LeO.refl _) (LeO.bind (LeO.refl _) fun pl => LeO.ite (LeO.refl _) (LeO.bind (impl_Refs.mono _ _ _) fun t => LeO.refl _))) (LeO.refl _)) (LeO.refl _)
theorem impl_scanner_raw.calls (k : Nat) (b : Nat) (s : BA) (p : Int) (out : List S43) (nm : BA) (p' : Int) (out' : List S43) (w0 w : World) (hS : St 39 b w0 s p out w) (h : impl_scanner_raw.f k s p out nm = some (p', out')) :
  Calls Tryz.prog 113 #[.pointer (some ⟨b, 0, none⟩), .string nm] w fun e w' => e = .returned (.tuple #[]) ∧ St 39 b w0 s p' out' w' := by
 have HT := A_ hS;clear hS;unfold impl_scanner_raw.f at h;split at h
 case isFalse => cases h
 case isTrue hg =>
 obtain ⟨p0, p1, hs⟩ := hg;obtain ⟨te, hte, h⟩ := oB_ h;split at h
 case isFalse => cases h
 case isTrue hg =>
 obtain ⟨t0, t1⟩ := hg;have Hte := A_ hte;have HH := A_ h;clear hte h;have g1 := eq_true p0;have g2 := eq_true t0;have g3 := eq_true t1;obtain ⟨hc0, hc1, hf1⟩ := HT.out.sc.cells;go_enter Tryz.func113, Tryz.ntmps113
 go_wp2
 have HTd := A_ (HT.out.below (below_drew (Below.refl _ _)));clear HT hc0 hc1 hf1;refine start_ (n := 11) (S := fun w' => w'.cell? ⟨b, 0, none⟩ = some (.string s) ∧ w'.cell? ⟨b, 1, none⟩ = some (.int .i64 p)) (ds := [9]) (tS 11 0) (by kernel_rfl) rfl rfl ⟨HTd.out.sc.cells.1, HTd.out.sc.cells.2.1⟩ (fun hHeld => ?_);generalize World.drew _ = wr0 at HTd hHeld ⊢;iterate 3 refine pq_ ?_
 refine tq_ rfl (by rintro w' ⟨s0, s1⟩; go_simp; with_reducible rfl) ?_;iterate 3 refine pq_ ?_
 refine tq_ rfl (by rintro w' ⟨s0, s1⟩; go_simp; with_reducible rfl) ?_;refine pq_ ?_;refine last_ (i := 9) (N := some 15) (tS 11 10) rfl rfl (by kernel_rfl) de_ (fun K hK => ?_);refine gS_ Tryz.func82 #[.string s, .int .i64 p, .string nm] ?_;with_reducible refine (impl_RawEnd.calls k s p nm te _ Hte.out).mono ?_
 rintro e wr9 ⟨rfl, hb⟩;refine ⟨_, rfl, ?_⟩;have HT1 := A_ (HTd.out.below hb);clear hb HTd;refine hK.out _ _ ?_;clear hK K;refine nm_ ?_;refine pq_ ?_;refine done_ (by kernel_rfl) ?_;obtain ⟨hc0, hc1, hf1⟩ := HT1.out.sc.cells;go_wp2
 go_quiet (fail)
 generalize hW : World.drewN _ nq = wx;have HT2 : As9 (St 39 b w0 s p out wx) := ⟨by rw [← hW]; exact HT1.out.below (bN9 (Below.refl _ _) _)⟩;clear hW HT1 hc0 hc1 hf1;obtain ⟨hc0, hc1, hf1⟩ := HT2.out.sc.cells;have H := HH.out;by_cases ce : (s.extract p.toNat te.toNat).toList = []
 case pos =>
  rw [if_pos ce] at H;obtain ⟨rfl, rfl⟩ := Prod.mk.inj (sI_ H);have qe : ((s.extract p.toNat te.toNat).toList == []) = true := bQ_ ce;clear H HH;go_wp2
  refine bodyPost_ret (results_none rfl _ _ _) rfl ?_;exact ⟨rfl, HT2.out.at_ _⟩
 case neg =>
  rw [if_neg ce] at H;obtain ⟨pl, hpl, H⟩ := oB_ H;have Hpl := A_ hpl;have qe : ((s.extract p.toNat te.toNat).toList == []) = false := bN_ ce;have HT2b := A_ (HT2.out.at_ te);cases pl with
  | true =>
   rw [if_pos rfl] at H;obtain ⟨o, ho, H⟩ := oB_ H;obtain ⟨rfl, rfl⟩ := Prod.mk.inj (sI_ H);have Ho := A_ ho;clear ho H HH hpl HT2;go_wp2_with (first | (go_at_call 73; (with_reducible refine (impl_isPlainRaw.calls nm true _ Hpl.out).mono ?_); rintro e w2 ⟨rfl, hb⟩; have HT3 := A_ (HT2b.out.below hb.below); clear hb HT2b; clear hc0 hc1 hf1; obtain ⟨hc0, hc1, hf1⟩ := HT3.out.sc.cells) | (go_at_call 106; (with_reducible refine (impl_scanner_put.calls b _ s _ out o 1 ⟨#[]⟩ [] ((s.extract p.toNat te.toNat)) false (.slice none 0 0) w0 _ HT3.out.sc HT3.out.bl (Kd.R_nil _ _ _ _ _) HT3.out.sc.lt (Nat.le_refl _) Ho.out).mono ?_); rintro e w2 ⟨rfl, hst⟩; have HT4 := A_ hst; clear hst HT3; clear hc0 hc1 hf1; obtain ⟨hc0, hc1, hf1⟩ := HT4.out.sc.cells))
   go_end0
   exact ⟨rfl, HT4.out⟩
  | false =>
   rw [if_neg si_] at H;obtain ⟨t, ht, H⟩ := oB_ H;obtain ⟨o, ho, H⟩ := oB_ H;obtain ⟨rfl, rfl⟩ := Prod.mk.inj (sI_ H);have Ho := A_ ho;have Ht := A_ ht;clear ho ht H HH hpl HT2;go_wp2_with (first | (go_at_call 73; (with_reducible refine (impl_isPlainRaw.calls nm false _ Hpl.out).mono ?_); rintro e w2 ⟨rfl, hb⟩; have HT3 := A_ (HT2b.out.below hb.below); clear hb HT2b; clear hc0 hc1 hf1; obtain ⟨hc0, hc1, hf1⟩ := HT3.out.sc.cells) | (go_at_call 105; (with_reducible refine (impl_Refs.calls k _ false t _ Ht.out).mono ?_); rintro e w2 ⟨rfl, hb⟩; have HT5 := A_ (HT3.out.below hb); clear hb HT3; clear hc0 hc1 hf1; obtain ⟨hc0, hc1, hf1⟩ := HT5.out.sc.cells) | (go_at_call 106; (with_reducible refine (impl_scanner_put.calls b _ s _ out o 1 ⟨#[]⟩ [] t false (.slice none 0 0) w0 _ HT5.out.sc HT5.out.bl (Kd.R_nil _ _ _ _ _) HT5.out.sc.lt (Nat.le_refl _) Ho.out).mono ?_); rintro e w2 ⟨rfl, hst⟩; have HT4 := A_ hst; clear hst HT5; clear hc0 hc1 hf1; obtain ⟨hc0, hc1, hf1⟩ := HT4.out.sc.cells))
   go_end0
   exact ⟨rfl, HT4.out⟩
def impl_scanner_tag.f (k : Nat) (s : BA) (p : Int) (out : List S43) (frm kd : Int) : Option (Int × List S43) :=
 if 0 ≤ p ∧ p ≤ s.size ∧ s.size ≤ 1000000 ∧ 0 ≤ frm then (impl_TagEnd.f s p).bind fun en => if en < 0 then some ((s.size : Int), out) else (impl_nameEnd.f k s frm).bind fun bh =>
  if frm ≤ bh ∧ bh ≤ en ∧ en ≤ s.size then (impl_Small.f (s.extract frm.toNat bh.toNat)).bind fun nm => if kd = 3 then (impl_scanner_put.f out ⟨kd, nm, [], ⟨#[]⟩, false⟩).bind fun o => some (en + 1, o) else
   (impl_Attrs.f k (s.extract bh.toNat en.toNat)).bind fun q => (impl_scanner_put.f out ⟨kd, nm, q.1, ⟨#[]⟩, q.2⟩).bind fun o => (impl_Raw.f nm).bind fun rw_ => if rw_ = true then (if q.2 = true then some (en + 1, o) else impl_scanner_raw.f k s (en + 1) o nm) else some (en + 1, o)
  else none
 else none
theorem impl_scanner_tag.mono : ∀ s p out frm kd k, LeO (impl_scanner_tag.f k s p out frm kd) (impl_scanner_tag.f (k + 1) s p out frm kd) := fun s p out frm kd k => LeO.ite (LeO.bind (LeO.refl _) fun en => LeO.ite (LeO.refl _) (LeO.bind (impl_nameEnd.mono _ _ _) fun bh => LeO.ite (LeO.bind (LeO.refl _) fun nm => LeO.ite (LeO.refl _) (LeO.bind (impl_Attrs.mono _ _) fun q => LeO.bind (LeO.refl _) fun o => LeO.bind (LeO.refl _) fun r => LeO.ite (LeO.ite (LeO.refl _) (impl_scanner_raw.mono _ _ _ _ _)) (LeO.refl _))) (LeO.refl _))) (LeO.refl _)
theorem impl_scanner_tag.calls (k : Nat) (b : Nat) (s : BA) (p : Int) (out : List S43) (frm kd : Int) (p' : Int) (out' : List S43) (w0 w : World) (hS : St 39 b w0 s p out w) (hb0 : w0.heap.size ≤ b) (hL : LibOk w0) (h : impl_scanner_tag.f k s p out frm kd = some (p', out')) :
  Calls Tryz.prog 70 #[.pointer (some ⟨b, 0, none⟩), .int .i64 frm, .int .i64 kd] w fun e w' => e = .returned (.tuple #[]) ∧ St 39 b w0 s p' out' w' := by
 have HT := A_ hS;have HB0 := A_ hb0;have HL := A_ hL;clear hS hb0 hL;have hu := Tryz.underlying43;unfold impl_scanner_tag.f at h;split at h
 case isFalse => cases h
 case isTrue hg =>
 obtain ⟨p0, p1, hs, f0⟩ := hg;obtain ⟨en, hen, h⟩ := oB_ h;have Hen := A_ hen;have HH := A_ h;clear hen h;obtain ⟨hc0, hc1, hf1⟩ := HT.out.sc.cells;go_enter Tryz.func70, Tryz.ntmps70
 go_wp2
 have HTd := A_ (HT.out.below (below_drew (Below.refl _ _)));clear HT hc0 hc1 hf1;refine start_ (n := 10) (S := fun w' => w'.cell? ⟨b, 0, none⟩ = some (.string s) ∧ w'.cell? ⟨b, 1, none⟩ = some (.int .i64 p)) (ds := [8]) (tS 10 0) (by kernel_rfl) rfl rfl ⟨HTd.out.sc.cells.1, HTd.out.sc.cells.2.1⟩ (fun hHeld => ?_);generalize World.drew _ = wr0 at HTd hHeld ⊢;iterate 3 refine pq_ ?_
 refine tq_ rfl (by rintro w' ⟨s0, s1⟩; go_simp; with_reducible rfl) ?_;iterate 3 refine pq_ ?_
 refine tq_ rfl (by rintro w' ⟨s0, s1⟩; go_simp; with_reducible rfl) ?_;refine last_ (i := 8) (N := some 17) (tS 10 9) rfl rfl (by kernel_rfl) de_ (fun K hK => ?_);refine gS_ Tryz.func109 #[.string s, .int .i64 p] ?_;with_reducible refine (impl_TagEnd.calls s p en _ Hen.out).mono ?_
 rintro e wr8 ⟨rfl, hb⟩;refine ⟨_, rfl, ?_⟩;have HT1 := A_ (HTd.out.below hb);clear hb HTd;refine hK.out _ _ ?_;clear hK K;refine nm_ ?_;refine pq_ ?_;refine done_ (by kernel_rfl) ?_;obtain ⟨hc0, hc1, hf1⟩ := HT1.out.sc.cells;have H := HH.out;by_cases ce : en < 0
 case pos =>
  rw [if_pos ce] at H;obtain ⟨rfl, rfl⟩ := Prod.mk.inj (sI_ H);have qe := eq_true ce;clear H HH;go_wp2
  refine bodyPost_ret (results_none rfl _ _ _) rfl ?_;exact ⟨rfl, HT1.out.at_ _⟩
 case neg =>
 rw [if_neg ce] at H;have qe := eq_false ce;obtain ⟨bh, hbh, H⟩ := oB_ H;split at H
 case isFalse => cases H
 case isTrue hg =>
 obtain ⟨b0, b1, b2⟩ := hg;obtain ⟨nm, hnm, H⟩ := oB_ H;have Hbh := A_ hbh;have Hnm := A_ hnm;have HQ := A_ H;clear hbh hnm H HH;have g1 := eq_true f0;have g2 := eq_true b0;have g3 := eq_true (show bh ≤ (s.size : Int) by omega);have g4 := eq_true (show 0 ≤ bh by omega);have g5 := eq_true b1;have g6 := eq_true b2;have hw1 : wrap64 (en + 1) = en + 1 := by unfold wrap64; omega
 go_upto_region 5 with (first | (go_at_call 110; (with_reducible refine (impl_nameEnd.calls k s frm bh _ Hbh.out).mono ?_); rintro e w2 ⟨rfl, hb⟩; have HT2 := A_ (HT1.out.below hb.below); clear hb HT1; clear hc0 hc1 hf1; obtain ⟨hc0, hc1, hf1⟩ := HT2.out.sc.cells) | (go_at_call 111; (with_reducible refine (impl_Small.calls _ nm _ Hnm.out).mono ?_); rintro e w2 ⟨rfl, hb⟩; have HT3 := A_ (HT2.out.below hb); clear hb HT2; clear hc0 hc1 hf1; obtain ⟨hc0, hc1, hf1⟩ := HT3.out.sc.cells) | ((with_reducible refine gate_dst (N := 8) rfl ?_); refine bE_ #[.int .i64 0, .string ⟨#[]⟩, .slice none 0 0, .string ⟨#[]⟩, .bool false] 43 ?_; intro gt hgt wb hbox hbl; obtain ⟨v, gs, hgo, hp⟩ := HT3.out.pu hgt hbox hbl; subst hgo; have HP := A_ hp; clear hgt hbox hbl hp HT3 hc0 hc1 hf1; obtain ⟨hc0, hc1, hf1⟩ := HP.out.scn.cells; have hz0 := (blk_cell HP.out.xt 0).trans rfl; have hz1 := (blk_cell HP.out.xt 1).trans rfl; have hz2 := (blk_cell HP.out.xt 2).trans rfl; have hz3 := (blk_cell HP.out.xt 3).trans rfl; have hz4 := (blk_cell HP.out.xt 4).trans rfl; have hy0 := blk_frozen HP.out.xt 0; have hy1 := blk_frozen HP.out.xt 1; have hy2 := blk_frozen HP.out.xt 2; have hy3 := blk_frozen HP.out.xt 3; have hy4 := blk_frozen HP.out.xt 4))
 have HP5 := A_ (HP.out.five (.int .i64 kd) (.string nm) (.string ⟨#[]⟩) (.bool false));generalize hwe : World.setCell _ _ _ = we at HP5 ⊢;clear hwe HP;clear hc0 hc1 hf1 hz0 hz1 hz2 hz3 hz4 hy0 hy1 hy2 hy3 hy4;obtain ⟨hc0, hc1, hf1⟩ := HP5.out.scn.cells; have hz0 := (blk_cell HP5.out.xt 0).trans rfl; have hz1 := (blk_cell HP5.out.xt 1).trans rfl; have hz2 := (blk_cell HP5.out.xt 2).trans rfl; have hz3 := (blk_cell HP5.out.xt 3).trans rfl; have hz4 := (blk_cell HP5.out.xt 4).trans rfl; have hy0 := blk_frozen HP5.out.xt 0; have hy1 := blk_frozen HP5.out.xt 1; have hy2 := blk_frozen HP5.out.xt 2; have hy3 := blk_frozen HP5.out.xt 3; have hy4 := blk_frozen HP5.out.xt 4;have hne1 : (b = gt) = False := eq_false (Nat.ne_of_lt HP5.out.bg);have hne2 : (gt = b) = False := eq_false (Nat.ne_of_gt HP5.out.bg);go_upto_region 6 with (fail)
 have HP6 := A_ (HP5.out.toAt (en + 1));generalize hwe : World.setCell _ _ _ = wf at HP6 ⊢;clear hwe HP5;clear hc0 hc1 hf1 hz0 hz1 hz2 hz3 hz4 hy0 hy1 hy2 hy3 hy4;obtain ⟨hc0, hc1, hf1⟩ := HP6.out.scn.cells; have hz0 := (blk_cell HP6.out.xt 0).trans rfl; have hz1 := (blk_cell HP6.out.xt 1).trans rfl; have hz2 := (blk_cell HP6.out.xt 2).trans rfl; have hz3 := (blk_cell HP6.out.xt 3).trans rfl; have hz4 := (blk_cell HP6.out.xt 4).trans rfl; have hy0 := blk_frozen HP6.out.xt 0; have hy1 := blk_frozen HP6.out.xt 1; have hy2 := blk_frozen HP6.out.xt 2; have hy3 := blk_frozen HP6.out.xt 3; have hy4 := blk_frozen HP6.out.xt 4;have H := HQ.out;by_cases ck : kd = 3
 case pos =>
  subst ck;rw [if_pos rfl] at H;obtain ⟨o, ho, H⟩ := oB_ H;obtain ⟨rfl, rfl⟩ := Prod.mk.inj (sI_ H);have Ho := A_ ho;clear ho H HQ;go_wp2_with ((go_at_call 106; (with_reducible refine (impl_scanner_put.calls b _ s _ _ o 3 nm [] ⟨#[]⟩ false (.slice none 0 0) w0 _ HP6.out.scn HP6.out.bl (Kd.R_nil _ _ _ _ _) HP6.out.bn HP6.out.hn Ho.out).mono ?_); rintro e w2 ⟨rfl, hst⟩; have HT9 := A_ hst; clear hst HP6))
  refine bodyPost_ret (results_none rfl _ _ _) rfl ?_;exact ⟨rfl, HT9.out⟩
 case neg =>
 rw [if_neg ck] at H;have qk : (kd == 3) = false := bN_ ck;have qk' := eq_false ck;obtain ⟨⟨a1, a2⟩, ha, H⟩ := oB_ H;obtain ⟨o, ho, H⟩ := oB_ H;obtain ⟨rw_, hrw, H⟩ := oB_ H;have Ha := A_ ha;have Ho := A_ ho;have Hrw := A_ hrw;have HR := A_ H;clear ha ho hrw H HQ;go_upto_region 9 with ((go_at_call 112; (with_reducible refine (impl_Attrs.calls k _ a1 a2 _ Ha.out).mono ?_); rintro e w3 ⟨v2, rfl, hr, hb⟩; have HA := A_ (Kd.R_mono (Kd.R_lower (Kd.R_bound hr) HP6.out.hn) (ok' := fun k_ => k_ ≠ gt) (fun k_ hk_ => by have := hk_.2.1; have := blk_lt HP6.out.xt; omega)); have HP7 := A_ (HP6.out.below hb); clear hr hb HP6; obtain ⟨A2, c2, rfl⟩ := Kd.R_slice HA.out; clear hc0 hc1 hf1 hz0 hz1 hz2 hz3 hz4 hy0 hy1 hy2 hy3 hy4; obtain ⟨hc0, hc1, hf1⟩ := HP7.out.scn.cells; have hz0 := (blk_cell HP7.out.xt 0).trans rfl; have hz1 := (blk_cell HP7.out.xt 1).trans rfl; have hz2 := (blk_cell HP7.out.xt 2).trans rfl; have hz3 := (blk_cell HP7.out.xt 3).trans rfl; have hz4 := (blk_cell HP7.out.xt 4).trans rfl; have hy0 := blk_frozen HP7.out.xt 0; have hy1 := blk_frozen HP7.out.xt 1; have hy2 := blk_frozen HP7.out.xt 2; have hy3 := blk_frozen HP7.out.xt 3; have hy4 := blk_frozen HP7.out.xt 4))
 have HP8 := A_ ((HP7.out.attrs HA.out).cell 4 (.bool a2) (d0 := .int .i64 kd) (d1 := .string nm) (d3 := .string ⟨#[]⟩) (d4 := .bool a2) rfl);generalize hwe : World.setCell _ _ _ = wg at HP8 ⊢;clear hwe HP7 HA;clear hc0 hc1 hf1 hz0 hz1 hz2 hz3 hz4 hy0 hy1 hy2 hy3 hy4;obtain ⟨hc0, hc1, hf1⟩ := HP8.out.scn.cells; have hz0 := (blk_cell HP8.out.xt 0).trans rfl; have hz1 := (blk_cell HP8.out.xt 1).trans rfl; have hz2 := (blk_cell HP8.out.xt 2).trans rfl; have hz3 := (blk_cell HP8.out.xt 3).trans rfl; have hz4 := (blk_cell HP8.out.xt 4).trans rfl; have hy0 := blk_frozen HP8.out.xt 0; have hy1 := blk_frozen HP8.out.xt 1; have hy2 := blk_frozen HP8.out.xt 2; have hy3 := blk_frozen HP8.out.xt 3; have hy4 := blk_frozen HP8.out.xt 4;go_upto_region 10 with ((go_at_call 106; (with_reducible refine (impl_scanner_put.callsX (fun k_ => k_ = gt) b _ s _ _ o kd nm a1 ⟨#[]⟩ a2 _ w0 _ HP8.out.scx HP8.out.bl (Kd.R_mono HP8.out.ar (fun k_ hk_ => hk_.1)) (fun k_ hk_ => by have := blk_lt HP8.out.xt; omega) HP8.out.bn HP8.out.hn Ho.out).mono ?_); rintro e w4 ⟨rfl, hst, hfx⟩; have HT9 := A_ hst; have HX9 := A_ ((hfx gt rfl (blk_lt HP8.out.xt) (Nat.ne_of_gt HP8.out.bg)).trans HP8.out.xt); clear hst hfx HP8 hc0 hc1 hf1 hz0 hz1 hz2 hz3 hz4 hy0 hy1 hy2 hy3 hy4))
 obtain ⟨hc0, hc1, hf1⟩ := HT9.out.sc.cells;have hz1 := (blk_cell HX9.out 1).trans rfl;have hz4 := (blk_cell HX9.out 4).trans rfl;have H := HR.out;try dsimp only at H
 cases rw_ with
 | false =>
  rw [if_neg si_] at H;obtain ⟨rfl, rfl⟩ := Prod.mk.inj (sI_ H);clear H HR;go_wp2_with ((go_at_call 41; (with_reducible refine (impl_Raw.calls nm false _ (LibOk.below HL.out (Below.mono HT9.out.bl HB0.out)) Hrw.out).mono ?_); rintro e w5 ⟨rfl, hb⟩; have HTa := A_ (HT9.out.below hb.below); have HXa := A_ (blk_below HX9.out hb.below); clear hb HT9 HX9 hc0 hc1 hf1 hz1 hz4; have hz1 := (blk_cell HXa.out 1).trans rfl; have hz4 := (blk_cell HXa.out 4).trans rfl))
  go_end0
  exact ⟨rfl, HTa.out⟩
 | true =>
  rw [if_pos rfl] at H;cases a2 with
  | true =>
   rw [if_pos rfl] at H;obtain ⟨rfl, rfl⟩ := Prod.mk.inj (sI_ H);clear H HR;go_wp2_with ((go_at_call 41; (with_reducible refine (impl_Raw.calls nm true _ (LibOk.below HL.out (Below.mono HT9.out.bl HB0.out)) Hrw.out).mono ?_); rintro e w5 ⟨rfl, hb⟩; have HTa := A_ (HT9.out.below hb.below); have HXa := A_ (blk_below HX9.out hb.below); clear hb HT9 HX9 hc0 hc1 hf1 hz1 hz4; have hz1 := (blk_cell HXa.out 1).trans rfl; have hz4 := (blk_cell HXa.out 4).trans rfl))
   go_end0
   exact ⟨rfl, HTa.out⟩
  | false =>
   rw [if_neg si_] at H;have Hraw := A_ H;clear H HR;go_wp2_with (first | (go_at_call 41; (with_reducible refine (impl_Raw.calls nm true _ (LibOk.below HL.out (Below.mono HT9.out.bl HB0.out)) Hrw.out).mono ?_); rintro e w5 ⟨rfl, hb⟩; have HTa := A_ (HT9.out.below hb.below); have HXa := A_ (blk_below HX9.out hb.below); clear hb HT9 HX9 hc0 hc1 hf1 hz1 hz4; have hz1 := (blk_cell HXa.out 1).trans rfl; have hz4 := (blk_cell HXa.out 4).trans rfl) | (go_at_call 113; (with_reducible refine (impl_scanner_raw.calls k b s _ o nm _ _ w0 _ HTa.out Hraw.out).mono ?_); rintro e w6 ⟨rfl, hst⟩; have HTb := A_ hst; clear hst HTa HXa))
   go_end0
   exact ⟨rfl, HTb.out⟩
def oddB (k : Nat) (s : BA) (p : Int) (out : List S43) (n te at_ : Int) : Option (Int × List S43) :=
 if bt s (p + 1) = 47 ∧ (s.extract (p + 2).toNat te.toNat).toList = [] ∧ n = 0 then some (at_, out)
 else if bt s (p + 1) = 63 then (impl_scanner_put.f out ⟨4, ⟨#[]⟩, [], s.extract ((p + 2).toNat - 1) te.toNat, false⟩).bind fun o => some (at_, o)
 else (if bt s (p + 1) = 33 then (impl_Small.f (s.extract (p + 2).toNat te.toNat)).bind fun sm => strings_HasPrefix.f sm ⟨#[100, 111, 99, 116, 121, 112, 101]⟩ else some false).bind fun kd =>
  if kd = true then (impl_pastBlanks.f k (s.extract (p + 2).toNat te.toNat) 7).bind fun bl => if 0 ≤ bl ∧ bl ≤ (s.extract (p + 2).toNat te.toNat).size then
   (impl_Small.f ((s.extract (p + 2).toNat te.toNat).extract bl.toNat (s.extract (p + 2).toNat te.toNat).size)).bind fun kt => (impl_scanner_put.f out ⟨5, ⟨#[]⟩, [], kt, false⟩).bind fun o => some (at_, o) else none
  else (impl_scanner_put.f out ⟨4, ⟨#[]⟩, [], s.extract (p + 2).toNat te.toNat, false⟩).bind fun o => some (at_, o)
theorem oddB_mono : ∀ s p out n te at_ k, LeO (oddB k s p out n te at_) (oddB (k + 1) s p out n te at_) := fun s p out n te at_ k => LeO.ite (LeO.refl _) (LeO.ite (LeO.refl _) (LeO.bind (LeO.refl _) fun kd => LeO.ite (LeO.bind (impl_pastBlanks.mono _ _ _) fun bl => LeO.refl _) (LeO.refl _)))
def impl_scanner_odd.f (k : Nat) (s : BA) (p : Int) (out : List S43) : Option (Int × List S43) :=
 if 0 ≤ p ∧ p + 2 ≤ s.size ∧ s.size ≤ 1000000 then (strings_IndexByte.f (s.extract (p + 2).toNat s.size) 62).bind fun n => if -1 ≤ n ∧ p + 2 + n ≤ s.size then
  (if n < 0 then oddB k s p out n s.size s.size else oddB k s p out n (p + 2 + n) (p + 2 + n + 1)) else none
 else none
theorem impl_scanner_odd.mono : ∀ s p out k, LeO (impl_scanner_odd.f k s p out) (impl_scanner_odd.f (k + 1) s p out) := fun s p out k => LeO.ite (LeO.bind (LeO.refl _) fun n => LeO.ite (LeO.ite (oddB_mono _ _ _ _ _ _ _) (oddB_mono _ _ _ _ _ _ _)) (LeO.refl _)) (LeO.refl _)
theorem impl_scanner_odd.calls (k : Nat) (b : Nat) (s : BA) (p : Int) (out : List S43) (p' : Int) (out' : List S43) (w0 w : World) (hS : St 39 b w0 s p out w) (h : impl_scanner_odd.f k s p out = some (p', out')) :
  Calls Tryz.prog 71 #[.pointer (some ⟨b, 0, none⟩)] w fun e w' => e = .returned (.tuple #[]) ∧ St 39 b w0 s p' out' w' := by
 have HT := A_ hS;clear hS;unfold impl_scanner_odd.f at h;split at h
 case isFalse => cases h
 case isTrue hg =>
 obtain ⟨p0, p1, hs⟩ := hg;obtain ⟨n, hn, h⟩ := oB_ h;split at h
 case isFalse => cases h
 case isTrue hg =>
 obtain ⟨n0, n1⟩ := hg;have Hn := A_ hn;have HH := A_ h;clear hn h;have g1 := eq_true (show 0 ≤ p + 1 by omega);have g2 := eq_true (show p + 1 < (s.size : Int) by omega);have g3 := eq_true (show 0 ≤ p + 2 by omega);have g4 := eq_true p1;have hx := bt_at s (p + 1);have hw1 : wrap64 (p + 1) = p + 1 := by unfold wrap64; omega
 have hw2 : wrap64 (p + 2) = p + 2 := by unfold wrap64; omega
 have hw5 : wrap64 (p + 2 + n) = p + 2 + n := by unfold wrap64; omega
 have hw6 : wrap64 (p + 2 + n + 1) = p + 2 + n + 1 := by unfold wrap64; omega
 obtain ⟨hc0, hc1, hf1⟩ := HT.out.sc.cells;go_enter Tryz.func71, Tryz.ntmps71
 go_wp2
 go_quiet (fail)
 generalize hW : World.drewN w nq = wx;have HT1 : As9 (St 39 b w0 s p out wx) := ⟨by rw [← hW]; exact HT.out.below (bN9 (Below.refl _ _) _)⟩;clear hW HT hc0 hc1 hf1;obtain ⟨hc0, hc1, hf1⟩ := HT1.out.sc.cells;have H := HH.out;by_cases c : n < 0
 case pos =>
  rw [if_pos c] at H;have cb := eq_true c;unfold oddB at H;simp only [Int.toNat_natCast] at H;go_upto_region 10 with ((go_at_call 114; (with_reducible refine (strings_IndexByte.calls _ 62 n _ Hn.out).mono ?_); rintro e w2 ⟨rfl, hb⟩; have HT2 := A_ (HT1.out.below hb.below); clear hb HT1; clear hc0 hc1 hf1; obtain ⟨hc0, hc1, hf1⟩ := HT2.out.sc.cells))
  have HT3 := A_ ((HT2.out.at_ (p + 2 + n + 1)).at_ (s.size : Int));generalize htx : (s.extract (p + 2).toNat s.size) = tx at H ⊢;generalize hwe : World.setCell _ _ _ = we at HT3 ⊢;clear htx hwe HT2 hc0 hc1 hf1;obtain ⟨hc0, hc1, hf1⟩ := HT3.out.sc.cells;by_cases b1 : bt s (p + 1) = 47
  case pos =>
   by_cases ce : tx.toList = []
   case pos =>
    have qe : (tx.toList == []) = true := bQ_ ce;by_cases c0 : n = 0
    case pos =>
     exact absurd c0 om_
    case neg =>
     rw [if_neg (fun h => c0 h.2.2), if_neg om_, if_neg om_, Option.bind_some, if_neg si_] at H;have q0 : (n == 0) = false := bN_ c0;obtain ⟨o, ho, H⟩ := oB_ H;obtain ⟨rfl, rfl⟩ := Prod.mk.inj (sI_ H);have Ho := A_ ho;clear ho H HH;go_wp2_with ((go_at_call 106; (with_reducible refine (impl_scanner_put.calls b _ s _ out o 4 ⟨#[]⟩ [] tx false (.slice none 0 0) w0 _ HT3.out.sc HT3.out.bl (Kd.R_nil _ _ _ _ _) HT3.out.sc.lt (Nat.le_refl _) Ho.out).mono ?_); rintro e w2 ⟨rfl, hst⟩; have HT9 := A_ hst; clear hst HT3; clear hc0 hc1 hf1; obtain ⟨hc0, hc1, hf1⟩ := HT9.out.sc.cells))
     go_end0
     exact ⟨rfl, HT9.out⟩
   case neg =>
    have qe : (tx.toList == []) = false := bN_ ce;rw [if_neg (fun h => ce h.2.1), if_neg om_, if_neg om_, Option.bind_some, if_neg si_] at H;obtain ⟨o, ho, H⟩ := oB_ H;obtain ⟨rfl, rfl⟩ := Prod.mk.inj (sI_ H);have Ho := A_ ho;clear ho H HH;go_wp2_with ((go_at_call 106; (with_reducible refine (impl_scanner_put.calls b _ s _ out o 4 ⟨#[]⟩ [] tx false (.slice none 0 0) w0 _ HT3.out.sc HT3.out.bl (Kd.R_nil _ _ _ _ _) HT3.out.sc.lt (Nat.le_refl _) Ho.out).mono ?_); rintro e w2 ⟨rfl, hst⟩; have HT9 := A_ hst; clear hst HT3; clear hc0 hc1 hf1; obtain ⟨hc0, hc1, hf1⟩ := HT9.out.sc.cells))
    go_end0
    exact ⟨rfl, HT9.out⟩
  case neg =>
   have d1 : (bt s (p + 1) == 47) = false := bN_ b1;have d1' := eq_false b1;rw [if_neg (fun h => b1 h.1)] at H;by_cases b2 : bt s (p + 1) = 63
   case pos =>
    rw [if_pos b2] at H;obtain ⟨o, ho, H⟩ := oB_ H;obtain ⟨rfl, rfl⟩ := Prod.mk.inj (sI_ H);have Ho := A_ ho;have g7 := eq_true (show p + 2 - 1 ≤ (s.size : Int) by omega);have g8 := eq_true (show 0 ≤ p + 2 - 1 by omega);have g9 := eq_true (show (s.size : Int) ≤ (s.size : Int) by omega);have ga := eq_true (show 1 ≤ p + 2 by omega);have gb := eq_true (show p + 2 ≤ (s.size : Int) + 1 by omega);have gc := eq_true (show p + 2 - 1 < (s.size : Int) + 1 by omega);have hm1 : wrap64 (p + 2 - 1) = p + 2 - 1 := by unfold wrap64; omega
    clear ho H HH;go_wp2_with ((go_at_call 106; (with_reducible refine (impl_scanner_put.calls b _ s _ out o 4 ⟨#[]⟩ [] (s.extract ((p + 2).toNat - 1) s.size) false (.slice none 0 0) w0 _ HT3.out.sc HT3.out.bl (Kd.R_nil _ _ _ _ _) HT3.out.sc.lt (Nat.le_refl _) Ho.out).mono ?_); rintro e w2 ⟨rfl, hst⟩; have HT9 := A_ hst; clear hst HT3; clear hc0 hc1 hf1; obtain ⟨hc0, hc1, hf1⟩ := HT9.out.sc.cells))
    go_end0
    exact ⟨rfl, HT9.out⟩
   case neg =>
    have d2 : (bt s (p + 1) == 63) = false := bN_ b2;have d2' := eq_false b2;rw [if_neg b2] at H;by_cases b3 : bt s (p + 1) = 33
    case pos =>
     rw [if_pos b3] at H;obtain ⟨kd, hkd, H⟩ := oB_ H;obtain ⟨sm, hsm, hkd⟩ := oB_ hkd;have Hsm := A_ hsm;have Hkd := A_ hkd;clear hsm hkd;cases kd with
     | true =>
      rw [if_pos rfl] at H;obtain ⟨bl, hbl, H⟩ := oB_ H;split at H
      case isFalse => cases H
      case isTrue hq =>
      obtain ⟨kt, hkt, H⟩ := oB_ H;obtain ⟨o, ho, H⟩ := oB_ H;obtain ⟨rfl, rfl⟩ := Prod.mk.inj (sI_ H);have Hbl := A_ hbl;have Hkt := A_ hkt;have Ho := A_ ho;have g7 := eq_true hq.1;have g8 := eq_true hq.2;clear hbl hkt ho H HH hq;go_wp2_with (first | (go_at_call 111; (with_reducible refine (impl_Small.calls tx sm _ Hsm.out).mono ?_); rintro e w2 ⟨rfl, hb⟩; have HT3b := A_ (HT3.out.below hb); clear hb HT3 hc0 hc1 hf1) | (go_at_call 67; (with_reducible refine (strings_HasPrefix.calls sm ⟨#[100, 111, 99, 116, 121, 112, 101]⟩ true _ Hkd.out).mono ?_); rintro e w2 ⟨rfl, hb⟩; have HT4 := A_ (HT3b.out.below hb.below); clear hb HT3b) | (go_at_call 115; (with_reducible refine (impl_pastBlanks.calls k tx 7 bl _ Hbl.out).mono ?_); rintro e w2 ⟨rfl, hb⟩; have HT5 := A_ (HT4.out.below hb.below); clear hb HT4) | (go_at_call 111; (with_reducible refine (impl_Small.calls (tx.extract bl.toNat tx.size) kt _ Hkt.out).mono ?_); rintro e w2 ⟨rfl, hb⟩; have HT6 := A_ (HT5.out.below hb); clear hb HT5) | (go_at_call 106; (with_reducible refine (impl_scanner_put.calls b _ s _ out o 5 ⟨#[]⟩ [] kt false (.slice none 0 0) w0 _ HT6.out.sc HT6.out.bl (Kd.R_nil _ _ _ _ _) HT6.out.sc.lt (Nat.le_refl _) Ho.out).mono ?_); rintro e w2 ⟨rfl, hst⟩; have HT9 := A_ hst; clear hst HT6))
      go_end0
      exact ⟨rfl, HT9.out⟩
     | false =>
      rw [if_neg si_] at H;obtain ⟨o, ho, H⟩ := oB_ H;obtain ⟨rfl, rfl⟩ := Prod.mk.inj (sI_ H);have Ho := A_ ho;clear ho H HH;go_wp2_with (first | (go_at_call 111; (with_reducible refine (impl_Small.calls tx sm _ Hsm.out).mono ?_); rintro e w2 ⟨rfl, hb⟩; have HT3b := A_ (HT3.out.below hb); clear hb HT3 hc0 hc1 hf1) | (go_at_call 67; (with_reducible refine (strings_HasPrefix.calls sm ⟨#[100, 111, 99, 116, 121, 112, 101]⟩ false _ Hkd.out).mono ?_); rintro e w2 ⟨rfl, hb⟩; have HT4 := A_ (HT3b.out.below hb.below); clear hb HT3b) | (go_at_call 106; (with_reducible refine (impl_scanner_put.calls b _ s _ out o 4 ⟨#[]⟩ [] tx false (.slice none 0 0) w0 _ HT4.out.sc HT4.out.bl (Kd.R_nil _ _ _ _ _) HT4.out.sc.lt (Nat.le_refl _) Ho.out).mono ?_); rintro e w2 ⟨rfl, hst⟩; have HT9 := A_ hst; clear hst HT4))
      go_end0
      exact ⟨rfl, HT9.out⟩
    case neg =>
     have d3 : (bt s (p + 1) == 33) = false := bN_ b3;have d3' := eq_false b3;rw [if_neg b3, Option.bind_some, if_neg si_] at H;obtain ⟨o, ho, H⟩ := oB_ H;obtain ⟨rfl, rfl⟩ := Prod.mk.inj (sI_ H);have Ho := A_ ho;clear ho H HH;go_wp2_with ((go_at_call 106; (with_reducible refine (impl_scanner_put.calls b _ s _ out o 4 ⟨#[]⟩ [] tx false (.slice none 0 0) w0 _ HT3.out.sc HT3.out.bl (Kd.R_nil _ _ _ _ _) HT3.out.sc.lt (Nat.le_refl _) Ho.out).mono ?_); rintro e w2 ⟨rfl, hst⟩; have HT9 := A_ hst; clear hst HT3; clear hc0 hc1 hf1; obtain ⟨hc0, hc1, hf1⟩ := HT9.out.sc.cells))
     go_end0
     exact ⟨rfl, HT9.out⟩
 case neg =>
  rw [if_neg c] at H;have cb := eq_false c;have g5 := eq_true (show p + 2 ≤ p + 2 + n by omega);have g6 := eq_true n1;unfold oddB at H;skip
  go_upto_region 10 with ((go_at_call 114; (with_reducible refine (strings_IndexByte.calls _ 62 n _ Hn.out).mono ?_); rintro e w2 ⟨rfl, hb⟩; have HT2 := A_ (HT1.out.below hb.below); clear hb HT1; clear hc0 hc1 hf1; obtain ⟨hc0, hc1, hf1⟩ := HT2.out.sc.cells))
  have HT3 := A_ (HT2.out.at_ (p + 2 + n + 1));generalize htx : (s.extract (p + 2).toNat (p + 2 + n).toNat) = tx at H ⊢;generalize hwe : World.setCell _ _ _ = we at HT3 ⊢;clear htx hwe HT2 hc0 hc1 hf1;obtain ⟨hc0, hc1, hf1⟩ := HT3.out.sc.cells;by_cases b1 : bt s (p + 1) = 47
  case pos =>
   by_cases ce : tx.toList = []
   case pos =>
    have qe : (tx.toList == []) = true := bQ_ ce;by_cases c0 : n = 0
    case pos =>
     rw [if_pos ⟨b1, ce, c0⟩] at H;have q0 : (n == 0) = true := bQ_ c0;obtain ⟨rfl, rfl⟩ := Prod.mk.inj (sI_ H);clear H HH;go_wp2
     go_end0
     exact ⟨rfl, HT3.out⟩
    case neg =>
     rw [if_neg (fun h => c0 h.2.2), if_neg om_, if_neg om_, Option.bind_some, if_neg si_] at H;have q0 : (n == 0) = false := bN_ c0;obtain ⟨o, ho, H⟩ := oB_ H;obtain ⟨rfl, rfl⟩ := Prod.mk.inj (sI_ H);have Ho := A_ ho;clear ho H HH;go_wp2_with ((go_at_call 106; (with_reducible refine (impl_scanner_put.calls b _ s _ out o 4 ⟨#[]⟩ [] tx false (.slice none 0 0) w0 _ HT3.out.sc HT3.out.bl (Kd.R_nil _ _ _ _ _) HT3.out.sc.lt (Nat.le_refl _) Ho.out).mono ?_); rintro e w2 ⟨rfl, hst⟩; have HT9 := A_ hst; clear hst HT3; clear hc0 hc1 hf1; obtain ⟨hc0, hc1, hf1⟩ := HT9.out.sc.cells))
     go_end0
     exact ⟨rfl, HT9.out⟩
   case neg =>
    have qe : (tx.toList == []) = false := bN_ ce;rw [if_neg (fun h => ce h.2.1), if_neg om_, if_neg om_, Option.bind_some, if_neg si_] at H;obtain ⟨o, ho, H⟩ := oB_ H;obtain ⟨rfl, rfl⟩ := Prod.mk.inj (sI_ H);have Ho := A_ ho;clear ho H HH;go_wp2_with ((go_at_call 106; (with_reducible refine (impl_scanner_put.calls b _ s _ out o 4 ⟨#[]⟩ [] tx false (.slice none 0 0) w0 _ HT3.out.sc HT3.out.bl (Kd.R_nil _ _ _ _ _) HT3.out.sc.lt (Nat.le_refl _) Ho.out).mono ?_); rintro e w2 ⟨rfl, hst⟩; have HT9 := A_ hst; clear hst HT3; clear hc0 hc1 hf1; obtain ⟨hc0, hc1, hf1⟩ := HT9.out.sc.cells))
    go_end0
    exact ⟨rfl, HT9.out⟩
  case neg =>
   have d1 : (bt s (p + 1) == 47) = false := bN_ b1;have d1' := eq_false b1;rw [if_neg (fun h => b1 h.1)] at H;by_cases b2 : bt s (p + 1) = 63
   case pos =>
    rw [if_pos b2] at H;obtain ⟨o, ho, H⟩ := oB_ H;obtain ⟨rfl, rfl⟩ := Prod.mk.inj (sI_ H);have Ho := A_ ho;have g7 := eq_true (show p + 2 - 1 ≤ (p + 2 + n) by omega);have g8 := eq_true (show 0 ≤ p + 2 - 1 by omega);have g9 := eq_true (show (p + 2 + n) ≤ (s.size : Int) by omega);have ga := eq_true (show 1 ≤ p + 2 by omega);have gb := eq_true (show p + 2 ≤ (p + 2 + n) + 1 by omega);have gc := eq_true (show p + 2 - 1 < (p + 2 + n) + 1 by omega);have hm1 : wrap64 (p + 2 - 1) = p + 2 - 1 := by unfold wrap64; omega
    clear ho H HH;go_wp2_with ((go_at_call 106; (with_reducible refine (impl_scanner_put.calls b _ s _ out o 4 ⟨#[]⟩ [] (s.extract ((p + 2).toNat - 1) (p + 2 + n).toNat) false (.slice none 0 0) w0 _ HT3.out.sc HT3.out.bl (Kd.R_nil _ _ _ _ _) HT3.out.sc.lt (Nat.le_refl _) Ho.out).mono ?_); rintro e w2 ⟨rfl, hst⟩; have HT9 := A_ hst; clear hst HT3; clear hc0 hc1 hf1; obtain ⟨hc0, hc1, hf1⟩ := HT9.out.sc.cells))
    go_end0
    exact ⟨rfl, HT9.out⟩
   case neg =>
    have d2 : (bt s (p + 1) == 63) = false := bN_ b2;have d2' := eq_false b2;rw [if_neg b2] at H;by_cases b3 : bt s (p + 1) = 33
    case pos =>
     rw [if_pos b3] at H;obtain ⟨kd, hkd, H⟩ := oB_ H;obtain ⟨sm, hsm, hkd⟩ := oB_ hkd;have Hsm := A_ hsm;have Hkd := A_ hkd;clear hsm hkd;cases kd with
     | true =>
      rw [if_pos rfl] at H;obtain ⟨bl, hbl, H⟩ := oB_ H;split at H
      case isFalse => cases H
      case isTrue hq =>
      obtain ⟨kt, hkt, H⟩ := oB_ H;obtain ⟨o, ho, H⟩ := oB_ H;obtain ⟨rfl, rfl⟩ := Prod.mk.inj (sI_ H);have Hbl := A_ hbl;have Hkt := A_ hkt;have Ho := A_ ho;have g7 := eq_true hq.1;have g8 := eq_true hq.2;clear hbl hkt ho H HH hq;go_wp2_with (first | (go_at_call 111; (with_reducible refine (impl_Small.calls tx sm _ Hsm.out).mono ?_); rintro e w2 ⟨rfl, hb⟩; have HT3b := A_ (HT3.out.below hb); clear hb HT3 hc0 hc1 hf1) | (go_at_call 67; (with_reducible refine (strings_HasPrefix.calls sm ⟨#[100, 111, 99, 116, 121, 112, 101]⟩ true _ Hkd.out).mono ?_); rintro e w2 ⟨rfl, hb⟩; have HT4 := A_ (HT3b.out.below hb.below); clear hb HT3b) | (go_at_call 115; (with_reducible refine (impl_pastBlanks.calls k tx 7 bl _ Hbl.out).mono ?_); rintro e w2 ⟨rfl, hb⟩; have HT5 := A_ (HT4.out.below hb.below); clear hb HT4) | (go_at_call 111; (with_reducible refine (impl_Small.calls (tx.extract bl.toNat tx.size) kt _ Hkt.out).mono ?_); rintro e w2 ⟨rfl, hb⟩; have HT6 := A_ (HT5.out.below hb); clear hb HT5) | (go_at_call 106; (with_reducible refine (impl_scanner_put.calls b _ s _ out o 5 ⟨#[]⟩ [] kt false (.slice none 0 0) w0 _ HT6.out.sc HT6.out.bl (Kd.R_nil _ _ _ _ _) HT6.out.sc.lt (Nat.le_refl _) Ho.out).mono ?_); rintro e w2 ⟨rfl, hst⟩; have HT9 := A_ hst; clear hst HT6))
      go_end0
      exact ⟨rfl, HT9.out⟩
     | false =>
      rw [if_neg si_] at H;obtain ⟨o, ho, H⟩ := oB_ H;obtain ⟨rfl, rfl⟩ := Prod.mk.inj (sI_ H);have Ho := A_ ho;clear ho H HH;go_wp2_with (first | (go_at_call 111; (with_reducible refine (impl_Small.calls tx sm _ Hsm.out).mono ?_); rintro e w2 ⟨rfl, hb⟩; have HT3b := A_ (HT3.out.below hb); clear hb HT3 hc0 hc1 hf1) | (go_at_call 67; (with_reducible refine (strings_HasPrefix.calls sm ⟨#[100, 111, 99, 116, 121, 112, 101]⟩ false _ Hkd.out).mono ?_); rintro e w2 ⟨rfl, hb⟩; have HT4 := A_ (HT3b.out.below hb.below); clear hb HT3b) | (go_at_call 106; (with_reducible refine (impl_scanner_put.calls b _ s _ out o 4 ⟨#[]⟩ [] tx false (.slice none 0 0) w0 _ HT4.out.sc HT4.out.bl (Kd.R_nil _ _ _ _ _) HT4.out.sc.lt (Nat.le_refl _) Ho.out).mono ?_); rintro e w2 ⟨rfl, hst⟩; have HT9 := A_ hst; clear hst HT4))
      go_end0
      exact ⟨rfl, HT9.out⟩
    case neg =>
     have d3 : (bt s (p + 1) == 33) = false := bN_ b3;have d3' := eq_false b3;rw [if_neg b3, Option.bind_some, if_neg si_] at H;obtain ⟨o, ho, H⟩ := oB_ H;obtain ⟨rfl, rfl⟩ := Prod.mk.inj (sI_ H);have Ho := A_ ho;clear ho H HH;go_wp2_with ((go_at_call 106; (with_reducible refine (impl_scanner_put.calls b _ s _ out o 4 ⟨#[]⟩ [] tx false (.slice none 0 0) w0 _ HT3.out.sc HT3.out.bl (Kd.R_nil _ _ _ _ _) HT3.out.sc.lt (Nat.le_refl _) Ho.out).mono ?_); rintro e w2 ⟨rfl, hst⟩; have HT9 := A_ hst; clear hst HT3; clear hc0 hc1 hf1; obtain ⟨hc0, hc1, hf1⟩ := HT9.out.sc.cells))
     go_end0
     exact ⟨rfl, HT9.out⟩
def impl_scanner_next.f (k : Nat) (s : BA) (p : Int) (out : List S43) : Option (Int × List S43) :=
 if 0 ≤ p ∧ p < s.size ∧ s.size ≤ 1000000 then (impl_begins.f s p).bind fun c0 => if c0 = true then
  (strings_HasPrefix.f (s.extract p.toNat s.size) ⟨#[60, 33, 45, 45]⟩).bind fun c1 => if c1 = true then impl_scanner_note.f s p out else
  (impl_isLetterAt.f s (p + 1)).bind fun c2 => if c2 = true then impl_scanner_tag.f k s p out (p + 1) 2 else
  if p + 1 < s.size then (if bt s (p + 1) = 47 then impl_isLetterAt.f s (p + 2) else some false).bind fun c3 => if c3 = true then impl_scanner_tag.f k s p out (p + 2) 3 else impl_scanner_odd.f k s p out
  else none
 else impl_scanner_text.f k s p out
 else none
theorem impl_scanner_next.mono : ∀ s p out k, LeO (impl_scanner_next.f k s p out) (impl_scanner_next.f (k + 1) s p out) := fun s p out k => LeO.ite (LeO.bind (LeO.refl _) fun c0 => LeO.ite (LeO.bind (LeO.refl _) fun c1 => LeO.ite (LeO.refl _) (LeO.bind (LeO.refl _) fun c2 => LeO.ite (impl_scanner_tag.mono _ _ _ _ _ _) (LeO.ite (LeO.bind (LeO.refl _) fun c3 => LeO.ite (impl_scanner_tag.mono _ _ _ _ _ _) (impl_scanner_odd.mono _ _ _ _)) (LeO.refl _)))) (impl_scanner_text.mono _ _ _ _)) (LeO.refl _)
theorem impl_scanner_next.calls (k : Nat) (b : Nat) (s : BA) (p : Int) (out : List S43) (p' : Int) (out' : List S43) (w0 w : World) (hS : St 39 b w0 s p out w) (hb0 : w0.heap.size ≤ b) (hL : LibOk w0) (h : impl_scanner_next.f k s p out = some (p', out')) :
  Calls Tryz.prog 23 #[.pointer (some ⟨b, 0, none⟩)] w fun e w' => e = .returned (.tuple #[]) ∧ St 39 b w0 s p' out' w' := by
 have HT := A_ hS;have HB0 := A_ hb0;have HL := A_ hL;clear hS hb0 hL;unfold impl_scanner_next.f at h;split at h
 case isFalse => cases h
 case isTrue hg =>
 obtain ⟨p0, p1, hs⟩ := hg;obtain ⟨c0, hc, h⟩ := oB_ h;have Hc0 := A_ hc;have HH := A_ h;clear hc h;have g1 := eq_true p0;have g2 := eq_true (show p ≤ (s.size : Int) by omega);have hw1 : wrap64 (p + 1) = p + 1 := by unfold wrap64; omega
 have hw2 : wrap64 (p + 2) = p + 2 := by unfold wrap64; omega
 obtain ⟨hc0, hc1, hf1⟩ := HT.out.sc.cells;go_enter Tryz.func23, Tryz.ntmps23
 have H := HH.out;cases c0 with
 | false =>
  rw [if_neg si_] at H;have Hx := A_ H;clear H HH;go_wp2
  go_quiet (((go_at_call 65; (refine (impl_begins.calls s p false _ Hc0.out).mono ?_); rintro r w' ⟨rfl, ⟨nd, rfl⟩⟩; exact ⟨rfl, _, World.drewN_drewN _ _ _⟩)))
  generalize hW : World.drewN w nq = wx;have HT1 : As9 (St 39 b w0 s p out wx) := ⟨by rw [← hW]; exact HT.out.below (bN9 (Below.refl _ _) _)⟩;clear hW HT hc0 hc1 hf1;obtain ⟨hc0, hc1, hf1⟩ := HT1.out.sc.cells;go_wp2_with ((go_at_call 66; (with_reducible refine (impl_scanner_text.calls k b s p out _ _ w0 _ HT1.out Hx.out).mono ?_); rintro e w2 ⟨rfl, hst⟩; have HT2 := A_ hst; clear hst HT1 hc0 hc1 hf1))
  go_end0
  exact ⟨rfl, HT2.out⟩
 | true =>
 rw [if_pos rfl] at H;obtain ⟨c1, hc, H⟩ := oB_ H;have Hc1 := A_ hc;have HQ := A_ H;clear hc H HH;go_wp2
 go_quiet (((go_at_call 65; (refine (impl_begins.calls s p true _ Hc0.out).mono ?_); rintro r w' ⟨rfl, ⟨nd, rfl⟩⟩; exact ⟨rfl, _, World.drewN_drewN _ _ _⟩)))
 generalize hW : World.drewN w nq = wx;have HT1 : As9 (St 39 b w0 s p out wx) := ⟨by rw [← hW]; exact HT.out.below (bN9 (Below.refl _ _) _)⟩;clear hW HT hc0 hc1 hf1;obtain ⟨hc0, hc1, hf1⟩ := HT1.out.sc.cells;have H := HQ.out;cases c1 with
 | true =>
  rw [if_pos rfl] at H;have Hx := A_ H;clear H HQ;go_wp2
  go_quiet (((go_at_call 67; (refine (strings_HasPrefix.calls _ ⟨#[60, 33, 45, 45]⟩ true _ Hc1.out).mono ?_); rintro r w' ⟨rfl, ⟨nd, rfl⟩⟩; exact ⟨rfl, _, World.drewN_drewN _ _ _⟩)))
  generalize hW : World.drewN _ nq = wx;have HT2 : As9 (St 39 b w0 s p out wx) := ⟨by rw [← hW]; exact HT1.out.below (bN9 (Below.refl _ _) _)⟩;clear hW HT1 hc0 hc1 hf1;obtain ⟨hc0, hc1, hf1⟩ := HT2.out.sc.cells;go_wp2_with ((go_at_call 68; (with_reducible refine (impl_scanner_note.calls b s p out _ _ w0 _ HT2.out HB0.out HL.out Hx.out).mono ?_); rintro e w2 ⟨rfl, hst⟩; have HT3 := A_ hst; clear hst HT2 hc0 hc1 hf1))
  go_end0
  exact ⟨rfl, HT3.out⟩
 | false =>
 rw [if_neg si_] at H;obtain ⟨c2, hc, H⟩ := oB_ H;have Hc2 := A_ hc;have HR := A_ H;clear hc H HQ;go_wp2
 go_quiet (((go_at_call 67; (refine (strings_HasPrefix.calls _ ⟨#[60, 33, 45, 45]⟩ false _ Hc1.out).mono ?_); rintro r w' ⟨rfl, ⟨nd, rfl⟩⟩; exact ⟨rfl, _, World.drewN_drewN _ _ _⟩)))
 generalize hW : World.drewN _ nq = wx;have HT2 : As9 (St 39 b w0 s p out wx) := ⟨by rw [← hW]; exact HT1.out.below (bN9 (Below.refl _ _) _)⟩;clear hW HT1 hc0 hc1 hf1;obtain ⟨hc0, hc1, hf1⟩ := HT2.out.sc.cells;have H := HR.out;cases c2 with
 | true =>
  rw [if_pos rfl] at H;have Hx := A_ H;clear H HR;go_wp2
  go_quiet (((go_at_call 69; (refine (impl_isLetterAt.calls s _ true _ Hc2.out).mono ?_); rintro r w' ⟨rfl, ⟨nd, rfl⟩⟩; exact ⟨rfl, _, World.drewN_drewN _ _ _⟩)))
  generalize hW : World.drewN _ nq = wx;have HT3 : As9 (St 39 b w0 s p out wx) := ⟨by rw [← hW]; exact HT2.out.below (bN9 (Below.refl _ _) _)⟩;clear hW HT2 hc0 hc1 hf1;obtain ⟨hc0, hc1, hf1⟩ := HT3.out.sc.cells;go_wp2_with ((go_at_call 70; (with_reducible refine (impl_scanner_tag.calls k b s p out (p + 1) 2 _ _ w0 _ HT3.out HB0.out HL.out Hx.out).mono ?_); rintro e w2 ⟨rfl, hst⟩; have HT4 := A_ hst; clear hst HT3 hc0 hc1 hf1))
  go_end0
  exact ⟨rfl, HT4.out⟩
 | false =>
 rw [if_neg si_] at H;split at H
 case isFalse => cases H
 case isTrue hl =>
 obtain ⟨c3, hc, H⟩ := oB_ H;have Hc3 := A_ hc;have HS := A_ H;clear hc H HR;have g3 := eq_true (show 0 ≤ p + 1 by omega);have g4 := eq_true hl;have hx := bt_at s (p + 1);go_wp2
 go_quiet (((go_at_call 69; (refine (impl_isLetterAt.calls s _ false _ Hc2.out).mono ?_); rintro r w' ⟨rfl, ⟨nd, rfl⟩⟩; exact ⟨rfl, _, World.drewN_drewN _ _ _⟩)))
 generalize hW : World.drewN _ nq = wx;have HT3 : As9 (St 39 b w0 s p out wx) := ⟨by rw [← hW]; exact HT2.out.below (bN9 (Below.refl _ _) _)⟩;clear hW HT2 hc0 hc1 hf1;obtain ⟨hc0, hc1, hf1⟩ := HT3.out.sc.cells;have H := HS.out;by_cases b1 : bt s (p + 1) = 47
 case neg =>
  have h3 := Hc3.out;rw [if_neg b1] at h3;obtain rfl := sI_ h3;have d1 : (bt s (p + 1) == 47) = false := bN_ b1;have d1' := eq_false b1;rw [if_neg si_] at H;have Hx := A_ H;clear H HS h3;go_wp2
  go_quiet (fail)
  generalize hW : World.drewN _ nq = wx;have HT4 : As9 (St 39 b w0 s p out wx) := ⟨by rw [← hW]; exact HT3.out.below (bN9 (Below.refl _ _) _)⟩;clear hW HT3 hc0 hc1 hf1;obtain ⟨hc0, hc1, hf1⟩ := HT4.out.sc.cells;go_wp2_with ((go_at_call 71; (with_reducible refine (impl_scanner_odd.calls k b s p out _ _ w0 _ HT4.out Hx.out).mono ?_); rintro e w2 ⟨rfl, hst⟩; have HT5 := A_ hst; clear hst HT4 hc0 hc1 hf1))
  go_end0
  exact ⟨rfl, HT5.out⟩
 case pos =>
 have h3 := Hc3.out;rw [if_pos b1] at h3;have H3 := A_ h3;clear h3 Hc3;cases c3 with
 | true =>
  rw [if_pos rfl] at H;have Hx := A_ H;clear H HS;go_wp2
  go_quiet (((go_at_call 69; (refine (impl_isLetterAt.calls s _ true _ H3.out).mono ?_); rintro r w' ⟨rfl, ⟨nd, rfl⟩⟩; exact ⟨rfl, _, World.drewN_drewN _ _ _⟩)))
  generalize hW : World.drewN _ nq = wx;have HT4 : As9 (St 39 b w0 s p out wx) := ⟨by rw [← hW]; exact HT3.out.below (bN9 (Below.refl _ _) _)⟩;clear hW HT3 hc0 hc1 hf1;obtain ⟨hc0, hc1, hf1⟩ := HT4.out.sc.cells;go_wp2_with ((go_at_call 70; (with_reducible refine (impl_scanner_tag.calls k b s p out (p + 2) 3 _ _ w0 _ HT4.out HB0.out HL.out Hx.out).mono ?_); rintro e w2 ⟨rfl, hst⟩; have HT5 := A_ hst; clear hst HT4 hc0 hc1 hf1))
  go_end0
  exact ⟨rfl, HT5.out⟩
 | false =>
  rw [if_neg si_] at H;have Hx := A_ H;clear H HS;go_wp2
  go_quiet (((go_at_call 69; (refine (impl_isLetterAt.calls s _ false _ H3.out).mono ?_); rintro r w' ⟨rfl, ⟨nd, rfl⟩⟩; exact ⟨rfl, _, World.drewN_drewN _ _ _⟩)))
  generalize hW : World.drewN _ nq = wx;have HT4 : As9 (St 39 b w0 s p out wx) := ⟨by rw [← hW]; exact HT3.out.below (bN9 (Below.refl _ _) _)⟩;clear hW HT3 hc0 hc1 hf1;obtain ⟨hc0, hc1, hf1⟩ := HT4.out.sc.cells;go_wp2_with ((go_at_call 71; (with_reducible refine (impl_scanner_odd.calls k b s p out _ _ w0 _ HT4.out Hx.out).mono ?_); rintro e w2 ⟨rfl, hst⟩; have HT5 := A_ hst; clear hst HT4 hc0 hc1 hf1))
  go_end0
  exact ⟨rfl, HT5.out⟩
end Go.Proofs.YtkbbfeckieckoaaGreatDoor.A
