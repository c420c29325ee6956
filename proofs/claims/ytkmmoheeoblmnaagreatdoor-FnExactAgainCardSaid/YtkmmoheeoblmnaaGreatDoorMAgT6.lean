-- joined by wip/tools/shake.py
import Derived.Test.YtkmmoheeoblmnaaGreatDoorVAgTW9
import Derived.Test.YtkmmoheeoblmnaaGreatDoorMAgT0
import Derived.Test.YtkmmoheeoblmnaaGreatDoorMAgT2
import Derived.Test.YtkmmoheeoblmnaaGreatDoorMAgT5
import Derived.Test.YtkmmoheeoblmnaaGreatDoorMAgT3
set_option maxHeartbeats 16000000
set_option maxRecDepth 100000
namespace Go.Proofs.YtkmmoheeoblmnaaGreatDoor.A
open Go.RowKit Go.Proofs.YtkmmoheeoblmnaaGreatDoorW.PrintWords Go.Proofs.YtkmmoheeoblmnaaGreatDoorW.PrintLast Go.Proofs.YtkmmoheeoblmnaaGreatDoorW.PrintMore
attribute [local go_sem] max2_int min2_int max_two min_two max_three min_three max_four min_four
set_option linter.unusedVariables false
set_option linter.unusedSimpArgs false
theorem set_last {α : Type} (l : List α) (a b : α) : (l ++ [a]).set l.length b = l ++ [b] := by simp [List.set_append]
theorem set6 {w w9 : World} {g : Nat} (hb : Below w.heap.size w w9) (hg : w.heap.size ≤ g) (v0 v1 v2 v3 v4 v5 : Value) :
  Below w.heap.size w ((((((w9.setCell ⟨g, 0, none⟩ v0).setCell ⟨g, 1, none⟩ v1).setCell ⟨g, 2, none⟩ v2).setCell ⟨g, 3, none⟩ v3).setCell ⟨g, 4, none⟩ v4).setCell ⟨g, 5, none⟩ v5) := below_six hb hg _ _ _ _ _ _
mutual
def readEl : Nat → Int → Int → ByteArray → Int → Bool → Option (S43 × ByteArray × Int × Bool)
 | 0, _, _, _, _, _ => none
 | n + 1, about, deep, s, p, b =>
  if deep < 1 then some (z43, s, p, true) else
  (impl_reader_take.f s p b ⟨#[60]⟩).bind fun t1 => (impl_reader_name.f n t1.1 t1.2.1 t1.2.2).bind fun q => (impl_reader_attrs.f n about about q.2.1 q.2.2.1 q.2.2.2).bind fun a =>
  (impl_reader_is.f a.2.2.1 a.2.2.2.1 a.2.2.2.2 ⟨#[47, 62]⟩).bind fun t => if t.1 = true then
   (impl_reader_take.f t.2.1 t.2.2.1 t.2.2.2 ⟨#[47, 62]⟩).bind fun t2 => some (⟨1, a.2.1, q.1, a.1, ⟨#[]⟩, []⟩, t2)
  else (impl_reader_take.f t.2.1 t.2.2.1 t.2.2.2 ⟨#[62]⟩).bind fun t3 => (kidsL n a.2.1 deep t3.1 t3.2.1 t3.2.2 []).bind fun ks =>
   if q.1.size ≤ 140737488351232 then (impl_reader_take.f ks.2.1 ks.2.2.1 ks.2.2.2 ((⟨#[60, 47]⟩ ++ q.1) ++ ⟨#[62]⟩)).bind fun t4 => some (⟨1, a.2.1, q.1, a.1, ⟨#[]⟩, ks.1⟩, t4) else none
def kidsL : Nat → Int → Int → ByteArray → Int → Bool → List S43 → Option (List S43 × ByteArray × Int × Bool)
 | 0, _, _, _, _, _, _ => none
 | n + 1, sp, deep, s, p, b, kids => if b = true then some (kids, s, p, b) else
  (impl_reader_is.f s p b ⟨#[60, 47]⟩).bind fun t => if t.1 = true then some (kids, t.2) else
   (readKid n sp (wrap64 (deep - 1)) t.2.1 t.2.2.1 t.2.2.2).bind fun kd => if kids.length < 1000000000000 then kidsL n sp deep kd.2.1 kd.2.2.1 kd.2.2.2 (kids ++ [kd.1]) else none
def readKid : Nat → Int → Int → ByteArray → Int → Bool → Option (S43 × ByteArray × Int × Bool)
 | 0, _, _, _, _, _ => none
 | n + 1, about, deep, s, p, b => (impl_reader_is.f s p b ⟨#[60, 33, 45, 45]⟩).bind fun t => if t.1 = true then
   (impl_reader_note.f n t.2.1 t.2.2.1 t.2.2.2).bind fun q => some (⟨q.1, 0, ⟨#[]⟩, [], q.2.1, []⟩, q.2.2)
  else (impl_reader_is.f t.2.1 t.2.2.1 t.2.2.2 ⟨#[60]⟩).bind fun t2 => if t2.1 = true then readEl n about deep t2.2.1 t2.2.2.1 t2.2.2.2
  else (impl_reader_text.f n t2.2.1 t2.2.2.1 t2.2.2.2).bind fun q => some (⟨q.1, 0, ⟨#[]⟩, [], q.2.1, []⟩, q.2.2)
end
theorem readEl_mono_all : ∀ k, (∀ y0 y1 y2 y3 y4, LeO (readEl k y0 y1 y2 y3 y4) (readEl (k + 1) y0 y1 y2 y3 y4)) ∧ (∀ y0 y1 y2 y3 y4 y5, LeO (kidsL k y0 y1 y2 y3 y4 y5) (kidsL (k + 1) y0 y1 y2 y3 y4 y5)) ∧ (∀ y0 y1 y2 y3 y4, LeO (readKid k y0 y1 y2 y3 y4) (readKid (k + 1) y0 y1 y2 y3 y4))
 | 0 => ⟨fun _ _ _ _ _ r h => by simp [readEl] at h, fun _ _ _ _ _ _ r h => by simp [kidsL] at h, fun _ _ _ _ _ r h => by simp [readKid] at h⟩
 | k + 1 => by
  obtain ⟨i1, i2, i3⟩ := readEl_mono_all k;refine ⟨fun y0 y1 y2 y3 y4 => ?_, fun y0 y1 y2 y3 y4 y5 => ?_, fun y0 y1 y2 y3 y4 => ?_⟩
  ·rw [readEl, readEl];exact LeO.ite (LeO.refl _) (LeO.bind (LeO.refl _) fun t1 => LeO.bind (impl_reader_name.mono _ _ _ _) fun q => LeO.bind (impl_reader_attrs.mono _ _ _ _ _ _) fun a => LeO.bind (LeO.refl _) fun t => LeO.ite (LeO.refl _) (LeO.bind (LeO.refl _) fun t3 => LeO.bind (i2 _ _ _ _ _ _) fun ks => LeO.refl _))
  ·rw [kidsL, kidsL];exact LeO.ite (LeO.refl _) (LeO.bind (LeO.refl _) fun t => LeO.ite (LeO.refl _) (LeO.bind (i3 _ _ _ _ _) fun kd => LeO.ite (i2 _ _ _ _ _ _) (LeO.refl _)))
  ·rw [readKid, readKid];exact LeO.bind (LeO.refl _) fun t => LeO.ite (LeO.bind (impl_reader_note.mono _ _ _ _) fun q => LeO.refl _) (LeO.bind (LeO.refl _) fun t2 => LeO.ite (i1 _ _ _ _ _) (LeO.bind (impl_reader_text.mono _ _ _ _) fun q => LeO.refl _))
def ElPost (w0 w : World) (g : Nat) (r : S43) (r2 : BA) (r3 : Int) (r4 : Bool) (e : Ending) (w' : World) : Prop :=
 ∃ cs : Array Value, e = .returned (.agg cs) ∧ k43.M w' w0.heap.size (fun k_ => w.heap.size ≤ k_) r cs.toList ∧ IsS93 w0 w' g r2 r3 r4 ∧ Below w0.heap.size w0 w' ∧ KeepBut w w' g none
def ElC (k : Nat) : Prop := ∀ (g : Nat) (about deep : Int) (s : BA) (p : Int) (b : Bool) (r : S43) (r2 : BA) (r3 : Int) (r4 : Bool) (w0 w : World), IsS93 w0 w g s p b → Below w0.heap.size w0 w → LibOk w0 → LibErr w0 → readEl k about deep s p b = some (r, r2, r3, r4) →
  Calls Tryz.prog 86 #[.pointer (some ⟨g, 0, none⟩), .int .i64 about, .int .i64 deep] w (ElPost w0 w g r r2 r3 r4)
def KidC (k : Nat) : Prop := ∀ (g : Nat) (about deep : Int) (s : BA) (p : Int) (b : Bool) (r : S43) (r2 : BA) (r3 : Int) (r4 : Bool) (w0 w : World), IsS93 w0 w g s p b → Below w0.heap.size w0 w → LibOk w0 → LibErr w0 → readKid k about deep s p b = some (r, r2, r3, r4) →
  Calls Tryz.prog 137 #[.pointer (some ⟨g, 0, none⟩), .int .i64 about, .int .i64 deep] w (ElPost w0 w g r r2 r3 r4)
theorem El_end {w0 w W : World} {g gr : Nat} {s : BA} {p : Int} {b : Bool} {r : S43} {cs : Array Value} {a0 a1 a2 a3 a4 a5 u0 u1 u2 u3 u4 u5 : Value} {ok : Nat → Prop} (hcs : cs = #[u0, u1, u2, u3, u4, u5]) (hI : IsS93 w0 W g s p b) (hB : Below w0.heap.size w0 W) (hK : KeepBut w W g none) (hX : W.heap[gr]? = some (.cells #[a0, a1, a2, a3, a4, a5] 43 (0, 0)))
  (hM : k43.M W w0.heap.size ok r cs.toList) (hok : ∀ k, ok k → w.heap.size ≤ k ∧ k ≠ gr) (hgr : w.heap.size ≤ gr) (hg : g ≠ gr) (hg0 : w0.heap.size ≤ gr) :
  ElPost w0 w g r s p b (.returned (.agg #[u0, u1, u2, u3, u4, u5])) ((((((W.setCell ⟨gr, 0, none⟩ u0).setCell ⟨gr, 1, none⟩ u1).setCell ⟨gr, 2, none⟩ u2).setCell ⟨gr, 3, none⟩ u3).setCell ⟨gr, 4, none⟩ u4).setCell ⟨gr, 5, none⟩ u5) := by
 subst hcs;have hk : KeepBut W ((((((W.setCell ⟨gr, 0, none⟩ u0).setCell ⟨gr, 1, none⟩ u1).setCell ⟨gr, 2, none⟩ u2).setCell ⟨gr, 3, none⟩ u3).setCell ⟨gr, 4, none⟩ u4).setCell ⟨gr, 5, none⟩ u5) gr none := ((((((KeepBut.refl W gr none).set_ 0 _).set_ 1 _).set_ 2 _).set_ 3 _).set_ 4 _).set_ 5 _;exact ⟨_, rfl, k43.M_mono (fun k hk => (hok k hk).1) (Kd.M_keep hM hk (fun k hk => (hok k hk).2)), st_six hI hg _ _ _ _ _ _, below_six hB hg0 _ _ _ _ _ _, keep_six hK hgr _ _ _ _ _ _⟩
theorem kid_step (k : Nat) (hE_ : ElC k) : KidC (k + 1) := by
 unfold ElC at hE_;intro g about deep s p b r r2 r3 r4 w0 w hI hB hL hE h;have hu := Tryz.underlying43;rw [readKid] at h;obtain ⟨⟨t, s1, p1, b1⟩, ht, H⟩ := oB_ h;dsimp only at H;have Ht := A_ ht;have HI := A_ hI;have HB := A_ hB;have HLL := A_ hL;have HEE := A_ hE;have HGN : As9 (w.heap.size ≠ g) := ⟨Nat.ne_of_gt hI.lt⟩;have HG0 : As9 (w0.heap.size ≤ w.heap.size) := ⟨hB.size⟩;clear ht h hI hB hL hE;cases t with
 | true =>
  rw [if_pos rfl] at H;obtain ⟨⟨q0, q1, s2, p2, b2⟩, hq, H⟩ := oB_ H;have Hq := A_ hq;simp only [Option.some.injEq, Prod.mk.injEq] at H;obtain ⟨rfl, rfl, rfl, rfl⟩ := H;clear hq;go_enter Tryz.func137, Tryz.ntmps137
  go_wp2_with (first | (go_at_call 95; (with_reducible refine (impl_reader_is.calls g s p b ⟨#[60, 33, 45, 45]⟩ _ s1 p1 b1 w0 _ (HI.out.alloc _) (bA9 HB.out _) Ht.out).mono ?_); rintro e w1 ⟨rfl, hi, hb, hk⟩; have HI1 := A_ hi; have HB1 := A_ hb; have HK1 := A_ ((keep_alloc (KeepBut.refl w g none) _).trans hk (.inl rfl)); have HX1 := A_ (hk.blk (heap_alloc_new w (.cells #[.int .i64 0, .int .i64 0, .string ⟨#[]⟩, .slice none 0 0, .string ⟨#[]⟩, .slice none 0 0] 43)) HGN.out si_); clear hi hb hk HI HB) | (go_at_call 96; (with_reducible refine (impl_reader_note.calls k g s1 p1 b1 q0 q1 s2 p2 b2 w0 _ HI1.out HB1.out HLL.out Hq.out).mono ?_); rintro e w2 ⟨rfl, hi, hb, hk⟩; have HI2 := A_ hi; have HB2 := A_ hb; have HK2 := A_ (HK1.out.trans hk (.inl rfl)); have HX2 := A_ (hk.blk HX1.out HGN.out si_); clear hi hb hk HI1 HB1 HK1 HX1; obtain ⟨hz0, hz1, hz2, hz3, hz4, hz5, hy0, hy1, hy2, hy3, hy4, hy5⟩ := bk6_ HX2.out))
  refine bodyPost_ret (results_single rfl (.cell w.heap.size 43 #[.int .i64 q0, .int .i64 0, .string ⟨#[]⟩, .slice none 0 0, .string q1, .slice none 0 0] (0, 0) _ rfl (blk_six HX2.out _ _ _ _ _ _) hu rfl (by kernel_rfl) .nil)) rfl ?_;exact El_end (ok := fun _ => False) rfl HI2.out HB2.out HK2.out HX2.out (k43_mkM _ _ _ ⟨q0, 0, ⟨#[]⟩, [], q1, []⟩ (Kd.R_nil _ _ _ _ _) (Kd.R_nil _ _ _ _ _)) (fun _ h => h.elim) (Nat.le_refl _) (Ne.symm HGN.out) HG0.out
 | false =>
  rw [if_neg si_] at H;obtain ⟨⟨t2, s2, p2, b2⟩, ht2, H⟩ := oB_ H;dsimp only at H;have Ht2 := A_ ht2;clear ht2;cases t2 with
  | true =>
   rw [if_pos rfl] at H;have HH := A_ H;clear H;go_enter Tryz.func137, Tryz.ntmps137
   go_wp2_with (first | (go_at_call 95; (with_reducible refine (impl_reader_is.calls g s p b ⟨#[60, 33, 45, 45]⟩ _ s1 p1 b1 w0 _ (HI.out.alloc _) (bA9 HB.out _) Ht.out).mono ?_); rintro e w1 ⟨rfl, hi, hb, hk⟩; have HI1 := A_ hi; have HB1 := A_ hb; have HK1 := A_ ((keep_alloc (KeepBut.refl w g none) _).trans hk (.inl rfl)); have HX1 := A_ (hk.blk (heap_alloc_new w (.cells #[.int .i64 0, .int .i64 0, .string ⟨#[]⟩, .slice none 0 0, .string ⟨#[]⟩, .slice none 0 0] 43)) HGN.out si_); clear hi hb hk HI HB) | (go_at_call 95; (with_reducible refine (impl_reader_is.calls g s1 p1 b1 ⟨#[60]⟩ _ s2 p2 b2 w0 _ HI1.out HB1.out Ht2.out).mono ?_); rintro e w2 ⟨rfl, hi, hb, hk⟩; have HI2 := A_ hi; have HB2 := A_ hb; have HK2 := A_ (HK1.out.trans hk (.inl rfl)); have HX2 := A_ (hk.blk HX1.out HGN.out si_); have HS2 := A_ (Nat.lt_of_lt_of_le (blk_lt HX1.out) hk.1); clear hi hb hk HI1 HB1 HK1 HX1) | (go_at_call 86; (with_reducible refine (hE_ g about deep s2 p2 b2 r r2 r3 r4 w0 _ HI2.out HB2.out HLL.out HEE.out HH.out).mono ?_); rintro e w3 ⟨cs, rfl, hm, hi, hb, hk⟩; obtain ⟨v3, v5, hcs, g3, g5⟩ := k43_openM hm; obtain rfl : cs = #[.int .i64 r.f0, .int .i64 r.f1, .string r.f2, v3, .string r.f4, v5] := Array.ext' hcs; obtain ⟨A3, c3, rfl⟩ := Kd.R_slice g3; obtain ⟨A5, c5, rfl⟩ := Kd.R_slice g5; have HM3 := A_ hm; have HI3 := A_ hi; have HB3 := A_ hb; have HK3 := A_ (HK2.out.trans hk (.inl rfl)); have HX3 := A_ (hk.blk HX2.out HGN.out si_); clear hm hcs g3 g5 hi hb hk HI2 HB2 HK2 HX2; obtain ⟨hz0, hz1, hz2, hz3, hz4, hz5, hy0, hy1, hy2, hy3, hy4, hy5⟩ := bk6_ HX3.out))
   refine bodyPost_ret (results_single rfl (.cell w.heap.size 43 #[.int .i64 r.f0, .int .i64 r.f1, .string r.f2, .slice A3 r.f3.length c3, .string r.f4, .slice A5 r.f5.length c5] (0, 0) _ rfl (blk_six HX3.out _ _ _ _ _ _) hu rfl (by kernel_rfl) .nil)) rfl ?_;exact El_end (ok := fun k_ => w2.heap.size ≤ k_) rfl HI3.out HB3.out HK3.out HX3.out (HM3.out) (fun k hk => ⟨Nat.le_trans (Nat.le_of_lt HS2.out) hk, fun e_ => by have := HS2.out; omega⟩) (Nat.le_refl _) (Ne.symm HGN.out) HG0.out
  | false =>
   rw [if_neg si_] at H;obtain ⟨⟨q0, q1, s3, p3, b3⟩, hq, H⟩ := oB_ H;have Hq := A_ hq;simp only [Option.some.injEq, Prod.mk.injEq] at H;obtain ⟨rfl, rfl, rfl, rfl⟩ := H;clear hq;go_enter Tryz.func137, Tryz.ntmps137
   go_wp2_with (first | (go_at_call 95; (with_reducible refine (impl_reader_is.calls g s p b ⟨#[60, 33, 45, 45]⟩ _ s1 p1 b1 w0 _ (HI.out.alloc _) (bA9 HB.out _) Ht.out).mono ?_); rintro e w1 ⟨rfl, hi, hb, hk⟩; have HI1 := A_ hi; have HB1 := A_ hb; have HK1 := A_ ((keep_alloc (KeepBut.refl w g none) _).trans hk (.inl rfl)); have HX1 := A_ (hk.blk (heap_alloc_new w (.cells #[.int .i64 0, .int .i64 0, .string ⟨#[]⟩, .slice none 0 0, .string ⟨#[]⟩, .slice none 0 0] 43)) HGN.out si_); clear hi hb hk HI HB) | (go_at_call 95; (with_reducible refine (impl_reader_is.calls g s1 p1 b1 ⟨#[60]⟩ _ s2 p2 b2 w0 _ HI1.out HB1.out Ht2.out).mono ?_); rintro e w2 ⟨rfl, hi, hb, hk⟩; have HI2 := A_ hi; have HB2 := A_ hb; have HK2 := A_ (HK1.out.trans hk (.inl rfl)); have HX2 := A_ (hk.blk HX1.out HGN.out si_); have HS2 := A_ (Nat.lt_of_lt_of_le (blk_lt HX1.out) hk.1); clear hi hb hk HI1 HB1 HK1 HX1) | (go_at_call 175; (with_reducible refine (impl_reader_text.calls k g s2 p2 b2 q0 q1 s3 p3 b3 w0 _ HI2.out HB2.out HLL.out HEE.out Hq.out).mono ?_); rintro e w3 ⟨rfl, hi, hb, hk⟩; have HI3 := A_ hi; have HB3 := A_ hb; have HK3 := A_ (HK2.out.trans hk (.inl rfl)); have HX3 := A_ (hk.blk HX2.out HGN.out si_); clear hi hb hk HI2 HB2 HK2 HX2; obtain ⟨hz0, hz1, hz2, hz3, hz4, hz5, hy0, hy1, hy2, hy3, hy4, hy5⟩ := bk6_ HX3.out))
   refine bodyPost_ret (results_single rfl (.cell w.heap.size 43 #[.int .i64 q0, .int .i64 0, .string ⟨#[]⟩, .slice none 0 0, .string q1, .slice none 0 0] (0, 0) _ rfl (blk_six HX3.out _ _ _ _ _ _) hu rfl (by kernel_rfl) .nil)) rfl ?_;exact El_end (ok := fun _ => False) rfl HI3.out HB3.out HK3.out HX3.out (k43_mkM _ _ _ ⟨q0, 0, ⟨#[]⟩, [], q1, []⟩ (Kd.R_nil _ _ _ _ _) (Kd.R_nil _ _ _ _ _)) (fun _ h => h.elim) (Nat.le_refl _) (Ne.symm HGN.out) HG0.out
section
variable {P : Program} {md : Region.Mode} {ops : Array Oper} {Q : Exit → Act → World → Prop} {S : World → Prop} {ds : List Nat}
theorem two_last {i j : Nat} {Ni Nj : Option Tmp} {oi oj : Oper} {fuel : Nat} {l : Array Bool} {a : Act} {w : World} (li lj : Array Bool) (hi : ops[i]? = some oi) (hj : ops[j]? = some oj) (hNi : oi.dst = Ni) (hNj : oj.dst = Nj)
  (hc : (Region.ready md ops l == [i, j] && l.setIfInBounds i true == li && l.setIfInBounds j true == lj) = true) (hdi : i ∈ ds) (hdj : j ∈ ds)
  (h1 : ∀ K : Act → World → Prop, Shut (∀ a' w', wpAnyLast P md ops Q S ds fuel li a' w' → K a' w') → if Region.wanted oi (yielded ops a.tmps) = true then Oper.wp P oi a w K Q else K (a.put Ni undef) w)
  (h2 : ∀ K : Act → World → Prop, Shut (∀ a' w', wpAnyLast P md ops Q S ds fuel lj a' w' → K a' w') → if Region.wanted oj (yielded ops a.tmps) = true then Oper.wp P oj a w K Q else K (a.put Nj undef) w) :
  wpAnyLast P md ops Q S ds (fuel + 1) l a w := by
 subst hNi;subst hNj;simp only [Bool.and_eq_true, beq_iff_eq] at hc;obtain ⟨⟨h3, h4⟩, h5⟩ := hc;subst h4;subst h5;exact wpAnyLast_ready h3 si_ (AllReadyL.cons_last hi hdi (fun K hK => h1 K hK) (AllReadyL.cons_last hj hdj (fun K hK => h2 K hK) AllReadyL.nil))
end
section
variable {P : Program} {ops : Array Oper} {o : Oper} {a : Act} {Q : Exit → Act → World → Prop} {Kc : Act → World → Prop}
theorem el_step {W : World} {base : Nat} (hw : Region.wanted o (yielded ops a.tmps) = true) (hN : o.dst = none) (t : TypeId) (p x : Operand) (ho : o.op = .store t p x) {g n cap : Nat} (i : Int) {xs : List S43} {x' : S43} {cs : Array Value} {ok okp : Nat → Prop}
  (haddr : a.eval p = .pointer (some ⟨g, i.toNat * 6, none⟩)) (hx : a.eval x = .agg cs) (ht : (P.info? t).map (·.size) = some 6) (HO : k43.R 43 W base ok (.slice (some ⟨g, 0, none⟩) n cap) xs) (h0 : 0 ≤ i) (hi : i < n) (hM : k43.M W base okp x' cs.toList) (hokp : ∀ k, okp k → ok k ∧ k ≠ g)
  (h : ∀ w1, k43.R 43 w1 base ok (.slice (some ⟨g, 0, none⟩) n cap) (xs.set i.toNat x') → W.grownBy w1 (some g) → Kc a w1) : if Region.wanted o (yielded ops a.tmps) = true then Oper.wp P o a W Kc Q else Kc (a.put none undef) W := by
 obtain ⟨c, hcl, _, hcc, _⟩ := Kd.R_elem HO z43 i h0 hi;have hcs : cs.toList.length = 6 := k43.K_len (k43.K_of_M hM);have h1 := k43.K_one (k43.K_of_M hM);have hz : k43.sz = 6 := rfl;have hd : c.drop (0 + cs.toList.length) = [] := List.drop_eq_nil_of_le (by rw [hcl, hz, hcs]; exact Nat.le_refl _);obtain ⟨hrow, hg⟩ := Kd.R_seg HO i h0 hi hcl hcc (j := 0) (seg := cs.toList) (by rw [hcs]; exact Nat.le_refl _) (x' := x') (by rw [hd]; simpa using hM) hokp;obtain ⟨hn, hnc, _⟩ := Kd.R_reads' HO;obtain ⟨_, inner, hown, hr⟩ := HO;rcases hown.2 with ⟨hv, _⟩ | ⟨g', cap', cur, hv, hb, hh, hnc2, hcm, hcs', _⟩
 ·cases hv
 injection hv with ha _ hc
 injection ha with ha
 injection ha with hg'
 subst hg'; subst hc;refine put_step hw hN t p x ho (o' := i.toNat * k43.sz + 0) (seg := cs.toList) haddr hx rfl (by rw [hcs]; exact ht) hh ?_ h1 (h _ hrow hg);have hil : i.toNat < n := om_;have h2 : i.toNat * k43.sz + k43.sz ≤ n * k43.sz := by rw [← Nat.succ_mul]; exact Nat.mul_le_mul_right _ hil
 have h3 : n * k43.sz ≤ cap * k43.sz := Nat.mul_le_mul_right _ om_;rw [hcs];omega
end
structure Ele (w0 w W : World) (g ge gr : Nat) (s : BA) (p : Int) (b : Bool) (sp : Int) (nm : BA) (v3 v5 vf : Value) (attrs : List S36) (kids : List S43) : Prop where
 st : IsS93 w0 W g s p b
 el : W.heap[ge]? = some (.cells #[.int .i64 1, .int .i64 sp, .string nm, v3, .string ⟨#[]⟩, vf] 43 (0, 0))
 ar : k36.R 36 W w0.heap.size (fun k_ => w.heap.size ≤ k_ ∧ k_ ≠ ge ∧ k_ ≠ gr) v3 attrs
 kr : k43.R 43 W w0.heap.size (fun k_ => w.heap.size ≤ k_ ∧ k_ ≠ ge ∧ k_ ≠ gr) v5 kids
 rs : W.heap[gr]? = some (.cells #[.int .i64 0, .int .i64 0, .string ⟨#[]⟩, .slice none 0 0, .string ⟨#[]⟩, .slice none 0 0] 43 (0, 0))
 bl : Below w0.heap.size w0 W
 kp : KeepBut w W g none
 gl : g < w.heap.size
 he : w.heap.size ≤ ge
 hr : w.heap.size ≤ gr
 ne : ge ≠ gr
 g0 : w0.heap.size ≤ w.heap.size
theorem Ele.state {w0 w W W' : World} {g ge gr : Nat} {s s' : BA} {p p' : Int} {b b' : Bool} {sp : Int} {nm : BA} {v3 v5 vf : Value} {attrs : List S36} {kids : List S43} (h : Ele w0 w W g ge gr s p b sp nm v3 v5 vf attrs kids) (hi : IsS93 w0 W' g s' p' b') (hb : Below w0.heap.size w0 W') (hk : KeepBut W W' g none) : Ele w0 w W' g ge gr s' p' b' sp nm v3 v5 vf attrs kids :=
 ⟨hi, hk.blk h.el (by have := h.gl; have := h.he; omega) si_, Kd.R_keep h.ar hk (fun k hk => by have := h.gl; omega), Kd.R_keep h.kr hk (fun k hk => by have := h.gl; omega), hk.blk h.rs (by have := h.gl; have := h.hr; omega) si_, hb, h.kp.trans hk (.inl rfl), h.gl, h.he, h.hr, h.ne, h.g0⟩
theorem Ele.below {w0 w W W' : World} {g ge gr : Nat} {s : BA} {p : Int} {b : Bool} {sp : Int} {nm : BA} {v3 v5 vf : Value} {attrs : List S36} {kids : List S43} (h : Ele w0 w W g ge gr s p b sp nm v3 v5 vf attrs kids) (hb : Below W.heap.size W W') : Ele w0 w W' g ge gr s p b sp nm v3 v5 vf attrs kids :=
 h.state (h.st.below hb) (below_step h.bl hb) (KeepBut.of_below hb g none)
theorem Ele.drew {w0 w W : World} {g ge gr : Nat} {s : BA} {p : Int} {b : Bool} {sp : Int} {nm : BA} {v3 v5 vf : Value} {attrs : List S36} {kids : List S43} (h : Ele w0 w W g ge gr s p b sp nm v3 v5 vf attrs kids) : Ele w0 w W.drew g ge gr s p b sp nm v3 v5 vf attrs kids := h.below (below_drew (Below.refl _ _))
theorem Ele.name_ {w0 w W : World} {g ge gr : Nat} {s : BA} {p : Int} {b : Bool} {sp : Int} {nm : BA} {v3 v5 vf : Value} {attrs : List S36} {kids : List S43} (h : Ele w0 w W g ge gr s p b sp nm v3 v5 vf attrs kids) (x : BA) : Ele w0 w (W.setCell ⟨ge, 2, none⟩ (.string x)) g ge gr s p b sp x v3 v5 vf attrs kids :=
 ⟨h.st.far (p := ⟨ge, 2, none⟩) (by have := h.gl; have := h.he; show g ≠ ge; omega) _, blk_put h.el 2 _ rfl, Kd.R_far (p := ⟨ge, 2, none⟩) h.ar (fun k hk => hk.2.1) _, Kd.R_far (p := ⟨ge, 2, none⟩) h.kr (fun k hk => hk.2.1) _, blk_far h.rs (p := ⟨ge, 2, none⟩) (Ne.symm h.ne) _, below_set h.bl (Nat.le_trans h.g0 h.he), keep_far (p := ⟨ge, 2, none⟩) h.kp h.he _, h.gl, h.he, h.hr, h.ne, h.g0⟩
theorem Ele.kids_ {w0 w W : World} {g ge gr : Nat} {s : BA} {p : Int} {b : Bool} {sp : Int} {nm : BA} {v3 v5 vf : Value} {attrs : List S36} {kids : List S43} (h : Ele w0 w W g ge gr s p b sp nm v3 v5 vf attrs kids) (x : Value) : Ele w0 w (W.setCell ⟨ge, 5, none⟩ x) g ge gr s p b sp nm v3 v5 x attrs kids :=
 ⟨h.st.far (p := ⟨ge, 5, none⟩) (by have := h.gl; have := h.he; show g ≠ ge; omega) _, blk_put h.el 5 _ rfl, Kd.R_far (p := ⟨ge, 5, none⟩) h.ar (fun k hk => hk.2.1) _, Kd.R_far (p := ⟨ge, 5, none⟩) h.kr (fun k hk => hk.2.1) _, blk_far h.rs (p := ⟨ge, 5, none⟩) (Ne.symm h.ne) _, below_set h.bl (Nat.le_trans h.g0 h.he), keep_far (p := ⟨ge, 5, none⟩) h.kp h.he _, h.gl, h.he, h.hr, h.ne, h.g0⟩
theorem Ele.row_ {w0 w W W' : World} {g ge gr : Nat} {s : BA} {p : Int} {b : Bool} {sp : Int} {nm : BA} {v3 v5 vf v' : Value} {attrs : List S36} {kids kids' : List S43} (h : Ele w0 w W g ge gr s p b sp nm v3 v5 vf attrs kids) (ho : k43.R 43 W' w0.heap.size (fun k_ => w.heap.size ≤ k_ ∧ k_ ≠ ge ∧ k_ ≠ gr) v' kids') (hb : Below w0.heap.size w0 W') (hg : W.grownBy W' v5.ownBlock) : Ele w0 w W' g ge gr s p b sp nm v3 v' vf attrs kids' :=
 ⟨h.st.grown hg (h.st.own_ne h.kr de_), blk_grown h.el hg (fun e_ => (h.kr.1 ge e_.symm).2.1 rfl), Kd.R_over h.ar h.kr de_ hg, ho, blk_grown h.rs hg (fun e_ => (h.kr.1 gr e_.symm).2.2 rfl), hb, h.kp.trans (KeepBut.of_grown hg g) (by
  cases hv : v5.ownBlock with
  | none => exact .inl rfl
  | some k => exact .inr ⟨k, rfl, (h.kr.1 k hv).1⟩), h.gl, h.he, h.hr, h.ne, h.g0⟩
theorem Ele.of_att {w0 w W W' : World} {g ge gr : Nat} {s s' : BA} {p p' : Int} {b b' : Bool} {sp sp' : Int} {nm : BA} {v3 v6 : Value} {names : List S36} {attrs : List S36} (h : Ele w0 w W g ge gr s p b sp nm (.slice none 0 0) (.slice none 0 0) (.slice none 0 0) [] []) (ha : Att w0 W W' g ge 1 nm ⟨#[]⟩ (.slice none 0 0) s' p' b' sp' v6 v3 names attrs) : Ele w0 w W' g ge gr s' p' b' sp' nm v3 (.slice none 0 0) (.slice none 0 0) attrs [] :=
 ⟨ha.st, ha.el, Kd.R_mono ha.ar (fun k hk => by have := blk_lt h.el; have := blk_lt h.rs; have := h.kp.1; omega), Kd.R_nil _ _ _ _ _, (ha.kp.2 gr (blk_lt h.rs) (by have := h.gl; have := h.hr; omega) (Ne.symm h.ne)).trans h.rs, ha.bl, ⟨Nat.le_trans h.kp.1 ha.kp.1, fun i hi h1 _ => (ha.kp.2 i (Nat.lt_of_lt_of_le hi h.kp.1) h1 (by have := h.he; omega)).trans (h.kp.2 i hi h1 si_)⟩, h.gl, h.he, h.hr, h.ne, h.g0⟩
theorem Ele.fresh_ {w0 w W : World} {g ge gr : Nat} {s : BA} {p : Int} {b : Bool} {sp : Int} {nm : BA} {v3 v5 vf : Value} {attrs : List S36} {kids : List S43} (h : Ele w0 w W g ge gr s p b sp nm v3 v5 vf attrs kids) : ∀ k, W.heap.size ≤ k → w.heap.size ≤ k ∧ k ≠ ge ∧ k ≠ gr := fun k hk => by have := blk_lt h.el; have := blk_lt h.rs; have := h.kp.1; omega
theorem Ele.start {w0 w W W2 : World} {g ge gr : Nat} {s : BA} {p : Int} {b : Bool} (about : Int) (hI : IsS93 w0 W g s p b) (hB : Below w0.heap.size w0 W) (hK : KeepBut w W g none) (hX : W.heap[gr]? = some (.cells #[.int .i64 0, .int .i64 0, .string ⟨#[]⟩, .slice none 0 0, .string ⟨#[]⟩, .slice none 0 0] 43 (0, 0))) (hgr : w.heap.size ≤ gr) (gl : g < w.heap.size) (g0 : w0.heap.size ≤ w.heap.size) (hge : ge = W.heap.size)
  (hbox : W2.heap[ge]? = some (.cells #[.int .i64 0, .int .i64 0, .string ⟨#[]⟩, .slice none 0 0, .string ⟨#[]⟩, .slice none 0 0] 43 (0, 0))) (hb : Below W.heap.size W W2) :
  Ele w0 w ((((((W2.setCell ⟨ge, 0, none⟩ (.int .i64 1)).setCell ⟨ge, 1, none⟩ (.int .i64 about)).setCell ⟨ge, 2, none⟩ (.string ⟨#[]⟩)).setCell ⟨ge, 3, none⟩ (.slice none 0 0)).setCell ⟨ge, 4, none⟩ (.string ⟨#[]⟩)).setCell ⟨ge, 5, none⟩ (.slice none 0 0)) g ge gr s p b about ⟨#[]⟩ (.slice none 0 0) (.slice none 0 0) (.slice none 0 0) [] [] := by
 have h1 := hI.lt;have h2 := blk_lt hX;have h3 := hK.1;have hk : KeepBut W2 ((((((W2.setCell ⟨ge, 0, none⟩ (.int .i64 1)).setCell ⟨ge, 1, none⟩ (.int .i64 about)).setCell ⟨ge, 2, none⟩ (.string ⟨#[]⟩)).setCell ⟨ge, 3, none⟩ (.slice none 0 0)).setCell ⟨ge, 4, none⟩ (.string ⟨#[]⟩)).setCell ⟨ge, 5, none⟩ (.slice none 0 0)) ge none := ((((((KeepBut.refl W2 ge none).set_ 0 _).set_ 1 _).set_ 2 _).set_ 3 _).set_ 4 _).set_ 5 _;exact ⟨st_six (hI.below hb) om_ _ _ _ _ _ _, blk_six hbox _ _ _ _ _ _, Kd.R_nil _ _ _ _ _, Kd.R_nil _ _ _ _ _, hk.blk (blk_below hX hb) om_ si_, below_six (below_step hB hb) om_ _ _ _ _ _ _, keep_six (hK.trans (KeepBut.of_below hb g none) (.inl rfl)) om_ _ _ _ _ _ _, gl, om_, hgr, om_, g0⟩
theorem element_step (n : Nat) (hK_ : ∀ m, m < n → KidC m) : ElC (n + 1) := by
 unfold KidC at hK_;intro g about deep s p b r r2 r3 r4 w0 w hI hB hL hE h;have hu := Tryz.underlying43;rw [readEl] at h;have HI := A_ hI;have HB := A_ hB;have HLL := A_ hL;have HEE := A_ hE;have HGL : As9 (g < w.heap.size) := ⟨hI.lt⟩;have HG0 : As9 (w0.heap.size ≤ w.heap.size) := ⟨hB.size⟩;by_cases d1 : deep < 1
 ·rw [if_pos d1] at h;simp only [Option.some.injEq, Prod.mk.injEq] at h;obtain ⟨rfl, rfl, rfl, rfl⟩ := h;clear hI hB hL hE;go_enter Tryz.func86, Tryz.ntmps86
  go_wp2_with (first | ((with_reducible refine gate_dst (N := 6) rfl ?_); refine bZ_ 43 ?_; intro gr hg_ w1 hbox hb; have HGR := A_ hg_; have HI1 := A_ (HI.out.below hb); have HB1 := A_ (below_step HB.out hb); have HK1 := A_ (KeepBut.of_below hb g none); have HX1 := A_ hbox; clear hg_ hbox hb HI HB; have hc2 := (blk_cell HI1.out.1 2).trans rfl; have hg2 := blk_frozen HI1.out.1 2; obtain ⟨hz0, hz1, hz2, hz3, hz4, hz5, hy0, hy1, hy2, hy3, hy4, hy5⟩ := bk6_ HX1.out; have hn1 := eq_false (show ¬ g = gr from by rw [HGR.out]; exact Nat.ne_of_lt HGL.out); have hn2 := eq_false (show ¬ gr = g from by rw [HGR.out]; exact Nat.ne_of_gt HGL.out)))
  refine bodyPost_ret (results_single rfl (.cell gr 43 #[.int .i64 0, .int .i64 0, .string ⟨#[]⟩, .slice none 0 0, .string ⟨#[]⟩, .slice none 0 0] (0, 0) _ rfl (blk_six (blk_far HX1.out (p := ⟨g, 2, none⟩) (of_eq_false hn2) _) _ _ _ _ _ _) hu rfl (by kernel_rfl) .nil)) rfl ?_;exact El_end (ok := fun _ => False) rfl (HI1.out.set_2 _) (below_set HB1.out HI1.out.2) (HK1.out.set_ _ _) (blk_far HX1.out (p := ⟨g, 2, none⟩) (of_eq_false hn2) _) (k43_mkM _ _ _ z43 (Kd.R_nil _ _ _ _ _) (Kd.R_nil _ _ _ _ _)) (fun _ h => h.elim) (Nat.le_of_eq HGR.out.symm) (of_eq_false hn1) (by rw [HGR.out]; exact HG0.out)
 ·rw [if_neg d1] at h;obtain ⟨⟨s1, p1, b1⟩, ht1, h⟩ := oB_ h;obtain ⟨⟨nm, s2, p2, b2⟩, hq, h⟩ := oB_ h;obtain ⟨⟨at_, sp, s3, p3, b3⟩, ha, h⟩ := oB_ h;obtain ⟨⟨t, s4, p4, b4⟩, ht, H⟩ := oB_ h;dsimp only at hq ha ht H;have Ht1 := A_ ht1;have Hq := A_ hq;have Ha := A_ ha;have Ht := A_ ht;clear ht1 hq ha ht hI hB hL hE h;cases t with
  | true =>
   rw [if_pos rfl] at H;obtain ⟨⟨s5, p5, b5⟩, ht2, H⟩ := oB_ H;simp only [Option.some.injEq, Prod.mk.injEq] at H;obtain ⟨rfl, rfl, rfl, rfl⟩ := H;have Ht2 := A_ ht2;clear ht2;go_enter Tryz.func86, Tryz.ntmps86
   go_wp2_with (first | ((with_reducible refine gate_dst (N := 6) rfl ?_); refine bZ_ 43 ?_; intro gr hg_ w1 hbox hb; have HGR := A_ hg_; have HI1 := A_ (HI.out.below hb); have HB1 := A_ (below_step HB.out hb); have HK1 := A_ (KeepBut.of_below hb g none); have HX1 := A_ hbox; clear hg_ hbox hb HI HB) | ((with_reducible refine gate_dst (N := 7) rfl ?_); refine bZ_ 43 ?_; intro ge hg_ w2 hbox hb; have HGE := A_ hg_; have HBX := A_ hb; have HX2 := A_ hbox; obtain ⟨he0, he1, he2, he3, he4, he5, hf0, hf1, hf2, hf3, hf4, hf5⟩ := bk6_ hbox; clear hg_ hb hbox) | (go_at_call 94; have HE3 := A_ (Ele.start about HI1.out HB1.out HK1.out HX1.out (Nat.le_of_eq HGR.out.symm) HGL.out HG0.out HGE.out HX2.out HBX.out); clear HI1 HB1 HK1 HX1 HX2 HBX he0 he1 he2 he3 he4 he5 hf0 hf1 hf2 hf3 hf4 hf5; (with_reducible refine (impl_reader_take.calls g s p b ⟨#[60]⟩ _ _ _ w0 _ HE3.out.st HE3.out.bl Ht1.out).mono ?_); rintro e w4 ⟨rfl, hi, hb, hk⟩; have HE4 := A_ (HE3.out.state hi hb hk); clear hi hb hk HE3) | (go_at_call 135; (with_reducible refine (impl_reader_name.calls n g s1 p1 b1 nm s2 p2 b2 w0 _ HE4.out.st HE4.out.bl Hq.out).mono ?_); rintro e w5 ⟨rfl, hi, hb, hk⟩; have HE5 := A_ (HE4.out.state hi hb hk); clear hi hb hk HE4; have he2 := (blk_cell HE5.out.el 2).trans rfl; have hf2 := blk_frozen HE5.out.el 2) | (go_at_call 136; have HE6 := A_ (HE5.out.name_ nm); clear HE5 he2 hf2; (with_reducible refine (impl_reader_attrs.calls n g ge 1 nm ⟨#[]⟩ (.slice none 0 0) about about s2 p2 b2 at_ sp s3 p3 b3 w0 _ HE6.out.st HE6.out.el (Nat.le_trans HE6.out.g0 HE6.out.he) HE6.out.bl HLL.out HEE.out Ha.out).mono ?_); rintro e w7 ⟨rfl, v6, v3, names, ha⟩; have HE7 := A_ (Ele.of_att HE6.out ha); clear ha HE6) | (go_at_call 95; (with_reducible refine (impl_reader_is.calls g s3 p3 b3 ⟨#[47, 62]⟩ _ s4 p4 b4 w0 _ HE7.out.st HE7.out.bl Ht.out).mono ?_); rintro e w8 ⟨rfl, hi, hb, hk⟩; have HE8 := A_ (HE7.out.state hi hb hk); clear hi hb hk HE7) | (go_at_call 94; (with_reducible refine (impl_reader_take.calls g s4 p4 b4 ⟨#[47, 62]⟩ _ _ _ w0 _ HE8.out.st HE8.out.bl Ht2.out).mono ?_); rintro e w9 ⟨rfl, hi, hb, hk⟩; have HE9 := A_ (HE8.out.state hi hb hk); clear hi hb hk HE8; obtain ⟨A3, c3, rfl⟩ := Kd.R_slice HE9.out.ar; obtain ⟨he0, he1, he2, he3, he4, he5, hf0, hf1, hf2, hf3, hf4, hf5⟩ := bk6_ HE9.out.el; obtain ⟨hz0, hz1, hz2, hz3, hz4, hz5, hy0, hy1, hy2, hy3, hy4, hy5⟩ := bk6_ HE9.out.rs; have hn1 := eq_false HE9.out.ne; have hn2 := eq_false (Ne.symm HE9.out.ne)))
   refine bodyPost_ret (results_single rfl (.cell gr 43 #[.int .i64 1, .int .i64 sp, .string nm, .slice A3 at_.length c3, .string ⟨#[]⟩, .slice none 0 0] (0, 0) _ rfl (blk_six HE9.out.rs _ _ _ _ _ _) hu rfl (by kernel_rfl) .nil)) rfl ?_;exact El_end (ok := fun k_ => w.heap.size ≤ k_ ∧ k_ ≠ ge ∧ k_ ≠ gr) rfl HE9.out.st HE9.out.bl HE9.out.kp HE9.out.rs (k43_mkM _ _ _ ⟨1, sp, nm, at_, ⟨#[]⟩, []⟩ HE9.out.ar HE9.out.kr) (fun k hk => ⟨hk.1, hk.2.2⟩) HE9.out.hr (Nat.ne_of_lt (Nat.lt_of_lt_of_le HE9.out.gl HE9.out.hr)) (Nat.le_trans HE9.out.g0 HE9.out.hr)
  | false =>
   rw [if_neg si_] at H;obtain ⟨⟨s5, p5, b5⟩, ht3, H⟩ := oB_ H;obtain ⟨⟨ks, s6, p6, b6⟩, hks, H⟩ := oB_ H;dsimp only at hks H;split at H
   case isFalse => cases H
   case isTrue hsz =>
   obtain ⟨⟨s7, p7, b7⟩, ht4, H⟩ := oB_ H;simp only [Option.some.injEq, Prod.mk.injEq] at H;obtain ⟨rfl, rfl, rfl, rfl⟩ := H;have Ht3 := A_ ht3;have Hks := A_ hks;have Ht4 := A_ ht4;have HSZ := A_ hsz;clear ht3 hks ht4 hsz;go_enter Tryz.func86, Tryz.ntmps86
   go_wp2_with (first | ((with_reducible refine gate_dst (N := 6) rfl ?_); refine bZ_ 43 ?_; intro gr hg_ w1 hbox hb; have HGR := A_ hg_; have HI1 := A_ (HI.out.below hb); have HB1 := A_ (below_step HB.out hb); have HK1 := A_ (KeepBut.of_below hb g none); have HX1 := A_ hbox; clear hg_ hbox hb HI HB) | ((with_reducible refine gate_dst (N := 7) rfl ?_); refine bZ_ 43 ?_; intro ge hg_ w2 hbox hb; have HGE := A_ hg_; have HBX := A_ hb; have HX2 := A_ hbox; obtain ⟨he0, he1, he2, he3, he4, he5, hf0, hf1, hf2, hf3, hf4, hf5⟩ := bk6_ hbox; clear hg_ hb hbox) | (go_at_call 94; have HE3 := A_ (Ele.start about HI1.out HB1.out HK1.out HX1.out (Nat.le_of_eq HGR.out.symm) HGL.out HG0.out HGE.out HX2.out HBX.out); clear HI1 HB1 HK1 HX1 HX2 HBX he0 he1 he2 he3 he4 he5 hf0 hf1 hf2 hf3 hf4 hf5; (with_reducible refine (impl_reader_take.calls g s p b ⟨#[60]⟩ _ _ _ w0 _ HE3.out.st HE3.out.bl Ht1.out).mono ?_); rintro e w4 ⟨rfl, hi, hb, hk⟩; have HE4 := A_ (HE3.out.state hi hb hk); clear hi hb hk HE3) | (go_at_call 135; (with_reducible refine (impl_reader_name.calls n g s1 p1 b1 nm s2 p2 b2 w0 _ HE4.out.st HE4.out.bl Hq.out).mono ?_); rintro e w5 ⟨rfl, hi, hb, hk⟩; have HE5 := A_ (HE4.out.state hi hb hk); clear hi hb hk HE4; have he2 := (blk_cell HE5.out.el 2).trans rfl; have hf2 := blk_frozen HE5.out.el 2) | (go_at_call 136; have HE6 := A_ (HE5.out.name_ nm); clear HE5 he2 hf2; (with_reducible refine (impl_reader_attrs.calls n g ge 1 nm ⟨#[]⟩ (.slice none 0 0) about about s2 p2 b2 at_ sp s3 p3 b3 w0 _ HE6.out.st HE6.out.el (Nat.le_trans HE6.out.g0 HE6.out.he) HE6.out.bl HLL.out HEE.out Ha.out).mono ?_); rintro e w7 ⟨rfl, v6, v3, names, ha⟩; have HE7 := A_ (Ele.of_att HE6.out ha); clear ha HE6) | (go_at_call 95; (with_reducible refine (impl_reader_is.calls g s3 p3 b3 ⟨#[47, 62]⟩ _ s4 p4 b4 w0 _ HE7.out.st HE7.out.bl Ht.out).mono ?_); rintro e w8 ⟨rfl, hi, hb, hk⟩; have HE8 := A_ (HE7.out.state hi hb hk); clear hi hb hk HE7) | (go_at_call 94; (with_reducible refine (impl_reader_take.calls g s4 p4 b4 ⟨#[62]⟩ _ _ _ w0 _ HE8.out.st HE8.out.bl Ht3.out).mono ?_); rintro e w9 ⟨rfl, hi, hb, hk⟩; have HE9 := A_ (HE8.out.state hi hb hk); clear hi hb hk HE8))
   clear Ht1 Hq Ha Ht;go_loopg [] n (fun kq wr => ∃ (kids : List S43) (v5 : Value) (s : BA) (p : Int) (b : Bool), As9 (kidsL kq sp deep s p b kids = some (ks, s6, p6, b6)) ∧ As9 (Ele w0 w wr g ge gr s p b sp nm v3 v5 v5 at_ kids) ∧ As9 (kq ≤ n))
   case atStart => exact ⟨[], _, _, _, _, Hks, HE9, ⟨Nat.le_refl _⟩⟩
   case round =>
    clear Hks HE9;obtain ⟨kids, v5, s, p, b, HA, HE, HN⟩ := hrel;cases gk with
    | zero => exact absurd HA.out (by simp [kidsL])
    | succ m =>
    have H := HA.out;clear HA;simp only [kidsL] at H;have hc2 := (blk_cell HE.out.st.1 2).trans rfl;have hnm := (blk_cell HE.out.el 2).trans rfl;cases b with
    | true =>
     rw [if_pos rfl] at H;simp only [Option.some.injEq, Prod.mk.injEq] at H;obtain ⟨rfl, rfl, rfl, rfl⟩ := H;have q1 : (9223372036854775807 < (⟨#[60, 47]⟩ : BA).size + nm.size) = False := eq_false (by have := HSZ.out; have h2 : (⟨#[60, 47]⟩ : BA).size = 2 := rfl; omega);have q2 : (9223372036854775807 < (⟨#[60, 47]⟩ : BA).size + nm.size + (⟨#[62]⟩ : BA).size) = False := eq_false (by have := HSZ.out; have h2 : (⟨#[60, 47]⟩ : BA).size = 2 := rfl; have h3 : (⟨#[62]⟩ : BA).size = 1 := rfl; omega);have q3 : (9223372036854775807 < 2 + nm.size) = False := eq_false (by have := HSZ.out; omega);have q4 : (9223372036854775807 < 2 + nm.size + 1) = False := eq_false (by have := HSZ.out; omega);go_wp2_with (first | (go_at_call 94; (with_reducible refine (impl_reader_take.calls g _ _ _ ((⟨#[60, 47]⟩ ++ nm) ++ ⟨#[62]⟩) s7 p7 b7 w0 _ HE.out.st HE.out.bl Ht4.out).mono ?_); rintro e w13 ⟨rfl, hi, hb, hk⟩; have HEz := A_ (HE.out.state hi hb hk); clear hi hb hk HE; obtain ⟨A3, c3, rfl⟩ := Kd.R_slice HEz.out.ar; obtain ⟨A5, c5, rfl⟩ := Kd.R_slice HEz.out.kr; obtain ⟨he0, he1, he2, he3, he4, he5, hf0, hf1, hf2, hf3, hf4, hf5⟩ := bk6_ HEz.out.el; obtain ⟨hz0, hz1, hz2, hz3, hz4, hz5, hy0, hy1, hy2, hy3, hy4, hy5⟩ := bk6_ HEz.out.rs; have hn1 := eq_false HEz.out.ne; have hn2 := eq_false (Ne.symm HEz.out.ne)))
     refine bodyPost_ret (results_single rfl (.cell gr 43 #[.int .i64 1, .int .i64 sp, .string nm, .slice A3 at_.length c3, .string ⟨#[]⟩, .slice A5 kids.length c5] (0, 0) _ rfl (blk_six HEz.out.rs _ _ _ _ _ _) hu rfl (by kernel_rfl) .nil)) rfl ?_;exact El_end (ok := fun k_ => w.heap.size ≤ k_ ∧ k_ ≠ ge ∧ k_ ≠ gr) rfl HEz.out.st HEz.out.bl HEz.out.kp HEz.out.rs (k43_mkM _ _ _ ⟨1, sp, nm, at_, ⟨#[]⟩, kids⟩ HEz.out.ar HEz.out.kr) (fun k hk => ⟨hk.1, hk.2.2⟩) HEz.out.hr (Nat.ne_of_lt (Nat.lt_of_lt_of_le HEz.out.gl HEz.out.hr)) (Nat.le_trans HEz.out.g0 HEz.out.hr)
    | false =>
     rw [if_neg si_] at H;obtain ⟨⟨t, s8, p8, b8⟩, ht, H⟩ := oB_ H;dsimp only at H;have Ht := A_ ht;clear ht;cases t with
     | true =>
      rw [if_pos rfl] at H;simp only [Option.some.injEq, Prod.mk.injEq] at H;obtain ⟨rfl, rfl, rfl, rfl⟩ := H;have q1 : (9223372036854775807 < (⟨#[60, 47]⟩ : BA).size + nm.size) = False := eq_false (by have := HSZ.out; have h2 : (⟨#[60, 47]⟩ : BA).size = 2 := rfl; omega);have q2 : (9223372036854775807 < (⟨#[60, 47]⟩ : BA).size + nm.size + (⟨#[62]⟩ : BA).size) = False := eq_false (by have := HSZ.out; have h2 : (⟨#[60, 47]⟩ : BA).size = 2 := rfl; have h3 : (⟨#[62]⟩ : BA).size = 1 := rfl; omega);have q3 : (9223372036854775807 < 2 + nm.size) = False := eq_false (by have := HSZ.out; omega);have q4 : (9223372036854775807 < 2 + nm.size + 1) = False := eq_false (by have := HSZ.out; omega);go_wp2_with (first | (go_at_call 95; (with_reducible refine (impl_reader_is.calls g s p false ⟨#[60, 47]⟩ _ s8 p8 b8 w0 _ HE.out.st HE.out.bl Ht.out).mono ?_); rintro e w10 ⟨rfl, hi, hb, hk⟩; have HEa := A_ (HE.out.state hi hb hk); clear hi hb hk HE hc2 hnm; have hnm := (blk_cell HEa.out.el 2).trans rfl; have hsp := (blk_cell HEa.out.el 1).trans rfl) | (go_at_call 94; (with_reducible refine (impl_reader_take.calls g _ _ _ ((⟨#[60, 47]⟩ ++ nm) ++ ⟨#[62]⟩) s7 p7 b7 w0 _ HEa.out.st HEa.out.bl Ht4.out).mono ?_); rintro e w13 ⟨rfl, hi, hb, hk⟩; have HEz := A_ (HEa.out.state hi hb hk); clear hi hb hk HEa; obtain ⟨A3, c3, rfl⟩ := Kd.R_slice HEz.out.ar; obtain ⟨A5, c5, rfl⟩ := Kd.R_slice HEz.out.kr; obtain ⟨he0, he1, he2, he3, he4, he5, hf0, hf1, hf2, hf3, hf4, hf5⟩ := bk6_ HEz.out.el; obtain ⟨hz0, hz1, hz2, hz3, hz4, hz5, hy0, hy1, hy2, hy3, hy4, hy5⟩ := bk6_ HEz.out.rs; have hn1 := eq_false HEz.out.ne; have hn2 := eq_false (Ne.symm HEz.out.ne)))
      refine bodyPost_ret (results_single rfl (.cell gr 43 #[.int .i64 1, .int .i64 sp, .string nm, .slice A3 at_.length c3, .string ⟨#[]⟩, .slice A5 kids.length c5] (0, 0) _ rfl (blk_six HEz.out.rs _ _ _ _ _ _) hu rfl (by kernel_rfl) .nil)) rfl ?_;exact El_end (ok := fun k_ => w.heap.size ≤ k_ ∧ k_ ≠ ge ∧ k_ ≠ gr) rfl HEz.out.st HEz.out.bl HEz.out.kp HEz.out.rs (k43_mkM _ _ _ ⟨1, sp, nm, at_, ⟨#[]⟩, kids⟩ HEz.out.ar HEz.out.kr) (fun k hk => ⟨hk.1, hk.2.2⟩) HEz.out.hr (Nat.ne_of_lt (Nat.lt_of_lt_of_le HEz.out.gl HEz.out.hr)) (Nat.le_trans HEz.out.g0 HEz.out.hr)
     | false =>
      rw [if_neg si_] at H;obtain ⟨⟨kd, s9, p9, b9⟩, hkd, H⟩ := oB_ H;dsimp only at hkd H;split at H
      case isFalse => cases H
      case isTrue hl =>
      have Hkd := A_ hkd;have HL := A_ hl;have HH := A_ H;clear hkd hl H;go_wp2_with (first | (go_at_call 95; (with_reducible refine (impl_reader_is.calls g s p false ⟨#[60, 47]⟩ _ s8 p8 b8 w0 _ HE.out.st HE.out.bl Ht.out).mono ?_); rintro e w10 ⟨rfl, hi, hb, hk⟩; have HEa := A_ (HE.out.state hi hb hk); clear hi hb hk HE hc2 hnm; have hnm := (blk_cell HEa.out.el 2).trans rfl; have hsp := (blk_cell HEa.out.el 1).trans rfl) | (go_at_call 137; (with_reducible refine (hK_ m (by have := HN.out; omega) g sp (wrap64 (deep - 1)) s8 p8 b8 kd s9 p9 b9 w0 _ HEa.out.st HEa.out.bl HLL.out HEE.out Hkd.out).mono ?_); rintro e w11 ⟨cs, rfl, hm, hi, hb, hk⟩; have HM := A_ (k43.M_mono (ok' := fun k_ => (w.heap.size ≤ k_ ∧ k_ ≠ ge ∧ k_ ≠ gr) ∧ some k_ ≠ v5.ownBlock) (fun k_ hk_ => ⟨HEa.out.fresh_ k_ hk_, fun e_ => by have := Kd.R_lt HEa.out.kr k_ e_.symm; omega⟩) hm); have HEb := A_ (HEa.out.state hi hb hk); obtain ⟨u3, u5, hcs, g3, g5⟩ := k43_openM hm; obtain rfl : cs = #[.int .i64 kd.f0, .int .i64 kd.f1, .string kd.f2, u3, .string kd.f4, u5] := Array.ext' hcs; obtain ⟨A3', c3', rfl⟩ := Kd.R_slice g3; obtain ⟨A5', c5', rfl⟩ := Kd.R_slice g5; clear hm hcs g3 g5 hi hb hk HEa hnm hsp) | ((with_reducible refine gate_dst (N := 8) rfl ?_); refine bZ_ 43 ?_; intro gk hg_ w12 hbox hb; have HGK := A_ hg_; have HBX := A_ hb; have HXK := A_ hbox; have HNK := A_ (show ∀ k, v5.ownBlock = some k → k < gk from fun k hk => by have := Kd.R_lt HEb.out.kr k hk; rw [hg_]; exact this); obtain ⟨he0, he1, he2, he3, he4, he5, hf0, hf1, hf2, hf3, hf4, hf5⟩ := bk6_ hbox; clear hg_ hb hbox))
      have HGN := A_ (show w.heap.size ≤ gk ∧ w0.heap.size ≤ gk from by have h1_ := HEb.out.kp.1; have h2_ := HEb.out.g0; rw [HGK.out]; exact ⟨h1_, Nat.le_trans h2_ h1_⟩);have hb6 := set6 HBX.out (Nat.le_of_eq HGK.out.symm) (.int .i64 kd.f0) (.int .i64 kd.f1) (.string kd.f2) (.slice A3' kd.f3.length c3') (.string kd.f4) (.slice A5' kd.f5.length c5');have HEc := A_ (HEb.out.below hb6).drew;have HMd := A_ (Kd.M_below (Kd.M_below HM.out hb6) (below_drew (Below.refl _ _)));have HXc := A_ (blk_drew (blk_six HXK.out (.int .i64 kd.f0) (.int .i64 kd.f1) (.string kd.f2) (.slice A3' kd.f3.length c3') (.string kd.f4) (.slice A5' kd.f5.length c5')));obtain ⟨A5, c5, rfl⟩ := Kd.R_slice HEc.out.kr;clear HEb HM HXK HBX hb6 he0 he1 he2 he3 he4 he5 hf0 hf1 hf2 hf3 hf4 hf5;refine start_ (n := 10) (S := fun w' => w'.cell? ⟨ge, 5, none⟩ = some (.slice A5 kids.length c5) ∧ w'.heap[gk]? = some (.cells #[.int .i64 kd.f0, .int .i64 kd.f1, .string kd.f2, .slice A3' kd.f3.length c3', .string kd.f4, .slice A5' kd.f5.length c5'] 43 (0, 0))) (ds := [7, 9]) (tS 10 0) (by kernel_rfl) rfl rfl ⟨(blk_cell HEc.out.el 5).trans rfl, HXc.out⟩ (fun hHeld => ?_);generalize World.drew _ = wr0 at HEc HXc HMd hHeld ⊢;refine pq_ ?_;refine tq_ rfl (by rintro w' ⟨s0, s1⟩; go_simp; with_reducible rfl) ?_;refine tq_ rfl (by rintro w' ⟨s0, s1⟩; obtain ⟨z0, z1, z2, z3, z4, z5⟩ := bc6_ s1; go_simp; with_reducible rfl) ?_;refine pq_ ?_;refine n1_ 4 (tS 10 5) rfl fun K hK => ?_
      refine lit_step ?hw (v := .slice (some ⟨wr0.heap.size, 0, none⟩) 1 1) (w1' := wr0.alloc (.cells #[.int .i64 0, .int .i64 0, .string ⟨#[]⟩, .slice none 0 0, .string ⟨#[]⟩, .slice none 0 0] 43)) ?hr ?_; (case hw => rfl); (case hr => first | (go_simp; done) | (go_simp; rfl));intro wr4 hwr4;refine hK.out _ _ (by rw [hwr4]; exact ⟨(blk_cell (blk_alloc HEc.out.el _) 5).trans rfl, blk_alloc HXc.out _⟩) (fun hHeld => ?_);clear hK K;refine nm_ ?_;refine n1_ 5 (tS 10 6) rfl fun K hK => ?_
      subst hwr4; refine Kd.R_append_step k43 (w0 := w0) w0.heap.size ?hw (.tmp 49) (.tmp 52) 41 43 (.agg #[.int .i64 0, .int .i64 0, .string ⟨#[]⟩, .slice none 0 0, .string ⟨#[]⟩, .slice none 0 0]) 96 rfl Tryz.underlying41 (by kernel_rfl) rfl de_ om_ (.slice A5 kids.length c5) kids z43 [.int .i64 0, .int .i64 0, .string ⟨#[]⟩, .slice none 0 0, .string ⟨#[]⟩, .slice none 0 0] (fun k_ => w.heap.size ≤ k_ ∧ k_ ≠ ge ∧ k_ ≠ gr) (fun _ => False) rfl rfl ?aP (fun _ hk => hk.elim) ?aF ?aO ?aB ?aS ?aL ?_; (case hw => rfl); (case aP => exact k43_mkM _ _ _ z43 (Kd.R_nil _ _ _ _ _) (Kd.R_nil _ _ _ _ _)); (case aF => exact HEc.out.fresh_); (case aO => exact HEc.out.kr); (case aB => exact HEc.out.bl); (case aS => exact HEc.out.bl.size); (case aL => have := HL.out; omega);intro v5' wr5 ho hb hg hat;obtain ⟨gw, cw, rfl, hbw, hlw, hcw⟩ := Kd.R_form ho si_;have HEd := A_ (HEc.out.row_ ho hb hg);have HMe := A_ (Kd.M_after HMd.out hg hat);have HXd := A_ (blk_grown HXc.out hg (fun e_ => by have := HNK.out gk e_.symm; omega));clear ho hb hg hat HEc HMd HXc;refine hK.out _ _ ⟨(blk_cell HEd.out.el 5).trans rfl, HXd.out⟩ (fun hHeld => ?_);clear hK K;refine nm_ ?_;have hlt9 := eq_true (show (kids.length : Int) < (kids.length : Int) + 1 by omega);refine pq_ ?_;refine pg_ 8 (tB 10 383) ?_;refine two_last (i := 7) (j := 9) (Ni := none) (Nj := none) (tS 10 9) (tB 10 895) rfl rfl rfl rfl (by kernel_rfl) de_ de_ (fun K hK => ?_) (fun K hK => ?_)
      ·skip
       refine el_step ?hw ?hN 43 (.tmp 54) (.tmp 50) ?ho (base := w0.heap.size) (i := (kids.length : Int)) (x' := kd) (cs := #[.int .i64 kd.f0, .int .i64 kd.f1, .string kd.f2, .slice A3' kd.f3.length c3', .string kd.f4, .slice A5' kd.f5.length c5']) ?ha ?hx (by kernel_rfl) HEd.out.kr om_ (by simp only [List.length_append, List.length_cons, List.length_nil]; omega) HMe.out (fun k_ hk_ => ⟨hk_.1, fun e_ => hk_.2 (by rw [e_]; rfl)⟩) ?_; (case hw => rfl); (case hN => rfl); (case ho => rfl); (case ha => rfl); (case hx => rfl);intro wr7 hr7 hg7;rw [Int.toNat_natCast, set_last] at hr7;have n1_ := A_ (HEd.out.row_ hr7 (HEd.out.bl.grown hg7 HEd.out.bl.size (fun k_ hk_ => by obtain rfl := sI_ hk_; exact hbw)) hg7);clear HEd hr7 hg7 HMe;have HEd := n1_;clear n1_;refine hK.out _ _ ?_;clear hK K;refine last_ (i := 9) (N := none) (tS 10 10) rfl rfl (by kernel_rfl) de_ (fun K hK => ?_);refine put_step1 ?hw ?hN 41 (.tmp 55) (.tmp 53) ?ho (g := ge) (j := 5) (u := .slice (some ⟨gw, 0, none⟩) (kids ++ [z43]).length cw) ?ha ?hx rfl (by kernel_rfl) HEd.out.el si_ rfl ?_; (case hw => rfl); (case hN => rfl); (case ho => rfl); (case ha => rfl); (case hx => rfl);have n1_ := A_ (HEd.out.kids_ (.slice (some ⟨gw, 0, none⟩) (kids ++ [z43]).length cw));(try (have n2_ := A_ (Kd.M_far (p := ⟨ge, 5, none⟩) HMe.out (fun k_ hk_ => hk_.1.2.1) (.slice (some ⟨gw, 0, none⟩) (kids ++ [z43]).length cw)); clear HMe; have HMe := n2_; clear n2_))
       clear HEd;have HEd := n1_;clear n1_;refine hK.out _ _ ?_;clear hK K;refine done_ (by kernel_rfl) ?_;go_wp2
       go_roundg m
       case measure => omega
       case rel => exact ⟨_, _, _, _, _, HH, HEd, ⟨by have := HN.out; omega⟩⟩
      ·skip
       refine put_step1 ?hw ?hN 41 (.tmp 55) (.tmp 53) ?ho (g := ge) (j := 5) (u := .slice (some ⟨gw, 0, none⟩) (kids ++ [z43]).length cw) ?ha ?hx rfl (by kernel_rfl) HEd.out.el si_ rfl ?_; (case hw => rfl); (case hN => rfl); (case ho => rfl); (case ha => rfl); (case hx => rfl);have n1_ := A_ (HEd.out.kids_ (.slice (some ⟨gw, 0, none⟩) (kids ++ [z43]).length cw));(try (have n2_ := A_ (Kd.M_far (p := ⟨ge, 5, none⟩) HMe.out (fun k_ hk_ => hk_.1.2.1) (.slice (some ⟨gw, 0, none⟩) (kids ++ [z43]).length cw)); clear HMe; have HMe := n2_; clear n2_))
       clear HEd;have HEd := n1_;clear n1_;refine hK.out _ _ ?_;clear hK K;refine last_ (i := 7) (N := none) (tS 10 10) rfl rfl (by kernel_rfl) de_ (fun K hK => ?_);refine el_step ?hw ?hN 43 (.tmp 54) (.tmp 50) ?ho (base := w0.heap.size) (i := (kids.length : Int)) (x' := kd) (cs := #[.int .i64 kd.f0, .int .i64 kd.f1, .string kd.f2, .slice A3' kd.f3.length c3', .string kd.f4, .slice A5' kd.f5.length c5']) ?ha ?hx (by kernel_rfl) HEd.out.kr om_ (by simp only [List.length_append, List.length_cons, List.length_nil]; omega) HMe.out (fun k_ hk_ => ⟨hk_.1, fun e_ => hk_.2 (by rw [e_]; rfl)⟩) ?_; (case hw => rfl); (case hN => rfl); (case ho => rfl); (case ha => rfl); (case hx => rfl);intro wr7 hr7 hg7;rw [Int.toNat_natCast, set_last] at hr7;have n1_ := A_ (HEd.out.row_ hr7 (HEd.out.bl.grown hg7 HEd.out.bl.size (fun k_ hk_ => by obtain rfl := sI_ hk_; exact hbw)) hg7);clear HEd hr7 hg7 HMe;have HEd := n1_;clear n1_;refine hK.out _ _ ?_;clear hK K;refine done_ (by kernel_rfl) ?_;go_wp2
       go_roundg m
       case measure => omega
       case rel => exact ⟨_, _, _, _, _, HH, HEd, ⟨by have := HN.out; omega⟩⟩
theorem reader_all : ∀ k, ElC k ∧ KidC k := by
 intro k;induction k using Nat.strongRecOn with
 | _ k ih =>
 refine ⟨?_, ?_⟩
 ·cases k with
  | zero => exact fun g about deep s p b r r2 r3 r4 w0 w _ _ _ _ h => by simp [readEl] at h
  | succ n => exact element_step n (fun m hm => (ih m om_).2)
 ·cases k with
  | zero => exact fun g about deep s p b r r2 r3 r4 w0 w _ _ _ _ h => by simp [readKid] at h
  | succ n => exact kid_step n (ih n (Nat.lt_succ_self n)).1
def impl_reader_element.f (k : Nat) (s : BA) (p : Int) (b : Bool) (about deep : Int) : Option (S43 × ByteArray × Int × Bool) := readEl k about deep s p b
theorem impl_reader_element.mono : ∀ s p b about deep k, LeO (impl_reader_element.f k s p b about deep) (impl_reader_element.f (k + 1) s p b about deep) := fun _ _ _ _ _ k => (readEl_mono_all k).1 _ _ _ _ _
theorem impl_reader_element.calls (k g : Nat) (about deep : Int) (s : BA) (p : Int) (b : Bool) (r : S43) (r2 : BA) (r3 : Int) (r4 : Bool) (w0 w : World) (hI : IsS93 w0 w g s p b) (hB : Below w0.heap.size w0 w) (hL : LibOk w0) (hE : LibErr w0) (h : impl_reader_element.f k s p b about deep = some (r, r2, r3, r4)) :
  Calls Tryz.prog 86 #[.pointer (some ⟨g, 0, none⟩), .int .i64 about, .int .i64 deep] w (ElPost w0 w g r r2 r3 r4) := (reader_all k).1 g about deep s p b r r2 r3 r4 w0 w hI hB hL hE h
end Go.Proofs.YtkmmoheeoblmnaaGreatDoor.A
namespace Go.Proofs.YtkmmoheeoblmnaaGreatDoor.A
open Go.RowKit Go.Proofs.YtkmmoheeoblmnaaGreatDoorW.PrintWords Go.Proofs.YtkmmoheeoblmnaaGreatDoorW.PrintLast Go.Proofs.YtkmmoheeoblmnaaGreatDoorW.PrintMore
attribute [local go_sem] max2_int min2_int max_two min_two max_three min_three max_four min_four
set_option linter.unusedVariables false
set_option linter.unusedSimpArgs false
def impl_NameOk.l0 : Nat → ByteArray → List Int → Int → Int → Option (Bool)
 | 0, _, _, _, _ => none
 | k + 1, x0, x6, x7, x8 => if x8 < x7 then (if 0 ≤ x8 then (if x8 < (x6.length : Int) then (if x8 = 0 then ((impl_IsFirst.f (rd x6 x8)).bind fun t593 => (if t593 = true then ((impl_IsNext.f (rd x6 x8)).bind fun t594 => (if t594 = true then (impl_NameOk.l0 k x0 x6 x7 (wrap64 (x8 + 1))) else (some false))) else (some false))) else ((impl_IsNext.f (rd x6 x8)).bind fun t595 => (if t595 = true then (impl_NameOk.l0 k x0 x6 x7 (wrap64 (x8 + 1))) else (some false)))) else (none)) else (none)) else (if x0.toList = ([] : List UInt8) then (some false) else ((impl_CleanOk.f k x0).bind fun t591 => (some t591)))
def impl_NameOk.f (k : Nat) (a0 : BA) : Option (Bool) := (impl_Signs.f k a0).bind fun t588 => (impl_NameOk.l0 k a0 t588 (t588.length : Int) 0)
theorem impl_NameOk.mono_l : ∀ k, (∀ y0 y1 y2 y3, LeO (impl_NameOk.l0 k y0 y1 y2 y3) (impl_NameOk.l0 (k + 1) y0 y1 y2 y3))
 | 0 => fun _ _ _ _ r h => by simp [impl_NameOk.l0] at h
 | k + 1 => by
  have ih0 := impl_NameOk.mono_l k
  ·intro y0 y1 y2 y3;unfold impl_NameOk.l0;with_reducible repeat' first | exact ih0 _ _ _ _ | exact impl_CleanOk.mono _ _ | exact impl_Signs.mono _ _ | apply LeO.refl | apply LeO.none | apply LeO.ite | apply LeO.bind | intro
theorem impl_NameOk.mono : ∀ a0 k, LeO (impl_NameOk.f k a0) (impl_NameOk.f (k + 1) a0) := by
 intro a0 k;have ih0 := impl_NameOk.mono_l k;unfold impl_NameOk.f;with_reducible repeat' first | exact ih0 _ _ _ _ | exact impl_CleanOk.mono _ _ | exact impl_Signs.mono _ _ | apply LeO.refl | apply LeO.none | apply LeO.ite | apply LeO.bind | intro
theorem impl_NameOk.calls (k : Nat) (a0 : BA) (r : Bool) (w : World) (h : impl_NameOk.f k a0 = some r) :
  Calls Tryz.prog 176 #[.string a0] w fun e w' => e = .returned (.bool r) ∧ Below w.heap.size w w' := by
 have HB := A_ (Below.refl w.heap.size w);have H : ((impl_Signs.f k a0).bind fun t588 => (impl_NameOk.l0 k a0 t588 (t588.length : Int) 0)) = some r := h;clear h;obtain ⟨t588, A2, H⟩ := ob_ H;(try dsimp only at H)
 have H' := A_ H;clear H;go_enter Tryz.func176, Tryz.ntmps176
 go_wp2_with (first | ((with_reducible refine gC_ 82 ?_); refine gL_ 6 Tryz.func82 #[.string a0] ?_; (with_reducible refine (impl_Signs.calls k a0 t588 _ A2.out).mono ?_); rintro e w3 ⟨v589, rfl, ho0, hb⟩; refine ⟨_, rfl, ?_⟩; have HO590 := A_ (Kd.R_lower ho0 (below_size hB_)); replace HB := bS_ hb; clear hb; (try clear ho0); obtain ⟨Ao4, co4, eo4⟩ := Kd.R_slice HO590.out; subst eo4))
 go_loopg [8] k (fun kq v8 w' => ∃ (x8_1 : Int), v8 = .int .i64 x8_1 ∧ As9 (impl_NameOk.l0 kq a0 t588 (t588.length : Int) x8_1 = some r) ∧ As9 (kq ≤ k) ∧ As9 (Kd.R (Kd.int .i64) 3 w' w.heap.size (fun _ => True) (.slice Ao4 t588.length co4) t588) ∧ As9 (Below w.heap.size w w'))
 case atStart => exact ⟨(0), e2_, H', ⟨Nat.le_refl _⟩, ⟨kQ_ HO590.out⟩, ⟨hB_⟩⟩
 case round =>
  clear H';try clear c1
  try clear p2
  obtain ⟨x8_1, rfl, HA, HK1, HO_6, HB⟩ := hrel;cases gk with
  | zero => exact absurd HA.out (by simp [impl_NameOk.l0])
  | succ k1 =>
   have H := HA.out;clear HA;simp only [impl_NameOk.l0] at H;rcases ic_ H with ⟨c5, H⟩ | ⟨c5, H⟩
   ·have c5b0 := dE_ c5;clear c5;obtain ⟨c6, H⟩ := ifn_ H;have c6b0 := dE_ c6;clear c6;obtain ⟨c7, H⟩ := ifn_ H;have c7b0 := dE_ c7;clear c7;rcases ic_ H with ⟨c8, H⟩ | ⟨c8, H⟩
    ·obtain ⟨c8b0, c8b1⟩ := be_ c8;clear c8;obtain ⟨t593, A9, H⟩ := ob_ H;(try dsimp only at H)
     by_cases c10 : t593 = true
     ·subst c10;rw [if_pos rfl] at H;obtain ⟨t594, A11, H⟩ := ob_ H;(try dsimp only at H)
      by_cases c12 : t594 = true
      ·subst c12;rw [if_pos rfl] at H;have H' := A_ H;clear H;have p592 : 0 ≤ (x8_1 : Int) := dT_;have q592 : x8_1 < (t588.length : Int) := dT_;obtain ⟨ad592, e592, hx592_0⟩ := Kd.at_int (Kd.R_reads' HO_6.out).2.2 x8_1 p592 q592;cases e592;replace p592 := eq_true p592;replace q592 := eq_true q592;go_wp2_with (first | (go_at_call 56; (with_reducible refine (impl_IsFirst.calls (rd t588 x8_1) true _ A9.out).mono ?_); rintro e w13 ⟨rfl, hb⟩; replace HO_6 := A_ (Kd.R_below (kQ_ HO_6.out) hb); replace HB := bS_ hb; clear hb) | (go_at_call 57; (with_reducible refine (impl_IsNext.calls (rd t588 x8_1) true _ A11.out).mono ?_); rintro e w14 ⟨rfl, hb⟩; replace HO_6 := A_ (Kd.R_below (kQ_ HO_6.out) hb); replace HB := bS_ hb; clear hb))
       go_roundg k1
       case measure => have := HK1.out; omega
       case rel => exact ⟨(wrap64 (x8_1 + 1)), e2_, H', ⟨by have := HK1.out; omega⟩, ⟨kQ_ HO_6.out⟩, ⟨hB_⟩⟩
      ·replace c12 := bF_ c12;subst c12;rw [if_neg nF_] at H;obtain rfl := sI_ H;have p592 : 0 ≤ (x8_1 : Int) := dT_;have q592 : x8_1 < (t588.length : Int) := dT_;obtain ⟨ad592, e592, hx592_0⟩ := Kd.at_int (Kd.R_reads' HO_6.out).2.2 x8_1 p592 q592;cases e592;replace p592 := eq_true p592;replace q592 := eq_true q592;go_wp2_with (first | (go_at_call 56; (with_reducible refine (impl_IsFirst.calls (rd t588 x8_1) true _ A9.out).mono ?_); rintro e w15 ⟨rfl, hb⟩; replace HO_6 := A_ (Kd.R_below (kQ_ HO_6.out) hb); replace HB := bS_ hb; clear hb) | (go_at_call 57; (with_reducible refine (impl_IsNext.calls (rd t588 x8_1) false _ A11.out).mono ?_); rintro e w16 ⟨rfl, hb⟩; replace HO_6 := A_ (Kd.R_below (kQ_ HO_6.out) hb); replace HB := bS_ hb; clear hb))
       go_ret
       exact ⟨e1_, hB_⟩
     ·replace c10 := bF_ c10;subst c10;rw [if_neg nF_] at H;obtain rfl := sI_ H;have p592 : 0 ≤ (x8_1 : Int) := dT_;have q592 : x8_1 < (t588.length : Int) := dT_;obtain ⟨ad592, e592, hx592_0⟩ := Kd.at_int (Kd.R_reads' HO_6.out).2.2 x8_1 p592 q592;cases e592;replace p592 := eq_true p592;replace q592 := eq_true q592;go_wp2_with (first | (go_at_call 56; (with_reducible refine (impl_IsFirst.calls (rd t588 x8_1) false _ A9.out).mono ?_); rintro e w17 ⟨rfl, hb⟩; replace HO_6 := A_ (Kd.R_below (kQ_ HO_6.out) hb); replace HB := bS_ hb; clear hb))
      go_ret
      exact ⟨e1_, hB_⟩
    ·obtain ⟨c8b0, c8b1⟩ := bn_ c8;obtain ⟨t595, A18, H⟩ := ob_ H;(try dsimp only at H)
     by_cases c19 : t595 = true
     ·subst c19;rw [if_pos rfl] at H;have H' := A_ H;clear H;have p592 : 0 ≤ (x8_1 : Int) := dT_;have q592 : x8_1 < (t588.length : Int) := dT_;obtain ⟨ad592, e592, hx592_0⟩ := Kd.at_int (Kd.R_reads' HO_6.out).2.2 x8_1 p592 q592;cases e592;replace p592 := eq_true p592;replace q592 := eq_true q592;go_wp2_with (first | (go_at_call 57; (with_reducible refine (impl_IsNext.calls (rd t588 x8_1) true _ A18.out).mono ?_); rintro e w20 ⟨rfl, hb⟩; replace HO_6 := A_ (Kd.R_below (kQ_ HO_6.out) hb); replace HB := bS_ hb; clear hb))
      go_roundg k1
      case measure => have := HK1.out; omega
      case rel => exact ⟨(wrap64 (x8_1 + 1)), e2_, H', ⟨by have := HK1.out; omega⟩, ⟨kQ_ HO_6.out⟩, ⟨hB_⟩⟩
     ·replace c19 := bF_ c19;subst c19;rw [if_neg nF_] at H;obtain rfl := sI_ H;have p592 : 0 ≤ (x8_1 : Int) := dT_;have q592 : x8_1 < (t588.length : Int) := dT_;obtain ⟨ad592, e592, hx592_0⟩ := Kd.at_int (Kd.R_reads' HO_6.out).2.2 x8_1 p592 q592;cases e592;replace p592 := eq_true p592;replace q592 := eq_true q592;go_wp2_with (first | (go_at_call 57; (with_reducible refine (impl_IsNext.calls (rd t588 x8_1) false _ A18.out).mono ?_); rintro e w21 ⟨rfl, hb⟩; replace HO_6 := A_ (Kd.R_below (kQ_ HO_6.out) hb); replace HB := bS_ hb; clear hb))
      go_ret
      exact ⟨e1_, hB_⟩
   ·have c5b0 := dF_ c5;clear c5;rcases ic_ H with ⟨c22, H⟩ | ⟨c22, H⟩
    ·obtain ⟨c22b0, c22b1⟩ := be_ c22;clear c22;obtain rfl := sI_ H;go_wp2
     go_ret
     exact ⟨e1_, hB_⟩
    ·obtain ⟨c22b0, c22b1⟩ := bn_ c22;obtain ⟨t591, A23, H⟩ := ob_ H;obtain rfl := sI_ H;go_wp2_with (first | (go_at_call 83; (with_reducible refine (impl_CleanOk.calls k1 a0 t591 _ A23.out).mono ?_); rintro e w24 ⟨rfl, hb⟩; replace HO_6 := A_ (Kd.R_below (kQ_ HO_6.out) hb); replace HB := bS_ hb; clear hb))
     go_ret
     exact ⟨e1_, hB_⟩
def impl_strictAttrs.l0 : Nat → List (S36) → List (S36) → Int → Int → Option (Bool)
 | 0, _, _, _, _ => none
 | k + 1, x0, x5, x6, x7 => if x7 < x6 then (if 0 ≤ x7 then (if x7 < (x5.length : Int) then ((impl_NameOk.f k ((rd_T36 x5 x7).f0)).bind fun t598 => (if t598 = true then (if ((rd_T36 x5 x7).f0).toList = ([120, 109, 108, 110, 115] : List UInt8) then (some false) else (if x7 ≤ (x0.length : Int) then ((impl_hasAttr.f (x0.take (x7 : Int).toNat) ((rd_T36 x5 x7).f0)).bind fun t603 => (if t603 = true then (some false) else ((impl_TextOk.f k ((rd_T36 x5 x7).f1)).bind fun t604 => (if t604 = true then (impl_strictAttrs.l0 k x0 x5 x6 (wrap64 (x7 + 1))) else (some false))))) else (none))) else (some false))) else (none)) else (none)) else (some true)
def impl_strictAttrs.f (k : Nat) (l0 : List (S36)) : Option (Bool) := impl_strictAttrs.l0 k l0 l0 (l0.length : Int) 0
theorem impl_strictAttrs.mono_l : ∀ k, (∀ y0 y1 y2 y3, LeO (impl_strictAttrs.l0 k y0 y1 y2 y3) (impl_strictAttrs.l0 (k + 1) y0 y1 y2 y3))
 | 0 => fun _ _ _ _ r h => by simp [impl_strictAttrs.l0] at h
 | k + 1 => by
  have ih0 := impl_strictAttrs.mono_l k
  ·intro y0 y1 y2 y3;unfold impl_strictAttrs.l0;with_reducible repeat' first | exact ih0 _ _ _ _ | exact impl_NameOk.mono _ _ | exact impl_TextOk.mono _ _ | apply LeO.refl | apply LeO.none | apply LeO.ite | apply LeO.bind | intro
theorem impl_strictAttrs.mono : ∀ a0 k, LeO (impl_strictAttrs.f k a0) (impl_strictAttrs.f (k + 1) a0) := by
 intro a0 k;have ih0 := impl_strictAttrs.mono_l k;unfold impl_strictAttrs.f;with_reducible repeat' first | exact ih0 _ _ _ _ | exact impl_NameOk.mono _ _ | exact impl_TextOk.mono _ _ | apply LeO.refl | apply LeO.none | apply LeO.ite | apply LeO.bind | intro
def impl_strictAttrs.T4 : Bool × List (List Nat × List Nat) := (true, [([], []), ([0], [0]), ([1], [1]), ([2], [2]), ([3, 2], [3]), ([4], [4]), ([5, 4], [4, 5]), ([6, 4], [4, 6]), ([4, 7], [4, 7]), ([8, 4], [8]), ([9], [9]), ([9], [9]), ([10, 11, 9], [9, 10, 11]), ([9], [9]), ([13, 9], [9, 13]), ([12, 14, 9, 9], [9, 12, 14]), ([9, 15], [9, 15]), ([16, 15], [16]), ([17], [17]), ([18, 17], [17, 18]), ([19, 17, 17], [17, 19]), ([20, 17], [17, 20]), ([17, 21], [17, 21])])
def impl_strictAttrs.B4 : List Nat := [0, 1, 3, 7, 15, 31, 63, 127, 255, 511, 1023, 1023, 4095, 1023, 9215, 32767, 65535, 131071, 262143, 524287, 1048575, 2097151, 4194303]
theorem impl_strictAttrs.tab4 : rtab .any (opsOf Tryz.f177 4) = impl_strictAttrs.T4 := by kernel_rfl
theorem impl_strictAttrs.bits4 : waitsOk impl_strictAttrs.T4.2 impl_strictAttrs.B4 = true := by kernel_rfl
theorem impl_strictAttrs.calls (k : Nat) (A0 : Option Addr) (c0 : Nat) (l0 : List (S36)) (r : Bool) (w : World) (hr0 : Kd.C k36 w A0 l0.length l0) (hc0 : l0.length ≤ c0) (h : impl_strictAttrs.f k l0 = some r) :
  Calls Tryz.prog 177 #[.slice A0 l0.length c0] w fun e w' => e = .returned (.bool r) ∧ Below w.heap.size w w' := by
 have hu36 := Tryz.underlying36;have HR0 := A_ hr0;have HC0 := A_ hc0;clear hr0 hc0;have HB := A_ (Below.refl w.heap.size w);have H : (impl_strictAttrs.l0 k l0 l0 (l0.length : Int) 0) = some r := h;clear h;have H' := A_ H;clear H;go_enter Tryz.func177, Tryz.ntmps177
 go_wp2
 go_loopg [7] k (fun kq v7 w' => ∃ (x7_1 : Int), v7 = .int .i64 x7_1 ∧ As9 (impl_strictAttrs.l0 kq l0 l0 (l0.length : Int) x7_1 = some r) ∧ As9 (kq ≤ k) ∧ As9 (Below w.heap.size w w'))
 case atStart => exact ⟨(0), e2_, H', ⟨Nat.le_refl _⟩, ⟨hB_⟩⟩
 case round =>
  clear H';try clear c1
  obtain ⟨x7_1, rfl, HA, HK1, HB⟩ := hrel;cases gk with
  | zero => exact absurd HA.out (by simp [impl_strictAttrs.l0])
  | succ k1 =>
   have H := HA.out;clear HA;simp only [impl_strictAttrs.l0] at H;rcases ic_ H with ⟨c2, H⟩ | ⟨c2, H⟩
   ·have c2b0 := dE_ c2;clear c2;obtain ⟨c3, H⟩ := ifn_ H;have c3b0 := dE_ c3;clear c3;obtain ⟨c4, H⟩ := ifn_ H;have c4b0 := dE_ c4;clear c4;obtain ⟨t598, A5, H⟩ := ob_ H;(try dsimp only at H)
    by_cases c6 : t598 = true
    ·subst c6;rw [if_pos rfl] at H;rcases ic_ H with ⟨c7, H⟩ | ⟨c7, H⟩
     ·obtain ⟨c7b0, c7b1⟩ := be_ c7;clear c7;obtain rfl := sI_ H;obtain ⟨p596, q596, ad596, e596, hx596_0, hx596_1⟩ := aB36_ HB.out HR0.out x7_1;cases e596;try go_wp2_with (first | ((with_reducible refine gate_dst (N := 4) rfl ?_); refine bE_ #[.string (⟨#[]⟩ : BA), .string (⟨#[]⟩ : BA)] 36 ?_; intro gb597 hg w8 hbox hb; have BK597 := A_ (hbox); have GW597 := hs_ hg; have GE597 := hs_ hg; replace HB := bS_ hb; clear hb hbox hg; obtain ⟨hcz9_0, hcz9_1, hfz9_0, hfz9_1⟩ := bk2_ BK597.out))
      have n0_ : As9 (((w8.setCell ⟨gb597, 0, none⟩ (.string ((rd_T36 l0 x7_1).f0))).setCell ⟨gb597, 1, none⟩ (.string ((rd_T36 l0 x7_1).f1))).heap[gb597]? = some (.cells #[.string ((rd_T36 l0 x7_1).f0), .string ((rd_T36 l0 x7_1).f1)] 36 (0, 0))) := ⟨by refine kB_ ?_; refine blk_put (cs := #[.string ((rd_T36 l0 x7_1).f0), .string (⟨#[]⟩ : BA)]) ?_ 1 _ rfl; refine kB_ ?_; refine blk_put (cs := #[.string (⟨#[]⟩ : BA), .string (⟨#[]⟩ : BA)]) ?_ 0 _ rfl; refine kB_ ?_; exact BK597.out⟩;have n1_ : As9 (Below w.heap.size w ((w8.setCell ⟨gb597, 0, none⟩ (.string ((rd_T36 l0 x7_1).f0))).setCell ⟨gb597, 1, none⟩ (.string ((rd_T36 l0 x7_1).f1)))) := ⟨hB_⟩;(try clear BK597)
      (try clear HB)
      generalize ((w8.setCell ⟨gb597, 0, none⟩ (.string ((rd_T36 l0 x7_1).f0))).setCell ⟨gb597, 1, none⟩ (.string ((rd_T36 l0 x7_1).f1))) = w10 at n0_ n1_ ⊢;have BK597 := n0_;have HB := n1_;clear n0_ n1_;replace BK597 := A_ (blk_drew BK597.out);replace HB := A_ (bD9 HB.out);refine start_ (n := 23) (S := fun w' => w'.cell? ⟨gb597, 0, none⟩ = some (.string ((rd_T36 l0 x7_1).f0)) ∧ w'.cell? ⟨gb597, 1, none⟩ = some (.string ((rd_T36 l0 x7_1).f1))) (ds := []) (tS 23 0) (by kernel_rfl) rfl rfl ⟨(blk_cell BK597.out 0).trans rfl, (blk_cell BK597.out 1).trans rfl⟩ (fun hHeld => ?_); refine with_tabW impl_strictAttrs.tab4 impl_strictAttrs.bits4 (fun HT_ HW_ => ?_);generalize w10.drew = w11 at BK597 HB hHeld ⊢;refine pqT_ ?_;refine tqT_ rfl (by rintro w' ⟨s0, s1⟩; go_simp; with_reducible rfl) ?_;refine n1T_ 2 (tS 23 3) rfl fun K hK => ?_
      refine gS_ Tryz.func176 #[.string ((rd_T36 l0 x7_1).f0)] ?_;with_reducible refine (impl_NameOk.calls k1 ((rd_T36 l0 x7_1).f0) true _ A5.out).mono ?_
      rintro e w12 ⟨rfl, hb⟩;refine ⟨_, rfl, ?_⟩;replace BK597 := A_ (blk_below (g := gb597) (o := .cells #[.string ((rd_T36 l0 x7_1).f0), .string ((rd_T36 l0 x7_1).f1)] 36 (0, 0)) (blk_below BK597.out hR_) hb);replace HB := bS_ hb;clear hb;refine hK.out _ _ ⟨(blk_cell BK597.out 0).trans rfl, (blk_cell BK597.out 1).trans rfl⟩ (fun hHeld => ?_);clear hK K;refine nm_ ?_;iterate 3 refine pqT_ ?_
      refine tqT_ rfl (by rintro w' ⟨s0, s1⟩; go_simp; with_reducible rfl) ?_;iterate 3 refine pqT_ ?_
      iterate 6 refine oqT_ ?_
      refine pqT_ ?_;refine pqT_ ?_;iterate 4 refine oqT_ ?_
      refine pqT_ ?_;refine done_ (done_of HT_.out (by kernel_rfl)) ?_;try go_wp2
      go_ret
      exact ⟨e1_, hB_⟩
     ·obtain ⟨c7b0, c7b1⟩ := bn_ c7;have c13b0 := eq_true (dT_ : 0 ≤ x7_1);obtain ⟨c14, H⟩ := ifn_ H;have c14b0 := eq_true c14;have c14b1 := dE_ c14;clear c14;obtain ⟨y599, hy599⟩ : ∃ y_ : List (S36), y_ = (l0.take (x7_1 : Int).toNat) := ⟨_, rfl⟩;replace H : ((impl_hasAttr.f y599 ((rd_T36 l0 x7_1).f0)).bind fun t603 => (if t603 = true then (some false) else ((impl_TextOk.f k1 ((rd_T36 l0 x7_1).f1)).bind fun t604 => (if t604 = true then (impl_strictAttrs.l0 k1 l0 l0 (l0.length : Int) (wrap64 (x7_1 + 1))) else (some false))))) = some r := by first | (rw [hy599]; with_reducible exact H) | (have H2_ := (Option.bind_some _ _).symm.trans H; rw [hy599]; with_reducible exact H2_) | (have H2_ := (Option.bind_some _ _).symm.trans H; with_reducible exact H2_) | with_reducible exact H | (rw [hy599]; exact H) | exact H
      have Ny599 := A_ hy599;clear hy599;obtain ⟨t603, A15, H⟩ := ob_ H;(try dsimp only at H)
      by_cases c16 : t603 = true
      ·subst c16;rw [if_pos rfl] at H;obtain rfl := sI_ H;obtain ⟨p596, q596, ad596, e596, hx596_0, hx596_1⟩ := aB36_ HB.out HR0.out x7_1;cases e596;try go_wp2_with (first | ((with_reducible refine gate_dst (N := 4) rfl ?_); refine bE_ #[.string (⟨#[]⟩ : BA), .string (⟨#[]⟩ : BA)] 36 ?_; intro gb597 hg w17 hbox hb; have BK597 := A_ (hbox); have GW597 := hs_ hg; have GE597 := hs_ hg; replace HB := bS_ hb; clear hb hbox hg; obtain ⟨hcz18_0, hcz18_1, hfz18_0, hfz18_1⟩ := bk2_ BK597.out))
       have n0_ : As9 (((w17.setCell ⟨gb597, 0, none⟩ (.string ((rd_T36 l0 x7_1).f0))).setCell ⟨gb597, 1, none⟩ (.string ((rd_T36 l0 x7_1).f1))).heap[gb597]? = some (.cells #[.string ((rd_T36 l0 x7_1).f0), .string ((rd_T36 l0 x7_1).f1)] 36 (0, 0))) := ⟨by refine kB_ ?_; refine blk_put (cs := #[.string ((rd_T36 l0 x7_1).f0), .string (⟨#[]⟩ : BA)]) ?_ 1 _ rfl; refine kB_ ?_; refine blk_put (cs := #[.string (⟨#[]⟩ : BA), .string (⟨#[]⟩ : BA)]) ?_ 0 _ rfl; refine kB_ ?_; exact BK597.out⟩;have n1_ : As9 (Below w.heap.size w ((w17.setCell ⟨gb597, 0, none⟩ (.string ((rd_T36 l0 x7_1).f0))).setCell ⟨gb597, 1, none⟩ (.string ((rd_T36 l0 x7_1).f1)))) := ⟨hB_⟩;(try clear BK597)
       (try clear HB)
       generalize ((w17.setCell ⟨gb597, 0, none⟩ (.string ((rd_T36 l0 x7_1).f0))).setCell ⟨gb597, 1, none⟩ (.string ((rd_T36 l0 x7_1).f1))) = w19 at n0_ n1_ ⊢;have BK597 := n0_;have HB := n1_;clear n0_ n1_;replace BK597 := A_ (blk_drew BK597.out);replace HB := A_ (bD9 HB.out);refine start_ (n := 23) (S := fun w' => w'.cell? ⟨gb597, 0, none⟩ = some (.string ((rd_T36 l0 x7_1).f0)) ∧ w'.cell? ⟨gb597, 1, none⟩ = some (.string ((rd_T36 l0 x7_1).f1))) (ds := []) (tS 23 0) (by kernel_rfl) rfl rfl ⟨(blk_cell BK597.out 0).trans rfl, (blk_cell BK597.out 1).trans rfl⟩ (fun hHeld => ?_); refine with_tabW impl_strictAttrs.tab4 impl_strictAttrs.bits4 (fun HT_ HW_ => ?_);generalize w19.drew = w20 at BK597 HB hHeld ⊢;refine pqT_ ?_;refine tqT_ rfl (by rintro w' ⟨s0, s1⟩; go_simp; with_reducible rfl) ?_;refine n1T_ 2 (tS 23 3) rfl fun K hK => ?_
       refine gS_ Tryz.func176 #[.string ((rd_T36 l0 x7_1).f0)] ?_;with_reducible refine (impl_NameOk.calls k1 ((rd_T36 l0 x7_1).f0) true _ A5.out).mono ?_
       rintro e w21 ⟨rfl, hb⟩;refine ⟨_, rfl, ?_⟩;replace BK597 := A_ (blk_below (g := gb597) (o := .cells #[.string ((rd_T36 l0 x7_1).f0), .string ((rd_T36 l0 x7_1).f1)] 36 (0, 0)) (blk_below BK597.out hR_) hb);replace HB := bS_ hb;clear hb;have q22 : (x7_1 : Int) ≤ ((l0.length : Int) : Int) := dT_;obtain ⟨i022, hi022, _, hsz22, _⟩ := info_parts info36;have hroom22 : l0.length ≤ c0 := HC0.out;have hC22 : Kd.C k36 _ (some ad596) l0.length l0 := HR0.out;have hcut22 := cut_to (P := Tryz.prog) 40 36 .i64 Tryz.underlying40 hi022 (some ad596) l0.length c0 x7_1 (dT_) q22 hroom22;have hr22 := Kd.C_take (m := (x7_1 : Int).toNat) hC22 om_;have hy22 : y599.length = (x7_1 : Int).toNat := (by rw [Ny599.out, List.length_take]; omega);rw [← Ny599.out] at hr22;rw [← hy22] at hcut22;have HR602 := A_ hr22;have HC602 := A_ (show y599.length ≤ c0 from by omega);clear hr22 hC22 hroom22 hi022 hsz22;have KY22 := A_ hy22;clear hy22;replace q22 := eq_true q22;refine hK.out _ _ ⟨(blk_cell BK597.out 0).trans rfl, (blk_cell BK597.out 1).trans rfl⟩ (fun hHeld => ?_);clear hK K;refine nm_ ?_;iterate 3 refine pqT_ ?_
       refine tqT_ rfl (by rintro w' ⟨s0, s1⟩; go_simp; with_reducible rfl) ?_;iterate 7 refine pqT_ ?_
       refine tqT_ rfl (by rintro w' ⟨s0, s1⟩; go_simp; with_reducible rfl) ?_;refine n1T_ 15 (tS 23 16) rfl fun K hK => ?_
       refine gS_ Tryz.func173 #[.slice (some ad596) y599.length c0, .string ((rd_T36 l0 x7_1).f0)] ?_;with_reducible refine (impl_hasAttr.calls _ _ y599 ((rd_T36 l0 x7_1).f0) true _ ?side1 ?side2 A15.out).mono ?_
       (case side1 => exact Kd.C_below HR602.out hB_)
       (case side2 => exact HC602.out)
       rintro e w23 ⟨rfl, hb⟩;refine ⟨_, rfl, ?_⟩;replace BK597 := A_ (blk_below (g := gb597) (o := .cells #[.string ((rd_T36 l0 x7_1).f0), .string ((rd_T36 l0 x7_1).f1)] 36 (0, 0)) (blk_below BK597.out hR_) hb);replace HB := bS_ hb;clear hb;refine hK.out _ _ ⟨(blk_cell BK597.out 0).trans rfl, (blk_cell BK597.out 1).trans rfl⟩ (fun hHeld => ?_);clear hK K;refine nm_ ?_;refine pqT_ ?_;refine pqT_ ?_;iterate 4 refine oqT_ ?_
       refine pqT_ ?_;refine done_ (done_of HT_.out (by kernel_rfl)) ?_;try go_wp2
       go_ret
       exact ⟨e1_, hB_⟩
      ·replace c16 := bF_ c16;subst c16;rw [if_neg nF_] at H;obtain ⟨t604, A24, H⟩ := ob_ H;(try dsimp only at H)
       by_cases c25 : t604 = true
       ·subst c25;rw [if_pos rfl] at H;have H' := A_ H;clear H;obtain ⟨p596, q596, ad596, e596, hx596_0, hx596_1⟩ := aB36_ HB.out HR0.out x7_1;cases e596;try go_wp2_with (first | ((with_reducible refine gate_dst (N := 4) rfl ?_); refine bE_ #[.string (⟨#[]⟩ : BA), .string (⟨#[]⟩ : BA)] 36 ?_; intro gb597 hg w26 hbox hb; have BK597 := A_ (hbox); have GW597 := hs_ hg; have GE597 := hs_ hg; replace HB := bS_ hb; clear hb hbox hg; obtain ⟨hcz27_0, hcz27_1, hfz27_0, hfz27_1⟩ := bk2_ BK597.out))
        have n0_ : As9 (((w26.setCell ⟨gb597, 0, none⟩ (.string ((rd_T36 l0 x7_1).f0))).setCell ⟨gb597, 1, none⟩ (.string ((rd_T36 l0 x7_1).f1))).heap[gb597]? = some (.cells #[.string ((rd_T36 l0 x7_1).f0), .string ((rd_T36 l0 x7_1).f1)] 36 (0, 0))) := ⟨by refine kB_ ?_; refine blk_put (cs := #[.string ((rd_T36 l0 x7_1).f0), .string (⟨#[]⟩ : BA)]) ?_ 1 _ rfl; refine kB_ ?_; refine blk_put (cs := #[.string (⟨#[]⟩ : BA), .string (⟨#[]⟩ : BA)]) ?_ 0 _ rfl; refine kB_ ?_; exact BK597.out⟩;have n1_ : As9 (Below w.heap.size w ((w26.setCell ⟨gb597, 0, none⟩ (.string ((rd_T36 l0 x7_1).f0))).setCell ⟨gb597, 1, none⟩ (.string ((rd_T36 l0 x7_1).f1)))) := ⟨hB_⟩;(try clear BK597)
        (try clear HB)
        generalize ((w26.setCell ⟨gb597, 0, none⟩ (.string ((rd_T36 l0 x7_1).f0))).setCell ⟨gb597, 1, none⟩ (.string ((rd_T36 l0 x7_1).f1))) = w28 at n0_ n1_ ⊢;have BK597 := n0_;have HB := n1_;clear n0_ n1_;replace BK597 := A_ (blk_drew BK597.out);replace HB := A_ (bD9 HB.out);refine start_ (n := 23) (S := fun w' => w'.cell? ⟨gb597, 0, none⟩ = some (.string ((rd_T36 l0 x7_1).f0)) ∧ w'.cell? ⟨gb597, 1, none⟩ = some (.string ((rd_T36 l0 x7_1).f1))) (ds := []) (tS 23 0) (by kernel_rfl) rfl rfl ⟨(blk_cell BK597.out 0).trans rfl, (blk_cell BK597.out 1).trans rfl⟩ (fun hHeld => ?_); refine with_tabW impl_strictAttrs.tab4 impl_strictAttrs.bits4 (fun HT_ HW_ => ?_);generalize w28.drew = w29 at BK597 HB hHeld ⊢;refine pqT_ ?_;refine tqT_ rfl (by rintro w' ⟨s0, s1⟩; go_simp; with_reducible rfl) ?_;refine n1T_ 2 (tS 23 3) rfl fun K hK => ?_
        refine gS_ Tryz.func176 #[.string ((rd_T36 l0 x7_1).f0)] ?_;with_reducible refine (impl_NameOk.calls k1 ((rd_T36 l0 x7_1).f0) true _ A5.out).mono ?_
        rintro e w30 ⟨rfl, hb⟩;refine ⟨_, rfl, ?_⟩;replace BK597 := A_ (blk_below (g := gb597) (o := .cells #[.string ((rd_T36 l0 x7_1).f0), .string ((rd_T36 l0 x7_1).f1)] 36 (0, 0)) (blk_below BK597.out hR_) hb);replace HB := bS_ hb;clear hb;have q31 : (x7_1 : Int) ≤ ((l0.length : Int) : Int) := dT_;obtain ⟨i031, hi031, _, hsz31, _⟩ := info_parts info36;have hroom31 : l0.length ≤ c0 := HC0.out;have hC31 : Kd.C k36 _ (some ad596) l0.length l0 := HR0.out;have hcut31 := cut_to (P := Tryz.prog) 40 36 .i64 Tryz.underlying40 hi031 (some ad596) l0.length c0 x7_1 (dT_) q31 hroom31;have hr31 := Kd.C_take (m := (x7_1 : Int).toNat) hC31 om_;have hy31 : y599.length = (x7_1 : Int).toNat := (by rw [Ny599.out, List.length_take]; omega);rw [← Ny599.out] at hr31;rw [← hy31] at hcut31;have HR602 := A_ hr31;have HC602 := A_ (show y599.length ≤ c0 from by omega);clear hr31 hC31 hroom31 hi031 hsz31;have KY31 := A_ hy31;clear hy31;replace q31 := eq_true q31;refine hK.out _ _ ⟨(blk_cell BK597.out 0).trans rfl, (blk_cell BK597.out 1).trans rfl⟩ (fun hHeld => ?_);clear hK K;refine nm_ ?_;iterate 3 refine pqT_ ?_
        refine tqT_ rfl (by rintro w' ⟨s0, s1⟩; go_simp; with_reducible rfl) ?_;iterate 7 refine pqT_ ?_
        refine tqT_ rfl (by rintro w' ⟨s0, s1⟩; go_simp; with_reducible rfl) ?_;refine n1T_ 15 (tS 23 16) rfl fun K hK => ?_
        refine gS_ Tryz.func173 #[.slice (some ad596) y599.length c0, .string ((rd_T36 l0 x7_1).f0)] ?_;with_reducible refine (impl_hasAttr.calls _ _ y599 ((rd_T36 l0 x7_1).f0) false _ ?side1 ?side2 A15.out).mono ?_
        (case side1 => exact Kd.C_below HR602.out hB_)
        (case side2 => exact HC602.out)
        rintro e w32 ⟨rfl, hb⟩;refine ⟨_, rfl, ?_⟩;replace BK597 := A_ (blk_below (g := gb597) (o := .cells #[.string ((rd_T36 l0 x7_1).f0), .string ((rd_T36 l0 x7_1).f1)] 36 (0, 0)) (blk_below BK597.out hR_) hb);replace HB := bS_ hb;clear hb;refine hK.out _ _ ⟨(blk_cell BK597.out 0).trans rfl, (blk_cell BK597.out 1).trans rfl⟩ (fun hHeld => ?_);clear hK K;refine nm_ ?_;iterate 3 refine pqT_ ?_
        refine tqT_ rfl (by rintro w' ⟨s0, s1⟩; go_simp; with_reducible rfl) ?_;refine n1T_ 20 (tS 23 21) rfl fun K hK => ?_
        refine gS_ Tryz.func30 #[.string ((rd_T36 l0 x7_1).f1)] ?_;with_reducible refine (impl_TextOk.calls k1 ((rd_T36 l0 x7_1).f1) true _ A24.out).mono ?_
        rintro e w33 ⟨rfl, hb⟩;refine ⟨_, rfl, ?_⟩;replace BK597 := A_ (blk_below (g := gb597) (o := .cells #[.string ((rd_T36 l0 x7_1).f0), .string ((rd_T36 l0 x7_1).f1)] 36 (0, 0)) (blk_below BK597.out hR_) hb);replace HB := bS_ hb;clear hb;refine hK.out _ _ ⟨(blk_cell BK597.out 0).trans rfl, (blk_cell BK597.out 1).trans rfl⟩ (fun hHeld => ?_);clear hK K;refine nm_ ?_;refine pqT_ ?_;refine pqT_ ?_;refine done_ (done_of HT_.out (by kernel_rfl)) ?_;try go_wp2
        go_roundg k1
        case measure => have := HK1.out; omega
        case rel => exact ⟨(wrap64 (x7_1 + 1)), e2_, H', ⟨by have := HK1.out; omega⟩, ⟨hB_⟩⟩
       ·replace c25 := bF_ c25;subst c25;rw [if_neg nF_] at H;obtain rfl := sI_ H;obtain ⟨p596, q596, ad596, e596, hx596_0, hx596_1⟩ := aB36_ HB.out HR0.out x7_1;cases e596;try go_wp2_with (first | ((with_reducible refine gate_dst (N := 4) rfl ?_); refine bE_ #[.string (⟨#[]⟩ : BA), .string (⟨#[]⟩ : BA)] 36 ?_; intro gb597 hg w34 hbox hb; have BK597 := A_ (hbox); have GW597 := hs_ hg; have GE597 := hs_ hg; replace HB := bS_ hb; clear hb hbox hg; obtain ⟨hcz35_0, hcz35_1, hfz35_0, hfz35_1⟩ := bk2_ BK597.out))
        have n0_ : As9 (((w34.setCell ⟨gb597, 0, none⟩ (.string ((rd_T36 l0 x7_1).f0))).setCell ⟨gb597, 1, none⟩ (.string ((rd_T36 l0 x7_1).f1))).heap[gb597]? = some (.cells #[.string ((rd_T36 l0 x7_1).f0), .string ((rd_T36 l0 x7_1).f1)] 36 (0, 0))) := ⟨by refine kB_ ?_; refine blk_put (cs := #[.string ((rd_T36 l0 x7_1).f0), .string (⟨#[]⟩ : BA)]) ?_ 1 _ rfl; refine kB_ ?_; refine blk_put (cs := #[.string (⟨#[]⟩ : BA), .string (⟨#[]⟩ : BA)]) ?_ 0 _ rfl; refine kB_ ?_; exact BK597.out⟩;have n1_ : As9 (Below w.heap.size w ((w34.setCell ⟨gb597, 0, none⟩ (.string ((rd_T36 l0 x7_1).f0))).setCell ⟨gb597, 1, none⟩ (.string ((rd_T36 l0 x7_1).f1)))) := ⟨hB_⟩;(try clear BK597)
        (try clear HB)
        generalize ((w34.setCell ⟨gb597, 0, none⟩ (.string ((rd_T36 l0 x7_1).f0))).setCell ⟨gb597, 1, none⟩ (.string ((rd_T36 l0 x7_1).f1))) = w36 at n0_ n1_ ⊢;have BK597 := n0_;have HB := n1_;clear n0_ n1_;replace BK597 := A_ (blk_drew BK597.out);replace HB := A_ (bD9 HB.out);refine start_ (n := 23) (S := fun w' => w'.cell? ⟨gb597, 0, none⟩ = some (.string ((rd_T36 l0 x7_1).f0)) ∧ w'.cell? ⟨gb597, 1, none⟩ = some (.string ((rd_T36 l0 x7_1).f1))) (ds := []) (tS 23 0) (by kernel_rfl) rfl rfl ⟨(blk_cell BK597.out 0).trans rfl, (blk_cell BK597.out 1).trans rfl⟩ (fun hHeld => ?_); refine with_tabW impl_strictAttrs.tab4 impl_strictAttrs.bits4 (fun HT_ HW_ => ?_);generalize w36.drew = w37 at BK597 HB hHeld ⊢;refine pqT_ ?_;refine tqT_ rfl (by rintro w' ⟨s0, s1⟩; go_simp; with_reducible rfl) ?_;refine n1T_ 2 (tS 23 3) rfl fun K hK => ?_
        refine gS_ Tryz.func176 #[.string ((rd_T36 l0 x7_1).f0)] ?_;with_reducible refine (impl_NameOk.calls k1 ((rd_T36 l0 x7_1).f0) true _ A5.out).mono ?_
        rintro e w38 ⟨rfl, hb⟩;refine ⟨_, rfl, ?_⟩;replace BK597 := A_ (blk_below (g := gb597) (o := .cells #[.string ((rd_T36 l0 x7_1).f0), .string ((rd_T36 l0 x7_1).f1)] 36 (0, 0)) (blk_below BK597.out hR_) hb);replace HB := bS_ hb;clear hb;have q39 : (x7_1 : Int) ≤ ((l0.length : Int) : Int) := dT_;obtain ⟨i039, hi039, _, hsz39, _⟩ := info_parts info36;have hroom39 : l0.length ≤ c0 := HC0.out;have hC39 : Kd.C k36 _ (some ad596) l0.length l0 := HR0.out;have hcut39 := cut_to (P := Tryz.prog) 40 36 .i64 Tryz.underlying40 hi039 (some ad596) l0.length c0 x7_1 (dT_) q39 hroom39;have hr39 := Kd.C_take (m := (x7_1 : Int).toNat) hC39 om_;have hy39 : y599.length = (x7_1 : Int).toNat := (by rw [Ny599.out, List.length_take]; omega);rw [← Ny599.out] at hr39;rw [← hy39] at hcut39;have HR602 := A_ hr39;have HC602 := A_ (show y599.length ≤ c0 from by omega);clear hr39 hC39 hroom39 hi039 hsz39;have KY39 := A_ hy39;clear hy39;replace q39 := eq_true q39;refine hK.out _ _ ⟨(blk_cell BK597.out 0).trans rfl, (blk_cell BK597.out 1).trans rfl⟩ (fun hHeld => ?_);clear hK K;refine nm_ ?_;iterate 3 refine pqT_ ?_
        refine tqT_ rfl (by rintro w' ⟨s0, s1⟩; go_simp; with_reducible rfl) ?_;iterate 7 refine pqT_ ?_
        refine tqT_ rfl (by rintro w' ⟨s0, s1⟩; go_simp; with_reducible rfl) ?_;refine n1T_ 15 (tS 23 16) rfl fun K hK => ?_
        refine gS_ Tryz.func173 #[.slice (some ad596) y599.length c0, .string ((rd_T36 l0 x7_1).f0)] ?_;with_reducible refine (impl_hasAttr.calls _ _ y599 ((rd_T36 l0 x7_1).f0) false _ ?side1 ?side2 A15.out).mono ?_
        (case side1 => exact Kd.C_below HR602.out hB_)
        (case side2 => exact HC602.out)
        rintro e w40 ⟨rfl, hb⟩;refine ⟨_, rfl, ?_⟩;replace BK597 := A_ (blk_below (g := gb597) (o := .cells #[.string ((rd_T36 l0 x7_1).f0), .string ((rd_T36 l0 x7_1).f1)] 36 (0, 0)) (blk_below BK597.out hR_) hb);replace HB := bS_ hb;clear hb;refine hK.out _ _ ⟨(blk_cell BK597.out 0).trans rfl, (blk_cell BK597.out 1).trans rfl⟩ (fun hHeld => ?_);clear hK K;refine nm_ ?_;iterate 3 refine pqT_ ?_
        refine tqT_ rfl (by rintro w' ⟨s0, s1⟩; go_simp; with_reducible rfl) ?_;refine n1T_ 20 (tS 23 21) rfl fun K hK => ?_
        refine gS_ Tryz.func30 #[.string ((rd_T36 l0 x7_1).f1)] ?_;with_reducible refine (impl_TextOk.calls k1 ((rd_T36 l0 x7_1).f1) false _ A24.out).mono ?_
        rintro e w41 ⟨rfl, hb⟩;refine ⟨_, rfl, ?_⟩;replace BK597 := A_ (blk_below (g := gb597) (o := .cells #[.string ((rd_T36 l0 x7_1).f0), .string ((rd_T36 l0 x7_1).f1)] 36 (0, 0)) (blk_below BK597.out hR_) hb);replace HB := bS_ hb;clear hb;refine hK.out _ _ ⟨(blk_cell BK597.out 0).trans rfl, (blk_cell BK597.out 1).trans rfl⟩ (fun hHeld => ?_);clear hK K;refine nm_ ?_;refine pqT_ ?_;refine pqT_ ?_;refine done_ (done_of HT_.out (by kernel_rfl)) ?_;try go_wp2
        go_ret
        exact ⟨e1_, hB_⟩
    ·replace c6 := bF_ c6;subst c6;rw [if_neg nF_] at H;obtain rfl := sI_ H;obtain ⟨p596, q596, ad596, e596, hx596_0, hx596_1⟩ := aB36_ HB.out HR0.out x7_1;cases e596;try go_wp2_with (first | ((with_reducible refine gate_dst (N := 4) rfl ?_); refine bE_ #[.string (⟨#[]⟩ : BA), .string (⟨#[]⟩ : BA)] 36 ?_; intro gb597 hg w42 hbox hb; have BK597 := A_ (hbox); have GW597 := hs_ hg; have GE597 := hs_ hg; replace HB := bS_ hb; clear hb hbox hg; obtain ⟨hcz43_0, hcz43_1, hfz43_0, hfz43_1⟩ := bk2_ BK597.out))
     have n0_ : As9 (((w42.setCell ⟨gb597, 0, none⟩ (.string ((rd_T36 l0 x7_1).f0))).setCell ⟨gb597, 1, none⟩ (.string ((rd_T36 l0 x7_1).f1))).heap[gb597]? = some (.cells #[.string ((rd_T36 l0 x7_1).f0), .string ((rd_T36 l0 x7_1).f1)] 36 (0, 0))) := ⟨by refine kB_ ?_; refine blk_put (cs := #[.string ((rd_T36 l0 x7_1).f0), .string (⟨#[]⟩ : BA)]) ?_ 1 _ rfl; refine kB_ ?_; refine blk_put (cs := #[.string (⟨#[]⟩ : BA), .string (⟨#[]⟩ : BA)]) ?_ 0 _ rfl; refine kB_ ?_; exact BK597.out⟩;have n1_ : As9 (Below w.heap.size w ((w42.setCell ⟨gb597, 0, none⟩ (.string ((rd_T36 l0 x7_1).f0))).setCell ⟨gb597, 1, none⟩ (.string ((rd_T36 l0 x7_1).f1)))) := ⟨hB_⟩;(try clear BK597)
     (try clear HB)
     generalize ((w42.setCell ⟨gb597, 0, none⟩ (.string ((rd_T36 l0 x7_1).f0))).setCell ⟨gb597, 1, none⟩ (.string ((rd_T36 l0 x7_1).f1))) = w44 at n0_ n1_ ⊢;have BK597 := n0_;have HB := n1_;clear n0_ n1_;replace BK597 := A_ (blk_drew BK597.out);replace HB := A_ (bD9 HB.out);refine start_ (n := 23) (S := fun w' => w'.cell? ⟨gb597, 0, none⟩ = some (.string ((rd_T36 l0 x7_1).f0)) ∧ w'.cell? ⟨gb597, 1, none⟩ = some (.string ((rd_T36 l0 x7_1).f1))) (ds := []) (tS 23 0) (by kernel_rfl) rfl rfl ⟨(blk_cell BK597.out 0).trans rfl, (blk_cell BK597.out 1).trans rfl⟩ (fun hHeld => ?_); refine with_tabW impl_strictAttrs.tab4 impl_strictAttrs.bits4 (fun HT_ HW_ => ?_);generalize w44.drew = w45 at BK597 HB hHeld ⊢;refine pqT_ ?_;refine tqT_ rfl (by rintro w' ⟨s0, s1⟩; go_simp; with_reducible rfl) ?_;refine n1T_ 2 (tS 23 3) rfl fun K hK => ?_
     refine gS_ Tryz.func176 #[.string ((rd_T36 l0 x7_1).f0)] ?_;with_reducible refine (impl_NameOk.calls k1 ((rd_T36 l0 x7_1).f0) false _ A5.out).mono ?_
     rintro e w46 ⟨rfl, hb⟩;refine ⟨_, rfl, ?_⟩;replace BK597 := A_ (blk_below (g := gb597) (o := .cells #[.string ((rd_T36 l0 x7_1).f0), .string ((rd_T36 l0 x7_1).f1)] 36 (0, 0)) (blk_below BK597.out hR_) hb);replace HB := bS_ hb;clear hb;refine hK.out _ _ ⟨(blk_cell BK597.out 0).trans rfl, (blk_cell BK597.out 1).trans rfl⟩ (fun hHeld => ?_);clear hK K;refine nm_ ?_;refine pqT_ ?_;refine pqT_ ?_;iterate 3 refine oqT_ ?_
     refine pqT_ ?_;refine pqT_ ?_;iterate 6 refine oqT_ ?_
     refine pqT_ ?_;refine pqT_ ?_;iterate 4 refine oqT_ ?_
     refine pqT_ ?_;refine done_ (done_of HT_.out (by kernel_rfl)) ?_;try go_wp2
     go_ret
     exact ⟨e1_, hB_⟩
   ·have c2b0 := dF_ c2;clear c2;obtain rfl := sI_ H;go_wp2
    go_ret
    exact ⟨e1_, hB_⟩
mutual
def impl_elOk.f : Nat → Int → Int → ByteArray → List S36 → ByteArray → List S43 → Int → Option Bool
 | 0, _, _, _, _, _, _, _ => none
 | k + 1, f0, f1, f2, l3, f4, l5, deep => if deep < 1 then some false else
  if f0 = 1 then (impl_inRange.f f1 0 2).bind fun a => if a = true then (impl_NameOk.f k f2).bind fun b => if b = true then (impl_strictAttrs.f k l3).bind fun c => if c = true then (if f4.toList = [] then elOkL k deep l5 0 else some false) else some false else some false else some false
  else if f1 = 0 then (if f2.toList = [] then (if l3 = [] then (if l5 = [] then (if f0 = 2 then (if f4.toList = [] then some false else impl_TextOk.f k f4) else if f0 = 3 then impl_NoteOk.f k f4 else some false) else some false) else some false) else some false) else some false
def elOkL : Nat → Int → List S43 → Int → Option Bool
 | 0, _, _, _ => none
 | k + 1, deep, l, j => if j < (l.length : Int) then (if 0 ≤ j then (impl_elOk.f k (rd_T43 l j).f0 (rd_T43 l j).f1 (rd_T43 l j).f2 (rd_T43 l j).f3 (rd_T43 l j).f4 (rd_T43 l j).f5 (wrap64 (deep - 1))).bind fun t => if t = true then (if 0 < j ∧ (rd_T43 l j).f0 = 2 ∧ (rd_T43 l (j - 1)).f0 = 2 then some false else elOkL k deep l (j + 1)) else some false else none) else some true
end
theorem elOk_mono_all : ∀ k, (∀ y0 y1 y2 y3 y4 y5 y6, LeO (impl_elOk.f k y0 y1 y2 y3 y4 y5 y6) (impl_elOk.f (k + 1) y0 y1 y2 y3 y4 y5 y6)) ∧ (∀ y0 y1 y2, LeO (elOkL k y0 y1 y2) (elOkL (k + 1) y0 y1 y2))
 | 0 => ⟨fun _ _ _ _ _ _ _ r h => by simp [impl_elOk.f] at h, fun _ _ _ r h => by simp [elOkL] at h⟩
 | k + 1 => by
  obtain ⟨i1, i2⟩ := elOk_mono_all k;refine ⟨fun y0 y1 y2 y3 y4 y5 y6 => ?_, fun y0 y1 y2 => ?_⟩
  ·rw [impl_elOk.f, impl_elOk.f];exact LeO.ite (LeO.refl _) (LeO.ite (LeO.bind (LeO.refl _) fun a => LeO.ite (LeO.bind (impl_NameOk.mono _ _) fun b => LeO.ite (LeO.bind (impl_strictAttrs.mono _ _) fun c => LeO.ite (LeO.ite (i2 _ _ _) (LeO.refl _)) (LeO.refl _)) (LeO.refl _)) (LeO.refl _)) (LeO.ite (LeO.ite (LeO.ite (LeO.ite (LeO.ite (LeO.ite (LeO.refl _) (impl_TextOk.mono _ _)) (LeO.ite (impl_NoteOk.mono _ _) (LeO.refl _))) (LeO.refl _)) (LeO.refl _)) (LeO.refl _)) (LeO.refl _)))
  ·rw [elOkL, elOkL];exact LeO.ite (LeO.ite (LeO.bind (i1 _ _ _ _ _ _ _) fun t => LeO.ite (LeO.ite (LeO.refl _) (i2 _ _ _)) (LeO.refl _)) (LeO.refl _)) (LeO.refl _)
theorem impl_elOk.mono : ∀ y0 y1 y2 y3 y4 y5 y6 k, LeO (impl_elOk.f k y0 y1 y2 y3 y4 y5 y6) (impl_elOk.f (k + 1) y0 y1 y2 y3 y4 y5 y6) := fun _ _ _ _ _ _ _ k => (elOk_mono_all k).1 _ _ _ _ _ _ _
theorem impl_elOk.calls (k : Nat) : ∀ (a0_0 : Int) (a0_1 : Int) (a0_2 : BA) (A0_3 : Option Addr) (c0_3 : Nat) (l0_3 : List S36) (a0_4 : BA) (A0_5 : Option Addr) (c0_5 : Nat) (l0_5 : List S43) (a1 : Int) (r : Bool) (w : World) (hr0_3 : Kd.C k36 w A0_3 l0_3.length l0_3) (hc0_3 : l0_3.length ≤ c0_3) (hr0_5 : Kd.C k43 w A0_5 l0_5.length l0_5) (hc0_5 : l0_5.length ≤ c0_5) (hL : LibOk w) (h : impl_elOk.f k a0_0 a0_1 a0_2 l0_3 a0_4 l0_5 a1 = some r),
  Calls Tryz.prog 138 #[.agg #[.int .i64 a0_0, .int .i64 a0_1, .string a0_2, .slice A0_3 l0_3.length c0_3, .string a0_4, .slice A0_5 l0_5.length c0_5], .int .i64 a1] w fun e w' => e = .returned (.bool r) ∧ Below w.heap.size w w' := by
 induction k using Nat.strongRecOn with
 | _ k ih =>
 intro f0 f1 f2 A3 c3 l3 f4 A5 c5 l5 deep r w hr3 hc3 hr5 hc5 hL h;cases k with
 | zero => simp [impl_elOk.f] at h
 | succ n =>
 have hu := Tryz.underlying43;have HR3 := A_ hr3;have HR5 := A_ hr5;have HC3 := A_ hc3;have HC5 := A_ hc5;have HLL := A_ hL;have hm5 := Kd.C_max hr5;rw [impl_elOk.f] at h;clear hr3 hc3 hr5 hc5 hL;go_enter Tryz.func138, Tryz.ntmps138
 by_cases d1 : deep < 1
 ·rw [if_pos d1] at h;obtain rfl := sI_ h;go_wp2_with (((with_reducible refine gate_dst (N := 2) rfl ?_); refine bE_ #[.int .i64 f0, .int .i64 f1, .string f2, .slice A3 l3.length c3, .string f4, .slice A5 l5.length c5] 43 ?_; intro gb hg w2 hbox hb; have HXz := A_ hbox; have HBz := A_ hb; clear hg hbox hb; obtain ⟨hz0, hz1, hz2, hz3, hz4, hz5⟩ := bc6_ HXz.out))
  go_ret
  exact ⟨rfl, HBz.out⟩
 rw [if_neg d1] at h;by_cases k1 : f0 = 1
 case neg =>
  rw [if_neg k1] at h;have k1b : (f0 == 1) = false := bN_ k1;have k1d : (!(f0 == 1)) = true := by rw [k1b]; rfl
  by_cases e1 : f1 = 0
  case neg =>
   rw [if_neg e1] at h;have e1b : (f1 == 0) = false := bN_ e1;have e1d : (!(f1 == 0)) = true := by rw [e1b]; rfl
   obtain rfl := sI_ h;go_wp2_with (((with_reducible refine gate_dst (N := 2) rfl ?_); refine bE_ #[.int .i64 f0, .int .i64 f1, .string f2, .slice A3 l3.length c3, .string f4, .slice A5 l5.length c5] 43 ?_; intro gb hg w2 hbox hb; have HXz := A_ hbox; have HBz := A_ hb; clear hg hbox hb; obtain ⟨hz0, hz1, hz2, hz3, hz4, hz5⟩ := bc6_ HXz.out))
   go_ret
   exact ⟨rfl, HBz.out⟩
  rw [if_pos e1] at h;have e1b : (f1 == 0) = true := bQ_ e1;have e1d : (!(f1 == 0)) = false := by rw [e1b]; rfl
  by_cases e2 : f2.toList = []
  case neg =>
   rw [if_neg e2] at h;have e2b : (f2.toList == ([] : List UInt8)) = false := bN_ e2;have e2c : f2.toList.isEmpty = false := by cases h9 : f2.toList with | nil => exact absurd h9 e2 | cons _ _ => rfl
   have e2d : (!f2.toList.isEmpty) = true := by rw [e2c]; rfl
   obtain rfl := sI_ h;go_wp2_with (((with_reducible refine gate_dst (N := 2) rfl ?_); refine bE_ #[.int .i64 f0, .int .i64 f1, .string f2, .slice A3 l3.length c3, .string f4, .slice A5 l5.length c5] 43 ?_; intro gb hg w2 hbox hb; have HXz := A_ hbox; have HBz := A_ hb; clear hg hbox hb; obtain ⟨hz0, hz1, hz2, hz3, hz4, hz5⟩ := bc6_ HXz.out))
   go_ret
   exact ⟨rfl, HBz.out⟩
  rw [if_pos e2] at h;have e2b : (f2.toList == ([] : List UInt8)) = true := by rw [e2]; rfl
  have e2c : f2.toList.isEmpty = true := by rw [e2]; rfl
  have e2d : (!f2.toList.isEmpty) = false := by rw [e2c]; rfl
  by_cases e3 : l3 = []
  case neg =>
   rw [if_neg e3] at h;have e3b : decide ((l3.length : Int) > 0) = true := dE_ (by cases l3 with | nil => exact absurd rfl e3 | cons a b => simp);have e3c : (0 < (l3.length : Int)) = True := eq_true (of_decide_eq_true e3b);have e3n : (0 < l3.length) = True := eq_true (by have := of_decide_eq_true e3b; omega);obtain rfl := sI_ h;go_wp2_with (((with_reducible refine gate_dst (N := 2) rfl ?_); refine bE_ #[.int .i64 f0, .int .i64 f1, .string f2, .slice A3 l3.length c3, .string f4, .slice A5 l5.length c5] 43 ?_; intro gb hg w2 hbox hb; have HXz := A_ hbox; have HBz := A_ hb; clear hg hbox hb; obtain ⟨hz0, hz1, hz2, hz3, hz4, hz5⟩ := bc6_ HXz.out))
   go_ret
   exact ⟨rfl, HBz.out⟩
  rw [if_pos e3] at h;have e3b : decide ((l3.length : Int) > 0) = false := by rw [e3]; rfl
  have e3c : (0 < (l3.length : Int)) = False := eq_false (of_decide_eq_false e3b);have e3n : (0 < l3.length) = False := eq_false (by have := of_decide_eq_false e3b; omega);by_cases e5 : l5 = []
  case neg =>
   rw [if_neg e5] at h;have e5b : decide ((l5.length : Int) > 0) = true := dE_ (by cases l5 with | nil => exact absurd rfl e5 | cons a b => simp);have e5c : (0 < (l5.length : Int)) = True := eq_true (of_decide_eq_true e5b);have e5n : (0 < l5.length) = True := eq_true (by have := of_decide_eq_true e5b; omega);obtain rfl := sI_ h;go_wp2_with (((with_reducible refine gate_dst (N := 2) rfl ?_); refine bE_ #[.int .i64 f0, .int .i64 f1, .string f2, .slice A3 l3.length c3, .string f4, .slice A5 l5.length c5] 43 ?_; intro gb hg w2 hbox hb; have HXz := A_ hbox; have HBz := A_ hb; clear hg hbox hb; obtain ⟨hz0, hz1, hz2, hz3, hz4, hz5⟩ := bc6_ HXz.out))
   go_ret
   exact ⟨rfl, HBz.out⟩
  rw [if_pos e5] at h;have e5b : decide ((l5.length : Int) > 0) = false := by rw [e5]; rfl
  have e5c : (0 < (l5.length : Int)) = False := eq_false (of_decide_eq_false e5b);have e5n : (0 < l5.length) = False := eq_false (by have := of_decide_eq_false e5b; omega);by_cases k2 : f0 = 2
  case pos =>
   rw [if_pos k2] at h;have k2b : (f0 == 2) = true := bQ_ k2;have k2c : (f0 == 3) = false := by rw [k2]; rfl
   by_cases e4 : f4.toList = []
   case pos =>
    rw [if_pos e4] at h;have e4b : (f4.toList == ([] : List UInt8)) = true := by rw [e4]; rfl
    have e4c : f4.toList.isEmpty = true := by rw [e4]; rfl
    have e4d : (!f4.toList.isEmpty) = false := by rw [e4c]; rfl
    obtain rfl := sI_ h;go_wp2_with (((with_reducible refine gate_dst (N := 2) rfl ?_); refine bE_ #[.int .i64 f0, .int .i64 f1, .string f2, .slice A3 l3.length c3, .string f4, .slice A5 l5.length c5] 43 ?_; intro gb hg w2 hbox hb; have HXz := A_ hbox; have HBz := A_ hb; clear hg hbox hb; obtain ⟨hz0, hz1, hz2, hz3, hz4, hz5⟩ := bc6_ HXz.out))
    go_ret
    exact ⟨rfl, HBz.out⟩
   rw [if_neg e4] at h;have e4b : (f4.toList == ([] : List UInt8)) = false := bN_ e4;have e4c : f4.toList.isEmpty = false := by cases h9 : f4.toList with | nil => exact absurd h9 e4 | cons _ _ => rfl
   have e4d : (!f4.toList.isEmpty) = true := by rw [e4c]; rfl
   have HT := A_ h;clear h;cases r with
   | true =>
    go_wp2_with (first | ((with_reducible refine gate_dst (N := 2) rfl ?_); refine bE_ #[.int .i64 f0, .int .i64 f1, .string f2, .slice A3 l3.length c3, .string f4, .slice A5 l5.length c5] 43 ?_; intro gb hg w2 hbox hb; have HXz := A_ hbox; have HBz := A_ hb; clear hg hbox hb; obtain ⟨hz0, hz1, hz2, hz3, hz4, hz5⟩ := bc6_ HXz.out) | (go_at_call 30; (with_reducible refine (impl_TextOk.calls n f4 _ _ HT.out).mono ?_); rintro e w3 ⟨rfl, hb⟩; have n1_ := A_ (blk_below HXz.out hb); have n2_ := A_ (below_step HBz.out hb); clear hb HXz HBz hz0 hz1 hz2 hz3 hz4 hz5; have HXz := n1_; have HBz := n2_; clear n1_ n2_; obtain ⟨hz0, hz1, hz2, hz3, hz4, hz5⟩ := bc6_ HXz.out))
    go_ret
    exact ⟨rfl, HBz.out⟩
   | false =>
    go_wp2_with (first | ((with_reducible refine gate_dst (N := 2) rfl ?_); refine bE_ #[.int .i64 f0, .int .i64 f1, .string f2, .slice A3 l3.length c3, .string f4, .slice A5 l5.length c5] 43 ?_; intro gb hg w2 hbox hb; have HXz := A_ hbox; have HBz := A_ hb; clear hg hbox hb; obtain ⟨hz0, hz1, hz2, hz3, hz4, hz5⟩ := bc6_ HXz.out) | (go_at_call 30; (with_reducible refine (impl_TextOk.calls n f4 _ _ HT.out).mono ?_); rintro e w3 ⟨rfl, hb⟩; have n1_ := A_ (blk_below HXz.out hb); have n2_ := A_ (below_step HBz.out hb); clear hb HXz HBz hz0 hz1 hz2 hz3 hz4 hz5; have HXz := n1_; have HBz := n2_; clear n1_ n2_; obtain ⟨hz0, hz1, hz2, hz3, hz4, hz5⟩ := bc6_ HXz.out))
    go_ret
    exact ⟨rfl, HBz.out⟩
  rw [if_neg k2] at h;have k2b : (f0 == 2) = false := bN_ k2;by_cases k3 : f0 = 3
  case pos =>
   rw [if_pos k3] at h;have k3b : (f0 == 3) = true := bQ_ k3;have HT := A_ h;clear h;go_wp2_with (first | ((with_reducible refine gate_dst (N := 2) rfl ?_); refine bE_ #[.int .i64 f0, .int .i64 f1, .string f2, .slice A3 l3.length c3, .string f4, .slice A5 l5.length c5] 43 ?_; intro gb hg w2 hbox hb; have HXz := A_ hbox; have HBz := A_ hb; clear hg hbox hb; obtain ⟨hz0, hz1, hz2, hz3, hz4, hz5⟩ := bc6_ HXz.out) | (go_at_call 79; (with_reducible refine (impl_NoteOk.calls n f4 _ _ (HLL.out.below HBz.out) HT.out).mono ?_); rintro e w3 ⟨rfl, hb⟩; have n1_ := A_ (blk_below HXz.out hb); have n2_ := A_ (below_step HBz.out hb); clear hb HXz HBz hz0 hz1 hz2 hz3 hz4 hz5; have HXz := n1_; have HBz := n2_; clear n1_ n2_; obtain ⟨hz0, hz1, hz2, hz3, hz4, hz5⟩ := bc6_ HXz.out))
   go_ret
   exact ⟨rfl, HBz.out⟩
  rw [if_neg k3] at h;have k3b : (f0 == 3) = false := bN_ k3;obtain rfl := sI_ h;go_wp2_with (((with_reducible refine gate_dst (N := 2) rfl ?_); refine bE_ #[.int .i64 f0, .int .i64 f1, .string f2, .slice A3 l3.length c3, .string f4, .slice A5 l5.length c5] 43 ?_; intro gb hg w2 hbox hb; have HXz := A_ hbox; have HBz := A_ hb; clear hg hbox hb; obtain ⟨hz0, hz1, hz2, hz3, hz4, hz5⟩ := bc6_ HXz.out))
  go_ret
  exact ⟨rfl, HBz.out⟩
 rw [if_pos k1] at h;have k1b : (f0 == 1) = true := bQ_ k1;have k1d : (!(f0 == 1)) = false := by rw [k1b]; rfl
 obtain ⟨a, ha, h⟩ := oB_ h;have Ha := A_ ha;clear ha;cases a with
 | false =>
  rw [if_neg si_] at h;obtain rfl := sI_ h;go_wp2_with (first | ((with_reducible refine gate_dst (N := 2) rfl ?_); refine bE_ #[.int .i64 f0, .int .i64 f1, .string f2, .slice A3 l3.length c3, .string f4, .slice A5 l5.length c5] 43 ?_; intro gb hg w2 hbox hb; have HXz := A_ hbox; have HBz := A_ hb; clear hg hbox hb; obtain ⟨hz0, hz1, hz2, hz3, hz4, hz5⟩ := bc6_ HXz.out) | (go_at_call 53; (with_reducible refine (impl_inRange.calls f1 0 2 _ _ Ha.out).mono ?_); rintro e w3 ⟨rfl, hb⟩; have n1_ := A_ (blk_below HXz.out hb.below); have n2_ := A_ (below_step HBz.out hb.below); clear hb HXz HBz hz0 hz1 hz2 hz3 hz4 hz5; have HXz := n1_; have HBz := n2_; clear n1_ n2_; obtain ⟨hz0, hz1, hz2, hz3, hz4, hz5⟩ := bc6_ HXz.out))
  go_ret
  exact ⟨rfl, HBz.out⟩
 | true =>
 rw [if_pos rfl] at h;obtain ⟨b, hb, h⟩ := oB_ h;have Hb := A_ hb;clear hb;cases b with
 | false =>
  rw [if_neg si_] at h;obtain rfl := sI_ h;go_wp2_with (first | ((with_reducible refine gate_dst (N := 2) rfl ?_); refine bE_ #[.int .i64 f0, .int .i64 f1, .string f2, .slice A3 l3.length c3, .string f4, .slice A5 l5.length c5] 43 ?_; intro gb hg w2 hbox hb; have HXz := A_ hbox; have HBz := A_ hb; clear hg hbox hb; obtain ⟨hz0, hz1, hz2, hz3, hz4, hz5⟩ := bc6_ HXz.out) | (go_at_call 53; (with_reducible refine (impl_inRange.calls f1 0 2 _ _ Ha.out).mono ?_); rintro e w3 ⟨rfl, hb⟩; have n1_ := A_ (blk_below HXz.out hb.below); have n2_ := A_ (below_step HBz.out hb.below); clear hb HXz HBz hz0 hz1 hz2 hz3 hz4 hz5; have HXz := n1_; have HBz := n2_; clear n1_ n2_; obtain ⟨hz0, hz1, hz2, hz3, hz4, hz5⟩ := bc6_ HXz.out) | (go_at_call 176; (with_reducible refine (impl_NameOk.calls n f2 _ _ Hb.out).mono ?_); rintro e w3 ⟨rfl, hb⟩; have n1_ := A_ (blk_below HXz.out hb); have n2_ := A_ (below_step HBz.out hb); clear hb HXz HBz hz0 hz1 hz2 hz3 hz4 hz5; have HXz := n1_; have HBz := n2_; clear n1_ n2_; obtain ⟨hz0, hz1, hz2, hz3, hz4, hz5⟩ := bc6_ HXz.out))
  go_ret
  exact ⟨rfl, HBz.out⟩
 | true =>
 rw [if_pos rfl] at h;obtain ⟨c, hc, h⟩ := oB_ h;have Hc := A_ hc;clear hc;cases c with
 | false =>
  rw [if_neg si_] at h;obtain rfl := sI_ h;go_wp2_with (first | ((with_reducible refine gate_dst (N := 2) rfl ?_); refine bE_ #[.int .i64 f0, .int .i64 f1, .string f2, .slice A3 l3.length c3, .string f4, .slice A5 l5.length c5] 43 ?_; intro gb hg w2 hbox hb; have HXz := A_ hbox; have HBz := A_ hb; clear hg hbox hb; obtain ⟨hz0, hz1, hz2, hz3, hz4, hz5⟩ := bc6_ HXz.out) | (go_at_call 53; (with_reducible refine (impl_inRange.calls f1 0 2 _ _ Ha.out).mono ?_); rintro e w3 ⟨rfl, hb⟩; have n1_ := A_ (blk_below HXz.out hb.below); have n2_ := A_ (below_step HBz.out hb.below); clear hb HXz HBz hz0 hz1 hz2 hz3 hz4 hz5; have HXz := n1_; have HBz := n2_; clear n1_ n2_; obtain ⟨hz0, hz1, hz2, hz3, hz4, hz5⟩ := bc6_ HXz.out) | (go_at_call 176; (with_reducible refine (impl_NameOk.calls n f2 _ _ Hb.out).mono ?_); rintro e w3 ⟨rfl, hb⟩; have n1_ := A_ (blk_below HXz.out hb); have n2_ := A_ (below_step HBz.out hb); clear hb HXz HBz hz0 hz1 hz2 hz3 hz4 hz5; have HXz := n1_; have HBz := n2_; clear n1_ n2_; obtain ⟨hz0, hz1, hz2, hz3, hz4, hz5⟩ := bc6_ HXz.out) | (go_at_call 177; (with_reducible refine (impl_strictAttrs.calls n A3 c3 l3 _ _ (Kd.C_below HR3.out HBz.out) HC3.out Hc.out).mono ?_); rintro e w3 ⟨rfl, hb⟩; have n1_ := A_ (blk_below HXz.out hb); have n2_ := A_ (below_step HBz.out hb); clear hb HXz HBz hz0 hz1 hz2 hz3 hz4 hz5; have HXz := n1_; have HBz := n2_; clear n1_ n2_; obtain ⟨hz0, hz1, hz2, hz3, hz4, hz5⟩ := bc6_ HXz.out))
  go_ret
  exact ⟨rfl, HBz.out⟩
 | true =>
 rw [if_pos rfl] at h;by_cases e4 : f4.toList = []
 case neg =>
  rw [if_neg e4] at h;have e4b : (f4.toList == ([] : List UInt8)) = false := bN_ e4;have e4c : f4.toList.isEmpty = false := by cases h9 : f4.toList with | nil => exact absurd h9 e4 | cons _ _ => rfl
  have e4d : (!f4.toList.isEmpty) = true := by rw [e4c]; rfl
  obtain rfl := sI_ h;go_wp2_with (first | ((with_reducible refine gate_dst (N := 2) rfl ?_); refine bE_ #[.int .i64 f0, .int .i64 f1, .string f2, .slice A3 l3.length c3, .string f4, .slice A5 l5.length c5] 43 ?_; intro gb hg w2 hbox hb; have HXz := A_ hbox; have HBz := A_ hb; clear hg hbox hb; obtain ⟨hz0, hz1, hz2, hz3, hz4, hz5⟩ := bc6_ HXz.out) | (go_at_call 53; (with_reducible refine (impl_inRange.calls f1 0 2 _ _ Ha.out).mono ?_); rintro e w3 ⟨rfl, hb⟩; have n1_ := A_ (blk_below HXz.out hb.below); have n2_ := A_ (below_step HBz.out hb.below); clear hb HXz HBz hz0 hz1 hz2 hz3 hz4 hz5; have HXz := n1_; have HBz := n2_; clear n1_ n2_; obtain ⟨hz0, hz1, hz2, hz3, hz4, hz5⟩ := bc6_ HXz.out) | (go_at_call 176; (with_reducible refine (impl_NameOk.calls n f2 _ _ Hb.out).mono ?_); rintro e w3 ⟨rfl, hb⟩; have n1_ := A_ (blk_below HXz.out hb); have n2_ := A_ (below_step HBz.out hb); clear hb HXz HBz hz0 hz1 hz2 hz3 hz4 hz5; have HXz := n1_; have HBz := n2_; clear n1_ n2_; obtain ⟨hz0, hz1, hz2, hz3, hz4, hz5⟩ := bc6_ HXz.out) | (go_at_call 177; (with_reducible refine (impl_strictAttrs.calls n A3 c3 l3 _ _ (Kd.C_below HR3.out HBz.out) HC3.out Hc.out).mono ?_); rintro e w3 ⟨rfl, hb⟩; have n1_ := A_ (blk_below HXz.out hb); have n2_ := A_ (below_step HBz.out hb); clear hb HXz HBz hz0 hz1 hz2 hz3 hz4 hz5; have HXz := n1_; have HBz := n2_; clear n1_ n2_; obtain ⟨hz0, hz1, hz2, hz3, hz4, hz5⟩ := bc6_ HXz.out))
  go_ret
  exact ⟨rfl, HBz.out⟩
 rw [if_pos e4] at h;have e4b : (f4.toList == ([] : List UInt8)) = true := by rw [e4]; rfl
 have e4c : f4.toList.isEmpty = true := by rw [e4]; rfl
 have e4d : (!f4.toList.isEmpty) = false := by rw [e4c]; rfl
 have HF := A_ h;clear h;go_wp2_with (first | ((with_reducible refine gate_dst (N := 2) rfl ?_); refine bE_ #[.int .i64 f0, .int .i64 f1, .string f2, .slice A3 l3.length c3, .string f4, .slice A5 l5.length c5] 43 ?_; intro gb hg w2 hbox hb; have HXz := A_ hbox; have HBz := A_ hb; clear hg hbox hb; obtain ⟨hz0, hz1, hz2, hz3, hz4, hz5⟩ := bc6_ HXz.out) | (go_at_call 53; (with_reducible refine (impl_inRange.calls f1 0 2 _ _ Ha.out).mono ?_); rintro e w3 ⟨rfl, hb⟩; have n1_ := A_ (blk_below HXz.out hb.below); have n2_ := A_ (below_step HBz.out hb.below); clear hb HXz HBz hz0 hz1 hz2 hz3 hz4 hz5; have HXz := n1_; have HBz := n2_; clear n1_ n2_; obtain ⟨hz0, hz1, hz2, hz3, hz4, hz5⟩ := bc6_ HXz.out) | (go_at_call 176; (with_reducible refine (impl_NameOk.calls n f2 _ _ Hb.out).mono ?_); rintro e w3 ⟨rfl, hb⟩; have n1_ := A_ (blk_below HXz.out hb); have n2_ := A_ (below_step HBz.out hb); clear hb HXz HBz hz0 hz1 hz2 hz3 hz4 hz5; have HXz := n1_; have HBz := n2_; clear n1_ n2_; obtain ⟨hz0, hz1, hz2, hz3, hz4, hz5⟩ := bc6_ HXz.out) | (go_at_call 177; (with_reducible refine (impl_strictAttrs.calls n A3 c3 l3 _ _ (Kd.C_below HR3.out HBz.out) HC3.out Hc.out).mono ?_); rintro e w3 ⟨rfl, hb⟩; have n1_ := A_ (blk_below HXz.out hb); have n2_ := A_ (below_step HBz.out hb); clear hb HXz HBz hz0 hz1 hz2 hz3 hz4 hz5; have HXz := n1_; have HBz := n2_; clear n1_ n2_; obtain ⟨hz0, hz1, hz2, hz3, hz4, hz5⟩ := bc6_ HXz.out))
 clear e4 e4b e4c e4d d1;go_loopg [79] n (fun kq v79 wr => ∃ j : Int, v79 = .int .i64 j ∧ 0 ≤ j ∧ j ≤ (l5.length : Int) ∧ As9 (elOkL kq deep l5 j = some r) ∧ As9 (kq ≤ n) ∧ As9 (Below w.heap.size w wr) ∧ As9 (wr.heap[gb]? = some (.cells #[.int .i64 f0, .int .i64 f1, .string f2, .slice A3 l3.length c3, .string f4, .slice A5 l5.length c5] 43 (0, 0))))
 case atStart => exact ⟨0, rfl, Int.le_refl _, om_, HF, ⟨Nat.le_refl _⟩, HBz, HXz⟩
 case round =>
  clear HF HBz HXz hz0 hz1 hz2 hz3 hz4 hz5;obtain ⟨j, rfl, j0, jl, HA, HN, HB, HX⟩ := hrel;cases gk with
  | zero => exact absurd HA.out (by simp [elOkL])
  | succ m =>
  have H := HA.out;clear HA;rw [elOkL] at H;by_cases hlt : j < (l5.length : Int)
  case neg =>
   rw [if_neg hlt] at H;obtain rfl := sI_ H;go_wp2
   go_ret
   exact ⟨rfl, HB.out⟩
  rw [if_pos hlt, if_pos j0] at H;obtain ⟨t, ht, H⟩ := oB_ H;have Ht := A_ ht;clear ht;have hw5 := Kd.C_below HR5.out HB.out;obtain ⟨ad, A3', c3', A5', c5', eA, x0, x1, x2, x3, x4, x5, l3', g3, l5', g5⟩ := at_T43 hw5 j j0 hlt;subst eA;have HG3 := A_ g3;have HG5 := A_ g5;have HW5 := A_ hw5;have HL3 := A_ l3';have HL5 := A_ l5';have p7 := eq_true j0;have q7 := eq_true hlt;have hwj : wrap64 (j + 1) = j + 1 := by unfold wrap64; omega
  have hz5 := (blk_cell HX.out 5).trans rfl;clear g3 g5 hw5 l3' l5';have hjm : wrap64 (j - 1) = j - 1 := by unfold wrap64; omega
  cases t with
  | false =>
   rw [if_neg si_] at H;obtain rfl := sI_ H;go_wp2_with (first | ((with_reducible refine gate_dst (N := 6) rfl ?_); refine bZ_ 43 ?_; intro gk hg w6 hbox hb; have HGK := A_ hg; have HBX := A_ hb; have HXK := A_ hbox; obtain ⟨hk0, hk1, hk2, hk3, hk4, hk5, hj0, hj1, hj2, hj3, hj4, hj5⟩ := bk6_ hbox; clear hg hb hbox) | (go_at_call 138; have hb6 := A_ (set6 HBX.out (Nat.le_of_eq HGK.out.symm) (.int .i64 (rd_T43 l5 j).f0) (.int .i64 (rd_T43 l5 j).f1) (.string (rd_T43 l5 j).f2) (.slice A3' (rd_T43 l5 j).f3.length c3') (.string (rd_T43 l5 j).f4) (.slice A5' (rd_T43 l5 j).f5.length c5')); have hx6 := A_ (blk_six HXK.out (.int .i64 (rd_T43 l5 j).f0) (.int .i64 (rd_T43 l5 j).f1) (.string (rd_T43 l5 j).f2) (.slice A3' (rd_T43 l5 j).f3.length c3') (.string (rd_T43 l5 j).f4) (.slice A5' (rd_T43 l5 j).f5.length c5')); have HBe := A_ (below_step HB.out hb6.out); have HXe := A_ (blk_below HX.out hb6.out); clear HBX HXK hk0 hj0 hk1 hj1 hk2 hj2 hk3 hj3 hk4 hj4 hk5 hj5; (with_reducible refine (ih m (by have := HN.out; omega) (rd_T43 l5 j).f0 (rd_T43 l5 j).f1 (rd_T43 l5 j).f2 A3' c3' (rd_T43 l5 j).f3 (rd_T43 l5 j).f4 A5' c5' (rd_T43 l5 j).f5 (wrap64 (deep - 1)) _ _ (Kd.C_below HG3.out hb6.out) HL3.out (Kd.C_below HG5.out hb6.out) HL5.out (HLL.out.below HBe.out) Ht.out).mono ?_); rintro e w7 ⟨rfl, hb⟩; have HBf := A_ (below_step HBe.out hb); have HXf := A_ (blk_below HXe.out hb); have hxf := A_ (blk_below hx6.out hb); clear hb hb6 hx6 HBe HXe hz5 x0 x1 x2 x3 x4 x5; have hz5 := (blk_cell HXf.out 5).trans rfl; have hk0 := (blk_cell hxf.out 0).trans rfl))
   go_ret
   exact ⟨rfl, HBf.out⟩
  | true =>
  rw [if_pos rfl] at H;by_cases j1 : 0 < j
  case neg =>
   rw [if_neg (fun hh => j1 hh.1)] at H;have j1b : decide (j > 0) = false := dF_ j1;have j1c : (0 < j) = False := eq_false j1;have HH := A_ H;clear H;go_wp2_with (first | ((with_reducible refine gate_dst (N := 6) rfl ?_); refine bZ_ 43 ?_; intro gk hg w6 hbox hb; have HGK := A_ hg; have HBX := A_ hb; have HXK := A_ hbox; obtain ⟨hk0, hk1, hk2, hk3, hk4, hk5, hj0, hj1, hj2, hj3, hj4, hj5⟩ := bk6_ hbox; clear hg hb hbox) | (go_at_call 138; have hb6 := A_ (set6 HBX.out (Nat.le_of_eq HGK.out.symm) (.int .i64 (rd_T43 l5 j).f0) (.int .i64 (rd_T43 l5 j).f1) (.string (rd_T43 l5 j).f2) (.slice A3' (rd_T43 l5 j).f3.length c3') (.string (rd_T43 l5 j).f4) (.slice A5' (rd_T43 l5 j).f5.length c5')); have hx6 := A_ (blk_six HXK.out (.int .i64 (rd_T43 l5 j).f0) (.int .i64 (rd_T43 l5 j).f1) (.string (rd_T43 l5 j).f2) (.slice A3' (rd_T43 l5 j).f3.length c3') (.string (rd_T43 l5 j).f4) (.slice A5' (rd_T43 l5 j).f5.length c5')); have HBe := A_ (below_step HB.out hb6.out); have HXe := A_ (blk_below HX.out hb6.out); clear HBX HXK hk0 hj0 hk1 hj1 hk2 hj2 hk3 hj3 hk4 hj4 hk5 hj5; (with_reducible refine (ih m (by have := HN.out; omega) (rd_T43 l5 j).f0 (rd_T43 l5 j).f1 (rd_T43 l5 j).f2 A3' c3' (rd_T43 l5 j).f3 (rd_T43 l5 j).f4 A5' c5' (rd_T43 l5 j).f5 (wrap64 (deep - 1)) _ _ (Kd.C_below HG3.out hb6.out) HL3.out (Kd.C_below HG5.out hb6.out) HL5.out (HLL.out.below HBe.out) Ht.out).mono ?_); rintro e w7 ⟨rfl, hb⟩; have HBf := A_ (below_step HBe.out hb); have HXf := A_ (blk_below HXe.out hb); have hxf := A_ (blk_below hx6.out hb); clear hb hb6 hx6 HBe HXe hz5 x0 x1 x2 x3 x4 x5; have hz5 := (blk_cell HXf.out 5).trans rfl; have hk0 := (blk_cell hxf.out 0).trans rfl))
   go_roundg m
   case measure => omega
   case rel => exact ⟨j + 1, (by first | rfl | rw [hwj]), om_, om_, HH, ⟨by have := HN.out; omega⟩, HBf, HXf⟩
  have j1b : decide (j > 0) = true := dE_ j1;have j1c : (0 < j) = True := eq_true j1;by_cases m1 : (rd_T43 l5 j).f0 = 2
  case neg =>
   rw [if_neg (fun hh => m1 hh.2.1)] at H;have m1b : ((rd_T43 l5 j).f0 == 2) = false := bN_ m1;have HH := A_ H;clear H m1;go_wp2_with (first | ((with_reducible refine gate_dst (N := 6) rfl ?_); refine bZ_ 43 ?_; intro gk hg w6 hbox hb; have HGK := A_ hg; have HBX := A_ hb; have HXK := A_ hbox; obtain ⟨hk0, hk1, hk2, hk3, hk4, hk5, hj0, hj1, hj2, hj3, hj4, hj5⟩ := bk6_ hbox; clear hg hb hbox) | (go_at_call 138; have hb6 := A_ (set6 HBX.out (Nat.le_of_eq HGK.out.symm) (.int .i64 (rd_T43 l5 j).f0) (.int .i64 (rd_T43 l5 j).f1) (.string (rd_T43 l5 j).f2) (.slice A3' (rd_T43 l5 j).f3.length c3') (.string (rd_T43 l5 j).f4) (.slice A5' (rd_T43 l5 j).f5.length c5')); have hx6 := A_ (blk_six HXK.out (.int .i64 (rd_T43 l5 j).f0) (.int .i64 (rd_T43 l5 j).f1) (.string (rd_T43 l5 j).f2) (.slice A3' (rd_T43 l5 j).f3.length c3') (.string (rd_T43 l5 j).f4) (.slice A5' (rd_T43 l5 j).f5.length c5')); have HBe := A_ (below_step HB.out hb6.out); have HXe := A_ (blk_below HX.out hb6.out); clear HBX HXK hk0 hj0 hk1 hj1 hk2 hj2 hk3 hj3 hk4 hj4 hk5 hj5; (with_reducible refine (ih m (by have := HN.out; omega) (rd_T43 l5 j).f0 (rd_T43 l5 j).f1 (rd_T43 l5 j).f2 A3' c3' (rd_T43 l5 j).f3 (rd_T43 l5 j).f4 A5' c5' (rd_T43 l5 j).f5 (wrap64 (deep - 1)) _ _ (Kd.C_below HG3.out hb6.out) HL3.out (Kd.C_below HG5.out hb6.out) HL5.out (HLL.out.below HBe.out) Ht.out).mono ?_); rintro e w7 ⟨rfl, hb⟩; have HBf := A_ (below_step HBe.out hb); have HXf := A_ (blk_below HXe.out hb); have hxf := A_ (blk_below hx6.out hb); clear hb hb6 hx6 HBe HXe hz5 x0 x1 x2 x3 x4 x5; have hz5 := (blk_cell HXf.out 5).trans rfl; have hk0 := (blk_cell hxf.out 0).trans rfl))
   go_roundg m
   case measure => omega
   case rel => exact ⟨j + 1, (by first | rfl | rw [hwj]), om_, om_, HH, ⟨by have := HN.out; omega⟩, HBf, HXf⟩
  have m1b : ((rd_T43 l5 j).f0 == 2) = true := bQ_ m1;obtain ⟨ad2, _, _, _, _, eA2, y0, _, _, _, _, _, _, _, _, _⟩ := at_T43 HW5.out (j - 1) om_ om_;obtain rfl := sI_ eA2;rw [show (j - 1).toNat = j.toNat - 1 by omega] at y0;have p8 := eq_true (show 0 ≤ j - 1 by omega);have q8 := eq_true (show j - 1 < (l5.length : Int) by omega);by_cases m2 : (rd_T43 l5 (j - 1)).f0 = 2
  case neg =>
   rw [if_neg (fun hh => m2 hh.2.2)] at H;have m2b : ((rd_T43 l5 (j - 1)).f0 == 2) = false := bN_ m2;have HH := A_ H;clear H m1 m2;go_wp2_with (first | ((with_reducible refine gate_dst (N := 6) rfl ?_); refine bZ_ 43 ?_; intro gk hg w6 hbox hb; have HGK := A_ hg; have HBX := A_ hb; have HXK := A_ hbox; obtain ⟨hk0, hk1, hk2, hk3, hk4, hk5, hj0, hj1, hj2, hj3, hj4, hj5⟩ := bk6_ hbox; clear hg hb hbox) | (go_at_call 138; have hb6 := A_ (set6 HBX.out (Nat.le_of_eq HGK.out.symm) (.int .i64 (rd_T43 l5 j).f0) (.int .i64 (rd_T43 l5 j).f1) (.string (rd_T43 l5 j).f2) (.slice A3' (rd_T43 l5 j).f3.length c3') (.string (rd_T43 l5 j).f4) (.slice A5' (rd_T43 l5 j).f5.length c5')); have hx6 := A_ (blk_six HXK.out (.int .i64 (rd_T43 l5 j).f0) (.int .i64 (rd_T43 l5 j).f1) (.string (rd_T43 l5 j).f2) (.slice A3' (rd_T43 l5 j).f3.length c3') (.string (rd_T43 l5 j).f4) (.slice A5' (rd_T43 l5 j).f5.length c5')); have HBe := A_ (below_step HB.out hb6.out); have HXe := A_ (blk_below HX.out hb6.out); clear HBX HXK hk0 hj0 hk1 hj1 hk2 hj2 hk3 hj3 hk4 hj4 hk5 hj5; (with_reducible refine (ih m (by have := HN.out; omega) (rd_T43 l5 j).f0 (rd_T43 l5 j).f1 (rd_T43 l5 j).f2 A3' c3' (rd_T43 l5 j).f3 (rd_T43 l5 j).f4 A5' c5' (rd_T43 l5 j).f5 (wrap64 (deep - 1)) _ _ (Kd.C_below HG3.out hb6.out) HL3.out (Kd.C_below HG5.out hb6.out) HL5.out (HLL.out.below HBe.out) Ht.out).mono ?_); rintro e w7 ⟨rfl, hb⟩; have HBf := A_ (below_step HBe.out hb); have HXf := A_ (blk_below HXe.out hb); have hxf := A_ (blk_below hx6.out hb); have y0' := ((below_step hb6.out hb).cell (World.block_lt_of_cell? _ _ y0)).trans y0; clear hb hb6 hx6 HBe HXe hz5 x0 x1 x2 x3 x4 x5; have hz5 := (blk_cell HXf.out 5).trans rfl; have hk0 := (blk_cell hxf.out 0).trans rfl))
   go_roundg m
   case measure => omega
   case rel => exact ⟨j + 1, (by first | rfl | rw [hwj]), om_, om_, HH, ⟨by have := HN.out; omega⟩, HBf, HXf⟩
  rw [if_pos ⟨j1, m1, m2⟩] at H;obtain rfl := sI_ H;have m2b : ((rd_T43 l5 (j - 1)).f0 == 2) = true := bQ_ m2;clear m1 m2;go_wp2_with (first | ((with_reducible refine gate_dst (N := 6) rfl ?_); refine bZ_ 43 ?_; intro gk hg w6 hbox hb; have HGK := A_ hg; have HBX := A_ hb; have HXK := A_ hbox; obtain ⟨hk0, hk1, hk2, hk3, hk4, hk5, hj0, hj1, hj2, hj3, hj4, hj5⟩ := bk6_ hbox; clear hg hb hbox) | (go_at_call 138; have hb6 := A_ (set6 HBX.out (Nat.le_of_eq HGK.out.symm) (.int .i64 (rd_T43 l5 j).f0) (.int .i64 (rd_T43 l5 j).f1) (.string (rd_T43 l5 j).f2) (.slice A3' (rd_T43 l5 j).f3.length c3') (.string (rd_T43 l5 j).f4) (.slice A5' (rd_T43 l5 j).f5.length c5')); have hx6 := A_ (blk_six HXK.out (.int .i64 (rd_T43 l5 j).f0) (.int .i64 (rd_T43 l5 j).f1) (.string (rd_T43 l5 j).f2) (.slice A3' (rd_T43 l5 j).f3.length c3') (.string (rd_T43 l5 j).f4) (.slice A5' (rd_T43 l5 j).f5.length c5')); have HBe := A_ (below_step HB.out hb6.out); have HXe := A_ (blk_below HX.out hb6.out); clear HBX HXK hk0 hj0 hk1 hj1 hk2 hj2 hk3 hj3 hk4 hj4 hk5 hj5; (with_reducible refine (ih m (by have := HN.out; omega) (rd_T43 l5 j).f0 (rd_T43 l5 j).f1 (rd_T43 l5 j).f2 A3' c3' (rd_T43 l5 j).f3 (rd_T43 l5 j).f4 A5' c5' (rd_T43 l5 j).f5 (wrap64 (deep - 1)) _ _ (Kd.C_below HG3.out hb6.out) HL3.out (Kd.C_below HG5.out hb6.out) HL5.out (HLL.out.below HBe.out) Ht.out).mono ?_); rintro e w7 ⟨rfl, hb⟩; have HBf := A_ (below_step HBe.out hb); have HXf := A_ (blk_below HXe.out hb); have hxf := A_ (blk_below hx6.out hb); have y0' := ((below_step hb6.out hb).cell (World.block_lt_of_cell? _ _ y0)).trans y0; clear hb hb6 hx6 HBe HXe hz5 x0 x1 x2 x3 x4 x5; have hz5 := (blk_cell HXf.out 5).trans rfl; have hk0 := (blk_cell hxf.out 0).trans rfl))
  go_ret
  exact ⟨rfl, HBf.out⟩
def impl_ElOk.f (k : Nat) (a0_0 : Int) (a0_1 : Int) (a0_2 : BA) (l0_3 : List (S36)) (a0_4 : BA) (l0_5 : List (S43)) : Option (Bool) := (impl_elOk.f k a0_0 a0_1 a0_2 l0_3 a0_4 l0_5 60).bind fun t606 => (some t606)
theorem impl_ElOk.mono : ∀ a0 a1 a2 a3 a4 a5 k, LeO (impl_ElOk.f k a0 a1 a2 a3 a4 a5) (impl_ElOk.f (k + 1) a0 a1 a2 a3 a4 a5) := by
 intro a0 a1 a2 a3 a4 a5 k;unfold impl_ElOk.f;with_reducible repeat' first | exact impl_elOk.mono _ _ _ _ _ _ _ _ | apply LeO.refl | apply LeO.none | apply LeO.ite | apply LeO.bind | intro
theorem impl_ElOk.calls (k : Nat) (a0_0 : Int) (a0_1 : Int) (a0_2 : BA) (A0_3 : Option Addr) (c0_3 : Nat) (l0_3 : List (S36)) (a0_4 : BA) (A0_5 : Option Addr) (c0_5 : Nat) (l0_5 : List (S43)) (r : Bool) (w : World) (hr0_3 : Kd.C k36 w A0_3 l0_3.length l0_3) (hc0_3 : l0_3.length ≤ c0_3) (hr0_5 : Kd.C k43 w A0_5 l0_5.length l0_5) (hc0_5 : l0_5.length ≤ c0_5) (hL : LibOk w) (h : impl_ElOk.f k a0_0 a0_1 a0_2 l0_3 a0_4 l0_5 = some r) :
  Calls Tryz.prog 87 #[.agg #[.int .i64 a0_0, .int .i64 a0_1, .string a0_2, .slice A0_3 l0_3.length c0_3, .string a0_4, .slice A0_5 l0_5.length c0_5]] w fun e w' => e = .returned (.bool r) ∧ Below w.heap.size w w' := by
 have hu43 := Tryz.underlying43;have HR0_3 := A_ hr0_3;have HC0_3 := A_ hc0_3;clear hr0_3 hc0_3;have HR0_5 := A_ hr0_5;have HC0_5 := A_ hc0_5;clear hr0_5 hc0_5;have HB := A_ (Below.refl w.heap.size w);have H : ((impl_elOk.f k a0_0 a0_1 a0_2 l0_3 a0_4 l0_5 60).bind fun t606 => (some t606)) = some r := h;clear h;obtain ⟨t606, A2, H⟩ := ob_ H;obtain rfl := sI_ H;go_enter Tryz.func87, Tryz.ntmps87
 go_wp2_with (first | ((with_reducible refine gate_dst (N := 1) rfl ?_); refine bE_ #[.int .i64 a0_0, .int .i64 a0_1, .string a0_2, .slice A0_3 l0_3.length c0_3, .string a0_4, .slice A0_5 l0_5.length c0_5] 43 ?_; intro gb605 hg w3 hbox hb; have BK605 := A_ (hbox); have GW605 := hs_ hg; have GE605 := hs_ hg; replace HB := bS_ hb; clear hb hbox hg; obtain ⟨hcz4_0, hcz4_1, hcz4_2, hcz4_3, hcz4_4, hcz4_5, hfz4_0, hfz4_1, hfz4_2, hfz4_3, hfz4_4, hfz4_5⟩ := bk6_ BK605.out) | ((with_reducible refine gC_ 138 ?_); refine gL_ 4 Tryz.func138 #[.agg #[.int .i64 a0_0, .int .i64 a0_1, .string a0_2, .slice A0_3 l0_3.length c0_3, .string a0_4, .slice A0_5 l0_5.length c0_5], .int .i64 60] ?_; (with_reducible refine (impl_elOk.calls k a0_0 a0_1 a0_2 _ _ l0_3 a0_4 _ _ l0_5 60 t606 _ ?side1 ?side2 ?side3 ?side4 ?side5 A2.out).mono ?_); (case side1 => exact Kd.C_below HR0_3.out hB_); (case side2 => exact HC0_3.out); (case side3 => exact Kd.C_below HR0_5.out hB_); (case side4 => exact HC0_5.out); (case side5 => first | exact hL | exact LibOk.below hL hB_); rintro e w5 ⟨rfl, hb⟩; refine ⟨_, rfl, ?_⟩; replace BK605 := A_ (blk_below (g := gb605) (o := .cells #[.int .i64 a0_0, .int .i64 a0_1, .string a0_2, .slice A0_3 l0_3.length c0_3, .string a0_4, .slice A0_5 l0_5.length c0_5] 43 (0, 0)) (blk_below BK605.out hR_) hb); replace HB := bS_ hb; clear hb))
 go_ret
 exact ⟨e1_, hB_⟩
mutual
def impl_ElSize.l0 : Nat → Int → List (S43) → Int → Int → Option (Int)
 | 0, _, _, _, _ => none
 | k + 1, x3, x7, x8, x9 => if x9 < x8 then (if 0 ≤ x9 then (if x9 < (x7.length : Int) then ((impl_ElSize.f k ((rd_T43 x7 x9).f0) ((rd_T43 x7 x9).f1) ((rd_T43 x7 x9).f2) ((rd_T43 x7 x9).f3) ((rd_T43 x7 x9).f4) ((rd_T43 x7 x9).f5)).bind fun t610 => (impl_ElSize.l0 k (wrap64 (x3 + t610)) x7 x8 (wrap64 (x9 + 1)))) else (none)) else (none)) else (some x3)
def impl_ElSize.f : Nat → Int → Int → ByteArray → List (S36) → ByteArray → List (S43) → Option (Int)
 | 0, _, _, _, _, _, _ => none
 | k + 1, a0_0, a0_1, a0_2, l0_3, a0_4, l0_5 => impl_ElSize.l0 k 1 l0_5 (l0_5.length : Int) 0
end
theorem impl_ElSize.mono_l : ∀ k, (∀ y0 y1 y2 y3 y4 y5, LeO (impl_ElSize.f k y0 y1 y2 y3 y4 y5) (impl_ElSize.f (k + 1) y0 y1 y2 y3 y4 y5)) ∧ (∀ y0 y1 y2 y3, LeO (impl_ElSize.l0 k y0 y1 y2 y3) (impl_ElSize.l0 (k + 1) y0 y1 y2 y3))
 | 0 => ⟨fun _ _ _ _ _ _ r h => by simp [impl_ElSize.f] at h, fun _ _ _ _ r h => by simp [impl_ElSize.l0] at h⟩
 | k + 1 => by
  obtain ⟨ih0, ih1⟩ := impl_ElSize.mono_l k;refine ⟨?_, ?_⟩
  ·intro y0 y1 y2 y3 y4 y5;unfold impl_ElSize.f;with_reducible repeat' first | exact ih0 _ _ _ _ _ _ | exact ih1 _ _ _ _ | apply LeO.refl | apply LeO.none | apply LeO.ite | apply LeO.bind | intro
  ·intro y0 y1 y2 y3;unfold impl_ElSize.l0;with_reducible repeat' first | exact ih0 _ _ _ _ _ _ | exact ih1 _ _ _ _ | apply LeO.refl | apply LeO.none | apply LeO.ite | apply LeO.bind | intro
theorem impl_ElSize.mono : ∀ a0 a1 a2 a3 a4 a5 k, LeO (impl_ElSize.f k a0 a1 a2 a3 a4 a5) (impl_ElSize.f (k + 1) a0 a1 a2 a3 a4 a5) := by
 intro a0 a1 a2 a3 a4 a5 k;obtain ⟨ih0, ih1⟩ := impl_ElSize.mono_l k;exact ih0 a0 a1 a2 a3 a4 a5
theorem impl_ElSize.calls (k : Nat) : ∀ (a0_0 : Int) (a0_1 : Int) (a0_2 : BA) (A0_3 : Option Addr) (c0_3 : Nat) (l0_3 : List (S36)) (a0_4 : BA) (A0_5 : Option Addr) (c0_5 : Nat) (l0_5 : List (S43)) (r : Int) (w : World) (hr0_3 : Kd.C k36 w A0_3 l0_3.length l0_3) (hc0_3 : l0_3.length ≤ c0_3) (hr0_5 : Kd.C k43 w A0_5 l0_5.length l0_5) (hc0_5 : l0_5.length ≤ c0_5) (h : impl_ElSize.f k a0_0 a0_1 a0_2 l0_3 a0_4 l0_5 = some r),
  Calls Tryz.prog 142 #[.agg #[.int .i64 a0_0, .int .i64 a0_1, .string a0_2, .slice A0_3 l0_3.length c0_3, .string a0_4, .slice A0_5 l0_5.length c0_5]] w fun e w' => e = .returned (.int .i64 r) ∧ Below w.heap.size w w' := by
 induction k using Nat.strongRecOn with
 | _ k ih =>
 intro a0_0 a0_1 a0_2 A0_3 c0_3 l0_3 a0_4 A0_5 c0_5 l0_5 r w hr0_3 hc0_3 hr0_5 hc0_5 h;cases k with
 | zero => exact absurd h (by simp [impl_ElSize.f])
 | succ k =>
 simp only [impl_ElSize.f] at h;have hu43 := Tryz.underlying43;have HR0_3 := A_ hr0_3;have HC0_3 := A_ hc0_3;clear hr0_3 hc0_3;have HR0_5 := A_ hr0_5;have HC0_5 := A_ hc0_5;clear hr0_5 hc0_5;have HB := A_ (Below.refl w.heap.size w);have H : (impl_ElSize.l0 k 1 l0_5 (l0_5.length : Int) 0) = some r := h;clear h;have H' := A_ H;clear H;go_enter Tryz.func142, Tryz.ntmps142
 go_wp2_with (first | ((with_reducible refine gate_dst (N := 1) rfl ?_); refine bE_ #[.int .i64 a0_0, .int .i64 a0_1, .string a0_2, .slice A0_3 l0_3.length c0_3, .string a0_4, .slice A0_5 l0_5.length c0_5] 43 ?_; intro gb607 hg w2 hbox hb; have BK607 := A_ (hbox); have GW607 := hs_ hg; have GE607 := hs_ hg; replace HB := bS_ hb; clear hb hbox hg; obtain ⟨hcz3_0, hcz3_1, hcz3_2, hcz3_3, hcz3_4, hcz3_5, hfz3_0, hfz3_1, hfz3_2, hfz3_3, hfz3_4, hfz3_5⟩ := bk6_ BK607.out))
 go_loopg [3, 9] k (fun kq v3 v9 w' => ∃ (x3_1 : Int) (x9_1 : Int), v3 = .int .i64 x3_1 ∧ v9 = .int .i64 x9_1 ∧ As9 (impl_ElSize.l0 kq x3_1 l0_5 (l0_5.length : Int) x9_1 = some r) ∧ As9 (kq ≤ k) ∧ As9 (w'.heap[gb607]? = some (.cells #[.int .i64 a0_0, .int .i64 a0_1, .string a0_2, (.slice A0_3 l0_3.length c0_3), .string a0_4, (.slice A0_5 l0_5.length c0_5)] 43 (0, 0))) ∧ As9 (Below w.heap.size w w'))
 case atStart => exact ⟨(1), (0), e2_, e2_, H', ⟨Nat.le_refl _⟩, ⟨blk_below BK607.out hR_⟩, ⟨hB_⟩⟩
 case round =>
  clear H';try clear c1
  try clear p2
  try clear hcz3_0
  try clear hcz3_1
  try clear hcz3_2
  try clear hcz3_3
  try clear hcz3_4
  try clear hcz3_5
  try clear hfz3_0
  try clear hfz3_1
  try clear hfz3_2
  try clear hfz3_3
  try clear hfz3_4
  try clear hfz3_5
  obtain ⟨x3_1, x9_1, rfl, rfl, HA, HK1, BK607, HB⟩ := hrel;cases gk with
  | zero => exact absurd HA.out (by simp [impl_ElSize.l0])
  | succ k1 =>
   have H := HA.out;clear HA;simp only [impl_ElSize.l0] at H;rcases ic_ H with ⟨c4, H⟩ | ⟨c4, H⟩
   ·have c4b0 := dE_ c4;clear c4;obtain ⟨c5, H⟩ := ifn_ H;have c5b0 := dE_ c5;clear c5;obtain ⟨c6, H⟩ := ifn_ H;have c6b0 := dE_ c6;clear c6;obtain ⟨t610, A7, H⟩ := ob_ H;(try dsimp only at H)
    have H' := A_ H;clear H;obtain ⟨p608, q608, ad608, A608_3, c608_3, A608_5, c608_5, e608, hx608_0, hx608_1, hx608_2, hx608_3, hx608_4, hx608_5, HC608_3, HR608_3, HC608_5, HR608_5⟩ := aB43_ HB.out HR0_5.out x9_1;cases e608;go_wp2_with (first | ((with_reducible refine gate_dst (N := 5) rfl ?_); refine bE_ #[.int .i64 0, .int .i64 0, .string (⟨#[]⟩ : BA), .slice none 0 0, .string (⟨#[]⟩ : BA), .slice none 0 0] 43 ?_; intro gb609 hg w8 hbox hb; have BK609 := A_ (hbox); have GW609 := hs_ hg; have GE609 := hs_ hg; replace HB := bS_ hb; have NB607_609 := A_ ((by rw [hg]; exact Nat.ne_of_lt (blk_lt (g := gb607) (o := .cells #[.int .i64 a0_0, .int .i64 a0_1, .string a0_2, .slice A0_3 l0_3.length c0_3, .string a0_4, .slice (some ad608) l0_5.length c0_5] 43 (0, 0)) (blk_below BK607.out hR_)) : gb607 ≠ gb609)); have NB609_607 := A_ ((by rw [hg]; exact Nat.ne_of_gt (blk_lt (g := gb607) (o := .cells #[.int .i64 a0_0, .int .i64 a0_1, .string a0_2, .slice A0_3 l0_3.length c0_3, .string a0_4, .slice (some ad608) l0_5.length c0_5] 43 (0, 0)) (blk_below BK607.out hR_)) : gb609 ≠ gb607)); replace BK607 := A_ (blk_below (g := gb607) (o := .cells #[.int .i64 a0_0, .int .i64 a0_1, .string a0_2, .slice A0_3 l0_3.length c0_3, .string a0_4, .slice (some ad608) l0_5.length c0_5] 43 (0, 0)) (blk_below BK607.out hR_) hb); clear hb hbox hg; have hnb9 := NB609_607.out; have hnc9 := NB607_609.out; obtain ⟨hcz10_0, hcz10_1, hcz10_2, hcz10_3, hcz10_4, hcz10_5, hfz10_0, hfz10_1, hfz10_2, hfz10_3, hfz10_4, hfz10_5⟩ := bk6_ BK609.out) | ((with_reducible refine gC_ 142 ?_); refine gL_ 15 Tryz.func142 #[.agg #[.int .i64 ((rd_T43 l0_5 x9_1).f0), .int .i64 ((rd_T43 l0_5 x9_1).f1), .string ((rd_T43 l0_5 x9_1).f2), .slice A608_3 ((rd_T43 l0_5 x9_1).f3).length c608_3, .string ((rd_T43 l0_5 x9_1).f4), .slice A608_5 ((rd_T43 l0_5 x9_1).f5).length c608_5]] ?_; (with_reducible refine (ih k1 (by have := HK1.out; omega) ((rd_T43 l0_5 x9_1).f0) ((rd_T43 l0_5 x9_1).f1) ((rd_T43 l0_5 x9_1).f2) _ _ ((rd_T43 l0_5 x9_1).f3) ((rd_T43 l0_5 x9_1).f4) _ _ ((rd_T43 l0_5 x9_1).f5) t610 _ ?side1 ?side2 ?side3 ?side4 A7.out).mono ?_); (case side1 => exact Kd.C_below HR608_3.out hB_); (case side2 => exact HC608_3.out); (case side3 => exact Kd.C_below HR608_5.out hB_); (case side4 => exact HC608_5.out); rintro e w11 ⟨rfl, hb⟩; refine ⟨_, rfl, ?_⟩; replace BK607 := A_ (blk_below (g := gb607) (o := .cells #[.int .i64 a0_0, .int .i64 a0_1, .string a0_2, .slice A0_3 l0_3.length c0_3, .string a0_4, .slice (some ad608) l0_5.length c0_5] 43 (0, 0)) (by refine kB_ ?_; refine blk_far ?_ NB607_609.out _; refine kB_ ?_; refine blk_far ?_ NB607_609.out _; refine kB_ ?_; refine blk_far ?_ NB607_609.out _; refine kB_ ?_; refine blk_far ?_ NB607_609.out _; refine kB_ ?_; refine blk_far ?_ NB607_609.out _; refine kB_ ?_; refine blk_far ?_ NB607_609.out _; refine kB_ ?_; exact BK607.out) hb); replace BK609 := A_ (blk_below (g := gb609) (o := .cells #[.int .i64 ((rd_T43 l0_5 x9_1).f0), .int .i64 ((rd_T43 l0_5 x9_1).f1), .string ((rd_T43 l0_5 x9_1).f2), .slice A608_3 ((rd_T43 l0_5 x9_1).f3).length c608_3, .string ((rd_T43 l0_5 x9_1).f4), .slice A608_5 ((rd_T43 l0_5 x9_1).f5).length c608_5] 43 (0, 0)) (by refine kB_ ?_; refine blk_put (cs := #[.int .i64 ((rd_T43 l0_5 x9_1).f0), .int .i64 ((rd_T43 l0_5 x9_1).f1), .string ((rd_T43 l0_5 x9_1).f2), .slice A608_3 ((rd_T43 l0_5 x9_1).f3).length c608_3, .string ((rd_T43 l0_5 x9_1).f4), .slice none 0 0]) ?_ 5 _ rfl; refine kB_ ?_; refine blk_put (cs := #[.int .i64 ((rd_T43 l0_5 x9_1).f0), .int .i64 ((rd_T43 l0_5 x9_1).f1), .string ((rd_T43 l0_5 x9_1).f2), .slice A608_3 ((rd_T43 l0_5 x9_1).f3).length c608_3, .string (⟨#[]⟩ : BA), .slice none 0 0]) ?_ 4 _ rfl; refine kB_ ?_; refine blk_put (cs := #[.int .i64 ((rd_T43 l0_5 x9_1).f0), .int .i64 ((rd_T43 l0_5 x9_1).f1), .string ((rd_T43 l0_5 x9_1).f2), .slice none 0 0, .string (⟨#[]⟩ : BA), .slice none 0 0]) ?_ 3 _ rfl; refine kB_ ?_; refine blk_put (cs := #[.int .i64 ((rd_T43 l0_5 x9_1).f0), .int .i64 ((rd_T43 l0_5 x9_1).f1), .string (⟨#[]⟩ : BA), .slice none 0 0, .string (⟨#[]⟩ : BA), .slice none 0 0]) ?_ 2 _ rfl; refine kB_ ?_; refine blk_put (cs := #[.int .i64 ((rd_T43 l0_5 x9_1).f0), .int .i64 0, .string (⟨#[]⟩ : BA), .slice none 0 0, .string (⟨#[]⟩ : BA), .slice none 0 0]) ?_ 1 _ rfl; refine kB_ ?_; refine blk_put (cs := #[.int .i64 0, .int .i64 0, .string (⟨#[]⟩ : BA), .slice none 0 0, .string (⟨#[]⟩ : BA), .slice none 0 0]) ?_ 0 _ rfl; refine kB_ ?_; exact BK609.out) hb); replace HB := bS_ hb; clear hb))
    go_roundg k1
    case measure => have := HK1.out; omega
    case rel => exact ⟨(wrap64 (x3_1 + t610)), (wrap64 (x9_1 + 1)), e2_, e2_, H', ⟨by have := HK1.out; omega⟩, ⟨blk_below BK607.out hR_⟩, ⟨hB_⟩⟩
   ·have c4b0 := dF_ c4;clear c4;obtain rfl := sI_ H;go_wp2
    go_ret
    exact ⟨e1_, hB_⟩
mutual
def impl_DocOk.l0 : Nat → Int → Int → List (S43) → Int → Int → Option (Bool)
 | 0, _, _, _, _, _ => none
 | k + 1, x3, x4, x7, x8, x9 => if x9 < x8 then (if 0 ≤ x9 then (if x9 < (x7.length : Int) then ((impl_ElOk.f k ((rd_T43 x7 x9).f0) ((rd_T43 x7 x9).f1) ((rd_T43 x7 x9).f2) ((rd_T43 x7 x9).f3) ((rd_T43 x7 x9).f4) ((rd_T43 x7 x9).f5)).bind fun t613 => (if t613 = true then (impl_DocOk.j1 k x3 x4 x7 x8 x9 (((rd_T43 x7 x9).f0) == 2) ((rd_T43 x7 x9).f0) ((rd_T43 x7 x9).f1) ((rd_T43 x7 x9).f2) ((rd_T43 x7 x9).f3) ((rd_T43 x7 x9).f4) ((rd_T43 x7 x9).f5)) else (impl_DocOk.j1 k x3 x4 x7 x8 x9 true ((rd_T43 x7 x9).f0) ((rd_T43 x7 x9).f1) ((rd_T43 x7 x9).f2) ((rd_T43 x7 x9).f3) ((rd_T43 x7 x9).f4) ((rd_T43 x7 x9).f5)))) else (none)) else (none)) else (if x3 = 1 then (some (decide (x4 ≤ 3000))) else (some false))
def impl_DocOk.j1 : Nat → Int → Int → List (S43) → Int → Int → Bool → Int → Int → ByteArray → List (S36) → ByteArray → List (S43) → Option (Bool)
 | 0, _, _, _, _, _, _, _, _, _, _, _, _ => none
 | k + 1, x3, x4, x7, x8, x9, x20, x613000, x613001, x613002, x613003, x613004, x613005 => if x20 = true then (some false) else (if x613000 = 1 then ((impl_ElSize.f k x613000 x613001 x613002 x613003 x613004 x613005).bind fun t614 => (impl_DocOk.l0 k (wrap64 (x3 + 1)) (wrap64 (x4 + t614)) x7 x8 (wrap64 (x9 + 1)))) else ((impl_ElSize.f k x613000 x613001 x613002 x613003 x613004 x613005).bind fun t615 => (impl_DocOk.l0 k x3 (wrap64 (x4 + t615)) x7 x8 (wrap64 (x9 + 1)))))
end
def impl_DocOk.f (k : Nat) (l0 : List (S43)) : Option (Bool) := impl_DocOk.l0 k 0 0 l0 (l0.length : Int) 0
theorem impl_DocOk.mono_l : ∀ k, (∀ y0 y1 y2 y3 y4, LeO (impl_DocOk.l0 k y0 y1 y2 y3 y4) (impl_DocOk.l0 (k + 1) y0 y1 y2 y3 y4)) ∧ (∀ y0 y1 y2 y3 y4 y5 y6 y7 y8 y9 y10 y11, LeO (impl_DocOk.j1 k y0 y1 y2 y3 y4 y5 y6 y7 y8 y9 y10 y11) (impl_DocOk.j1 (k + 1) y0 y1 y2 y3 y4 y5 y6 y7 y8 y9 y10 y11))
 | 0 => ⟨fun _ _ _ _ _ r h => by simp [impl_DocOk.l0] at h, fun _ _ _ _ _ _ _ _ _ _ _ _ r h => by simp [impl_DocOk.j1] at h⟩
 | k + 1 => by
  obtain ⟨ih0, ih1⟩ := impl_DocOk.mono_l k;refine ⟨?_, ?_⟩
  ·intro y0 y1 y2 y3 y4;unfold impl_DocOk.l0;with_reducible repeat' first | exact ih0 _ _ _ _ _ | exact ih1 _ _ _ _ _ _ _ _ _ _ _ _ | exact impl_ElOk.mono _ _ _ _ _ _ _ | exact impl_ElSize.mono _ _ _ _ _ _ _ | apply LeO.refl | apply LeO.none | apply LeO.ite | apply LeO.bind | intro
  ·intro y0 y1 y2 y3 y4 y5 y6 y7 y8 y9 y10 y11;unfold impl_DocOk.j1;with_reducible repeat' first | exact ih0 _ _ _ _ _ | exact ih1 _ _ _ _ _ _ _ _ _ _ _ _ | exact impl_ElOk.mono _ _ _ _ _ _ _ | exact impl_ElSize.mono _ _ _ _ _ _ _ | apply LeO.refl | apply LeO.none | apply LeO.ite | apply LeO.bind | intro
theorem impl_DocOk.mono : ∀ a0 k, LeO (impl_DocOk.f k a0) (impl_DocOk.f (k + 1) a0) := by
 intro a0 k;obtain ⟨ih0, ih1⟩ := impl_DocOk.mono_l k;unfold impl_DocOk.f;with_reducible repeat' first | exact ih0 _ _ _ _ _ | exact ih1 _ _ _ _ _ _ _ _ _ _ _ _ | exact impl_ElOk.mono _ _ _ _ _ _ _ | exact impl_ElSize.mono _ _ _ _ _ _ _ | apply LeO.refl | apply LeO.none | apply LeO.ite | apply LeO.bind | intro
theorem impl_DocOk.calls (k : Nat) (A0 : Option Addr) (c0 : Nat) (l0 : List (S43)) (r : Bool) (w : World) (hr0 : Kd.C k43 w A0 l0.length l0) (hc0 : l0.length ≤ c0) (hL : LibOk w) (h : impl_DocOk.f k l0 = some r) :
  Calls Tryz.prog 97 #[.slice A0 l0.length c0] w fun e w' => e = .returned (.bool r) ∧ Below w.heap.size w w' := by
 have hu43 := Tryz.underlying43;have HR0 := A_ hr0;have HC0 := A_ hc0;clear hr0 hc0;have HB := A_ (Below.refl w.heap.size w);have H : (impl_DocOk.l0 k 0 0 l0 (l0.length : Int) 0) = some r := h;clear h;have H' := A_ H;clear H;go_enter Tryz.func97, Tryz.ntmps97
 go_wp2
 go_loopg [3, 4, 9] k (fun kq v3 v4 v9 w' => ∃ (x3_1 : Int) (x4_1 : Int) (x9_1 : Int), v3 = .int .i64 x3_1 ∧ v4 = .int .i64 x4_1 ∧ v9 = .int .i64 x9_1 ∧ As9 (impl_DocOk.l0 kq x3_1 x4_1 l0 (l0.length : Int) x9_1 = some r) ∧ As9 (kq ≤ k) ∧ As9 (Below w.heap.size w w'))
 case atStart => exact ⟨(0), (0), (0), e2_, e2_, e2_, H', ⟨Nat.le_refl _⟩, ⟨hB_⟩⟩
 case round =>
  clear H';obtain ⟨x3_1, x4_1, x9_1, rfl, rfl, rfl, HA, HK1, HB⟩ := hrel;cases gk with
  | zero => exact absurd HA.out (by simp [impl_DocOk.l0])
  | succ k1 =>
   have H := HA.out;clear HA;simp only [impl_DocOk.l0] at H;rcases ic_ H with ⟨c2, H⟩ | ⟨c2, H⟩
   ·have c2b0 := dE_ c2;clear c2;obtain ⟨c3, H⟩ := ifn_ H;have c3b0 := dE_ c3;clear c3;obtain ⟨c4, H⟩ := ifn_ H;have c4b0 := dE_ c4;clear c4;have HC5 := A_ H;clear H;obtain ⟨p611, q611, ad611, A611_3, c611_3, A611_5, c611_5, e611, hx611_0, hx611_1, hx611_2, hx611_3, hx611_4, hx611_5, HC611_3, HR611_3, HC611_5, HR611_5⟩ := aB43_ HB.out HR0.out x9_1;cases e611;go_upto_region 5 with (first | ((with_reducible refine gate_dst (N := 6) rfl ?_); refine bE_ #[.int .i64 0, .int .i64 0, .string (⟨#[]⟩ : BA), .slice none 0 0, .string (⟨#[]⟩ : BA), .slice none 0 0] 43 ?_; intro gb612 hg w6 hbox hb; have BK612 := A_ (hbox); have GW612 := hs_ hg; have GE612 := hs_ hg; replace HB := bS_ hb; clear hb hbox hg; obtain ⟨hcz7_0, hcz7_1, hcz7_2, hcz7_3, hcz7_4, hcz7_5, hfz7_0, hfz7_1, hfz7_2, hfz7_3, hfz7_4, hfz7_5⟩ := bk6_ BK612.out))
    (try simp only [Act.put, List.setIfInBounds_toArray, List.set_cons_zero, List.set_cons_succ])
    go_cut [20] (fun v20 wc => ∃ (kq : Nat) (x20_4 : Bool), v20 = .bool x20_4 ∧ As9 (impl_DocOk.j1 kq x3_1 x4_1 l0 (l0.length : Int) x9_1 x20_4 ((rd_T43 l0 x9_1).f0) ((rd_T43 l0 x9_1).f1) ((rd_T43 l0 x9_1).f2) ((rd_T43 l0 x9_1).f3) ((rd_T43 l0 x9_1).f4) ((rd_T43 l0 x9_1).f5) = some r) ∧ As9 (kq ≤ k1) ∧ As9 (wc.heap[gb612]? = some (.cells #[.int .i64 ((rd_T43 l0 x9_1).f0), .int .i64 ((rd_T43 l0 x9_1).f1), .string ((rd_T43 l0 x9_1).f2), (.slice A611_3 ((rd_T43 l0 x9_1).f3).length c611_3), .string ((rd_T43 l0 x9_1).f4), (.slice A611_5 ((rd_T43 l0 x9_1).f5).length c611_5)] 43 (0, 0))) ∧ As9 (Below w.heap.size w wc))
    case first =>
     have H := HC5.out;clear HC5;obtain ⟨t613, A8, H⟩ := ob_ H;(try dsimp only at H)
     by_cases c9 : t613 = true
     ·subst c9;rw [if_pos rfl] at H;have H' := A_ H;clear H;obtain ⟨hcz10_0, hcz10_1, hcz10_2, hcz10_3, hcz10_4, hcz10_5, hfz10_0, hfz10_1, hfz10_2, hfz10_3, hfz10_4, hfz10_5⟩ := bk6_ BK612.out;go_wp2_with (first | ((with_reducible refine gC_ 87 ?_); refine gL_ 14 Tryz.func87 #[.agg #[.int .i64 ((rd_T43 l0 x9_1).f0), .int .i64 ((rd_T43 l0 x9_1).f1), .string ((rd_T43 l0 x9_1).f2), .slice A611_3 ((rd_T43 l0 x9_1).f3).length c611_3, .string ((rd_T43 l0 x9_1).f4), .slice A611_5 ((rd_T43 l0 x9_1).f5).length c611_5]] ?_; (with_reducible refine (impl_ElOk.calls k1 ((rd_T43 l0 x9_1).f0) ((rd_T43 l0 x9_1).f1) ((rd_T43 l0 x9_1).f2) _ _ ((rd_T43 l0 x9_1).f3) ((rd_T43 l0 x9_1).f4) _ _ ((rd_T43 l0 x9_1).f5) true _ ?side1 ?side2 ?side3 ?side4 ?side5 A8.out).mono ?_); (case side1 => exact Kd.C_below HR611_3.out hB_); (case side2 => exact HC611_3.out); (case side3 => exact Kd.C_below HR611_5.out hB_); (case side4 => exact HC611_5.out); (case side5 => first | exact hL | exact LibOk.below hL hB_); rintro e w11 ⟨rfl, hb⟩; refine ⟨_, rfl, ?_⟩; replace BK612 := A_ (blk_below (g := gb612) (o := .cells #[.int .i64 ((rd_T43 l0 x9_1).f0), .int .i64 ((rd_T43 l0 x9_1).f1), .string ((rd_T43 l0 x9_1).f2), .slice A611_3 ((rd_T43 l0 x9_1).f3).length c611_3, .string ((rd_T43 l0 x9_1).f4), .slice A611_5 ((rd_T43 l0 x9_1).f5).length c611_5] 43 (0, 0)) (by refine kB_ ?_; refine blk_put (cs := #[.int .i64 ((rd_T43 l0 x9_1).f0), .int .i64 ((rd_T43 l0 x9_1).f1), .string ((rd_T43 l0 x9_1).f2), .slice A611_3 ((rd_T43 l0 x9_1).f3).length c611_3, .string ((rd_T43 l0 x9_1).f4), .slice none 0 0]) ?_ 5 _ rfl; refine kB_ ?_; refine blk_put (cs := #[.int .i64 ((rd_T43 l0 x9_1).f0), .int .i64 ((rd_T43 l0 x9_1).f1), .string ((rd_T43 l0 x9_1).f2), .slice A611_3 ((rd_T43 l0 x9_1).f3).length c611_3, .string (⟨#[]⟩ : BA), .slice none 0 0]) ?_ 4 _ rfl; refine kB_ ?_; refine blk_put (cs := #[.int .i64 ((rd_T43 l0 x9_1).f0), .int .i64 ((rd_T43 l0 x9_1).f1), .string ((rd_T43 l0 x9_1).f2), .slice none 0 0, .string (⟨#[]⟩ : BA), .slice none 0 0]) ?_ 3 _ rfl; refine kB_ ?_; refine blk_put (cs := #[.int .i64 ((rd_T43 l0 x9_1).f0), .int .i64 ((rd_T43 l0 x9_1).f1), .string (⟨#[]⟩ : BA), .slice none 0 0, .string (⟨#[]⟩ : BA), .slice none 0 0]) ?_ 2 _ rfl; refine kB_ ?_; refine blk_put (cs := #[.int .i64 ((rd_T43 l0 x9_1).f0), .int .i64 0, .string (⟨#[]⟩ : BA), .slice none 0 0, .string (⟨#[]⟩ : BA), .slice none 0 0]) ?_ 1 _ rfl; refine kB_ ?_; refine blk_put (cs := #[.int .i64 0, .int .i64 0, .string (⟨#[]⟩ : BA), .slice none 0 0, .string (⟨#[]⟩ : BA), .slice none 0 0]) ?_ 0 _ rfl; refine kB_ ?_; exact BK612.out) hb); replace HB := bS_ hb; clear hb; obtain ⟨hcz12_0, hcz12_1, hcz12_2, hcz12_3, hcz12_4, hcz12_5, hfz12_0, hfz12_1, hfz12_2, hfz12_3, hfz12_4, hfz12_5⟩ := bk6_ BK612.out))
      go_meet
      case rel => exact ⟨_, ((((rd_T43 l0 x9_1).f0) == 2)), e2_, H', ⟨by have := HK1.out; first | omega | exact Nat.le_refl _⟩, ⟨blk_below BK612.out hR_⟩, ⟨hB_⟩⟩
     ·replace c9 := bF_ c9;subst c9;rw [if_neg nF_] at H;have H' := A_ H;clear H;obtain ⟨hcz13_0, hcz13_1, hcz13_2, hcz13_3, hcz13_4, hcz13_5, hfz13_0, hfz13_1, hfz13_2, hfz13_3, hfz13_4, hfz13_5⟩ := bk6_ BK612.out;go_wp2_with (first | ((with_reducible refine gC_ 87 ?_); refine gL_ 14 Tryz.func87 #[.agg #[.int .i64 ((rd_T43 l0 x9_1).f0), .int .i64 ((rd_T43 l0 x9_1).f1), .string ((rd_T43 l0 x9_1).f2), .slice A611_3 ((rd_T43 l0 x9_1).f3).length c611_3, .string ((rd_T43 l0 x9_1).f4), .slice A611_5 ((rd_T43 l0 x9_1).f5).length c611_5]] ?_; (with_reducible refine (impl_ElOk.calls k1 ((rd_T43 l0 x9_1).f0) ((rd_T43 l0 x9_1).f1) ((rd_T43 l0 x9_1).f2) _ _ ((rd_T43 l0 x9_1).f3) ((rd_T43 l0 x9_1).f4) _ _ ((rd_T43 l0 x9_1).f5) false _ ?side1 ?side2 ?side3 ?side4 ?side5 A8.out).mono ?_); (case side1 => exact Kd.C_below HR611_3.out hB_); (case side2 => exact HC611_3.out); (case side3 => exact Kd.C_below HR611_5.out hB_); (case side4 => exact HC611_5.out); (case side5 => first | exact hL | exact LibOk.below hL hB_); rintro e w14 ⟨rfl, hb⟩; refine ⟨_, rfl, ?_⟩; replace BK612 := A_ (blk_below (g := gb612) (o := .cells #[.int .i64 ((rd_T43 l0 x9_1).f0), .int .i64 ((rd_T43 l0 x9_1).f1), .string ((rd_T43 l0 x9_1).f2), .slice A611_3 ((rd_T43 l0 x9_1).f3).length c611_3, .string ((rd_T43 l0 x9_1).f4), .slice A611_5 ((rd_T43 l0 x9_1).f5).length c611_5] 43 (0, 0)) (by refine kB_ ?_; refine blk_put (cs := #[.int .i64 ((rd_T43 l0 x9_1).f0), .int .i64 ((rd_T43 l0 x9_1).f1), .string ((rd_T43 l0 x9_1).f2), .slice A611_3 ((rd_T43 l0 x9_1).f3).length c611_3, .string ((rd_T43 l0 x9_1).f4), .slice none 0 0]) ?_ 5 _ rfl; refine kB_ ?_; refine blk_put (cs := #[.int .i64 ((rd_T43 l0 x9_1).f0), .int .i64 ((rd_T43 l0 x9_1).f1), .string ((rd_T43 l0 x9_1).f2), .slice A611_3 ((rd_T43 l0 x9_1).f3).length c611_3, .string (⟨#[]⟩ : BA), .slice none 0 0]) ?_ 4 _ rfl; refine kB_ ?_; refine blk_put (cs := #[.int .i64 ((rd_T43 l0 x9_1).f0), .int .i64 ((rd_T43 l0 x9_1).f1), .string ((rd_T43 l0 x9_1).f2), .slice none 0 0, .string (⟨#[]⟩ : BA), .slice none 0 0]) ?_ 3 _ rfl; refine kB_ ?_; refine blk_put (cs := #[.int .i64 ((rd_T43 l0 x9_1).f0), .int .i64 ((rd_T43 l0 x9_1).f1), .string (⟨#[]⟩ : BA), .slice none 0 0, .string (⟨#[]⟩ : BA), .slice none 0 0]) ?_ 2 _ rfl; refine kB_ ?_; refine blk_put (cs := #[.int .i64 ((rd_T43 l0 x9_1).f0), .int .i64 0, .string (⟨#[]⟩ : BA), .slice none 0 0, .string (⟨#[]⟩ : BA), .slice none 0 0]) ?_ 1 _ rfl; refine kB_ ?_; refine blk_put (cs := #[.int .i64 0, .int .i64 0, .string (⟨#[]⟩ : BA), .slice none 0 0, .string (⟨#[]⟩ : BA), .slice none 0 0]) ?_ 0 _ rfl; refine kB_ ?_; exact BK612.out) hb); replace HB := bS_ hb; clear hb))
      go_meet
      case rel => exact ⟨_, (true), e2_, H', ⟨by have := HK1.out; first | omega | exact Nat.le_refl _⟩, ⟨blk_below BK612.out hR_⟩, ⟨hB_⟩⟩
    case rest =>
     clear HC5;try clear c2
     try clear c2b0
     try clear p2
     try clear c3
     try clear c3b0
     try clear c4
     try clear c4b0
     try clear c6
     try clear p6
     try clear q6
     try clear hx6
     try clear c8
     try clear c9
     try clear hcz10_0
     try clear hcz10_1
     try clear hcz10_2
     try clear hcz10_3
     try clear hcz10_4
     try clear hcz10_5
     try clear hcz12_0
     try clear hcz12_1
     try clear hcz12_2
     try clear hcz12_3
     try clear hcz12_4
     try clear hcz12_5
     try clear hcz13_0
     try clear hcz13_1
     try clear hcz13_2
     try clear hcz13_3
     try clear hcz13_4
     try clear hcz13_5
     try clear hcz7_0
     try clear hcz7_1
     try clear hcz7_2
     try clear hcz7_3
     try clear hcz7_4
     try clear hcz7_5
     try clear hfz10_0
     try clear hfz10_1
     try clear hfz10_2
     try clear hfz10_3
     try clear hfz10_4
     try clear hfz10_5
     try clear hfz12_0
     try clear hfz12_1
     try clear hfz12_2
     try clear hfz12_3
     try clear hfz12_4
     try clear hfz12_5
     try clear hfz13_0
     try clear hfz13_1
     try clear hfz13_2
     try clear hfz13_3
     try clear hfz13_4
     try clear hfz13_5
     try clear hfz7_0
     try clear hfz7_1
     try clear hfz7_2
     try clear hfz7_3
     try clear hfz7_4
     try clear hfz7_5
     try clear hx611_0
     try clear hx611_1
     try clear hx611_2
     try clear hx611_3
     try clear hx611_4
     try clear hx611_5
     try clear p611
     try clear q611
     obtain ⟨kq, x20_4, rfl, HA, HJ4, BK612, HB⟩ := hcut;cases kq with
     | zero => exact absurd HA.out (by simp [impl_DocOk.j1])
     | succ kj4 =>
      have H := HA.out;clear HA;simp only [impl_DocOk.j1] at H;by_cases c15 : x20_4 = true
      ·subst c15;rw [if_pos rfl] at H;obtain rfl := sI_ H;go_wp2
       go_ret
       exact ⟨e1_, hB_⟩
      ·replace c15 := bF_ c15;subst c15;rw [if_neg nF_] at H;rcases ic_ H with ⟨c16, H⟩ | ⟨c16, H⟩
       ·obtain ⟨c16b0, c16b1⟩ := be_ c16;clear c16;obtain ⟨t614, A17, H⟩ := ob_ H;(try dsimp only at H)
        have H' := A_ H;clear H;obtain ⟨hcz18_0, hcz18_1, hcz18_2, hcz18_3, hcz18_4, hcz18_5, hfz18_0, hfz18_1, hfz18_2, hfz18_3, hfz18_4, hfz18_5⟩ := bk6_ BK612.out;go_wp2_with (first | ((with_reducible refine gC_ 142 ?_); refine gL_ 28 Tryz.func142 #[.agg #[.int .i64 ((rd_T43 l0 x9_1).f0), .int .i64 ((rd_T43 l0 x9_1).f1), .string ((rd_T43 l0 x9_1).f2), .slice A611_3 ((rd_T43 l0 x9_1).f3).length c611_3, .string ((rd_T43 l0 x9_1).f4), .slice A611_5 ((rd_T43 l0 x9_1).f5).length c611_5]] ?_; (with_reducible refine (impl_ElSize.calls kj4 ((rd_T43 l0 x9_1).f0) ((rd_T43 l0 x9_1).f1) ((rd_T43 l0 x9_1).f2) _ _ ((rd_T43 l0 x9_1).f3) ((rd_T43 l0 x9_1).f4) _ _ ((rd_T43 l0 x9_1).f5) t614 _ ?side1 ?side2 ?side3 ?side4 A17.out).mono ?_); (case side1 => exact Kd.C_below HR611_3.out hB_); (case side2 => exact HC611_3.out); (case side3 => exact Kd.C_below HR611_5.out hB_); (case side4 => exact HC611_5.out); rintro e w19 ⟨rfl, hb⟩; refine ⟨_, rfl, ?_⟩; replace BK612 := A_ (blk_below (g := gb612) (o := .cells #[.int .i64 ((rd_T43 l0 x9_1).f0), .int .i64 ((rd_T43 l0 x9_1).f1), .string ((rd_T43 l0 x9_1).f2), .slice A611_3 ((rd_T43 l0 x9_1).f3).length c611_3, .string ((rd_T43 l0 x9_1).f4), .slice A611_5 ((rd_T43 l0 x9_1).f5).length c611_5] 43 (0, 0)) (blk_below BK612.out hR_) hb); replace HB := bS_ hb; clear hb))
        go_roundg kj4
        case measure => have := HK1.out; have := HJ4.out; omega
        case rel => exact ⟨(wrap64 (x3_1 + 1)), (wrap64 (x4_1 + t614)), (wrap64 (x9_1 + 1)), e2_, e2_, e2_, H', ⟨by have := HK1.out; have := HJ4.out; omega⟩, ⟨hB_⟩⟩
       ·obtain ⟨c16b0, c16b1⟩ := bn_ c16;obtain ⟨t615, A20, H⟩ := ob_ H;(try dsimp only at H)
        have H' := A_ H;clear H;obtain ⟨hcz21_0, hcz21_1, hcz21_2, hcz21_3, hcz21_4, hcz21_5, hfz21_0, hfz21_1, hfz21_2, hfz21_3, hfz21_4, hfz21_5⟩ := bk6_ BK612.out;go_wp2_with (first | ((with_reducible refine gC_ 142 ?_); refine gL_ 28 Tryz.func142 #[.agg #[.int .i64 ((rd_T43 l0 x9_1).f0), .int .i64 ((rd_T43 l0 x9_1).f1), .string ((rd_T43 l0 x9_1).f2), .slice A611_3 ((rd_T43 l0 x9_1).f3).length c611_3, .string ((rd_T43 l0 x9_1).f4), .slice A611_5 ((rd_T43 l0 x9_1).f5).length c611_5]] ?_; (with_reducible refine (impl_ElSize.calls kj4 ((rd_T43 l0 x9_1).f0) ((rd_T43 l0 x9_1).f1) ((rd_T43 l0 x9_1).f2) _ _ ((rd_T43 l0 x9_1).f3) ((rd_T43 l0 x9_1).f4) _ _ ((rd_T43 l0 x9_1).f5) t615 _ ?side1 ?side2 ?side3 ?side4 A20.out).mono ?_); (case side1 => exact Kd.C_below HR611_3.out hB_); (case side2 => exact HC611_3.out); (case side3 => exact Kd.C_below HR611_5.out hB_); (case side4 => exact HC611_5.out); rintro e w22 ⟨rfl, hb⟩; refine ⟨_, rfl, ?_⟩; replace BK612 := A_ (blk_below (g := gb612) (o := .cells #[.int .i64 ((rd_T43 l0 x9_1).f0), .int .i64 ((rd_T43 l0 x9_1).f1), .string ((rd_T43 l0 x9_1).f2), .slice A611_3 ((rd_T43 l0 x9_1).f3).length c611_3, .string ((rd_T43 l0 x9_1).f4), .slice A611_5 ((rd_T43 l0 x9_1).f5).length c611_5] 43 (0, 0)) (blk_below BK612.out hR_) hb); replace HB := bS_ hb; clear hb))
        go_roundg kj4
        case measure => have := HK1.out; have := HJ4.out; omega
        case rel => exact ⟨(x3_1), (wrap64 (x4_1 + t615)), (wrap64 (x9_1 + 1)), e2_, e2_, e2_, H', ⟨by have := HK1.out; have := HJ4.out; omega⟩, ⟨hB_⟩⟩
   ·have c2b0 := dF_ c2;clear c2;rcases ic_ H with ⟨c23, H⟩ | ⟨c23, H⟩
    ·obtain ⟨c23b0, c23b1⟩ := be_ c23;clear c23;obtain rfl := sI_ H;go_wp2
     go_ret
     exact ⟨e1_, hB_⟩
    ·obtain ⟨c23b0, c23b1⟩ := bn_ c23;obtain rfl := sI_ H;go_wp2
     go_ret
     exact ⟨e1_, hB_⟩
end Go.Proofs.YtkmmoheeoblmnaaGreatDoor.A
