-- joined by wip/tools/shake.py
import Derived.Test.YtkmmoheeoblmnaaGreatDoorVAgTW9
import Derived.Test.YtkmmoheeoblmnaaGreatDoorMAgT0
import Derived.Test.YtkmmoheeoblmnaaGreatDoorMAgT2
import Derived.Test.YtkmmoheeoblmnaaGreatDoorMAgT5
import Derived.Test.YtkmmoheeoblmnaaGreatDoorMAgT3
import Derived.Test.YtkmmoheeoblmnaaGreatDoorMAgT6
import Derived.Test.YtkmmoheeoblmnaaGreatDoorMAgT4
import Derived.Test.YtkmmoheeoblmnaaGreatDoorMAgT1
set_option maxHeartbeats 16000000
set_option maxRecDepth 100000
namespace Go.Proofs.YtkmmoheeoblmnaaGreatDoor.A
open Go.RowKit Go.Proofs.YtkmmoheeoblmnaaGreatDoorW.PrintWords Go.Proofs.YtkmmoheeoblmnaaGreatDoorW.PrintLast Go.Proofs.YtkmmoheeoblmnaaGreatDoorW.PrintMore
attribute [local go_sem] max2_int min2_int max_two min_two max_three min_three max_four min_four
set_option linter.unusedVariables false
set_option linter.unusedSimpArgs false
structure Rdi (w W : World) (g : Nat) (s : BA) (p : Int) (b : Bool) (v : Value) (out : List S43) : Prop where
 st : IsS93 w W g s p b
 nr : k43.R 43 W w.heap.size (fun k_ => k_ ≠ g) v out
 bl : Below w.heap.size w W
theorem Rdi.state {w W W' : World} {g : Nat} {s s' : BA} {p p' : Int} {b b' : Bool} {v : Value} {out : List S43} (h : Rdi w W g s p b v out) (hi : IsS93 w W' g s' p' b') (hb : Below w.heap.size w W') (hk : KeepBut W W' g none) : Rdi w W' g s' p' b' v out := ⟨hi, Kd.R_keep h.nr hk (fun k hk => hk), hb⟩
theorem Rdi.below {w W W' : World} {g : Nat} {s : BA} {p : Int} {b : Bool} {v : Value} {out : List S43} (h : Rdi w W g s p b v out) (hb : Below W.heap.size W W') : Rdi w W' g s p b v out := h.state (h.st.below hb) (below_step h.bl hb) (KeepBut.of_below hb g none)
theorem Rdi.ok_ {w W : World} {g : Nat} {s : BA} {p : Int} {b : Bool} {v : Value} {out : List S43} (h : Rdi w W g s p b v out) (x : Bool) : Rdi w (W.setCell ⟨g, 2, none⟩ (.bool x)) g s p x v out := h.state (h.st.set_2 x) (below_set h.bl h.st.2) ((KeepBut.refl W g none).set_ 2 _)
theorem Rdi.at_ {w W : World} {g : Nat} {s : BA} {p : Int} {b : Bool} {v : Value} {out : List S43} (h : Rdi w W g s p b v out) (x : Int) : Rdi w (W.setCell ⟨g, 1, none⟩ (.int .i64 x)) g s x b v out := h.state (h.st.set_1 x) (below_set h.bl h.st.2) ((KeepBut.refl W g none).set_ 1 _)
theorem Rdi.app {w W W' : World} {g : Nat} {s : BA} {p : Int} {b : Bool} {v v' : Value} {out : List S43} (h : Rdi w W g s p b v out) {x : S43} (ho : k43.R 43 W' w.heap.size (fun k_ => k_ ≠ g) v' (out ++ [x])) (hb : Below w.heap.size w W') (hg : W.grownBy W' v.ownBlock) : Rdi w W' g s p b v' (out ++ [x]) := ⟨h.st.grown hg (h.st.own_ne h.nr de_), ho, hb⟩
structure Rdk (w W : World) (g gk : Nat) (s : BA) (p : Int) (b : Bool) (v : Value) (out : List S43) (c0 c1 c2 c3 c4 c5 : Value) : Prop where
 st : IsS93 w W g s p b
 nr : k43.R 43 W w.heap.size (fun k_ => k_ ≠ g ∧ k_ ≠ gk) v out
 bl : Below w.heap.size w W
 xk : W.heap[gk]? = some (.cells #[c0, c1, c2, c3, c4, c5] 43 (0, 0))
 gk0 : w.heap.size ≤ gk
 ne : gk ≠ g
theorem Rdk.start {w W W2 : World} {g gk : Nat} {s : BA} {p : Int} {b : Bool} {v : Value} {out : List S43} {c0 c1 c2 c3 c4 c5 : Value} (h : Rdi w W g s p b v out) (hgk : gk = W.heap.size) (hbox : W2.heap[gk]? = some (.cells #[c0, c1, c2, c3, c4, c5] 43 (0, 0))) (hb : Below W.heap.size W W2) : Rdk w W2 g gk s p b v out c0 c1 c2 c3 c4 c5 :=
 ⟨h.st.below hb, Kd.R_mono (Kd.R_below (Kd.R_bound h.nr) hb) (fun k hk => ⟨hk.1, by have := hk.2.2.1; omega⟩), below_step h.bl hb, hbox, by rw [hgk]; exact h.bl.size, by have := h.st.lt; omega⟩
theorem Rdk.state {w W W' : World} {g gk : Nat} {s s' : BA} {p p' : Int} {b b' : Bool} {v : Value} {out : List S43} {c0 c1 c2 c3 c4 c5 : Value} (h : Rdk w W g gk s p b v out c0 c1 c2 c3 c4 c5) (hi : IsS93 w W' g s' p' b') (hb : Below w.heap.size w W') (hk : KeepBut W W' g none) : Rdk w W' g gk s' p' b' v out c0 c1 c2 c3 c4 c5 := ⟨hi, Kd.R_keep h.nr hk (fun k hk => hk.1), hb, hk.blk h.xk h.ne si_, h.gk0, h.ne⟩
theorem Rdk.keep6 (W : World) (gk : Nat) (u0 u1 u2 u3 u4 u5 : Value) : KeepBut W ((((((W.setCell ⟨gk, 0, none⟩ u0).setCell ⟨gk, 1, none⟩ u1).setCell ⟨gk, 2, none⟩ u2).setCell ⟨gk, 3, none⟩ u3).setCell ⟨gk, 4, none⟩ u4).setCell ⟨gk, 5, none⟩ u5) gk none := ((((((KeepBut.refl W gk none).set_ 0 _).set_ 1 _).set_ 2 _).set_ 3 _).set_ 4 _).set_ 5 _
theorem Rdk.six {w W : World} {g gk : Nat} {s : BA} {p : Int} {b : Bool} {v : Value} {out : List S43} {c0 c1 c2 c3 c4 c5 : Value} (h : Rdk w W g gk s p b v out c0 c1 c2 c3 c4 c5) (u0 u1 u2 u3 u4 u5 : Value) : Rdk w ((((((W.setCell ⟨gk, 0, none⟩ u0).setCell ⟨gk, 1, none⟩ u1).setCell ⟨gk, 2, none⟩ u2).setCell ⟨gk, 3, none⟩ u3).setCell ⟨gk, 4, none⟩ u4).setCell ⟨gk, 5, none⟩ u5) g gk s p b v out u0 u1 u2 u3 u4 u5 :=
 ⟨st_six h.st (Ne.symm h.ne) _ _ _ _ _ _, Kd.R_keep h.nr (Rdk.keep6 W gk u0 u1 u2 u3 u4 u5) (fun k hk => hk.2), below_six h.bl h.gk0 _ _ _ _ _ _, blk_six h.xk _ _ _ _ _ _, h.gk0, h.ne⟩
theorem Rdk.app {w W W' : World} {g gk : Nat} {s : BA} {p : Int} {b : Bool} {v v' : Value} {out : List S43} {c0 c1 c2 c3 c4 c5 : Value} (h : Rdk w W g gk s p b v out c0 c1 c2 c3 c4 c5) {x : S43} (ho : k43.R 43 W' w.heap.size (fun k_ => k_ ≠ g ∧ k_ ≠ gk) v' (out ++ [x])) (hb : Below w.heap.size w W') (hg : W.grownBy W' v.ownBlock) : Rdi w W' g s p b v' (out ++ [x]) := ⟨h.st.grown hg (h.st.own_ne h.nr de_), Kd.R_mono ho (fun k hk => hk.1), hb⟩
def rNext (n : Nat) (s : BA) (p : Int) (b : Bool) : Option (S43 × ByteArray × Int × Bool) := (impl_reader_is.f s p b ⟨#[60, 33, 45, 45]⟩).bind fun z =>
 if z.1 = true then (impl_reader_note.f n z.2.1 z.2.2.1 z.2.2.2).bind fun q => some (⟨q.1, 0, ⟨#[]⟩, [], q.2.1, []⟩, q.2.2.1, q.2.2.2.1, q.2.2.2.2) else impl_reader_element.f n z.2.1 z.2.2.1 z.2.2.2 (-1) 60
def rReadL : Nat → ByteArray → ByteArray → Int → Bool → List S43 → Option (List S43 × ByteArray × Int × Bool)
 | 0, _, _, _, _, _ => none
 | n + 1, a0, s, p, b, out => if b = true then some (out, s, p, true) else (if p < (a0.size : Int) then (if out.length < 1000000000000 then (rNext n s p false).bind fun e => (impl_reader_take.f e.2.1 e.2.2.1 e.2.2.2 ⟨#[10]⟩).bind fun t => rReadL n a0 t.1 t.2.1 t.2.2 (out ++ [e.1]) else none) else some (out, s, p, false))
theorem rReadL_mono : ∀ k y0 y1 y2 y3 y4, LeO (rReadL k y0 y1 y2 y3 y4) (rReadL (k + 1) y0 y1 y2 y3 y4)
 | 0 => fun _ _ _ _ _ r h => by simp [rReadL] at h
 | k + 1 => by
  have ih := rReadL_mono k;intro y0 y1 y2 y3 y4;rw [rReadL, rReadL];exact LeO.ite (LeO.refl _) (LeO.ite (LeO.ite (LeO.bind (LeO.bind (LeO.refl _) fun z => LeO.ite (LeO.bind (impl_reader_note.mono _ _ _ _) fun q => LeO.refl _) (impl_reader_element.mono _ _ _ _ _ _)) fun e => LeO.bind (LeO.refl _) fun t => ih _ _ _ _ _) (LeO.refl _)) (LeO.refl _))
def impl_Read.f (k : Nat) (a0 : BA) : Option (List S43 × Bool) := if (a0.size : Int) > 200000 then some ([], false) else
 (impl_reader_take.f a0 0 false ⟨#[60, 63, 120, 109, 108, 32, 118, 101, 114, 115, 105, 111, 110, 61, 34, 49, 46, 48, 34, 63, 62, 10]⟩).bind fun t => (rReadL k a0 t.1 t.2.1 t.2.2 []).bind fun r => if r.2.2.2 = true then some ([], false) else (impl_DocOk.f k r.1).bind fun d => (if d = true then some (r.1, true) else some ([], false))
theorem impl_Read.mono : ∀ a0 k, LeO (impl_Read.f k a0) (impl_Read.f (k + 1) a0) := fun _ k => LeO.ite (LeO.refl _) (LeO.bind (LeO.refl _) fun t => LeO.bind (rReadL_mono k _ _ _ _ _) fun r => LeO.ite (LeO.refl _) (LeO.bind (impl_DocOk.mono _ _) fun d => LeO.refl _))
theorem impl_Read.calls (k : Nat) (a0 : BA) (r1 : List S43) (r2 : Bool) (w : World) (hL : LibOk w) (hE : LibErr w) (h : impl_Read.f k a0 = some (r1, r2)) :
  Calls Tryz.prog 39 #[.string a0] w fun e w' => ∃ v0_ : Value, e = .returned (.tuple #[v0_, .bool r2]) ∧ Kd.R k43 43 w' w.heap.size (fun _ => True) v0_ r1 ∧ Below w.heap.size w w' := by
 have hu := Tryz.underlying93;have hu2 := Tryz.underlying43;have HLL := A_ hL;have HEE := A_ hE;clear hL hE;unfold impl_Read.f at h;go_enter Tryz.func39, Tryz.ntmps39
 by_cases d1 : (a0.size : Int) > 200000
 ·rw [if_pos d1] at h;simp only [Option.some.injEq, Prod.mk.injEq] at h;obtain ⟨rfl, rfl⟩ := h;go_wp2
  go_ret2
  exact ⟨_, rfl, Kd.R_nil _ _ _ _ _, Below.refl _ _⟩
 ·rw [if_neg d1] at h;obtain ⟨⟨s1, p1, b1⟩, ht1, h⟩ := oB_ h;obtain ⟨⟨rs, s2, p2, b2⟩, hrs, h⟩ := oB_ h;dsimp only at hrs h;have Ht1 := A_ ht1;have Hrs := A_ hrs;have HD := A_ h;clear ht1 hrs h;go_wp2_with (first | ((with_reducible refine gate_dst (N := 4) rfl ?_); refine bE_ #[.string ⟨#[]⟩, .int .i64 0, .bool false] 93 ?_; intro g hg_ w3 hbox hb; have HGG := A_ (show w.heap.size ≤ g by rw [hg_]; exact Nat.le_refl _); have HBX := A_ hb; have HXX := A_ hbox; have he0 := (blk_cell hbox 0).trans rfl; have he1 := (blk_cell hbox 1).trans rfl; have he2 := (blk_cell hbox 2).trans rfl; have hf0 := blk_frozen hbox 0; have hf1 := blk_frozen hbox 1; have hf2 := blk_frozen hbox 2; clear hg_ hbox hb) | (go_at_call 94; have HT0 : As9 (Rdi w (((w3.setCell ⟨g, 0, none⟩ (.string a0)).setCell ⟨g, 1, none⟩ (.int .i64 0)).setCell ⟨g, 2, none⟩ (.bool false)) g a0 0 false (.slice none 0 0) []) := ⟨⟨⟨blk_put (blk_put (blk_put HXX.out 0 _ rfl) 1 _ rfl) 2 _ rfl, HGG.out⟩, Kd.R_nil _ _ _ _ _, below_set (below_set (below_set HBX.out HGG.out) HGG.out) HGG.out⟩⟩; clear HXX HBX he0 he1 he2 hf0 hf1 hf2; (with_reducible refine (impl_reader_take.calls g a0 0 false ⟨#[60, 63, 120, 109, 108, 32, 118, 101, 114, 115, 105, 111, 110, 61, 34, 49, 46, 48, 34, 63, 62, 10]⟩ s1 p1 b1 w _ HT0.out.st HT0.out.bl Ht1.out).mono ?_); rintro e w4 ⟨rfl, hi, hb, hk⟩; have HT := A_ (HT0.out.state hi hb hk); clear hi hb hk HT0))
  go_loopg [5] k (fun kq v5 wr => ∃ (out : List S43) (s : BA) (p : Int) (b : Bool), As9 (rReadL kq a0 s p b out = some (rs, s2, p2, b2)) ∧ As9 (Rdi w wr g s p b v5 out) ∧ As9 (kq ≤ k))
  case atStart => exact ⟨[], s1, p1, b1, Hrs, HT, ⟨Nat.le_refl _⟩⟩
  case round =>
   clear Hrs HT;obtain ⟨out, s, p, b, HA, HT, HN⟩ := hrel;cases gk with
   | zero => exact absurd HA.out (by simp [rReadL])
   | succ n =>
   have H := HA.out;clear HA;simp only [rReadL] at H;obtain ⟨An, cn, rfl⟩ := Kd.R_slice HT.out.nr;have hc0 := cellS93_0 HT.out.st.1;have hc1 := cellS93_1 HT.out.st.1;have hc2 := cellS93_2 HT.out.st.1;cases b with
   | true =>
    rw [if_pos rfl] at H;simp only [Option.some.injEq, Prod.mk.injEq] at H;obtain ⟨rfl, rfl, rfl, rfl⟩ := H;have H := HD.out;rw [if_pos rfl] at H;obtain ⟨rfl, rfl⟩ := pi_ H;go_wp2
    go_ret2
    exact ⟨_, rfl, Kd.R_nil _ _ _ _ _, HT.out.bl⟩
   | false =>
    rw [if_neg si_] at H;by_cases hlt : p < (a0.size : Int)
    case neg =>
     rw [if_neg hlt] at H;have q7 := eq_false hlt;have q8 : decide (p < (a0.size : Int)) = false := dF_ hlt;simp only [Option.some.injEq, Prod.mk.injEq] at H;obtain ⟨rfl, rfl, rfl, rfl⟩ := H;have H := HD.out;rw [if_neg si_] at H;obtain ⟨d, hd, H⟩ := oB_ H;have Hd := A_ hd;clear hd;cases d with
     | true =>
      rw [if_pos rfl] at H;obtain ⟨rfl, rfl⟩ := pi_ H;go_wp2_with ((go_at_call 97; (with_reducible refine (impl_DocOk.calls k An cn out _ _ (Kd.R_reads' HT.out.nr).2.2 (Kd.R_reads' HT.out.nr).2.1 (HLL.out.below HT.out.bl) Hd.out).mono ?_); rintro e w8 ⟨rfl, hb⟩; have HTi := A_ (HT.out.below hb); clear hb HT hc0 hc1 hc2))
      go_ret2
      exact ⟨_, rfl, Kd.R_mono HTi.out.nr (fun _ _ => trivial), HTi.out.bl⟩
     | false =>
      rw [if_neg si_] at H;obtain ⟨rfl, rfl⟩ := pi_ H;go_wp2_with ((go_at_call 97; (with_reducible refine (impl_DocOk.calls k An cn out _ _ (Kd.R_reads' HT.out.nr).2.2 (Kd.R_reads' HT.out.nr).2.1 (HLL.out.below HT.out.bl) Hd.out).mono ?_); rintro e w8 ⟨rfl, hb⟩; have HTi := A_ (HT.out.below hb); clear hb HT hc0 hc1 hc2))
      go_ret2
      exact ⟨_, rfl, Kd.R_nil _ _ _ _ _, HTi.out.bl⟩
    case pos =>
     rw [if_pos hlt] at H;split at H
     case isFalse => cases H
     case isTrue hl =>
     obtain ⟨⟨kd, s9, p9, b9⟩, he, H⟩ := oB_ H;obtain ⟨⟨s10, p10, b10⟩, ht, H⟩ := oB_ H;dsimp only at ht H;have HL := A_ hl;have Ht := A_ ht;have HH := A_ H;clear hl ht H;unfold rNext at he;obtain ⟨⟨z, s3, p3, b3⟩, hz, he⟩ := oB_ he;have Hz := A_ hz;clear hz;cases z with
     | true =>
      rw [if_pos rfl] at he;obtain ⟨⟨q0, qt, s4, p4, b4⟩, hq, he⟩ := oB_ he;simp only [Option.some.injEq, Prod.mk.injEq] at he;obtain ⟨rfl, rfl, rfl, rfl⟩ := he;have Hq := A_ hq;clear hq;go_wp2_with (first | ((with_reducible refine gate_dst (N := 6) rfl ?_); refine bZ_ 43 ?_; intro gk hg_ w5 hbox hb; have HOW := A_ (show ∀ k, (Value.slice An out.length cn).ownBlock = some k → k < gk from fun k hk => by have := Kd.R_lt HT.out.nr k hk; omega); have HK1 := A_ (Rdk.start HT.out hg_ hbox hb); clear hg_ hbox hb HT hc0 hc1 hc2) | (go_at_call 95; (with_reducible refine (impl_reader_is.calls g s p false ⟨#[60, 33, 45, 45]⟩ _ s3 p3 b3 w _ HK1.out.st HK1.out.bl Hz.out).mono ?_); rintro e w6 ⟨rfl, hi, hb, hk⟩; have HK2 := A_ (HK1.out.state hi hb hk); clear hi hb hk HK1) | (go_at_call 96; (with_reducible refine (impl_reader_note.calls n g s3 p3 b3 q0 qt _ _ _ w _ HK2.out.st HK2.out.bl HLL.out Hq.out).mono ?_); rintro e w7 ⟨rfl, hi, hb, hk⟩; have HK3 := A_ (HK2.out.state hi hb hk); clear hi hb hk HK2; obtain ⟨he0, he1, he2, he3, he4, he5, hf0, hf1, hf2, hf3, hf4, hf5⟩ := bk6_ HK3.out.xk) | (go_at_call 94; have HK4 := A_ (HK3.out.six (.int .i64 q0) (.int .i64 0) (.string ⟨#[]⟩) (.slice none 0 0) (.string qt) (.slice none 0 0)); clear he0 hf0 he1 hf1 he2 hf2 he3 hf3 he4 hf4 he5 hf5; (with_reducible refine (impl_reader_take.calls g _ _ _ ⟨#[10]⟩ s10 p10 b10 w _ HK4.out.st HK4.out.bl Ht.out).mono ?_); rintro e w8 ⟨rfl, hi, hb, hk⟩; have HK5 := A_ (HK4.out.state hi hb hk); clear hi hb hk HK3 HK4; obtain ⟨he0, he1, he2, he3, he4, he5, hf0, hf1, hf2, hf3, hf4, hf5⟩ := bk6_ HK5.out.xk) | ((with_reducible refine gate_builtin (b := .append) (xs := #[.tmp 27, .tmp 29]) rfl ?_); at_builtin; go_loud (refine Kd.R_append k43 (w0 := w) w.heap.size rfl (.tmp 27) (.tmp 29) 41 43 (.agg #[.int .i64 0, .int .i64 0, .string ⟨#[]⟩, .slice none 0 0, .string ⟨#[]⟩, .slice none 0 0]) 96 rfl Tryz.underlying41 (by kernel_rfl) rfl de_ om_ (.slice An out.length cn) out (⟨q0, 0, ⟨#[]⟩, [], qt, []⟩ : S43) [.int .i64 q0, .int .i64 0, .string ⟨#[]⟩, .slice none 0 0, .string qt, .slice none 0 0] (fun k_ => k_ ≠ g ∧ k_ ≠ gk) (fun _ => False) rfl ?aX ?aP (fun _ hk => hk.elim) ?aF ?aO ?aB ?aS ?aL ?_); (case aX => first | rfl | (go_simp; done) | (go_simp; rfl) | (simp; done) | (simp; rfl)); (case aP => exact k43_mkM _ _ _ (⟨q0, 0, ⟨#[]⟩, [], qt, []⟩ : S43) (Kd.R_nil _ _ _ _ _) (Kd.R_nil _ _ _ _ _)); (case aF => exact fun k hk => by have := HK5.out.st.lt; have := blk_lt HK5.out.xk; omega); (case aO => exact HK5.out.nr); (case aB => exact HK5.out.bl); (case aS => exact HK5.out.bl.size); (case aL => have := HL.out; omega); intro v5' w9 ho hb hg hat; have HTg := A_ (HK5.out.app ho hb hg); clear ho hb hg hat HK5))
      go_roundg n
      case measure => omega
      case rel => exact ⟨_, _, _, _, HH, HTg, ⟨by have := HN.out; omega⟩⟩
     | false =>
      rw [if_neg si_] at he;have Hkd := A_ he;clear he;go_wp2_with (first | ((with_reducible refine gate_dst (N := 6) rfl ?_); refine bZ_ 43 ?_; intro gk hg_ w5 hbox hb; have HOW := A_ (show ∀ k, (Value.slice An out.length cn).ownBlock = some k → k < gk from fun k hk => by have := Kd.R_lt HT.out.nr k hk; omega); have HK1 := A_ (Rdk.start HT.out hg_ hbox hb); clear hg_ hbox hb HT hc0 hc1 hc2) | (go_at_call 95; (with_reducible refine (impl_reader_is.calls g s p false ⟨#[60, 33, 45, 45]⟩ _ s3 p3 b3 w _ HK1.out.st HK1.out.bl Hz.out).mono ?_); rintro e w6 ⟨rfl, hi, hb, hk⟩; have HK2 := A_ (HK1.out.state hi hb hk); clear hi hb hk HK1) | (go_at_call 86; (with_reducible refine (impl_reader_element.calls n g (-1) 60 s3 p3 b3 kd s9 p9 b9 w _ HK2.out.st HK2.out.bl HLL.out HEE.out Hkd.out).mono ?_); rintro e w7 ⟨cs, rfl, hm, hi, hb, hk⟩; have HM := A_ (k43.M_mono (ok' := fun k_ => (k_ ≠ g ∧ k_ ≠ gk) ∧ some k_ ≠ (Value.slice An out.length cn).ownBlock) (fun k_ hk_ => ⟨⟨by have := HK2.out.st.lt; omega, by have := blk_lt HK2.out.xk; omega⟩, fun e_ => by have := HOW.out k_ e_.symm; have := blk_lt HK2.out.xk; omega⟩) hm); have HK3 := A_ (HK2.out.state hi hb hk); obtain ⟨u3, u5, hcs, g3, g5⟩ := k43_openM hm; obtain rfl : cs = #[.int .i64 kd.f0, .int .i64 kd.f1, .string kd.f2, u3, .string kd.f4, u5] := Array.ext' hcs; obtain ⟨A3', c3', rfl⟩ := Kd.R_slice g3; obtain ⟨A5', c5', rfl⟩ := Kd.R_slice g5; clear hm hcs g3 g5 hi hb hk HK2; obtain ⟨he0, he1, he2, he3, he4, he5, hf0, hf1, hf2, hf3, hf4, hf5⟩ := bk6_ HK3.out.xk) | (go_at_call 94; have HK4 := A_ (HK3.out.six (.int .i64 kd.f0) (.int .i64 kd.f1) (.string kd.f2) (.slice A3' kd.f3.length c3') (.string kd.f4) (.slice A5' kd.f5.length c5')); have HM4 := A_ (Kd.M_keep HM.out (Rdk.keep6 _ gk (.int .i64 kd.f0) (.int .i64 kd.f1) (.string kd.f2) (.slice A3' kd.f3.length c3') (.string kd.f4) (.slice A5' kd.f5.length c5')) (fun k hk => hk.1.2)); clear HM; clear he0 hf0 he1 hf1 he2 hf2 he3 hf3 he4 hf4 he5 hf5; (with_reducible refine (impl_reader_take.calls g _ _ _ ⟨#[10]⟩ s10 p10 b10 w _ HK4.out.st HK4.out.bl Ht.out).mono ?_); rintro e w8 ⟨rfl, hi, hb, hk⟩; have HK5 := A_ (HK4.out.state hi hb hk); have HM5 := A_ (Kd.M_keep HM4.out hk (fun k hk => hk.1.1)); clear HM4; clear hi hb hk HK3 HK4; obtain ⟨he0, he1, he2, he3, he4, he5, hf0, hf1, hf2, hf3, hf4, hf5⟩ := bk6_ HK5.out.xk) | ((with_reducible refine gate_builtin (b := .append) (xs := #[.tmp 27, .tmp 29]) rfl ?_); at_builtin; go_loud (refine Kd.R_append k43 (w0 := w) w.heap.size rfl (.tmp 27) (.tmp 29) 41 43 (.agg #[.int .i64 0, .int .i64 0, .string ⟨#[]⟩, .slice none 0 0, .string ⟨#[]⟩, .slice none 0 0]) 96 rfl Tryz.underlying41 (by kernel_rfl) rfl de_ om_ (.slice An out.length cn) out (kd) [.int .i64 kd.f0, .int .i64 kd.f1, .string kd.f2, .slice A3' kd.f3.length c3', .string kd.f4, .slice A5' kd.f5.length c5'] (fun k_ => k_ ≠ g ∧ k_ ≠ gk) (fun k_ => (k_ ≠ g ∧ k_ ≠ gk) ∧ some k_ ≠ (Value.slice An out.length cn).ownBlock) rfl ?aX ?aP (fun _ hk => hk) ?aF ?aO ?aB ?aS ?aL ?_); (case aX => first | rfl | (go_simp; done) | (go_simp; rfl) | (simp; done) | (simp; rfl)); (case aP => exact HM5.out); (case aF => exact fun k hk => by have := HK5.out.st.lt; have := blk_lt HK5.out.xk; omega); (case aO => exact HK5.out.nr); (case aB => exact HK5.out.bl); (case aS => exact HK5.out.bl.size); (case aL => have := HL.out; omega); intro v5' w9 ho hb hg hat; have HTg := A_ (HK5.out.app ho hb hg); clear ho hb hg hat HK5))
      go_roundg n
      case measure => omega
      case rel => exact ⟨_, _, _, _, HH, HTg, ⟨by have := HN.out; omega⟩⟩
def strings_ReplaceAll.f (a0 : BA) (a1 : BA) (a2 : BA) : Option ByteArray := if a0.size < 4294967281 ∧ 1 ≤ a1.size ∧ a0.size + Lib.countB a0 a1 * a2.size ≤ 140737488355328 then some ⟨(Lib.replaceAll a0.data.toList a1.data.toList a2.data.toList).toArray⟩ else none
theorem strings_ReplaceAll.calls (a0 : BA) (a1 : BA) (a2 : BA) (r : BA) (w : World) (hL : LibOk w) (h : strings_ReplaceAll.f a0 a1 a2 = some r) :
  Calls Tryz.prog 50 #[.string a0, .string a1, .string a2] w fun e w' => e = .returned (.string r) ∧ Below w.heap.size w w' := by
 unfold strings_ReplaceAll.f at h;split at h
 ·next hc =>
  obtain rfl := sI_ h;obtain ⟨m, hm⟩ := hL.maxLen;exact Tryz.strings_ReplaceAll a0 a1 a2 m w hc.1 hm hc.2.1 hc.2.2
 ·cases h
def impl_escaped.f (a0 : BA) : Option (ByteArray) := (strings_ReplaceAll.f a0 (⟨#[38]⟩ : BA) (⟨#[38, 97, 109, 112, 59]⟩ : BA)).bind fun t154 => ((strings_ReplaceAll.f t154 (⟨#[60]⟩ : BA) (⟨#[38, 108, 116, 59]⟩ : BA)).bind fun t155 => ((strings_ReplaceAll.f t155 (⟨#[62]⟩ : BA) (⟨#[38, 103, 116, 59]⟩ : BA)).bind fun t156 => (some t156)))
theorem impl_escaped.calls (a0 : BA) (r : BA) (w : World) (hL : LibOk w) (h : impl_escaped.f a0 = some r) :
  Calls Tryz.prog 101 #[.string a0] w fun e w' => e = .returned (.string r) ∧ Below w.heap.size w w' := by
 have HB := A_ (Below.refl w.heap.size w);have H : ((strings_ReplaceAll.f a0 (⟨#[38]⟩ : BA) (⟨#[38, 97, 109, 112, 59]⟩ : BA)).bind fun t154 => ((strings_ReplaceAll.f t154 (⟨#[60]⟩ : BA) (⟨#[38, 108, 116, 59]⟩ : BA)).bind fun t155 => ((strings_ReplaceAll.f t155 (⟨#[62]⟩ : BA) (⟨#[38, 103, 116, 59]⟩ : BA)).bind fun t156 => (some t156)))) = some r := h;clear h;obtain ⟨t154, A2, H⟩ := ob_ H;obtain ⟨t155, A3, H⟩ := ob_ H;obtain ⟨t156, A4, H⟩ := ob_ H;obtain rfl := sI_ H;go_enter Tryz.func101, Tryz.ntmps101
 go_wp2_with (first | ((with_reducible refine gC_ 50 ?_); refine gL_ 4 Tryz.func50 #[.string a0, .string (⟨#[38]⟩ : BA), .string (⟨#[38, 97, 109, 112, 59]⟩ : BA)] ?_; (with_reducible refine (strings_ReplaceAll.calls a0 (⟨#[38]⟩ : BA) (⟨#[38, 97, 109, 112, 59]⟩ : BA) t154 _ ?side1 A2.out).mono ?_); (case side1 => first | exact hL | exact LibOk.below hL hB_); rintro e w5 ⟨rfl, hb⟩; refine ⟨_, rfl, ?_⟩; replace HB := bS_ hb; clear hb) | ((with_reducible refine gC_ 50 ?_); refine gL_ 6 Tryz.func50 #[.string t154, .string (⟨#[60]⟩ : BA), .string (⟨#[38, 108, 116, 59]⟩ : BA)] ?_; (with_reducible refine (strings_ReplaceAll.calls t154 (⟨#[60]⟩ : BA) (⟨#[38, 108, 116, 59]⟩ : BA) t155 _ ?side1 A3.out).mono ?_); (case side1 => first | exact hL | exact LibOk.below hL hB_); rintro e w6 ⟨rfl, hb⟩; refine ⟨_, rfl, ?_⟩; replace HB := bS_ hb; clear hb) | ((with_reducible refine gC_ 50 ?_); refine gL_ 8 Tryz.func50 #[.string t155, .string (⟨#[62]⟩ : BA), .string (⟨#[38, 103, 116, 59]⟩ : BA)] ?_; (with_reducible refine (strings_ReplaceAll.calls t155 (⟨#[62]⟩ : BA) (⟨#[38, 103, 116, 59]⟩ : BA) t156 _ ?side1 A4.out).mono ?_); (case side1 => first | exact hL | exact LibOk.below hL hB_); rintro e w7 ⟨rfl, hb⟩; refine ⟨_, rfl, ?_⟩; replace HB := bS_ hb; clear hb))
 go_ret
 exact ⟨e1_, hB_⟩
def impl_textSaid.f (a0 : BA) : Option (ByteArray) := (impl_escaped.f a0).bind fun t157 => ((strings_ReplaceAll.f t157 (⟨#[13]⟩ : BA) (⟨#[38, 35, 49, 51, 59]⟩ : BA)).bind fun t158 => (some t158))
theorem impl_textSaid.calls (a0 : BA) (r : BA) (w : World) (hL : LibOk w) (h : impl_textSaid.f a0 = some r) :
  Calls Tryz.prog 49 #[.string a0] w fun e w' => e = .returned (.string r) ∧ Below w.heap.size w w' := by
 have HB := A_ (Below.refl w.heap.size w);have H : ((impl_escaped.f a0).bind fun t157 => ((strings_ReplaceAll.f t157 (⟨#[13]⟩ : BA) (⟨#[38, 35, 49, 51, 59]⟩ : BA)).bind fun t158 => (some t158))) = some r := h;clear h;obtain ⟨t157, A2, H⟩ := ob_ H;obtain ⟨t158, A3, H⟩ := ob_ H;obtain rfl := sI_ H;go_enter Tryz.func49, Tryz.ntmps49
 go_wp2_with (first | ((with_reducible refine gC_ 101 ?_); refine gL_ 4 Tryz.func101 #[.string a0] ?_; (with_reducible refine (impl_escaped.calls a0 t157 _ ?side1 A2.out).mono ?_); (case side1 => first | exact hL | exact LibOk.below hL hB_); rintro e w4 ⟨rfl, hb⟩; refine ⟨_, rfl, ?_⟩; replace HB := bS_ hb; clear hb) | ((with_reducible refine gC_ 50 ?_); refine gL_ 5 Tryz.func50 #[.string t157, .string (⟨#[13]⟩ : BA), .string (⟨#[38, 35, 49, 51, 59]⟩ : BA)] ?_; (with_reducible refine (strings_ReplaceAll.calls t157 (⟨#[13]⟩ : BA) (⟨#[38, 35, 49, 51, 59]⟩ : BA) t158 _ ?side1 A3.out).mono ?_); (case side1 => first | exact hL | exact LibOk.below hL hB_); rintro e w5 ⟨rfl, hb⟩; refine ⟨_, rfl, ?_⟩; replace HB := bS_ hb; clear hb))
 go_ret
 exact ⟨e1_, hB_⟩
def impl_Escape.f (a0 : BA) (a1 : Bool) : Option (ByteArray) := (impl_textSaid.f a0).bind fun t159 => (if a1 = true then ((strings_ReplaceAll.f t159 (⟨#[34]⟩ : BA) (⟨#[38, 113, 117, 111, 116, 59]⟩ : BA)).bind fun t160 => ((strings_ReplaceAll.f t160 (⟨#[9]⟩ : BA) (⟨#[38, 35, 57, 59]⟩ : BA)).bind fun t161 => ((strings_ReplaceAll.f t161 (⟨#[10]⟩ : BA) (⟨#[38, 35, 49, 48, 59]⟩ : BA)).bind fun t162 => (some t162)))) else (some t159))
theorem impl_Escape.calls (a0 : BA) (a1 : Bool) (r : BA) (w : World) (hL : LibOk w) (h : impl_Escape.f a0 a1 = some r) :
  Calls Tryz.prog 10 #[.string a0, .bool a1] w fun e w' => e = .returned (.string r) ∧ Below w.heap.size w w' := by
 have HB := A_ (Below.refl w.heap.size w);have H : ((impl_textSaid.f a0).bind fun t159 => (if a1 = true then ((strings_ReplaceAll.f t159 (⟨#[34]⟩ : BA) (⟨#[38, 113, 117, 111, 116, 59]⟩ : BA)).bind fun t160 => ((strings_ReplaceAll.f t160 (⟨#[9]⟩ : BA) (⟨#[38, 35, 57, 59]⟩ : BA)).bind fun t161 => ((strings_ReplaceAll.f t161 (⟨#[10]⟩ : BA) (⟨#[38, 35, 49, 48, 59]⟩ : BA)).bind fun t162 => (some t162)))) else (some t159))) = some r := h;clear h;obtain ⟨t159, A3, H⟩ := ob_ H;(try dsimp only at H)
 by_cases c4 : a1 = true
 ·subst c4;rw [if_pos rfl] at H;obtain ⟨t160, A5, H⟩ := ob_ H;obtain ⟨t161, A6, H⟩ := ob_ H;obtain ⟨t162, A7, H⟩ := ob_ H;obtain rfl := sI_ H;go_enter Tryz.func10, Tryz.ntmps10
  go_wp2_with (first | ((with_reducible refine gC_ 49 ?_); refine gL_ 6 Tryz.func49 #[.string a0] ?_; (with_reducible refine (impl_textSaid.calls a0 t159 _ ?side1 A3.out).mono ?_); (case side1 => first | exact hL | exact LibOk.below hL hB_); rintro e w8 ⟨rfl, hb⟩; refine ⟨_, rfl, ?_⟩; replace HB := bS_ hb; clear hb) | ((with_reducible refine gC_ 50 ?_); refine gL_ 9 Tryz.func50 #[.string t159, .string (⟨#[34]⟩ : BA), .string (⟨#[38, 113, 117, 111, 116, 59]⟩ : BA)] ?_; (with_reducible refine (strings_ReplaceAll.calls t159 (⟨#[34]⟩ : BA) (⟨#[38, 113, 117, 111, 116, 59]⟩ : BA) t160 _ ?side1 A5.out).mono ?_); (case side1 => first | exact hL | exact LibOk.below hL hB_); rintro e w9 ⟨rfl, hb⟩; refine ⟨_, rfl, ?_⟩; replace HB := bS_ hb; clear hb) | ((with_reducible refine gC_ 50 ?_); refine gL_ 11 Tryz.func50 #[.string t160, .string (⟨#[9]⟩ : BA), .string (⟨#[38, 35, 57, 59]⟩ : BA)] ?_; (with_reducible refine (strings_ReplaceAll.calls t160 (⟨#[9]⟩ : BA) (⟨#[38, 35, 57, 59]⟩ : BA) t161 _ ?side1 A6.out).mono ?_); (case side1 => first | exact hL | exact LibOk.below hL hB_); rintro e w10 ⟨rfl, hb⟩; refine ⟨_, rfl, ?_⟩; replace HB := bS_ hb; clear hb) | ((with_reducible refine gC_ 50 ?_); refine gL_ 13 Tryz.func50 #[.string t161, .string (⟨#[10]⟩ : BA), .string (⟨#[38, 35, 49, 48, 59]⟩ : BA)] ?_; (with_reducible refine (strings_ReplaceAll.calls t161 (⟨#[10]⟩ : BA) (⟨#[38, 35, 49, 48, 59]⟩ : BA) t162 _ ?side1 A7.out).mono ?_); (case side1 => first | exact hL | exact LibOk.below hL hB_); rintro e w11 ⟨rfl, hb⟩; refine ⟨_, rfl, ?_⟩; replace HB := bS_ hb; clear hb))
  go_ret
  exact ⟨e1_, hB_⟩
 ·replace c4 := bF_ c4;subst c4;rw [if_neg nF_] at H;obtain rfl := sI_ H;go_enter Tryz.func10, Tryz.ntmps10
  go_wp2_with (first | ((with_reducible refine gC_ 49 ?_); refine gL_ 6 Tryz.func49 #[.string a0] ?_; (with_reducible refine (impl_textSaid.calls a0 t159 _ ?side1 A3.out).mono ?_); (case side1 => first | exact hL | exact LibOk.below hL hB_); rintro e w12 ⟨rfl, hb⟩; refine ⟨_, rfl, ?_⟩; replace HB := bS_ hb; clear hb))
  go_ret
  exact ⟨e1_, hB_⟩
def wrt (o : List UInt8) (x : BA) : Option (List UInt8) := if o.length + x.size ≤ 140737488355327 then some (o ++ x.data.toList) else none
theorem wrt_some {o o' : List UInt8} {x : BA} (h : wrt o x = some o') : o.length + x.size ≤ 140737488355327 ∧ o' = o ++ x.data.toList := by
 unfold wrt at h;by_cases c : o.length + x.size ≤ 140737488355327
 ·rw [if_pos c] at h; exact ⟨c, (sI_ h).symm⟩
 ·rw [if_neg c] at h; cases h
abbrev attrB (n x : BA) : ByteArray := ((((⟨#[32]⟩ : BA) ++ n) ++ (⟨#[61, 34]⟩ : BA)) ++ x) ++ (⟨#[34]⟩ : BA)
abbrev spaceB (sp : Int) : ByteArray := ((⟨#[32, 120, 109, 108, 110, 115, 61, 34]⟩ : BA) ++ spNF sp) ++ (⟨#[34]⟩ : BA)
abbrev noteB (t : BA) : ByteArray := ((⟨#[60, 33, 45, 45]⟩ : BA) ++ t) ++ (⟨#[45, 45, 62]⟩ : BA)
abbrev closeB (n : BA) : ByteArray := ((⟨#[60, 47]⟩ : BA) ++ n) ++ (⟨#[62]⟩ : BA)
def sayA : List S36 → List UInt8 → Option (List UInt8)
 | [], o => some o
 | a :: r, o => (impl_Escape.f a.f1 true).bind fun x => (wrt o (attrB a.f0 x)).bind fun o1 => sayA r o1
mutual
def sayE : S43 → Int → List UInt8 → Option (List UInt8)
 | ⟨kd, sp, nm, atr, tx, kids⟩, ab, o => if kd = 2 then (impl_Escape.f tx false).bind fun x => wrt o x else if kd = 3 then wrt o (noteB tx) else
  (wrt o ((⟨#[60]⟩ : BA) ++ nm)).bind fun o1 => (if sp = ab then some o1 else wrt o1 (spaceB sp)).bind fun o2 => (sayA atr o2).bind fun o3 =>
   if kids.length = 0 then wrt o3 (⟨#[47, 62]⟩ : BA) else (wrt o3 (⟨#[62]⟩ : BA)).bind fun o4 => (sayK kids sp o4).bind fun o5 => wrt o5 (closeB nm)
def sayK : List S43 → Int → List UInt8 → Option (List UInt8)
 | [], _, o => some o
 | e :: es, ab, o => (sayE e ab o).bind fun o1 => sayK es ab o1
end
def wrF : List S43 → List UInt8 → Option (List UInt8)
 | [], o => some o
 | e :: r, o => (sayE e (-1) o).bind fun o1 => (wrt o1 (⟨#[10]⟩ : BA)).bind fun o2 => wrF r o2
theorem okp_below {b : Nat} {w w' : World} (hb : Below w.heap.size w w') : Okp b w w' := fun k o hk _ _ => (hb.block k (blk_lt hk)).trans hk
theorem set2w {w w9 : World} {g : Nat} (hb : Below w.heap.size w w9) (hg : g = w.heap.size) (v0 v1 : Value) : Below w.heap.size w ((w9.setCell ⟨g, 0, none⟩ v0).setCell ⟨g, 1, none⟩ v1) :=
 below_set (below_set hb (by rw [hg]; exact Nat.le_refl _)) (by rw [hg]; exact Nat.le_refl _)
theorem blk2w {w9 : World} {g t : Nat} {z0 z1 : Value} (h : w9.heap[g]? = some (.cells #[z0, z1] t (0, 0))) (v0 v1 : Value) : ((w9.setCell ⟨g, 0, none⟩ v0).setCell ⟨g, 1, none⟩ v1).heap[g]? = some (.cells #[v0, v1] t (0, 0)) :=
 blk_put (cs := #[v0, z1]) (blk_put (cs := #[z0, z1]) h 0 _ rfl) 1 _ rfl
structure SayW (w0 w wr : World) (b gb : Nat) (cs : Array Value) (out : List UInt8) : Prop where
 bl : Below w0.heap.size w0 wr
 bd : Bld w0.heap.size b (Lib.byteCells out) wr
 ok : Okp b w wr
 bx : wr.heap[gb]? = some (.cells cs 43 (0, 0))
 ne : gb ≠ b
theorem SayW.mk' {w0 w w4 : World} {b gb : Nat} {cs : Array Value} {out : List UInt8} (h : Below w0.heap.size w0 w) (ho : Bld w0.heap.size b (Lib.byteCells out) w) (hg : gb = w.heap.size) (hx : w4.heap[gb]? = some (.cells cs 43 (0, 0))) (hb : Below w.heap.size w w4) : SayW w0 w w4 b gb cs out :=
 ⟨below_step h hb, bld_below ho hb, okp_below hb, hx, by have h_ := ho.elim (fun h => h.lt) (fun h => h.lt); omega⟩
theorem SayW.below {w0 w wr w' : World} {b gb : Nat} {cs : Array Value} {out : List UInt8} (h : SayW w0 w wr b gb cs out) (hb : Below wr.heap.size wr w') : SayW w0 w w' b gb cs out :=
 ⟨below_step h.bl hb, bld_below h.bd hb, h.ok.trans (okp_below hb), blk_below h.bx hb, h.ne⟩
theorem SayW.said {w0 w wr w' : World} {b gb : Nat} {cs : Array Value} {out o' : List UInt8} (h : SayW w0 w wr b gb cs out) (hd : Bld w0.heap.size b (Lib.byteCells o') w') (hb : Below w0.heap.size wr w') (hk : Okp b wr w') : SayW w0 w w' b gb cs o' :=
 ⟨h.bl.trans hb, hd, h.ok.trans hk, hk gb _ h.bx (by intro e_; exact h.ne (sI_ e_)) (by intro c_ f_ e_; injection e_ with _ e2_; exact absurd e2_ de_), h.ne⟩
theorem SayW.said' {w0 w wr w' : World} {b gb : Nat} {cs : Array Value} {out o' : List UInt8} (h : SayW w0 w wr b gb cs out) (hd : Bld w0.heap.size b (Lib.byteCells o') w') (hb : Below w0.heap.size w0 w') (hk : Okp b wr w') : SayW w0 w w' b gb cs o' :=
 ⟨hb, hd, h.ok.trans hk, hk gb _ h.bx (by intro e_; exact h.ne (sI_ e_)) (by intro c_ f_ e_; injection e_ with _ e2_; exact absurd e2_ de_), h.ne⟩
theorem SayW.drew {w0 w wr : World} {b gb : Nat} {cs : Array Value} {out : List UInt8} (h : SayW w0 w wr b gb cs out) : SayW w0 w wr.drew b gb cs out := h.below (bD9 (Below.refl _ _))
theorem say_str {w0 w wr : World} {b gb : Nat} {cs : Array Value} {out o' : List UInt8} {x : BA} (h : SayW w0 w wr b gb cs out) (hw : wrt out x = some o') :
  Calls Tryz.prog 71 #[.pointer (some ⟨b, 0, none⟩), .string x] wr fun e w' => e = .returned (.tuple #[.int .i64 x.size, .nilIface]) ∧ SayW w0 w w' b gb cs o' := by
 obtain ⟨hl, rfl⟩ := wrt_some hw;refine (bld_str w0.heap.size b (Lib.byteCells out) x wr h.bd (by rw [byteCells_len]; omega) h.bl.size).mono ?_;rintro e w' ⟨rfl, hd, hb, hk⟩;exact ⟨rfl, h.said (by rw [byteCells_append, ← strCells_bytes]; exact hd) hb hk⟩
theorem say_byte {w0 w wr : World} {b gb : Nat} {cs : Array Value} {out o' : List UInt8} (h : SayW w0 w wr b gb cs out) (hw : wrt out (⟨#[62]⟩ : BA) = some o') :
  Calls Tryz.prog 145 #[.pointer (some ⟨b, 0, none⟩), .int .u8 62] wr fun e w' => e = .returned .nilIface ∧ SayW w0 w w' b gb cs o' := by
 obtain ⟨hl, rfl⟩ := wrt_some hw;have hl' : out.length + 1 ≤ 140737488355327 := hl;refine (bld_byte w0.heap.size b (Lib.byteCells out) 62 wr h.bd (by rw [byteCells_len]; omega) h.bl.size).mono ?_;rintro e w' ⟨rfl, hd, hb, hk⟩;exact ⟨rfl, h.said (by rw [byteCells_append]; exact hd) hb hk⟩
theorem drop_rdA (l : List S36) (j : Int) (h0 : 0 ≤ j) (h1 : j < (l.length : Int)) : l.drop j.toNat = rd_T36 l j :: l.drop (j + 1).toNat := by
 have hlt : j.toNat < l.length := om_;rw [List.drop_eq_getElem_cons hlt, show (j + 1).toNat = j.toNat + 1 by omega];unfold rd_T36;rw [List.getD_eq_getElem?_getD, List.getElem?_eq_getElem hlt, Option.getD_some]
theorem drop_rdE (l : List S43) (j : Int) (h0 : 0 ≤ j) (h1 : j < (l.length : Int)) : l.drop j.toNat = rd_T43 l j :: l.drop (j + 1).toNat := by
 have hlt : j.toNat < l.length := om_;rw [List.drop_eq_getElem_cons hlt, show (j + 1).toNat = j.toNat + 1 by omega];unfold rd_T43;rw [List.getD_eq_getElem?_getD, List.getElem?_eq_getElem hlt, Option.getD_some]
theorem rdE_size (l : List S43) (j : Int) (h0 : 0 ≤ j) (h1 : j < (l.length : Int)) : SizeOf.sizeOf (rd_T43 l j) < SizeOf.sizeOf l := by
 have hlt : j.toNat < l.length := om_;have : rd_T43 l j = l[j.toNat] := by unfold rd_T43; rw [List.getD_eq_getElem?_getD, List.getElem?_eq_getElem hlt, Option.getD_some]
 rw [this];exact List.sizeOf_lt_of_mem (List.getElem_mem hlt)
theorem set6w {w w9 : World} {g : Nat} (hb : Below w.heap.size w w9) (hg : g = w.heap.size) (v0 v1 v2 v3 v4 v5 : Value) :
  Below w.heap.size w ((((((w9.setCell ⟨g, 0, none⟩ v0).setCell ⟨g, 1, none⟩ v1).setCell ⟨g, 2, none⟩ v2).setCell ⟨g, 3, none⟩ v3).setCell ⟨g, 4, none⟩ v4).setCell ⟨g, 5, none⟩ v5) := by
 have hn : w.heap.size ≤ g := by rw [hg]; exact Nat.le_refl _
 exact below_set (below_set (below_set (below_set (below_set (below_set hb hn) hn) hn) hn) hn) hn
theorem blk6w {w : World} {g : Nat} {t : TypeId} {a0 a1 a2 a3 a4 a5 : Value} (h : w.heap[g]? = some (.cells #[a0, a1, a2, a3, a4, a5] t (0, 0))) (u0 u1 u2 u3 u4 u5 : Value) :
  ((((((w.setCell ⟨g, 0, none⟩ u0).setCell ⟨g, 1, none⟩ u1).setCell ⟨g, 2, none⟩ u2).setCell ⟨g, 3, none⟩ u3).setCell ⟨g, 4, none⟩ u4).setCell ⟨g, 5, none⟩ u5).heap[g]? = some (.cells #[u0, u1, u2, u3, u4, u5] t (0, 0)) :=
 blk_put (blk_put (blk_put (blk_put (blk_put (blk_put h 0 u0 rfl) 1 u1 rfl) 2 u2 rfl) 3 u3 rfl) 4 u4 rfl) 5 u5 rfl
theorem len_app2 (a b : BA) : (a ++ b).size = a.size + b.size := ByteArray.size_append
theorem sayEl_calls : ∀ (n : Nat) (e : S43) (ab : Int) (out o' : List UInt8) (b : Nat) (w0 w : World) (A3 A5 : Option Addr) (c3 c5 : Nat), SizeOf.sizeOf e < n → Kd.C k36 w0 A3 e.f3.length e.f3 → Kd.C k43 w0 A5 e.f5.length e.f5 → LibOk w0 → Below w0.heap.size w0 w →
  Bld w0.heap.size b (Lib.byteCells out) w → sayE e ab out = some o' →
  Calls Tryz.prog 144 #[.pointer (some ⟨b, 0, none⟩), .agg #[.int .i64 e.f0, .int .i64 e.f1, .string e.f2, .slice A3 e.f3.length c3, .string e.f4, .slice A5 e.f5.length c5], .int .i64 ab] w
   fun r w' => r = .returned (.tuple #[]) ∧ Bld w0.heap.size b (Lib.byteCells o') w' ∧ Below w0.heap.size w0 w' ∧ Okp b w w' := by
 intro n;induction n with
 | zero => intro e ab out o' b w0 w A3 A5 c3 c5 hn; omega
 | succ n ih =>
 intro e ab out o' b w0 w A3 A5 c3 c5 hn hr3 hr5 hL hb ho h;obtain ⟨kd, sp, nm, atr, tx, kids⟩ := e;dsimp only at hr3 hr5 ⊢;have hse : SizeOf.sizeOf kids < n := by simp at hn; omega
 have HM := A_ hse;have HR3 := A_ hr3;have HR5 := A_ hr5;have HLL := A_ hL;have HB := A_ hb;have HO := A_ ho;have hu := Tryz.underlying43;have hua := Tryz.underlying36;have HK3 := A_ (Kd.C_max hr3);have HK5 := A_ (Kd.C_max hr5);rw [sayE] at h;clear hn hse hr3 hr5 hL hb ho;go_enter Tryz.func144, Tryz.ntmps144
 by_cases k2 : kd = 2
 ·rw [if_pos k2] at h;have k2b : (kd == 2) = true := bQ_ k2;obtain ⟨x, hx, h⟩ := oB_ h;have HE := A_ hx;have HW := A_ h;clear hx h k2;go_wp2_with (first | ((with_reducible refine gate_dst (N := 4) rfl ?_); refine bE_ #[.int .i64 kd, .int .i64 sp, .string nm, .slice A3 atr.length c3, .string tx, .slice A5 kids.length c5] 43 ?_; intro gb hg w4 hbox hb; have HS := A_ (SayW.mk' HB.out HO.out hg hbox hb); clear hg hbox hb; obtain ⟨hz0, hz1, hz2, hz3, hz4, hz5⟩ := bc6_ HS.out.bx) | (go_at_call 10; (with_reducible refine (impl_Escape.calls tx false x _ (HLL.out.below HS.out.bl) HE.out).mono ?_); rintro e w5 ⟨rfl, hb⟩; have HS5 := A_ (HS.out.below hb); clear hb HS hz0 hz1 hz2 hz3 hz4 hz5) | (go_at_call 71; (with_reducible refine (say_str HS5.out HW.out).mono ?_); rintro e w6 ⟨rfl, hs⟩; have HS6 := A_ hs; clear hs))
  ((try simp only [Exit.inBlock, Exit.then]); refine bodyPost_ret (results_none rfl _ _ _) rfl ?_)
  exact ⟨rfl, HS6.out.bd, HS6.out.bl, HS6.out.ok⟩
 rw [if_neg k2] at h;have k2b : (kd == 2) = false := bN_ k2;by_cases k3 : kd = 3
 ·rw [if_pos k3] at h;have k3b : (kd == 3) = true := bQ_ k3;have HW := A_ h;have hz_ := (wrt_some h).1;rw [noteB, len_app2, len_app2] at hz_;have q1 : (9223372036854775807 < 4 + tx.size) = False := eq_false (by have : (⟨#[60, 33, 45, 45]⟩ : BA).size = 4 := rfl; omega);have q2 : (9223372036854775807 < 4 + tx.size + 3) = False := eq_false (by have : (⟨#[60, 33, 45, 45]⟩ : BA).size = 4 := rfl; have : (⟨#[45, 45, 62]⟩ : BA).size = 3 := rfl; omega);clear h k2 k3 hz_;go_wp2_with (first | ((with_reducible refine gate_dst (N := 4) rfl ?_); refine bE_ #[.int .i64 kd, .int .i64 sp, .string nm, .slice A3 atr.length c3, .string tx, .slice A5 kids.length c5] 43 ?_; intro gb hg w4 hbox hb; have HS := A_ (SayW.mk' HB.out HO.out hg hbox hb); clear hg hbox hb; obtain ⟨hz0, hz1, hz2, hz3, hz4, hz5⟩ := bc6_ HS.out.bx) | (go_at_call 71; (with_reducible refine (say_str HS.out HW.out).mono ?_); rintro e w6 ⟨rfl, hs⟩; have HS6 := A_ hs; clear hs))
  ((try simp only [Exit.inBlock, Exit.then]); refine bodyPost_ret (results_none rfl _ _ _) rfl ?_)
  exact ⟨rfl, HS6.out.bd, HS6.out.bl, HS6.out.ok⟩
 rw [if_neg k3] at h;have k3b : (kd == 3) = false := bN_ k3;clear k2 k3;obtain ⟨o1, h1, h⟩ := oB_ h;obtain ⟨o2, h2, h⟩ := oB_ h;obtain ⟨o3, h3, h⟩ := oB_ h;have q0 : (9223372036854775807 < 1 + nm.size) = False := eq_false (by have h_ := (wrt_some h1).1; rw [len_app2] at h_; have : (⟨#[60]⟩ : BA).size = 1 := rfl; omega);have HW1 := A_ h1;have HW2 := A_ h2;have HW3 := A_ h3;have HW4 := A_ h;clear h1 h2 h3 h;go_upto_if 35 with (first | ((with_reducible refine gate_dst (N := 4) rfl ?_); refine bE_ #[.int .i64 kd, .int .i64 sp, .string nm, .slice A3 atr.length c3, .string tx, .slice A5 kids.length c5] 43 ?_; intro gb hg w4 hbox hb; have HS := A_ (SayW.mk' HB.out HO.out hg hbox hb); clear hg hbox hb; obtain ⟨hz0, hz1, hz2, hz3, hz4, hz5⟩ := bc6_ HS.out.bx) | (go_at_call 71; (with_reducible refine (say_str HS.out HW1.out).mono ?_); rintro e w5 ⟨rfl, hs⟩; have HS1 := A_ hs; clear hs HS hz0 hz1 hz2 hz3 hz4 hz5; obtain ⟨hz0, hz1, hz2, hz3, hz4, hz5⟩ := bc6_ HS1.out.bx))
 go_cut [] (fun wc => As9 (SayW w0 w wc b gb #[.int .i64 kd, .int .i64 sp, .string nm, .slice A3 atr.length c3, .string tx, .slice A5 kids.length c5] o2))
 case first =>
  by_cases hs : sp = ab
  ·have hsb : (sp == ab) = true := bQ_ hs;have hsc : (sp != ab) = false := nQ_ hs;have h2 := HW2.out;rw [if_pos hs] at h2;obtain rfl := sI_ h2;clear h2 hs;go_wp2
   go_meet
   case rel => exact HS1
  ·have hsb : (sp == ab) = false := bN_ hs;have hsc : (sp != ab) = true := nN_ hs;have h2 := HW2.out;rw [if_neg hs] at h2;have hz_ := (wrt_some h2).1;rw [spaceB, len_app2, len_app2] at hz_;have q1 : (9223372036854775807 < 8 + (spNF sp).size) = False := eq_false (by have : (⟨#[32, 120, 109, 108, 110, 115, 61, 34]⟩ : BA).size = 8 := rfl; omega);have q2 : (9223372036854775807 < 8 + (spNF sp).size + 1) = False := eq_false (by have : (⟨#[32, 120, 109, 108, 110, 115, 61, 34]⟩ : BA).size = 8 := rfl; have : (⟨#[34]⟩ : BA).size = 1 := rfl; omega);have HW5 := A_ h2;clear h2 hs hz_;go_wp2_with (first | (go_at_call 13; (with_reducible refine (impl_SpaceName.calls sp (spNF sp) _ rfl).mono ?_); rintro e w6 ⟨rfl, hd⟩; have HS2 := A_ (HS1.out.below hd.below); clear hd HS1 hz0 hz1 hz2 hz3 hz4 hz5) | (go_at_call 71; (with_reducible refine (say_str HS2.out HW5.out).mono ?_); rintro e w7 ⟨rfl, hs⟩; have HS3 := A_ hs; clear hs))
   go_meet
   case rel => exact HS3
 case rest =>
  clear HS1 HW1 HW2 q0 hz0 hz1 hz2 hz3 hz4 hz5;have HS1 := hcut;obtain ⟨hz0, hz1, hz2, hz3, hz4, hz5⟩ := bc6_ HS1.out.bx;go_wp2
  go_loopg [46] atr.length (fun kq v46 wr => ∃ (j : Int) (oj : List UInt8), v46 = .int .i64 j ∧ 0 ≤ j ∧ j ≤ (atr.length : Int) ∧ As9 (kq = atr.length - j.toNat) ∧ As9 (sayA (atr.drop j.toNat) oj = some o3) ∧ As9 (SayW w0 w wr b gb #[.int .i64 kd, .int .i64 sp, .string nm, .slice A3 atr.length c3, .string tx, .slice A5 kids.length c5] oj))
  case atStart => exact ⟨0, o2, rfl, Int.le_refl _, om_, ⟨rfl⟩, HW3, HS1⟩
  case round =>
   clear HW3 HS1 hz0 hz1 hz2 hz3 hz4 hz5;obtain ⟨j, oj, rfl, j0, hj, HEQ, HA, HS⟩ := hrel;by_cases hlt : j < (atr.length : Int)
   ·have h := HA.out;rw [drop_rdA atr j j0 hlt, sayA] at h;obtain ⟨x, hx, h⟩ := oB_ h;obtain ⟨o4, h4, h⟩ := oB_ h;obtain ⟨ad, eA, x0, x1⟩ := at_T36 HR3.out j j0 hlt;subst eA;replace x0 := (HS.out.bl.cell (World.block_lt_of_cell? w0 _ x0)).trans x0;replace x1 := (HS.out.bl.cell (World.block_lt_of_cell? w0 _ x1)).trans x1;have hz_ := (wrt_some h4).1;rw [attrB, len_app2, len_app2, len_app2, len_app2] at hz_;generalize rd_T36 atr j = it at hx h4 x0 x1 hz_;have l1 : (⟨#[32]⟩ : BA).size = 1 := rfl;have l2 : (⟨#[61, 34]⟩ : BA).size = 2 := rfl;have l3 : (⟨#[34]⟩ : BA).size = 1 := rfl;have q1 : (9223372036854775807 < 1 + it.f0.size) = False := eq_false om_;have q2 : (9223372036854775807 < 1 + it.f0.size + 2) = False := eq_false om_;have q3 : (9223372036854775807 < 1 + it.f0.size + 2 + x.size) = False := eq_false om_;have q4 : (9223372036854775807 < 1 + it.f0.size + 2 + x.size + 1) = False := eq_false om_;have HX := A_ hx;have H4 := A_ h4;have HN := A_ h;have hwr : wrap64 (j + 1) = j + 1 := by have := HK3.out; unfold wrap64; omega
    have p7 := eq_true j0;have q7 := eq_true hlt;clear hx h4 h hz_ l1 l2 l3 HA;go_wp2_with (((with_reducible refine gate_dst (N := 7) rfl ?_); refine bE_ #[.string (⟨#[]⟩ : BA), .string (⟨#[]⟩ : BA)] 36 ?_; intro gx hg w6 hbox hb; have HGA := A_ hg; have HBA := A_ hb; have HXA := A_ hbox; clear hg hb hbox; obtain ⟨ha0, ha1, fa0, fa1⟩ := bk2_ HXA.out))
    have HS7 := A_ (SayW.drew (SayW.below HS.out (set2w HBA.out HGA.out (.string it.f0) (.string it.f1))));have HY7 := A_ (blk_drew (blk2w HXA.out (.string it.f0) (.string it.f1)));clear HS HBA HGA HXA ha0 ha1 fa0 fa1;refine start_ (n := 11) (S := fun w' => w'.cell? ⟨gx, 0, none⟩ = some (.string it.f0) ∧ w'.cell? ⟨gx, 1, none⟩ = some (.string it.f1)) (ds := [10]) (tS 11 0) (by kernel_rfl) rfl rfl ⟨(blk_cell HY7.out 0).trans rfl, (blk_cell HY7.out 1).trans rfl⟩ (fun hHeld => ?_);generalize World.drew _ = wq0 at HS7 HY7 hHeld ⊢;refine pq_ ?_;refine pq_ ?_;refine tq_ rfl (by rintro w' ⟨s0, s1⟩; go_simp; with_reducible rfl) ?_;iterate 3 refine pq_ ?_
    refine tq_ rfl (by rintro w' ⟨s0, s1⟩; go_simp; with_reducible rfl) ?_;refine n1_ 7 (tS 11 8) rfl fun K hK => ?_
    refine gS_ Tryz.func10 #[.string it.f1, .bool true] ?_;with_reducible refine (impl_Escape.calls it.f1 true x _ (HLL.out.below HS7.out.bl) HX.out).mono ?_
    rintro e wq7 ⟨rfl, hb⟩;refine ⟨_, rfl, ?_⟩;have HS8 := A_ (HS7.out.below hb);have HY8 := A_ (blk_below (g := gx) HY7.out hb);clear HS7 HY7 hb;refine hK.out _ _ ⟨(blk_cell HY8.out 0).trans rfl, (blk_cell HY8.out 1).trans rfl⟩ (fun hHeld => ?_);clear hK K;refine nm_ ?_;refine pq_ ?_;refine pq_ ?_;refine last_ (i := 10) (N := some 60) (tS 11 11) rfl rfl (by kernel_rfl) de_ (fun K hK => ?_);refine gS_ Tryz.func71 #[.pointer (some ⟨b, 0, none⟩), .string (((((⟨#[32]⟩ : BA) ++ it.f0) ++ (⟨#[61, 34]⟩ : BA)) ++ x) ++ (⟨#[34]⟩ : BA))] ?_;with_reducible refine (say_str HS8.out H4.out).mono ?_
    rintro e wq10 ⟨rfl, hs⟩;refine ⟨_, rfl, ?_⟩;have HS9 := A_ hs;clear hs HS8 HY8;refine hK.out _ _ ?_;clear hK K;refine nm_ ?_;refine done_ (by kernel_rfl) ?_;go_wp2
    go_roundg (atr.length - (j + 1).toNat)
    case measure => have := HEQ.out; omega
    case rel => exact ⟨j + 1, o4, by rw [hwr], om_, om_, ⟨rfl⟩, HN, HS9⟩
   ·have h := HA.out;rw [List.drop_eq_nil_of_le om_, sayA] at h;obtain rfl := sI_ h;clear h HA HEQ;obtain ⟨hz0, hz1, hz2, hz3, hz4, hz5⟩ := bc6_ HS.out.bx;by_cases hk : kids.length = 0
    ·have h4 := HW4.out;rw [if_pos hk] at h4;have HW5 := A_ h4;have hkb : ((kids.length : Int) == 0) = true := bQ_ om_;clear h4 HW4;go_wp2_with (first | (go_at_call 71; (with_reducible refine (say_str HS.out HW5.out).mono ?_); rintro e w6 ⟨rfl, hs⟩; have HS6 := A_ hs; clear hs))
     ((try simp only [Exit.inBlock, Exit.then]); refine bodyPost_ret (results_none rfl _ _ _) rfl ?_)
     exact ⟨rfl, HS6.out.bd, HS6.out.bl, HS6.out.ok⟩
    ·have h4 := HW4.out;rw [if_neg hk] at h4;obtain ⟨o4, h4, h⟩ := oB_ h4;obtain ⟨o5, h5, h⟩ := oB_ h;have HW5 := A_ h4;have HW6 := A_ h5;have HW7 := A_ h;have hkb : ((kids.length : Int) == 0) = false := bN_ om_;have hz_ := (wrt_some h).1;rw [closeB, len_app2, len_app2] at hz_;have q1 : (9223372036854775807 < 2 + nm.size) = False := eq_false (by have : (⟨#[60, 47]⟩ : BA).size = 2 := rfl; omega);have q2 : (9223372036854775807 < 2 + nm.size + 1) = False := eq_false (by have : (⟨#[60, 47]⟩ : BA).size = 2 := rfl; have : (⟨#[62]⟩ : BA).size = 1 := rfl; omega);clear h4 h5 h HW4 hz_;go_wp2_with (first | (go_at_call 145; (with_reducible refine (say_byte HS.out HW5.out).mono ?_); rintro e w6 ⟨rfl, hs⟩; have HS6 := A_ hs; clear hs HS hz0 hz1 hz2 hz3 hz4 hz5; obtain ⟨hz0, hz1, hz2, hz3, hz4, hz5⟩ := bc6_ HS6.out.bx))
     go_loopg [73] kids.length (fun kq v73 wr => ∃ (j : Int) (oj : List UInt8), v73 = .int .i64 j ∧ 0 ≤ j ∧ j ≤ (kids.length : Int) ∧ As9 (kq = kids.length - j.toNat) ∧ As9 (sayK (kids.drop j.toNat) sp oj = some o5) ∧ As9 (SayW w0 w wr b gb #[.int .i64 kd, .int .i64 sp, .string nm, .slice A3 atr.length c3, .string tx, .slice A5 kids.length c5] oj))
     case atStart => exact ⟨0, o4, rfl, Int.le_refl _, om_, ⟨rfl⟩, HW6, HS6⟩
     case round =>
      clear HW6 HS6 hz0 hz1 hz2 hz3 hz4 hz5;obtain ⟨j, oj, rfl, j0, hj, HEQ, HA, HS⟩ := hrel;by_cases hlt : j < (kids.length : Int)
      ·have h := HA.out;rw [drop_rdE kids j j0 hlt, sayK] at h;obtain ⟨o6, h6, h⟩ := oB_ h;have HSZ := A_ (Nat.lt_trans (rdE_size kids j j0 hlt) HM.out);obtain ⟨ad, A3', c3', A5', c5', eA, x0, x1, x2, x3, x4, x5, l3, g3, l5, g5⟩ := at_T43 HR5.out j j0 hlt;subst eA;replace x0 := (HS.out.bl.cell (World.block_lt_of_cell? w0 _ x0)).trans x0;replace x1 := (HS.out.bl.cell (World.block_lt_of_cell? w0 _ x1)).trans x1;replace x2 := (HS.out.bl.cell (World.block_lt_of_cell? w0 _ x2)).trans x2;replace x3 := (HS.out.bl.cell (World.block_lt_of_cell? w0 _ x3)).trans x3;replace x4 := (HS.out.bl.cell (World.block_lt_of_cell? w0 _ x4)).trans x4;replace x5 := (HS.out.bl.cell (World.block_lt_of_cell? w0 _ x5)).trans x5;have HG3 := A_ g3;have HG5 := A_ g5;have H6 := A_ h6;have HN := A_ h;have hwr : wrap64 (j + 1) = j + 1 := by have := HK5.out; unfold wrap64; omega
       have p7 := eq_true j0;have q7 := eq_true hlt;clear h6 h l3 g3 l5 g5 HA;go_upto_region 20 with (((with_reducible refine gate_dst (N := 9) rfl ?_); refine bE_ #[.int .i64 0, .int .i64 0, .string (⟨#[]⟩ : BA), .slice none 0 0, .string (⟨#[]⟩ : BA), .slice none 0 0] 43 ?_; intro gx hg w6 hbox hb; have HGA := A_ hg; have HBA := A_ hb; have HXA := A_ hbox; clear hg hb hbox; obtain ⟨ha0, ha1, ha2, ha3, ha4, ha5, fa0, fa1, fa2, fa3, fa4, fa5⟩ := bk6_ HXA.out))
       have HS7 := A_ (SayW.below HS.out (set6w HBA.out HGA.out (.int .i64 (rd_T43 kids j).f0) (.int .i64 (rd_T43 kids j).f1) (.string (rd_T43 kids j).f2) (.slice A3' (rd_T43 kids j).f3.length c3') (.string (rd_T43 kids j).f4) (.slice A5' (rd_T43 kids j).f5.length c5')));have HY7 := A_ (blk6w HXA.out (.int .i64 (rd_T43 kids j).f0) (.int .i64 (rd_T43 kids j).f1) (.string (rd_T43 kids j).f2) (.slice A3' (rd_T43 kids j).f3.length c3') (.string (rd_T43 kids j).f4) (.slice A5' (rd_T43 kids j).f5.length c5'));generalize World.setCell _ _ _ = w7 at HS7 HY7 ⊢;clear HS HBA HGA HXA ha0 ha1 ha2 ha3 ha4 ha5 fa0 fa1 fa2 fa3 fa4 fa5 x0 x1 x2 x3 x4 x5;have hz1 := (blk_cell HS7.out.bx 1).trans rfl;obtain ⟨hy0, hy1, hy2, hy3, hy4, hy5⟩ := bc6_ HY7.out;go_wp2_with (go_at_call 144; (with_reducible refine (ih (rd_T43 kids j) sp oj o6 b w0 _ A3' A5' c3' c5' HSZ.out HG3.out HG5.out HLL.out HS7.out.bl HS7.out.bd H6.out).mono ?_); rintro e w8 ⟨rfl, hd, hb, hk⟩; have HS8 := A_ (HS7.out.said' hd hb hk); clear hd hb hk HS7 HY7 hz1 hy0 hy1 hy2 hy3 hy4 hy5)
       go_roundg (kids.length - (j + 1).toNat)
       case measure => have := HEQ.out; omega
       case rel => exact ⟨j + 1, o6, by rw [hwr], om_, om_, ⟨rfl⟩, HN, HS8⟩
      ·have h := HA.out;rw [List.drop_eq_nil_of_le om_, sayK] at h;obtain rfl := sI_ h;clear h HA HEQ;obtain ⟨hz0, hz1, hz2, hz3, hz4, hz5⟩ := bc6_ HS.out.bx;go_wp2_with (first | (go_at_call 71; (with_reducible refine (say_str HS.out HW7.out).mono ?_); rintro e w6 ⟨rfl, hs⟩; have HS6 := A_ hs; clear hs))
       go_end0
       exact ⟨rfl, HS6.out.bd, HS6.out.bl, HS6.out.ok⟩
abbrev headB : ByteArray := ⟨#[60, 63, 120, 109, 108, 32, 118, 101, 114, 115, 105, 111, 110, 61, 34, 49, 46, 48, 34, 63, 62, 10]⟩
def impl_Write.f (k : Nat) (l0 : List S43) : Option ByteArray := (impl_DocOk.f k l0).bind fun t => if t = true then (wrF l0 headB.data.toList).bind fun o => some ⟨o.toArray⟩ else some ⟨#[]⟩
theorem impl_Write.mono : ∀ a0 k, LeO (impl_Write.f k a0) (impl_Write.f (k + 1) a0) := fun a0 k => LeO.bind (impl_DocOk.mono a0 k) (fun _ => LeO.refl _)
theorem impl_Write.calls (k : Nat) (A0 : Option Addr) (c0 : Nat) (l0 : List S43) (r : BA) (w : World) (hr0 : Kd.C k43 w A0 l0.length l0) (hc0 : l0.length ≤ c0) (hL : LibOk w) (h : impl_Write.f k l0 = some r) :
  Calls Tryz.prog 100 #[.slice A0 l0.length c0] w fun e w' => e = .returned (.string r) ∧ Below w.heap.size w w' := by
 unfold impl_Write.f at h;obtain ⟨ok, hT, h⟩ := oB_ h;have HT := A_ hT;have HR := A_ hr0;have HC := A_ hc0;have HLL := A_ hL;have hub := Tryz.underlying79;have hu := Tryz.underlying43;clear hT hr0 hc0 hL;cases ok with
 | false =>
  rw [if_neg si_] at h;obtain rfl := sI_ h;clear h;go_enter Tryz.func100, Tryz.ntmps100
  go_wp2_with (first | (go_at_call 97; (with_reducible refine (impl_DocOk.calls k _ _ l0 false _ HR.out HC.out HLL.out HT.out).mono ?_); rintro e w2 ⟨rfl, hb⟩; have HB := A_ hb; clear hb))
  go_ret
  exact ⟨rfl, HB.out⟩
 | true =>
  rw [if_pos rfl] at h;obtain ⟨o', hW, h⟩ := oB_ h;obtain rfl := sI_ h;have HW := A_ hW;clear h hW;go_enter Tryz.func100, Tryz.ntmps100
  go_wp2_with (first | (go_at_call 97; (with_reducible refine (impl_DocOk.calls k _ _ l0 true _ HR.out HC.out HLL.out HT.out).mono ?_); rintro e w3 ⟨rfl, hb⟩; have HB3 := A_ hb; clear hb) | (go_at_call 71; (with_reducible refine (bld_str w3.heap.size w3.heap.size [] headB _ (bld_new w3) de_ (bA9 (Below.refl _ w3) _).size).mono ?_); rintro e w4 ⟨rfl, ho, hb, hk⟩; have HN := A_ ho; have HB := A_ ((bA9 (Below.refl _ w3) _).trans hb); clear ho hb hk))
  have HR3 := A_ (Kd.C_below HR.out HB3.out);have HL3 := A_ (HLL.out.below HB3.out);go_loopg [12] l0.length (fun kq v12 wr => ∃ (j : Int) (oj : List UInt8), v12 = .int .i64 j ∧ 0 ≤ j ∧ j ≤ (l0.length : Int) ∧ As9 (kq = l0.length - j.toNat) ∧ As9 (wrF (l0.drop j.toNat) oj = some o') ∧ As9 (Bld w3.heap.size w3.heap.size (Lib.byteCells oj) wr) ∧ As9 (Below w3.heap.size w3 wr))
  case atStart => exact ⟨0, headB.data.toList, rfl, Int.le_refl _, om_, ⟨rfl⟩, HW, ⟨by rw [← strCells_bytes]; exact HN.out⟩, HB⟩
  case round =>
   clear HW HN HB;obtain ⟨j, oj, rfl, j0, hj, HEQ, HA, HN, HB⟩ := hrel;by_cases hlt : j < (l0.length : Int)
   ·have h := HA.out;rw [drop_rdE l0 j j0 hlt, wrF] at h;obtain ⟨o6, h6, h⟩ := oB_ h;obtain ⟨o7, h7, h⟩ := oB_ h;obtain ⟨hl, rfl⟩ := wrt_some h7;have hl' : o6.length + 1 ≤ 140737488355327 := hl;obtain ⟨ad, A3', c3', A5', c5', eA, x0, x1, x2, x3, x4, x5, l3, g3, l5, g5⟩ := at_T43 HR3.out j j0 hlt;subst eA;replace x0 := (HB.out.cell (World.block_lt_of_cell? w3 _ x0)).trans x0;replace x1 := (HB.out.cell (World.block_lt_of_cell? w3 _ x1)).trans x1;replace x2 := (HB.out.cell (World.block_lt_of_cell? w3 _ x2)).trans x2;replace x3 := (HB.out.cell (World.block_lt_of_cell? w3 _ x3)).trans x3;replace x4 := (HB.out.cell (World.block_lt_of_cell? w3 _ x4)).trans x4;replace x5 := (HB.out.cell (World.block_lt_of_cell? w3 _ x5)).trans x5;have HG3 := A_ g3;have HG5 := A_ g5;have H6 := A_ h6;have HN2 := A_ h;have HLN := A_ hl';have hwr : wrap64 (j + 1) = j + 1 := by have := Kd.C_max HR.out; unfold wrap64; omega
    have p7 := eq_true j0;have q7 := eq_true hlt;clear h6 h h7 hl hl' l3 g3 l5 g5 HA;go_wp2_with (first | ((with_reducible refine gate_dst (N := 5) rfl ?_); refine bE_ #[.int .i64 0, .int .i64 0, .string (⟨#[]⟩ : BA), .slice none 0 0, .string (⟨#[]⟩ : BA), .slice none 0 0] 43 ?_; intro gb hg w6 hbox hb; have HG := A_ hg; have HBX := A_ hb; have HXA := A_ hbox; clear hg hb hbox; obtain ⟨hy0, hy1, hy2, hy3, hy4, hy5, hf0, hf1, hf2, hf3, hf4, hf5⟩ := bk6_ HXA.out) | (go_at_call 144; (with_reducible refine (sayEl_calls (SizeOf.sizeOf (rd_T43 l0 j) + 1) (rd_T43 l0 j) (-1) oj o6 w3.heap.size w3 _ A3' A5' c3' c5' (Nat.lt_succ_self _) HG3.out HG5.out HL3.out (below_step HB.out (set6w HBX.out HG.out _ _ _ _ _ _)) (bld_below HN.out (set6w HBX.out HG.out _ _ _ _ _ _)) H6.out).mono ?_); rintro e w7 ⟨rfl, ho, hb, hk⟩; have HN7 := A_ ho; have HB7 := A_ hb; clear ho hb hk) | (go_at_call 145; (with_reducible refine (bld_byte w3.heap.size w3.heap.size (Lib.byteCells o6) 10 _ HN7.out (by rw [byteCells_len]; have := HLN.out; omega) HB7.out.size).mono ?_); rintro e w8 ⟨rfl, ho, hb, hk⟩; have HN8 := A_ ho; have HB8 := A_ (HB7.out.trans hb); clear ho hb hk))
    go_roundg (l0.length - (j + 1).toNat)
    case measure => have := HEQ.out; omega
    case rel => exact ⟨j + 1, _, by rw [hwr], om_, om_, ⟨rfl⟩, HN2, ⟨by rw [byteCells_append]; exact HN8.out⟩, HB8⟩
   ·have h := HA.out;rw [List.drop_eq_nil_of_le om_, wrF] at h;obtain rfl := sI_ h;clear h HA HEQ;go_wp2_with (first | (go_at_call 73; (with_reducible refine (bld_string w3.heap.size w3.heap.size oj _ HN.out HB.out.size).mono ?_); rintro e w5 ⟨rfl, hb, hk⟩; have HB5 := A_ (below_step HB3.out (HB.out.trans hb)); clear hb hk))
    go_ret
    exact ⟨rfl, HB5.out⟩
def impl_Again.f (k : Nat) (a0 : BA) : Option (ByteArray × Bool) := (impl_Read.f k a0).bind fun bt723 => (if bt723.2 = true then ((impl_Write.f k bt723.1).bind fun t727 => (some (t727, true))) else (some ((⟨#[]⟩ : BA), false)))
theorem impl_Again.mono : ∀ a0 k, LeO (impl_Again.f k a0) (impl_Again.f (k + 1) a0) := by
 intro a0 k;unfold impl_Again.f;with_reducible repeat' first | exact impl_Read.mono _ _ | exact impl_Write.mono _ _ | apply LeO.refl | apply LeO.none | apply LeO.ite | apply LeO.bind | intro
theorem impl_Again.calls (k : Nat) (a0 : BA) (r1 : BA) (r2 : Bool) (w : World) (hL : LibOk w) (hE : LibErr w) (h : impl_Again.f k a0 = some (r1, r2)) :
  Calls Tryz.prog 44 #[.string a0] w fun e w' => e = .returned (.tuple #[.string r1, .bool r2]) ∧ Below w.heap.size w w' := by
 have HB := A_ (Below.refl w.heap.size w);have H : ((impl_Read.f k a0).bind fun bt723 => (if bt723.2 = true then ((impl_Write.f k bt723.1).bind fun t727 => (some (t727, true))) else (some ((⟨#[]⟩ : BA), false)))) = some (r1, r2) := h;clear h;obtain ⟨⟨t723, t724⟩, A2, H⟩ := ob_ H;(try dsimp only at H)
 by_cases c3 : t724 = true
 ·subst c3;rw [if_pos rfl] at H;obtain ⟨t727, A4, H⟩ := ob_ H;(try dsimp only at H)
  obtain ⟨rfl, rfl⟩ := pi_ H;go_enter Tryz.func44, Tryz.ntmps44
  go_wp2_with (first | ((with_reducible refine gC_ 39 ?_); refine gL_ 8 Tryz.func39 #[.string a0] ?_; (with_reducible refine (impl_Read.calls k a0 t723 true _ ?side1 ?side2 A2.out).mono ?_); (case side1 => first | exact hL | exact LibOk.below hL hB_); (case side2 => first | exact hE | exact LibErr.below hE hB_); rintro e w5 ⟨v725, rfl, ho0, hb⟩; refine ⟨_, rfl, ?_⟩; have HO726 := A_ (Kd.R_lower ho0 (below_size hB_)); replace HB := bS_ hb; clear hb; (try clear ho0); obtain ⟨Ao6, co6, eo6⟩ := Kd.R_slice HO726.out; subst eo6) | ((with_reducible refine gC_ 100 ?_); refine gL_ 14 Tryz.func100 #[.slice Ao6 t723.length co6] ?_; (with_reducible refine (impl_Write.calls k _ _ t723 t727 _ ?side1 ?side2 ?side3 A4.out).mono ?_); (case side1 => repeat (first | exact (Kd.R_reads' HO726.out).2.2 | (with_reducible refine Kd.C_alloc ?_ _) | (with_reducible refine Kd.C_drewN ?_ _) | (with_reducible refine Kd.C_drew ?_))); (case side2 => exact (Kd.R_reads' HO726.out).2.1); (case side3 => first | exact hL | exact LibOk.below hL hB_); rintro e w7 ⟨rfl, hb⟩; refine ⟨_, rfl, ?_⟩; replace HO726 := A_ (Kd.R_below (kQ_ HO726.out) hb); replace HB := bS_ hb; clear hb))
  go_ret2
  exact ⟨e1_, hB_⟩
 ·replace c3 := bF_ c3;subst c3;rw [if_neg nF_] at H;obtain ⟨rfl, rfl⟩ := pi_ H;go_enter Tryz.func44, Tryz.ntmps44
  go_wp2_with (first | ((with_reducible refine gC_ 39 ?_); refine gL_ 8 Tryz.func39 #[.string a0] ?_; (with_reducible refine (impl_Read.calls k a0 t723 false _ ?side1 ?side2 A2.out).mono ?_); (case side1 => first | exact hL | exact LibOk.below hL hB_); (case side2 => first | exact hE | exact LibErr.below hE hB_); rintro e w8 ⟨v725, rfl, ho0, hb⟩; refine ⟨_, rfl, ?_⟩; have HO726 := A_ (Kd.R_lower ho0 (below_size hB_)); replace HB := bS_ hb; clear hb; (try clear ho0)))
  go_ret2
  exact ⟨e1_, hB_⟩
def laws_FnExactAgain.f (k : Nat) (a0 : BA) : Option (Bool) := if (a0.size : Int) > 1048576 then (some true) else ((spec_Again.f k a0).bind fun bt728 => ((impl_Again.f k a0).bind fun bt730 => (if bt730.1.toList = bt728.1.toList then (if (bt730.2 != bt728.2) = true then (some false) else (some true)) else (some false))))
theorem laws_FnExactAgain.mono : ∀ a0 k, LeO (laws_FnExactAgain.f k a0) (laws_FnExactAgain.f (k + 1) a0) := by
 intro a0 k;unfold laws_FnExactAgain.f;with_reducible repeat' first | exact impl_Again.mono _ _ | exact spec_Again.mono _ _ | apply LeO.refl | apply LeO.none | apply LeO.ite | apply LeO.bind | intro
theorem laws_FnExactAgain.calls (k : Nat) (a0 : BA) (r : Bool) (w : World) (hL : LibOk w) (hE : LibErr w) (h : laws_FnExactAgain.f k a0 = some r) :
  Calls Tryz.prog 7 #[.string a0] w fun e w' => e = .returned (.bool r) ∧ Below w.heap.size w w' := by
 have HB := A_ (Below.refl w.heap.size w);have H : (if (a0.size : Int) > 1048576 then (some true) else ((spec_Again.f k a0).bind fun bt728 => ((impl_Again.f k a0).bind fun bt730 => (if bt730.1.toList = bt728.1.toList then (if (bt730.2 != bt728.2) = true then (some false) else (some true)) else (some false))))) = some r := h;clear h;rcases ic_ H with ⟨c2, H⟩ | ⟨c2, H⟩
 ·have c2b0 : decide (1048576 < (a0.size : Int)) = true := dE_ c2;have c2b1 : decide (1048576 < a0.size) = true := dE_ om_;clear c2;obtain rfl := sI_ H;go_enter Tryz.func7, Tryz.ntmps7
  go_wp2
  go_ret
  exact ⟨e1_, hB_⟩
 ·have c2b0 : decide (1048576 < (a0.size : Int)) = false := dF_ c2;have c2b1 : decide (1048576 < a0.size) = false := dF_ om_;clear c2;obtain ⟨⟨t728, t729⟩, A3, H⟩ := ob_ H;(try dsimp only at H)
  obtain ⟨⟨t730, t731⟩, A4, H⟩ := ob_ H;(try dsimp only at H)
  rcases ic_ H with ⟨c5, H⟩ | ⟨c5, H⟩
  ·obtain ⟨c5b0, c5b1⟩ := be_ c5;clear c5;rcases ic_ H with ⟨c6, H⟩ | ⟨c6, H⟩
   ·have c6b0 : (t731 != t729) = true := c6;(try (have c6b1 : decide (t731 = t729) = false := by simpa using c6))
    (try (have c6b2 : (t731 == t729) = false := by simpa using c6))
    (try (have c6b3 : ¬ (t731 = t729) := by simpa using c6))
    clear c6;obtain rfl := sI_ H;go_enter Tryz.func7, Tryz.ntmps7
    go_wp2_with (first | ((with_reducible refine gC_ 43 ?_); refine gL_ 12 Tryz.func43 #[.string a0] ?_; refine bm_ (spec_Again.calls k a0 t728 t729 _ A3.out) ?_; clear HB; intro w7 HB) | ((with_reducible refine gC_ 44 ?_); refine gL_ 17 Tryz.func44 #[.string a0] ?_; (with_reducible refine (impl_Again.calls k a0 t730 t731 _ ?side1 ?side2 A4.out).mono ?_); (case side1 => first | exact hL | exact LibOk.below hL hB_); (case side2 => first | exact hE | exact LibErr.below hE hB_); rintro e w8 ⟨rfl, hb⟩; refine ⟨_, rfl, ?_⟩; replace HB := bS_ hb; clear hb))
    go_ret
    exact ⟨e1_, hB_⟩
   ·have c6b0 : (t731 != t729) = false := by simpa using c6
    (try (have c6b1 : decide (t731 = t729) = true := by simpa using c6))
    (try (have c6b2 : (t731 == t729) = true := by simpa using c6))
    clear c6;obtain rfl := sI_ H;go_enter Tryz.func7, Tryz.ntmps7
    go_wp2_with (first | ((with_reducible refine gC_ 43 ?_); refine gL_ 12 Tryz.func43 #[.string a0] ?_; refine bm_ (spec_Again.calls k a0 t728 t729 _ A3.out) ?_; clear HB; intro w9 HB) | ((with_reducible refine gC_ 44 ?_); refine gL_ 17 Tryz.func44 #[.string a0] ?_; (with_reducible refine (impl_Again.calls k a0 t730 t731 _ ?side1 ?side2 A4.out).mono ?_); (case side1 => first | exact hL | exact LibOk.below hL hB_); (case side2 => first | exact hE | exact LibErr.below hE hB_); rintro e w10 ⟨rfl, hb⟩; refine ⟨_, rfl, ?_⟩; replace HB := bS_ hb; clear hb))
    go_ret
    exact ⟨e1_, hB_⟩
  ·obtain ⟨c5b0, c5b1⟩ := bn_ c5;obtain rfl := sI_ H;go_enter Tryz.func7, Tryz.ntmps7
   go_wp2_with (first | ((with_reducible refine gC_ 43 ?_); refine gL_ 12 Tryz.func43 #[.string a0] ?_; refine bm_ (spec_Again.calls k a0 t728 t729 _ A3.out) ?_; clear HB; intro w11 HB) | ((with_reducible refine gC_ 44 ?_); refine gL_ 17 Tryz.func44 #[.string a0] ?_; (with_reducible refine (impl_Again.calls k a0 t730 t731 _ ?side1 ?side2 A4.out).mono ?_); (case side1 => first | exact hL | exact LibOk.below hL hB_); (case side2 => first | exact hE | exact LibErr.below hE hB_); rintro e w12 ⟨rfl, hb⟩; refine ⟨_, rfl, ?_⟩; replace HB := bS_ hb; clear hb))
   go_ret
   exact ⟨e1_, hB_⟩
def laws_FnExactAgain.Pure : Prop := ∀ (a0 : BA), a0.size ≤ 140737488351232 → ∃ k, laws_FnExactAgain.f k a0 = some true
theorem laws_FnExactAgain.walk (P : laws_FnExactAgain.Pure) (a0 : BA) (w : World) (w0 : a0.size ≤ 140737488351232) (hL : LibOk w) (hE : LibErr w) :
  Calls Tryz.prog 7 #[.string a0] w fun e w' => e = .returned (.bool true) ∧ Below w.heap.size w w' := by
 obtain ⟨k, h⟩ := P a0 w0;refine (laws_FnExactAgain.calls k a0 true w hL hE h).mono ?_;rintro e w' ⟨rfl, hd⟩;exact ⟨rfl, hd⟩
theorem eqA36 (d : Nat) (w : World) (x0 y0 : BA) (x1 y1 : BA) :
  (Op.equalIn (d + 2) 36 (.agg #[.string x0, .string x1]) (.agg #[.string y0, .string y1])).run Tryz.prog w = .ok (x0.toList == y0.toList && (x1.toList == y1.toList)) w := by
 refine eqA_of Tryz.underlying36 (by kernel_rfl) ?_;refine eqf_cons (by rfl) (by go_simp; rfl) (by go_simp; rfl) (by go_simp) ?_;exact eqf_last (by rfl) (by go_simp; rfl) (by go_simp; rfl) (by go_simp)
attribute [local go_sem high] eqA36
end Go.Proofs.YtkmmoheeoblmnaaGreatDoor.A
