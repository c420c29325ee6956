-- joined by wip/tools/shake.py
import Derived.Test.YtkmmoheeoblmnaaGreatDoorVWeTAux
import Derived.Test.YtkmmoheeoblmnaaGreatDoorMWeT0
import Derived.Test.YtkmmoheeoblmnaaGreatDoorMWeT2
import Derived.Test.YtkmmoheeoblmnaaGreatDoorMWeT4
import Derived.Test.YtkmmoheeoblmnaaGreatDoorMWeT3
import Derived.Test.YtkmmoheeoblmnaaGreatDoorMWeT5
import Derived.Test.YtkmmoheeoblmnaaGreatDoorMWeT1
namespace Go.Proofs.YtkmmoheeoblmnaaGreatDoor.A
open Go.RowKit Go.Proofs.YtkmmoheeoblmnaaGreatDoorW.PrintWords Go.Proofs.YtkmmoheeoblmnaaGreatDoorW.PrintLast Go.Proofs.YtkmmoheeoblmnaaGreatDoorW.PrintMore
attribute [local go_sem] max2_int min2_int max_two min_two max_three min_three max_four min_four
set_option linter.unusedVariables false
set_option linter.unusedSimpArgs false
set_option maxHeartbeats 8000000
set_option maxRecDepth 100000
structure Rdi (w W : World) (g : Nat) (s : ByteArray) (p : Int) (b : Bool) (v : Value) (out : List S43) : Prop where
 st : IsS93 w W g s p b
 nr : k43.R 43 W w.heap.size (fun k_ => k_ ≠ g) v out
 bl : Below w.heap.size w W
theorem Rdi.state {w W W' : World} {g : Nat} {s s' : ByteArray} {p p' : Int} {b b' : Bool} {v : Value} {out : List S43} (h : Rdi w W g s p b v out) (hi : IsS93 w W' g s' p' b') (hb : Below w.heap.size w W') (hk : KeepBut W W' g none) : Rdi w W' g s' p' b' v out := ⟨hi, Kd.R_keep h.nr hk (fun k hk => hk), hb⟩
theorem Rdi.below {w W W' : World} {g : Nat} {s : ByteArray} {p : Int} {b : Bool} {v : Value} {out : List S43} (h : Rdi w W g s p b v out) (hb : Below W.heap.size W W') : Rdi w W' g s p b v out := h.state (h.st.below hb) (below_step h.bl hb) (KeepBut.of_below hb g none)
theorem Rdi.ok_ {w W : World} {g : Nat} {s : ByteArray} {p : Int} {b : Bool} {v : Value} {out : List S43} (h : Rdi w W g s p b v out) (x : Bool) : Rdi w (W.setCell ⟨g, 2, none⟩ (.bool x)) g s p x v out := h.state (h.st.set_2 x) (below_set h.bl h.st.2) ((KeepBut.refl W g none).set_ 2 _)
theorem Rdi.at_ {w W : World} {g : Nat} {s : ByteArray} {p : Int} {b : Bool} {v : Value} {out : List S43} (h : Rdi w W g s p b v out) (x : Int) : Rdi w (W.setCell ⟨g, 1, none⟩ (.int .i64 x)) g s x b v out := h.state (h.st.set_1 x) (below_set h.bl h.st.2) ((KeepBut.refl W g none).set_ 1 _)
theorem Rdi.app {w W W' : World} {g : Nat} {s : ByteArray} {p : Int} {b : Bool} {v v' : Value} {out : List S43} (h : Rdi w W g s p b v out) {x : S43} (ho : k43.R 43 W' w.heap.size (fun k_ => k_ ≠ g) v' (out ++ [x])) (hb : Below w.heap.size w W') (hg : W.grownBy W' v.ownBlock) : Rdi w W' g s p b v' (out ++ [x]) := ⟨h.st.grown hg (h.st.own_ne h.nr (by decide)), ho, hb⟩
structure Rdk (w W : World) (g gk : Nat) (s : ByteArray) (p : Int) (b : Bool) (v : Value) (out : List S43) (c0 c1 c2 c3 c4 c5 : Value) : Prop where
 st : IsS93 w W g s p b
 nr : k43.R 43 W w.heap.size (fun k_ => k_ ≠ g ∧ k_ ≠ gk) v out
 bl : Below w.heap.size w W
 xk : W.heap[gk]? = some (.cells #[c0, c1, c2, c3, c4, c5] 43 (0, 0))
 gk0 : w.heap.size ≤ gk
 ne : gk ≠ g
theorem Rdk.start {w W W2 : World} {g gk : Nat} {s : ByteArray} {p : Int} {b : Bool} {v : Value} {out : List S43} {c0 c1 c2 c3 c4 c5 : Value} (h : Rdi w W g s p b v out) (hgk : gk = W.heap.size) (hbox : W2.heap[gk]? = some (.cells #[c0, c1, c2, c3, c4, c5] 43 (0, 0))) (hb : Below W.heap.size W W2) : Rdk w W2 g gk s p b v out c0 c1 c2 c3 c4 c5 :=
 ⟨h.st.below hb, Kd.R_mono (Kd.R_below (Kd.R_bound h.nr) hb) (fun k hk => ⟨hk.1, by have := hk.2.2.1; omega⟩), below_step h.bl hb, hbox, by rw [hgk]; exact h.bl.size, by have := h.st.lt; omega⟩
theorem Rdk.state {w W W' : World} {g gk : Nat} {s s' : ByteArray} {p p' : Int} {b b' : Bool} {v : Value} {out : List S43} {c0 c1 c2 c3 c4 c5 : Value} (h : Rdk w W g gk s p b v out c0 c1 c2 c3 c4 c5) (hi : IsS93 w W' g s' p' b') (hb : Below w.heap.size w W') (hk : KeepBut W W' g none) : Rdk w W' g gk s' p' b' v out c0 c1 c2 c3 c4 c5 := ⟨hi, Kd.R_keep h.nr hk (fun k hk => hk.1), hb, hk.blk h.xk h.ne (by simp), h.gk0, h.ne⟩
theorem Rdk.keep6 (W : World) (gk : Nat) (u0 u1 u2 u3 u4 u5 : Value) : KeepBut W ((((((W.setCell ⟨gk, 0, none⟩ u0).setCell ⟨gk, 1, none⟩ u1).setCell ⟨gk, 2, none⟩ u2).setCell ⟨gk, 3, none⟩ u3).setCell ⟨gk, 4, none⟩ u4).setCell ⟨gk, 5, none⟩ u5) gk none := ((((((KeepBut.refl W gk none).set_ 0 _).set_ 1 _).set_ 2 _).set_ 3 _).set_ 4 _).set_ 5 _
theorem Rdk.six {w W : World} {g gk : Nat} {s : ByteArray} {p : Int} {b : Bool} {v : Value} {out : List S43} {c0 c1 c2 c3 c4 c5 : Value} (h : Rdk w W g gk s p b v out c0 c1 c2 c3 c4 c5) (u0 u1 u2 u3 u4 u5 : Value) : Rdk w ((((((W.setCell ⟨gk, 0, none⟩ u0).setCell ⟨gk, 1, none⟩ u1).setCell ⟨gk, 2, none⟩ u2).setCell ⟨gk, 3, none⟩ u3).setCell ⟨gk, 4, none⟩ u4).setCell ⟨gk, 5, none⟩ u5) g gk s p b v out u0 u1 u2 u3 u4 u5 :=
 ⟨st_six h.st (Ne.symm h.ne) _ _ _ _ _ _, Kd.R_keep h.nr (Rdk.keep6 W gk u0 u1 u2 u3 u4 u5) (fun k hk => hk.2), below_six h.bl h.gk0 _ _ _ _ _ _, blk_six h.xk _ _ _ _ _ _, h.gk0, h.ne⟩
theorem Rdk.app {w W W' : World} {g gk : Nat} {s : ByteArray} {p : Int} {b : Bool} {v v' : Value} {out : List S43} {c0 c1 c2 c3 c4 c5 : Value} (h : Rdk w W g gk s p b v out c0 c1 c2 c3 c4 c5) {x : S43} (ho : k43.R 43 W' w.heap.size (fun k_ => k_ ≠ g ∧ k_ ≠ gk) v' (out ++ [x])) (hb : Below w.heap.size w W') (hg : W.grownBy W' v.ownBlock) : Rdi w W' g s p b v' (out ++ [x]) := ⟨h.st.grown hg (h.st.own_ne h.nr (by decide)), Kd.R_mono ho (fun k hk => hk.1), hb⟩
def rNext (n : Nat) (s : ByteArray) (p : Int) (b : Bool) : Option (S43 × ByteArray × Int × Bool) := (impl_reader_is.f s p b ⟨#[60, 33, 45, 45]⟩).bind fun z =>
 if z.1 = true then (impl_reader_note.f n z.2.1 z.2.2.1 z.2.2.2).bind fun q => some (⟨q.1, 0, ⟨#[]⟩, [], q.2.1, []⟩, q.2.2.1, q.2.2.2.1, q.2.2.2.2) else impl_reader_element.f n z.2.1 z.2.2.1 z.2.2.2 (-1) 60
def rReadL : Nat → ByteArray → ByteArray → Int → Bool → List S43 → Option (List S43 × ByteArray × Int × Bool)
 | 0, _, _, _, _, _ => none
 | n + 1, a0, s, p, b, out => if b = true then some (out, s, p, true) else (if p < (a0.size : Int) then (if out.length < 1000000000000 then (rNext n s p false).bind fun e => (impl_reader_take.f e.2.1 e.2.2.1 e.2.2.2 ⟨#[10]⟩).bind fun t => rReadL n a0 t.1 t.2.1 t.2.2 (out ++ [e.1]) else none) else some (out, s, p, false))
theorem rReadL_mono : ∀ k y0 y1 y2 y3 y4, LeO (rReadL k y0 y1 y2 y3 y4) (rReadL (k + 1) y0 y1 y2 y3 y4)
 | 0 => fun _ _ _ _ _ r h => by simp [rReadL] at h
 | k + 1 => by
  have ih := rReadL_mono k
  intro y0 y1 y2 y3 y4
  rw [rReadL, rReadL]
  exact LeO.ite (LeO.refl _) (LeO.ite (LeO.ite (LeO.bind (LeO.bind (LeO.refl _) fun z => LeO.ite (LeO.bind (impl_reader_note.mono _ _ _ _) fun q => LeO.refl _) (impl_reader_element.mono _ _ _ _ _ _)) fun e => LeO.bind (LeO.refl _) fun t => ih _ _ _ _ _) (LeO.refl _)) (LeO.refl _))
def impl_Read.f (k : Nat) (a0 : ByteArray) : Option (List S43 × Bool) := if (a0.size : Int) > 200000 then some ([], false) else
 (impl_reader_take.f a0 0 false ⟨#[60, 63, 120, 109, 108, 32, 118, 101, 114, 115, 105, 111, 110, 61, 34, 49, 46, 48, 34, 63, 62, 10]⟩).bind fun t => (rReadL k a0 t.1 t.2.1 t.2.2 []).bind fun r => if r.2.2.2 = true then some ([], false) else (impl_DocOk.f k r.1).bind fun d => (if d = true then some (r.1, true) else some ([], false))
theorem impl_Read.mono : ∀ a0 k, LeO (impl_Read.f k a0) (impl_Read.f (k + 1) a0) := fun _ k => LeO.ite (LeO.refl _) (LeO.bind (LeO.refl _) fun t => LeO.bind (rReadL_mono k _ _ _ _ _) fun r => LeO.ite (LeO.refl _) (LeO.bind (impl_DocOk.mono _ _) fun d => LeO.refl _))
theorem impl_Read.calls (k : Nat) (a0 : ByteArray) (r1 : List S43) (r2 : Bool) (w : World) (hL : LibOk w) (hE : LibErr w) (h : impl_Read.f k a0 = some (r1, r2)) :
  Calls Tryz.prog 39 #[.string a0] w fun e w' => ∃ v0_ : Value, e = .returned (.tuple #[v0_, .bool r2]) ∧ Kd.R k43 43 w' w.heap.size (fun _ => True) v0_ r1 ∧ Below w.heap.size w w' := by
 have hu := Tryz.underlying93
 have hu2 := Tryz.underlying43
 have HLL := As9.mk hL
 have HEE := As9.mk hE
 clear hL hE
 unfold impl_Read.f at h
 go_enter Tryz.func39, Tryz.ntmps39
 by_cases d1 : (a0.size : Int) > 200000
 ·rw [if_pos d1] at h
  simp only [Option.some.injEq, Prod.mk.injEq] at h
  obtain ⟨rfl, rfl⟩ := h
  go_wp2
  go_ret2
  exact ⟨_, rfl, Kd.R_nil _ _ _ _ _, Below.refl _ _⟩
 ·rw [if_neg d1] at h
  obtain ⟨⟨s1, p1, b1⟩, ht1, h⟩ := Option.bind_eq_some_iff.mp h
  obtain ⟨⟨rs, s2, p2, b2⟩, hrs, h⟩ := Option.bind_eq_some_iff.mp h
  dsimp only at hrs h
  have Ht1 := As9.mk ht1
  have Hrs := As9.mk hrs
  have HD := As9.mk h
  clear ht1 hrs h
  go_wp2_with (first | ((with_reducible refine gate_dst (N := 4) rfl ?_); refine bE_ #[.string ⟨#[]⟩, .int .i64 0, .bool false] 93 ?_; intro g hg_ w3 hbox hb; have HGG := As9.mk (show w.heap.size ≤ g by rw [hg_]; exact Nat.le_refl _); have HBX := As9.mk hb; have HXX := As9.mk hbox; have he0 := (blk_cell hbox 0).trans rfl; have he1 := (blk_cell hbox 1).trans rfl; have he2 := (blk_cell hbox 2).trans rfl; have hf0 := blk_frozen hbox 0; have hf1 := blk_frozen hbox 1; have hf2 := blk_frozen hbox 2; clear hg_ hbox hb) | (go_at_call 94; have HT0 : As9 (Rdi w (((w3.setCell ⟨g, 0, none⟩ (.string a0)).setCell ⟨g, 1, none⟩ (.int .i64 0)).setCell ⟨g, 2, none⟩ (.bool false)) g a0 0 false (.slice none 0 0) []) := ⟨⟨⟨blk_put (blk_put (blk_put HXX.out 0 _ rfl) 1 _ rfl) 2 _ rfl, HGG.out⟩, Kd.R_nil _ _ _ _ _, below_set (below_set (below_set HBX.out HGG.out) HGG.out) HGG.out⟩⟩; clear HXX HBX he0 he1 he2 hf0 hf1 hf2; (with_reducible refine (impl_reader_take.calls g a0 0 false ⟨#[60, 63, 120, 109, 108, 32, 118, 101, 114, 115, 105, 111, 110, 61, 34, 49, 46, 48, 34, 63, 62, 10]⟩ s1 p1 b1 w _ HT0.out.st HT0.out.bl Ht1.out).mono ?_); rintro e w4 ⟨rfl, hi, hb, hk⟩; have HT := As9.mk (HT0.out.state hi hb hk); clear hi hb hk HT0))
  go_loopg [5] k (fun kq v5 wr => ∃ (out : List S43) (s : ByteArray) (p : Int) (b : Bool), As9 (rReadL kq a0 s p b out = some (rs, s2, p2, b2)) ∧ As9 (Rdi w wr g s p b v5 out) ∧ As9 (kq ≤ k))
  case atStart => exact ⟨[], s1, p1, b1, Hrs, HT, ⟨Nat.le_refl _⟩⟩
  case round =>
   clear Hrs HT
   obtain ⟨out, s, p, b, HA, HT, HN⟩ := hrel
   cases gk with
   | zero => exact absurd HA.out (by simp [rReadL])
   | succ n =>
   have H := HA.out
   clear HA
   simp only [rReadL] at H
   obtain ⟨An, cn, rfl⟩ := Kd.R_slice HT.out.nr
   have hc0 := cellS93_0 HT.out.st.1
   have hc1 := cellS93_1 HT.out.st.1
   have hc2 := cellS93_2 HT.out.st.1
   cases b with
   | true =>
    rw [if_pos rfl] at H
    simp only [Option.some.injEq, Prod.mk.injEq] at H
    obtain ⟨rfl, rfl, rfl, rfl⟩ := H
    have H := HD.out
    rw [if_pos rfl] at H
    obtain ⟨rfl, rfl⟩ := pi_ H
    go_wp2
    go_ret2
    exact ⟨_, rfl, Kd.R_nil _ _ _ _ _, HT.out.bl⟩
   | false =>
    rw [if_neg (by simp)] at H
    by_cases hlt : p < (a0.size : Int)
    case neg =>
     rw [if_neg hlt] at H
     have q7 := eq_false hlt
     have q8 : decide (p < (a0.size : Int)) = false := decide_eq_false hlt
     simp only [Option.some.injEq, Prod.mk.injEq] at H
     obtain ⟨rfl, rfl, rfl, rfl⟩ := H
     have H := HD.out
     rw [if_neg (by simp)] at H
     obtain ⟨d, hd, H⟩ := Option.bind_eq_some_iff.mp H
     have Hd := As9.mk hd
     clear hd
     cases d with
     | true =>
      rw [if_pos rfl] at H
      obtain ⟨rfl, rfl⟩ := pi_ H
      go_wp2_with ((go_at_call 97; (with_reducible refine (impl_DocOk.calls k An cn out _ _ (Kd.R_reads' HT.out.nr).2.2 (Kd.R_reads' HT.out.nr).2.1 (HLL.out.below HT.out.bl) Hd.out).mono ?_); rintro e w8 ⟨rfl, hb⟩; have HTi := As9.mk (HT.out.below hb); clear hb HT hc0 hc1 hc2))
      go_ret2
      exact ⟨_, rfl, Kd.R_mono HTi.out.nr (fun _ _ => trivial), HTi.out.bl⟩
     | false =>
      rw [if_neg (by simp)] at H
      obtain ⟨rfl, rfl⟩ := pi_ H
      go_wp2_with ((go_at_call 97; (with_reducible refine (impl_DocOk.calls k An cn out _ _ (Kd.R_reads' HT.out.nr).2.2 (Kd.R_reads' HT.out.nr).2.1 (HLL.out.below HT.out.bl) Hd.out).mono ?_); rintro e w8 ⟨rfl, hb⟩; have HTi := As9.mk (HT.out.below hb); clear hb HT hc0 hc1 hc2))
      go_ret2
      exact ⟨_, rfl, Kd.R_nil _ _ _ _ _, HTi.out.bl⟩
    case pos =>
     rw [if_pos hlt] at H
     split at H
     case isFalse => cases H
     case isTrue hl =>
     obtain ⟨⟨kd, s9, p9, b9⟩, he, H⟩ := Option.bind_eq_some_iff.mp H
     obtain ⟨⟨s10, p10, b10⟩, ht, H⟩ := Option.bind_eq_some_iff.mp H
     dsimp only at ht H
     have HL := As9.mk hl
     have Ht := As9.mk ht
     have HH := As9.mk H
     clear hl ht H
     unfold rNext at he
     obtain ⟨⟨z, s3, p3, b3⟩, hz, he⟩ := Option.bind_eq_some_iff.mp he
     have Hz := As9.mk hz
     clear hz
     cases z with
     | true =>
      rw [if_pos rfl] at he
      obtain ⟨⟨q0, qt, s4, p4, b4⟩, hq, he⟩ := Option.bind_eq_some_iff.mp he
      simp only [Option.some.injEq, Prod.mk.injEq] at he
      obtain ⟨rfl, rfl, rfl, rfl⟩ := he
      have Hq := As9.mk hq
      clear hq
      go_wp2_with (first | ((with_reducible refine gate_dst (N := 6) rfl ?_); refine bE_ #[.int .i64 0, .int .i64 0, .string ⟨#[]⟩, .slice none 0 0, .string ⟨#[]⟩, .slice none 0 0] 43 ?_; intro gk hg_ w5 hbox hb; have HOW := As9.mk (show ∀ k, (Value.slice An out.length cn).ownBlock = some k → k < gk from fun k hk => by have := Kd.R_lt HT.out.nr k hk; omega); have HK1 := As9.mk (Rdk.start HT.out hg_ hbox hb); clear hg_ hbox hb HT hc0 hc1 hc2) | (go_at_call 95; (with_reducible refine (impl_reader_is.calls g s p false ⟨#[60, 33, 45, 45]⟩ _ s3 p3 b3 w _ HK1.out.st HK1.out.bl Hz.out).mono ?_); rintro e w6 ⟨rfl, hi, hb, hk⟩; have HK2 := As9.mk (HK1.out.state hi hb hk); clear hi hb hk HK1) | (go_at_call 96; (with_reducible refine (impl_reader_note.calls n g s3 p3 b3 q0 qt _ _ _ w _ HK2.out.st HK2.out.bl HLL.out Hq.out).mono ?_); rintro e w7 ⟨rfl, hi, hb, hk⟩; have HK3 := As9.mk (HK2.out.state hi hb hk); clear hi hb hk HK2; obtain ⟨he0, he1, he2, he3, he4, he5, hf0, hf1, hf2, hf3, hf4, hf5⟩ := bk6_ HK3.out.xk) | (go_at_call 94; have HK4 := As9.mk (HK3.out.six (.int .i64 q0) (.int .i64 0) (.string ⟨#[]⟩) (.slice none 0 0) (.string qt) (.slice none 0 0)); clear he0 hf0 he1 hf1 he2 hf2 he3 hf3 he4 hf4 he5 hf5; (with_reducible refine (impl_reader_take.calls g _ _ _ ⟨#[10]⟩ s10 p10 b10 w _ HK4.out.st HK4.out.bl Ht.out).mono ?_); rintro e w8 ⟨rfl, hi, hb, hk⟩; have HK5 := As9.mk (HK4.out.state hi hb hk); clear hi hb hk HK3 HK4; obtain ⟨he0, he1, he2, he3, he4, he5, hf0, hf1, hf2, hf3, hf4, hf5⟩ := bk6_ HK5.out.xk) | ((with_reducible refine gate_builtin (b := .append) (xs := #[.tmp 27, .tmp 29]) rfl ?_); at_builtin; go_loud (refine Kd.R_append k43 (w0 := w) w.heap.size rfl (.tmp 27) (.tmp 29) 41 43 (.agg #[.int .i64 0, .int .i64 0, .string ⟨#[]⟩, .slice none 0 0, .string ⟨#[]⟩, .slice none 0 0]) 96 rfl Tryz.underlying41 (by kernel_rfl) rfl (by decide) (by omega) (.slice An out.length cn) out (⟨q0, 0, ⟨#[]⟩, [], qt, []⟩ : S43) [.int .i64 q0, .int .i64 0, .string ⟨#[]⟩, .slice none 0 0, .string qt, .slice none 0 0] (fun k_ => k_ ≠ g ∧ k_ ≠ gk) (fun _ => False) rfl ?aX ?aP (fun _ hk => hk.elim) ?aF ?aO ?aB ?aS ?aL ?_); (case aX => first | rfl | (go_simp; done) | (go_simp; rfl) | (simp; done) | (simp; rfl)); (case aP => exact k43_mkM _ _ _ (⟨q0, 0, ⟨#[]⟩, [], qt, []⟩ : S43) (Kd.R_nil _ _ _ _ _) (Kd.R_nil _ _ _ _ _)); (case aF => exact fun k hk => by have := HK5.out.st.lt; have := blk_lt HK5.out.xk; omega); (case aO => exact HK5.out.nr); (case aB => exact HK5.out.bl); (case aS => exact HK5.out.bl.size); (case aL => have := HL.out; omega); intro v5' w9 ho hb hg hat; have HTg := As9.mk (HK5.out.app ho hb hg); clear ho hb hg hat HK5))
      go_roundg n
      case measure => omega
      case rel => exact ⟨_, _, _, _, HH, HTg, ⟨by have := HN.out; omega⟩⟩
     | false =>
      rw [if_neg (by simp)] at he
      have Hkd := As9.mk he
      clear he
      go_wp2_with (first | ((with_reducible refine gate_dst (N := 6) rfl ?_); refine bE_ #[.int .i64 0, .int .i64 0, .string ⟨#[]⟩, .slice none 0 0, .string ⟨#[]⟩, .slice none 0 0] 43 ?_; intro gk hg_ w5 hbox hb; have HOW := As9.mk (show ∀ k, (Value.slice An out.length cn).ownBlock = some k → k < gk from fun k hk => by have := Kd.R_lt HT.out.nr k hk; omega); have HK1 := As9.mk (Rdk.start HT.out hg_ hbox hb); clear hg_ hbox hb HT hc0 hc1 hc2) | (go_at_call 95; (with_reducible refine (impl_reader_is.calls g s p false ⟨#[60, 33, 45, 45]⟩ _ s3 p3 b3 w _ HK1.out.st HK1.out.bl Hz.out).mono ?_); rintro e w6 ⟨rfl, hi, hb, hk⟩; have HK2 := As9.mk (HK1.out.state hi hb hk); clear hi hb hk HK1) | (go_at_call 86; (with_reducible refine (impl_reader_element.calls n g (-1) 60 s3 p3 b3 kd s9 p9 b9 w _ HK2.out.st HK2.out.bl HLL.out HEE.out Hkd.out).mono ?_); rintro e w7 ⟨cs, rfl, hm, hi, hb, hk⟩; have HM := As9.mk (k43.M_mono (ok' := fun k_ => (k_ ≠ g ∧ k_ ≠ gk) ∧ some k_ ≠ (Value.slice An out.length cn).ownBlock) (fun k_ hk_ => ⟨⟨by have := HK2.out.st.lt; omega, by have := blk_lt HK2.out.xk; omega⟩, fun e_ => by have := HOW.out k_ e_.symm; have := blk_lt HK2.out.xk; omega⟩) hm); have HK3 := As9.mk (HK2.out.state hi hb hk); obtain ⟨u3, u5, hcs, g3, g5⟩ := k43_openM hm; obtain rfl : cs = #[.int .i64 kd.f0, .int .i64 kd.f1, .string kd.f2, u3, .string kd.f4, u5] := Array.ext' hcs; obtain ⟨A3', c3', rfl⟩ := Kd.R_slice g3; obtain ⟨A5', c5', rfl⟩ := Kd.R_slice g5; clear hm hcs g3 g5 hi hb hk HK2; obtain ⟨he0, he1, he2, he3, he4, he5, hf0, hf1, hf2, hf3, hf4, hf5⟩ := bk6_ HK3.out.xk) | (go_at_call 94; have HK4 := As9.mk (HK3.out.six (.int .i64 kd.f0) (.int .i64 kd.f1) (.string kd.f2) (.slice A3' kd.f3.length c3') (.string kd.f4) (.slice A5' kd.f5.length c5')); have HM4 := As9.mk (Kd.M_keep HM.out (Rdk.keep6 _ gk (.int .i64 kd.f0) (.int .i64 kd.f1) (.string kd.f2) (.slice A3' kd.f3.length c3') (.string kd.f4) (.slice A5' kd.f5.length c5')) (fun k hk => hk.1.2)); clear HM; clear he0 hf0 he1 hf1 he2 hf2 he3 hf3 he4 hf4 he5 hf5; (with_reducible refine (impl_reader_take.calls g _ _ _ ⟨#[10]⟩ s10 p10 b10 w _ HK4.out.st HK4.out.bl Ht.out).mono ?_); rintro e w8 ⟨rfl, hi, hb, hk⟩; have HK5 := As9.mk (HK4.out.state hi hb hk); have HM5 := As9.mk (Kd.M_keep HM4.out hk (fun k hk => hk.1.1)); clear HM4; clear hi hb hk HK3 HK4; obtain ⟨he0, he1, he2, he3, he4, he5, hf0, hf1, hf2, hf3, hf4, hf5⟩ := bk6_ HK5.out.xk) | ((with_reducible refine gate_builtin (b := .append) (xs := #[.tmp 27, .tmp 29]) rfl ?_); at_builtin; go_loud (refine Kd.R_append k43 (w0 := w) w.heap.size rfl (.tmp 27) (.tmp 29) 41 43 (.agg #[.int .i64 0, .int .i64 0, .string ⟨#[]⟩, .slice none 0 0, .string ⟨#[]⟩, .slice none 0 0]) 96 rfl Tryz.underlying41 (by kernel_rfl) rfl (by decide) (by omega) (.slice An out.length cn) out (kd) [.int .i64 kd.f0, .int .i64 kd.f1, .string kd.f2, .slice A3' kd.f3.length c3', .string kd.f4, .slice A5' kd.f5.length c5'] (fun k_ => k_ ≠ g ∧ k_ ≠ gk) (fun k_ => (k_ ≠ g ∧ k_ ≠ gk) ∧ some k_ ≠ (Value.slice An out.length cn).ownBlock) rfl ?aX ?aP (fun _ hk => hk) ?aF ?aO ?aB ?aS ?aL ?_); (case aX => first | rfl | (go_simp; done) | (go_simp; rfl) | (simp; done) | (simp; rfl)); (case aP => exact HM5.out); (case aF => exact fun k hk => by have := HK5.out.st.lt; have := blk_lt HK5.out.xk; omega); (case aO => exact HK5.out.nr); (case aB => exact HK5.out.bl); (case aS => exact HK5.out.bl.size); (case aL => have := HL.out; omega); intro v5' w9 ho hb hg hat; have HTg := As9.mk (HK5.out.app ho hb hg); clear ho hb hg hat HK5))
      go_roundg n
      case measure => omega
      case rel => exact ⟨_, _, _, _, HH, HTg, ⟨by have := HN.out; omega⟩⟩
set_option maxHeartbeats 8000000
set_option maxRecDepth 100000
def impl_Well.f (k : Nat) (a0 : ByteArray) : Option (Bool) := (impl_Read.f k a0).bind fun bt616 => (some bt616.2)
theorem impl_Well.mono : ∀ a0 k, LeO (impl_Well.f k a0) (impl_Well.f (k + 1) a0) := by
 intro a0 k
 unfold impl_Well.f
 with_reducible repeat' first | exact impl_Read.mono _ _ | apply LeO.refl | apply LeO.none | apply LeO.ite | apply LeO.bind | intro
theorem impl_Well.calls (k : Nat) (a0 : ByteArray) (r : Bool) (w : World) (hL : LibOk w) (hE : LibErr w) (h : impl_Well.f k a0 = some r) :
  Calls Tryz.prog 32 #[.string a0] w fun e w' => e = .returned (.bool r) ∧ Below w.heap.size w w' := by
 have HB := As9.mk (Below.refl w.heap.size w)
 have H : ((impl_Read.f k a0).bind fun bt616 => (some bt616.2)) = some r := h
 clear h
 obtain ⟨⟨t616, t617⟩, A2, H⟩ := ob_ H
 (try dsimp only at H)
 obtain rfl := Option.some.inj H
 go_enter Tryz.func32, Tryz.ntmps32
 go_wp2_with (first | ((with_reducible refine gC_ 39 ?_); refine gL_ 7 Tryz.func39 #[.string a0] ?_; (with_reducible refine (impl_Read.calls k a0 t616 t617 _ ?side1 ?side2 A2.out).mono ?_); (case side1 => first | exact hL | exact LibOk.below hL hB_); (case side2 => first | exact hE | exact LibErr.below hE hB_); rintro e w3 ⟨v618, rfl, ho0, hb⟩; refine ⟨_, rfl, ?_⟩; have HO619 := As9.mk (Kd.R_lower ho0 (below_size hB_)); replace HB := bS_ hb; clear hb; (try clear ho0)))
 go_ret
 exact ⟨e1_, hB_⟩
set_option maxHeartbeats 8000000
set_option maxRecDepth 100000
def laws_FnExactWell.f (k : Nat) (a0 : ByteArray) : Option (Bool) := if (a0.size : Int) > 1048576 then (some true) else ((spec_Well.f k a0).bind fun t620 => ((impl_Well.f k a0).bind fun t621 => (if (t621 != t620) = true then (some false) else (some true))))
theorem laws_FnExactWell.mono : ∀ a0 k, LeO (laws_FnExactWell.f k a0) (laws_FnExactWell.f (k + 1) a0) := by
 intro a0 k
 unfold laws_FnExactWell.f
 with_reducible repeat' first | exact impl_Well.mono _ _ | exact spec_Well.mono _ _ | apply LeO.refl | apply LeO.none | apply LeO.ite | apply LeO.bind | intro
theorem laws_FnExactWell.calls (k : Nat) (a0 : ByteArray) (r : Bool) (w : World) (hL : LibOk w) (hE : LibErr w) (h : laws_FnExactWell.f k a0 = some r) :
  Calls Tryz.prog 4 #[.string a0] w fun e w' => e = .returned (.bool r) ∧ Below w.heap.size w w' := by
 have HB := As9.mk (Below.refl w.heap.size w)
 have H : (if (a0.size : Int) > 1048576 then (some true) else ((spec_Well.f k a0).bind fun t620 => ((impl_Well.f k a0).bind fun t621 => (if (t621 != t620) = true then (some false) else (some true))))) = some r := h
 clear h
 by_cases c2 : (a0.size : Int) > 1048576
 ·rw [if_pos c2] at H
  have c2b0 : decide (1048576 < (a0.size : Int)) = true := decide_eq_true c2
  have c2b1 : decide (1048576 < a0.size) = true := decide_eq_true (by omega)
  clear c2
  obtain rfl := Option.some.inj H
  go_enter Tryz.func4, Tryz.ntmps4
  go_wp2
  go_ret
  exact ⟨e1_, hB_⟩
 ·rw [if_neg c2] at H
  have c2b0 : decide (1048576 < (a0.size : Int)) = false := decide_eq_false c2
  have c2b1 : decide (1048576 < a0.size) = false := decide_eq_false (by omega)
  clear c2
  obtain ⟨t620, A3, H⟩ := ob_ H
  (try dsimp only at H)
  obtain ⟨t621, A4, H⟩ := ob_ H
  (try dsimp only at H)
  by_cases c5 : (t621 != t620) = true
  ·rw [if_pos c5] at H
   have c5b0 : (t621 != t620) = true := c5
   (try (have c5b1 : decide (t621 = t620) = false := by simpa using c5))
   (try (have c5b2 : (t621 == t620) = false := by simpa using c5))
   (try (have c5b3 : ¬ (t621 = t620) := by simpa using c5))
   clear c5
   obtain rfl := Option.some.inj H
   go_enter Tryz.func4, Tryz.ntmps4
   go_wp2_with (first | ((with_reducible refine gC_ 31 ?_); refine gL_ 9 Tryz.func31 #[.string a0] ?_; (with_reducible refine (spec_Well.calls k a0 t620 _ A3.out).mono ?_); rintro e w6 ⟨rfl, hb⟩; refine ⟨_, rfl, ?_⟩; replace HB := bS_ hb; clear hb) | ((with_reducible refine gC_ 32 ?_); refine gL_ 11 Tryz.func32 #[.string a0] ?_; (with_reducible refine (impl_Well.calls k a0 t621 _ ?side1 ?side2 A4.out).mono ?_); (case side1 => first | exact hL | exact LibOk.below hL hB_); (case side2 => first | exact hE | exact LibErr.below hE hB_); rintro e w7 ⟨rfl, hb⟩; refine ⟨_, rfl, ?_⟩; replace HB := bS_ hb; clear hb))
   go_ret
   exact ⟨e1_, hB_⟩
  ·rw [if_neg c5] at H
   have c5b0 : (t621 != t620) = false := by simpa using c5
   (try (have c5b1 : decide (t621 = t620) = true := by simpa using c5))
   (try (have c5b2 : (t621 == t620) = true := by simpa using c5))
   clear c5
   obtain rfl := Option.some.inj H
   go_enter Tryz.func4, Tryz.ntmps4
   go_wp2_with (first | ((with_reducible refine gC_ 31 ?_); refine gL_ 9 Tryz.func31 #[.string a0] ?_; (with_reducible refine (spec_Well.calls k a0 t620 _ A3.out).mono ?_); rintro e w8 ⟨rfl, hb⟩; refine ⟨_, rfl, ?_⟩; replace HB := bS_ hb; clear hb) | ((with_reducible refine gC_ 32 ?_); refine gL_ 11 Tryz.func32 #[.string a0] ?_; (with_reducible refine (impl_Well.calls k a0 t621 _ ?side1 ?side2 A4.out).mono ?_); (case side1 => first | exact hL | exact LibOk.below hL hB_); (case side2 => first | exact hE | exact LibErr.below hE hB_); rintro e w9 ⟨rfl, hb⟩; refine ⟨_, rfl, ?_⟩; replace HB := bS_ hb; clear hb))
   go_ret
   exact ⟨e1_, hB_⟩
def laws_FnExactWell.Pure : Prop := ∀ (a0 : ByteArray), a0.size ≤ 140737488351232 → ∃ k, laws_FnExactWell.f k a0 = some true
theorem laws_FnExactWell.walk (P : laws_FnExactWell.Pure) (a0 : ByteArray) (w : World) (w0 : a0.size ≤ 140737488351232) (hL : LibOk w) (hE : LibErr w) :
  Calls Tryz.prog 4 #[.string a0] w fun e w' => e = .returned (.bool true) ∧ Below w.heap.size w w' := by
 obtain ⟨k, h⟩ := P a0 w0
 refine (laws_FnExactWell.calls k a0 true w hL hE h).mono ?_
 rintro e w' ⟨rfl, hd⟩
 exact ⟨rfl, hd⟩
set_option maxHeartbeats 8000000
set_option maxRecDepth 100000
theorem eqA36 (d : Nat) (w : World) (x0 y0 : ByteArray) (x1 y1 : ByteArray) :
  (Op.equalIn (d + 2) 36 (.agg #[.string x0, .string x1]) (.agg #[.string y0, .string y1])).run Tryz.prog w = .ok (x0.toList == y0.toList && (x1.toList == y1.toList)) w := by
 refine eqA_of Tryz.underlying36 (by kernel_rfl) ?_
 refine eqf_cons (by rfl) (by go_simp; rfl) (by go_simp; rfl) (by go_simp) ?_
 exact eqf_last (by rfl) (by go_simp; rfl) (by go_simp; rfl) (by go_simp)
set_option maxHeartbeats 8000000
set_option maxRecDepth 100000
set_option maxHeartbeats 8000000
set_option maxRecDepth 100000
set_option maxHeartbeats 8000000
set_option maxRecDepth 100000
set_option maxHeartbeats 8000000
set_option maxRecDepth 100000
set_option maxHeartbeats 8000000
set_option maxRecDepth 100000
set_option maxHeartbeats 8000000
set_option maxRecDepth 100000
set_option maxHeartbeats 8000000
set_option maxRecDepth 100000
set_option maxHeartbeats 8000000
set_option maxRecDepth 100000
set_option maxHeartbeats 8000000
set_option maxRecDepth 100000
set_option maxHeartbeats 8000000
set_option maxRecDepth 100000
set_option maxHeartbeats 8000000
set_option maxRecDepth 100000
set_option maxHeartbeats 8000000
set_option maxRecDepth 100000
set_option maxHeartbeats 8000000
set_option maxRecDepth 100000
set_option maxHeartbeats 8000000
set_option maxRecDepth 100000
set_option maxHeartbeats 8000000
set_option maxRecDepth 100000
set_option maxHeartbeats 8000000
set_option maxRecDepth 100000
set_option maxHeartbeats 8000000
set_option maxRecDepth 100000
set_option maxHeartbeats 8000000
set_option maxRecDepth 100000
set_option maxHeartbeats 8000000
set_option maxRecDepth 100000
set_option maxHeartbeats 8000000
set_option maxRecDepth 100000
set_option maxHeartbeats 8000000
set_option maxRecDepth 100000
set_option maxHeartbeats 8000000
set_option maxRecDepth 100000
set_option maxHeartbeats 8000000
set_option maxRecDepth 100000
set_option maxHeartbeats 8000000
set_option maxRecDepth 100000
attribute [local go_sem high] eqA36
end Go.Proofs.YtkmmoheeoblmnaaGreatDoor.A
