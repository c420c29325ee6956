-- joined by wip/tools/shake.py
import Derived.Test.YtkmmoheeoblmnaaGreatDoorVWeTAux
import Derived.Test.YtkmmoheeoblmnaaGreatDoorMWeT0
import Derived.Test.YtkmmoheeoblmnaaGreatDoorMWeT1
import Derived.Test.YtkmmoheeoblmnaaGreatDoorMWeT2
namespace Go.Proofs.YtkmmoheeoblmnaaGreatDoor.A
open Go.RowKit Go.Proofs.YtkmmoheeoblmnaaGreatDoorW.PrintWords Go.Proofs.YtkmmoheeoblmnaaGreatDoorW.PrintLast Go.Proofs.YtkmmoheeoblmnaaGreatDoorW.PrintMore
attribute [local go_sem] max2_int min2_int max_two min_two max_three min_three max_four min_four
set_option linter.unusedVariables false
set_option linter.unusedSimpArgs false
set_option maxHeartbeats 8000000
set_option maxRecDepth 100000
structure Sat (w0 w W : World) (g : Nat) (s : ByteArray) (p : Int) (b : Bool) (v : Value) (out : List S36) : Prop where
 st : IsS89 w0 W g s p b
 nr : k36.R 36 W w0.heap.size (fun k_ => w.heap.size ≤ k_) v out
 bl : Below w0.heap.size w0 W
 kp : KeepBut w W g none
 gl : g < w.heap.size
theorem Sat.state {w0 w W W' : World} {g : Nat} {s s' : ByteArray} {p p' : Int} {b b' : Bool} {v : Value} {out : List S36} (h : Sat w0 w W g s p b v out) (hi : IsS89 w0 W' g s' p' b') (hb : Below w0.heap.size w0 W') (hk : KeepBut W W' g none) : Sat w0 w W' g s' p' b' v out :=
 ⟨hi, Kd.R_keep h.nr hk (fun k hk => by have := h.gl; omega), hb, h.kp.trans hk (.inl rfl), h.gl⟩
theorem Sat.below {w0 w W W' : World} {g : Nat} {s : ByteArray} {p : Int} {b : Bool} {v : Value} {out : List S36} (h : Sat w0 w W g s p b v out) (hb : Below W.heap.size W W') : Sat w0 w W' g s p b v out := h.state (h.st.below hb) (below_step h.bl hb) (KeepBut.of_below hb g none)
theorem Sat.ok_ {w0 w W : World} {g : Nat} {s : ByteArray} {p : Int} {b : Bool} {v : Value} {out : List S36} (h : Sat w0 w W g s p b v out) (x : Bool) : Sat w0 w (W.setCell ⟨g, 2, none⟩ (.bool x)) g s p x v out := h.state (h.st.set_2 x) (below_set h.bl h.st.2) ((KeepBut.refl W g none).set_ 2 _)
theorem Sat.at_ {w0 w W : World} {g : Nat} {s : ByteArray} {p : Int} {b : Bool} {v : Value} {out : List S36} (h : Sat w0 w W g s p b v out) (x : Int) : Sat w0 w (W.setCell ⟨g, 1, none⟩ (.int .i64 x)) g s x b v out := h.state (h.st.set_1 x) (below_set h.bl h.st.2) ((KeepBut.refl W g none).set_ 1 _)
theorem Sat.app {w0 w W W' : World} {g : Nat} {s : ByteArray} {p : Int} {b : Bool} {v v' : Value} {out : List S36} (h : Sat w0 w W g s p b v out) {x : S36} (ho : k36.R 36 W' w0.heap.size (fun k_ => w.heap.size ≤ k_) v' (out ++ [x])) (hb : Below w0.heap.size w0 W') (hg : W.grownBy W' v.ownBlock) : Sat w0 w W' g s p b v' (out ++ [x]) :=
 ⟨h.st.grown hg (h.st.own_ne h.nr (by decide)), ho, hb, h.kp.trans (KeepBut.of_grown hg g) (by
  cases hv : v.ownBlock with
  | none => exact .inl rfl
  | some k => exact .inr ⟨k, rfl, h.nr.1 k hv⟩), h.gl⟩
theorem Sat.two_ {w0 w W : World} {g : Nat} {s : ByteArray} {p : Int} {b : Bool} {v : Value} {out : List S36} (h : Sat w0 w W g s p b v out) {ga : Nat} (h1 : w.heap.size ≤ ga) (h2 : g < ga) (h3 : ∀ k, v.ownBlock = some k → k < ga) (u0 u1 : Value) : Sat w0 w ((W.setCell ⟨ga, 0, none⟩ u0).setCell ⟨ga, 1, none⟩ u1) g s p b v out := by
 have hk : KeepBut W ((W.setCell ⟨ga, 0, none⟩ u0).setCell ⟨ga, 1, none⟩ u1) ga none := ((KeepBut.refl W ga none).set_ 0 _).set_ 1 _
 refine ⟨(h.st.far (p := ⟨ga, 0, none⟩) (Nat.ne_of_lt h2) _).far (p := ⟨ga, 1, none⟩) (Nat.ne_of_lt h2) _, ?_, below_set (below_set h.bl (Nat.le_trans h.st.2 (Nat.le_of_lt h2))) (Nat.le_trans h.st.2 (Nat.le_of_lt h2)), keep_far (p := ⟨ga, 1, none⟩) (keep_far (p := ⟨ga, 0, none⟩) h.kp h1 _) h1 _, h.gl⟩
 exact Kd.R_mono (Kd.R_keep (g := ga) (Kd.R_flat (ok' := fun k => w.heap.size ≤ k ∧ k ≠ ga) (fun hx => by rw [k36_openM hx]; exact k36_mkM _ _ _ _) h.nr (fun k hk ho => ⟨ho, fun e => by have := h3 k hk; omega⟩)) hk (fun k hk => hk.2)) (fun k hk => hk.1)
def sexit (s : ByteArray) (p : Int) (b : Bool) (out : List S36) (sp : Int) : Option (List S36 × Int × ByteArray × Int × Bool) := (spec_l1In.f sp 0 2).bind fun r => some (out, sp, s, p, if r = true then b else false)
def sattrsL : Nat → Int → ByteArray → Int → Bool → List S36 → Int → Bool → Option (List S36 × Int × ByteArray × Int × Bool)
 | 0, _, _, _, _, _, _, _ => none
 | n + 1, about, s, p, b, out, sp, told =>
  if b = true then (if p < (s.size : Int) then (if 0 ≤ p then (if bt s p = 32 then
   (spec_XmlAttr.f n s (wrap64 (p + 1))).bind fun a => if a.2.2 < 0 then some (out, sp, s, p, false) else
    (spec_l4Has.f n out a.1).bind fun hb => if hb = true then some (out, sp, s, p, false) else
    (if a.1.toList = [120, 109, 108, 110, 115] then (if told = true then some (out, sp, s, p, false) else (spec_l19Space.f n a.2.1).bind fun x => sattrsL n about s a.2.2 (!decide (x = about)) out x true)
    else (if out.length < 4398046511104 then sattrsL n about s a.2.2 true (out ++ [⟨a.1, a.2.1⟩]) sp told else none))
  else sexit s p b out sp) else none) else sexit s p b out sp) else sexit s p b out sp
theorem sattrsL_mono : ∀ k y0 y1 y2 y3 y4 y5 y6, LeO (sattrsL k y0 y1 y2 y3 y4 y5 y6) (sattrsL (k + 1) y0 y1 y2 y3 y4 y5 y6)
 | 0 => fun _ _ _ _ _ _ _ r h => by simp [sattrsL] at h
 | k + 1 => by
  have ih := sattrsL_mono k
  intro y0 y1 y2 y3 y4 y5 y6
  rw [sattrsL, sattrsL]
  exact LeO.ite (LeO.ite (LeO.ite (LeO.ite (LeO.bind (spec_XmlAttr.mono _ _ _) fun a => LeO.ite (LeO.refl _) (LeO.bind (spec_l4Has.mono _ _ _) fun hb => LeO.ite (LeO.refl _) (LeO.ite (LeO.ite (LeO.refl _) (LeO.bind (spec_l19Space.mono _ _) fun x => ih _ _ _ _ _ _ _)) (LeO.ite (ih _ _ _ _ _ _ _) (LeO.refl _))))) (LeO.refl _)) (LeO.refl _)) (LeO.refl _)) (LeO.refl _)
def spec_l19Attrs.f (k : Nat) (s : ByteArray) (p : Int) (b : Bool) (about : Int) : Option (List S36 × Int × ByteArray × Int × Bool) := sattrsL k about s p b [] about false
theorem spec_l19Attrs.mono : ∀ s p b about k, LeO (spec_l19Attrs.f k s p b about) (spec_l19Attrs.f (k + 1) s p b about) := fun _ _ _ _ k => sattrsL_mono k _ _ _ _ _ _ _
theorem spec_l19Attrs.calls (k g : Nat) (s : ByteArray) (p : Int) (b : Bool) (about : Int) (r0 : List S36) (r1 : Int) (r2 : ByteArray) (r3 : Int) (r4 : Bool) (w0 w : World) (hI : IsS89 w0 w g s p b) (hB : Below w0.heap.size w0 w) (h : spec_l19Attrs.f k s p b about = some (r0, r1, r2, r3, r4)) :
  Calls Tryz.prog 131 #[.pointer (some ⟨g, 0, none⟩), .int .i64 about] w fun e w' => ∃ v, e = .returned (.tuple #[v, .int .i64 r1]) ∧ Sat w0 w w' g r2 r3 r4 v r0 := by
 have hu := Tryz.underlying36
 have HF : As9 (sattrsL k about s p b [] about false = some (r0, r1, r2, r3, r4)) := ⟨h⟩
 have HI := As9.mk hI
 have HB := As9.mk hB
 clear h hI hB
 go_enter Tryz.func131, Tryz.ntmps131
 go_wp2_with ((with_reducible refine gate_dst (N := 11) rfl ?_); refine Kd.R_lit (w0 := w0) k36 w0.heap.size 36 ?hg (N := 11) ?hd (xs := ([] : List S36)) (inner := []) (ok := fun k_ => w.heap.size ≤ k_) (okp := fun _ => False) ?hr ?hp (fun _ hk => hk.elim) (Nat.le_refl _) HB.out HB.out.size (by simp) ?_; (case hd => rfl); (case hg => rfl); (case hr => first | (go_simp; done) | (go_simp; rfl)); (case hp => exact (Reps.none _ _)); intro v11 w2 ho hb hg_ hnew_; have HT := As9.mk (show Sat w0 w w2 g s p b v11 [] from ⟨HI.out.grown hg_ (by simp), ho, hb, KeepBut.of_grown hg_ g, HI.out.lt⟩); clear ho hb hg_ hnew_ HI HB)
 go_loopg [6, 7, 8] k (fun kq v6 v7 v8 wr => ∃ (out : List S36) (sp : Int) (told : Bool) (s : ByteArray) (p : Int) (b : Bool), v7 = .int .i64 sp ∧ v8 = .bool told ∧ As9 (sattrsL kq about s p b out sp told = some (r0, r1, r2, r3, r4)) ∧ As9 (Sat w0 w wr g s p b v6 out))
 case atStart => exact ⟨[], about, false, s, p, b, rfl, rfl, HF, HT⟩
 case round =>
  clear HF HT
  obtain ⟨out, sp, told, s, p, b, rfl, rfl, HA, HT⟩ := hrel
  cases gk with
  | zero => exact absurd HA.out (by simp [sattrsL])
  | succ n =>
  have H := HA.out
  clear HA
  simp only [sattrsL] at H
  obtain ⟨An, cn, rfl⟩ := Kd.R_slice HT.out.nr
  have hc0 := cellS89_0 HT.out.st.1
  have hc1 := cellS89_1 HT.out.st.1
  have hc2 := cellS89_2 HT.out.st.1
  cases b with
  | false =>
   rw [if_neg (by simp)] at H
   go_wp2
   go_quiet (fail)
   generalize hW : World.drewN wr nq = wx
   have HT2 : As9 (Sat w0 w wx g s p false (.slice An out.length cn) out) := ⟨by rw [← hW]; exact HT.out.below (bN9 (Below.refl _ _) _)⟩
   clear hW HT hc0 hc1 hc2
   unfold sexit at H
   obtain ⟨r, hr, H⟩ := Option.bind_eq_some_iff.mp H
   simp only [Option.some.injEq, Prod.mk.injEq] at H
   obtain ⟨rfl, rfl, rfl, rfl, rfl⟩ := H
   have Hr := As9.mk hr
   clear hr
   cases r with
   | true =>
    go_wp2_with ((go_at_call 111; (with_reducible refine (spec_l1In.calls sp 0 2 true _ Hr.out).mono ?_); rintro e w2 ⟨rfl, hd⟩; have HT3 := As9.mk (HT2.out.below hd.below); clear hd HT2))
    go_ret2
    exact ⟨_, rfl, HT3.out⟩
   | false =>
    go_wp2_with ((go_at_call 111; (with_reducible refine (spec_l1In.calls sp 0 2 false _ Hr.out).mono ?_); rintro e w2 ⟨rfl, hd⟩; have HT3 := As9.mk (HT2.out.below hd.below); clear hd HT2; have hz2 := cellS89_2 HT3.out.st.1; have hf2 := blk_frozen HT3.out.st.1 2))
    go_ret2
    exact ⟨_, rfl, HT3.out.ok_ false⟩
  | true =>
   rw [if_pos rfl] at H
   by_cases hlt : p < (s.size : Int)
   case neg =>
    rw [if_neg hlt] at H
    have q8 := eq_false hlt
    have q9 : decide (p < (s.size : Int)) = false := decide_eq_false hlt
    go_wp2
    go_quiet (fail)
    generalize hW : World.drewN wr nq = wx
    have HT2 : As9 (Sat w0 w wx g s p true (.slice An out.length cn) out) := ⟨by rw [← hW]; exact HT.out.below (bN9 (Below.refl _ _) _)⟩
    clear hW HT hc0 hc1 hc2
    unfold sexit at H
    obtain ⟨r, hr, H⟩ := Option.bind_eq_some_iff.mp H
    simp only [Option.some.injEq, Prod.mk.injEq] at H
    obtain ⟨rfl, rfl, rfl, rfl, rfl⟩ := H
    have Hr := As9.mk hr
    clear hr
    cases r with
    | true =>
     go_wp2_with ((go_at_call 111; (with_reducible refine (spec_l1In.calls sp 0 2 true _ Hr.out).mono ?_); rintro e w2 ⟨rfl, hd⟩; have HT3 := As9.mk (HT2.out.below hd.below); clear hd HT2))
     go_ret2
     exact ⟨_, rfl, HT3.out⟩
    | false =>
     go_wp2_with ((go_at_call 111; (with_reducible refine (spec_l1In.calls sp 0 2 false _ Hr.out).mono ?_); rintro e w2 ⟨rfl, hd⟩; have HT3 := As9.mk (HT2.out.below hd.below); clear hd HT2; have hz2 := cellS89_2 HT3.out.st.1; have hf2 := blk_frozen HT3.out.st.1 2))
     go_ret2
     exact ⟨_, rfl, HT3.out.ok_ false⟩
   case pos =>
   rw [if_pos hlt] at H
   by_cases h0 : 0 ≤ p
   case neg => rw [if_neg h0] at H; cases H
   case pos =>
   rw [if_pos h0] at H
   have p7 := eq_true h0
   have q7 := eq_true hlt
   have hx := bt_at s p
   by_cases hc : bt s p = 32
   case neg =>
    have hcb : (bt s p == 32) = false := beq_eq_false_iff_ne.mpr hc
    rw [if_neg hc] at H
    go_wp2
    go_quiet (fail)
    generalize hW : World.drewN wr nq = wx
    have HT2 : As9 (Sat w0 w wx g s p true (.slice An out.length cn) out) := ⟨by rw [← hW]; exact HT.out.below (bN9 (Below.refl _ _) _)⟩
    clear hW HT hc0 hc1 hc2
    unfold sexit at H
    obtain ⟨r, hr, H⟩ := Option.bind_eq_some_iff.mp H
    simp only [Option.some.injEq, Prod.mk.injEq] at H
    obtain ⟨rfl, rfl, rfl, rfl, rfl⟩ := H
    have Hr := As9.mk hr
    clear hr
    cases r with
    | true =>
     go_wp2_with ((go_at_call 111; (with_reducible refine (spec_l1In.calls sp 0 2 true _ Hr.out).mono ?_); rintro e w2 ⟨rfl, hd⟩; have HT3 := As9.mk (HT2.out.below hd.below); clear hd HT2))
     go_ret2
     exact ⟨_, rfl, HT3.out⟩
    | false =>
     go_wp2_with ((go_at_call 111; (with_reducible refine (spec_l1In.calls sp 0 2 false _ Hr.out).mono ?_); rintro e w2 ⟨rfl, hd⟩; have HT3 := As9.mk (HT2.out.below hd.below); clear hd HT2; have hz2 := cellS89_2 HT3.out.st.1; have hf2 := blk_frozen HT3.out.st.1 2))
     go_ret2
     exact ⟨_, rfl, HT3.out.ok_ false⟩
   case pos =>
    have hcb : (bt s p == 32) = true := beq_iff_eq.mpr hc
    rw [if_pos hc] at H
    go_wp2
    go_quiet (fail)
    generalize hW : World.drewN wr nq = wx
    have HT2 : As9 (Sat w0 w wx g s p true (.slice An out.length cn) out) := ⟨by rw [← hW]; exact HT.out.below (bN9 (Below.refl _ _) _)⟩
    clear hW HT hc0 hc1 hc2
    obtain ⟨⟨nm, av, nx⟩, ha, H⟩ := Option.bind_eq_some_iff.mp H
    dsimp only at H
    have Ha := As9.mk ha
    have HH := As9.mk H
    clear ha H p7 q7 hx hcb hc
    go_wp2
    have HTd := As9.mk (HT2.out.below (below_drew (Below.refl _ _)))
    clear HT2
    refine start_ (n := 16) (S := fun w' => w'.cell? ⟨g, 0, none⟩ = some (.string s) ∧ w'.cell? ⟨g, 1, none⟩ = some (.int .i64 p)) (ds := [14]) (tS 16 0) (by kernel_rfl) rfl rfl ⟨cellS89_0 HTd.out.st.1, cellS89_1 HTd.out.st.1⟩ (fun hHeld => ?_)
    generalize World.drew _ = wr0 at HTd hHeld ⊢
    iterate 3 refine pq_ ?_
    refine pg_ 4 (tB 16 23) ?_
    refine pg_ 5 (tB 16 55) ?_
    refine pg_ 6 (tB 16 119) ?_
    refine tg_ 3 (tS 16 7) rfl (by rintro w' ⟨s0, s1⟩; go_simp; with_reducible rfl) ?_
    refine tq_ rfl (by rintro w' ⟨s0, s1⟩; go_simp; with_reducible rfl) ?_
    refine pq_ ?_
    refine two_ (i := 9) (j := 13) (Ni := some 51) (Nj := some 9) (tS 16 10) (tB 16 8703) rfl rfl rfl rfl (by kernel_rfl) (by decide) (by decide) (fun K hK => ?_) (fun K hK => ?_)
    ·skip
     refine gS_ Tryz.func26 #[.string s, .int .i64 (wrap64 (p + 1))] ?_
     with_reducible refine (spec_XmlAttr.calls n s (wrap64 (p + 1)) nm av nx _ Ha.out).mono ?_
     rintro e wr9 ⟨rfl, hb⟩
     refine ⟨_, rfl, ?_⟩
     have n1_ := As9.mk (HTd.out.below hb)
     (try (have n6_ := As9.mk (blk_below HA.out hb); clear HA; have HA := n6_; clear n6_))
     clear hb HTd
     have HTd := n1_
     clear n1_
     refine hK.out _ _ ⟨cellS89_0 HTd.out.st.1, cellS89_1 HTd.out.st.1⟩ (fun hHeld => ?_)
     clear hK K
     refine nm_ ?_
     iterate 3 refine pq_ ?_
     refine n1_ 13 (tS 16 14) rfl fun K hK => ?_
     refine box_step ?hg (N := 9) ?hd (cs := #[.string ⟨#[]⟩, .string ⟨#[]⟩]) (t := 36) ?hr ?_; (case hd => rfl); (case hg => rfl); (case hr => first | (go_simp; done) | (go_simp; rfl))
     intro ga hga wr13 hbox hb
     have HGA := As9.mk (show w.heap.size ≤ ga ∧ g < ga ∧ ∀ k, (Value.slice An out.length cn).ownBlock = some k → k < ga from by rw [hga]; exact ⟨HTd.out.kp.1, HTd.out.st.lt, fun k hk => Kd.R_lt HTd.out.nr k hk⟩)
     have HA := As9.mk hbox
     have n1_ := As9.mk (HTd.out.below hb)
     clear hb hga hbox HTd
     have HTd := n1_
     clear n1_
     refine hK.out _ _ ⟨cellS89_0 HTd.out.st.1, cellS89_1 HTd.out.st.1⟩ (fun hHeld => ?_)
     clear hK K
     refine nm_ ?_
     refine last_ (i := 14) (N := none) (tS 16 15) rfl rfl (by kernel_rfl) (by decide) (fun K hK => ?_)
     refine put_step2 ?hw ?hN 36 (.tmp 9) (.tmp 52) ?ho (g := ga) (u0 := .string nm) (u1 := .string av) ?ha ?hx (by kernel_rfl) HA.out rfl rfl ?_; (case hw => rfl); (case hN => rfl); (case ho => rfl); (case ha => rfl); (case hx => rfl)
     replace HA := As9.mk (blk_two HA.out (.string nm) (.string av))
     replace HTd := As9.mk (HTd.out.two_ HGA.out.1 HGA.out.2.1 HGA.out.2.2 (.string nm) (.string av))
     refine hK.out _ _ ?_
     clear hK K
     refine pq_ ?_
     refine done_ (by kernel_rfl) ?_
     generalize hwe : World.setCell _ _ _ = we at HA HTd ⊢
     clear hwe
     have he1 : (g = ga) = False := eq_false (Nat.ne_of_lt HGA.out.2.1)
     have he2 : (ga = g) = False := eq_false (Nat.ne_of_gt HGA.out.2.1)
     obtain ⟨hx0, hx1⟩ := bc2_ HA.out
     have hz1 := cellS89_1 HTd.out.st.1
     have hz2 := cellS89_2 HTd.out.st.1
     have hf1 := blk_frozen HTd.out.st.1 1
     have hf2 := blk_frozen HTd.out.st.1 2
     have H := HH.out
     by_cases d1 : nx < 0
     case pos =>
      rw [if_pos d1] at H
      simp only [Option.some.injEq, Prod.mk.injEq] at H
      obtain ⟨rfl, rfl, rfl, rfl, rfl⟩ := H
      go_wp2
      go_ret2
      exact ⟨_, rfl, HTd.out.ok_ false⟩
     case neg =>
     rw [if_neg d1] at H
     obtain ⟨hv, hhv, H⟩ := Option.bind_eq_some_iff.mp H
     have Hv := As9.mk hhv
     clear hhv
     cases hv with
     | true =>
      rw [if_pos rfl] at H
      simp only [Option.some.injEq, Prod.mk.injEq] at H
      obtain ⟨rfl, rfl, rfl, rfl, rfl⟩ := H
      go_wp2_with ((go_at_call 168; (with_reducible refine (spec_l4Has.calls n An cn out nm _ _ (Kd.R_reads' HTd.out.nr).2.2 (Kd.R_reads' HTd.out.nr).2.1 Hv.out).mono ?_); rintro e w6 ⟨rfl, hd⟩; have HTe := As9.mk (HTd.out.below hd.below); have HAe := As9.mk (blk_below HA.out hd.below); clear hd HTd HA hx0 hx1 hz1 hz2 hf1 hf2; obtain ⟨hx0, hx1⟩ := bc2_ HAe.out; have hz1 := cellS89_1 HTe.out.st.1; have hz2 := cellS89_2 HTe.out.st.1; have hf1 := blk_frozen HTe.out.st.1 1; have hf2 := blk_frozen HTe.out.st.1 2; have HT8 := As9.mk (HTe.out.at_ nx)))
      go_ret2
      exact ⟨_, rfl, HTe.out.ok_ false⟩
     | false =>
      rw [if_neg (by simp)] at H
      by_cases cx : nm.toList = [120, 109, 108, 110, 115]
      case pos =>
       rw [if_pos cx] at H
       have cxb : (nm.toList == [120, 109, 108, 110, 115]) = true := by rw [cx]; rfl
       have cxn : (!(nm.toList == [120, 109, 108, 110, 115])) = false := by rw [cx]; rfl
       clear cx
       cases told with
       | true =>
        rw [if_pos rfl] at H
        simp only [Option.some.injEq, Prod.mk.injEq] at H
        obtain ⟨rfl, rfl, rfl, rfl, rfl⟩ := H
        go_wp2_with ((go_at_call 168; (with_reducible refine (spec_l4Has.calls n An cn out nm _ _ (Kd.R_reads' HTd.out.nr).2.2 (Kd.R_reads' HTd.out.nr).2.1 Hv.out).mono ?_); rintro e w6 ⟨rfl, hd⟩; have HTe := As9.mk (HTd.out.below hd.below); have HAe := As9.mk (blk_below HA.out hd.below); clear hd HTd HA hx0 hx1 hz1 hz2 hf1 hf2; obtain ⟨hx0, hx1⟩ := bc2_ HAe.out; have hz1 := cellS89_1 HTe.out.st.1; have hz2 := cellS89_2 HTe.out.st.1; have hf1 := blk_frozen HTe.out.st.1 1; have hf2 := blk_frozen HTe.out.st.1 2; have HT8 := As9.mk (HTe.out.at_ nx)))
        go_ret2
        exact ⟨_, rfl, HTe.out.ok_ false⟩
       | false =>
        rw [if_neg (by simp)] at H
        obtain ⟨x, hx, H⟩ := Option.bind_eq_some_iff.mp H
        have Hx := As9.mk hx
        have HM := As9.mk H
        clear hx H
        by_cases d2 : x = about
        case pos =>
         have d2b : (x == about) = true := beq_iff_eq.mpr d2
         have HM2 : As9 (sattrsL n about s nx false out x true = some (r0, r1, r2, r3, r4)) := ⟨by have h := HM.out; rw [decide_eq_true d2] at h; exact h⟩
         clear d2
         go_wp2_with (first | (go_at_call 168; (with_reducible refine (spec_l4Has.calls n An cn out nm _ _ (Kd.R_reads' HTd.out.nr).2.2 (Kd.R_reads' HTd.out.nr).2.1 Hv.out).mono ?_); rintro e w6 ⟨rfl, hd⟩; have HTe := As9.mk (HTd.out.below hd.below); have HAe := As9.mk (blk_below HA.out hd.below); clear hd HTd HA hx0 hx1 hz1 hz2 hf1 hf2; obtain ⟨hx0, hx1⟩ := bc2_ HAe.out; have hz1 := cellS89_1 HTe.out.st.1; have hz2 := cellS89_2 HTe.out.st.1; have hf1 := blk_frozen HTe.out.st.1 1; have hf2 := blk_frozen HTe.out.st.1 2; have HT8 := As9.mk (HTe.out.at_ nx)) | (go_at_call 169; clear hx0 hx1 hz1 hz2 hf1 hf2; (with_reducible refine (spec_l19Space.calls n av x _ Hx.out).mono ?_); rintro e w8 ⟨rfl, hd⟩; have HTf := As9.mk (HT8.out.below hd.below); clear hd HT8 HTe HAe; have hz2 := cellS89_2 HTf.out.st.1; have hf2 := blk_frozen HTf.out.st.1 2))
         go_roundg n
         case measure => omega
         case rel => exact ⟨_, _, _, _, _, _, rfl, rfl, HM2, ⟨HTf.out.ok_ false⟩⟩
        case neg =>
         have d2b : (x == about) = false := beq_eq_false_iff_ne.mpr d2
         have HM2 : As9 (sattrsL n about s nx true out x true = some (r0, r1, r2, r3, r4)) := ⟨by have h := HM.out; rw [decide_eq_false d2] at h; exact h⟩
         clear d2
         go_wp2_with (first | (go_at_call 168; (with_reducible refine (spec_l4Has.calls n An cn out nm _ _ (Kd.R_reads' HTd.out.nr).2.2 (Kd.R_reads' HTd.out.nr).2.1 Hv.out).mono ?_); rintro e w6 ⟨rfl, hd⟩; have HTe := As9.mk (HTd.out.below hd.below); have HAe := As9.mk (blk_below HA.out hd.below); clear hd HTd HA hx0 hx1 hz1 hz2 hf1 hf2; obtain ⟨hx0, hx1⟩ := bc2_ HAe.out; have hz1 := cellS89_1 HTe.out.st.1; have hz2 := cellS89_2 HTe.out.st.1; have hf1 := blk_frozen HTe.out.st.1 1; have hf2 := blk_frozen HTe.out.st.1 2; have HT8 := As9.mk (HTe.out.at_ nx)) | (go_at_call 169; clear hx0 hx1 hz1 hz2 hf1 hf2; (with_reducible refine (spec_l19Space.calls n av x _ Hx.out).mono ?_); rintro e w8 ⟨rfl, hd⟩; have HTf := As9.mk (HT8.out.below hd.below); clear hd HT8 HTe HAe; have hz2 := cellS89_2 HTf.out.st.1; have hf2 := blk_frozen HTf.out.st.1 2))
         go_roundg n
         case measure => omega
         case rel => exact ⟨_, _, _, _, _, _, rfl, rfl, HM2, HTf⟩
      case neg =>
       rw [if_neg cx] at H
       have cxb : (nm.toList == [120, 109, 108, 110, 115]) = false := beq_eq_false_iff_ne.mpr cx
       have cxn : (!(nm.toList == [120, 109, 108, 110, 115])) = true := by rw [cxb]; rfl
       clear cx
       split at H
       case isFalse => cases H
       case isTrue hl =>
        have HL := As9.mk hl
        have HM := As9.mk H
        clear hl H
        go_wp2_with (first | (go_at_call 168; (with_reducible refine (spec_l4Has.calls n An cn out nm _ _ (Kd.R_reads' HTd.out.nr).2.2 (Kd.R_reads' HTd.out.nr).2.1 Hv.out).mono ?_); rintro e w6 ⟨rfl, hd⟩; have HTe := As9.mk (HTd.out.below hd.below); have HAe := As9.mk (blk_below HA.out hd.below); clear hd HTd HA hx0 hx1 hz1 hz2 hf1 hf2; obtain ⟨hx0, hx1⟩ := bc2_ HAe.out; have hz1 := cellS89_1 HTe.out.st.1; have hz2 := cellS89_2 HTe.out.st.1; have hf1 := blk_frozen HTe.out.st.1 1; have hf2 := blk_frozen HTe.out.st.1 2; have HT8 := As9.mk (HTe.out.at_ nx)) | ((with_reducible refine gate_builtin (b := .append) (xs := #[.tmp 82, .tmp 84]) rfl ?_); at_builtin; go_loud (refine Kd.R_append k36 (w0 := w0) w0.heap.size rfl (.tmp 82) (.tmp 84) 40 36 (.agg #[(.string ⟨#[]⟩), (.string ⟨#[]⟩)]) 32 rfl Tryz.underlying40 info36 rfl (by decide) (by omega) (.slice An out.length cn) out (⟨nm, av⟩ : S36) [.string nm, .string av] (fun k_ => w.heap.size ≤ k_) (fun _ => False) rfl ?aX ?aP (fun _ hk => hk.elim) ?aF ?aO ?aB ?aS ?aL ?_); (case aX => first | rfl | (go_simp; done) | (go_simp; rfl) | (simp; done) | (simp; rfl)); (case aP => exact k36_mkM _ _ _ (⟨nm, av⟩ : S36)); (case aF => exact fun k hk => Nat.le_trans HT8.out.kp.1 hk); (case aO => exact HT8.out.nr); (case aB => exact HT8.out.bl); (case aS => exact HT8.out.bl.size); (case aL => have := HL.out; omega); intro v6 w7 ho hb hg hat; have HTg := As9.mk (HT8.out.app ho hb hg); clear ho hb hg hat HT8 HTe HAe hx0 hx1 hz1 hz2 hf1 hf2))
        go_roundg n
        case measure => omega
        case rel => exact ⟨_, _, _, _, _, _, rfl, rfl, HM, HTg⟩
    ·skip
     refine box_step ?hg (N := 9) ?hd (cs := #[.string ⟨#[]⟩, .string ⟨#[]⟩]) (t := 36) ?hr ?_; (case hd => rfl); (case hg => rfl); (case hr => first | (go_simp; done) | (go_simp; rfl))
     intro ga hga wr13 hbox hb
     have HGA := As9.mk (show w.heap.size ≤ ga ∧ g < ga ∧ ∀ k, (Value.slice An out.length cn).ownBlock = some k → k < ga from by rw [hga]; exact ⟨HTd.out.kp.1, HTd.out.st.lt, fun k hk => Kd.R_lt HTd.out.nr k hk⟩)
     have HA := As9.mk hbox
     have n1_ := As9.mk (HTd.out.below hb)
     clear hb hga hbox HTd
     have HTd := n1_
     clear n1_
     refine hK.out _ _ ⟨cellS89_0 HTd.out.st.1, cellS89_1 HTd.out.st.1⟩ (fun hHeld => ?_)
     clear hK K
     refine nm_ ?_
     refine n1_ 9 (tB 16 9215) rfl fun K hK => ?_
     refine gS_ Tryz.func26 #[.string s, .int .i64 (wrap64 (p + 1))] ?_
     with_reducible refine (spec_XmlAttr.calls n s (wrap64 (p + 1)) nm av nx _ Ha.out).mono ?_
     rintro e wr9 ⟨rfl, hb⟩
     refine ⟨_, rfl, ?_⟩
     have n1_ := As9.mk (HTd.out.below hb)
     (try (have n6_ := As9.mk (blk_below HA.out hb); clear HA; have HA := n6_; clear n6_))
     clear hb HTd
     have HTd := n1_
     clear n1_
     refine hK.out _ _ ⟨cellS89_0 HTd.out.st.1, cellS89_1 HTd.out.st.1⟩ (fun hHeld => ?_)
     clear hK K
     refine nm_ ?_
     refine pg_ 10 (tB 16 10239) ?_
     refine pg_ 11 (tB 16 12287) ?_
     refine pg_ 12 (tS 16 14) ?_
     refine last_ (i := 14) (N := none) (tS 16 15) rfl rfl (by kernel_rfl) (by decide) (fun K hK => ?_)
     refine put_step2 ?hw ?hN 36 (.tmp 9) (.tmp 52) ?ho (g := ga) (u0 := .string nm) (u1 := .string av) ?ha ?hx (by kernel_rfl) HA.out rfl rfl ?_; (case hw => rfl); (case hN => rfl); (case ho => rfl); (case ha => rfl); (case hx => rfl)
     replace HA := As9.mk (blk_two HA.out (.string nm) (.string av))
     replace HTd := As9.mk (HTd.out.two_ HGA.out.1 HGA.out.2.1 HGA.out.2.2 (.string nm) (.string av))
     refine hK.out _ _ ?_
     clear hK K
     refine pq_ ?_
     refine done_ (by kernel_rfl) ?_
     generalize hwe : World.setCell _ _ _ = we at HA HTd ⊢
     clear hwe
     have he1 : (g = ga) = False := eq_false (Nat.ne_of_lt HGA.out.2.1)
     have he2 : (ga = g) = False := eq_false (Nat.ne_of_gt HGA.out.2.1)
     obtain ⟨hx0, hx1⟩ := bc2_ HA.out
     have hz1 := cellS89_1 HTd.out.st.1
     have hz2 := cellS89_2 HTd.out.st.1
     have hf1 := blk_frozen HTd.out.st.1 1
     have hf2 := blk_frozen HTd.out.st.1 2
     have H := HH.out
     by_cases d1 : nx < 0
     case pos =>
      rw [if_pos d1] at H
      simp only [Option.some.injEq, Prod.mk.injEq] at H
      obtain ⟨rfl, rfl, rfl, rfl, rfl⟩ := H
      go_wp2
      go_ret2
      exact ⟨_, rfl, HTd.out.ok_ false⟩
     case neg =>
     rw [if_neg d1] at H
     obtain ⟨hv, hhv, H⟩ := Option.bind_eq_some_iff.mp H
     have Hv := As9.mk hhv
     clear hhv
     cases hv with
     | true =>
      rw [if_pos rfl] at H
      simp only [Option.some.injEq, Prod.mk.injEq] at H
      obtain ⟨rfl, rfl, rfl, rfl, rfl⟩ := H
      go_wp2_with ((go_at_call 168; (with_reducible refine (spec_l4Has.calls n An cn out nm _ _ (Kd.R_reads' HTd.out.nr).2.2 (Kd.R_reads' HTd.out.nr).2.1 Hv.out).mono ?_); rintro e w6 ⟨rfl, hd⟩; have HTe := As9.mk (HTd.out.below hd.below); have HAe := As9.mk (blk_below HA.out hd.below); clear hd HTd HA hx0 hx1 hz1 hz2 hf1 hf2; obtain ⟨hx0, hx1⟩ := bc2_ HAe.out; have hz1 := cellS89_1 HTe.out.st.1; have hz2 := cellS89_2 HTe.out.st.1; have hf1 := blk_frozen HTe.out.st.1 1; have hf2 := blk_frozen HTe.out.st.1 2; have HT8 := As9.mk (HTe.out.at_ nx)))
      go_ret2
      exact ⟨_, rfl, HTe.out.ok_ false⟩
     | false =>
      rw [if_neg (by simp)] at H
      by_cases cx : nm.toList = [120, 109, 108, 110, 115]
      case pos =>
       rw [if_pos cx] at H
       have cxb : (nm.toList == [120, 109, 108, 110, 115]) = true := by rw [cx]; rfl
       have cxn : (!(nm.toList == [120, 109, 108, 110, 115])) = false := by rw [cx]; rfl
       clear cx
       cases told with
       | true =>
        rw [if_pos rfl] at H
        simp only [Option.some.injEq, Prod.mk.injEq] at H
        obtain ⟨rfl, rfl, rfl, rfl, rfl⟩ := H
        go_wp2_with ((go_at_call 168; (with_reducible refine (spec_l4Has.calls n An cn out nm _ _ (Kd.R_reads' HTd.out.nr).2.2 (Kd.R_reads' HTd.out.nr).2.1 Hv.out).mono ?_); rintro e w6 ⟨rfl, hd⟩; have HTe := As9.mk (HTd.out.below hd.below); have HAe := As9.mk (blk_below HA.out hd.below); clear hd HTd HA hx0 hx1 hz1 hz2 hf1 hf2; obtain ⟨hx0, hx1⟩ := bc2_ HAe.out; have hz1 := cellS89_1 HTe.out.st.1; have hz2 := cellS89_2 HTe.out.st.1; have hf1 := blk_frozen HTe.out.st.1 1; have hf2 := blk_frozen HTe.out.st.1 2; have HT8 := As9.mk (HTe.out.at_ nx)))
        go_ret2
        exact ⟨_, rfl, HTe.out.ok_ false⟩
       | false =>
        rw [if_neg (by simp)] at H
        obtain ⟨x, hx, H⟩ := Option.bind_eq_some_iff.mp H
        have Hx := As9.mk hx
        have HM := As9.mk H
        clear hx H
        by_cases d2 : x = about
        case pos =>
         have d2b : (x == about) = true := beq_iff_eq.mpr d2
         have HM2 : As9 (sattrsL n about s nx false out x true = some (r0, r1, r2, r3, r4)) := ⟨by have h := HM.out; rw [decide_eq_true d2] at h; exact h⟩
         clear d2
         go_wp2_with (first | (go_at_call 168; (with_reducible refine (spec_l4Has.calls n An cn out nm _ _ (Kd.R_reads' HTd.out.nr).2.2 (Kd.R_reads' HTd.out.nr).2.1 Hv.out).mono ?_); rintro e w6 ⟨rfl, hd⟩; have HTe := As9.mk (HTd.out.below hd.below); have HAe := As9.mk (blk_below HA.out hd.below); clear hd HTd HA hx0 hx1 hz1 hz2 hf1 hf2; obtain ⟨hx0, hx1⟩ := bc2_ HAe.out; have hz1 := cellS89_1 HTe.out.st.1; have hz2 := cellS89_2 HTe.out.st.1; have hf1 := blk_frozen HTe.out.st.1 1; have hf2 := blk_frozen HTe.out.st.1 2; have HT8 := As9.mk (HTe.out.at_ nx)) | (go_at_call 169; clear hx0 hx1 hz1 hz2 hf1 hf2; (with_reducible refine (spec_l19Space.calls n av x _ Hx.out).mono ?_); rintro e w8 ⟨rfl, hd⟩; have HTf := As9.mk (HT8.out.below hd.below); clear hd HT8 HTe HAe; have hz2 := cellS89_2 HTf.out.st.1; have hf2 := blk_frozen HTf.out.st.1 2))
         go_roundg n
         case measure => omega
         case rel => exact ⟨_, _, _, _, _, _, rfl, rfl, HM2, ⟨HTf.out.ok_ false⟩⟩
        case neg =>
         have d2b : (x == about) = false := beq_eq_false_iff_ne.mpr d2
         have HM2 : As9 (sattrsL n about s nx true out x true = some (r0, r1, r2, r3, r4)) := ⟨by have h := HM.out; rw [decide_eq_false d2] at h; exact h⟩
         clear d2
         go_wp2_with (first | (go_at_call 168; (with_reducible refine (spec_l4Has.calls n An cn out nm _ _ (Kd.R_reads' HTd.out.nr).2.2 (Kd.R_reads' HTd.out.nr).2.1 Hv.out).mono ?_); rintro e w6 ⟨rfl, hd⟩; have HTe := As9.mk (HTd.out.below hd.below); have HAe := As9.mk (blk_below HA.out hd.below); clear hd HTd HA hx0 hx1 hz1 hz2 hf1 hf2; obtain ⟨hx0, hx1⟩ := bc2_ HAe.out; have hz1 := cellS89_1 HTe.out.st.1; have hz2 := cellS89_2 HTe.out.st.1; have hf1 := blk_frozen HTe.out.st.1 1; have hf2 := blk_frozen HTe.out.st.1 2; have HT8 := As9.mk (HTe.out.at_ nx)) | (go_at_call 169; clear hx0 hx1 hz1 hz2 hf1 hf2; (with_reducible refine (spec_l19Space.calls n av x _ Hx.out).mono ?_); rintro e w8 ⟨rfl, hd⟩; have HTf := As9.mk (HT8.out.below hd.below); clear hd HT8 HTe HAe; have hz2 := cellS89_2 HTf.out.st.1; have hf2 := blk_frozen HTf.out.st.1 2))
         go_roundg n
         case measure => omega
         case rel => exact ⟨_, _, _, _, _, _, rfl, rfl, HM2, HTf⟩
      case neg =>
       rw [if_neg cx] at H
       have cxb : (nm.toList == [120, 109, 108, 110, 115]) = false := beq_eq_false_iff_ne.mpr cx
       have cxn : (!(nm.toList == [120, 109, 108, 110, 115])) = true := by rw [cxb]; rfl
       clear cx
       split at H
       case isFalse => cases H
       case isTrue hl =>
        have HL := As9.mk hl
        have HM := As9.mk H
        clear hl H
        go_wp2_with (first | (go_at_call 168; (with_reducible refine (spec_l4Has.calls n An cn out nm _ _ (Kd.R_reads' HTd.out.nr).2.2 (Kd.R_reads' HTd.out.nr).2.1 Hv.out).mono ?_); rintro e w6 ⟨rfl, hd⟩; have HTe := As9.mk (HTd.out.below hd.below); have HAe := As9.mk (blk_below HA.out hd.below); clear hd HTd HA hx0 hx1 hz1 hz2 hf1 hf2; obtain ⟨hx0, hx1⟩ := bc2_ HAe.out; have hz1 := cellS89_1 HTe.out.st.1; have hz2 := cellS89_2 HTe.out.st.1; have hf1 := blk_frozen HTe.out.st.1 1; have hf2 := blk_frozen HTe.out.st.1 2; have HT8 := As9.mk (HTe.out.at_ nx)) | ((with_reducible refine gate_builtin (b := .append) (xs := #[.tmp 82, .tmp 84]) rfl ?_); at_builtin; go_loud (refine Kd.R_append k36 (w0 := w0) w0.heap.size rfl (.tmp 82) (.tmp 84) 40 36 (.agg #[(.string ⟨#[]⟩), (.string ⟨#[]⟩)]) 32 rfl Tryz.underlying40 info36 rfl (by decide) (by omega) (.slice An out.length cn) out (⟨nm, av⟩ : S36) [.string nm, .string av] (fun k_ => w.heap.size ≤ k_) (fun _ => False) rfl ?aX ?aP (fun _ hk => hk.elim) ?aF ?aO ?aB ?aS ?aL ?_); (case aX => first | rfl | (go_simp; done) | (go_simp; rfl) | (simp; done) | (simp; rfl)); (case aP => exact k36_mkM _ _ _ (⟨nm, av⟩ : S36)); (case aF => exact fun k hk => Nat.le_trans HT8.out.kp.1 hk); (case aO => exact HT8.out.nr); (case aB => exact HT8.out.bl); (case aS => exact HT8.out.bl.size); (case aL => have := HL.out; omega); intro v6 w7 ho hb hg hat; have HTg := As9.mk (HT8.out.app ho hb hg); clear ho hb hg hat HT8 HTe HAe hx0 hx1 hz1 hz2 hf1 hf2))
        go_roundg n
        case measure => omega
        case rel => exact ⟨_, _, _, _, _, _, rfl, rfl, HM, HTg⟩
set_option maxHeartbeats 8000000
set_option maxRecDepth 100000
def strings_Index.f (a0 : ByteArray) (a1 : ByteArray) : Option Int := if a0.size < 4294967281 then some (Lib.index a0.data.toList a1.data.toList) else none
theorem strings_Index.calls (a0 : ByteArray) (a1 : ByteArray) (r : Int) (w : World) (hL : LibOk w) (h : strings_Index.f a0 a1 = some r) :
  Calls Tryz.prog 78 #[.string a0, .string a1] w fun e w' => e = .returned (.int .i64 r) ∧ Drawn0 w w' := by
 unfold strings_Index.f at h
 have hs : a0.size < 4294967281 := by
  by_cases hs : a0.size < 4294967281
  ·exact hs
  ·rw [if_neg hs] at h; cases h
 rw [if_pos hs] at h
 obtain rfl := Option.some.inj h
 obtain ⟨m, hm⟩ := hL.maxLen
 exact (Tryz.strings_Index a0 a1 m w hs hm).mono fun e w' hh => ⟨hh.1, by rw [hh.2]; exact Drawn0.refl _⟩
set_option maxHeartbeats 8000000
set_option maxRecDepth 100000
def impl_Signs.l0 : Nat → ByteArray → List Int → Int → Option (List Int)
 | 0, _, _, _ => none
 | k + 1, x0, x3, x4 => if x4 < (x0.size : Int) then ((impl_getSign.f k x0 x4).bind fun bt389 => (if x3.length < 17592186044416 then (impl_Signs.l0 k x0 (x3 ++ [bt389.1]) (wrap64 (x4 + bt389.2))) else (none))) else (some x3)
def impl_Signs.f (k : Nat) (a0 : ByteArray) : Option (List Int) := impl_Signs.l0 k a0 ([] : List Int) 0
theorem impl_Signs.mono_l : ∀ k, (∀ y0 y1 y2, LeO (impl_Signs.l0 k y0 y1 y2) (impl_Signs.l0 (k + 1) y0 y1 y2))
 | 0 => fun _ _ _ r h => by simp [impl_Signs.l0] at h
 | k + 1 => by
  have ih0 := impl_Signs.mono_l k
  ·intro y0 y1 y2
   unfold impl_Signs.l0
   with_reducible repeat' first | exact ih0 _ _ _ | exact impl_getSign.mono _ _ _ | apply LeO.refl | apply LeO.none | apply LeO.ite | apply LeO.bind | intro
theorem impl_Signs.mono : ∀ a0 k, LeO (impl_Signs.f k a0) (impl_Signs.f (k + 1) a0) := by
 intro a0 k
 have ih0 := impl_Signs.mono_l k
 unfold impl_Signs.f
 with_reducible repeat' first | exact ih0 _ _ _ | exact impl_getSign.mono _ _ _ | apply LeO.refl | apply LeO.none | apply LeO.ite | apply LeO.bind | intro
theorem impl_Signs.calls (k : Nat) (a0 : ByteArray) (r : List Int) (w : World) (h : impl_Signs.f k a0 = some r) :
  Calls Tryz.prog 82 #[.string a0] w fun e w' => ∃ v0_ : Value, e = .returned (v0_) ∧ Kd.R (Kd.int .i64) 3 w' w.heap.size (fun _ => True) v0_ r ∧ Below w.heap.size w w' := by
 have HB := As9.mk (Below.refl w.heap.size w)
 have H : (impl_Signs.l0 k a0 ([] : List Int) 0) = some r := h
 clear h
 have H' := As9.mk H
 clear H
 go_enter Tryz.func82, Tryz.ntmps82
 go_wp2
 go_loopg [3, 4] k (fun kq v3 v4 w' => ∃ (x3_1 : List Int) (x4_1 : Int), v4 = .int .i64 x4_1 ∧ As9 (impl_Signs.l0 kq a0 x3_1 x4_1 = some r) ∧ As9 (kq ≤ k) ∧ As9 (Kd.R (Kd.int .i64) 3 w' w.heap.size (fun _ => True) v3 x3_1) ∧ As9 (Below w.heap.size w w'))
 case atStart => exact ⟨(([] : List Int)), (0), e2_, H', ⟨Nat.le_refl _⟩, ⟨by first | exact Kd.R_nil _ _ _ _ _ | exact Kd.N_nil _ _ _ _ _ | exact Kd.V_nil _ _ _ _ _ | exact Kd.Q_nil _ _ _ _ _ | exact Kd.S_nil _ _ _ _ _⟩, ⟨hB_⟩⟩
 case round =>
  clear H'
  obtain ⟨x3_1, x4_1, rfl, HA, HK1, HO_3, HB⟩ := hrel
  cases gk with
  | zero => exact absurd HA.out (by simp [impl_Signs.l0])
  | succ k1 =>
   have H := HA.out
   clear HA
   simp only [impl_Signs.l0] at H
   by_cases c2 : x4_1 < (a0.size : Int)
   ·rw [if_pos c2] at H
    have c2b0 := decide_eq_true c2
    clear c2
    obtain ⟨⟨t389, t390⟩, A3, H⟩ := ob_ H
    (try dsimp only at H)
    obtain ⟨c4, H⟩ := ifn_ H
    have LMc4 := As9.mk c4
    clear c4
    obtain ⟨y391, hy391⟩ : ∃ y_ : List Int, y_ = (x3_1 ++ [t389]) := ⟨_, rfl⟩
    replace H : (impl_Signs.l0 k1 a0 y391 (wrap64 (x4_1 + t390))) = some r := by first | (rw [hy391]; with_reducible exact H) | (have H2_ := (Option.bind_some _ _).symm.trans H; rw [hy391]; with_reducible exact H2_) | (have H2_ := (Option.bind_some _ _).symm.trans H; with_reducible exact H2_) | with_reducible exact H | (rw [hy391]; exact H) | exact H
    have Ny391 := As9.mk hy391
    clear hy391
    have H' := As9.mk H
    clear H
    go_wp2_with (first | ((with_reducible refine gC_ 106 ?_); refine gL_ 14 Tryz.func106 #[.string a0, .int .i64 x4_1] ?_; (with_reducible refine (impl_getSign.calls k1 a0 x4_1 t389 t390 _ A3.out).mono ?_); rintro e w' ⟨rfl, ⟨nd, rfl⟩⟩; refine ⟨_, rfl, ?_⟩) | ((with_reducible refine gate_builtin (b := .append) (xs := #[.tmp 17, .tmp 19]) rfl ?_); at_builtin; refine Kd.R_append (Kd.int .i64) (w0 := w) w.heap.size rfl (.tmp 17) (.tmp 19) 85 3 (.int .i64 0) 8 rfl Tryz.underlying85 info3 rfl (by decide) (by omega) u3 x3_1 t389 [.int .i64 t389] (fun _ => True) (fun _ => False) rfl rfl ?aP (fun _ hk => hk.elim) ?aF ?aO ?aB ?aS ?aL ?_; (case aP => exact rfl); (case aB => exact hB_); (case aF => exact (fun _ _ => trivial)); (case aO => exact (by (with_reducible repeat (first | apply Kd.R_alloc | apply Kd.R_drewN | apply Kd.R_drew)); exact HO_3.out)); (case aS => exact (below_size hB_)); (case aL => have := LMc4.out; omega); intro v392 w5 ho hb hg hat; rw [← Ny391.out] at ho; replace HB := As9.mk (hb); have HO393 := As9.mk (ho); clear HO_3; clear ho hb hg hat))
    go_roundg k1
    case measure => have := HK1.out; omega
    case rel => exact ⟨(y391), (wrap64 (x4_1 + t390)), e2_, H', ⟨by have := HK1.out; omega⟩, ⟨by (with_reducible repeat (first | apply Kd.R_alloc | apply Kd.R_drewN | apply Kd.R_drew)); exact HO393.out⟩, ⟨hB_⟩⟩
   ·rw [if_neg c2] at H
    have c2b0 := decide_eq_false c2
    clear c2
    obtain rfl := Option.some.inj H
    go_wp2
    go_ret
    exact ⟨_, e1_, by (with_reducible repeat (first | apply Kd.R_alloc | apply Kd.R_drewN | apply Kd.R_drew)); exact HO_3.out, hB_⟩
set_option maxHeartbeats 8000000
set_option maxRecDepth 100000
def impl_Clean.f (k : Nat) (a0 : ByteArray) : Option (ByteArray) := (impl_Signs.f k a0).bind fun t394 => ((impl_SignText.f k t394).bind fun t397 => (some t397))
theorem impl_Clean.mono : ∀ a0 k, LeO (impl_Clean.f k a0) (impl_Clean.f (k + 1) a0) := by
 intro a0 k
 unfold impl_Clean.f
 with_reducible repeat' first | exact impl_SignText.mono _ _ | exact impl_Signs.mono _ _ | apply LeO.refl | apply LeO.none | apply LeO.ite | apply LeO.bind | intro
theorem impl_Clean.calls (k : Nat) (a0 : ByteArray) (r : ByteArray) (w : World) (h : impl_Clean.f k a0 = some r) :
  Calls Tryz.prog 130 #[.string a0] w fun e w' => e = .returned (.string r) ∧ Below w.heap.size w w' := by
 have HB := As9.mk (Below.refl w.heap.size w)
 have H : ((impl_Signs.f k a0).bind fun t394 => ((impl_SignText.f k t394).bind fun t397 => (some t397))) = some r := h
 clear h
 obtain ⟨t394, A2, H⟩ := ob_ H
 (try dsimp only at H)
 obtain ⟨t397, A3, H⟩ := ob_ H
 (try dsimp only at H)
 obtain rfl := Option.some.inj H
 go_enter Tryz.func130, Tryz.ntmps130
 go_wp2_with (first | ((with_reducible refine gC_ 82 ?_); refine gL_ 4 Tryz.func82 #[.string a0] ?_; (with_reducible refine (impl_Signs.calls k a0 t394 _ A2.out).mono ?_); rintro e w4 ⟨v395, rfl, ho0, hb⟩; refine ⟨_, rfl, ?_⟩; have HO396 := As9.mk (Kd.R_lower ho0 (below_size hB_)); replace HB := bS_ hb; clear hb; (try clear ho0); obtain ⟨Ao5, co5, eo5⟩ := Kd.R_slice HO396.out; subst eo5) | ((with_reducible refine gC_ 167 ?_); refine gL_ 5 Tryz.func167 #[.slice Ao5 t394.length co5] ?_; (with_reducible refine (impl_SignText.calls k _ _ t394 t397 _ ?side1 ?side2 A3.out).mono ?_); (case side1 => repeat (first | exact (Kd.R_reads' HO396.out).2.2 | (with_reducible refine Kd.C_alloc ?_ _) | (with_reducible refine Kd.C_drewN ?_ _) | (with_reducible refine Kd.C_drew ?_))); (case side2 => exact (Kd.R_reads' HO396.out).2.1); rintro e w6 ⟨rfl, hb⟩; refine ⟨_, rfl, ?_⟩; replace HO396 := As9.mk (Kd.R_below (by (with_reducible repeat (first | apply Kd.R_alloc | apply Kd.R_drewN | apply Kd.R_drew)); exact HO396.out) hb); replace HB := bS_ hb; clear hb))
 go_ret
 exact ⟨e1_, hB_⟩
set_option maxHeartbeats 8000000
set_option maxRecDepth 100000
def impl_CleanOk.f (k : Nat) (a0 : ByteArray) : Option (Bool) := (impl_Clean.f k a0).bind fun t398 => (some (t398.toList == a0.toList))
theorem impl_CleanOk.mono : ∀ a0 k, LeO (impl_CleanOk.f k a0) (impl_CleanOk.f (k + 1) a0) := by
 intro a0 k
 unfold impl_CleanOk.f
 with_reducible repeat' first | exact impl_Clean.mono _ _ | apply LeO.refl | apply LeO.none | apply LeO.ite | apply LeO.bind | intro
theorem impl_CleanOk.calls (k : Nat) (a0 : ByteArray) (r : Bool) (w : World) (h : impl_CleanOk.f k a0 = some r) :
  Calls Tryz.prog 83 #[.string a0] w fun e w' => e = .returned (.bool r) ∧ Below w.heap.size w w' := by
 have HB := As9.mk (Below.refl w.heap.size w)
 have H : ((impl_Clean.f k a0).bind fun t398 => (some (t398.toList == a0.toList))) = some r := h
 clear h
 obtain ⟨t398, A2, H⟩ := ob_ H
 (try dsimp only at H)
 obtain rfl := Option.some.inj H
 go_enter Tryz.func83, Tryz.ntmps83
 go_wp2_with (first | ((with_reducible refine gC_ 130 ?_); refine gL_ 4 Tryz.func130 #[.string a0] ?_; (with_reducible refine (impl_Clean.calls k a0 t398 _ A2.out).mono ?_); rintro e w3 ⟨rfl, hb⟩; refine ⟨_, rfl, ?_⟩; replace HB := bS_ hb; clear hb))
 go_ret
 exact ⟨e1_, hB_⟩
set_option maxHeartbeats 8000000
set_option maxRecDepth 100000
def impl_TextOk.l0 : Nat → ByteArray → List Int → Int → Int → Option (Bool)
 | 0, _, _, _, _ => none
 | k + 1, x0, x6, x7, x8 => if x8 < x7 then (if 0 ≤ x8 then (if x8 < (x6.length : Int) then ((impl_IsText.f (rd x6 x8)).bind fun t403 => (if t403 = true then (impl_TextOk.l0 k x0 x6 x7 (wrap64 (x8 + 1))) else (some false))) else (none)) else (none)) else ((impl_CleanOk.f k x0).bind fun t404 => (some t404))
def impl_TextOk.f (k : Nat) (a0 : ByteArray) : Option (Bool) := (impl_Signs.f k a0).bind fun t399 => (impl_TextOk.l0 k a0 t399 (t399.length : Int) 0)
theorem impl_TextOk.mono_l : ∀ k, (∀ y0 y1 y2 y3, LeO (impl_TextOk.l0 k y0 y1 y2 y3) (impl_TextOk.l0 (k + 1) y0 y1 y2 y3))
 | 0 => fun _ _ _ _ r h => by simp [impl_TextOk.l0] at h
 | k + 1 => by
  have ih0 := impl_TextOk.mono_l k
  ·intro y0 y1 y2 y3
   unfold impl_TextOk.l0
   with_reducible repeat' first | exact ih0 _ _ _ _ | exact impl_CleanOk.mono _ _ | exact impl_Signs.mono _ _ | apply LeO.refl | apply LeO.none | apply LeO.ite | apply LeO.bind | intro
theorem impl_TextOk.mono : ∀ a0 k, LeO (impl_TextOk.f k a0) (impl_TextOk.f (k + 1) a0) := by
 intro a0 k
 have ih0 := impl_TextOk.mono_l k
 unfold impl_TextOk.f
 with_reducible repeat' first | exact ih0 _ _ _ _ | exact impl_CleanOk.mono _ _ | exact impl_Signs.mono _ _ | apply LeO.refl | apply LeO.none | apply LeO.ite | apply LeO.bind | intro
theorem impl_TextOk.calls (k : Nat) (a0 : ByteArray) (r : Bool) (w : World) (h : impl_TextOk.f k a0 = some r) :
  Calls Tryz.prog 30 #[.string a0] w fun e w' => e = .returned (.bool r) ∧ Below w.heap.size w w' := by
 have HB := As9.mk (Below.refl w.heap.size w)
 have H : ((impl_Signs.f k a0).bind fun t399 => (impl_TextOk.l0 k a0 t399 (t399.length : Int) 0)) = some r := h
 clear h
 obtain ⟨t399, A2, H⟩ := ob_ H
 (try dsimp only at H)
 have H' := As9.mk H
 clear H
 go_enter Tryz.func30, Tryz.ntmps30
 go_wp2_with (first | ((with_reducible refine gC_ 82 ?_); refine gL_ 6 Tryz.func82 #[.string a0] ?_; (with_reducible refine (impl_Signs.calls k a0 t399 _ A2.out).mono ?_); rintro e w3 ⟨v400, rfl, ho0, hb⟩; refine ⟨_, rfl, ?_⟩; have HO401 := As9.mk (Kd.R_lower ho0 (below_size hB_)); replace HB := bS_ hb; clear hb; (try clear ho0); obtain ⟨Ao4, co4, eo4⟩ := Kd.R_slice HO401.out; subst eo4))
 go_loopg [8] k (fun kq v8 w' => ∃ (x8_1 : Int), v8 = .int .i64 x8_1 ∧ As9 (impl_TextOk.l0 kq a0 t399 (t399.length : Int) x8_1 = some r) ∧ As9 (kq ≤ k) ∧ As9 (Kd.R (Kd.int .i64) 3 w' w.heap.size (fun _ => True) (.slice Ao4 t399.length co4) t399) ∧ As9 (Below w.heap.size w w'))
 case atStart => exact ⟨(0), e2_, H', ⟨Nat.le_refl _⟩, ⟨by (with_reducible repeat (first | apply Kd.R_alloc | apply Kd.R_drewN | apply Kd.R_drew)); exact HO401.out⟩, ⟨hB_⟩⟩
 case round =>
  clear H'
  try clear p2
  try clear c3
  obtain ⟨x8_1, rfl, HA, HK1, HO_6, HB⟩ := hrel
  cases gk with
  | zero => exact absurd HA.out (by simp [impl_TextOk.l0])
  | succ k1 =>
   have H := HA.out
   clear HA
   simp only [impl_TextOk.l0] at H
   by_cases c5 : x8_1 < (t399.length : Int)
   ·rw [if_pos c5] at H
    have c5b0 := decide_eq_true c5
    clear c5
    obtain ⟨c6, H⟩ := ifn_ H
    have c6b0 := decide_eq_true c6
    clear c6
    obtain ⟨c7, H⟩ := ifn_ H
    have c7b0 := decide_eq_true c7
    clear c7
    obtain ⟨t403, A8, H⟩ := ob_ H
    (try dsimp only at H)
    by_cases c9 : t403 = true
    ·subst c9
     rw [if_pos rfl] at H
     have H' := As9.mk H
     clear H
     have p402 : 0 ≤ (x8_1 : Int) := dT_
     have q402 : x8_1 < (t399.length : Int) := dT_
     obtain ⟨ad402, e402, hx402_0⟩ := Kd.at_int (Kd.R_reads' HO_6.out).2.2 x8_1 p402 q402
     cases e402
     replace p402 := eq_true p402
     replace q402 := eq_true q402
     go_wp2_with (first | ((with_reducible refine gC_ 67 ?_); refine gL_ 13 Tryz.func67 #[.int .i64 (rd t399 x8_1)] ?_; (with_reducible refine (impl_IsText.calls (rd t399 x8_1) true _ A8.out).mono ?_); rintro e w' ⟨rfl, ⟨nd, rfl⟩⟩; refine ⟨_, rfl, ?_⟩))
     go_roundg k1
     case measure => have := HK1.out; omega
     case rel => exact ⟨(wrap64 (x8_1 + 1)), e2_, H', ⟨by have := HK1.out; omega⟩, ⟨by (with_reducible repeat (first | apply Kd.R_alloc | apply Kd.R_drewN | apply Kd.R_drew)); exact HO_6.out⟩, ⟨hB_⟩⟩
    ·replace c9 := Bool.eq_false_iff.mpr c9
     subst c9
     rw [if_neg nF_] at H
     obtain rfl := Option.some.inj H
     have p402 : 0 ≤ (x8_1 : Int) := dT_
     have q402 : x8_1 < (t399.length : Int) := dT_
     obtain ⟨ad402, e402, hx402_0⟩ := Kd.at_int (Kd.R_reads' HO_6.out).2.2 x8_1 p402 q402
     cases e402
     replace p402 := eq_true p402
     replace q402 := eq_true q402
     go_wp2_with (first | ((with_reducible refine gC_ 67 ?_); refine gL_ 13 Tryz.func67 #[.int .i64 (rd t399 x8_1)] ?_; (with_reducible refine (impl_IsText.calls (rd t399 x8_1) false _ A8.out).mono ?_); rintro e w' ⟨rfl, ⟨nd, rfl⟩⟩; refine ⟨_, rfl, ?_⟩))
     go_ret
     exact ⟨e1_, hB_⟩
   ·rw [if_neg c5] at H
    have c5b0 := decide_eq_false c5
    clear c5
    obtain ⟨t404, A10, H⟩ := ob_ H
    (try dsimp only at H)
    obtain rfl := Option.some.inj H
    go_wp2_with (first | ((with_reducible refine gC_ 83 ?_); refine gL_ 17 Tryz.func83 #[.string a0] ?_; (with_reducible refine (impl_CleanOk.calls k1 a0 t404 _ A10.out).mono ?_); rintro e w11 ⟨rfl, hb⟩; refine ⟨_, rfl, ?_⟩; replace HO_6 := As9.mk (Kd.R_below (by (with_reducible repeat (first | apply Kd.R_alloc | apply Kd.R_drewN | apply Kd.R_drew)); exact HO_6.out) hb); replace HB := bS_ hb; clear hb))
    go_ret
    exact ⟨e1_, hB_⟩
set_option maxHeartbeats 8000000
set_option maxRecDepth 100000
def strings_Contains.f (a0 : ByteArray) (a1 : ByteArray) : Option Bool := if a0.size < 4294967281 then some (Lib.contains a0.data.toList a1.data.toList) else none
theorem strings_Contains.calls (a0 : ByteArray) (a1 : ByteArray) (r : Bool) (w : World) (hL : LibOk w) (h : strings_Contains.f a0 a1 = some r) :
  Calls Tryz.prog 128 #[.string a0, .string a1] w fun e w' => e = .returned (.bool r) ∧ Drawn0 w w' := by
 unfold strings_Contains.f at h
 have hs : a0.size < 4294967281 := by
  by_cases hs : a0.size < 4294967281
  ·exact hs
  ·rw [if_neg hs] at h; cases h
 rw [if_pos hs] at h
 obtain rfl := Option.some.inj h
 obtain ⟨m, hm⟩ := hL.maxLen
 exact (Tryz.strings_Contains a0 a1 m w hs hm).mono fun e w' hh => ⟨hh.1, by rw [hh.2]; exact Drawn0.refl _⟩
set_option maxHeartbeats 8000000
set_option maxRecDepth 100000
def impl_NoteOk.f (k : Nat) (a0 : ByteArray) : Option (Bool) := (impl_TextOk.f k a0).bind fun t405 => (if t405 = true then ((strings_Contains.f a0 (⟨#[13]⟩ : ByteArray)).bind fun t406 => (if t406 = true then (some false) else ((strings_Contains.f a0 (⟨#[45, 45]⟩ : ByteArray)).bind fun t407 => (if t407 = true then (some false) else ((strings_HasSuffix.f a0 (⟨#[45]⟩ : ByteArray)).bind fun t408 => (some (!t408))))))) else (some false))
theorem impl_NoteOk.mono : ∀ a0 k, LeO (impl_NoteOk.f k a0) (impl_NoteOk.f (k + 1) a0) := by
 intro a0 k
 unfold impl_NoteOk.f
 with_reducible repeat' first | exact impl_TextOk.mono _ _ | apply LeO.refl | apply LeO.none | apply LeO.ite | apply LeO.bind | intro
theorem impl_NoteOk.calls (k : Nat) (a0 : ByteArray) (r : Bool) (w : World) (hL : LibOk w) (h : impl_NoteOk.f k a0 = some r) :
  Calls Tryz.prog 79 #[.string a0] w fun e w' => e = .returned (.bool r) ∧ Below w.heap.size w w' := by
 have HB := As9.mk (Below.refl w.heap.size w)
 have H : ((impl_TextOk.f k a0).bind fun t405 => (if t405 = true then ((strings_Contains.f a0 (⟨#[13]⟩ : ByteArray)).bind fun t406 => (if t406 = true then (some false) else ((strings_Contains.f a0 (⟨#[45, 45]⟩ : ByteArray)).bind fun t407 => (if t407 = true then (some false) else ((strings_HasSuffix.f a0 (⟨#[45]⟩ : ByteArray)).bind fun t408 => (some (!t408))))))) else (some false))) = some r := h
 clear h
 obtain ⟨t405, A2, H⟩ := ob_ H
 (try dsimp only at H)
 by_cases c3 : t405 = true
 ·subst c3
  rw [if_pos rfl] at H
  obtain ⟨t406, A4, H⟩ := ob_ H
  (try dsimp only at H)
  by_cases c5 : t406 = true
  ·subst c5
   rw [if_pos rfl] at H
   obtain rfl := Option.some.inj H
   go_enter Tryz.func79, Tryz.ntmps79
   go_wp2_with (first | ((with_reducible refine gC_ 30 ?_); refine gL_ 4 Tryz.func30 #[.string a0] ?_; (with_reducible refine (impl_TextOk.calls k a0 true _ A2.out).mono ?_); rintro e w6 ⟨rfl, hb⟩; refine ⟨_, rfl, ?_⟩; replace HB := bS_ hb; clear hb) | (go_at_call 128; (with_reducible refine (strings_Contains.calls a0 (⟨#[13]⟩ : ByteArray) true _ ?side1 A4.out).mono ?_); (case side1 => first | exact hL | exact LibOk.below hL hB_); rintro e w' ⟨rfl, ⟨nd, rfl⟩⟩))
   go_ret
   exact ⟨e1_, hB_⟩
  ·replace c5 := Bool.eq_false_iff.mpr c5
   subst c5
   rw [if_neg nF_] at H
   obtain ⟨t407, A7, H⟩ := ob_ H
   (try dsimp only at H)
   by_cases c8 : t407 = true
   ·subst c8
    rw [if_pos rfl] at H
    obtain rfl := Option.some.inj H
    go_enter Tryz.func79, Tryz.ntmps79
    go_wp2_with (first | ((with_reducible refine gC_ 30 ?_); refine gL_ 4 Tryz.func30 #[.string a0] ?_; (with_reducible refine (impl_TextOk.calls k a0 true _ A2.out).mono ?_); rintro e w9 ⟨rfl, hb⟩; refine ⟨_, rfl, ?_⟩; replace HB := bS_ hb; clear hb) | (go_at_call 128; (with_reducible refine (strings_Contains.calls a0 (⟨#[13]⟩ : ByteArray) false _ ?side1 A4.out).mono ?_); (case side1 => first | exact hL | exact LibOk.below hL hB_); rintro e w' ⟨rfl, ⟨nd, rfl⟩⟩) | (go_at_call 128; (with_reducible refine (strings_Contains.calls a0 (⟨#[45, 45]⟩ : ByteArray) true _ ?side1 A7.out).mono ?_); (case side1 => first | exact hL | exact LibOk.below hL hB_); rintro e w' ⟨rfl, ⟨nd, rfl⟩⟩))
    go_ret
    exact ⟨e1_, hB_⟩
   ·replace c8 := Bool.eq_false_iff.mpr c8
    subst c8
    rw [if_neg nF_] at H
    obtain ⟨t408, A10, H⟩ := ob_ H
    (try dsimp only at H)
    obtain rfl := Option.some.inj H
    go_enter Tryz.func79, Tryz.ntmps79
    go_wp2_with (first | ((with_reducible refine gC_ 30 ?_); refine gL_ 4 Tryz.func30 #[.string a0] ?_; (with_reducible refine (impl_TextOk.calls k a0 true _ A2.out).mono ?_); rintro e w11 ⟨rfl, hb⟩; refine ⟨_, rfl, ?_⟩; replace HB := bS_ hb; clear hb) | (go_at_call 128; (with_reducible refine (strings_Contains.calls a0 (⟨#[13]⟩ : ByteArray) false _ ?side1 A4.out).mono ?_); (case side1 => first | exact hL | exact LibOk.below hL hB_); rintro e w' ⟨rfl, ⟨nd, rfl⟩⟩) | (go_at_call 128; (with_reducible refine (strings_Contains.calls a0 (⟨#[45, 45]⟩ : ByteArray) false _ ?side1 A7.out).mono ?_); (case side1 => first | exact hL | exact LibOk.below hL hB_); rintro e w' ⟨rfl, ⟨nd, rfl⟩⟩) | (go_at_call 72; (with_reducible refine (strings_HasSuffix.calls a0 (⟨#[45]⟩ : ByteArray) t408 _ A10.out).mono ?_); rintro e w' ⟨rfl, ⟨nd, rfl⟩⟩))
    go_ret
    exact ⟨e1_, hB_⟩
 ·replace c3 := Bool.eq_false_iff.mpr c3
  subst c3
  rw [if_neg nF_] at H
  obtain rfl := Option.some.inj H
  go_enter Tryz.func79, Tryz.ntmps79
  go_wp2_with (first | ((with_reducible refine gC_ 30 ?_); refine gL_ 4 Tryz.func30 #[.string a0] ?_; (with_reducible refine (impl_TextOk.calls k a0 false _ A2.out).mono ?_); rintro e w12 ⟨rfl, hb⟩; refine ⟨_, rfl, ?_⟩; replace HB := bS_ hb; clear hb))
  go_ret
  exact ⟨e1_, hB_⟩
set_option maxHeartbeats 8000000
set_option maxRecDepth 100000
def impl_XmlNote.f (k : Nat) (a0 : ByteArray) (a1 : Int) : Option (ByteArray × Int) := (impl_inRange.f a1 0 (wrap64 ((a0.size : Int) - 1))).bind fun t409 => (if t409 = true then (if 0 ≤ a1 then (if a1 ≤ (a0.size : Int) then ((strings_CutPrefix.f (a0.extract (a1 : Int).toNat a0.size) (⟨#[60, 33, 45, 45]⟩ : ByteArray)).bind fun bt410 => ((strings_Index.f bt410.1 (⟨#[45, 45]⟩ : ByteArray)).bind fun t412 => (if bt410.2 = true then (if t412 < 0 then (some ((⟨#[]⟩ : ByteArray), (-1))) else (if 0 ≤ t412 then (if t412 ≤ (bt410.1.size : Int) then ((impl_NoteOk.f k (bt410.1.extract 0 (t412 : Int).toNat)).bind fun t413 => (if t413 = true then ((strings_HasPrefix.f (bt410.1.extract (t412 : Int).toNat bt410.1.size) (⟨#[45, 45, 62]⟩ : ByteArray)).bind fun t414 => (if t414 = true then (some (bt410.1.extract 0 (t412 : Int).toNat, wrap64 ((wrap64 ((wrap64 (a1 + 4)) + t412)) + 3))) else (some ((⟨#[]⟩ : ByteArray), (-1))))) else (some ((⟨#[]⟩ : ByteArray), (-1))))) else (none)) else (none))) else (some ((⟨#[]⟩ : ByteArray), (-1)))))) else (none)) else (none)) else (some ((⟨#[]⟩ : ByteArray), (-1))))
theorem impl_XmlNote.mono : ∀ a0 a1 k, LeO (impl_XmlNote.f k a0 a1) (impl_XmlNote.f (k + 1) a0 a1) := by
 intro a0 a1 k
 unfold impl_XmlNote.f
 with_reducible repeat' first | exact impl_NoteOk.mono _ _ | apply LeO.refl | apply LeO.none | apply LeO.ite | apply LeO.bind | intro
theorem impl_XmlNote.calls (k : Nat) (a0 : ByteArray) (a1 : Int) (r1 : ByteArray) (r2 : Int) (w : World) (hL : LibOk w) (h : impl_XmlNote.f k a0 a1 = some (r1, r2)) :
  Calls Tryz.prog 28 #[.string a0, .int .i64 a1] w fun e w' => e = .returned (.tuple #[.string r1, .int .i64 r2]) ∧ Below w.heap.size w w' := by
 have HB := As9.mk (Below.refl w.heap.size w)
 have H : ((impl_inRange.f a1 0 (wrap64 ((a0.size : Int) - 1))).bind fun t409 => (if t409 = true then (if 0 ≤ a1 then (if a1 ≤ (a0.size : Int) then ((strings_CutPrefix.f (a0.extract (a1 : Int).toNat a0.size) (⟨#[60, 33, 45, 45]⟩ : ByteArray)).bind fun bt410 => ((strings_Index.f bt410.1 (⟨#[45, 45]⟩ : ByteArray)).bind fun t412 => (if bt410.2 = true then (if t412 < 0 then (some ((⟨#[]⟩ : ByteArray), (-1))) else (if 0 ≤ t412 then (if t412 ≤ (bt410.1.size : Int) then ((impl_NoteOk.f k (bt410.1.extract 0 (t412 : Int).toNat)).bind fun t413 => (if t413 = true then ((strings_HasPrefix.f (bt410.1.extract (t412 : Int).toNat bt410.1.size) (⟨#[45, 45, 62]⟩ : ByteArray)).bind fun t414 => (if t414 = true then (some (bt410.1.extract 0 (t412 : Int).toNat, wrap64 ((wrap64 ((wrap64 (a1 + 4)) + t412)) + 3))) else (some ((⟨#[]⟩ : ByteArray), (-1))))) else (some ((⟨#[]⟩ : ByteArray), (-1))))) else (none)) else (none))) else (some ((⟨#[]⟩ : ByteArray), (-1)))))) else (none)) else (none)) else (some ((⟨#[]⟩ : ByteArray), (-1))))) = some (r1, r2) := h
 clear h
 obtain ⟨t409, A3, H⟩ := ob_ H
 (try dsimp only at H)
 by_cases c4 : t409 = true
 ·subst c4
  rw [if_pos rfl] at H
  obtain ⟨c5, H⟩ := ifn_ H
  have c5b0 := eq_true c5
  have c5b1 := decide_eq_true c5
  clear c5
  obtain ⟨c6, H⟩ := ifn_ H
  have c6b0 := eq_true c6
  have c6b1 := decide_eq_true c6
  clear c6
  obtain ⟨⟨t410, t411⟩, A7, H⟩ := ob_ H
  (try dsimp only at H)
  obtain ⟨t412, A8, H⟩ := ob_ H
  (try dsimp only at H)
  by_cases c9 : t411 = true
  ·subst c9
   rw [if_pos rfl] at H
   by_cases c10 : t412 < 0
   ·rw [if_pos c10] at H
    have c10b0 := decide_eq_true c10
    clear c10
    obtain ⟨rfl, rfl⟩ := pi_ H
    go_enter Tryz.func28, Tryz.ntmps28
    go_wp2_with (first | ((with_reducible refine gC_ 53 ?_); refine gL_ 13 Tryz.func53 #[.int .i64 a1, .int .i64 0, .int .i64 (wrap64 ((a0.size : Int) - 1))] ?_; (with_reducible refine (impl_inRange.calls a1 0 (wrap64 ((a0.size : Int) - 1)) true _ A3.out).mono ?_); rintro e w' ⟨rfl, ⟨nd, rfl⟩⟩; refine ⟨_, rfl, ?_⟩) | ((with_reducible refine gC_ 63 ?_); refine gL_ 19 Tryz.func63 #[.string (a0.extract (a1 : Int).toNat a0.size), .string (⟨#[60, 33, 45, 45]⟩ : ByteArray)] ?_; (with_reducible refine (strings_CutPrefix.calls (a0.extract (a1 : Int).toNat a0.size) (⟨#[60, 33, 45, 45]⟩ : ByteArray) t410 true _ A7.out).mono ?_); rintro e w' ⟨rfl, ⟨nd, rfl⟩⟩; refine ⟨_, rfl, ?_⟩) | ((with_reducible refine gC_ 78 ?_); refine gL_ 23 Tryz.func78 #[.string t410, .string (⟨#[45, 45]⟩ : ByteArray)] ?_; (with_reducible refine (strings_Index.calls t410 (⟨#[45, 45]⟩ : ByteArray) t412 _ ?side1 A8.out).mono ?_); (case side1 => first | exact hL | exact LibOk.below hL hB_); rintro e w' ⟨rfl, ⟨nd, rfl⟩⟩; refine ⟨_, rfl, ?_⟩))
    go_ret2
    exact ⟨e1_, hB_⟩
   ·rw [if_neg c10] at H
    have c10b0 := decide_eq_false c10
    clear c10
    obtain ⟨c11, H⟩ := ifn_ H
    have c11b0 := eq_true c11
    have c11b1 := decide_eq_true c11
    clear c11
    obtain ⟨c12, H⟩ := ifn_ H
    have c12b0 := eq_true c12
    have c12b1 := decide_eq_true c12
    clear c12
    obtain ⟨t413, A13, H⟩ := ob_ H
    (try dsimp only at H)
    by_cases c14 : t413 = true
    ·subst c14
     rw [if_pos rfl] at H
     have c15b0 := eq_true (dT_ : 0 ≤ t412)
     have c16b0 := eq_true (dT_ : t412 ≤ (t410.size : Int))
     obtain ⟨t414, A17, H⟩ := ob_ H
     (try dsimp only at H)
     by_cases c18 : t414 = true
     ·subst c18
      rw [if_pos rfl] at H
      have c19b0 := eq_true (dT_ : 0 ≤ t412)
      have c20b0 := eq_true (dT_ : t412 ≤ (t410.size : Int))
      obtain ⟨rfl, rfl⟩ := pi_ H
      go_enter Tryz.func28, Tryz.ntmps28
      go_wp2_with (first | ((with_reducible refine gC_ 53 ?_); refine gL_ 13 Tryz.func53 #[.int .i64 a1, .int .i64 0, .int .i64 (wrap64 ((a0.size : Int) - 1))] ?_; (with_reducible refine (impl_inRange.calls a1 0 (wrap64 ((a0.size : Int) - 1)) true _ A3.out).mono ?_); rintro e w' ⟨rfl, ⟨nd, rfl⟩⟩; refine ⟨_, rfl, ?_⟩) | ((with_reducible refine gC_ 63 ?_); refine gL_ 19 Tryz.func63 #[.string (a0.extract (a1 : Int).toNat a0.size), .string (⟨#[60, 33, 45, 45]⟩ : ByteArray)] ?_; (with_reducible refine (strings_CutPrefix.calls (a0.extract (a1 : Int).toNat a0.size) (⟨#[60, 33, 45, 45]⟩ : ByteArray) t410 true _ A7.out).mono ?_); rintro e w' ⟨rfl, ⟨nd, rfl⟩⟩; refine ⟨_, rfl, ?_⟩) | ((with_reducible refine gC_ 78 ?_); refine gL_ 23 Tryz.func78 #[.string t410, .string (⟨#[45, 45]⟩ : ByteArray)] ?_; (with_reducible refine (strings_Index.calls t410 (⟨#[45, 45]⟩ : ByteArray) t412 _ ?side1 A8.out).mono ?_); (case side1 => first | exact hL | exact LibOk.below hL hB_); rintro e w' ⟨rfl, ⟨nd, rfl⟩⟩; refine ⟨_, rfl, ?_⟩) | (go_at_call 79; (with_reducible refine (impl_NoteOk.calls k (t410.extract 0 (t412 : Int).toNat) true _ ?side1 A13.out).mono ?_); (case side1 => first | exact hL | exact LibOk.below hL hB_); rintro e w21 ⟨rfl, hb⟩; replace HB := bS_ hb; clear hb) | (go_at_call 76; (with_reducible refine (strings_HasPrefix.calls (t410.extract (t412 : Int).toNat t410.size) (⟨#[45, 45, 62]⟩ : ByteArray) true _ A17.out).mono ?_); rintro e w' ⟨rfl, ⟨nd, rfl⟩⟩))
      go_ret2
      exact ⟨e1_, hB_⟩
     ·replace c18 := Bool.eq_false_iff.mpr c18
      subst c18
      rw [if_neg nF_] at H
      obtain ⟨rfl, rfl⟩ := pi_ H
      go_enter Tryz.func28, Tryz.ntmps28
      go_wp2_with (first | ((with_reducible refine gC_ 53 ?_); refine gL_ 13 Tryz.func53 #[.int .i64 a1, .int .i64 0, .int .i64 (wrap64 ((a0.size : Int) - 1))] ?_; (with_reducible refine (impl_inRange.calls a1 0 (wrap64 ((a0.size : Int) - 1)) true _ A3.out).mono ?_); rintro e w' ⟨rfl, ⟨nd, rfl⟩⟩; refine ⟨_, rfl, ?_⟩) | ((with_reducible refine gC_ 63 ?_); refine gL_ 19 Tryz.func63 #[.string (a0.extract (a1 : Int).toNat a0.size), .string (⟨#[60, 33, 45, 45]⟩ : ByteArray)] ?_; (with_reducible refine (strings_CutPrefix.calls (a0.extract (a1 : Int).toNat a0.size) (⟨#[60, 33, 45, 45]⟩ : ByteArray) t410 true _ A7.out).mono ?_); rintro e w' ⟨rfl, ⟨nd, rfl⟩⟩; refine ⟨_, rfl, ?_⟩) | ((with_reducible refine gC_ 78 ?_); refine gL_ 23 Tryz.func78 #[.string t410, .string (⟨#[45, 45]⟩ : ByteArray)] ?_; (with_reducible refine (strings_Index.calls t410 (⟨#[45, 45]⟩ : ByteArray) t412 _ ?side1 A8.out).mono ?_); (case side1 => first | exact hL | exact LibOk.below hL hB_); rintro e w' ⟨rfl, ⟨nd, rfl⟩⟩; refine ⟨_, rfl, ?_⟩) | (go_at_call 79; (with_reducible refine (impl_NoteOk.calls k (t410.extract 0 (t412 : Int).toNat) true _ ?side1 A13.out).mono ?_); (case side1 => first | exact hL | exact LibOk.below hL hB_); rintro e w22 ⟨rfl, hb⟩; replace HB := bS_ hb; clear hb) | (go_at_call 76; (with_reducible refine (strings_HasPrefix.calls (t410.extract (t412 : Int).toNat t410.size) (⟨#[45, 45, 62]⟩ : ByteArray) false _ A17.out).mono ?_); rintro e w' ⟨rfl, ⟨nd, rfl⟩⟩))
      go_ret2
      exact ⟨e1_, hB_⟩
    ·replace c14 := Bool.eq_false_iff.mpr c14
     subst c14
     rw [if_neg nF_] at H
     obtain ⟨rfl, rfl⟩ := pi_ H
     go_enter Tryz.func28, Tryz.ntmps28
     go_wp2_with (first | ((with_reducible refine gC_ 53 ?_); refine gL_ 13 Tryz.func53 #[.int .i64 a1, .int .i64 0, .int .i64 (wrap64 ((a0.size : Int) - 1))] ?_; (with_reducible refine (impl_inRange.calls a1 0 (wrap64 ((a0.size : Int) - 1)) true _ A3.out).mono ?_); rintro e w' ⟨rfl, ⟨nd, rfl⟩⟩; refine ⟨_, rfl, ?_⟩) | ((with_reducible refine gC_ 63 ?_); refine gL_ 19 Tryz.func63 #[.string (a0.extract (a1 : Int).toNat a0.size), .string (⟨#[60, 33, 45, 45]⟩ : ByteArray)] ?_; (with_reducible refine (strings_CutPrefix.calls (a0.extract (a1 : Int).toNat a0.size) (⟨#[60, 33, 45, 45]⟩ : ByteArray) t410 true _ A7.out).mono ?_); rintro e w' ⟨rfl, ⟨nd, rfl⟩⟩; refine ⟨_, rfl, ?_⟩) | ((with_reducible refine gC_ 78 ?_); refine gL_ 23 Tryz.func78 #[.string t410, .string (⟨#[45, 45]⟩ : ByteArray)] ?_; (with_reducible refine (strings_Index.calls t410 (⟨#[45, 45]⟩ : ByteArray) t412 _ ?side1 A8.out).mono ?_); (case side1 => first | exact hL | exact LibOk.below hL hB_); rintro e w' ⟨rfl, ⟨nd, rfl⟩⟩; refine ⟨_, rfl, ?_⟩) | (go_at_call 79; (with_reducible refine (impl_NoteOk.calls k (t410.extract 0 (t412 : Int).toNat) false _ ?side1 A13.out).mono ?_); (case side1 => first | exact hL | exact LibOk.below hL hB_); rintro e w23 ⟨rfl, hb⟩; replace HB := bS_ hb; clear hb))
     go_ret2
     exact ⟨e1_, hB_⟩
  ·replace c9 := Bool.eq_false_iff.mpr c9
   subst c9
   rw [if_neg nF_] at H
   obtain ⟨rfl, rfl⟩ := pi_ H
   go_enter Tryz.func28, Tryz.ntmps28
   go_wp2_with (first | ((with_reducible refine gC_ 53 ?_); refine gL_ 13 Tryz.func53 #[.int .i64 a1, .int .i64 0, .int .i64 (wrap64 ((a0.size : Int) - 1))] ?_; (with_reducible refine (impl_inRange.calls a1 0 (wrap64 ((a0.size : Int) - 1)) true _ A3.out).mono ?_); rintro e w' ⟨rfl, ⟨nd, rfl⟩⟩; refine ⟨_, rfl, ?_⟩) | ((with_reducible refine gC_ 63 ?_); refine gL_ 19 Tryz.func63 #[.string (a0.extract (a1 : Int).toNat a0.size), .string (⟨#[60, 33, 45, 45]⟩ : ByteArray)] ?_; (with_reducible refine (strings_CutPrefix.calls (a0.extract (a1 : Int).toNat a0.size) (⟨#[60, 33, 45, 45]⟩ : ByteArray) t410 false _ A7.out).mono ?_); rintro e w' ⟨rfl, ⟨nd, rfl⟩⟩; refine ⟨_, rfl, ?_⟩) | ((with_reducible refine gC_ 78 ?_); refine gL_ 23 Tryz.func78 #[.string t410, .string (⟨#[45, 45]⟩ : ByteArray)] ?_; (with_reducible refine (strings_Index.calls t410 (⟨#[45, 45]⟩ : ByteArray) t412 _ ?side1 A8.out).mono ?_); (case side1 => first | exact hL | exact LibOk.below hL hB_); rintro e w' ⟨rfl, ⟨nd, rfl⟩⟩; refine ⟨_, rfl, ?_⟩))
   go_ret2
   exact ⟨e1_, hB_⟩
 ·replace c4 := Bool.eq_false_iff.mpr c4
  subst c4
  rw [if_neg nF_] at H
  obtain ⟨rfl, rfl⟩ := pi_ H
  go_enter Tryz.func28, Tryz.ntmps28
  go_wp2_with (first | ((with_reducible refine gC_ 53 ?_); refine gL_ 13 Tryz.func53 #[.int .i64 a1, .int .i64 0, .int .i64 (wrap64 ((a0.size : Int) - 1))] ?_; (with_reducible refine (impl_inRange.calls a1 0 (wrap64 ((a0.size : Int) - 1)) false _ A3.out).mono ?_); rintro e w' ⟨rfl, ⟨nd, rfl⟩⟩; refine ⟨_, rfl, ?_⟩))
  go_ret2
  exact ⟨e1_, hB_⟩
set_option maxHeartbeats 8000000
set_option maxRecDepth 100000
theorem blk_six {w : World} {g : Nat} {t : TypeId} {a0 a1 a2 a3 a4 a5 : Value} (h : w.heap[g]? = some (.cells #[a0, a1, a2, a3, a4, a5] t (0, 0))) (u0 u1 u2 u3 u4 u5 : Value) :
  ((((((w.setCell ⟨g, 0, none⟩ u0).setCell ⟨g, 1, none⟩ u1).setCell ⟨g, 2, none⟩ u2).setCell ⟨g, 3, none⟩ u3).setCell ⟨g, 4, none⟩ u4).setCell ⟨g, 5, none⟩ u5).heap[g]? = some (.cells #[u0, u1, u2, u3, u4, u5] t (0, 0)) :=
 blk_put (blk_put (blk_put (blk_put (blk_put (blk_put h 0 u0 rfl) 1 u1 rfl) 2 u2 rfl) 3 u3 rfl) 4 u4 rfl) 5 u5 rfl
theorem st_six {w0 w : World} {g gx : Nat} {s : ByteArray} {p : Int} {b : Bool} (h : IsS93 w0 w g s p b) (hne : g ≠ gx) (u0 u1 u2 u3 u4 u5 : Value) :
  IsS93 w0 ((((((w.setCell ⟨gx, 0, none⟩ u0).setCell ⟨gx, 1, none⟩ u1).setCell ⟨gx, 2, none⟩ u2).setCell ⟨gx, 3, none⟩ u3).setCell ⟨gx, 4, none⟩ u4).setCell ⟨gx, 5, none⟩ u5) g s p b :=
 (((((h.far (p := ⟨gx, 0, none⟩) hne u0).far (p := ⟨gx, 1, none⟩) hne u1).far (p := ⟨gx, 2, none⟩) hne u2).far (p := ⟨gx, 3, none⟩) hne u3).far (p := ⟨gx, 4, none⟩) hne u4).far (p := ⟨gx, 5, none⟩) hne u5
theorem below_six {w0 w : World} {gx : Nat} (h : Below w0.heap.size w0 w) (hg : w0.heap.size ≤ gx) (u0 u1 u2 u3 u4 u5 : Value) :
  Below w0.heap.size w0 ((((((w.setCell ⟨gx, 0, none⟩ u0).setCell ⟨gx, 1, none⟩ u1).setCell ⟨gx, 2, none⟩ u2).setCell ⟨gx, 3, none⟩ u3).setCell ⟨gx, 4, none⟩ u4).setCell ⟨gx, 5, none⟩ u5) :=
 below_set (below_set (below_set (below_set (below_set (below_set h hg) hg) hg) hg) hg) hg
theorem keep_six {w W : World} {g gx : Nat} (h : KeepBut w W g none) (hg : w.heap.size ≤ gx) (u0 u1 u2 u3 u4 u5 : Value) :
  KeepBut w ((((((W.setCell ⟨gx, 0, none⟩ u0).setCell ⟨gx, 1, none⟩ u1).setCell ⟨gx, 2, none⟩ u2).setCell ⟨gx, 3, none⟩ u3).setCell ⟨gx, 4, none⟩ u4).setCell ⟨gx, 5, none⟩ u5) g none :=
 keep_far (p := ⟨gx, 5, none⟩) (keep_far (p := ⟨gx, 4, none⟩) (keep_far (p := ⟨gx, 3, none⟩) (keep_far (p := ⟨gx, 2, none⟩) (keep_far (p := ⟨gx, 1, none⟩) (keep_far (p := ⟨gx, 0, none⟩) h hg u0) hg u1) hg u2) hg u3) hg u4) hg u5
def impl_reader_note.f (k : Nat) (s : ByteArray) (p : Int) (b : Bool) : Option (Int × ByteArray × ByteArray × Int × Bool) :=
 (impl_XmlNote.f k s p).bind fun q => if q.2 < 0 then some (0, ⟨#[]⟩, s, p, true) else some (3, q.1, s, q.2, b)
theorem impl_reader_note.mono : ∀ s p b k, LeO (impl_reader_note.f k s p b) (impl_reader_note.f (k + 1) s p b) := fun s p b k => LeO.bind (impl_XmlNote.mono _ _ _) (fun _ => LeO.refl _)
theorem impl_reader_note.calls (k : Nat) (g : Nat) (s : ByteArray) (p : Int) (b : Bool) (r0 : Int) (r1 r2 : ByteArray) (r3 : Int) (r4 : Bool) (w0 w : World) (hI : IsS93 w0 w g s p b) (hB : Below w0.heap.size w0 w) (hL : LibOk w0) (h : impl_reader_note.f k s p b = some (r0, r1, r2, r3, r4)) :
  Calls Tryz.prog 96 #[.pointer (some ⟨g, 0, none⟩)] w fun e w' => e = .returned (.agg #[.int .i64 r0, .int .i64 0, .string ⟨#[]⟩, .slice none 0 0, .string r1, .slice none 0 0]) ∧ IsS93 w0 w' g r2 r3 r4 ∧ Below w0.heap.size w0 w' ∧ KeepBut w w' g none := by
 unfold impl_reader_note.f at h
 have hu := Tryz.underlying43
 obtain ⟨q, hq, h⟩ := Option.bind_eq_some_iff.mp h
 have HQ := As9.mk hq
 have HH := As9.mk h
 have HLL := As9.mk hL
 clear hq h hL
 have hz : (.cells #[.int .i64 0, .int .i64 0, .string ⟨#[]⟩, .slice none 0 0, .string ⟨#[]⟩, .slice none 0 0] 43 : Obj) = .cells #[.int .i64 0, .int .i64 0, .string ⟨#[]⟩, .slice none 0 0, .string ⟨#[]⟩, .slice none 0 0] 43 := rfl
 clear hz
 obtain ⟨W1, hW1⟩ : ∃ W1, W1 = w.alloc (.cells #[.int .i64 0, .int .i64 0, .string ⟨#[]⟩, .slice none 0 0, .string ⟨#[]⟩, .slice none 0 0] 43) := ⟨_, rfl⟩
 have HI1 : As9 (IsS93 w0 W1.drew g s p b) := ⟨by rw [hW1]; exact (hI.alloc _).drew⟩
 have HB1 : As9 (Below w0.heap.size w0 W1.drew) := ⟨by rw [hW1]; exact below_drew (bA9 hB _)⟩
 have HK1 : As9 (KeepBut w W1.drew g none) := ⟨by rw [hW1]; exact keep_drew (keep_alloc (KeepBut.refl w g none) _)⟩
 have HX1 : As9 (W1.drew.heap[w.heap.size]? = some (.cells #[.int .i64 0, .int .i64 0, .string ⟨#[]⟩, .slice none 0 0, .string ⟨#[]⟩, .slice none 0 0] 43 (0, 0))) := ⟨by rw [hW1]; exact heap_alloc_new w _⟩
 obtain ⟨gx, hgx⟩ : ∃ gx, gx = w.heap.size := ⟨_, rfl⟩
 rw [← hgx] at HX1
 have HGX : As9 (gx = w.heap.size ∧ g < gx) := ⟨hgx, by rw [hgx]; exact hI.lt⟩
 obtain ⟨HG, hge⟩ := HI1.out
 have hc0 := cellS93_0 HG
 have hc1 := cellS93_1 HG
 clear HG hge hB hI
 go_enter Tryz.func96, Tryz.ntmps96
 go_wp2
 rw [← hW1, ← hgx]
 clear hW1 hgx
 refine start_ (n := 14) (S := fun w' => w'.cell? ⟨g, 0, none⟩ = some (.string s) ∧ w'.cell? ⟨g, 1, none⟩ = some (.int .i64 p)) (ds := [8]) (tS 14 0) (by kernel_rfl) rfl rfl ⟨hc0, hc1⟩ (fun hHeld => ?_)
 generalize World.drew _ = wr0 at HI1 HB1 HK1 HX1 hHeld ⊢
 iterate 3 refine pq_ ?_
 refine pg_ 4 (tB 14 23) ?_
 refine pg_ 5 (tB 14 55) ?_
 refine pg_ 6 (tB 14 119) ?_
 refine tg_ 3 (tS 14 7) rfl (by rintro w' ⟨s0, s1⟩; go_simp; with_reducible rfl) ?_
 refine tq_ rfl (by rintro w' ⟨s0, s1⟩; go_simp; with_reducible rfl) ?_
 refine last_ (i := 8) (N := some 14) (tS 14 9) rfl rfl (by kernel_rfl) (by decide) (fun K hK => ?_)
 refine gS_ Tryz.func28 #[.string s, .int .i64 p] ?_
 with_reducible refine (impl_XmlNote.calls k s p q.1 q.2 _ (HLL.out.below HB1.out) HQ.out).mono ?_
 rintro e wr8 ⟨rfl, hb⟩
 refine ⟨_, rfl, ?_⟩
 have HI2 := As9.mk (HI1.out.below hb)
 have HB2 := As9.mk (below_step HB1.out hb)
 have HK2 := As9.mk (HK1.out.trans (KeepBut.of_below hb g none) (.inl rfl))
 have HX2 := As9.mk (blk_below HX1.out hb)
 clear hb HI1 HB1 HK1 HX1
 refine hK.out _ _ ?_
 clear hK K
 refine nm_ ?_
 iterate 5 refine pq_ ?_
 refine done_ (by kernel_rfl) ?_
 obtain ⟨HG, hge⟩ := HI2.out
 have hc0' := cellS93_0 HG
 have hc1' := cellS93_1 HG
 have hc2' := cellS93_2 HG
 have hf1 := blk_frozen HG 1
 have hf2 := blk_frozen HG 2
 clear HG hge
 obtain ⟨hz0, hz1, hz2, hz3, hz4, hz5, hy0, hy1, hy2, hy3, hy4, hy5⟩ := bk6_ HX2.out
 have hne1 : (g = gx) = False := eq_false (Nat.ne_of_lt HGX.out.2)
 have hne2 : (gx = g) = False := eq_false (Nat.ne_of_gt HGX.out.2)
 have H := HH.out
 by_cases c : q.2 < 0
 ·rw [if_pos c] at H
  simp only [Option.some.injEq, Prod.mk.injEq] at H
  obtain ⟨rfl, rfl, rfl, rfl, rfl⟩ := H
  go_wp2
  refine bodyPost_ret (results_single rfl (.cell gx 43 #[.int .i64 0, .int .i64 0, .string ⟨#[]⟩, .slice none 0 0, .string ⟨#[]⟩, .slice none 0 0] (0, 0) _ rfl (blk_six (blk_far HX2.out (p := ⟨g, 2, none⟩) (Nat.ne_of_gt HGX.out.2) _) _ _ _ _ _ _) hu rfl (by kernel_rfl) .nil)) rfl ?_
  exact ⟨rfl, st_six (HI2.out.set_2 _) (Nat.ne_of_lt HGX.out.2) _ _ _ _ _ _, below_six (below_set HB2.out HI2.out.2) (Nat.le_trans (Nat.le_trans HI2.out.2 (Nat.le_of_lt HGX.out.2)) (Nat.le_refl _)) _ _ _ _ _ _, keep_six (HK2.out.set_ _ _) (Nat.le_of_eq HGX.out.1.symm) _ _ _ _ _ _⟩
 ·rw [if_neg c] at H
  simp only [Option.some.injEq, Prod.mk.injEq] at H
  obtain ⟨rfl, rfl, rfl, rfl, rfl⟩ := H
  go_wp2
  refine bodyPost_ret (results_single rfl (.cell gx 43 #[.int .i64 3, .int .i64 0, .string ⟨#[]⟩, .slice none 0 0, .string q.1, .slice none 0 0] (0, 0) _ rfl (blk_six (blk_far HX2.out (p := ⟨g, 1, none⟩) (Nat.ne_of_gt HGX.out.2) _) _ _ _ _ _ _) hu rfl (by kernel_rfl) .nil)) rfl ?_
  exact ⟨rfl, st_six (HI2.out.set_1 _) (Nat.ne_of_lt HGX.out.2) _ _ _ _ _ _, below_six (below_set HB2.out HI2.out.2) (Nat.le_trans (Nat.le_trans HI2.out.2 (Nat.le_of_lt HGX.out.2)) (Nat.le_refl _)) _ _ _ _ _ _, keep_six (HK2.out.set_ _ _) (Nat.le_of_eq HGX.out.1.symm) _ _ _ _ _ _⟩
set_option maxHeartbeats 8000000
set_option maxRecDepth 100000
mutual
def sEl : Nat → Int → Int → ByteArray → Int → Bool → Option (S43 × ByteArray × Int × Bool)
 | 0, _, _, _, _, _ => none
 | n + 1, about, deep, s, p, b => (spec_l19Take.f s p b ⟨#[60]⟩).bind fun t1 =>
  if t1.2.2 = true then (if deep = 0 then some (⟨1, 0, ⟨#[]⟩, [], ⟨#[]⟩, []⟩, t1.1, t1.2.1, false) else
   (spec_XmlName.f n t1.1 t1.2.1).bind fun q => if q.1.toList = [] then some (⟨1, 0, ⟨#[]⟩, [], ⟨#[]⟩, []⟩, t1.1, t1.2.1, false) else
   (spec_l19Attrs.f n t1.1 q.2 true about).bind fun a =>
   if a.2.2.2.2 = true then ((spec_l5Stands.f a.2.2.1 a.2.2.2.1 ⟨#[47, 62]⟩).bind fun z => if z = true then some (⟨1, a.2.1, q.1, a.1, ⟨#[]⟩, []⟩, a.2.2.1, wrap64 (a.2.2.2.1 + 2), true) else sRest n about deep q.1 a.1 a.2.1 a.2.2.1 a.2.2.2.1 true)
   else sRest n about deep q.1 a.1 a.2.1 a.2.2.1 a.2.2.2.1 false)
  else some (⟨1, 0, ⟨#[]⟩, [], ⟨#[]⟩, []⟩, t1.1, t1.2.1, false)
def sRest : Nat → Int → Int → ByteArray → List S36 → Int → ByteArray → Int → Bool → Option (S43 × ByteArray × Int × Bool)
 | 0, _, _, _, _, _, _, _, _ => none
 | n + 1, _, deep, nm, at_, sp, s, p, b => (spec_l19Take.f s p b ⟨#[62]⟩).bind fun t3 => (sKidsL n sp deep t3.1 t3.2.1 t3.2.2 []).bind fun ks =>
   if nm.size ≤ 140737488351232 then (spec_l19Take.f ks.2.1 ks.2.2.1 ks.2.2.2 ((⟨#[60, 47]⟩ ++ nm) ++ ⟨#[62]⟩)).bind fun t4 => some (⟨1, sp, nm, at_, ⟨#[]⟩, ks.1⟩, t4) else none
def sKidsL : Nat → Int → Int → ByteArray → Int → Bool → List S43 → Option (List S43 × ByteArray × Int × Bool)
 | 0, _, _, _, _, _, _ => none
 | n + 1, sp, deep, s, p, b, out => if b = true then ((spec_l5Stands.f s p ⟨#[60, 47]⟩).bind fun z => if z = true then some (out, s, p, true) else
   (if (s.size : Int) ≤ p then sKidsL n sp deep s p false out else (spec_l5Stands.f s p ⟨#[60, 33, 45, 45]⟩).bind fun z2 =>
    if z2 = true then (spec_XmlNote.f n s p).bind fun q => if out.length < 1000000000000 then (spec_l1Max.f q.2 0).bind fun m => sKidsL n sp deep s m (decide (q.2 ≥ 0)) (out ++ [⟨3, 0, ⟨#[]⟩, [], q.1, []⟩]) else none
    else if 0 ≤ p then (if out.length < 1000000000000 then (if bt s p = 60 then (sEl n sp (wrap64 (deep - 1)) s p true).bind fun kd => sKidsL n sp deep kd.2.1 kd.2.2.1 kd.2.2.2 (out ++ [kd.1])
     else (spec_XmlText.f n s p ⟨#[60]⟩).bind fun q => (spec_l1Max.f q.2 0).bind fun m => sKidsL n sp deep s m (decide (q.2 ≥ 0)) (out ++ [⟨2, 0, ⟨#[]⟩, [], q.1, []⟩])) else none)
    else none))
  else some (out, s, p, false)
end
theorem sEl_mono_all : ∀ k, (∀ y0 y1 y2 y3 y4, LeO (sEl k y0 y1 y2 y3 y4) (sEl (k + 1) y0 y1 y2 y3 y4)) ∧ (∀ y0 y1 y2 y3 y4 y5 y6 y7, LeO (sRest k y0 y1 y2 y3 y4 y5 y6 y7) (sRest (k + 1) y0 y1 y2 y3 y4 y5 y6 y7)) ∧ (∀ y0 y1 y2 y3 y4 y5, LeO (sKidsL k y0 y1 y2 y3 y4 y5) (sKidsL (k + 1) y0 y1 y2 y3 y4 y5))
 | 0 => ⟨fun _ _ _ _ _ r h => by simp [sEl] at h, fun _ _ _ _ _ _ _ _ r h => by simp [sRest] at h, fun _ _ _ _ _ _ r h => by simp [sKidsL] at h⟩
 | k + 1 => by
  obtain ⟨i1, i2, i3⟩ := sEl_mono_all k
  refine ⟨fun y0 y1 y2 y3 y4 => ?_, fun y0 y1 y2 y3 y4 y5 y6 y7 => ?_, fun y0 y1 y2 y3 y4 y5 => ?_⟩
  ·rw [sEl, sEl]
   exact LeO.bind (LeO.refl _) fun t1 => LeO.ite (LeO.ite (LeO.refl _) (LeO.bind (spec_XmlName.mono _ _ _) fun q => LeO.ite (LeO.refl _) (LeO.bind (spec_l19Attrs.mono _ _ _ _ _) fun a => LeO.ite (LeO.bind (LeO.refl _) fun z => LeO.ite (LeO.refl _) (i2 _ _ _ _ _ _ _ _)) (i2 _ _ _ _ _ _ _ _)))) (LeO.refl _)
  ·rw [sRest, sRest]
   exact LeO.bind (LeO.refl _) fun t3 => LeO.bind (i3 _ _ _ _ _ _) fun ks => LeO.refl _
  ·rw [sKidsL, sKidsL]
   exact LeO.ite (LeO.bind (LeO.refl _) fun z => LeO.ite (LeO.refl _) (LeO.ite (i3 _ _ _ _ _ _) (LeO.bind (LeO.refl _) fun z2 => LeO.ite (LeO.bind (spec_XmlNote.mono _ _ _) fun q => LeO.ite (LeO.bind (LeO.refl _) fun m => i3 _ _ _ _ _ _) (LeO.refl _)) (LeO.ite (LeO.ite (LeO.ite (LeO.bind (i1 _ _ _ _ _) fun kd => i3 _ _ _ _ _ _) (LeO.bind (spec_XmlText.mono _ _ _ _) fun q => LeO.bind (LeO.refl _) fun m => i3 _ _ _ _ _ _)) (LeO.refl _)) (LeO.refl _))))) (LeO.refl _)
theorem sst_six {w0 w : World} {g gx : Nat} {s : ByteArray} {p : Int} {b : Bool} (h : IsS89 w0 w g s p b) (hne : g ≠ gx) (u0 u1 u2 u3 u4 u5 : Value) : IsS89 w0 ((((((w.setCell ⟨gx, 0, none⟩ u0).setCell ⟨gx, 1, none⟩ u1).setCell ⟨gx, 2, none⟩ u2).setCell ⟨gx, 3, none⟩ u3).setCell ⟨gx, 4, none⟩ u4).setCell ⟨gx, 5, none⟩ u5) g s p b :=
 (((((h.far (p := ⟨gx, 0, none⟩) hne u0).far (p := ⟨gx, 1, none⟩) hne u1).far (p := ⟨gx, 2, none⟩) hne u2).far (p := ⟨gx, 3, none⟩) hne u3).far (p := ⟨gx, 4, none⟩) hne u4).far (p := ⟨gx, 5, none⟩) hne u5
def SElPost (w0 w : World) (g : Nat) (r : S43) (r2 : ByteArray) (r3 : Int) (r4 : Bool) (e : Ending) (w' : World) : Prop :=
 ∃ cs : Array Value, e = .returned (.agg cs) ∧ k43.M w' w0.heap.size (fun k_ => w.heap.size ≤ k_) r cs.toList ∧ IsS89 w0 w' g r2 r3 r4 ∧ Below w0.heap.size w0 w' ∧ KeepBut w w' g none
def SElC (k : Nat) : Prop := ∀ (g : Nat) (about deep : Int) (s : ByteArray) (p : Int) (b : Bool) (r : S43) (r2 : ByteArray) (r3 : Int) (r4 : Bool) (w0 w : World), IsS89 w0 w g s p b → Below w0.heap.size w0 w → sEl k about deep s p b = some (r, r2, r3, r4) →
  Calls Tryz.prog 84 #[.pointer (some ⟨g, 0, none⟩), .int .i64 about, .int .i64 deep] w (SElPost w0 w g r r2 r3 r4)
structure Skd (w0 w W : World) (g : Nat) (s : ByteArray) (p : Int) (b : Bool) (v : Value) (out : List S43) : Prop where
 st : IsS89 w0 W g s p b
 nr : k43.R 43 W w0.heap.size (fun k_ => w.heap.size ≤ k_) v out
 bl : Below w0.heap.size w0 W
 kp : KeepBut w W g none
 gl : g < w.heap.size
def SKidC (k : Nat) : Prop := ∀ (g : Nat) (sp deep : Int) (s : ByteArray) (p : Int) (b : Bool) (r : List S43) (r2 : ByteArray) (r3 : Int) (r4 : Bool) (w0 w : World), IsS89 w0 w g s p b → Below w0.heap.size w0 w → sKidsL k sp deep s p b [] = some (r, r2, r3, r4) →
  Calls Tryz.prog 132 #[.pointer (some ⟨g, 0, none⟩), .int .i64 sp, .int .i64 deep] w fun e w' => ∃ v, e = .returned v ∧ Skd w0 w w' g r2 r3 r4 v r
theorem SEl_end {w0 w W : World} {g gr : Nat} {s : ByteArray} {p : Int} {b : Bool} {r : S43} {a0 a1 a2 a3 a4 a5 u0 u1 u2 u3 u4 u5 : Value} {ok : Nat → Prop} (hI : IsS89 w0 W g s p b) (hB : Below w0.heap.size w0 W) (hK : KeepBut w W g none) (hX : W.heap[gr]? = some (.cells #[a0, a1, a2, a3, a4, a5] 43 (0, 0)))
  (hM : k43.M W w0.heap.size ok r [u0, u1, u2, u3, u4, u5]) (hok : ∀ k, ok k → w.heap.size ≤ k ∧ k ≠ gr) (hgr : w.heap.size ≤ gr) (hg : g ≠ gr) (hg0 : w0.heap.size ≤ gr) :
  SElPost w0 w g r s p b (.returned (.agg #[u0, u1, u2, u3, u4, u5])) ((((((W.setCell ⟨gr, 0, none⟩ u0).setCell ⟨gr, 1, none⟩ u1).setCell ⟨gr, 2, none⟩ u2).setCell ⟨gr, 3, none⟩ u3).setCell ⟨gr, 4, none⟩ u4).setCell ⟨gr, 5, none⟩ u5) := by
 have hk : KeepBut W ((((((W.setCell ⟨gr, 0, none⟩ u0).setCell ⟨gr, 1, none⟩ u1).setCell ⟨gr, 2, none⟩ u2).setCell ⟨gr, 3, none⟩ u3).setCell ⟨gr, 4, none⟩ u4).setCell ⟨gr, 5, none⟩ u5) gr none := ((((((KeepBut.refl W gr none).set_ 0 _).set_ 1 _).set_ 2 _).set_ 3 _).set_ 4 _).set_ 5 _
 exact ⟨_, rfl, k43.M_mono (fun k hk => (hok k hk).1) (Kd.M_keep hM hk (fun k hk => (hok k hk).2)), sst_six hI hg _ _ _ _ _ _, below_six hB hg0 _ _ _ _ _ _, keep_six hK hgr _ _ _ _ _ _⟩
theorem Skd.state {w0 w W W' : World} {g : Nat} {s s' : ByteArray} {p p' : Int} {b b' : Bool} {v : Value} {out : List S43} (h : Skd w0 w W g s p b v out) (hi : IsS89 w0 W' g s' p' b') (hb : Below w0.heap.size w0 W') (hk : KeepBut W W' g none) : Skd w0 w W' g s' p' b' v out :=
 ⟨hi, Kd.R_keep h.nr hk (fun k hk => by have := h.gl; omega), hb, h.kp.trans hk (.inl rfl), h.gl⟩
theorem Skd.below {w0 w W W' : World} {g : Nat} {s : ByteArray} {p : Int} {b : Bool} {v : Value} {out : List S43} (h : Skd w0 w W g s p b v out) (hb : Below W.heap.size W W') : Skd w0 w W' g s p b v out := h.state (h.st.below hb) (below_step h.bl hb) (KeepBut.of_below hb g none)
theorem Skd.ok_ {w0 w W : World} {g : Nat} {s : ByteArray} {p : Int} {b : Bool} {v : Value} {out : List S43} (h : Skd w0 w W g s p b v out) (x : Bool) : Skd w0 w (W.setCell ⟨g, 2, none⟩ (.bool x)) g s p x v out := h.state (h.st.set_2 x) (below_set h.bl h.st.2) ((KeepBut.refl W g none).set_ 2 _)
theorem Skd.at_ {w0 w W : World} {g : Nat} {s : ByteArray} {p : Int} {b : Bool} {v : Value} {out : List S43} (h : Skd w0 w W g s p b v out) (x : Int) : Skd w0 w (W.setCell ⟨g, 1, none⟩ (.int .i64 x)) g s x b v out := h.state (h.st.set_1 x) (below_set h.bl h.st.2) ((KeepBut.refl W g none).set_ 1 _)
theorem Skd.app {w0 w W W' : World} {g : Nat} {s : ByteArray} {p : Int} {b : Bool} {v v' : Value} {out : List S43} (h : Skd w0 w W g s p b v out) {x : S43} (ho : k43.R 43 W' w0.heap.size (fun k_ => w.heap.size ≤ k_) v' (out ++ [x])) (hb : Below w0.heap.size w0 W') (hg : W.grownBy W' v.ownBlock) : Skd w0 w W' g s p b v' (out ++ [x]) :=
 ⟨h.st.grown hg (h.st.own_ne h.nr (by decide)), ho, hb, h.kp.trans (KeepBut.of_grown hg g) (by
  cases hv : v.ownBlock with
  | none => exact .inl rfl
  | some k => exact .inr ⟨k, rfl, h.nr.1 k hv⟩), h.gl⟩
theorem skids_step (k : Nat) (hE_ : ∀ m, m < k → SElC m) : SKidC k := by
 unfold SElC at hE_
 intro g sp deep s p b r r2 r3 r4 w0 w hI hB h
 have hu := Tryz.underlying43
 have HF := As9.mk h
 have HI := As9.mk hI
 have HB := As9.mk hB
 clear h hI hB
 go_enter Tryz.func132, Tryz.ntmps132
 go_wp2_with ((with_reducible refine gate_dst (N := 12) rfl ?_); refine Kd.R_lit (w0 := w0) k43 w0.heap.size 43 ?hg (N := 12) ?hd (xs := ([] : List S43)) (inner := []) (ok := fun k_ => w.heap.size ≤ k_) (okp := fun _ => False) ?hr ?hp (fun _ hk => hk.elim) (Nat.le_refl _) HB.out HB.out.size (by simp) ?_; (case hd => rfl); (case hg => rfl); (case hr => first | (go_simp; done) | (go_simp; rfl)); (case hp => exact (Reps.none _ _)); intro v12 w2 ho hb hg_ hnew_; have HT := As9.mk (show Skd w0 w w2 g s p b v12 [] from ⟨HI.out.grown hg_ (by simp), ho, hb, KeepBut.of_grown hg_ g, HI.out.lt⟩); clear ho hb hg_ hnew_ HI HB)
 go_loopg [7] k (fun kq v7 wr => ∃ (out : List S43) (s : ByteArray) (p : Int) (b : Bool), As9 (sKidsL kq sp deep s p b out = some (r, r2, r3, r4)) ∧ As9 (Skd w0 w wr g s p b v7 out) ∧ As9 (kq ≤ k))
 case atStart => exact ⟨[], s, p, b, HF, HT, ⟨Nat.le_refl _⟩⟩
 case round =>
  clear HF HT
  obtain ⟨out, s, p, b, HA, HT, HN⟩ := hrel
  cases gk with
  | zero => exact absurd HA.out (by simp [sKidsL])
  | succ n =>
  have H := HA.out
  clear HA
  simp only [sKidsL] at H
  obtain ⟨An, cn, rfl⟩ := Kd.R_slice HT.out.nr
  have hc0 := cellS89_0 HT.out.st.1
  have hc1 := cellS89_1 HT.out.st.1
  have hc2 := cellS89_2 HT.out.st.1
  cases b with
  | false =>
   rw [if_neg (by simp)] at H
   simp only [Option.some.injEq, Prod.mk.injEq] at H
   obtain ⟨rfl, rfl, rfl, rfl⟩ := H
   go_wp2
   go_quiet (fail)
   generalize hW : World.drewN wr nq = wx
   have HTx : As9 (Skd w0 w wx g s p false (.slice An out.length cn) out) := ⟨by rw [← hW]; exact HT.out.below (bN9 (Below.refl _ _) _)⟩
   clear hW HT hc0 hc1 hc2
   have hc0 := cellS89_0 HTx.out.st.1
   have hc1 := cellS89_1 HTx.out.st.1
   have hc2 := cellS89_2 HTx.out.st.1
   go_wp2
   go_ret
   exact ⟨_, rfl, HTx.out⟩
  | true =>
   rw [if_pos rfl] at H
   obtain ⟨z, hz, H⟩ := Option.bind_eq_some_iff.mp H
   have HZ := As9.mk hz
   clear hz
   cases z with
   | true =>
    rw [if_pos rfl] at H
    simp only [Option.some.injEq, Prod.mk.injEq] at H
    obtain ⟨rfl, rfl, rfl, rfl⟩ := H
    go_wp2
    go_quiet ((go_at_call 69; (refine (spec_l5Stands.calls s p ⟨#[60, 47]⟩ _ _ HZ.out).mono ?_); rintro r w' ⟨rfl, ⟨nd, rfl⟩⟩; exact ⟨rfl, _, World.drewN_drewN _ _ _⟩))
    generalize hW : World.drewN wr nq = wx
    have HTx : As9 (Skd w0 w wx g s p true (.slice An out.length cn) out) := ⟨by rw [← hW]; exact HT.out.below (bN9 (Below.refl _ _) _)⟩
    clear hW HT hc0 hc1 hc2
    have hc0 := cellS89_0 HTx.out.st.1
    have hc1 := cellS89_1 HTx.out.st.1
    have hc2 := cellS89_2 HTx.out.st.1
    go_wp2
    go_ret
    exact ⟨_, rfl, HTx.out⟩
   | false =>
    rw [if_neg (by simp)] at H
    go_wp2
    go_quiet ((go_at_call 69; (refine (spec_l5Stands.calls s p ⟨#[60, 47]⟩ _ _ HZ.out).mono ?_); rintro r w' ⟨rfl, ⟨nd, rfl⟩⟩; exact ⟨rfl, _, World.drewN_drewN _ _ _⟩))
    generalize hW : World.drewN wr nq = wx
    have HTx : As9 (Skd w0 w wx g s p true (.slice An out.length cn) out) := ⟨by rw [← hW]; exact HT.out.below (bN9 (Below.refl _ _) _)⟩
    clear hW HT hc0 hc1 hc2
    have hc0 := cellS89_0 HTx.out.st.1
    have hc1 := cellS89_1 HTx.out.st.1
    have hc2 := cellS89_2 HTx.out.st.1
    clear HZ
    by_cases hlt : (s.size : Int) ≤ p
    case pos =>
     rw [if_pos hlt] at H
     have HH := As9.mk H
     clear H
     have q7 := eq_true hlt
     have q8 : decide ((s.size : Int) ≤ p) = true := decide_eq_true hlt
     go_wp2
     go_quiet (fail)
     generalize hW : World.drewN wx nq = wy
     have HTy : As9 (Skd w0 w wy g s p true (.slice An out.length cn) out) := ⟨by rw [← hW]; exact HTx.out.below (bN9 (Below.refl _ _) _)⟩
     clear hW HTx hc0 hc1 hc2
     have hc0 := cellS89_0 HTy.out.st.1
     have hc1 := cellS89_1 HTy.out.st.1
     have hc2 := cellS89_2 HTy.out.st.1
     have hf2 := blk_frozen HTy.out.st.1 2
     go_wp2
     go_roundg n
     case measure => omega
     case rel => exact ⟨_, _, _, _, HH, ⟨HTy.out.ok_ false⟩, ⟨by have := HN.out; omega⟩⟩
    case neg =>
    rw [if_neg hlt] at H
    have q7 := eq_false hlt
    have q8 : decide ((s.size : Int) ≤ p) = false := decide_eq_false hlt
    obtain ⟨z2, hz2, H⟩ := Option.bind_eq_some_iff.mp H
    have HZ2 := As9.mk hz2
    clear hz2
    go_wp2
    go_quiet (fail)
    generalize hW : World.drewN wx nq = wy
    have HTy : As9 (Skd w0 w wy g s p true (.slice An out.length cn) out) := ⟨by rw [← hW]; exact HTx.out.below (bN9 (Below.refl _ _) _)⟩
    clear hW HTx hc0 hc1 hc2
    have hc0 := cellS89_0 HTy.out.st.1
    have hc1 := cellS89_1 HTy.out.st.1
    have hc2 := cellS89_2 HTy.out.st.1
    cases z2 with
    | true =>
     rw [if_pos rfl] at H
     obtain ⟨⟨qt, qx⟩, hq, H⟩ := Option.bind_eq_some_iff.mp H
     dsimp only at H
     split at H
     case isFalse => cases H
     case isTrue hl =>
     obtain ⟨m, hm, H⟩ := Option.bind_eq_some_iff.mp H
     have Hq := As9.mk hq
     have Hm := As9.mk hm
     have HL := As9.mk hl
     have HH := As9.mk H
     clear hq hm hl H
     go_wp2
     go_quiet ((go_at_call 69; (refine (spec_l5Stands.calls s p ⟨#[60, 33, 45, 45]⟩ _ _ HZ2.out).mono ?_); rintro r w' ⟨rfl, ⟨nd, rfl⟩⟩; exact ⟨rfl, _, World.drewN_drewN _ _ _⟩))
     generalize hW : World.drewN wy nq = wz
     have HTx : As9 (Skd w0 w wz g s p true (.slice An out.length cn) out) := ⟨by rw [← hW]; exact HTy.out.below (bN9 (Below.refl _ _) _)⟩
     clear hW HTy hc0 hc1 hc2
     have hc0 := cellS89_0 HTx.out.st.1
     have hc1 := cellS89_1 HTx.out.st.1
     have hc2 := cellS89_2 HTx.out.st.1
     clear HZ2 q7 q8 hlt
     go_wp2
     have HTd := As9.mk (HTx.out.below (below_drew (Below.refl _ _)))
     clear HTx hc0 hc1 hc2
     refine start_ (n := 14) (S := fun w' => w'.cell? ⟨g, 0, none⟩ = some (.string s) ∧ w'.cell? ⟨g, 1, none⟩ = some (.int .i64 p)) (ds := [8]) (tS 14 0) (by kernel_rfl) rfl rfl ⟨cellS89_0 HTd.out.st.1, cellS89_1 HTd.out.st.1⟩ (fun hHeld => ?_)
     generalize World.drew _ = wr0 at HTd hHeld ⊢
     iterate 3 refine pq_ ?_
     refine pg_ 4 (tB 14 23) ?_
     refine pg_ 5 (tB 14 55) ?_
     refine pg_ 6 (tB 14 119) ?_
     refine tg_ 3 (tS 14 7) rfl (by rintro w' ⟨s0, s1⟩; go_simp; with_reducible rfl) ?_
     refine tq_ rfl (by rintro w' ⟨s0, s1⟩; go_simp; with_reducible rfl) ?_
     refine last_ (i := 8) (N := some 60) (tS 14 9) rfl rfl (by kernel_rfl) (by decide) (fun K hK => ?_)
     refine gS_ Tryz.func29 #[.string s, .int .i64 p] ?_
     with_reducible refine (spec_XmlNote.calls n s p qt qx _ Hq.out).mono ?_
     rintro e wr8 ⟨rfl, hb⟩
     refine ⟨_, rfl, ?_⟩
     have HTe := As9.mk (HTd.out.below hb)
     clear hb HTd
     refine hK.out _ _ ?_
     clear hK K
     refine nm_ ?_
     iterate 5 refine pq_ ?_
     refine done_ (by kernel_rfl) ?_
     have hz1 := cellS89_1 HTe.out.st.1
     have hz2 := cellS89_2 HTe.out.st.1
     have hf1 := blk_frozen HTe.out.st.1 1
     have hf2 := blk_frozen HTe.out.st.1 2
     go_wp2_with (first | (go_at_call 92; have HT5 := As9.mk (HTe.out.ok_ (decide (qx ≥ 0))); clear HTe; (with_reducible refine (spec_l1Max.calls qx 0 m _ Hm.out).mono ?_); rintro e w6 ⟨rfl, hd⟩; have HT6 := As9.mk (HT5.out.below hd.below); clear hd HT5 hz1 hz2 hf1 hf2; have hz1 := cellS89_1 HT6.out.st.1; have hf1 := blk_frozen HT6.out.st.1 1; have HT7 := As9.mk (HT6.out.at_ m)) | ((with_reducible refine gate_builtin (b := .append) (xs := #[.tmp 73, .tmp 76]) rfl ?_); at_builtin; go_loud (refine Kd.R_append k43 (w0 := w0) w0.heap.size rfl (.tmp 73) (.tmp 76) 41 43 (.agg #[.int .i64 0, .int .i64 0, .string ⟨#[]⟩, .slice none 0 0, .string ⟨#[]⟩, .slice none 0 0]) 96 rfl Tryz.underlying41 (by kernel_rfl) rfl (by decide) (by omega) (.slice An out.length cn) out (⟨3, 0, ⟨#[]⟩, [], qt, []⟩ : S43) [.int .i64 3, .int .i64 0, .string ⟨#[]⟩, .slice none 0 0, .string qt, .slice none 0 0] (fun k_ => w.heap.size ≤ k_) (fun _ => False) rfl ?aX ?aP (fun _ hk => hk.elim) ?aF ?aO ?aB ?aS ?aL ?_); (case aX => first | rfl | (go_simp; done) | (go_simp; rfl) | (simp; done) | (simp; rfl)); (case aP => exact k43_mkM _ _ _ (⟨3, 0, ⟨#[]⟩, [], qt, []⟩ : S43) (Kd.R_nil _ _ _ _ _) (Kd.R_nil _ _ _ _ _)); (case aF => exact fun k hk => Nat.le_trans HT7.out.kp.1 hk); (case aO => exact HT7.out.nr); (case aB => exact HT7.out.bl); (case aS => exact HT7.out.bl.size); (case aL => have := HL.out; omega); intro v7 w7 ho hb hg hat; have HTg := As9.mk (HT7.out.app ho hb hg); clear ho hb hg hat HT7))
     go_roundg n
     case measure => omega
     case rel => exact ⟨_, _, _, _, HH, HTg, ⟨by have := HN.out; omega⟩⟩
    | false =>
     rw [if_neg (by simp)] at H
     split at H
     case isFalse => cases H
     case isTrue h0 =>
     split at H
     case isFalse => cases H
     case isTrue hl =>
     have HL := As9.mk hl
     clear hl
     have p7 := eq_true h0
     have q9 := eq_true (show p < (s.size : Int) by omega)
     have hx := bt_at s p
     go_wp2
     go_quiet ((go_at_call 69; (refine (spec_l5Stands.calls s p ⟨#[60, 33, 45, 45]⟩ _ _ HZ2.out).mono ?_); rintro r w' ⟨rfl, ⟨nd, rfl⟩⟩; exact ⟨rfl, _, World.drewN_drewN _ _ _⟩))
     generalize hW : World.drewN wy nq = wz
     have HTx : As9 (Skd w0 w wz g s p true (.slice An out.length cn) out) := ⟨by rw [← hW]; exact HTy.out.below (bN9 (Below.refl _ _) _)⟩
     clear hW HTy hc0 hc1 hc2
     have hc0 := cellS89_0 HTx.out.st.1
     have hc1 := cellS89_1 HTx.out.st.1
     have hc2 := cellS89_2 HTx.out.st.1
     clear HZ2
     by_cases hc : bt s p = 60
     case pos =>
      rw [if_pos hc] at H
      obtain ⟨⟨kd, s9, p9, b9⟩, hkd, H⟩ := Option.bind_eq_some_iff.mp H
      dsimp only at H
      have Hkd := As9.mk hkd
      have HH := As9.mk H
      clear hkd H
      have hcb : (bt s p == 60) = true := beq_iff_eq.mpr hc
      go_wp2
      go_quiet (fail)
      generalize hW : World.drewN wz nq = wv
      have HTw : As9 (Skd w0 w wv g s p true (.slice An out.length cn) out) := ⟨by rw [← hW]; exact HTx.out.below (bN9 (Below.refl _ _) _)⟩
      clear hW HTx hc0 hc1 hc2
      have hc0 := cellS89_0 HTw.out.st.1
      have hc1 := cellS89_1 HTw.out.st.1
      have hc2 := cellS89_2 HTw.out.st.1
      have HTx := HTw
      clear HTw
      clear p7 q9 hx hcb hc q7 q8 hlt
      go_wp2_with (first | (go_at_call 84; (with_reducible refine (hE_ n (by have := HN.out; omega) g sp (wrap64 (deep - 1)) s p true kd s9 p9 b9 w0 _ HTx.out.st HTx.out.bl Hkd.out).mono ?_); rintro e w11 ⟨cs, rfl, hm, hi, hb, hk⟩; have HM := As9.mk (k43.M_mono (ok' := fun k_ => w.heap.size ≤ k_ ∧ some k_ ≠ (Value.slice An out.length cn).ownBlock) (fun k_ hk_ => ⟨Nat.le_trans HTx.out.kp.1 hk_, fun e_ => by have := Kd.R_lt HTx.out.nr k_ e_.symm; omega⟩) hm); have HTb := As9.mk (HTx.out.state hi hb hk); obtain ⟨u3, u5, hcs, g3, g5⟩ := k43_openM hm; obtain rfl : cs = #[.int .i64 kd.f0, .int .i64 kd.f1, .string kd.f2, u3, .string kd.f4, u5] := Array.ext' hcs; obtain ⟨A3', c3', rfl⟩ := Kd.R_slice g3; obtain ⟨A5', c5', rfl⟩ := Kd.R_slice g5; clear hm hcs g3 g5 hi hb hk HTx hc0 hc1 hc2) | ((with_reducible refine gate_builtin (b := .append) (xs := #[.tmp 88, .tmp 94]) rfl ?_); at_builtin; go_loud (refine Kd.R_append k43 (w0 := w0) w0.heap.size rfl (.tmp 88) (.tmp 94) 41 43 (.agg #[.int .i64 0, .int .i64 0, .string ⟨#[]⟩, .slice none 0 0, .string ⟨#[]⟩, .slice none 0 0]) 96 rfl Tryz.underlying41 (by kernel_rfl) rfl (by decide) (by omega) (.slice An out.length cn) out (kd) [.int .i64 kd.f0, .int .i64 kd.f1, .string kd.f2, .slice A3' kd.f3.length c3', .string kd.f4, .slice A5' kd.f5.length c5'] (fun k_ => w.heap.size ≤ k_) (fun k_ => w.heap.size ≤ k_ ∧ some k_ ≠ (Value.slice An out.length cn).ownBlock) rfl ?aX ?aP (fun _ hk => hk) ?aF ?aO ?aB ?aS ?aL ?_); (case aX => first | rfl | (go_simp; done) | (go_simp; rfl) | (simp; done) | (simp; rfl)); (case aP => exact HM.out); (case aF => exact fun k hk => Nat.le_trans HTb.out.kp.1 hk); (case aO => exact HTb.out.nr); (case aB => exact HTb.out.bl); (case aS => exact HTb.out.bl.size); (case aL => have := HL.out; omega); intro v7 w7 ho hb hg hat; have HTg := As9.mk (HTb.out.app ho hb hg); clear ho hb hg hat HTb))
      go_roundg n
      case measure => omega
      case rel => exact ⟨_, _, _, _, HH, HTg, ⟨by have := HN.out; omega⟩⟩
     case neg =>
      rw [if_neg hc] at H
      obtain ⟨⟨qt, qx⟩, hq, H⟩ := Option.bind_eq_some_iff.mp H
      obtain ⟨m, hm, H⟩ := Option.bind_eq_some_iff.mp H
      have Hq := As9.mk hq
      have Hm := As9.mk hm
      have HH := As9.mk H
      clear hq hm H
      have hcb : (bt s p == 60) = false := beq_eq_false_iff_ne.mpr hc
      go_wp2
      go_quiet (fail)
      generalize hW : World.drewN wz nq = wv
      have HTw : As9 (Skd w0 w wv g s p true (.slice An out.length cn) out) := ⟨by rw [← hW]; exact HTx.out.below (bN9 (Below.refl _ _) _)⟩
      clear hW HTx hc0 hc1 hc2
      have hc0 := cellS89_0 HTw.out.st.1
      have hc1 := cellS89_1 HTw.out.st.1
      have hc2 := cellS89_2 HTw.out.st.1
      have HTx := HTw
      clear HTw
      clear p7 q9 hx hcb hc q7 q8 hlt
      go_wp2
      have HTd := As9.mk (HTx.out.below (below_drew (Below.refl _ _)))
      clear HTx hc0 hc1 hc2
      refine start_ (n := 14) (S := fun w' => w'.cell? ⟨g, 0, none⟩ = some (.string s) ∧ w'.cell? ⟨g, 1, none⟩ = some (.int .i64 p)) (ds := [8]) (tS 14 0) (by kernel_rfl) rfl rfl ⟨cellS89_0 HTd.out.st.1, cellS89_1 HTd.out.st.1⟩ (fun hHeld => ?_)
      generalize World.drew _ = wr0 at HTd hHeld ⊢
      iterate 3 refine pq_ ?_
      refine pg_ 4 (tB 14 23) ?_
      refine pg_ 5 (tB 14 55) ?_
      refine pg_ 6 (tB 14 119) ?_
      refine tg_ 3 (tS 14 7) rfl (by rintro w' ⟨s0, s1⟩; go_simp; with_reducible rfl) ?_
      refine tq_ rfl (by rintro w' ⟨s0, s1⟩; go_simp; with_reducible rfl) ?_
      refine last_ (i := 8) (N := some 105) (tS 14 9) rfl rfl (by kernel_rfl) (by decide) (fun K hK => ?_)
      refine gS_ Tryz.func23 #[.string s, .int .i64 p, .string ⟨#[60]⟩] ?_
      with_reducible refine (spec_XmlText.calls n s p ⟨#[60]⟩ qt qx _ Hq.out).mono ?_
      rintro e wr8 ⟨rfl, hb⟩
      refine ⟨_, rfl, ?_⟩
      have HTe := As9.mk (HTd.out.below hb)
      clear hb HTd
      refine hK.out _ _ ?_
      clear hK K
      refine nm_ ?_
      iterate 5 refine pq_ ?_
      refine done_ (by kernel_rfl) ?_
      have hz1 := cellS89_1 HTe.out.st.1
      have hz2 := cellS89_2 HTe.out.st.1
      have hf1 := blk_frozen HTe.out.st.1 1
      have hf2 := blk_frozen HTe.out.st.1 2
      go_wp2_with (first | (go_at_call 92; have HT5 := As9.mk (HTe.out.ok_ (decide (qx ≥ 0))); clear HTe; (with_reducible refine (spec_l1Max.calls qx 0 m _ Hm.out).mono ?_); rintro e w6 ⟨rfl, hd⟩; have HT6 := As9.mk (HT5.out.below hd.below); clear hd HT5 hz1 hz2 hf1 hf2; have hz1 := cellS89_1 HT6.out.st.1; have hf1 := blk_frozen HT6.out.st.1 1; have HT7 := As9.mk (HT6.out.at_ m)) | ((with_reducible refine gate_builtin (b := .append) (xs := #[.tmp 118, .tmp 121]) rfl ?_); at_builtin; go_loud (refine Kd.R_append k43 (w0 := w0) w0.heap.size rfl (.tmp 118) (.tmp 121) 41 43 (.agg #[.int .i64 0, .int .i64 0, .string ⟨#[]⟩, .slice none 0 0, .string ⟨#[]⟩, .slice none 0 0]) 96 rfl Tryz.underlying41 (by kernel_rfl) rfl (by decide) (by omega) (.slice An out.length cn) out (⟨2, 0, ⟨#[]⟩, [], qt, []⟩ : S43) [.int .i64 2, .int .i64 0, .string ⟨#[]⟩, .slice none 0 0, .string qt, .slice none 0 0] (fun k_ => w.heap.size ≤ k_) (fun _ => False) rfl ?aX ?aP (fun _ hk => hk.elim) ?aF ?aO ?aB ?aS ?aL ?_); (case aX => first | rfl | (go_simp; done) | (go_simp; rfl) | (simp; done) | (simp; rfl)); (case aP => exact k43_mkM _ _ _ (⟨2, 0, ⟨#[]⟩, [], qt, []⟩ : S43) (Kd.R_nil _ _ _ _ _) (Kd.R_nil _ _ _ _ _)); (case aF => exact fun k hk => Nat.le_trans HT7.out.kp.1 hk); (case aO => exact HT7.out.nr); (case aB => exact HT7.out.bl); (case aS => exact HT7.out.bl.size); (case aL => have := HL.out; omega); intro v7 w7 ho hb hg hat; have HTg := As9.mk (HT7.out.app ho hb hg); clear ho hb hg hat HT7))
      go_roundg n
      case measure => omega
      case rel => exact ⟨_, _, _, _, HH, HTg, ⟨by have := HN.out; omega⟩⟩
structure Sle (w0 w W : World) (g ge gr : Nat) (s : ByteArray) (p : Int) (b : Bool) (sp : Int) (nm : ByteArray) (v3 v5 : Value) (attrs : List S36) (kids : List S43) : Prop where
 st : IsS89 w0 W g s p b
 el : W.heap[ge]? = some (.cells #[.int .i64 1, .int .i64 sp, .string nm, v3, .string ⟨#[]⟩, v5] 43 (0, 0))
 ar : k36.R 36 W w0.heap.size (fun k_ => w.heap.size ≤ k_ ∧ k_ ≠ ge ∧ k_ ≠ gr) v3 attrs
 kr : k43.R 43 W w0.heap.size (fun k_ => w.heap.size ≤ k_ ∧ k_ ≠ ge ∧ k_ ≠ gr) v5 kids
 rs : W.heap[gr]? = some (.cells #[.int .i64 0, .int .i64 0, .string ⟨#[]⟩, .slice none 0 0, .string ⟨#[]⟩, .slice none 0 0] 43 (0, 0))
 bl : Below w0.heap.size w0 W
 kp : KeepBut w W g none
 gl : g < w.heap.size
 he : w.heap.size ≤ ge
 hr : w.heap.size ≤ gr
 ne : ge ≠ gr
 g0 : w0.heap.size ≤ w.heap.size
theorem Sle.state {w0 w W W' : World} {g ge gr : Nat} {s s' : ByteArray} {p p' : Int} {b b' : Bool} {sp : Int} {nm : ByteArray} {v3 v5 : Value} {attrs : List S36} {kids : List S43} (h : Sle w0 w W g ge gr s p b sp nm v3 v5 attrs kids) (hi : IsS89 w0 W' g s' p' b') (hb : Below w0.heap.size w0 W') (hk : KeepBut W W' g none) : Sle w0 w W' g ge gr s' p' b' sp nm v3 v5 attrs kids :=
 ⟨hi, hk.blk h.el (by have := h.gl; have := h.he; omega) (by simp), Kd.R_keep h.ar hk (fun k hk => by have := h.gl; omega), Kd.R_keep h.kr hk (fun k hk => by have := h.gl; omega), hk.blk h.rs (by have := h.gl; have := h.hr; omega) (by simp), hb, h.kp.trans hk (.inl rfl), h.gl, h.he, h.hr, h.ne, h.g0⟩
theorem Sle.below {w0 w W W' : World} {g ge gr : Nat} {s : ByteArray} {p : Int} {b : Bool} {sp : Int} {nm : ByteArray} {v3 v5 : Value} {attrs : List S36} {kids : List S43} (h : Sle w0 w W g ge gr s p b sp nm v3 v5 attrs kids) (hb : Below W.heap.size W W') : Sle w0 w W' g ge gr s p b sp nm v3 v5 attrs kids := h.state (h.st.below hb) (below_step h.bl hb) (KeepBut.of_below hb g none)
theorem Sle.ok_ {w0 w W : World} {g ge gr : Nat} {s : ByteArray} {p : Int} {b : Bool} {sp : Int} {nm : ByteArray} {v3 v5 : Value} {attrs : List S36} {kids : List S43} (h : Sle w0 w W g ge gr s p b sp nm v3 v5 attrs kids) (x : Bool) : Sle w0 w (W.setCell ⟨g, 2, none⟩ (.bool x)) g ge gr s p x sp nm v3 v5 attrs kids := h.state (h.st.set_2 x) (below_set h.bl h.st.2) ((KeepBut.refl W g none).set_ 2 _)
theorem Sle.at_ {w0 w W : World} {g ge gr : Nat} {s : ByteArray} {p : Int} {b : Bool} {sp : Int} {nm : ByteArray} {v3 v5 : Value} {attrs : List S36} {kids : List S43} (h : Sle w0 w W g ge gr s p b sp nm v3 v5 attrs kids) (x : Int) : Sle w0 w (W.setCell ⟨g, 1, none⟩ (.int .i64 x)) g ge gr s x b sp nm v3 v5 attrs kids := h.state (h.st.set_1 x) (below_set h.bl h.st.2) ((KeepBut.refl W g none).set_ 1 _)
theorem Sle.name_ {w0 w W : World} {g ge gr : Nat} {s : ByteArray} {p : Int} {b : Bool} {sp : Int} {nm : ByteArray} {v3 v5 : Value} {attrs : List S36} {kids : List S43} (h : Sle w0 w W g ge gr s p b sp nm v3 v5 attrs kids) (x : ByteArray) : Sle w0 w (W.setCell ⟨ge, 2, none⟩ (.string x)) g ge gr s p b sp x v3 v5 attrs kids :=
 ⟨h.st.far (p := ⟨ge, 2, none⟩) (by have := h.gl; have := h.he; show g ≠ ge; omega) _, blk_put h.el 2 _ rfl, Kd.R_far (p := ⟨ge, 2, none⟩) h.ar (fun k hk => hk.2.1) _, Kd.R_far (p := ⟨ge, 2, none⟩) h.kr (fun k hk => hk.2.1) _, blk_far h.rs (p := ⟨ge, 2, none⟩) (Ne.symm h.ne) _, below_set h.bl (Nat.le_trans h.g0 h.he), keep_far (p := ⟨ge, 2, none⟩) h.kp h.he _, h.gl, h.he, h.hr, h.ne, h.g0⟩
theorem Sle.space_ {w0 w W : World} {g ge gr : Nat} {s : ByteArray} {p : Int} {b : Bool} {sp : Int} {nm : ByteArray} {v3 v5 : Value} {attrs : List S36} {kids : List S43} (h : Sle w0 w W g ge gr s p b sp nm v3 v5 attrs kids) (x : Int) : Sle w0 w (W.setCell ⟨ge, 1, none⟩ (.int .i64 x)) g ge gr s p b x nm v3 v5 attrs kids :=
 ⟨h.st.far (p := ⟨ge, 1, none⟩) (by have := h.gl; have := h.he; show g ≠ ge; omega) _, blk_put h.el 1 _ rfl, Kd.R_far (p := ⟨ge, 1, none⟩) h.ar (fun k hk => hk.2.1) _, Kd.R_far (p := ⟨ge, 1, none⟩) h.kr (fun k hk => hk.2.1) _, blk_far h.rs (p := ⟨ge, 1, none⟩) (Ne.symm h.ne) _, below_set h.bl (Nat.le_trans h.g0 h.he), keep_far (p := ⟨ge, 1, none⟩) h.kp h.he _, h.gl, h.he, h.hr, h.ne, h.g0⟩
theorem Sle.attrs_ {w0 w W W' : World} {g ge gr : Nat} {s s' : ByteArray} {p p' : Int} {b b' : Bool} {sp : Int} {nm : ByteArray} {v v3 v5 : Value} {attrs at_ : List S36} {kids : List S43} (h : Sle w0 w W g ge gr s p b sp nm v3 v5 attrs kids) (hs : Sat w0 W W' g s' p' b' v at_) : Sle w0 w (W'.setCell ⟨ge, 3, none⟩ v) g ge gr s' p' b' sp nm v v5 at_ kids := by
 have h1 := h.state hs.st hs.bl hs.kp
 have e1 := blk_lt h.el
 have e2 := blk_lt h.rs
 have e3 := h.kp.1
 exact ⟨h1.st.far (p := ⟨ge, 3, none⟩) (by have := h.gl; have := h.he; show g ≠ ge; omega) _, blk_put h1.el 3 _ rfl, Kd.R_far (p := ⟨ge, 3, none⟩) (Kd.R_mono hs.nr (ok' := (fun k_ => w.heap.size ≤ k_ ∧ k_ ≠ ge ∧ k_ ≠ gr)) (fun k hk => by omega)) (fun k hk => hk.2.1) _, Kd.R_far (p := ⟨ge, 3, none⟩) h1.kr (fun k hk => hk.2.1) _, blk_far h1.rs (p := ⟨ge, 3, none⟩) (Ne.symm h.ne) _, below_set h1.bl (Nat.le_trans h.g0 h.he), keep_far (p := ⟨ge, 3, none⟩) h1.kp h.he _, h.gl, h.he, h.hr, h.ne, h.g0⟩
theorem Sle.kids_ {w0 w W W' : World} {g ge gr : Nat} {s s' : ByteArray} {p p' : Int} {b b' : Bool} {sp : Int} {nm : ByteArray} {v v3 v5 : Value} {attrs : List S36} {kids ks : List S43} (h : Sle w0 w W g ge gr s p b sp nm v3 v5 attrs kids) (hs : Skd w0 W W' g s' p' b' v ks) : Sle w0 w (W'.setCell ⟨ge, 5, none⟩ v) g ge gr s' p' b' sp nm v3 v attrs ks := by
 have h1 := h.state hs.st hs.bl hs.kp
 have e1 := blk_lt h.el
 have e2 := blk_lt h.rs
 have e3 := h.kp.1
 exact ⟨h1.st.far (p := ⟨ge, 5, none⟩) (by have := h.gl; have := h.he; show g ≠ ge; omega) _, blk_put h1.el 5 _ rfl, Kd.R_far (p := ⟨ge, 5, none⟩) h1.ar (fun k hk => hk.2.1) _, Kd.R_far (p := ⟨ge, 5, none⟩) (Kd.R_mono hs.nr (ok' := (fun k_ => w.heap.size ≤ k_ ∧ k_ ≠ ge ∧ k_ ≠ gr)) (fun k hk => by omega)) (fun k hk => hk.2.1) _, blk_far h1.rs (p := ⟨ge, 5, none⟩) (Ne.symm h.ne) _, below_set h1.bl (Nat.le_trans h.g0 h.he), keep_far (p := ⟨ge, 5, none⟩) h1.kp h.he _, h.gl, h.he, h.hr, h.ne, h.g0⟩
theorem Sle.start {w0 w W W2 : World} {g ge gr : Nat} {s : ByteArray} {p : Int} {b : Bool} (hI : IsS89 w0 W g s p b) (hB : Below w0.heap.size w0 W) (hK : KeepBut w W g none) (hX : W.heap[gr]? = some (.cells #[.int .i64 0, .int .i64 0, .string ⟨#[]⟩, .slice none 0 0, .string ⟨#[]⟩, .slice none 0 0] 43 (0, 0))) (hgr : w.heap.size ≤ gr) (gl : g < w.heap.size) (g0 : w0.heap.size ≤ w.heap.size) (hge : ge = W.heap.size)
  (hbox : W2.heap[ge]? = some (.cells #[.int .i64 0, .int .i64 0, .string ⟨#[]⟩, .slice none 0 0, .string ⟨#[]⟩, .slice none 0 0] 43 (0, 0))) (hb : Below W.heap.size W W2) :
  Sle w0 w ((((((W2.setCell ⟨ge, 0, none⟩ (.int .i64 1)).setCell ⟨ge, 1, none⟩ (.int .i64 0)).setCell ⟨ge, 2, none⟩ (.string ⟨#[]⟩)).setCell ⟨ge, 3, none⟩ (.slice none 0 0)).setCell ⟨ge, 4, none⟩ (.string ⟨#[]⟩)).setCell ⟨ge, 5, none⟩ (.slice none 0 0)) g ge gr s p b 0 ⟨#[]⟩ (.slice none 0 0) (.slice none 0 0) [] [] := by
 have h1 := hI.lt
 have h2 := blk_lt hX
 have h3 := hK.1
 have hk : KeepBut W2 ((((((W2.setCell ⟨ge, 0, none⟩ (.int .i64 1)).setCell ⟨ge, 1, none⟩ (.int .i64 0)).setCell ⟨ge, 2, none⟩ (.string ⟨#[]⟩)).setCell ⟨ge, 3, none⟩ (.slice none 0 0)).setCell ⟨ge, 4, none⟩ (.string ⟨#[]⟩)).setCell ⟨ge, 5, none⟩ (.slice none 0 0)) ge none := ((((((KeepBut.refl W2 ge none).set_ 0 _).set_ 1 _).set_ 2 _).set_ 3 _).set_ 4 _).set_ 5 _
 exact ⟨sst_six (hI.below hb) (by omega) _ _ _ _ _ _, blk_six hbox _ _ _ _ _ _, Kd.R_nil _ _ _ _ _, Kd.R_nil _ _ _ _ _, hk.blk (blk_below hX hb) (by omega) (by simp), below_six (below_step hB hb) (by omega) _ _ _ _ _ _, keep_six (hK.trans (KeepBut.of_below hb g none) (.inl rfl)) (by omega) _ _ _ _ _ _, gl, by omega, hgr, by omega, g0⟩
theorem sel_step (n : Nat) (hK_ : ∀ m, m < n → SKidC m) : SElC (n + 1) := by
 unfold SKidC at hK_
 intro g about deep s p b r r2 r3 r4 w0 w hI hB h
 have hu := Tryz.underlying43
 rw [sEl] at h
 have HI := As9.mk hI
 have HB := As9.mk hB
 have HGL : As9 (g < w.heap.size) := ⟨hI.lt⟩
 have HG0 : As9 (w0.heap.size ≤ w.heap.size) := ⟨hB.size⟩
 obtain ⟨⟨s1, p1, b1⟩, ht1, H⟩ := Option.bind_eq_some_iff.mp h
 dsimp only at H
 have Ht1 := As9.mk ht1
 clear ht1 h hI hB
 go_enter Tryz.func84, Tryz.ntmps84
 cases b1 with
 | false =>
  rw [if_neg (by simp)] at H
  simp only [Option.some.injEq, Prod.mk.injEq] at H
  obtain ⟨rfl, rfl, rfl, rfl⟩ := H
  go_wp2_with (first | ((with_reducible refine gate_dst (N := 6) rfl ?_); refine bE_ #[.int .i64 0, .int .i64 0, .string ⟨#[]⟩, .slice none 0 0, .string ⟨#[]⟩, .slice none 0 0] 43 ?_; intro gr hg_ w1 hbox hb; have HGR := As9.mk hg_; have HI1 := As9.mk (HI.out.below hb); have HB1 := As9.mk (below_step HB.out hb); have HK1 := As9.mk (KeepBut.of_below hb g none); have HX1 := As9.mk hbox; clear hg_ hbox hb HI HB) | ((with_reducible refine gate_dst (N := 7) rfl ?_); refine bE_ #[.int .i64 0, .int .i64 0, .string ⟨#[]⟩, .slice none 0 0, .string ⟨#[]⟩, .slice none 0 0] 43 ?_; intro ge hg_ w2 hbox hb; have HGE := As9.mk hg_; have HBX := As9.mk hb; have HX2 := As9.mk hbox; obtain ⟨he0, he1, he2, he3, he4, he5, hf0, hf1, hf2, hf3, hf4, hf5⟩ := bk6_ hbox; clear hg_ hb hbox) | (go_at_call 91; have HE3 := As9.mk (Sle.start HI1.out HB1.out HK1.out HX1.out (Nat.le_of_eq HGR.out.symm) HGL.out HG0.out HGE.out HX2.out HBX.out); clear HI1 HB1 HK1 HX1 HX2 HBX he0 he1 he2 he3 he4 he5 hf0 hf1 hf2 hf3 hf4 hf5; (with_reducible refine (spec_l19Take.calls g s p b ⟨#[60]⟩ _ _ _ w0 _ HE3.out.st HE3.out.bl Ht1.out).mono ?_); rintro e w4 ⟨rfl, hi, hb, hk⟩; have HE4 := As9.mk (HE3.out.state hi hb hk); clear hi hb hk HE3; obtain ⟨he0, he1, he2, he3, he4, he5, hf0, hf1, hf2, hf3, hf4, hf5⟩ := bk6_ HE4.out.el; obtain ⟨hz0, hz1, hz2, hz3, hz4, hz5, hy0, hy1, hy2, hy3, hy4, hy5⟩ := bk6_ HE4.out.rs; have hc0 := cellS89_0 HE4.out.st.1; have hc1 := cellS89_1 HE4.out.st.1; have hc2 := cellS89_2 HE4.out.st.1; have hg1 := blk_frozen HE4.out.st.1 1; have hg2 := blk_frozen HE4.out.st.1 2; have hn1 := eq_false HE4.out.ne; have hn2 := eq_false (Ne.symm HE4.out.ne); have hn3 : (g = ge) = False := eq_false (by have := HE4.out.gl; have := HE4.out.he; omega); have hn4 : (ge = g) = False := eq_false (by have := HE4.out.gl; have := HE4.out.he; omega); have hn5 : (g = gr) = False := eq_false (by have := HE4.out.gl; have := HE4.out.hr; omega); have hn6 : (gr = g) = False := eq_false (by have := HE4.out.gl; have := HE4.out.hr; omega)))
  have HZ := As9.mk (HE4.out.ok_ false)
  refine bodyPost_ret (results_single rfl (.cell gr 43 #[.int .i64 1, .int .i64 0, .string ⟨#[]⟩, .slice none 0 0, .string ⟨#[]⟩, .slice none 0 0] (0, 0) _ rfl (blk_six HZ.out.rs _ _ _ _ _ _) hu rfl (by kernel_rfl) .nil)) rfl ?_
  exact SEl_end (ok := (fun k_ => w.heap.size ≤ k_ ∧ k_ ≠ ge ∧ k_ ≠ gr)) HZ.out.st HZ.out.bl HZ.out.kp HZ.out.rs (k43_mkM _ _ _ ⟨1, 0, ⟨#[]⟩, [], ⟨#[]⟩, []⟩ HZ.out.ar HZ.out.kr) (fun k hk => ⟨hk.1, hk.2.2⟩) HZ.out.hr (Nat.ne_of_lt (Nat.lt_of_lt_of_le HZ.out.gl HZ.out.hr)) (Nat.le_trans HZ.out.g0 HZ.out.hr)
 | true =>
  rw [if_pos rfl] at H
  by_cases d0 : deep = 0
  case pos =>
   rw [if_pos d0] at H
   have d0b : (deep == 0) = true := beq_iff_eq.mpr d0
   simp only [Option.some.injEq, Prod.mk.injEq] at H
   obtain ⟨rfl, rfl, rfl, rfl⟩ := H
   clear d0
   go_wp2_with (first | ((with_reducible refine gate_dst (N := 6) rfl ?_); refine bE_ #[.int .i64 0, .int .i64 0, .string ⟨#[]⟩, .slice none 0 0, .string ⟨#[]⟩, .slice none 0 0] 43 ?_; intro gr hg_ w1 hbox hb; have HGR := As9.mk hg_; have HI1 := As9.mk (HI.out.below hb); have HB1 := As9.mk (below_step HB.out hb); have HK1 := As9.mk (KeepBut.of_below hb g none); have HX1 := As9.mk hbox; clear hg_ hbox hb HI HB) | ((with_reducible refine gate_dst (N := 7) rfl ?_); refine bE_ #[.int .i64 0, .int .i64 0, .string ⟨#[]⟩, .slice none 0 0, .string ⟨#[]⟩, .slice none 0 0] 43 ?_; intro ge hg_ w2 hbox hb; have HGE := As9.mk hg_; have HBX := As9.mk hb; have HX2 := As9.mk hbox; obtain ⟨he0, he1, he2, he3, he4, he5, hf0, hf1, hf2, hf3, hf4, hf5⟩ := bk6_ hbox; clear hg_ hb hbox) | (go_at_call 91; have HE3 := As9.mk (Sle.start HI1.out HB1.out HK1.out HX1.out (Nat.le_of_eq HGR.out.symm) HGL.out HG0.out HGE.out HX2.out HBX.out); clear HI1 HB1 HK1 HX1 HX2 HBX he0 he1 he2 he3 he4 he5 hf0 hf1 hf2 hf3 hf4 hf5; (with_reducible refine (spec_l19Take.calls g s p b ⟨#[60]⟩ _ _ _ w0 _ HE3.out.st HE3.out.bl Ht1.out).mono ?_); rintro e w4 ⟨rfl, hi, hb, hk⟩; have HE4 := As9.mk (HE3.out.state hi hb hk); clear hi hb hk HE3; obtain ⟨he0, he1, he2, he3, he4, he5, hf0, hf1, hf2, hf3, hf4, hf5⟩ := bk6_ HE4.out.el; obtain ⟨hz0, hz1, hz2, hz3, hz4, hz5, hy0, hy1, hy2, hy3, hy4, hy5⟩ := bk6_ HE4.out.rs; have hc0 := cellS89_0 HE4.out.st.1; have hc1 := cellS89_1 HE4.out.st.1; have hc2 := cellS89_2 HE4.out.st.1; have hg1 := blk_frozen HE4.out.st.1 1; have hg2 := blk_frozen HE4.out.st.1 2; have hn1 := eq_false HE4.out.ne; have hn2 := eq_false (Ne.symm HE4.out.ne); have hn3 : (g = ge) = False := eq_false (by have := HE4.out.gl; have := HE4.out.he; omega); have hn4 : (ge = g) = False := eq_false (by have := HE4.out.gl; have := HE4.out.he; omega); have hn5 : (g = gr) = False := eq_false (by have := HE4.out.gl; have := HE4.out.hr; omega); have hn6 : (gr = g) = False := eq_false (by have := HE4.out.gl; have := HE4.out.hr; omega)))
   have HZ := As9.mk (HE4.out.ok_ false)
   refine bodyPost_ret (results_single rfl (.cell gr 43 #[.int .i64 1, .int .i64 0, .string ⟨#[]⟩, .slice none 0 0, .string ⟨#[]⟩, .slice none 0 0] (0, 0) _ rfl (blk_six HZ.out.rs _ _ _ _ _ _) hu rfl (by kernel_rfl) .nil)) rfl ?_
   exact SEl_end (ok := (fun k_ => w.heap.size ≤ k_ ∧ k_ ≠ ge ∧ k_ ≠ gr)) HZ.out.st HZ.out.bl HZ.out.kp HZ.out.rs (k43_mkM _ _ _ ⟨1, 0, ⟨#[]⟩, [], ⟨#[]⟩, []⟩ HZ.out.ar HZ.out.kr) (fun k hk => ⟨hk.1, hk.2.2⟩) HZ.out.hr (Nat.ne_of_lt (Nat.lt_of_lt_of_le HZ.out.gl HZ.out.hr)) (Nat.le_trans HZ.out.g0 HZ.out.hr)
  case neg =>
   rw [if_neg d0] at H
   have d0b : (deep == 0) = false := beq_eq_false_iff_ne.mpr d0
   obtain ⟨⟨nm, nx⟩, hq, H⟩ := Option.bind_eq_some_iff.mp H
   dsimp only at H
   have Hq := As9.mk hq
   have HH := As9.mk H
   clear hq H d0
   go_wp2_with (first | ((with_reducible refine gate_dst (N := 6) rfl ?_); refine bE_ #[.int .i64 0, .int .i64 0, .string ⟨#[]⟩, .slice none 0 0, .string ⟨#[]⟩, .slice none 0 0] 43 ?_; intro gr hg_ w1 hbox hb; have HGR := As9.mk hg_; have HI1 := As9.mk (HI.out.below hb); have HB1 := As9.mk (below_step HB.out hb); have HK1 := As9.mk (KeepBut.of_below hb g none); have HX1 := As9.mk hbox; clear hg_ hbox hb HI HB) | ((with_reducible refine gate_dst (N := 7) rfl ?_); refine bE_ #[.int .i64 0, .int .i64 0, .string ⟨#[]⟩, .slice none 0 0, .string ⟨#[]⟩, .slice none 0 0] 43 ?_; intro ge hg_ w2 hbox hb; have HGE := As9.mk hg_; have HBX := As9.mk hb; have HX2 := As9.mk hbox; obtain ⟨he0, he1, he2, he3, he4, he5, hf0, hf1, hf2, hf3, hf4, hf5⟩ := bk6_ hbox; clear hg_ hb hbox) | (go_at_call 91; have HE3 := As9.mk (Sle.start HI1.out HB1.out HK1.out HX1.out (Nat.le_of_eq HGR.out.symm) HGL.out HG0.out HGE.out HX2.out HBX.out); clear HI1 HB1 HK1 HX1 HX2 HBX he0 he1 he2 he3 he4 he5 hf0 hf1 hf2 hf3 hf4 hf5; (with_reducible refine (spec_l19Take.calls g s p b ⟨#[60]⟩ _ _ _ w0 _ HE3.out.st HE3.out.bl Ht1.out).mono ?_); rintro e w4 ⟨rfl, hi, hb, hk⟩; have HE4 := As9.mk (HE3.out.state hi hb hk); clear hi hb hk HE3; obtain ⟨he0, he1, he2, he3, he4, he5, hf0, hf1, hf2, hf3, hf4, hf5⟩ := bk6_ HE4.out.el; obtain ⟨hz0, hz1, hz2, hz3, hz4, hz5, hy0, hy1, hy2, hy3, hy4, hy5⟩ := bk6_ HE4.out.rs; have hc0 := cellS89_0 HE4.out.st.1; have hc1 := cellS89_1 HE4.out.st.1; have hc2 := cellS89_2 HE4.out.st.1; have hg1 := blk_frozen HE4.out.st.1 1; have hg2 := blk_frozen HE4.out.st.1 2; have hn1 := eq_false HE4.out.ne; have hn2 := eq_false (Ne.symm HE4.out.ne); have hn3 : (g = ge) = False := eq_false (by have := HE4.out.gl; have := HE4.out.he; omega); have hn4 : (ge = g) = False := eq_false (by have := HE4.out.gl; have := HE4.out.he; omega); have hn5 : (g = gr) = False := eq_false (by have := HE4.out.gl; have := HE4.out.hr; omega); have hn6 : (gr = g) = False := eq_false (by have := HE4.out.gl; have := HE4.out.hr; omega)))
   clear he0 hf0 hz0 hy0 he1 hf1 hz1 hy1 he2 hf2 hz2 hy2 he3 hf3 hz3 hy3 he4 hf4 hz4 hy4 he5 hf5 hz5 hy5 hc0 hc1 hc2 hg1 hg2
   have HTd := As9.mk (HE4.out.below (below_drew (Below.refl _ _)))
   clear HE4 d0b
   refine start_ (n := 14) (S := fun w' => w'.cell? ⟨g, 0, none⟩ = some (.string s1) ∧ w'.cell? ⟨g, 1, none⟩ = some (.int .i64 p1)) (ds := [8]) (tS 14 0) (by kernel_rfl) rfl rfl ⟨cellS89_0 HTd.out.st.1, cellS89_1 HTd.out.st.1⟩ (fun hHeld => ?_)
   generalize World.drew _ = wr0 at HTd hHeld ⊢
   iterate 3 refine pq_ ?_
   refine pg_ 4 (tB 14 23) ?_
   refine pg_ 5 (tB 14 55) ?_
   refine pg_ 6 (tB 14 119) ?_
   refine tg_ 3 (tS 14 7) rfl (by rintro w' ⟨s0, s1⟩; go_simp; with_reducible rfl) ?_
   refine tq_ rfl (by rintro w' ⟨s0, s1⟩; go_simp; with_reducible rfl) ?_
   refine last_ (i := 8) (N := some 35) (tS 14 9) rfl rfl (by kernel_rfl) (by decide) (fun K hK => ?_)
   refine gS_ Tryz.func17 #[.string s1, .int .i64 p1] ?_
   with_reducible refine (spec_XmlName.calls n s1 p1 nm nx _ Hq.out).mono ?_
   rintro e wr8 ⟨rfl, hb⟩
   refine ⟨_, rfl, ?_⟩
   have HE5 := As9.mk (HTd.out.below hb)
   clear hb HTd
   refine hK.out _ _ ?_
   clear hK K
   refine nm_ ?_
   iterate 5 refine pq_ ?_
   refine done_ (by kernel_rfl) ?_
   obtain ⟨he0, he1, he2, he3, he4, he5, hf0, hf1, hf2, hf3, hf4, hf5⟩ := bk6_ HE5.out.el
   obtain ⟨hz0, hz1, hz2, hz3, hz4, hz5, hy0, hy1, hy2, hy3, hy4, hy5⟩ := bk6_ HE5.out.rs
   have hc0 := cellS89_0 HE5.out.st.1
   have hc1 := cellS89_1 HE5.out.st.1
   have hc2 := cellS89_2 HE5.out.st.1
   have hg1 := blk_frozen HE5.out.st.1 1
   have hg2 := blk_frozen HE5.out.st.1 2
   have H := HH.out
   clear HH Hq
   by_cases cn : nm.toList = []
   case pos =>
    rw [if_pos cn] at H
    have cnb : (nm.toList == ([] : List UInt8)) = true := by rw [cn]; rfl
    have cni : nm.toList.isEmpty = true := by rw [cn]; rfl
    simp only [Option.some.injEq, Prod.mk.injEq] at H
    obtain ⟨rfl, rfl, rfl, rfl⟩ := H
    go_wp2
    have HZ := As9.mk (HE5.out.ok_ false)
    refine bodyPost_ret (results_single rfl (.cell gr 43 #[.int .i64 1, .int .i64 0, .string ⟨#[]⟩, .slice none 0 0, .string ⟨#[]⟩, .slice none 0 0] (0, 0) _ rfl (blk_six HZ.out.rs _ _ _ _ _ _) hu rfl (by kernel_rfl) .nil)) rfl ?_
    exact SEl_end (ok := (fun k_ => w.heap.size ≤ k_ ∧ k_ ≠ ge ∧ k_ ≠ gr)) HZ.out.st HZ.out.bl HZ.out.kp HZ.out.rs (k43_mkM _ _ _ ⟨1, 0, ⟨#[]⟩, [], ⟨#[]⟩, []⟩ HZ.out.ar HZ.out.kr) (fun k hk => ⟨hk.1, hk.2.2⟩) HZ.out.hr (Nat.ne_of_lt (Nat.lt_of_lt_of_le HZ.out.gl HZ.out.hr)) (Nat.le_trans HZ.out.g0 HZ.out.hr)
   case neg =>
    rw [if_neg cn] at H
    have cnb : (nm.toList == ([] : List UInt8)) = false := beq_eq_false_iff_ne.mpr cn
    have cni : nm.toList.isEmpty = false := by cases h9 : nm.toList with | nil => exact absurd h9 cn | cons _ _ => rfl
    clear cn
    obtain ⟨⟨at_, sp, s3, p3, b3⟩, ha, H⟩ := Option.bind_eq_some_iff.mp H
    dsimp only at H
    have Ha := As9.mk ha
    clear ha
    cases b3 with
    | false =>
     rw [if_neg (by simp)] at H
     go_wp2_with (go_at_call 131; have HE6 := As9.mk ((HE5.out.name_ nm).at_ nx); clear HE5; clear he0 hf0 hz0 hy0 he1 hf1 hz1 hy1 he2 hf2 hz2 hy2 he3 hf3 hz3 hy3 he4 hf4 hz4 hy4 he5 hf5 hz5 hy5 hc0 hc1 hc2 hg1 hg2; (with_reducible refine (spec_l19Attrs.calls n g s1 nx true about at_ sp s3 p3 _ w0 _ HE6.out.st HE6.out.bl Ha.out).mono ?_); rintro e w7 ⟨v3, rfl, hs⟩; have HE7 := As9.mk (HE6.out.state hs.st hs.bl hs.kp); have HE8 := As9.mk ((HE6.out.attrs_ hs).space_ sp); obtain ⟨A3, c3, rfl⟩ := Kd.R_slice hs.nr; clear hs HE6; obtain ⟨he0, he1, he2, he3, he4, he5, hf0, hf1, hf2, hf3, hf4, hf5⟩ := bk6_ HE7.out.el; obtain ⟨hz0, hz1, hz2, hz3, hz4, hz5, hy0, hy1, hy2, hy3, hy4, hy5⟩ := bk6_ HE7.out.rs; have hc0 := cellS89_0 HE7.out.st.1; have hc1 := cellS89_1 HE7.out.st.1; have hc2 := cellS89_2 HE7.out.st.1; have hg1 := blk_frozen HE7.out.st.1 1; have hg2 := blk_frozen HE7.out.st.1 2)
     go_wp2
     go_quiet (fail)
     generalize hW : World.drewN _ nq = wq
     have HE9 : As9 (Sle w0 w wq g ge gr s3 p3 false sp nm (.slice A3 at_.length c3) (.slice none 0 0) at_ []) := ⟨by rw [← hW]; exact HE8.out.below (bN9 (Below.refl _ _) _)⟩
     clear hW HE8 HE7
     clear he0 hf0 hz0 hy0 he1 hf1 hz1 hy1 he2 hf2 hz2 hy2 he3 hf3 hz3 hy3 he4 hf4 hz4 hy4 he5 hf5 hz5 hy5 hc0 hc1 hc2 hg1 hg2
     obtain ⟨he0, he1, he2, he3, he4, he5, hf0, hf1, hf2, hf3, hf4, hf5⟩ := bk6_ HE9.out.el
     obtain ⟨hz0, hz1, hz2, hz3, hz4, hz5, hy0, hy1, hy2, hy3, hy4, hy5⟩ := bk6_ HE9.out.rs
     have hc0 := cellS89_0 HE9.out.st.1
     have hc1 := cellS89_1 HE9.out.st.1
     have hc2 := cellS89_2 HE9.out.st.1
     have hg1 := blk_frozen HE9.out.st.1 1
     have hg2 := blk_frozen HE9.out.st.1 2
     clear Ha cnb cni
     cases n with
     | zero => simp [sRest] at H
     | succ m =>
     rw [sRest] at H
     obtain ⟨⟨s5, p5, b5⟩, ht3, H⟩ := Option.bind_eq_some_iff.mp H
     obtain ⟨⟨ks, s6, p6, b6⟩, hks, H⟩ := Option.bind_eq_some_iff.mp H
     dsimp only at hks H
     split at H
     case isFalse => cases H
     case isTrue hsz =>
     obtain ⟨⟨s7, p7, b7⟩, ht4, H⟩ := Option.bind_eq_some_iff.mp H
     simp only [Option.some.injEq, Prod.mk.injEq] at H
     obtain ⟨rfl, rfl, rfl, rfl⟩ := H
     have Ht3 := As9.mk ht3
     have Hks := As9.mk hks
     have Ht4 := As9.mk ht4
     have q1 : (9223372036854775807 < (⟨#[60, 47]⟩ : ByteArray).size + nm.size) = False := eq_false (by have h2 : (⟨#[60, 47]⟩ : ByteArray).size = 2 := rfl; omega)
     have q2 : (9223372036854775807 < (⟨#[60, 47]⟩ : ByteArray).size + nm.size + (⟨#[62]⟩ : ByteArray).size) = False := eq_false (by have h2 : (⟨#[60, 47]⟩ : ByteArray).size = 2 := rfl; have h3 : (⟨#[62]⟩ : ByteArray).size = 1 := rfl; omega)
     have q3 : (9223372036854775807 < 2 + nm.size) = False := eq_false (by omega)
     have q4 : (9223372036854775807 < 2 + nm.size + 1) = False := eq_false (by omega)
     clear ht3 hks ht4 hsz
     go_wp2_with (first | (go_at_call 91; (with_reducible refine (spec_l19Take.calls g s3 p3 _ ⟨#[62]⟩ s5 p5 b5 w0 _ HE9.out.st HE9.out.bl Ht3.out).mono ?_); rintro e w10 ⟨rfl, hi, hb, hk⟩; have HEa := As9.mk (HE9.out.state hi hb hk); clear hi hb hk HE9; clear he0 hf0 hz0 hy0 he1 hf1 hz1 hy1 he2 hf2 hz2 hy2 he3 hf3 hz3 hy3 he4 hf4 hz4 hy4 he5 hf5 hz5 hy5 hc0 hc1 hc2 hg1 hg2; obtain ⟨he0, he1, he2, he3, he4, he5, hf0, hf1, hf2, hf3, hf4, hf5⟩ := bk6_ HEa.out.el; obtain ⟨hz0, hz1, hz2, hz3, hz4, hz5, hy0, hy1, hy2, hy3, hy4, hy5⟩ := bk6_ HEa.out.rs; have hc0 := cellS89_0 HEa.out.st.1; have hc1 := cellS89_1 HEa.out.st.1; have hc2 := cellS89_2 HEa.out.st.1; have hg1 := blk_frozen HEa.out.st.1 1; have hg2 := blk_frozen HEa.out.st.1 2) | (go_at_call 132; (with_reducible refine (hK_ m (by omega) g sp deep s5 p5 b5 ks s6 p6 b6 w0 _ HEa.out.st HEa.out.bl Hks.out).mono ?_); rintro e w11 ⟨v5, rfl, hs⟩; have HEb := As9.mk (HEa.out.state hs.st hs.bl hs.kp); have HEc := As9.mk (HEa.out.kids_ hs); obtain ⟨A5, c5, rfl⟩ := Kd.R_slice hs.nr; clear hs HEa; clear he0 hf0 hz0 hy0 he1 hf1 hz1 hy1 he2 hf2 hz2 hy2 he3 hf3 hz3 hy3 he4 hf4 hz4 hy4 he5 hf5 hz5 hy5 hc0 hc1 hc2 hg1 hg2; obtain ⟨he0, he1, he2, he3, he4, he5, hf0, hf1, hf2, hf3, hf4, hf5⟩ := bk6_ HEb.out.el; obtain ⟨hz0, hz1, hz2, hz3, hz4, hz5, hy0, hy1, hy2, hy3, hy4, hy5⟩ := bk6_ HEb.out.rs; have hc0 := cellS89_0 HEb.out.st.1; have hc1 := cellS89_1 HEb.out.st.1; have hc2 := cellS89_2 HEb.out.st.1; have hg1 := blk_frozen HEb.out.st.1 1; have hg2 := blk_frozen HEb.out.st.1 2) | (go_at_call 91; clear he0 hf0 hz0 hy0 he1 hf1 hz1 hy1 he2 hf2 hz2 hy2 he3 hf3 hz3 hy3 he4 hf4 hz4 hy4 he5 hf5 hz5 hy5 hc0 hc1 hc2 hg1 hg2; (with_reducible refine (spec_l19Take.calls g s6 p6 b6 ((⟨#[60, 47]⟩ ++ nm) ++ ⟨#[62]⟩) s7 p7 b7 w0 _ HEc.out.st HEc.out.bl Ht4.out).mono ?_); rintro e w12 ⟨rfl, hi, hb, hk⟩; have HEd := As9.mk (HEc.out.state hi hb hk); clear hi hb hk HEc; obtain ⟨he0, he1, he2, he3, he4, he5, hf0, hf1, hf2, hf3, hf4, hf5⟩ := bk6_ HEd.out.el; obtain ⟨hz0, hz1, hz2, hz3, hz4, hz5, hy0, hy1, hy2, hy3, hy4, hy5⟩ := bk6_ HEd.out.rs; have hc0 := cellS89_0 HEd.out.st.1; have hc1 := cellS89_1 HEd.out.st.1; have hc2 := cellS89_2 HEd.out.st.1; have hg1 := blk_frozen HEd.out.st.1 1; have hg2 := blk_frozen HEd.out.st.1 2))
     refine bodyPost_ret (results_single rfl (.cell gr 43 #[.int .i64 1, .int .i64 sp, .string nm, .slice A3 at_.length c3, .string ⟨#[]⟩, .slice A5 ks.length c5] (0, 0) _ rfl (blk_six HEd.out.rs _ _ _ _ _ _) hu rfl (by kernel_rfl) .nil)) rfl ?_
     exact SEl_end (ok := (fun k_ => w.heap.size ≤ k_ ∧ k_ ≠ ge ∧ k_ ≠ gr)) HEd.out.st HEd.out.bl HEd.out.kp HEd.out.rs (k43_mkM _ _ _ ⟨1, sp, nm, at_, ⟨#[]⟩, ks⟩ HEd.out.ar HEd.out.kr) (fun k hk => ⟨hk.1, hk.2.2⟩) HEd.out.hr (Nat.ne_of_lt (Nat.lt_of_lt_of_le HEd.out.gl HEd.out.hr)) (Nat.le_trans HEd.out.g0 HEd.out.hr)
    | true =>
     rw [if_pos rfl] at H
     obtain ⟨z, hz_, H⟩ := Option.bind_eq_some_iff.mp H
     have HZ := As9.mk hz_
     clear hz_
     cases z with
     | true =>
      rw [if_pos rfl] at H
      simp only [Option.some.injEq, Prod.mk.injEq] at H
      obtain ⟨rfl, rfl, rfl, rfl⟩ := H
      go_wp2_with (go_at_call 131; have HE6 := As9.mk ((HE5.out.name_ nm).at_ nx); clear HE5; clear he0 hf0 hz0 hy0 he1 hf1 hz1 hy1 he2 hf2 hz2 hy2 he3 hf3 hz3 hy3 he4 hf4 hz4 hy4 he5 hf5 hz5 hy5 hc0 hc1 hc2 hg1 hg2; (with_reducible refine (spec_l19Attrs.calls n g s1 nx true about at_ sp s3 p3 _ w0 _ HE6.out.st HE6.out.bl Ha.out).mono ?_); rintro e w7 ⟨v3, rfl, hs⟩; have HE7 := As9.mk (HE6.out.state hs.st hs.bl hs.kp); have HE8 := As9.mk ((HE6.out.attrs_ hs).space_ sp); obtain ⟨A3, c3, rfl⟩ := Kd.R_slice hs.nr; clear hs HE6; obtain ⟨he0, he1, he2, he3, he4, he5, hf0, hf1, hf2, hf3, hf4, hf5⟩ := bk6_ HE7.out.el; obtain ⟨hz0, hz1, hz2, hz3, hz4, hz5, hy0, hy1, hy2, hy3, hy4, hy5⟩ := bk6_ HE7.out.rs; have hc0 := cellS89_0 HE7.out.st.1; have hc1 := cellS89_1 HE7.out.st.1; have hc2 := cellS89_2 HE7.out.st.1; have hg1 := blk_frozen HE7.out.st.1 1; have hg2 := blk_frozen HE7.out.st.1 2)
      go_wp2
      go_quiet ((go_at_call 69; (refine (spec_l5Stands.calls s3 p3 ⟨#[47, 62]⟩ _ _ HZ.out).mono ?_); rintro r w' ⟨rfl, ⟨nd, rfl⟩⟩; exact ⟨rfl, _, World.drewN_drewN _ _ _⟩))
      generalize hW : World.drewN _ nq = wq
      have HE9 : As9 (Sle w0 w wq g ge gr s3 p3 true sp nm (.slice A3 at_.length c3) (.slice none 0 0) at_ []) := ⟨by rw [← hW]; exact HE8.out.below (bN9 (Below.refl _ _) _)⟩
      clear hW HE8 HE7
      clear he0 hf0 hz0 hy0 he1 hf1 hz1 hy1 he2 hf2 hz2 hy2 he3 hf3 hz3 hy3 he4 hf4 hz4 hy4 he5 hf5 hz5 hy5 hc0 hc1 hc2 hg1 hg2
      obtain ⟨he0, he1, he2, he3, he4, he5, hf0, hf1, hf2, hf3, hf4, hf5⟩ := bk6_ HE9.out.el
      obtain ⟨hz0, hz1, hz2, hz3, hz4, hz5, hy0, hy1, hy2, hy3, hy4, hy5⟩ := bk6_ HE9.out.rs
      have hc0 := cellS89_0 HE9.out.st.1
      have hc1 := cellS89_1 HE9.out.st.1
      have hc2 := cellS89_2 HE9.out.st.1
      have hg1 := blk_frozen HE9.out.st.1 1
      have hg2 := blk_frozen HE9.out.st.1 2
      clear Ha cnb cni HZ
      go_wp2
      have HZ := As9.mk (HE9.out.at_ (wrap64 (p3 + 2)))
      refine bodyPost_ret (results_single rfl (.cell gr 43 #[.int .i64 1, .int .i64 sp, .string nm, .slice A3 at_.length c3, .string ⟨#[]⟩, .slice none 0 0] (0, 0) _ rfl (blk_six HZ.out.rs _ _ _ _ _ _) hu rfl (by kernel_rfl) .nil)) rfl ?_
      exact SEl_end (ok := (fun k_ => w.heap.size ≤ k_ ∧ k_ ≠ ge ∧ k_ ≠ gr)) HZ.out.st HZ.out.bl HZ.out.kp HZ.out.rs (k43_mkM _ _ _ ⟨1, sp, nm, at_, ⟨#[]⟩, []⟩ HZ.out.ar HZ.out.kr) (fun k hk => ⟨hk.1, hk.2.2⟩) HZ.out.hr (Nat.ne_of_lt (Nat.lt_of_lt_of_le HZ.out.gl HZ.out.hr)) (Nat.le_trans HZ.out.g0 HZ.out.hr)
     | false =>
      rw [if_neg (by simp)] at H
      go_wp2_with (go_at_call 131; have HE6 := As9.mk ((HE5.out.name_ nm).at_ nx); clear HE5; clear he0 hf0 hz0 hy0 he1 hf1 hz1 hy1 he2 hf2 hz2 hy2 he3 hf3 hz3 hy3 he4 hf4 hz4 hy4 he5 hf5 hz5 hy5 hc0 hc1 hc2 hg1 hg2; (with_reducible refine (spec_l19Attrs.calls n g s1 nx true about at_ sp s3 p3 _ w0 _ HE6.out.st HE6.out.bl Ha.out).mono ?_); rintro e w7 ⟨v3, rfl, hs⟩; have HE7 := As9.mk (HE6.out.state hs.st hs.bl hs.kp); have HE8 := As9.mk ((HE6.out.attrs_ hs).space_ sp); obtain ⟨A3, c3, rfl⟩ := Kd.R_slice hs.nr; clear hs HE6; obtain ⟨he0, he1, he2, he3, he4, he5, hf0, hf1, hf2, hf3, hf4, hf5⟩ := bk6_ HE7.out.el; obtain ⟨hz0, hz1, hz2, hz3, hz4, hz5, hy0, hy1, hy2, hy3, hy4, hy5⟩ := bk6_ HE7.out.rs; have hc0 := cellS89_0 HE7.out.st.1; have hc1 := cellS89_1 HE7.out.st.1; have hc2 := cellS89_2 HE7.out.st.1; have hg1 := blk_frozen HE7.out.st.1 1; have hg2 := blk_frozen HE7.out.st.1 2)
      go_wp2
      go_quiet ((go_at_call 69; (refine (spec_l5Stands.calls s3 p3 ⟨#[47, 62]⟩ _ _ HZ.out).mono ?_); rintro r w' ⟨rfl, ⟨nd, rfl⟩⟩; exact ⟨rfl, _, World.drewN_drewN _ _ _⟩))
      generalize hW : World.drewN _ nq = wq
      have HE9 : As9 (Sle w0 w wq g ge gr s3 p3 true sp nm (.slice A3 at_.length c3) (.slice none 0 0) at_ []) := ⟨by rw [← hW]; exact HE8.out.below (bN9 (Below.refl _ _) _)⟩
      clear hW HE8 HE7
      clear he0 hf0 hz0 hy0 he1 hf1 hz1 hy1 he2 hf2 hz2 hy2 he3 hf3 hz3 hy3 he4 hf4 hz4 hy4 he5 hf5 hz5 hy5 hc0 hc1 hc2 hg1 hg2
      obtain ⟨he0, he1, he2, he3, he4, he5, hf0, hf1, hf2, hf3, hf4, hf5⟩ := bk6_ HE9.out.el
      obtain ⟨hz0, hz1, hz2, hz3, hz4, hz5, hy0, hy1, hy2, hy3, hy4, hy5⟩ := bk6_ HE9.out.rs
      have hc0 := cellS89_0 HE9.out.st.1
      have hc1 := cellS89_1 HE9.out.st.1
      have hc2 := cellS89_2 HE9.out.st.1
      have hg1 := blk_frozen HE9.out.st.1 1
      have hg2 := blk_frozen HE9.out.st.1 2
      clear Ha cnb cni HZ
      cases n with
      | zero => simp [sRest] at H
      | succ m =>
      rw [sRest] at H
      obtain ⟨⟨s5, p5, b5⟩, ht3, H⟩ := Option.bind_eq_some_iff.mp H
      obtain ⟨⟨ks, s6, p6, b6⟩, hks, H⟩ := Option.bind_eq_some_iff.mp H
      dsimp only at hks H
      split at H
      case isFalse => cases H
      case isTrue hsz =>
      obtain ⟨⟨s7, p7, b7⟩, ht4, H⟩ := Option.bind_eq_some_iff.mp H
      simp only [Option.some.injEq, Prod.mk.injEq] at H
      obtain ⟨rfl, rfl, rfl, rfl⟩ := H
      have Ht3 := As9.mk ht3
      have Hks := As9.mk hks
      have Ht4 := As9.mk ht4
      have q1 : (9223372036854775807 < (⟨#[60, 47]⟩ : ByteArray).size + nm.size) = False := eq_false (by have h2 : (⟨#[60, 47]⟩ : ByteArray).size = 2 := rfl; omega)
      have q2 : (9223372036854775807 < (⟨#[60, 47]⟩ : ByteArray).size + nm.size + (⟨#[62]⟩ : ByteArray).size) = False := eq_false (by have h2 : (⟨#[60, 47]⟩ : ByteArray).size = 2 := rfl; have h3 : (⟨#[62]⟩ : ByteArray).size = 1 := rfl; omega)
      have q3 : (9223372036854775807 < 2 + nm.size) = False := eq_false (by omega)
      have q4 : (9223372036854775807 < 2 + nm.size + 1) = False := eq_false (by omega)
      clear ht3 hks ht4 hsz
      go_wp2_with (first | (go_at_call 91; (with_reducible refine (spec_l19Take.calls g s3 p3 _ ⟨#[62]⟩ s5 p5 b5 w0 _ HE9.out.st HE9.out.bl Ht3.out).mono ?_); rintro e w10 ⟨rfl, hi, hb, hk⟩; have HEa := As9.mk (HE9.out.state hi hb hk); clear hi hb hk HE9; clear he0 hf0 hz0 hy0 he1 hf1 hz1 hy1 he2 hf2 hz2 hy2 he3 hf3 hz3 hy3 he4 hf4 hz4 hy4 he5 hf5 hz5 hy5 hc0 hc1 hc2 hg1 hg2; obtain ⟨he0, he1, he2, he3, he4, he5, hf0, hf1, hf2, hf3, hf4, hf5⟩ := bk6_ HEa.out.el; obtain ⟨hz0, hz1, hz2, hz3, hz4, hz5, hy0, hy1, hy2, hy3, hy4, hy5⟩ := bk6_ HEa.out.rs; have hc0 := cellS89_0 HEa.out.st.1; have hc1 := cellS89_1 HEa.out.st.1; have hc2 := cellS89_2 HEa.out.st.1; have hg1 := blk_frozen HEa.out.st.1 1; have hg2 := blk_frozen HEa.out.st.1 2) | (go_at_call 132; (with_reducible refine (hK_ m (by omega) g sp deep s5 p5 b5 ks s6 p6 b6 w0 _ HEa.out.st HEa.out.bl Hks.out).mono ?_); rintro e w11 ⟨v5, rfl, hs⟩; have HEb := As9.mk (HEa.out.state hs.st hs.bl hs.kp); have HEc := As9.mk (HEa.out.kids_ hs); obtain ⟨A5, c5, rfl⟩ := Kd.R_slice hs.nr; clear hs HEa; clear he0 hf0 hz0 hy0 he1 hf1 hz1 hy1 he2 hf2 hz2 hy2 he3 hf3 hz3 hy3 he4 hf4 hz4 hy4 he5 hf5 hz5 hy5 hc0 hc1 hc2 hg1 hg2; obtain ⟨he0, he1, he2, he3, he4, he5, hf0, hf1, hf2, hf3, hf4, hf5⟩ := bk6_ HEb.out.el; obtain ⟨hz0, hz1, hz2, hz3, hz4, hz5, hy0, hy1, hy2, hy3, hy4, hy5⟩ := bk6_ HEb.out.rs; have hc0 := cellS89_0 HEb.out.st.1; have hc1 := cellS89_1 HEb.out.st.1; have hc2 := cellS89_2 HEb.out.st.1; have hg1 := blk_frozen HEb.out.st.1 1; have hg2 := blk_frozen HEb.out.st.1 2) | (go_at_call 91; clear he0 hf0 hz0 hy0 he1 hf1 hz1 hy1 he2 hf2 hz2 hy2 he3 hf3 hz3 hy3 he4 hf4 hz4 hy4 he5 hf5 hz5 hy5 hc0 hc1 hc2 hg1 hg2; (with_reducible refine (spec_l19Take.calls g s6 p6 b6 ((⟨#[60, 47]⟩ ++ nm) ++ ⟨#[62]⟩) s7 p7 b7 w0 _ HEc.out.st HEc.out.bl Ht4.out).mono ?_); rintro e w12 ⟨rfl, hi, hb, hk⟩; have HEd := As9.mk (HEc.out.state hi hb hk); clear hi hb hk HEc; obtain ⟨he0, he1, he2, he3, he4, he5, hf0, hf1, hf2, hf3, hf4, hf5⟩ := bk6_ HEd.out.el; obtain ⟨hz0, hz1, hz2, hz3, hz4, hz5, hy0, hy1, hy2, hy3, hy4, hy5⟩ := bk6_ HEd.out.rs; have hc0 := cellS89_0 HEd.out.st.1; have hc1 := cellS89_1 HEd.out.st.1; have hc2 := cellS89_2 HEd.out.st.1; have hg1 := blk_frozen HEd.out.st.1 1; have hg2 := blk_frozen HEd.out.st.1 2))
      refine bodyPost_ret (results_single rfl (.cell gr 43 #[.int .i64 1, .int .i64 sp, .string nm, .slice A3 at_.length c3, .string ⟨#[]⟩, .slice A5 ks.length c5] (0, 0) _ rfl (blk_six HEd.out.rs _ _ _ _ _ _) hu rfl (by kernel_rfl) .nil)) rfl ?_
      exact SEl_end (ok := (fun k_ => w.heap.size ≤ k_ ∧ k_ ≠ ge ∧ k_ ≠ gr)) HEd.out.st HEd.out.bl HEd.out.kp HEd.out.rs (k43_mkM _ _ _ ⟨1, sp, nm, at_, ⟨#[]⟩, ks⟩ HEd.out.ar HEd.out.kr) (fun k hk => ⟨hk.1, hk.2.2⟩) HEd.out.hr (Nat.ne_of_lt (Nat.lt_of_lt_of_le HEd.out.gl HEd.out.hr)) (Nat.le_trans HEd.out.g0 HEd.out.hr)
theorem sreader_all : ∀ k, SElC k ∧ SKidC k := by
 intro k
 induction k using Nat.strongRecOn with
 | _ k ih =>
 refine ⟨?_, ?_⟩
 ·cases k with
  | zero => exact fun g about deep s p b r r2 r3 r4 w0 w _ _ h => by simp [sEl] at h
  | succ n => exact sel_step n (fun m hm => (ih m (by omega)).2)
 ·exact skids_step k (fun m hm => (ih m hm).1)
def spec_l19El.f (k : Nat) (s : ByteArray) (p : Int) (b : Bool) (about deep : Int) : Option (S43 × ByteArray × Int × Bool) := sEl k about deep s p b
theorem spec_l19El.mono : ∀ s p b about deep k, LeO (spec_l19El.f k s p b about deep) (spec_l19El.f (k + 1) s p b about deep) := fun _ _ _ _ _ k => (sEl_mono_all k).1 _ _ _ _ _
theorem spec_l19El.calls (k g : Nat) (about deep : Int) (s : ByteArray) (p : Int) (b : Bool) (r : S43) (r2 : ByteArray) (r3 : Int) (r4 : Bool) (w0 w : World) (hI : IsS89 w0 w g s p b) (hB : Below w0.heap.size w0 w) (h : spec_l19El.f k s p b about deep = some (r, r2, r3, r4)) :
  Calls Tryz.prog 84 #[.pointer (some ⟨g, 0, none⟩), .int .i64 about, .int .i64 deep] w (SElPost w0 w g r r2 r3 r4) := (sreader_all k).1 g about deep s p b r r2 r3 r4 w0 w hI hB h
end Go.Proofs.YtkmmoheeoblmnaaGreatDoor.A
namespace Go.Proofs.YtkmmoheeoblmnaaGreatDoor.A
open Go.RowKit Go.Proofs.YtkmmoheeoblmnaaGreatDoorW.PrintWords Go.Proofs.YtkmmoheeoblmnaaGreatDoorW.PrintLast Go.Proofs.YtkmmoheeoblmnaaGreatDoorW.PrintMore
attribute [local go_sem] max2_int min2_int max_two min_two max_three min_three max_four min_four
set_option linter.unusedVariables false
set_option linter.unusedSimpArgs false
set_option maxHeartbeats 8000000
set_option maxRecDepth 100000
mutual
def spec_ElDeep.l0 : Nat → Int → Int → Int → Int → ByteArray → List (S36) → ByteArray → List (S43) → Option (Int)
 | 0, _, _, _, _, _, _, _, _ => none
 | k + 1, x3, x4, x509000, x509001, x509002, x509003, x509004, x509005 => if x4 < (x509005.length : Int) then (if 0 ≤ x4 then ((spec_ElDeep.f k ((rd_T43 x509005 x4).f0) ((rd_T43 x509005 x4).f1) ((rd_T43 x509005 x4).f2) ((rd_T43 x509005 x4).f3) ((rd_T43 x509005 x4).f4) ((rd_T43 x509005 x4).f5)).bind fun t510 => ((spec_l1Max.f x3 t510).bind fun t511 => (spec_ElDeep.l0 k t511 (wrap64 (x4 + 1)) x509000 x509001 x509002 x509003 x509004 x509005))) else (none)) else (some (wrap64 (x3 + 1)))
def spec_ElDeep.f : Nat → Int → Int → ByteArray → List (S36) → ByteArray → List (S43) → Option (Int)
 | 0, _, _, _, _, _, _ => none
 | k + 1, a0_0, a0_1, a0_2, l0_3, a0_4, l0_5 => spec_ElDeep.l0 k 0 0 a0_0 a0_1 a0_2 l0_3 a0_4 l0_5
end
theorem spec_ElDeep.mono_l : ∀ k, (∀ y0 y1 y2 y3 y4 y5, LeO (spec_ElDeep.f k y0 y1 y2 y3 y4 y5) (spec_ElDeep.f (k + 1) y0 y1 y2 y3 y4 y5)) ∧ (∀ y0 y1 y2 y3 y4 y5 y6 y7, LeO (spec_ElDeep.l0 k y0 y1 y2 y3 y4 y5 y6 y7) (spec_ElDeep.l0 (k + 1) y0 y1 y2 y3 y4 y5 y6 y7))
 | 0 => ⟨fun _ _ _ _ _ _ r h => by simp [spec_ElDeep.f] at h, fun _ _ _ _ _ _ _ _ r h => by simp [spec_ElDeep.l0] at h⟩
 | k + 1 => by
  obtain ⟨ih0, ih1⟩ := spec_ElDeep.mono_l k
  refine ⟨?_, ?_⟩
  ·intro y0 y1 y2 y3 y4 y5
   unfold spec_ElDeep.f
   with_reducible repeat' first | exact ih0 _ _ _ _ _ _ | exact ih1 _ _ _ _ _ _ _ _ | apply LeO.refl | apply LeO.none | apply LeO.ite | apply LeO.bind | intro
  ·intro y0 y1 y2 y3 y4 y5 y6 y7
   unfold spec_ElDeep.l0
   with_reducible repeat' first | exact ih0 _ _ _ _ _ _ | exact ih1 _ _ _ _ _ _ _ _ | apply LeO.refl | apply LeO.none | apply LeO.ite | apply LeO.bind | intro
theorem spec_ElDeep.mono : ∀ a0 a1 a2 a3 a4 a5 k, LeO (spec_ElDeep.f k a0 a1 a2 a3 a4 a5) (spec_ElDeep.f (k + 1) a0 a1 a2 a3 a4 a5) := by
 intro a0 a1 a2 a3 a4 a5 k
 obtain ⟨ih0, ih1⟩ := spec_ElDeep.mono_l k
 exact ih0 a0 a1 a2 a3 a4 a5
theorem spec_ElDeep.calls (k : Nat) : ∀ (a0_0 : Int) (a0_1 : Int) (a0_2 : ByteArray) (A0_3 : Option Addr) (c0_3 : Nat) (l0_3 : List (S36)) (a0_4 : ByteArray) (A0_5 : Option Addr) (c0_5 : Nat) (l0_5 : List (S43)) (r : Int) (w : World) (hr0_3 : Kd.C k36 w A0_3 l0_3.length l0_3) (hc0_3 : l0_3.length ≤ c0_3) (hr0_5 : Kd.C k43 w A0_5 l0_5.length l0_5) (hc0_5 : l0_5.length ≤ c0_5) (h : spec_ElDeep.f k a0_0 a0_1 a0_2 l0_3 a0_4 l0_5 = some r),
  Calls Tryz.prog 133 #[.agg #[.int .i64 a0_0, .int .i64 a0_1, .string a0_2, .slice A0_3 l0_3.length c0_3, .string a0_4, .slice A0_5 l0_5.length c0_5]] w fun e w' => e = .returned (.int .i64 r) ∧ Below w.heap.size w w' := by
 induction k using Nat.strongRecOn with
 | _ k ih =>
 intro a0_0 a0_1 a0_2 A0_3 c0_3 l0_3 a0_4 A0_5 c0_5 l0_5 r w hr0_3 hc0_3 hr0_5 hc0_5 h
 cases k with
 | zero => exact absurd h (by simp [spec_ElDeep.f])
 | succ k =>
 simp only [spec_ElDeep.f] at h
 have hu43 := Tryz.underlying43
 have HR0_3 := As9.mk hr0_3
 have HC0_3 := As9.mk hc0_3
 clear hr0_3 hc0_3
 have HR0_5 := As9.mk hr0_5
 have HC0_5 := As9.mk hc0_5
 clear hr0_5 hc0_5
 have HB := As9.mk (Below.refl w.heap.size w)
 have H : (spec_ElDeep.l0 k 0 0 a0_0 a0_1 a0_2 l0_3 a0_4 l0_5) = some r := h
 clear h
 have H' := As9.mk H
 clear H
 go_enter Tryz.func133, Tryz.ntmps133
 go_wp2_with (first | ((with_reducible refine gate_dst (N := 1) rfl ?_); refine bE_ #[.int .i64 a0_0, .int .i64 a0_1, .string a0_2, .slice A0_3 l0_3.length c0_3, .string a0_4, .slice A0_5 l0_5.length c0_5] 43 ?_; intro gb508 hg w2 hbox hb; have BK508 := As9.mk (hbox); have GW508 := hs_ hg; have GE508 := hs_ hg; replace HB := bS_ hb; clear hb hbox hg))
 go_loopg [3, 4] k (fun kq v3 v4 w' => ∃ (x3_1 : Int) (x4_1 : Int), v3 = .int .i64 x3_1 ∧ v4 = .int .i64 x4_1 ∧ As9 (spec_ElDeep.l0 kq x3_1 x4_1 a0_0 a0_1 a0_2 l0_3 a0_4 l0_5 = some r) ∧ As9 (kq ≤ k) ∧ As9 (w'.heap[gb508]? = some (.cells #[.int .i64 a0_0, .int .i64 a0_1, .string a0_2, (.slice A0_3 l0_3.length c0_3), .string a0_4, (.slice A0_5 l0_5.length c0_5)] 43 (0, 0))) ∧ As9 (Below w.heap.size w w'))
 case atStart => exact ⟨(0), (0), e2_, e2_, H', ⟨Nat.le_refl _⟩, ⟨blk_below BK508.out hR_⟩, ⟨hB_⟩⟩
 case round =>
  clear H'
  try clear c1
  try clear p2
  obtain ⟨x3_1, x4_1, rfl, rfl, HA, HK1, BK508, HB⟩ := hrel
  cases gk with
  | zero => exact absurd HA.out (by simp [spec_ElDeep.l0])
  | succ k1 =>
   have H := HA.out
   clear HA
   simp only [spec_ElDeep.l0] at H
   by_cases c3 : x4_1 < (l0_5.length : Int)
   ·rw [if_pos c3] at H
    have c3b0 := decide_eq_true c3
    clear c3
    obtain ⟨c4, H⟩ := ifn_ H
    have c4b0 := decide_eq_true c4
    clear c4
    obtain ⟨t510, A5, H⟩ := ob_ H
    (try dsimp only at H)
    obtain ⟨t511, A6, H⟩ := ob_ H
    (try dsimp only at H)
    have H' := As9.mk H
    clear H
    obtain ⟨hcz7_0, hcz7_1, hcz7_2, hcz7_3, hcz7_4, hcz7_5, hfz7_0, hfz7_1, hfz7_2, hfz7_3, hfz7_4, hfz7_5⟩ := bk6_ BK508.out
    obtain ⟨p509, q509, ad509, A509_3, c509_3, A509_5, c509_5, e509, hx509_0, hx509_1, hx509_2, hx509_3, hx509_4, hx509_5, HC509_3, HR509_3, HC509_5, HR509_5⟩ := aB43_ HB.out HR0_5.out x4_1
    cases e509
    go_wp2_with (first | ((with_reducible refine gC_ 133 ?_); refine gL_ 18 Tryz.func133 #[.agg #[.int .i64 ((rd_T43 l0_5 x4_1).f0), .int .i64 ((rd_T43 l0_5 x4_1).f1), .string ((rd_T43 l0_5 x4_1).f2), .slice A509_3 ((rd_T43 l0_5 x4_1).f3).length c509_3, .string ((rd_T43 l0_5 x4_1).f4), .slice A509_5 ((rd_T43 l0_5 x4_1).f5).length c509_5]] ?_; (with_reducible refine (ih k1 (by have := HK1.out; omega) ((rd_T43 l0_5 x4_1).f0) ((rd_T43 l0_5 x4_1).f1) ((rd_T43 l0_5 x4_1).f2) _ _ ((rd_T43 l0_5 x4_1).f3) ((rd_T43 l0_5 x4_1).f4) _ _ ((rd_T43 l0_5 x4_1).f5) t510 _ ?side1 ?side2 ?side3 ?side4 A5.out).mono ?_); (case side1 => exact Kd.C_below HR509_3.out hB_); (case side2 => exact HC509_3.out); (case side3 => exact Kd.C_below HR509_5.out hB_); (case side4 => exact HC509_5.out); rintro e w8 ⟨rfl, hb⟩; refine ⟨_, rfl, ?_⟩; replace BK508 := As9.mk (blk_below (g := gb508) (o := .cells #[.int .i64 a0_0, .int .i64 a0_1, .string a0_2, .slice A0_3 l0_3.length c0_3, .string a0_4, .slice (some ad509) l0_5.length c0_5] 43 (0, 0)) (blk_below BK508.out hR_) hb); replace HB := bS_ hb; clear hb) | ((with_reducible refine gC_ 92 ?_); refine gL_ 19 Tryz.func92 #[.int .i64 x3_1, .int .i64 t510] ?_; (with_reducible refine (spec_l1Max.calls x3_1 t510 t511 _ A6.out).mono ?_); rintro e w' ⟨rfl, ⟨nd, rfl⟩⟩; refine ⟨_, rfl, ?_⟩))
    go_roundg k1
    case measure => have := HK1.out; omega
    case rel => exact ⟨(t511), (wrap64 (x4_1 + 1)), e2_, e2_, H', ⟨by have := HK1.out; omega⟩, ⟨blk_below BK508.out hR_⟩, ⟨hB_⟩⟩
   ·rw [if_neg c3] at H
    have c3b0 := decide_eq_false c3
    clear c3
    obtain rfl := Option.some.inj H
    obtain ⟨hcz9_0, hcz9_1, hcz9_2, hcz9_3, hcz9_4, hcz9_5, hfz9_0, hfz9_1, hfz9_2, hfz9_3, hfz9_4, hfz9_5⟩ := bk6_ BK508.out
    go_wp2
    go_ret
    exact ⟨e1_, hB_⟩
end Go.Proofs.YtkmmoheeoblmnaaGreatDoor.A
namespace Go.Proofs.YtkmmoheeoblmnaaGreatDoor.A
open Go.RowKit Go.Proofs.YtkmmoheeoblmnaaGreatDoorW.PrintWords Go.Proofs.YtkmmoheeoblmnaaGreatDoorW.PrintLast Go.Proofs.YtkmmoheeoblmnaaGreatDoorW.PrintMore
attribute [local go_sem] max2_int min2_int max_two min_two max_three min_three max_four min_four
set_option linter.unusedVariables false
set_option linter.unusedSimpArgs false
set_option maxHeartbeats 8000000
set_option maxRecDepth 100000
def spec_NameOk.l0 : Nat → ByteArray → List Int → Int → Option (Bool)
 | 0, _, _, _ => none
 | k + 1, x0, x3, x4 => if x4 < (x3.length : Int) then (if x4 = 0 then (if 0 ≤ x4 then ((spec_IsFirst.f k (rd x3 x4)).bind fun t517 => (if t517 = true then ((spec_IsNext.f k (rd x3 x4)).bind fun t519 => (if t519 = true then (spec_NameOk.l0 k x0 x3 (wrap64 (x4 + 1))) else (some false))) else (some false))) else (none)) else (if 0 ≤ x4 then ((spec_IsNext.f k (rd x3 x4)).bind fun t521 => (if t521 = true then (spec_NameOk.l0 k x0 x3 (wrap64 (x4 + 1))) else (some false))) else (none))) else (if x0.toList = ([] : List UInt8) then (some false) else ((spec_CleanOk.f k x0).bind fun t515 => (some t515)))
def spec_NameOk.f (k : Nat) (a0 : ByteArray) : Option (Bool) := (spec_Signs.f k a0).bind fun t512 => (spec_NameOk.l0 k a0 t512 0)
theorem spec_NameOk.mono_l : ∀ k, (∀ y0 y1 y2, LeO (spec_NameOk.l0 k y0 y1 y2) (spec_NameOk.l0 (k + 1) y0 y1 y2))
 | 0 => fun _ _ _ r h => by simp [spec_NameOk.l0] at h
 | k + 1 => by
  have ih0 := spec_NameOk.mono_l k
  ·intro y0 y1 y2
   unfold spec_NameOk.l0
   with_reducible repeat' first | exact ih0 _ _ _ | exact spec_CleanOk.mono _ _ | exact spec_IsFirst.mono _ _ | exact spec_IsNext.mono _ _ | exact spec_Signs.mono _ _ | apply LeO.refl | apply LeO.none | apply LeO.ite | apply LeO.bind | intro
theorem spec_NameOk.mono : ∀ a0 k, LeO (spec_NameOk.f k a0) (spec_NameOk.f (k + 1) a0) := by
 intro a0 k
 have ih0 := spec_NameOk.mono_l k
 unfold spec_NameOk.f
 with_reducible repeat' first | exact ih0 _ _ _ | exact spec_CleanOk.mono _ _ | exact spec_IsFirst.mono _ _ | exact spec_IsNext.mono _ _ | exact spec_Signs.mono _ _ | apply LeO.refl | apply LeO.none | apply LeO.ite | apply LeO.bind | intro
theorem spec_NameOk.calls (k : Nat) (a0 : ByteArray) (r : Bool) (w : World) (h : spec_NameOk.f k a0 = some r) :
  Calls Tryz.prog 170 #[.string a0] w fun e w' => e = .returned (.bool r) ∧ Below w.heap.size w w' := by
 have HB := As9.mk (Below.refl w.heap.size w)
 have H : ((spec_Signs.f k a0).bind fun t512 => (spec_NameOk.l0 k a0 t512 0)) = some r := h
 clear h
 obtain ⟨t512, A2, H⟩ := ob_ H
 (try dsimp only at H)
 have H' := As9.mk H
 clear H
 go_enter Tryz.func170, Tryz.ntmps170
 go_wp2_with (first | ((with_reducible refine gC_ 165 ?_); refine gL_ 6 Tryz.func165 #[.string a0] ?_; (with_reducible refine (spec_Signs.calls k a0 t512 _ A2.out).mono ?_); rintro e w3 ⟨v513, rfl, ho0, hb⟩; refine ⟨_, rfl, ?_⟩; have HO514 := As9.mk (Kd.R_lower ho0 (below_size hB_)); replace HB := bS_ hb; clear hb; (try clear ho0)))
 go_loopg [4] k (fun kq v4 w' => ∃ (x4_1 : Int), v4 = .int .i64 x4_1 ∧ As9 (spec_NameOk.l0 kq a0 t512 x4_1 = some r) ∧ As9 (kq ≤ k) ∧ As9 (Kd.R (Kd.int .i64) 3 w' w.heap.size (fun _ => True) v513 t512) ∧ As9 (Below w.heap.size w w'))
 case atStart => exact ⟨(0), e2_, H', ⟨Nat.le_refl _⟩, ⟨by (with_reducible repeat (first | apply Kd.R_alloc | apply Kd.R_drewN | apply Kd.R_drew)); exact HO514.out⟩, ⟨hB_⟩⟩
 case round =>
  clear H'
  try clear c1
  try clear p2
  obtain ⟨x4_1, rfl, HA, HK1, HO_3, HB⟩ := hrel
  cases gk with
  | zero => exact absurd HA.out (by simp [spec_NameOk.l0])
  | succ k1 =>
   have H := HA.out
   clear HA
   simp only [spec_NameOk.l0] at H
   by_cases c4 : x4_1 < (t512.length : Int)
   ·rw [if_pos c4] at H
    have c4b0 := decide_eq_true c4
    clear c4
    by_cases c5 : x4_1 = 0
    ·rw [if_pos c5] at H
     obtain ⟨c5b0, c5b1⟩ := be_ c5
     clear c5
     obtain ⟨c6, H⟩ := ifn_ H
     have c6b0 := decide_eq_true c6
     clear c6
     obtain ⟨t517, A7, H⟩ := ob_ H
     (try dsimp only at H)
     by_cases c8 : t517 = true
     ·subst c8
      rw [if_pos rfl] at H
      obtain ⟨t519, A9, H⟩ := ob_ H
      (try dsimp only at H)
      by_cases c10 : t519 = true
      ·subst c10
       rw [if_pos rfl] at H
       have H' := As9.mk H
       clear H
       obtain ⟨Ao11, co11, eo11⟩ := Kd.R_slice HO_3.out
       subst eo11
       have p516 : 0 ≤ (x4_1 : Int) := dT_
       have q516 : x4_1 < (t512.length : Int) := dT_
       obtain ⟨ad516, e516, hx516_0⟩ := Kd.at_int (Kd.R_reads' HO_3.out).2.2 x4_1 p516 q516
       cases e516
       replace p516 := eq_true p516
       replace q516 := eq_true q516
       go_wp2_with (first | (go_at_call 59; (with_reducible refine (spec_IsFirst.calls k1 (rd t512 x4_1) true _ A7.out).mono ?_); rintro e w12 ⟨rfl, hb⟩; replace HO_3 := As9.mk (Kd.R_below (by (with_reducible repeat (first | apply Kd.R_alloc | apply Kd.R_drewN | apply Kd.R_drew)); exact HO_3.out) hb); replace HB := bS_ hb; clear hb; have p518 : 0 ≤ (x4_1 : Int) := dT_; have q518 : x4_1 < (t512.length : Int) := dT_; obtain ⟨ad518, e518, hx518_0⟩ := Kd.at_int (Kd.R_reads' HO_3.out).2.2 x4_1 p518 q518; obtain rfl : ad516 = ad518 := (by injection e518); replace p518 := eq_true p518; replace q518 := eq_true q518) | (go_at_call 60; (with_reducible refine (spec_IsNext.calls k1 (rd t512 x4_1) true _ A9.out).mono ?_); rintro e w13 ⟨rfl, hb⟩; replace HO_3 := As9.mk (Kd.R_below (by (with_reducible repeat (first | apply Kd.R_alloc | apply Kd.R_drewN | apply Kd.R_drew)); exact HO_3.out) hb); replace HB := bS_ hb; clear hb))
       go_roundg k1
       case measure => have := HK1.out; omega
       case rel => exact ⟨(wrap64 (x4_1 + 1)), e2_, H', ⟨by have := HK1.out; omega⟩, ⟨by (with_reducible repeat (first | apply Kd.R_alloc | apply Kd.R_drewN | apply Kd.R_drew)); exact HO_3.out⟩, ⟨hB_⟩⟩
      ·replace c10 := Bool.eq_false_iff.mpr c10
       subst c10
       rw [if_neg nF_] at H
       obtain rfl := Option.some.inj H
       obtain ⟨Ao14, co14, eo14⟩ := Kd.R_slice HO_3.out
       subst eo14
       have p516 : 0 ≤ (x4_1 : Int) := dT_
       have q516 : x4_1 < (t512.length : Int) := dT_
       obtain ⟨ad516, e516, hx516_0⟩ := Kd.at_int (Kd.R_reads' HO_3.out).2.2 x4_1 p516 q516
       cases e516
       replace p516 := eq_true p516
       replace q516 := eq_true q516
       go_wp2_with (first | (go_at_call 59; (with_reducible refine (spec_IsFirst.calls k1 (rd t512 x4_1) true _ A7.out).mono ?_); rintro e w15 ⟨rfl, hb⟩; replace HO_3 := As9.mk (Kd.R_below (by (with_reducible repeat (first | apply Kd.R_alloc | apply Kd.R_drewN | apply Kd.R_drew)); exact HO_3.out) hb); replace HB := bS_ hb; clear hb; have p518 : 0 ≤ (x4_1 : Int) := dT_; have q518 : x4_1 < (t512.length : Int) := dT_; obtain ⟨ad518, e518, hx518_0⟩ := Kd.at_int (Kd.R_reads' HO_3.out).2.2 x4_1 p518 q518; obtain rfl : ad516 = ad518 := (by injection e518); replace p518 := eq_true p518; replace q518 := eq_true q518) | (go_at_call 60; (with_reducible refine (spec_IsNext.calls k1 (rd t512 x4_1) false _ A9.out).mono ?_); rintro e w16 ⟨rfl, hb⟩; replace HO_3 := As9.mk (Kd.R_below (by (with_reducible repeat (first | apply Kd.R_alloc | apply Kd.R_drewN | apply Kd.R_drew)); exact HO_3.out) hb); replace HB := bS_ hb; clear hb))
       go_ret
       exact ⟨e1_, hB_⟩
     ·replace c8 := Bool.eq_false_iff.mpr c8
      subst c8
      rw [if_neg nF_] at H
      obtain rfl := Option.some.inj H
      obtain ⟨Ao17, co17, eo17⟩ := Kd.R_slice HO_3.out
      subst eo17
      have p516 : 0 ≤ (x4_1 : Int) := dT_
      have q516 : x4_1 < (t512.length : Int) := dT_
      obtain ⟨ad516, e516, hx516_0⟩ := Kd.at_int (Kd.R_reads' HO_3.out).2.2 x4_1 p516 q516
      cases e516
      replace p516 := eq_true p516
      replace q516 := eq_true q516
      go_wp2_with (first | (go_at_call 59; (with_reducible refine (spec_IsFirst.calls k1 (rd t512 x4_1) false _ A7.out).mono ?_); rintro e w18 ⟨rfl, hb⟩; replace HO_3 := As9.mk (Kd.R_below (by (with_reducible repeat (first | apply Kd.R_alloc | apply Kd.R_drewN | apply Kd.R_drew)); exact HO_3.out) hb); replace HB := bS_ hb; clear hb))
      go_ret
      exact ⟨e1_, hB_⟩
    ·rw [if_neg c5] at H
     obtain ⟨c5b0, c5b1⟩ := bn_ c5
     obtain ⟨c19, H⟩ := ifn_ H
     have c19b0 := decide_eq_true c19
     clear c19
     obtain ⟨t521, A20, H⟩ := ob_ H
     (try dsimp only at H)
     by_cases c21 : t521 = true
     ·subst c21
      rw [if_pos rfl] at H
      have H' := As9.mk H
      clear H
      obtain ⟨Ao22, co22, eo22⟩ := Kd.R_slice HO_3.out
      subst eo22
      have p520 : 0 ≤ (x4_1 : Int) := dT_
      have q520 : x4_1 < (t512.length : Int) := dT_
      obtain ⟨ad520, e520, hx520_0⟩ := Kd.at_int (Kd.R_reads' HO_3.out).2.2 x4_1 p520 q520
      cases e520
      replace p520 := eq_true p520
      replace q520 := eq_true q520
      go_wp2_with (first | (go_at_call 60; (with_reducible refine (spec_IsNext.calls k1 (rd t512 x4_1) true _ A20.out).mono ?_); rintro e w23 ⟨rfl, hb⟩; replace HO_3 := As9.mk (Kd.R_below (by (with_reducible repeat (first | apply Kd.R_alloc | apply Kd.R_drewN | apply Kd.R_drew)); exact HO_3.out) hb); replace HB := bS_ hb; clear hb))
      go_roundg k1
      case measure => have := HK1.out; omega
      case rel => exact ⟨(wrap64 (x4_1 + 1)), e2_, H', ⟨by have := HK1.out; omega⟩, ⟨by (with_reducible repeat (first | apply Kd.R_alloc | apply Kd.R_drewN | apply Kd.R_drew)); exact HO_3.out⟩, ⟨hB_⟩⟩
     ·replace c21 := Bool.eq_false_iff.mpr c21
      subst c21
      rw [if_neg nF_] at H
      obtain rfl := Option.some.inj H
      obtain ⟨Ao24, co24, eo24⟩ := Kd.R_slice HO_3.out
      subst eo24
      have p520 : 0 ≤ (x4_1 : Int) := dT_
      have q520 : x4_1 < (t512.length : Int) := dT_
      obtain ⟨ad520, e520, hx520_0⟩ := Kd.at_int (Kd.R_reads' HO_3.out).2.2 x4_1 p520 q520
      cases e520
      replace p520 := eq_true p520
      replace q520 := eq_true q520
      go_wp2_with (first | (go_at_call 60; (with_reducible refine (spec_IsNext.calls k1 (rd t512 x4_1) false _ A20.out).mono ?_); rintro e w25 ⟨rfl, hb⟩; replace HO_3 := As9.mk (Kd.R_below (by (with_reducible repeat (first | apply Kd.R_alloc | apply Kd.R_drewN | apply Kd.R_drew)); exact HO_3.out) hb); replace HB := bS_ hb; clear hb))
      go_ret
      exact ⟨e1_, hB_⟩
   ·rw [if_neg c4] at H
    have c4b0 := decide_eq_false c4
    clear c4
    by_cases c26 : a0.toList = ([] : List UInt8)
    ·rw [if_pos c26] at H
     obtain ⟨c26b0, c26b1⟩ := be_ c26
     clear c26
     obtain rfl := Option.some.inj H
     obtain ⟨Ao27, co27, eo27⟩ := Kd.R_slice HO_3.out
     subst eo27
     go_wp2
     go_ret
     exact ⟨e1_, hB_⟩
    ·rw [if_neg c26] at H
     obtain ⟨c26b0, c26b1⟩ := bn_ c26
     obtain ⟨t515, A28, H⟩ := ob_ H
     (try dsimp only at H)
     obtain rfl := Option.some.inj H
     obtain ⟨Ao29, co29, eo29⟩ := Kd.R_slice HO_3.out
     subst eo29
     go_wp2_with (first | (go_at_call 166; (with_reducible refine (spec_CleanOk.calls k1 a0 t515 _ A28.out).mono ?_); rintro e w30 ⟨rfl, hb⟩; replace HO_3 := As9.mk (Kd.R_below (by (with_reducible repeat (first | apply Kd.R_alloc | apply Kd.R_drewN | apply Kd.R_drew)); exact HO_3.out) hb); replace HB := bS_ hb; clear hb))
     go_ret
     exact ⟨e1_, hB_⟩
end Go.Proofs.YtkmmoheeoblmnaaGreatDoor.A
