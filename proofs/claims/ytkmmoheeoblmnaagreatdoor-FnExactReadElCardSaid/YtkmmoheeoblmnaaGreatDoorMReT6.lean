-- joined by wip/tools/shake.py
import Derived.Test.YtkmmoheeoblmnaaGreatDoorVReTW9
import Derived.Test.YtkmmoheeoblmnaaGreatDoorMReT0
import Derived.Test.YtkmmoheeoblmnaaGreatDoorMReT3
import Derived.Test.YtkmmoheeoblmnaaGreatDoorMReT5
import Derived.Test.YtkmmoheeoblmnaaGreatDoorMReT2
import Derived.Test.YtkmmoheeoblmnaaGreatDoorMReT4
set_option maxHeartbeats 16000000
set_option maxRecDepth 100000
namespace Go.Proofs.YtkmmoheeoblmnaaGreatDoor.A
open Go.RowKit Go.Proofs.YtkmmoheeoblmnaaGreatDoorW.PrintWords Go.Proofs.YtkmmoheeoblmnaaGreatDoorW.PrintLast Go.Proofs.YtkmmoheeoblmnaaGreatDoorW.PrintMore
attribute [local go_sem] max2_int min2_int max_two min_two max_three min_three max_four min_four
set_option linter.unusedVariables false
set_option linter.unusedSimpArgs false
structure Sat (w0 w W : World) (g : Nat) (s : BA) (p : Int) (b : Bool) (v : Value) (out : List S36) : Prop where
 st : IsS89 w0 W g s p b
 nr : k36.R 36 W w0.heap.size (fun k_ => w.heap.size ≤ k_) v out
 bl : Below w0.heap.size w0 W
 kp : KeepBut w W g none
 gl : g < w.heap.size
theorem Sat.state {w0 w W W' : World} {g : Nat} {s s' : BA} {p p' : Int} {b b' : Bool} {v : Value} {out : List S36} (h : Sat w0 w W g s p b v out) (hi : IsS89 w0 W' g s' p' b') (hb : Below w0.heap.size w0 W') (hk : KeepBut W W' g none) : Sat w0 w W' g s' p' b' v out :=
 ⟨hi, Kd.R_keep h.nr hk (fun k hk => by have := h.gl; omega), hb, h.kp.trans hk (.inl rfl), h.gl⟩
theorem Sat.below {w0 w W W' : World} {g : Nat} {s : BA} {p : Int} {b : Bool} {v : Value} {out : List S36} (h : Sat w0 w W g s p b v out) (hb : Below W.heap.size W W') : Sat w0 w W' g s p b v out := h.state (h.st.below hb) (below_step h.bl hb) (KeepBut.of_below hb g none)
theorem Sat.ok_ {w0 w W : World} {g : Nat} {s : BA} {p : Int} {b : Bool} {v : Value} {out : List S36} (h : Sat w0 w W g s p b v out) (x : Bool) : Sat w0 w (W.setCell ⟨g, 2, none⟩ (.bool x)) g s p x v out := h.state (h.st.set_2 x) (below_set h.bl h.st.2) ((KeepBut.refl W g none).set_ 2 _)
theorem Sat.at_ {w0 w W : World} {g : Nat} {s : BA} {p : Int} {b : Bool} {v : Value} {out : List S36} (h : Sat w0 w W g s p b v out) (x : Int) : Sat w0 w (W.setCell ⟨g, 1, none⟩ (.int .i64 x)) g s x b v out := h.state (h.st.set_1 x) (below_set h.bl h.st.2) ((KeepBut.refl W g none).set_ 1 _)
theorem Sat.app {w0 w W W' : World} {g : Nat} {s : BA} {p : Int} {b : Bool} {v v' : Value} {out : List S36} (h : Sat w0 w W g s p b v out) {x : S36} (ho : k36.R 36 W' w0.heap.size (fun k_ => w.heap.size ≤ k_) v' (out ++ [x])) (hb : Below w0.heap.size w0 W') (hg : W.grownBy W' v.ownBlock) : Sat w0 w W' g s p b v' (out ++ [x]) :=
 ⟨h.st.grown hg (h.st.own_ne h.nr de_), ho, hb, h.kp.trans (KeepBut.of_grown hg g) (by
  cases hv : v.ownBlock with
  | none => exact .inl rfl
  | some k => exact .inr ⟨k, rfl, h.nr.1 k hv⟩), h.gl⟩
theorem Sat.two_ {w0 w W : World} {g : Nat} {s : BA} {p : Int} {b : Bool} {v : Value} {out : List S36} (h : Sat w0 w W g s p b v out) {ga : Nat} (h1 : w.heap.size ≤ ga) (h2 : g < ga) (h3 : ∀ k, v.ownBlock = some k → k < ga) (u0 u1 : Value) : Sat w0 w ((W.setCell ⟨ga, 0, none⟩ u0).setCell ⟨ga, 1, none⟩ u1) g s p b v out := by
 have hk : KeepBut W ((W.setCell ⟨ga, 0, none⟩ u0).setCell ⟨ga, 1, none⟩ u1) ga none := ((KeepBut.refl W ga none).set_ 0 _).set_ 1 _;refine ⟨(h.st.far (p := ⟨ga, 0, none⟩) (Nat.ne_of_lt h2) _).far (p := ⟨ga, 1, none⟩) (Nat.ne_of_lt h2) _, ?_, below_set (below_set h.bl (Nat.le_trans h.st.2 (Nat.le_of_lt h2))) (Nat.le_trans h.st.2 (Nat.le_of_lt h2)), keep_far (p := ⟨ga, 1, none⟩) (keep_far (p := ⟨ga, 0, none⟩) h.kp h1 _) h1 _, h.gl⟩;exact Kd.R_mono (Kd.R_keep (g := ga) (Kd.R_flat (ok' := fun k => w.heap.size ≤ k ∧ k ≠ ga) (fun hx => by rw [k36_openM hx]; exact k36_mkM _ _ _ _) h.nr (fun k hk ho => ⟨ho, fun e => by have := h3 k hk; omega⟩)) hk (fun k hk => hk.2)) (fun k hk => hk.1)
def sexit (s : BA) (p : Int) (b : Bool) (out : List S36) (sp : Int) : Option (List S36 × Int × ByteArray × Int × Bool) := (spec_l1In.f sp 0 2).bind fun r => some (out, sp, s, p, if r = true then b else false)
def sattrsL : Nat → Int → ByteArray → Int → Bool → List S36 → Int → Bool → Option (List S36 × Int × ByteArray × Int × Bool)
 | 0, _, _, _, _, _, _, _ => none
 | n + 1, about, s, p, b, out, sp, told =>
  if b = true then (if p < (s.size : Int) then (if 0 ≤ p then (if bt s p = 32 then
   (spec_XmlAttr.f n s (wrap64 (p + 1))).bind fun a => if a.2.2 < 0 then some (out, sp, s, p, false) else
    (spec_l4Has.f n out a.1).bind fun hb => if hb = true then some (out, sp, s, p, false) else
    (if a.1.toList = [120, 109, 108, 110, 115] then (if told = true then some (out, sp, s, p, false) else (spec_l19Space.f n a.2.1).bind fun x => sattrsL n about s a.2.2 (!decide (x = about)) out x true)
    else (if out.length < 4398046511104 then sattrsL n about s a.2.2 true (out ++ [⟨a.1, a.2.1⟩]) sp told else none))
  else sexit s p b out sp) else none) else sexit s p b out sp) else sexit s p b out sp
theorem sattrsL_mono : ∀ k y0 y1 y2 y3 y4 y5 y6, LeO (sattrsL k y0 y1 y2 y3 y4 y5 y6) (sattrsL (k + 1) y0 y1 y2 y3 y4 y5 y6)
 | 0 => fun _ _ _ _ _ _ _ r h => by simp [sattrsL] at h
 | k + 1 => by
  have ih := sattrsL_mono k;intro y0 y1 y2 y3 y4 y5 y6;rw [sattrsL, sattrsL];exact LeO.ite (LeO.ite (LeO.ite (LeO.ite (LeO.bind (spec_XmlAttr.mono _ _ _) fun a => LeO.ite (LeO.refl _) (LeO.bind (spec_l4Has.mono _ _ _) fun hb => LeO.ite (LeO.refl _) (LeO.ite (LeO.ite (LeO.refl _) (LeO.bind (spec_l19Space.mono _ _) fun x => ih _ _ _ _ _ _ _)) (LeO.ite (ih _ _ _ _ _ _ _) (LeO.refl _))))) (LeO.refl _)) (LeO.refl _)) (LeO.refl _)) (LeO.refl _)
def spec_l19Attrs.f (k : Nat) (s : BA) (p : Int) (b : Bool) (about : Int) : Option (List S36 × Int × ByteArray × Int × Bool) := sattrsL k about s p b [] about false
theorem spec_l19Attrs.mono : ∀ s p b about k, LeO (spec_l19Attrs.f k s p b about) (spec_l19Attrs.f (k + 1) s p b about) := fun _ _ _ _ k => sattrsL_mono k _ _ _ _ _ _ _
theorem spec_l19Attrs.calls (k g : Nat) (s : BA) (p : Int) (b : Bool) (about : Int) (r0 : List S36) (r1 : Int) (r2 : BA) (r3 : Int) (r4 : Bool) (w0 w : World) (hI : IsS89 w0 w g s p b) (hB : Below w0.heap.size w0 w) (h : spec_l19Attrs.f k s p b about = some (r0, r1, r2, r3, r4)) :
  Calls Tryz.prog 131 #[.pointer (some ⟨g, 0, none⟩), .int .i64 about] w fun e w' => ∃ v, e = .returned (.tuple #[v, .int .i64 r1]) ∧ Sat w0 w w' g r2 r3 r4 v r0 := by
 have hu := Tryz.underlying36;have HF : As9 (sattrsL k about s p b [] about false = some (r0, r1, r2, r3, r4)) := ⟨h⟩;have HI := A_ hI;have HB := A_ hB;clear h hI hB;go_enter Tryz.func131, Tryz.ntmps131
 go_wp2_with ((with_reducible refine gate_dst (N := 11) rfl ?_); refine Kd.R_lit (w0 := w0) k36 w0.heap.size 36 ?hg (N := 11) ?hd (xs := ([] : List S36)) (inner := []) (ok := fun k_ => w.heap.size ≤ k_) (okp := fun _ => False) ?hr ?hp (fun _ hk => hk.elim) (Nat.le_refl _) HB.out HB.out.size si_ ?_; (case hd => rfl); (case hg => rfl); (case hr => first | (go_simp; done) | (go_simp; rfl)); (case hp => exact (Reps.none _ _)); intro v11 w2 ho hb hg_ hnew_; have HT := A_ (show Sat w0 w w2 g s p b v11 [] from ⟨HI.out.grown hg_ si_, ho, hb, KeepBut.of_grown hg_ g, HI.out.lt⟩); clear ho hb hg_ hnew_ HI HB)
 go_loopg [6, 7, 8] k (fun kq v6 v7 v8 wr => ∃ (out : List S36) (sp : Int) (told : Bool) (s : BA) (p : Int) (b : Bool), v7 = .int .i64 sp ∧ v8 = .bool told ∧ As9 (sattrsL kq about s p b out sp told = some (r0, r1, r2, r3, r4)) ∧ As9 (Sat w0 w wr g s p b v6 out))
 case atStart => exact ⟨[], about, false, s, p, b, rfl, rfl, HF, HT⟩
 case round =>
  clear HF HT;obtain ⟨out, sp, told, s, p, b, rfl, rfl, HA, HT⟩ := hrel;cases gk with
  | zero => exact absurd HA.out (by simp [sattrsL])
  | succ n =>
  have H := HA.out;clear HA;simp only [sattrsL] at H;obtain ⟨An, cn, rfl⟩ := Kd.R_slice HT.out.nr;have hc0 := cellS89_0 HT.out.st.1;have hc1 := cellS89_1 HT.out.st.1;have hc2 := cellS89_2 HT.out.st.1;cases b with
  | false =>
   rw [if_neg si_] at H;go_wp2
   go_quiet (fail)
   generalize hW : World.drewN wr nq = wx;have HT2 : As9 (Sat w0 w wx g s p false (.slice An out.length cn) out) := ⟨by rw [← hW]; exact HT.out.below (bN9 (Below.refl _ _) _)⟩;clear hW HT hc0 hc1 hc2;unfold sexit at H;obtain ⟨r, hr, H⟩ := oB_ H;simp only [Option.some.injEq, Prod.mk.injEq] at H;obtain ⟨rfl, rfl, rfl, rfl, rfl⟩ := H;have Hr := A_ hr;clear hr;cases r with
   | true =>
    go_wp2_with ((go_at_call 111; (with_reducible refine (spec_l1In.calls sp 0 2 true _ Hr.out).mono ?_); rintro e w2 ⟨rfl, hd⟩; have HT3 := A_ (HT2.out.below hd.below); clear hd HT2))
    go_ret2
    exact ⟨_, rfl, HT3.out⟩
   | false =>
    go_wp2_with ((go_at_call 111; (with_reducible refine (spec_l1In.calls sp 0 2 false _ Hr.out).mono ?_); rintro e w2 ⟨rfl, hd⟩; have HT3 := A_ (HT2.out.below hd.below); clear hd HT2; have hz2 := cellS89_2 HT3.out.st.1; have hf2 := blk_frozen HT3.out.st.1 2))
    go_ret2
    exact ⟨_, rfl, HT3.out.ok_ false⟩
  | true =>
   rw [if_pos rfl] at H;by_cases hlt : p < (s.size : Int)
   case neg =>
    rw [if_neg hlt] at H;have q8 := eq_false hlt;have q9 : decide (p < (s.size : Int)) = false := dF_ hlt;go_wp2
    go_quiet (fail)
    generalize hW : World.drewN wr nq = wx;have HT2 : As9 (Sat w0 w wx g s p true (.slice An out.length cn) out) := ⟨by rw [← hW]; exact HT.out.below (bN9 (Below.refl _ _) _)⟩;clear hW HT hc0 hc1 hc2;unfold sexit at H;obtain ⟨r, hr, H⟩ := oB_ H;simp only [Option.some.injEq, Prod.mk.injEq] at H;obtain ⟨rfl, rfl, rfl, rfl, rfl⟩ := H;have Hr := A_ hr;clear hr;cases r with
    | true =>
     go_wp2_with ((go_at_call 111; (with_reducible refine (spec_l1In.calls sp 0 2 true _ Hr.out).mono ?_); rintro e w2 ⟨rfl, hd⟩; have HT3 := A_ (HT2.out.below hd.below); clear hd HT2))
     go_ret2
     exact ⟨_, rfl, HT3.out⟩
    | false =>
     go_wp2_with ((go_at_call 111; (with_reducible refine (spec_l1In.calls sp 0 2 false _ Hr.out).mono ?_); rintro e w2 ⟨rfl, hd⟩; have HT3 := A_ (HT2.out.below hd.below); clear hd HT2; have hz2 := cellS89_2 HT3.out.st.1; have hf2 := blk_frozen HT3.out.st.1 2))
     go_ret2
     exact ⟨_, rfl, HT3.out.ok_ false⟩
   case pos =>
   rw [if_pos hlt] at H;by_cases h0 : 0 ≤ p
   case neg => rw [if_neg h0] at H; cases H
   case pos =>
   rw [if_pos h0] at H;have p7 := eq_true h0;have q7 := eq_true hlt;have hx := bt_at s p;by_cases hc : bt s p = 32
   case neg =>
    have hcb : (bt s p == 32) = false := bN_ hc;rw [if_neg hc] at H;go_wp2
    go_quiet (fail)
    generalize hW : World.drewN wr nq = wx;have HT2 : As9 (Sat w0 w wx g s p true (.slice An out.length cn) out) := ⟨by rw [← hW]; exact HT.out.below (bN9 (Below.refl _ _) _)⟩;clear hW HT hc0 hc1 hc2;unfold sexit at H;obtain ⟨r, hr, H⟩ := oB_ H;simp only [Option.some.injEq, Prod.mk.injEq] at H;obtain ⟨rfl, rfl, rfl, rfl, rfl⟩ := H;have Hr := A_ hr;clear hr;cases r with
    | true =>
     go_wp2_with ((go_at_call 111; (with_reducible refine (spec_l1In.calls sp 0 2 true _ Hr.out).mono ?_); rintro e w2 ⟨rfl, hd⟩; have HT3 := A_ (HT2.out.below hd.below); clear hd HT2))
     go_ret2
     exact ⟨_, rfl, HT3.out⟩
    | false =>
     go_wp2_with ((go_at_call 111; (with_reducible refine (spec_l1In.calls sp 0 2 false _ Hr.out).mono ?_); rintro e w2 ⟨rfl, hd⟩; have HT3 := A_ (HT2.out.below hd.below); clear hd HT2; have hz2 := cellS89_2 HT3.out.st.1; have hf2 := blk_frozen HT3.out.st.1 2))
     go_ret2
     exact ⟨_, rfl, HT3.out.ok_ false⟩
   case pos =>
    have hcb : (bt s p == 32) = true := bQ_ hc;rw [if_pos hc] at H;go_wp2
    go_quiet (fail)
    generalize hW : World.drewN wr nq = wx;have HT2 : As9 (Sat w0 w wx g s p true (.slice An out.length cn) out) := ⟨by rw [← hW]; exact HT.out.below (bN9 (Below.refl _ _) _)⟩;clear hW HT hc0 hc1 hc2;obtain ⟨⟨nm, av, nx⟩, ha, H⟩ := oB_ H;dsimp only at H;have Ha := A_ ha;have HH := A_ H;clear ha H p7 q7 hx hcb hc;go_wp2
    have HTd := A_ (HT2.out.below (below_drew (Below.refl _ _)));clear HT2;refine start_ (n := 16) (S := fun w' => w'.cell? ⟨g, 0, none⟩ = some (.string s) ∧ w'.cell? ⟨g, 1, none⟩ = some (.int .i64 p)) (ds := [14]) (tS 16 0) (by kernel_rfl) rfl rfl ⟨cellS89_0 HTd.out.st.1, cellS89_1 HTd.out.st.1⟩ (fun hHeld => ?_);generalize World.drew _ = wr0 at HTd hHeld ⊢;iterate 3 refine pq_ ?_
    refine pg_ 4 (tB 16 23) ?_;refine pg_ 5 (tB 16 55) ?_;refine pg_ 6 (tB 16 119) ?_;refine tg_ 3 (tS 16 7) rfl (by rintro w' ⟨s0, s1⟩; go_simp; with_reducible rfl) ?_;refine tq_ rfl (by rintro w' ⟨s0, s1⟩; go_simp; with_reducible rfl) ?_;refine pq_ ?_;refine two_ (i := 9) (j := 13) (Ni := some 51) (Nj := some 9) (tS 16 10) (tB 16 8703) rfl rfl rfl rfl (by kernel_rfl) de_ de_ (fun K hK => ?_) (fun K hK => ?_)
    ·skip
     refine gS_ Tryz.func26 #[.string s, .int .i64 (wrap64 (p + 1))] ?_;with_reducible refine (spec_XmlAttr.calls n s (wrap64 (p + 1)) nm av nx _ Ha.out).mono ?_
     rintro e wr9 ⟨rfl, hb⟩;refine ⟨_, rfl, ?_⟩;have n1_ := A_ (HTd.out.below hb);(try (have n6_ := A_ (blk_below HA.out hb); clear HA; have HA := n6_; clear n6_))
     clear hb HTd;have HTd := n1_;clear n1_;refine hK.out _ _ ⟨cellS89_0 HTd.out.st.1, cellS89_1 HTd.out.st.1⟩ (fun hHeld => ?_);clear hK K;refine nm_ ?_;iterate 3 refine pq_ ?_
     refine n1_ 13 (tS 16 14) rfl fun K hK => ?_
     refine box_step ?hg (N := 9) ?hd (cs := #[.string ⟨#[]⟩, .string ⟨#[]⟩]) (t := 36) ?hr ?_; (case hd => rfl); (case hg => rfl); (case hr => first | (go_simp; done) | (go_simp; rfl));intro ga hga wr13 hbox hb;have HGA := A_ (show w.heap.size ≤ ga ∧ g < ga ∧ ∀ k, (Value.slice An out.length cn).ownBlock = some k → k < ga from by rw [hga]; exact ⟨HTd.out.kp.1, HTd.out.st.lt, fun k hk => Kd.R_lt HTd.out.nr k hk⟩);have HA := A_ hbox;have n1_ := A_ (HTd.out.below hb);clear hb hga hbox HTd;have HTd := n1_;clear n1_;refine hK.out _ _ ⟨cellS89_0 HTd.out.st.1, cellS89_1 HTd.out.st.1⟩ (fun hHeld => ?_);clear hK K;refine nm_ ?_;refine last_ (i := 14) (N := none) (tS 16 15) rfl rfl (by kernel_rfl) de_ (fun K hK => ?_);refine put_step2 ?hw ?hN 36 (.tmp 9) (.tmp 52) ?ho (g := ga) (u0 := .string nm) (u1 := .string av) ?ha ?hx (by kernel_rfl) HA.out rfl rfl ?_; (case hw => rfl); (case hN => rfl); (case ho => rfl); (case ha => rfl); (case hx => rfl);replace HA := A_ (blk_two HA.out (.string nm) (.string av));replace HTd := A_ (HTd.out.two_ HGA.out.1 HGA.out.2.1 HGA.out.2.2 (.string nm) (.string av));refine hK.out _ _ ?_;clear hK K;refine pq_ ?_;refine done_ (by kernel_rfl) ?_;generalize hwe : World.setCell _ _ _ = we at HA HTd ⊢;clear hwe;have he1 : (g = ga) = False := eq_false (Nat.ne_of_lt HGA.out.2.1);have he2 : (ga = g) = False := eq_false (Nat.ne_of_gt HGA.out.2.1);obtain ⟨hx0, hx1⟩ := bc2_ HA.out;have hz1 := cellS89_1 HTd.out.st.1;have hz2 := cellS89_2 HTd.out.st.1;have hf1 := blk_frozen HTd.out.st.1 1;have hf2 := blk_frozen HTd.out.st.1 2;have H := HH.out;by_cases d1 : nx < 0
     case pos =>
      rw [if_pos d1] at H;simp only [Option.some.injEq, Prod.mk.injEq] at H;obtain ⟨rfl, rfl, rfl, rfl, rfl⟩ := H;go_wp2
      go_ret2
      exact ⟨_, rfl, HTd.out.ok_ false⟩
     case neg =>
     rw [if_neg d1] at H;obtain ⟨hv, hhv, H⟩ := oB_ H;have Hv := A_ hhv;clear hhv;cases hv with
     | true =>
      rw [if_pos rfl] at H;simp only [Option.some.injEq, Prod.mk.injEq] at H;obtain ⟨rfl, rfl, rfl, rfl, rfl⟩ := H;go_wp2_with ((go_at_call 168; (with_reducible refine (spec_l4Has.calls n An cn out nm _ _ (Kd.R_reads' HTd.out.nr).2.2 (Kd.R_reads' HTd.out.nr).2.1 Hv.out).mono ?_); rintro e w6 ⟨rfl, hd⟩; have HTe := A_ (HTd.out.below hd.below); have HAe := A_ (blk_below HA.out hd.below); clear hd HTd HA hx0 hx1 hz1 hz2 hf1 hf2; obtain ⟨hx0, hx1⟩ := bc2_ HAe.out; have hz1 := cellS89_1 HTe.out.st.1; have hz2 := cellS89_2 HTe.out.st.1; have hf1 := blk_frozen HTe.out.st.1 1; have hf2 := blk_frozen HTe.out.st.1 2; have HT8 := A_ (HTe.out.at_ nx)))
      go_ret2
      exact ⟨_, rfl, HTe.out.ok_ false⟩
     | false =>
      rw [if_neg si_] at H;by_cases cx : nm.toList = [120, 109, 108, 110, 115]
      case pos =>
       rw [if_pos cx] at H;have cxb : (nm.toList == [120, 109, 108, 110, 115]) = true := by rw [cx]; rfl
       have cxn : (!(nm.toList == [120, 109, 108, 110, 115])) = false := by rw [cx]; rfl
       clear cx;cases told with
       | true =>
        rw [if_pos rfl] at H;simp only [Option.some.injEq, Prod.mk.injEq] at H;obtain ⟨rfl, rfl, rfl, rfl, rfl⟩ := H;go_wp2_with ((go_at_call 168; (with_reducible refine (spec_l4Has.calls n An cn out nm _ _ (Kd.R_reads' HTd.out.nr).2.2 (Kd.R_reads' HTd.out.nr).2.1 Hv.out).mono ?_); rintro e w6 ⟨rfl, hd⟩; have HTe := A_ (HTd.out.below hd.below); have HAe := A_ (blk_below HA.out hd.below); clear hd HTd HA hx0 hx1 hz1 hz2 hf1 hf2; obtain ⟨hx0, hx1⟩ := bc2_ HAe.out; have hz1 := cellS89_1 HTe.out.st.1; have hz2 := cellS89_2 HTe.out.st.1; have hf1 := blk_frozen HTe.out.st.1 1; have hf2 := blk_frozen HTe.out.st.1 2; have HT8 := A_ (HTe.out.at_ nx)))
        go_ret2
        exact ⟨_, rfl, HTe.out.ok_ false⟩
       | false =>
        rw [if_neg si_] at H;obtain ⟨x, hx, H⟩ := oB_ H;have Hx := A_ hx;have HM := A_ H;clear hx H;by_cases d2 : x = about
        case pos =>
         have d2b : (x == about) = true := bQ_ d2;have HM2 : As9 (sattrsL n about s nx false out x true = some (r0, r1, r2, r3, r4)) := ⟨by have h := HM.out; rw [dE_ d2] at h; exact h⟩;clear d2;go_wp2_with (first | (go_at_call 168; (with_reducible refine (spec_l4Has.calls n An cn out nm _ _ (Kd.R_reads' HTd.out.nr).2.2 (Kd.R_reads' HTd.out.nr).2.1 Hv.out).mono ?_); rintro e w6 ⟨rfl, hd⟩; have HTe := A_ (HTd.out.below hd.below); have HAe := A_ (blk_below HA.out hd.below); clear hd HTd HA hx0 hx1 hz1 hz2 hf1 hf2; obtain ⟨hx0, hx1⟩ := bc2_ HAe.out; have hz1 := cellS89_1 HTe.out.st.1; have hz2 := cellS89_2 HTe.out.st.1; have hf1 := blk_frozen HTe.out.st.1 1; have hf2 := blk_frozen HTe.out.st.1 2; have HT8 := A_ (HTe.out.at_ nx)) | (go_at_call 169; clear hx0 hx1 hz1 hz2 hf1 hf2; (with_reducible refine (spec_l19Space.calls n av x _ Hx.out).mono ?_); rintro e w8 ⟨rfl, hd⟩; have HTf := A_ (HT8.out.below hd.below); clear hd HT8 HTe HAe; have hz2 := cellS89_2 HTf.out.st.1; have hf2 := blk_frozen HTf.out.st.1 2))
         go_roundg n
         case measure => omega
         case rel => exact ⟨_, _, _, _, _, _, rfl, rfl, HM2, ⟨HTf.out.ok_ false⟩⟩
        case neg =>
         have d2b : (x == about) = false := bN_ d2;have HM2 : As9 (sattrsL n about s nx true out x true = some (r0, r1, r2, r3, r4)) := ⟨by have h := HM.out; rw [dF_ d2] at h; exact h⟩;clear d2;go_wp2_with (first | (go_at_call 168; (with_reducible refine (spec_l4Has.calls n An cn out nm _ _ (Kd.R_reads' HTd.out.nr).2.2 (Kd.R_reads' HTd.out.nr).2.1 Hv.out).mono ?_); rintro e w6 ⟨rfl, hd⟩; have HTe := A_ (HTd.out.below hd.below); have HAe := A_ (blk_below HA.out hd.below); clear hd HTd HA hx0 hx1 hz1 hz2 hf1 hf2; obtain ⟨hx0, hx1⟩ := bc2_ HAe.out; have hz1 := cellS89_1 HTe.out.st.1; have hz2 := cellS89_2 HTe.out.st.1; have hf1 := blk_frozen HTe.out.st.1 1; have hf2 := blk_frozen HTe.out.st.1 2; have HT8 := A_ (HTe.out.at_ nx)) | (go_at_call 169; clear hx0 hx1 hz1 hz2 hf1 hf2; (with_reducible refine (spec_l19Space.calls n av x _ Hx.out).mono ?_); rintro e w8 ⟨rfl, hd⟩; have HTf := A_ (HT8.out.below hd.below); clear hd HT8 HTe HAe; have hz2 := cellS89_2 HTf.out.st.1; have hf2 := blk_frozen HTf.out.st.1 2))
         go_roundg n
         case measure => omega
         case rel => exact ⟨_, _, _, _, _, _, rfl, rfl, HM2, HTf⟩
      case neg =>
       rw [if_neg cx] at H;have cxb : (nm.toList == [120, 109, 108, 110, 115]) = false := bN_ cx;have cxn : (!(nm.toList == [120, 109, 108, 110, 115])) = true := by rw [cxb]; rfl
       clear cx;split at H
       case isFalse => cases H
       case isTrue hl =>
        have HL := A_ hl;have HM := A_ H;clear hl H;go_wp2_with (first | (go_at_call 168; (with_reducible refine (spec_l4Has.calls n An cn out nm _ _ (Kd.R_reads' HTd.out.nr).2.2 (Kd.R_reads' HTd.out.nr).2.1 Hv.out).mono ?_); rintro e w6 ⟨rfl, hd⟩; have HTe := A_ (HTd.out.below hd.below); have HAe := A_ (blk_below HA.out hd.below); clear hd HTd HA hx0 hx1 hz1 hz2 hf1 hf2; obtain ⟨hx0, hx1⟩ := bc2_ HAe.out; have hz1 := cellS89_1 HTe.out.st.1; have hz2 := cellS89_2 HTe.out.st.1; have hf1 := blk_frozen HTe.out.st.1 1; have hf2 := blk_frozen HTe.out.st.1 2; have HT8 := A_ (HTe.out.at_ nx)) | ((with_reducible refine gate_builtin (b := .append) (xs := #[.tmp 82, .tmp 84]) rfl ?_); at_builtin; go_loud (refine Kd.R_append k36 (w0 := w0) w0.heap.size rfl (.tmp 82) (.tmp 84) 40 36 (.agg #[(.string ⟨#[]⟩), (.string ⟨#[]⟩)]) 32 rfl Tryz.underlying40 info36 rfl de_ om_ (.slice An out.length cn) out (⟨nm, av⟩ : S36) [.string nm, .string av] (fun k_ => w.heap.size ≤ k_) (fun _ => False) rfl ?aX ?aP (fun _ hk => hk.elim) ?aF ?aO ?aB ?aS ?aL ?_); (case aX => first | rfl | (go_simp; done) | (go_simp; rfl) | (simp; done) | (simp; rfl)); (case aP => exact k36_mkM _ _ _ (⟨nm, av⟩ : S36)); (case aF => exact fun k hk => Nat.le_trans HT8.out.kp.1 hk); (case aO => exact HT8.out.nr); (case aB => exact HT8.out.bl); (case aS => exact HT8.out.bl.size); (case aL => have := HL.out; omega); intro v6 w7 ho hb hg hat; have HTg := A_ (HT8.out.app ho hb hg); clear ho hb hg hat HT8 HTe HAe hx0 hx1 hz1 hz2 hf1 hf2))
        go_roundg n
        case measure => omega
        case rel => exact ⟨_, _, _, _, _, _, rfl, rfl, HM, HTg⟩
    ·skip
     refine box_step ?hg (N := 9) ?hd (cs := #[.string ⟨#[]⟩, .string ⟨#[]⟩]) (t := 36) ?hr ?_; (case hd => rfl); (case hg => rfl); (case hr => first | (go_simp; done) | (go_simp; rfl));intro ga hga wr13 hbox hb;have HGA := A_ (show w.heap.size ≤ ga ∧ g < ga ∧ ∀ k, (Value.slice An out.length cn).ownBlock = some k → k < ga from by rw [hga]; exact ⟨HTd.out.kp.1, HTd.out.st.lt, fun k hk => Kd.R_lt HTd.out.nr k hk⟩);have HA := A_ hbox;have n1_ := A_ (HTd.out.below hb);clear hb hga hbox HTd;have HTd := n1_;clear n1_;refine hK.out _ _ ⟨cellS89_0 HTd.out.st.1, cellS89_1 HTd.out.st.1⟩ (fun hHeld => ?_);clear hK K;refine nm_ ?_;refine n1_ 9 (tB 16 9215) rfl fun K hK => ?_
     refine gS_ Tryz.func26 #[.string s, .int .i64 (wrap64 (p + 1))] ?_;with_reducible refine (spec_XmlAttr.calls n s (wrap64 (p + 1)) nm av nx _ Ha.out).mono ?_
     rintro e wr9 ⟨rfl, hb⟩;refine ⟨_, rfl, ?_⟩;have n1_ := A_ (HTd.out.below hb);(try (have n6_ := A_ (blk_below HA.out hb); clear HA; have HA := n6_; clear n6_))
     clear hb HTd;have HTd := n1_;clear n1_;refine hK.out _ _ ⟨cellS89_0 HTd.out.st.1, cellS89_1 HTd.out.st.1⟩ (fun hHeld => ?_);clear hK K;refine nm_ ?_;refine pg_ 10 (tB 16 10239) ?_;refine pg_ 11 (tB 16 12287) ?_;refine pg_ 12 (tS 16 14) ?_;refine last_ (i := 14) (N := none) (tS 16 15) rfl rfl (by kernel_rfl) de_ (fun K hK => ?_);refine put_step2 ?hw ?hN 36 (.tmp 9) (.tmp 52) ?ho (g := ga) (u0 := .string nm) (u1 := .string av) ?ha ?hx (by kernel_rfl) HA.out rfl rfl ?_; (case hw => rfl); (case hN => rfl); (case ho => rfl); (case ha => rfl); (case hx => rfl);replace HA := A_ (blk_two HA.out (.string nm) (.string av));replace HTd := A_ (HTd.out.two_ HGA.out.1 HGA.out.2.1 HGA.out.2.2 (.string nm) (.string av));refine hK.out _ _ ?_;clear hK K;refine pq_ ?_;refine done_ (by kernel_rfl) ?_;generalize hwe : World.setCell _ _ _ = we at HA HTd ⊢;clear hwe;have he1 : (g = ga) = False := eq_false (Nat.ne_of_lt HGA.out.2.1);have he2 : (ga = g) = False := eq_false (Nat.ne_of_gt HGA.out.2.1);obtain ⟨hx0, hx1⟩ := bc2_ HA.out;have hz1 := cellS89_1 HTd.out.st.1;have hz2 := cellS89_2 HTd.out.st.1;have hf1 := blk_frozen HTd.out.st.1 1;have hf2 := blk_frozen HTd.out.st.1 2;have H := HH.out;by_cases d1 : nx < 0
     case pos =>
      rw [if_pos d1] at H;simp only [Option.some.injEq, Prod.mk.injEq] at H;obtain ⟨rfl, rfl, rfl, rfl, rfl⟩ := H;go_wp2
      go_ret2
      exact ⟨_, rfl, HTd.out.ok_ false⟩
     case neg =>
     rw [if_neg d1] at H;obtain ⟨hv, hhv, H⟩ := oB_ H;have Hv := A_ hhv;clear hhv;cases hv with
     | true =>
      rw [if_pos rfl] at H;simp only [Option.some.injEq, Prod.mk.injEq] at H;obtain ⟨rfl, rfl, rfl, rfl, rfl⟩ := H;go_wp2_with ((go_at_call 168; (with_reducible refine (spec_l4Has.calls n An cn out nm _ _ (Kd.R_reads' HTd.out.nr).2.2 (Kd.R_reads' HTd.out.nr).2.1 Hv.out).mono ?_); rintro e w6 ⟨rfl, hd⟩; have HTe := A_ (HTd.out.below hd.below); have HAe := A_ (blk_below HA.out hd.below); clear hd HTd HA hx0 hx1 hz1 hz2 hf1 hf2; obtain ⟨hx0, hx1⟩ := bc2_ HAe.out; have hz1 := cellS89_1 HTe.out.st.1; have hz2 := cellS89_2 HTe.out.st.1; have hf1 := blk_frozen HTe.out.st.1 1; have hf2 := blk_frozen HTe.out.st.1 2; have HT8 := A_ (HTe.out.at_ nx)))
      go_ret2
      exact ⟨_, rfl, HTe.out.ok_ false⟩
     | false =>
      rw [if_neg si_] at H;by_cases cx : nm.toList = [120, 109, 108, 110, 115]
      case pos =>
       rw [if_pos cx] at H;have cxb : (nm.toList == [120, 109, 108, 110, 115]) = true := by rw [cx]; rfl
       have cxn : (!(nm.toList == [120, 109, 108, 110, 115])) = false := by rw [cx]; rfl
       clear cx;cases told with
       | true =>
        rw [if_pos rfl] at H;simp only [Option.some.injEq, Prod.mk.injEq] at H;obtain ⟨rfl, rfl, rfl, rfl, rfl⟩ := H;go_wp2_with ((go_at_call 168; (with_reducible refine (spec_l4Has.calls n An cn out nm _ _ (Kd.R_reads' HTd.out.nr).2.2 (Kd.R_reads' HTd.out.nr).2.1 Hv.out).mono ?_); rintro e w6 ⟨rfl, hd⟩; have HTe := A_ (HTd.out.below hd.below); have HAe := A_ (blk_below HA.out hd.below); clear hd HTd HA hx0 hx1 hz1 hz2 hf1 hf2; obtain ⟨hx0, hx1⟩ := bc2_ HAe.out; have hz1 := cellS89_1 HTe.out.st.1; have hz2 := cellS89_2 HTe.out.st.1; have hf1 := blk_frozen HTe.out.st.1 1; have hf2 := blk_frozen HTe.out.st.1 2; have HT8 := A_ (HTe.out.at_ nx)))
        go_ret2
        exact ⟨_, rfl, HTe.out.ok_ false⟩
       | false =>
        rw [if_neg si_] at H;obtain ⟨x, hx, H⟩ := oB_ H;have Hx := A_ hx;have HM := A_ H;clear hx H;by_cases d2 : x = about
        case pos =>
         have d2b : (x == about) = true := bQ_ d2;have HM2 : As9 (sattrsL n about s nx false out x true = some (r0, r1, r2, r3, r4)) := ⟨by have h := HM.out; rw [dE_ d2] at h; exact h⟩;clear d2;go_wp2_with (first | (go_at_call 168; (with_reducible refine (spec_l4Has.calls n An cn out nm _ _ (Kd.R_reads' HTd.out.nr).2.2 (Kd.R_reads' HTd.out.nr).2.1 Hv.out).mono ?_); rintro e w6 ⟨rfl, hd⟩; have HTe := A_ (HTd.out.below hd.below); have HAe := A_ (blk_below HA.out hd.below); clear hd HTd HA hx0 hx1 hz1 hz2 hf1 hf2; obtain ⟨hx0, hx1⟩ := bc2_ HAe.out; have hz1 := cellS89_1 HTe.out.st.1; have hz2 := cellS89_2 HTe.out.st.1; have hf1 := blk_frozen HTe.out.st.1 1; have hf2 := blk_frozen HTe.out.st.1 2; have HT8 := A_ (HTe.out.at_ nx)) | (go_at_call 169; clear hx0 hx1 hz1 hz2 hf1 hf2; (with_reducible refine (spec_l19Space.calls n av x _ Hx.out).mono ?_); rintro e w8 ⟨rfl, hd⟩; have HTf := A_ (HT8.out.below hd.below); clear hd HT8 HTe HAe; have hz2 := cellS89_2 HTf.out.st.1; have hf2 := blk_frozen HTf.out.st.1 2))
         go_roundg n
         case measure => omega
         case rel => exact ⟨_, _, _, _, _, _, rfl, rfl, HM2, ⟨HTf.out.ok_ false⟩⟩
        case neg =>
         have d2b : (x == about) = false := bN_ d2;have HM2 : As9 (sattrsL n about s nx true out x true = some (r0, r1, r2, r3, r4)) := ⟨by have h := HM.out; rw [dF_ d2] at h; exact h⟩;clear d2;go_wp2_with (first | (go_at_call 168; (with_reducible refine (spec_l4Has.calls n An cn out nm _ _ (Kd.R_reads' HTd.out.nr).2.2 (Kd.R_reads' HTd.out.nr).2.1 Hv.out).mono ?_); rintro e w6 ⟨rfl, hd⟩; have HTe := A_ (HTd.out.below hd.below); have HAe := A_ (blk_below HA.out hd.below); clear hd HTd HA hx0 hx1 hz1 hz2 hf1 hf2; obtain ⟨hx0, hx1⟩ := bc2_ HAe.out; have hz1 := cellS89_1 HTe.out.st.1; have hz2 := cellS89_2 HTe.out.st.1; have hf1 := blk_frozen HTe.out.st.1 1; have hf2 := blk_frozen HTe.out.st.1 2; have HT8 := A_ (HTe.out.at_ nx)) | (go_at_call 169; clear hx0 hx1 hz1 hz2 hf1 hf2; (with_reducible refine (spec_l19Space.calls n av x _ Hx.out).mono ?_); rintro e w8 ⟨rfl, hd⟩; have HTf := A_ (HT8.out.below hd.below); clear hd HT8 HTe HAe; have hz2 := cellS89_2 HTf.out.st.1; have hf2 := blk_frozen HTf.out.st.1 2))
         go_roundg n
         case measure => omega
         case rel => exact ⟨_, _, _, _, _, _, rfl, rfl, HM2, HTf⟩
      case neg =>
       rw [if_neg cx] at H;have cxb : (nm.toList == [120, 109, 108, 110, 115]) = false := bN_ cx;have cxn : (!(nm.toList == [120, 109, 108, 110, 115])) = true := by rw [cxb]; rfl
       clear cx;split at H
       case isFalse => cases H
       case isTrue hl =>
        have HL := A_ hl;have HM := A_ H;clear hl H;go_wp2_with (first | (go_at_call 168; (with_reducible refine (spec_l4Has.calls n An cn out nm _ _ (Kd.R_reads' HTd.out.nr).2.2 (Kd.R_reads' HTd.out.nr).2.1 Hv.out).mono ?_); rintro e w6 ⟨rfl, hd⟩; have HTe := A_ (HTd.out.below hd.below); have HAe := A_ (blk_below HA.out hd.below); clear hd HTd HA hx0 hx1 hz1 hz2 hf1 hf2; obtain ⟨hx0, hx1⟩ := bc2_ HAe.out; have hz1 := cellS89_1 HTe.out.st.1; have hz2 := cellS89_2 HTe.out.st.1; have hf1 := blk_frozen HTe.out.st.1 1; have hf2 := blk_frozen HTe.out.st.1 2; have HT8 := A_ (HTe.out.at_ nx)) | ((with_reducible refine gate_builtin (b := .append) (xs := #[.tmp 82, .tmp 84]) rfl ?_); at_builtin; go_loud (refine Kd.R_append k36 (w0 := w0) w0.heap.size rfl (.tmp 82) (.tmp 84) 40 36 (.agg #[(.string ⟨#[]⟩), (.string ⟨#[]⟩)]) 32 rfl Tryz.underlying40 info36 rfl de_ om_ (.slice An out.length cn) out (⟨nm, av⟩ : S36) [.string nm, .string av] (fun k_ => w.heap.size ≤ k_) (fun _ => False) rfl ?aX ?aP (fun _ hk => hk.elim) ?aF ?aO ?aB ?aS ?aL ?_); (case aX => first | rfl | (go_simp; done) | (go_simp; rfl) | (simp; done) | (simp; rfl)); (case aP => exact k36_mkM _ _ _ (⟨nm, av⟩ : S36)); (case aF => exact fun k hk => Nat.le_trans HT8.out.kp.1 hk); (case aO => exact HT8.out.nr); (case aB => exact HT8.out.bl); (case aS => exact HT8.out.bl.size); (case aL => have := HL.out; omega); intro v6 w7 ho hb hg hat; have HTg := A_ (HT8.out.app ho hb hg); clear ho hb hg hat HT8 HTe HAe hx0 hx1 hz1 hz2 hf1 hf2))
        go_roundg n
        case measure => omega
        case rel => exact ⟨_, _, _, _, _, _, rfl, rfl, HM, HTg⟩
def spec_l1Max.f (a0 : Int) (a1 : Int) : Option (Int) := if a0 > a1 then (some a0) else (some a1)
theorem spec_l1Max.calls (a0 : Int) (a1 : Int) (r : Int) (w : World) (h : spec_l1Max.f a0 a1 = some r) :
  Calls Tryz.prog 92 #[.int .i64 a0, .int .i64 a1] w fun e w' => e = .returned (.int .i64 r) ∧ Drawn0 w w' := by
 have H : (if a0 > a1 then (some a0) else (some a1)) = some r := h;clear h;rcases ic_ H with ⟨c3, H⟩ | ⟨c3, H⟩
 ·have c3b0 : decide (a1 < a0) = true := dE_ c3;clear c3;obtain rfl := sI_ H;go_enter Tryz.func92, Tryz.ntmps92
  go_wp2
  go_ret
  exact ⟨e2_, d0_⟩
 ·have c3b0 : decide (a1 < a0) = false := dF_ c3;clear c3;obtain rfl := sI_ H;go_enter Tryz.func92, Tryz.ntmps92
  go_wp2
  go_ret
  exact ⟨e2_, d0_⟩
mutual
def sEl : Nat → Int → Int → ByteArray → Int → Bool → Option (S43 × ByteArray × Int × Bool)
 | 0, _, _, _, _, _ => none
 | n + 1, about, deep, s, p, b => (spec_l19Take.f s p b ⟨#[60]⟩).bind fun t1 =>
  if t1.2.2 = true then (if deep = 0 then some (⟨1, 0, ⟨#[]⟩, [], ⟨#[]⟩, []⟩, t1.1, t1.2.1, false) else
   (spec_XmlName.f n t1.1 t1.2.1).bind fun q => if q.1.toList = [] then some (⟨1, 0, ⟨#[]⟩, [], ⟨#[]⟩, []⟩, t1.1, t1.2.1, false) else
   (spec_l19Attrs.f n t1.1 q.2 true about).bind fun a =>
   if a.2.2.2.2 = true then ((spec_l5Stands.f a.2.2.1 a.2.2.2.1 ⟨#[47, 62]⟩).bind fun z => if z = true then some (⟨1, a.2.1, q.1, a.1, ⟨#[]⟩, []⟩, a.2.2.1, wrap64 (a.2.2.2.1 + 2), true) else sRest n about deep q.1 a.1 a.2.1 a.2.2.1 a.2.2.2.1 true)
   else sRest n about deep q.1 a.1 a.2.1 a.2.2.1 a.2.2.2.1 false)
  else some (⟨1, 0, ⟨#[]⟩, [], ⟨#[]⟩, []⟩, t1.1, t1.2.1, false)
def sRest : Nat → Int → Int → ByteArray → List S36 → Int → ByteArray → Int → Bool → Option (S43 × ByteArray × Int × Bool)
 | 0, _, _, _, _, _, _, _, _ => none
 | n + 1, _, deep, nm, at_, sp, s, p, b => (spec_l19Take.f s p b ⟨#[62]⟩).bind fun t3 => (sKidsL n sp deep t3.1 t3.2.1 t3.2.2 []).bind fun ks =>
   if nm.size ≤ 140737488351232 then (spec_l19Take.f ks.2.1 ks.2.2.1 ks.2.2.2 ((⟨#[60, 47]⟩ ++ nm) ++ ⟨#[62]⟩)).bind fun t4 => some (⟨1, sp, nm, at_, ⟨#[]⟩, ks.1⟩, t4) else none
def sKidsL : Nat → Int → Int → ByteArray → Int → Bool → List S43 → Option (List S43 × ByteArray × Int × Bool)
 | 0, _, _, _, _, _, _ => none
 | n + 1, sp, deep, s, p, b, out => if b = true then ((spec_l5Stands.f s p ⟨#[60, 47]⟩).bind fun z => if z = true then some (out, s, p, true) else
   (if (s.size : Int) ≤ p then sKidsL n sp deep s p false out else (spec_l5Stands.f s p ⟨#[60, 33, 45, 45]⟩).bind fun z2 =>
    if z2 = true then (spec_XmlNote.f n s p).bind fun q => if out.length < 1000000000000 then (spec_l1Max.f q.2 0).bind fun m => sKidsL n sp deep s m (decide (q.2 ≥ 0)) (out ++ [⟨3, 0, ⟨#[]⟩, [], q.1, []⟩]) else none
    else if 0 ≤ p then (if out.length < 1000000000000 then (if bt s p = 60 then (sEl n sp (wrap64 (deep - 1)) s p true).bind fun kd => sKidsL n sp deep kd.2.1 kd.2.2.1 kd.2.2.2 (out ++ [kd.1])
     else (spec_XmlText.f n s p ⟨#[60]⟩).bind fun q => (spec_l1Max.f q.2 0).bind fun m => sKidsL n sp deep s m (decide (q.2 ≥ 0)) (out ++ [⟨2, 0, ⟨#[]⟩, [], q.1, []⟩])) else none)
    else none))
  else some (out, s, p, false)
end
theorem sEl_mono_all : ∀ k, (∀ y0 y1 y2 y3 y4, LeO (sEl k y0 y1 y2 y3 y4) (sEl (k + 1) y0 y1 y2 y3 y4)) ∧ (∀ y0 y1 y2 y3 y4 y5 y6 y7, LeO (sRest k y0 y1 y2 y3 y4 y5 y6 y7) (sRest (k + 1) y0 y1 y2 y3 y4 y5 y6 y7)) ∧ (∀ y0 y1 y2 y3 y4 y5, LeO (sKidsL k y0 y1 y2 y3 y4 y5) (sKidsL (k + 1) y0 y1 y2 y3 y4 y5))
 | 0 => ⟨fun _ _ _ _ _ r h => by simp [sEl] at h, fun _ _ _ _ _ _ _ _ r h => by simp [sRest] at h, fun _ _ _ _ _ _ r h => by simp [sKidsL] at h⟩
 | k + 1 => by
  obtain ⟨i1, i2, i3⟩ := sEl_mono_all k;refine ⟨fun y0 y1 y2 y3 y4 => ?_, fun y0 y1 y2 y3 y4 y5 y6 y7 => ?_, fun y0 y1 y2 y3 y4 y5 => ?_⟩
  ·rw [sEl, sEl];exact LeO.bind (LeO.refl _) fun t1 => LeO.ite (LeO.ite (LeO.refl _) (LeO.bind (spec_XmlName.mono _ _ _) fun q => LeO.ite (LeO.refl _) (LeO.bind (spec_l19Attrs.mono _ _ _ _ _) fun a => LeO.ite (LeO.bind (LeO.refl _) fun z => LeO.ite (LeO.refl _) (i2 _ _ _ _ _ _ _ _)) (i2 _ _ _ _ _ _ _ _)))) (LeO.refl _)
  ·rw [sRest, sRest];exact LeO.bind (LeO.refl _) fun t3 => LeO.bind (i3 _ _ _ _ _ _) fun ks => LeO.refl _
  ·rw [sKidsL, sKidsL];exact LeO.ite (LeO.bind (LeO.refl _) fun z => LeO.ite (LeO.refl _) (LeO.ite (i3 _ _ _ _ _ _) (LeO.bind (LeO.refl _) fun z2 => LeO.ite (LeO.bind (spec_XmlNote.mono _ _ _) fun q => LeO.ite (LeO.bind (LeO.refl _) fun m => i3 _ _ _ _ _ _) (LeO.refl _)) (LeO.ite (LeO.ite (LeO.ite (LeO.bind (i1 _ _ _ _ _) fun kd => i3 _ _ _ _ _ _) (LeO.bind (spec_XmlText.mono _ _ _ _) fun q => LeO.bind (LeO.refl _) fun m => i3 _ _ _ _ _ _)) (LeO.refl _)) (LeO.refl _))))) (LeO.refl _)
theorem sst_six {w0 w : World} {g gx : Nat} {s : BA} {p : Int} {b : Bool} (h : IsS89 w0 w g s p b) (hne : g ≠ gx) (u0 u1 u2 u3 u4 u5 : Value) : IsS89 w0 ((((((w.setCell ⟨gx, 0, none⟩ u0).setCell ⟨gx, 1, none⟩ u1).setCell ⟨gx, 2, none⟩ u2).setCell ⟨gx, 3, none⟩ u3).setCell ⟨gx, 4, none⟩ u4).setCell ⟨gx, 5, none⟩ u5) g s p b :=
 (((((h.far (p := ⟨gx, 0, none⟩) hne u0).far (p := ⟨gx, 1, none⟩) hne u1).far (p := ⟨gx, 2, none⟩) hne u2).far (p := ⟨gx, 3, none⟩) hne u3).far (p := ⟨gx, 4, none⟩) hne u4).far (p := ⟨gx, 5, none⟩) hne u5
def SElPost (w0 w : World) (g : Nat) (r : S43) (r2 : BA) (r3 : Int) (r4 : Bool) (e : Ending) (w' : World) : Prop :=
 ∃ cs : Array Value, e = .returned (.agg cs) ∧ k43.M w' w0.heap.size (fun k_ => w.heap.size ≤ k_) r cs.toList ∧ IsS89 w0 w' g r2 r3 r4 ∧ Below w0.heap.size w0 w' ∧ KeepBut w w' g none
def SElC (k : Nat) : Prop := ∀ (g : Nat) (about deep : Int) (s : BA) (p : Int) (b : Bool) (r : S43) (r2 : BA) (r3 : Int) (r4 : Bool) (w0 w : World), IsS89 w0 w g s p b → Below w0.heap.size w0 w → sEl k about deep s p b = some (r, r2, r3, r4) →
  Calls Tryz.prog 84 #[.pointer (some ⟨g, 0, none⟩), .int .i64 about, .int .i64 deep] w (SElPost w0 w g r r2 r3 r4)
structure Skd (w0 w W : World) (g : Nat) (s : BA) (p : Int) (b : Bool) (v : Value) (out : List S43) : Prop where
 st : IsS89 w0 W g s p b
 nr : k43.R 43 W w0.heap.size (fun k_ => w.heap.size ≤ k_) v out
 bl : Below w0.heap.size w0 W
 kp : KeepBut w W g none
 gl : g < w.heap.size
def SKidC (k : Nat) : Prop := ∀ (g : Nat) (sp deep : Int) (s : BA) (p : Int) (b : Bool) (r : List S43) (r2 : BA) (r3 : Int) (r4 : Bool) (w0 w : World), IsS89 w0 w g s p b → Below w0.heap.size w0 w → sKidsL k sp deep s p b [] = some (r, r2, r3, r4) →
  Calls Tryz.prog 132 #[.pointer (some ⟨g, 0, none⟩), .int .i64 sp, .int .i64 deep] w fun e w' => ∃ v, e = .returned v ∧ Skd w0 w w' g r2 r3 r4 v r
theorem SEl_end {w0 w W : World} {g gr : Nat} {s : BA} {p : Int} {b : Bool} {r : S43} {a0 a1 a2 a3 a4 a5 u0 u1 u2 u3 u4 u5 : Value} {ok : Nat → Prop} (hI : IsS89 w0 W g s p b) (hB : Below w0.heap.size w0 W) (hK : KeepBut w W g none) (hX : W.heap[gr]? = some (.cells #[a0, a1, a2, a3, a4, a5] 43 (0, 0)))
  (hM : k43.M W w0.heap.size ok r [u0, u1, u2, u3, u4, u5]) (hok : ∀ k, ok k → w.heap.size ≤ k ∧ k ≠ gr) (hgr : w.heap.size ≤ gr) (hg : g ≠ gr) (hg0 : w0.heap.size ≤ gr) :
  SElPost w0 w g r s p b (.returned (.agg #[u0, u1, u2, u3, u4, u5])) ((((((W.setCell ⟨gr, 0, none⟩ u0).setCell ⟨gr, 1, none⟩ u1).setCell ⟨gr, 2, none⟩ u2).setCell ⟨gr, 3, none⟩ u3).setCell ⟨gr, 4, none⟩ u4).setCell ⟨gr, 5, none⟩ u5) := by
 have hk : KeepBut W ((((((W.setCell ⟨gr, 0, none⟩ u0).setCell ⟨gr, 1, none⟩ u1).setCell ⟨gr, 2, none⟩ u2).setCell ⟨gr, 3, none⟩ u3).setCell ⟨gr, 4, none⟩ u4).setCell ⟨gr, 5, none⟩ u5) gr none := ((((((KeepBut.refl W gr none).set_ 0 _).set_ 1 _).set_ 2 _).set_ 3 _).set_ 4 _).set_ 5 _;exact ⟨_, rfl, k43.M_mono (fun k hk => (hok k hk).1) (Kd.M_keep hM hk (fun k hk => (hok k hk).2)), sst_six hI hg _ _ _ _ _ _, below_six hB hg0 _ _ _ _ _ _, keep_six hK hgr _ _ _ _ _ _⟩
theorem Skd.state {w0 w W W' : World} {g : Nat} {s s' : BA} {p p' : Int} {b b' : Bool} {v : Value} {out : List S43} (h : Skd w0 w W g s p b v out) (hi : IsS89 w0 W' g s' p' b') (hb : Below w0.heap.size w0 W') (hk : KeepBut W W' g none) : Skd w0 w W' g s' p' b' v out :=
 ⟨hi, Kd.R_keep h.nr hk (fun k hk => by have := h.gl; omega), hb, h.kp.trans hk (.inl rfl), h.gl⟩
theorem Skd.below {w0 w W W' : World} {g : Nat} {s : BA} {p : Int} {b : Bool} {v : Value} {out : List S43} (h : Skd w0 w W g s p b v out) (hb : Below W.heap.size W W') : Skd w0 w W' g s p b v out := h.state (h.st.below hb) (below_step h.bl hb) (KeepBut.of_below hb g none)
theorem Skd.ok_ {w0 w W : World} {g : Nat} {s : BA} {p : Int} {b : Bool} {v : Value} {out : List S43} (h : Skd w0 w W g s p b v out) (x : Bool) : Skd w0 w (W.setCell ⟨g, 2, none⟩ (.bool x)) g s p x v out := h.state (h.st.set_2 x) (below_set h.bl h.st.2) ((KeepBut.refl W g none).set_ 2 _)
theorem Skd.at_ {w0 w W : World} {g : Nat} {s : BA} {p : Int} {b : Bool} {v : Value} {out : List S43} (h : Skd w0 w W g s p b v out) (x : Int) : Skd w0 w (W.setCell ⟨g, 1, none⟩ (.int .i64 x)) g s x b v out := h.state (h.st.set_1 x) (below_set h.bl h.st.2) ((KeepBut.refl W g none).set_ 1 _)
theorem Skd.app {w0 w W W' : World} {g : Nat} {s : BA} {p : Int} {b : Bool} {v v' : Value} {out : List S43} (h : Skd w0 w W g s p b v out) {x : S43} (ho : k43.R 43 W' w0.heap.size (fun k_ => w.heap.size ≤ k_) v' (out ++ [x])) (hb : Below w0.heap.size w0 W') (hg : W.grownBy W' v.ownBlock) : Skd w0 w W' g s p b v' (out ++ [x]) :=
 ⟨h.st.grown hg (h.st.own_ne h.nr de_), ho, hb, h.kp.trans (KeepBut.of_grown hg g) (by
  cases hv : v.ownBlock with
  | none => exact .inl rfl
  | some k => exact .inr ⟨k, rfl, h.nr.1 k hv⟩), h.gl⟩
theorem skids_step (k : Nat) (hE_ : ∀ m, m < k → SElC m) : SKidC k := by
 unfold SElC at hE_;intro g sp deep s p b r r2 r3 r4 w0 w hI hB h;have hu := Tryz.underlying43;have HF := A_ h;have HI := A_ hI;have HB := A_ hB;clear h hI hB;go_enter Tryz.func132, Tryz.ntmps132
 go_wp2_with ((with_reducible refine gate_dst (N := 12) rfl ?_); refine Kd.R_lit (w0 := w0) k43 w0.heap.size 43 ?hg (N := 12) ?hd (xs := ([] : List S43)) (inner := []) (ok := fun k_ => w.heap.size ≤ k_) (okp := fun _ => False) ?hr ?hp (fun _ hk => hk.elim) (Nat.le_refl _) HB.out HB.out.size si_ ?_; (case hd => rfl); (case hg => rfl); (case hr => first | (go_simp; done) | (go_simp; rfl)); (case hp => exact (Reps.none _ _)); intro v12 w2 ho hb hg_ hnew_; have HT := A_ (show Skd w0 w w2 g s p b v12 [] from ⟨HI.out.grown hg_ si_, ho, hb, KeepBut.of_grown hg_ g, HI.out.lt⟩); clear ho hb hg_ hnew_ HI HB)
 go_loopg [7] k (fun kq v7 wr => ∃ (out : List S43) (s : BA) (p : Int) (b : Bool), As9 (sKidsL kq sp deep s p b out = some (r, r2, r3, r4)) ∧ As9 (Skd w0 w wr g s p b v7 out) ∧ As9 (kq ≤ k))
 case atStart => exact ⟨[], s, p, b, HF, HT, ⟨Nat.le_refl _⟩⟩
 case round =>
  clear HF HT;obtain ⟨out, s, p, b, HA, HT, HN⟩ := hrel;cases gk with
  | zero => exact absurd HA.out (by simp [sKidsL])
  | succ n =>
  have H := HA.out;clear HA;simp only [sKidsL] at H;obtain ⟨An, cn, rfl⟩ := Kd.R_slice HT.out.nr;have hc0 := cellS89_0 HT.out.st.1;have hc1 := cellS89_1 HT.out.st.1;have hc2 := cellS89_2 HT.out.st.1;cases b with
  | false =>
   rw [if_neg si_] at H;simp only [Option.some.injEq, Prod.mk.injEq] at H;obtain ⟨rfl, rfl, rfl, rfl⟩ := H;go_wp2
   go_quiet (fail)
   generalize hW : World.drewN wr nq = wx;have HTx : As9 (Skd w0 w wx g s p false (.slice An out.length cn) out) := ⟨by rw [← hW]; exact HT.out.below (bN9 (Below.refl _ _) _)⟩;clear hW HT hc0 hc1 hc2;have hc0 := cellS89_0 HTx.out.st.1;have hc1 := cellS89_1 HTx.out.st.1;have hc2 := cellS89_2 HTx.out.st.1;go_wp2
   go_ret
   exact ⟨_, rfl, HTx.out⟩
  | true =>
   rw [if_pos rfl] at H;obtain ⟨z, hz, H⟩ := oB_ H;have HZ := A_ hz;clear hz;cases z with
   | true =>
    rw [if_pos rfl] at H;simp only [Option.some.injEq, Prod.mk.injEq] at H;obtain ⟨rfl, rfl, rfl, rfl⟩ := H;go_wp2
    go_quiet ((go_at_call 69; (refine (spec_l5Stands.calls s p ⟨#[60, 47]⟩ _ _ HZ.out).mono ?_); rintro r w' ⟨rfl, ⟨nd, rfl⟩⟩; exact ⟨rfl, _, World.drewN_drewN _ _ _⟩))
    generalize hW : World.drewN wr nq = wx;have HTx : As9 (Skd w0 w wx g s p true (.slice An out.length cn) out) := ⟨by rw [← hW]; exact HT.out.below (bN9 (Below.refl _ _) _)⟩;clear hW HT hc0 hc1 hc2;have hc0 := cellS89_0 HTx.out.st.1;have hc1 := cellS89_1 HTx.out.st.1;have hc2 := cellS89_2 HTx.out.st.1;go_wp2
    go_ret
    exact ⟨_, rfl, HTx.out⟩
   | false =>
    rw [if_neg si_] at H;go_wp2
    go_quiet ((go_at_call 69; (refine (spec_l5Stands.calls s p ⟨#[60, 47]⟩ _ _ HZ.out).mono ?_); rintro r w' ⟨rfl, ⟨nd, rfl⟩⟩; exact ⟨rfl, _, World.drewN_drewN _ _ _⟩))
    generalize hW : World.drewN wr nq = wx;have HTx : As9 (Skd w0 w wx g s p true (.slice An out.length cn) out) := ⟨by rw [← hW]; exact HT.out.below (bN9 (Below.refl _ _) _)⟩;clear hW HT hc0 hc1 hc2;have hc0 := cellS89_0 HTx.out.st.1;have hc1 := cellS89_1 HTx.out.st.1;have hc2 := cellS89_2 HTx.out.st.1;clear HZ;by_cases hlt : (s.size : Int) ≤ p
    case pos =>
     rw [if_pos hlt] at H;have HH := A_ H;clear H;have q7 := eq_true hlt;have q8 : decide ((s.size : Int) ≤ p) = true := dE_ hlt;go_wp2
     go_quiet (fail)
     generalize hW : World.drewN wx nq = wy;have HTy : As9 (Skd w0 w wy g s p true (.slice An out.length cn) out) := ⟨by rw [← hW]; exact HTx.out.below (bN9 (Below.refl _ _) _)⟩;clear hW HTx hc0 hc1 hc2;have hc0 := cellS89_0 HTy.out.st.1;have hc1 := cellS89_1 HTy.out.st.1;have hc2 := cellS89_2 HTy.out.st.1;have hf2 := blk_frozen HTy.out.st.1 2;go_wp2
     go_roundg n
     case measure => omega
     case rel => exact ⟨_, _, _, _, HH, ⟨HTy.out.ok_ false⟩, ⟨by have := HN.out; omega⟩⟩
    case neg =>
    rw [if_neg hlt] at H;have q7 := eq_false hlt;have q8 : decide ((s.size : Int) ≤ p) = false := dF_ hlt;obtain ⟨z2, hz2, H⟩ := oB_ H;have HZ2 := A_ hz2;clear hz2;go_wp2
    go_quiet (fail)
    generalize hW : World.drewN wx nq = wy;have HTy : As9 (Skd w0 w wy g s p true (.slice An out.length cn) out) := ⟨by rw [← hW]; exact HTx.out.below (bN9 (Below.refl _ _) _)⟩;clear hW HTx hc0 hc1 hc2;have hc0 := cellS89_0 HTy.out.st.1;have hc1 := cellS89_1 HTy.out.st.1;have hc2 := cellS89_2 HTy.out.st.1;cases z2 with
    | true =>
     rw [if_pos rfl] at H;obtain ⟨⟨qt, qx⟩, hq, H⟩ := oB_ H;dsimp only at H;split at H
     case isFalse => cases H
     case isTrue hl =>
     obtain ⟨m, hm, H⟩ := oB_ H;have Hq := A_ hq;have Hm := A_ hm;have HL := A_ hl;have HH := A_ H;clear hq hm hl H;go_wp2
     go_quiet ((go_at_call 69; (refine (spec_l5Stands.calls s p ⟨#[60, 33, 45, 45]⟩ _ _ HZ2.out).mono ?_); rintro r w' ⟨rfl, ⟨nd, rfl⟩⟩; exact ⟨rfl, _, World.drewN_drewN _ _ _⟩))
     generalize hW : World.drewN wy nq = wz;have HTx : As9 (Skd w0 w wz g s p true (.slice An out.length cn) out) := ⟨by rw [← hW]; exact HTy.out.below (bN9 (Below.refl _ _) _)⟩;clear hW HTy hc0 hc1 hc2;have hc0 := cellS89_0 HTx.out.st.1;have hc1 := cellS89_1 HTx.out.st.1;have hc2 := cellS89_2 HTx.out.st.1;clear HZ2 q7 q8 hlt;go_wp2
     have HTd := A_ (HTx.out.below (below_drew (Below.refl _ _)));clear HTx hc0 hc1 hc2;refine start_ (n := 14) (S := fun w' => w'.cell? ⟨g, 0, none⟩ = some (.string s) ∧ w'.cell? ⟨g, 1, none⟩ = some (.int .i64 p)) (ds := [8]) (tS 14 0) (by kernel_rfl) rfl rfl ⟨cellS89_0 HTd.out.st.1, cellS89_1 HTd.out.st.1⟩ (fun hHeld => ?_);generalize World.drew _ = wr0 at HTd hHeld ⊢;iterate 3 refine pq_ ?_
     refine pg_ 4 (tB 14 23) ?_;refine pg_ 5 (tB 14 55) ?_;refine pg_ 6 (tB 14 119) ?_;refine tg_ 3 (tS 14 7) rfl (by rintro w' ⟨s0, s1⟩; go_simp; with_reducible rfl) ?_;refine tq_ rfl (by rintro w' ⟨s0, s1⟩; go_simp; with_reducible rfl) ?_;refine last_ (i := 8) (N := some 60) (tS 14 9) rfl rfl (by kernel_rfl) de_ (fun K hK => ?_);refine gS_ Tryz.func29 #[.string s, .int .i64 p] ?_;with_reducible refine (spec_XmlNote.calls n s p qt qx _ Hq.out).mono ?_
     rintro e wr8 ⟨rfl, hb⟩;refine ⟨_, rfl, ?_⟩;have HTe := A_ (HTd.out.below hb);clear hb HTd;refine hK.out _ _ ?_;clear hK K;refine nm_ ?_;iterate 5 refine pq_ ?_
     refine done_ (by kernel_rfl) ?_;have hz1 := cellS89_1 HTe.out.st.1;have hz2 := cellS89_2 HTe.out.st.1;have hf1 := blk_frozen HTe.out.st.1 1;have hf2 := blk_frozen HTe.out.st.1 2;go_wp2_with (first | (go_at_call 92; have HT5 := A_ (HTe.out.ok_ (decide (qx ≥ 0))); clear HTe; (with_reducible refine (spec_l1Max.calls qx 0 m _ Hm.out).mono ?_); rintro e w6 ⟨rfl, hd⟩; have HT6 := A_ (HT5.out.below hd.below); clear hd HT5 hz1 hz2 hf1 hf2; have hz1 := cellS89_1 HT6.out.st.1; have hf1 := blk_frozen HT6.out.st.1 1; have HT7 := A_ (HT6.out.at_ m)) | ((with_reducible refine gate_builtin (b := .append) (xs := #[.tmp 73, .tmp 76]) rfl ?_); at_builtin; go_loud (refine Kd.R_append k43 (w0 := w0) w0.heap.size rfl (.tmp 73) (.tmp 76) 41 43 (.agg #[.int .i64 0, .int .i64 0, .string ⟨#[]⟩, .slice none 0 0, .string ⟨#[]⟩, .slice none 0 0]) 96 rfl Tryz.underlying41 (by kernel_rfl) rfl de_ om_ (.slice An out.length cn) out (⟨3, 0, ⟨#[]⟩, [], qt, []⟩ : S43) [.int .i64 3, .int .i64 0, .string ⟨#[]⟩, .slice none 0 0, .string qt, .slice none 0 0] (fun k_ => w.heap.size ≤ k_) (fun _ => False) rfl ?aX ?aP (fun _ hk => hk.elim) ?aF ?aO ?aB ?aS ?aL ?_); (case aX => first | rfl | (go_simp; done) | (go_simp; rfl) | (simp; done) | (simp; rfl)); (case aP => exact k43_mkM _ _ _ (⟨3, 0, ⟨#[]⟩, [], qt, []⟩ : S43) (Kd.R_nil _ _ _ _ _) (Kd.R_nil _ _ _ _ _)); (case aF => exact fun k hk => Nat.le_trans HT7.out.kp.1 hk); (case aO => exact HT7.out.nr); (case aB => exact HT7.out.bl); (case aS => exact HT7.out.bl.size); (case aL => have := HL.out; omega); intro v7 w7 ho hb hg hat; have HTg := A_ (HT7.out.app ho hb hg); clear ho hb hg hat HT7))
     go_roundg n
     case measure => omega
     case rel => exact ⟨_, _, _, _, HH, HTg, ⟨by have := HN.out; omega⟩⟩
    | false =>
     rw [if_neg si_] at H;split at H
     case isFalse => cases H
     case isTrue h0 =>
     split at H
     case isFalse => cases H
     case isTrue hl =>
     have HL := A_ hl;clear hl;have p7 := eq_true h0;have q9 := eq_true (show p < (s.size : Int) by omega);have hx := bt_at s p;go_wp2
     go_quiet ((go_at_call 69; (refine (spec_l5Stands.calls s p ⟨#[60, 33, 45, 45]⟩ _ _ HZ2.out).mono ?_); rintro r w' ⟨rfl, ⟨nd, rfl⟩⟩; exact ⟨rfl, _, World.drewN_drewN _ _ _⟩))
     generalize hW : World.drewN wy nq = wz;have HTx : As9 (Skd w0 w wz g s p true (.slice An out.length cn) out) := ⟨by rw [← hW]; exact HTy.out.below (bN9 (Below.refl _ _) _)⟩;clear hW HTy hc0 hc1 hc2;have hc0 := cellS89_0 HTx.out.st.1;have hc1 := cellS89_1 HTx.out.st.1;have hc2 := cellS89_2 HTx.out.st.1;clear HZ2;by_cases hc : bt s p = 60
     case pos =>
      rw [if_pos hc] at H;obtain ⟨⟨kd, s9, p9, b9⟩, hkd, H⟩ := oB_ H;dsimp only at H;have Hkd := A_ hkd;have HH := A_ H;clear hkd H;have hcb : (bt s p == 60) = true := bQ_ hc;go_wp2
      go_quiet (fail)
      generalize hW : World.drewN wz nq = wv;have HTw : As9 (Skd w0 w wv g s p true (.slice An out.length cn) out) := ⟨by rw [← hW]; exact HTx.out.below (bN9 (Below.refl _ _) _)⟩;clear hW HTx hc0 hc1 hc2;have hc0 := cellS89_0 HTw.out.st.1;have hc1 := cellS89_1 HTw.out.st.1;have hc2 := cellS89_2 HTw.out.st.1;have HTx := HTw;clear HTw;clear p7 q9 hx hcb hc q7 q8 hlt;go_wp2_with (first | (go_at_call 84; (with_reducible refine (hE_ n (by have := HN.out; omega) g sp (wrap64 (deep - 1)) s p true kd s9 p9 b9 w0 _ HTx.out.st HTx.out.bl Hkd.out).mono ?_); rintro e w11 ⟨cs, rfl, hm, hi, hb, hk⟩; have HM := A_ (k43.M_mono (ok' := fun k_ => w.heap.size ≤ k_ ∧ some k_ ≠ (Value.slice An out.length cn).ownBlock) (fun k_ hk_ => ⟨Nat.le_trans HTx.out.kp.1 hk_, fun e_ => by have := Kd.R_lt HTx.out.nr k_ e_.symm; omega⟩) hm); have HTb := A_ (HTx.out.state hi hb hk); obtain ⟨u3, u5, hcs, g3, g5⟩ := k43_openM hm; obtain rfl : cs = #[.int .i64 kd.f0, .int .i64 kd.f1, .string kd.f2, u3, .string kd.f4, u5] := Array.ext' hcs; obtain ⟨A3', c3', rfl⟩ := Kd.R_slice g3; obtain ⟨A5', c5', rfl⟩ := Kd.R_slice g5; clear hm hcs g3 g5 hi hb hk HTx hc0 hc1 hc2) | ((with_reducible refine gate_builtin (b := .append) (xs := #[.tmp 88, .tmp 94]) rfl ?_); at_builtin; go_loud (refine Kd.R_append k43 (w0 := w0) w0.heap.size rfl (.tmp 88) (.tmp 94) 41 43 (.agg #[.int .i64 0, .int .i64 0, .string ⟨#[]⟩, .slice none 0 0, .string ⟨#[]⟩, .slice none 0 0]) 96 rfl Tryz.underlying41 (by kernel_rfl) rfl de_ om_ (.slice An out.length cn) out (kd) [.int .i64 kd.f0, .int .i64 kd.f1, .string kd.f2, .slice A3' kd.f3.length c3', .string kd.f4, .slice A5' kd.f5.length c5'] (fun k_ => w.heap.size ≤ k_) (fun k_ => w.heap.size ≤ k_ ∧ some k_ ≠ (Value.slice An out.length cn).ownBlock) rfl ?aX ?aP (fun _ hk => hk) ?aF ?aO ?aB ?aS ?aL ?_); (case aX => first | rfl | (go_simp; done) | (go_simp; rfl) | (simp; done) | (simp; rfl)); (case aP => exact HM.out); (case aF => exact fun k hk => Nat.le_trans HTb.out.kp.1 hk); (case aO => exact HTb.out.nr); (case aB => exact HTb.out.bl); (case aS => exact HTb.out.bl.size); (case aL => have := HL.out; omega); intro v7 w7 ho hb hg hat; have HTg := A_ (HTb.out.app ho hb hg); clear ho hb hg hat HTb))
      go_roundg n
      case measure => omega
      case rel => exact ⟨_, _, _, _, HH, HTg, ⟨by have := HN.out; omega⟩⟩
     case neg =>
      rw [if_neg hc] at H;obtain ⟨⟨qt, qx⟩, hq, H⟩ := oB_ H;obtain ⟨m, hm, H⟩ := oB_ H;have Hq := A_ hq;have Hm := A_ hm;have HH := A_ H;clear hq hm H;have hcb : (bt s p == 60) = false := bN_ hc;go_wp2
      go_quiet (fail)
      generalize hW : World.drewN wz nq = wv;have HTw : As9 (Skd w0 w wv g s p true (.slice An out.length cn) out) := ⟨by rw [← hW]; exact HTx.out.below (bN9 (Below.refl _ _) _)⟩;clear hW HTx hc0 hc1 hc2;have hc0 := cellS89_0 HTw.out.st.1;have hc1 := cellS89_1 HTw.out.st.1;have hc2 := cellS89_2 HTw.out.st.1;have HTx := HTw;clear HTw;clear p7 q9 hx hcb hc q7 q8 hlt;go_wp2
      have HTd := A_ (HTx.out.below (below_drew (Below.refl _ _)));clear HTx hc0 hc1 hc2;refine start_ (n := 14) (S := fun w' => w'.cell? ⟨g, 0, none⟩ = some (.string s) ∧ w'.cell? ⟨g, 1, none⟩ = some (.int .i64 p)) (ds := [8]) (tS 14 0) (by kernel_rfl) rfl rfl ⟨cellS89_0 HTd.out.st.1, cellS89_1 HTd.out.st.1⟩ (fun hHeld => ?_);generalize World.drew _ = wr0 at HTd hHeld ⊢;iterate 3 refine pq_ ?_
      refine pg_ 4 (tB 14 23) ?_;refine pg_ 5 (tB 14 55) ?_;refine pg_ 6 (tB 14 119) ?_;refine tg_ 3 (tS 14 7) rfl (by rintro w' ⟨s0, s1⟩; go_simp; with_reducible rfl) ?_;refine tq_ rfl (by rintro w' ⟨s0, s1⟩; go_simp; with_reducible rfl) ?_;refine last_ (i := 8) (N := some 105) (tS 14 9) rfl rfl (by kernel_rfl) de_ (fun K hK => ?_);refine gS_ Tryz.func23 #[.string s, .int .i64 p, .string ⟨#[60]⟩] ?_;with_reducible refine (spec_XmlText.calls n s p ⟨#[60]⟩ qt qx _ Hq.out).mono ?_
      rintro e wr8 ⟨rfl, hb⟩;refine ⟨_, rfl, ?_⟩;have HTe := A_ (HTd.out.below hb);clear hb HTd;refine hK.out _ _ ?_;clear hK K;refine nm_ ?_;iterate 5 refine pq_ ?_
      refine done_ (by kernel_rfl) ?_;have hz1 := cellS89_1 HTe.out.st.1;have hz2 := cellS89_2 HTe.out.st.1;have hf1 := blk_frozen HTe.out.st.1 1;have hf2 := blk_frozen HTe.out.st.1 2;go_wp2_with (first | (go_at_call 92; have HT5 := A_ (HTe.out.ok_ (decide (qx ≥ 0))); clear HTe; (with_reducible refine (spec_l1Max.calls qx 0 m _ Hm.out).mono ?_); rintro e w6 ⟨rfl, hd⟩; have HT6 := A_ (HT5.out.below hd.below); clear hd HT5 hz1 hz2 hf1 hf2; have hz1 := cellS89_1 HT6.out.st.1; have hf1 := blk_frozen HT6.out.st.1 1; have HT7 := A_ (HT6.out.at_ m)) | ((with_reducible refine gate_builtin (b := .append) (xs := #[.tmp 118, .tmp 121]) rfl ?_); at_builtin; go_loud (refine Kd.R_append k43 (w0 := w0) w0.heap.size rfl (.tmp 118) (.tmp 121) 41 43 (.agg #[.int .i64 0, .int .i64 0, .string ⟨#[]⟩, .slice none 0 0, .string ⟨#[]⟩, .slice none 0 0]) 96 rfl Tryz.underlying41 (by kernel_rfl) rfl de_ om_ (.slice An out.length cn) out (⟨2, 0, ⟨#[]⟩, [], qt, []⟩ : S43) [.int .i64 2, .int .i64 0, .string ⟨#[]⟩, .slice none 0 0, .string qt, .slice none 0 0] (fun k_ => w.heap.size ≤ k_) (fun _ => False) rfl ?aX ?aP (fun _ hk => hk.elim) ?aF ?aO ?aB ?aS ?aL ?_); (case aX => first | rfl | (go_simp; done) | (go_simp; rfl) | (simp; done) | (simp; rfl)); (case aP => exact k43_mkM _ _ _ (⟨2, 0, ⟨#[]⟩, [], qt, []⟩ : S43) (Kd.R_nil _ _ _ _ _) (Kd.R_nil _ _ _ _ _)); (case aF => exact fun k hk => Nat.le_trans HT7.out.kp.1 hk); (case aO => exact HT7.out.nr); (case aB => exact HT7.out.bl); (case aS => exact HT7.out.bl.size); (case aL => have := HL.out; omega); intro v7 w7 ho hb hg hat; have HTg := A_ (HT7.out.app ho hb hg); clear ho hb hg hat HT7))
      go_roundg n
      case measure => omega
      case rel => exact ⟨_, _, _, _, HH, HTg, ⟨by have := HN.out; omega⟩⟩
structure Sle (w0 w W : World) (g ge gr : Nat) (s : BA) (p : Int) (b : Bool) (sp : Int) (nm : BA) (v3 v5 : Value) (attrs : List S36) (kids : List S43) : Prop where
 st : IsS89 w0 W g s p b
 el : W.heap[ge]? = some (.cells #[.int .i64 1, .int .i64 sp, .string nm, v3, .string ⟨#[]⟩, v5] 43 (0, 0))
 ar : k36.R 36 W w0.heap.size (fun k_ => w.heap.size ≤ k_ ∧ k_ ≠ ge ∧ k_ ≠ gr) v3 attrs
 kr : k43.R 43 W w0.heap.size (fun k_ => w.heap.size ≤ k_ ∧ k_ ≠ ge ∧ k_ ≠ gr) v5 kids
 rs : W.heap[gr]? = some (.cells #[.int .i64 0, .int .i64 0, .string ⟨#[]⟩, .slice none 0 0, .string ⟨#[]⟩, .slice none 0 0] 43 (0, 0))
 bl : Below w0.heap.size w0 W
 kp : KeepBut w W g none
 gl : g < w.heap.size
 he : w.heap.size ≤ ge
 hr : w.heap.size ≤ gr
 ne : ge ≠ gr
 g0 : w0.heap.size ≤ w.heap.size
theorem Sle.state {w0 w W W' : World} {g ge gr : Nat} {s s' : BA} {p p' : Int} {b b' : Bool} {sp : Int} {nm : BA} {v3 v5 : Value} {attrs : List S36} {kids : List S43} (h : Sle w0 w W g ge gr s p b sp nm v3 v5 attrs kids) (hi : IsS89 w0 W' g s' p' b') (hb : Below w0.heap.size w0 W') (hk : KeepBut W W' g none) : Sle w0 w W' g ge gr s' p' b' sp nm v3 v5 attrs kids :=
 ⟨hi, hk.blk h.el (by have := h.gl; have := h.he; omega) si_, Kd.R_keep h.ar hk (fun k hk => by have := h.gl; omega), Kd.R_keep h.kr hk (fun k hk => by have := h.gl; omega), hk.blk h.rs (by have := h.gl; have := h.hr; omega) si_, hb, h.kp.trans hk (.inl rfl), h.gl, h.he, h.hr, h.ne, h.g0⟩
theorem Sle.below {w0 w W W' : World} {g ge gr : Nat} {s : BA} {p : Int} {b : Bool} {sp : Int} {nm : BA} {v3 v5 : Value} {attrs : List S36} {kids : List S43} (h : Sle w0 w W g ge gr s p b sp nm v3 v5 attrs kids) (hb : Below W.heap.size W W') : Sle w0 w W' g ge gr s p b sp nm v3 v5 attrs kids := h.state (h.st.below hb) (below_step h.bl hb) (KeepBut.of_below hb g none)
theorem Sle.ok_ {w0 w W : World} {g ge gr : Nat} {s : BA} {p : Int} {b : Bool} {sp : Int} {nm : BA} {v3 v5 : Value} {attrs : List S36} {kids : List S43} (h : Sle w0 w W g ge gr s p b sp nm v3 v5 attrs kids) (x : Bool) : Sle w0 w (W.setCell ⟨g, 2, none⟩ (.bool x)) g ge gr s p x sp nm v3 v5 attrs kids := h.state (h.st.set_2 x) (below_set h.bl h.st.2) ((KeepBut.refl W g none).set_ 2 _)
theorem Sle.at_ {w0 w W : World} {g ge gr : Nat} {s : BA} {p : Int} {b : Bool} {sp : Int} {nm : BA} {v3 v5 : Value} {attrs : List S36} {kids : List S43} (h : Sle w0 w W g ge gr s p b sp nm v3 v5 attrs kids) (x : Int) : Sle w0 w (W.setCell ⟨g, 1, none⟩ (.int .i64 x)) g ge gr s x b sp nm v3 v5 attrs kids := h.state (h.st.set_1 x) (below_set h.bl h.st.2) ((KeepBut.refl W g none).set_ 1 _)
theorem Sle.name_ {w0 w W : World} {g ge gr : Nat} {s : BA} {p : Int} {b : Bool} {sp : Int} {nm : BA} {v3 v5 : Value} {attrs : List S36} {kids : List S43} (h : Sle w0 w W g ge gr s p b sp nm v3 v5 attrs kids) (x : BA) : Sle w0 w (W.setCell ⟨ge, 2, none⟩ (.string x)) g ge gr s p b sp x v3 v5 attrs kids :=
 ⟨h.st.far (p := ⟨ge, 2, none⟩) (by have := h.gl; have := h.he; show g ≠ ge; omega) _, blk_put h.el 2 _ rfl, Kd.R_far (p := ⟨ge, 2, none⟩) h.ar (fun k hk => hk.2.1) _, Kd.R_far (p := ⟨ge, 2, none⟩) h.kr (fun k hk => hk.2.1) _, blk_far h.rs (p := ⟨ge, 2, none⟩) (Ne.symm h.ne) _, below_set h.bl (Nat.le_trans h.g0 h.he), keep_far (p := ⟨ge, 2, none⟩) h.kp h.he _, h.gl, h.he, h.hr, h.ne, h.g0⟩
theorem Sle.space_ {w0 w W : World} {g ge gr : Nat} {s : BA} {p : Int} {b : Bool} {sp : Int} {nm : BA} {v3 v5 : Value} {attrs : List S36} {kids : List S43} (h : Sle w0 w W g ge gr s p b sp nm v3 v5 attrs kids) (x : Int) : Sle w0 w (W.setCell ⟨ge, 1, none⟩ (.int .i64 x)) g ge gr s p b x nm v3 v5 attrs kids :=
 ⟨h.st.far (p := ⟨ge, 1, none⟩) (by have := h.gl; have := h.he; show g ≠ ge; omega) _, blk_put h.el 1 _ rfl, Kd.R_far (p := ⟨ge, 1, none⟩) h.ar (fun k hk => hk.2.1) _, Kd.R_far (p := ⟨ge, 1, none⟩) h.kr (fun k hk => hk.2.1) _, blk_far h.rs (p := ⟨ge, 1, none⟩) (Ne.symm h.ne) _, below_set h.bl (Nat.le_trans h.g0 h.he), keep_far (p := ⟨ge, 1, none⟩) h.kp h.he _, h.gl, h.he, h.hr, h.ne, h.g0⟩
theorem Sle.attrs_ {w0 w W W' : World} {g ge gr : Nat} {s s' : BA} {p p' : Int} {b b' : Bool} {sp : Int} {nm : BA} {v v3 v5 : Value} {attrs at_ : List S36} {kids : List S43} (h : Sle w0 w W g ge gr s p b sp nm v3 v5 attrs kids) (hs : Sat w0 W W' g s' p' b' v at_) : Sle w0 w (W'.setCell ⟨ge, 3, none⟩ v) g ge gr s' p' b' sp nm v v5 at_ kids := by
 have h1 := h.state hs.st hs.bl hs.kp;have e1 := blk_lt h.el;have e2 := blk_lt h.rs;have e3 := h.kp.1;exact ⟨h1.st.far (p := ⟨ge, 3, none⟩) (by have := h.gl; have := h.he; show g ≠ ge; omega) _, blk_put h1.el 3 _ rfl, Kd.R_far (p := ⟨ge, 3, none⟩) (Kd.R_mono hs.nr (ok' := (fun k_ => w.heap.size ≤ k_ ∧ k_ ≠ ge ∧ k_ ≠ gr)) (fun k hk => by omega)) (fun k hk => hk.2.1) _, Kd.R_far (p := ⟨ge, 3, none⟩) h1.kr (fun k hk => hk.2.1) _, blk_far h1.rs (p := ⟨ge, 3, none⟩) (Ne.symm h.ne) _, below_set h1.bl (Nat.le_trans h.g0 h.he), keep_far (p := ⟨ge, 3, none⟩) h1.kp h.he _, h.gl, h.he, h.hr, h.ne, h.g0⟩
theorem Sle.kids_ {w0 w W W' : World} {g ge gr : Nat} {s s' : BA} {p p' : Int} {b b' : Bool} {sp : Int} {nm : BA} {v v3 v5 : Value} {attrs : List S36} {kids ks : List S43} (h : Sle w0 w W g ge gr s p b sp nm v3 v5 attrs kids) (hs : Skd w0 W W' g s' p' b' v ks) : Sle w0 w (W'.setCell ⟨ge, 5, none⟩ v) g ge gr s' p' b' sp nm v3 v attrs ks := by
 have h1 := h.state hs.st hs.bl hs.kp;have e1 := blk_lt h.el;have e2 := blk_lt h.rs;have e3 := h.kp.1;exact ⟨h1.st.far (p := ⟨ge, 5, none⟩) (by have := h.gl; have := h.he; show g ≠ ge; omega) _, blk_put h1.el 5 _ rfl, Kd.R_far (p := ⟨ge, 5, none⟩) h1.ar (fun k hk => hk.2.1) _, Kd.R_far (p := ⟨ge, 5, none⟩) (Kd.R_mono hs.nr (ok' := (fun k_ => w.heap.size ≤ k_ ∧ k_ ≠ ge ∧ k_ ≠ gr)) (fun k hk => by omega)) (fun k hk => hk.2.1) _, blk_far h1.rs (p := ⟨ge, 5, none⟩) (Ne.symm h.ne) _, below_set h1.bl (Nat.le_trans h.g0 h.he), keep_far (p := ⟨ge, 5, none⟩) h1.kp h.he _, h.gl, h.he, h.hr, h.ne, h.g0⟩
theorem Sle.start {w0 w W W2 : World} {g ge gr : Nat} {s : BA} {p : Int} {b : Bool} (hI : IsS89 w0 W g s p b) (hB : Below w0.heap.size w0 W) (hK : KeepBut w W g none) (hX : W.heap[gr]? = some (.cells #[.int .i64 0, .int .i64 0, .string ⟨#[]⟩, .slice none 0 0, .string ⟨#[]⟩, .slice none 0 0] 43 (0, 0))) (hgr : w.heap.size ≤ gr) (gl : g < w.heap.size) (g0 : w0.heap.size ≤ w.heap.size) (hge : ge = W.heap.size)
  (hbox : W2.heap[ge]? = some (.cells #[.int .i64 0, .int .i64 0, .string ⟨#[]⟩, .slice none 0 0, .string ⟨#[]⟩, .slice none 0 0] 43 (0, 0))) (hb : Below W.heap.size W W2) :
  Sle w0 w ((((((W2.setCell ⟨ge, 0, none⟩ (.int .i64 1)).setCell ⟨ge, 1, none⟩ (.int .i64 0)).setCell ⟨ge, 2, none⟩ (.string ⟨#[]⟩)).setCell ⟨ge, 3, none⟩ (.slice none 0 0)).setCell ⟨ge, 4, none⟩ (.string ⟨#[]⟩)).setCell ⟨ge, 5, none⟩ (.slice none 0 0)) g ge gr s p b 0 ⟨#[]⟩ (.slice none 0 0) (.slice none 0 0) [] [] := by
 have h1 := hI.lt;have h2 := blk_lt hX;have h3 := hK.1;have hk : KeepBut W2 ((((((W2.setCell ⟨ge, 0, none⟩ (.int .i64 1)).setCell ⟨ge, 1, none⟩ (.int .i64 0)).setCell ⟨ge, 2, none⟩ (.string ⟨#[]⟩)).setCell ⟨ge, 3, none⟩ (.slice none 0 0)).setCell ⟨ge, 4, none⟩ (.string ⟨#[]⟩)).setCell ⟨ge, 5, none⟩ (.slice none 0 0)) ge none := ((((((KeepBut.refl W2 ge none).set_ 0 _).set_ 1 _).set_ 2 _).set_ 3 _).set_ 4 _).set_ 5 _;exact ⟨sst_six (hI.below hb) om_ _ _ _ _ _ _, blk_six hbox _ _ _ _ _ _, Kd.R_nil _ _ _ _ _, Kd.R_nil _ _ _ _ _, hk.blk (blk_below hX hb) om_ si_, below_six (below_step hB hb) om_ _ _ _ _ _ _, keep_six (hK.trans (KeepBut.of_below hb g none) (.inl rfl)) om_ _ _ _ _ _ _, gl, om_, hgr, om_, g0⟩
theorem sel_step (n : Nat) (hK_ : ∀ m, m < n → SKidC m) : SElC (n + 1) := by
 unfold SKidC at hK_;intro g about deep s p b r r2 r3 r4 w0 w hI hB h;have hu := Tryz.underlying43;rw [sEl] at h;have HI := A_ hI;have HB := A_ hB;have HGL : As9 (g < w.heap.size) := ⟨hI.lt⟩;have HG0 : As9 (w0.heap.size ≤ w.heap.size) := ⟨hB.size⟩;obtain ⟨⟨s1, p1, b1⟩, ht1, H⟩ := oB_ h;dsimp only at H;have Ht1 := A_ ht1;clear ht1 h hI hB;go_enter Tryz.func84, Tryz.ntmps84
 cases b1 with
 | false =>
  rw [if_neg si_] at H;simp only [Option.some.injEq, Prod.mk.injEq] at H;obtain ⟨rfl, rfl, rfl, rfl⟩ := H;go_wp2_with (first | ((with_reducible refine gate_dst (N := 6) rfl ?_); refine bZ_ 43 ?_; intro gr hg_ w1 hbox hb; have HGR := A_ hg_; have HI1 := A_ (HI.out.below hb); have HB1 := A_ (below_step HB.out hb); have HK1 := A_ (KeepBut.of_below hb g none); have HX1 := A_ hbox; clear hg_ hbox hb HI HB) | ((with_reducible refine gate_dst (N := 7) rfl ?_); refine bZ_ 43 ?_; intro ge hg_ w2 hbox hb; have HGE := A_ hg_; have HBX := A_ hb; have HX2 := A_ hbox; obtain ⟨he0, he1, he2, he3, he4, he5, hf0, hf1, hf2, hf3, hf4, hf5⟩ := bk6_ hbox; clear hg_ hb hbox) | (go_at_call 91; have HE3 := A_ (Sle.start HI1.out HB1.out HK1.out HX1.out (Nat.le_of_eq HGR.out.symm) HGL.out HG0.out HGE.out HX2.out HBX.out); clear HI1 HB1 HK1 HX1 HX2 HBX he0 he1 he2 he3 he4 he5 hf0 hf1 hf2 hf3 hf4 hf5; (with_reducible refine (spec_l19Take.calls g s p b ⟨#[60]⟩ _ _ _ w0 _ HE3.out.st HE3.out.bl Ht1.out).mono ?_); rintro e w4 ⟨rfl, hi, hb, hk⟩; have HE4 := A_ (HE3.out.state hi hb hk); clear hi hb hk HE3; obtain ⟨he0, he1, he2, he3, he4, he5, hf0, hf1, hf2, hf3, hf4, hf5⟩ := bk6_ HE4.out.el; obtain ⟨hz0, hz1, hz2, hz3, hz4, hz5, hy0, hy1, hy2, hy3, hy4, hy5⟩ := bk6_ HE4.out.rs; have hc0 := cellS89_0 HE4.out.st.1; have hc1 := cellS89_1 HE4.out.st.1; have hc2 := cellS89_2 HE4.out.st.1; have hg1 := blk_frozen HE4.out.st.1 1; have hg2 := blk_frozen HE4.out.st.1 2; have hn1 := eq_false HE4.out.ne; have hn2 := eq_false (Ne.symm HE4.out.ne); have hn3 : (g = ge) = False := eq_false (by have := HE4.out.gl; have := HE4.out.he; omega); have hn4 : (ge = g) = False := eq_false (by have := HE4.out.gl; have := HE4.out.he; omega); have hn5 : (g = gr) = False := eq_false (by have := HE4.out.gl; have := HE4.out.hr; omega); have hn6 : (gr = g) = False := eq_false (by have := HE4.out.gl; have := HE4.out.hr; omega)))
  have HZ := A_ (HE4.out.ok_ false);refine bodyPost_ret (results_single rfl (.cell gr 43 #[.int .i64 1, .int .i64 0, .string ⟨#[]⟩, .slice none 0 0, .string ⟨#[]⟩, .slice none 0 0] (0, 0) _ rfl (blk_six HZ.out.rs _ _ _ _ _ _) hu rfl (by kernel_rfl) .nil)) rfl ?_;exact SEl_end (ok := (fun k_ => w.heap.size ≤ k_ ∧ k_ ≠ ge ∧ k_ ≠ gr)) HZ.out.st HZ.out.bl HZ.out.kp HZ.out.rs (k43_mkM _ _ _ ⟨1, 0, ⟨#[]⟩, [], ⟨#[]⟩, []⟩ HZ.out.ar HZ.out.kr) (fun k hk => ⟨hk.1, hk.2.2⟩) HZ.out.hr (Nat.ne_of_lt (Nat.lt_of_lt_of_le HZ.out.gl HZ.out.hr)) (Nat.le_trans HZ.out.g0 HZ.out.hr)
 | true =>
  rw [if_pos rfl] at H;by_cases d0 : deep = 0
  case pos =>
   rw [if_pos d0] at H;have d0b : (deep == 0) = true := bQ_ d0;simp only [Option.some.injEq, Prod.mk.injEq] at H;obtain ⟨rfl, rfl, rfl, rfl⟩ := H;clear d0;go_wp2_with (first | ((with_reducible refine gate_dst (N := 6) rfl ?_); refine bZ_ 43 ?_; intro gr hg_ w1 hbox hb; have HGR := A_ hg_; have HI1 := A_ (HI.out.below hb); have HB1 := A_ (below_step HB.out hb); have HK1 := A_ (KeepBut.of_below hb g none); have HX1 := A_ hbox; clear hg_ hbox hb HI HB) | ((with_reducible refine gate_dst (N := 7) rfl ?_); refine bZ_ 43 ?_; intro ge hg_ w2 hbox hb; have HGE := A_ hg_; have HBX := A_ hb; have HX2 := A_ hbox; obtain ⟨he0, he1, he2, he3, he4, he5, hf0, hf1, hf2, hf3, hf4, hf5⟩ := bk6_ hbox; clear hg_ hb hbox) | (go_at_call 91; have HE3 := A_ (Sle.start HI1.out HB1.out HK1.out HX1.out (Nat.le_of_eq HGR.out.symm) HGL.out HG0.out HGE.out HX2.out HBX.out); clear HI1 HB1 HK1 HX1 HX2 HBX he0 he1 he2 he3 he4 he5 hf0 hf1 hf2 hf3 hf4 hf5; (with_reducible refine (spec_l19Take.calls g s p b ⟨#[60]⟩ _ _ _ w0 _ HE3.out.st HE3.out.bl Ht1.out).mono ?_); rintro e w4 ⟨rfl, hi, hb, hk⟩; have HE4 := A_ (HE3.out.state hi hb hk); clear hi hb hk HE3; obtain ⟨he0, he1, he2, he3, he4, he5, hf0, hf1, hf2, hf3, hf4, hf5⟩ := bk6_ HE4.out.el; obtain ⟨hz0, hz1, hz2, hz3, hz4, hz5, hy0, hy1, hy2, hy3, hy4, hy5⟩ := bk6_ HE4.out.rs; have hc0 := cellS89_0 HE4.out.st.1; have hc1 := cellS89_1 HE4.out.st.1; have hc2 := cellS89_2 HE4.out.st.1; have hg1 := blk_frozen HE4.out.st.1 1; have hg2 := blk_frozen HE4.out.st.1 2; have hn1 := eq_false HE4.out.ne; have hn2 := eq_false (Ne.symm HE4.out.ne); have hn3 : (g = ge) = False := eq_false (by have := HE4.out.gl; have := HE4.out.he; omega); have hn4 : (ge = g) = False := eq_false (by have := HE4.out.gl; have := HE4.out.he; omega); have hn5 : (g = gr) = False := eq_false (by have := HE4.out.gl; have := HE4.out.hr; omega); have hn6 : (gr = g) = False := eq_false (by have := HE4.out.gl; have := HE4.out.hr; omega)))
   have HZ := A_ (HE4.out.ok_ false);refine bodyPost_ret (results_single rfl (.cell gr 43 #[.int .i64 1, .int .i64 0, .string ⟨#[]⟩, .slice none 0 0, .string ⟨#[]⟩, .slice none 0 0] (0, 0) _ rfl (blk_six HZ.out.rs _ _ _ _ _ _) hu rfl (by kernel_rfl) .nil)) rfl ?_;exact SEl_end (ok := (fun k_ => w.heap.size ≤ k_ ∧ k_ ≠ ge ∧ k_ ≠ gr)) HZ.out.st HZ.out.bl HZ.out.kp HZ.out.rs (k43_mkM _ _ _ ⟨1, 0, ⟨#[]⟩, [], ⟨#[]⟩, []⟩ HZ.out.ar HZ.out.kr) (fun k hk => ⟨hk.1, hk.2.2⟩) HZ.out.hr (Nat.ne_of_lt (Nat.lt_of_lt_of_le HZ.out.gl HZ.out.hr)) (Nat.le_trans HZ.out.g0 HZ.out.hr)
  case neg =>
   rw [if_neg d0] at H;have d0b : (deep == 0) = false := bN_ d0;obtain ⟨⟨nm, nx⟩, hq, H⟩ := oB_ H;dsimp only at H;have Hq := A_ hq;have HH := A_ H;clear hq H d0;go_wp2_with (first | ((with_reducible refine gate_dst (N := 6) rfl ?_); refine bZ_ 43 ?_; intro gr hg_ w1 hbox hb; have HGR := A_ hg_; have HI1 := A_ (HI.out.below hb); have HB1 := A_ (below_step HB.out hb); have HK1 := A_ (KeepBut.of_below hb g none); have HX1 := A_ hbox; clear hg_ hbox hb HI HB) | ((with_reducible refine gate_dst (N := 7) rfl ?_); refine bZ_ 43 ?_; intro ge hg_ w2 hbox hb; have HGE := A_ hg_; have HBX := A_ hb; have HX2 := A_ hbox; obtain ⟨he0, he1, he2, he3, he4, he5, hf0, hf1, hf2, hf3, hf4, hf5⟩ := bk6_ hbox; clear hg_ hb hbox) | (go_at_call 91; have HE3 := A_ (Sle.start HI1.out HB1.out HK1.out HX1.out (Nat.le_of_eq HGR.out.symm) HGL.out HG0.out HGE.out HX2.out HBX.out); clear HI1 HB1 HK1 HX1 HX2 HBX he0 he1 he2 he3 he4 he5 hf0 hf1 hf2 hf3 hf4 hf5; (with_reducible refine (spec_l19Take.calls g s p b ⟨#[60]⟩ _ _ _ w0 _ HE3.out.st HE3.out.bl Ht1.out).mono ?_); rintro e w4 ⟨rfl, hi, hb, hk⟩; have HE4 := A_ (HE3.out.state hi hb hk); clear hi hb hk HE3; obtain ⟨he0, he1, he2, he3, he4, he5, hf0, hf1, hf2, hf3, hf4, hf5⟩ := bk6_ HE4.out.el; obtain ⟨hz0, hz1, hz2, hz3, hz4, hz5, hy0, hy1, hy2, hy3, hy4, hy5⟩ := bk6_ HE4.out.rs; have hc0 := cellS89_0 HE4.out.st.1; have hc1 := cellS89_1 HE4.out.st.1; have hc2 := cellS89_2 HE4.out.st.1; have hg1 := blk_frozen HE4.out.st.1 1; have hg2 := blk_frozen HE4.out.st.1 2; have hn1 := eq_false HE4.out.ne; have hn2 := eq_false (Ne.symm HE4.out.ne); have hn3 : (g = ge) = False := eq_false (by have := HE4.out.gl; have := HE4.out.he; omega); have hn4 : (ge = g) = False := eq_false (by have := HE4.out.gl; have := HE4.out.he; omega); have hn5 : (g = gr) = False := eq_false (by have := HE4.out.gl; have := HE4.out.hr; omega); have hn6 : (gr = g) = False := eq_false (by have := HE4.out.gl; have := HE4.out.hr; omega)))
   clear he0 hf0 hz0 hy0 he1 hf1 hz1 hy1 he2 hf2 hz2 hy2 he3 hf3 hz3 hy3 he4 hf4 hz4 hy4 he5 hf5 hz5 hy5 hc0 hc1 hc2 hg1 hg2;have HTd := A_ (HE4.out.below (below_drew (Below.refl _ _)));clear HE4 d0b;refine start_ (n := 14) (S := fun w' => w'.cell? ⟨g, 0, none⟩ = some (.string s1) ∧ w'.cell? ⟨g, 1, none⟩ = some (.int .i64 p1)) (ds := [8]) (tS 14 0) (by kernel_rfl) rfl rfl ⟨cellS89_0 HTd.out.st.1, cellS89_1 HTd.out.st.1⟩ (fun hHeld => ?_);generalize World.drew _ = wr0 at HTd hHeld ⊢;iterate 3 refine pq_ ?_
   refine pg_ 4 (tB 14 23) ?_;refine pg_ 5 (tB 14 55) ?_;refine pg_ 6 (tB 14 119) ?_;refine tg_ 3 (tS 14 7) rfl (by rintro w' ⟨s0, s1⟩; go_simp; with_reducible rfl) ?_;refine tq_ rfl (by rintro w' ⟨s0, s1⟩; go_simp; with_reducible rfl) ?_;refine last_ (i := 8) (N := some 35) (tS 14 9) rfl rfl (by kernel_rfl) de_ (fun K hK => ?_);refine gS_ Tryz.func17 #[.string s1, .int .i64 p1] ?_;with_reducible refine (spec_XmlName.calls n s1 p1 nm nx _ Hq.out).mono ?_
   rintro e wr8 ⟨rfl, hb⟩;refine ⟨_, rfl, ?_⟩;have HE5 := A_ (HTd.out.below hb);clear hb HTd;refine hK.out _ _ ?_;clear hK K;refine nm_ ?_;iterate 5 refine pq_ ?_
   refine done_ (by kernel_rfl) ?_;obtain ⟨he0, he1, he2, he3, he4, he5, hf0, hf1, hf2, hf3, hf4, hf5⟩ := bk6_ HE5.out.el;obtain ⟨hz0, hz1, hz2, hz3, hz4, hz5, hy0, hy1, hy2, hy3, hy4, hy5⟩ := bk6_ HE5.out.rs;have hc0 := cellS89_0 HE5.out.st.1;have hc1 := cellS89_1 HE5.out.st.1;have hc2 := cellS89_2 HE5.out.st.1;have hg1 := blk_frozen HE5.out.st.1 1;have hg2 := blk_frozen HE5.out.st.1 2;have H := HH.out;clear HH Hq;by_cases cn : nm.toList = []
   case pos =>
    rw [if_pos cn] at H;have cnb : (nm.toList == ([] : List UInt8)) = true := by rw [cn]; rfl
    have cni : nm.toList.isEmpty = true := by rw [cn]; rfl
    simp only [Option.some.injEq, Prod.mk.injEq] at H;obtain ⟨rfl, rfl, rfl, rfl⟩ := H;go_wp2
    have HZ := A_ (HE5.out.ok_ false);refine bodyPost_ret (results_single rfl (.cell gr 43 #[.int .i64 1, .int .i64 0, .string ⟨#[]⟩, .slice none 0 0, .string ⟨#[]⟩, .slice none 0 0] (0, 0) _ rfl (blk_six HZ.out.rs _ _ _ _ _ _) hu rfl (by kernel_rfl) .nil)) rfl ?_;exact SEl_end (ok := (fun k_ => w.heap.size ≤ k_ ∧ k_ ≠ ge ∧ k_ ≠ gr)) HZ.out.st HZ.out.bl HZ.out.kp HZ.out.rs (k43_mkM _ _ _ ⟨1, 0, ⟨#[]⟩, [], ⟨#[]⟩, []⟩ HZ.out.ar HZ.out.kr) (fun k hk => ⟨hk.1, hk.2.2⟩) HZ.out.hr (Nat.ne_of_lt (Nat.lt_of_lt_of_le HZ.out.gl HZ.out.hr)) (Nat.le_trans HZ.out.g0 HZ.out.hr)
   case neg =>
    rw [if_neg cn] at H;have cnb : (nm.toList == ([] : List UInt8)) = false := bN_ cn;have cni : nm.toList.isEmpty = false := by cases h9 : nm.toList with | nil => exact absurd h9 cn | cons _ _ => rfl
    clear cn;obtain ⟨⟨at_, sp, s3, p3, b3⟩, ha, H⟩ := oB_ H;dsimp only at H;have Ha := A_ ha;clear ha;cases b3 with
    | false =>
     rw [if_neg si_] at H;go_wp2_with (go_at_call 131; have HE6 := A_ ((HE5.out.name_ nm).at_ nx); clear HE5; clear he0 hf0 hz0 hy0 he1 hf1 hz1 hy1 he2 hf2 hz2 hy2 he3 hf3 hz3 hy3 he4 hf4 hz4 hy4 he5 hf5 hz5 hy5 hc0 hc1 hc2 hg1 hg2; (with_reducible refine (spec_l19Attrs.calls n g s1 nx true about at_ sp s3 p3 _ w0 _ HE6.out.st HE6.out.bl Ha.out).mono ?_); rintro e w7 ⟨v3, rfl, hs⟩; have HE7 := A_ (HE6.out.state hs.st hs.bl hs.kp); have HE8 := A_ ((HE6.out.attrs_ hs).space_ sp); obtain ⟨A3, c3, rfl⟩ := Kd.R_slice hs.nr; clear hs HE6; obtain ⟨he0, he1, he2, he3, he4, he5, hf0, hf1, hf2, hf3, hf4, hf5⟩ := bk6_ HE7.out.el; obtain ⟨hz0, hz1, hz2, hz3, hz4, hz5, hy0, hy1, hy2, hy3, hy4, hy5⟩ := bk6_ HE7.out.rs; have hc0 := cellS89_0 HE7.out.st.1; have hc1 := cellS89_1 HE7.out.st.1; have hc2 := cellS89_2 HE7.out.st.1; have hg1 := blk_frozen HE7.out.st.1 1; have hg2 := blk_frozen HE7.out.st.1 2)
     go_wp2
     go_quiet (fail)
     generalize hW : World.drewN _ nq = wq;have HE9 : As9 (Sle w0 w wq g ge gr s3 p3 false sp nm (.slice A3 at_.length c3) (.slice none 0 0) at_ []) := ⟨by rw [← hW]; exact HE8.out.below (bN9 (Below.refl _ _) _)⟩;clear hW HE8 HE7;clear he0 hf0 hz0 hy0 he1 hf1 hz1 hy1 he2 hf2 hz2 hy2 he3 hf3 hz3 hy3 he4 hf4 hz4 hy4 he5 hf5 hz5 hy5 hc0 hc1 hc2 hg1 hg2;obtain ⟨he0, he1, he2, he3, he4, he5, hf0, hf1, hf2, hf3, hf4, hf5⟩ := bk6_ HE9.out.el;obtain ⟨hz0, hz1, hz2, hz3, hz4, hz5, hy0, hy1, hy2, hy3, hy4, hy5⟩ := bk6_ HE9.out.rs;have hc0 := cellS89_0 HE9.out.st.1;have hc1 := cellS89_1 HE9.out.st.1;have hc2 := cellS89_2 HE9.out.st.1;have hg1 := blk_frozen HE9.out.st.1 1;have hg2 := blk_frozen HE9.out.st.1 2;clear Ha cnb cni;cases n with
     | zero => simp [sRest] at H
     | succ m =>
     rw [sRest] at H;obtain ⟨⟨s5, p5, b5⟩, ht3, H⟩ := oB_ H;obtain ⟨⟨ks, s6, p6, b6⟩, hks, H⟩ := oB_ H;dsimp only at hks H;split at H
     case isFalse => cases H
     case isTrue hsz =>
     obtain ⟨⟨s7, p7, b7⟩, ht4, H⟩ := oB_ H;simp only [Option.some.injEq, Prod.mk.injEq] at H;obtain ⟨rfl, rfl, rfl, rfl⟩ := H;have Ht3 := A_ ht3;have Hks := A_ hks;have Ht4 := A_ ht4;have q1 : (9223372036854775807 < (⟨#[60, 47]⟩ : BA).size + nm.size) = False := eq_false (by have h2 : (⟨#[60, 47]⟩ : BA).size = 2 := rfl; omega);have q2 : (9223372036854775807 < (⟨#[60, 47]⟩ : BA).size + nm.size + (⟨#[62]⟩ : BA).size) = False := eq_false (by have h2 : (⟨#[60, 47]⟩ : BA).size = 2 := rfl; have h3 : (⟨#[62]⟩ : BA).size = 1 := rfl; omega);have q3 : (9223372036854775807 < 2 + nm.size) = False := eq_false om_;have q4 : (9223372036854775807 < 2 + nm.size + 1) = False := eq_false om_;clear ht3 hks ht4 hsz;go_wp2_with (first | (go_at_call 91; (with_reducible refine (spec_l19Take.calls g s3 p3 _ ⟨#[62]⟩ s5 p5 b5 w0 _ HE9.out.st HE9.out.bl Ht3.out).mono ?_); rintro e w10 ⟨rfl, hi, hb, hk⟩; have HEa := A_ (HE9.out.state hi hb hk); clear hi hb hk HE9; clear he0 hf0 hz0 hy0 he1 hf1 hz1 hy1 he2 hf2 hz2 hy2 he3 hf3 hz3 hy3 he4 hf4 hz4 hy4 he5 hf5 hz5 hy5 hc0 hc1 hc2 hg1 hg2; obtain ⟨he0, he1, he2, he3, he4, he5, hf0, hf1, hf2, hf3, hf4, hf5⟩ := bk6_ HEa.out.el; obtain ⟨hz0, hz1, hz2, hz3, hz4, hz5, hy0, hy1, hy2, hy3, hy4, hy5⟩ := bk6_ HEa.out.rs; have hc0 := cellS89_0 HEa.out.st.1; have hc1 := cellS89_1 HEa.out.st.1; have hc2 := cellS89_2 HEa.out.st.1; have hg1 := blk_frozen HEa.out.st.1 1; have hg2 := blk_frozen HEa.out.st.1 2) | (go_at_call 132; (with_reducible refine (hK_ m om_ g sp deep s5 p5 b5 ks s6 p6 b6 w0 _ HEa.out.st HEa.out.bl Hks.out).mono ?_); rintro e w11 ⟨v5, rfl, hs⟩; have HEb := A_ (HEa.out.state hs.st hs.bl hs.kp); have HEc := A_ (HEa.out.kids_ hs); obtain ⟨A5, c5, rfl⟩ := Kd.R_slice hs.nr; clear hs HEa; clear he0 hf0 hz0 hy0 he1 hf1 hz1 hy1 he2 hf2 hz2 hy2 he3 hf3 hz3 hy3 he4 hf4 hz4 hy4 he5 hf5 hz5 hy5 hc0 hc1 hc2 hg1 hg2; obtain ⟨he0, he1, he2, he3, he4, he5, hf0, hf1, hf2, hf3, hf4, hf5⟩ := bk6_ HEb.out.el; obtain ⟨hz0, hz1, hz2, hz3, hz4, hz5, hy0, hy1, hy2, hy3, hy4, hy5⟩ := bk6_ HEb.out.rs; have hc0 := cellS89_0 HEb.out.st.1; have hc1 := cellS89_1 HEb.out.st.1; have hc2 := cellS89_2 HEb.out.st.1; have hg1 := blk_frozen HEb.out.st.1 1; have hg2 := blk_frozen HEb.out.st.1 2) | (go_at_call 91; clear he0 hf0 hz0 hy0 he1 hf1 hz1 hy1 he2 hf2 hz2 hy2 he3 hf3 hz3 hy3 he4 hf4 hz4 hy4 he5 hf5 hz5 hy5 hc0 hc1 hc2 hg1 hg2; (with_reducible refine (spec_l19Take.calls g s6 p6 b6 ((⟨#[60, 47]⟩ ++ nm) ++ ⟨#[62]⟩) s7 p7 b7 w0 _ HEc.out.st HEc.out.bl Ht4.out).mono ?_); rintro e w12 ⟨rfl, hi, hb, hk⟩; have HEd := A_ (HEc.out.state hi hb hk); clear hi hb hk HEc; obtain ⟨he0, he1, he2, he3, he4, he5, hf0, hf1, hf2, hf3, hf4, hf5⟩ := bk6_ HEd.out.el; obtain ⟨hz0, hz1, hz2, hz3, hz4, hz5, hy0, hy1, hy2, hy3, hy4, hy5⟩ := bk6_ HEd.out.rs; have hc0 := cellS89_0 HEd.out.st.1; have hc1 := cellS89_1 HEd.out.st.1; have hc2 := cellS89_2 HEd.out.st.1; have hg1 := blk_frozen HEd.out.st.1 1; have hg2 := blk_frozen HEd.out.st.1 2))
     refine bodyPost_ret (results_single rfl (.cell gr 43 #[.int .i64 1, .int .i64 sp, .string nm, .slice A3 at_.length c3, .string ⟨#[]⟩, .slice A5 ks.length c5] (0, 0) _ rfl (blk_six HEd.out.rs _ _ _ _ _ _) hu rfl (by kernel_rfl) .nil)) rfl ?_;exact SEl_end (ok := (fun k_ => w.heap.size ≤ k_ ∧ k_ ≠ ge ∧ k_ ≠ gr)) HEd.out.st HEd.out.bl HEd.out.kp HEd.out.rs (k43_mkM _ _ _ ⟨1, sp, nm, at_, ⟨#[]⟩, ks⟩ HEd.out.ar HEd.out.kr) (fun k hk => ⟨hk.1, hk.2.2⟩) HEd.out.hr (Nat.ne_of_lt (Nat.lt_of_lt_of_le HEd.out.gl HEd.out.hr)) (Nat.le_trans HEd.out.g0 HEd.out.hr)
    | true =>
     rw [if_pos rfl] at H;obtain ⟨z, hz_, H⟩ := oB_ H;have HZ := A_ hz_;clear hz_;cases z with
     | true =>
      rw [if_pos rfl] at H;simp only [Option.some.injEq, Prod.mk.injEq] at H;obtain ⟨rfl, rfl, rfl, rfl⟩ := H;go_wp2_with (go_at_call 131; have HE6 := A_ ((HE5.out.name_ nm).at_ nx); clear HE5; clear he0 hf0 hz0 hy0 he1 hf1 hz1 hy1 he2 hf2 hz2 hy2 he3 hf3 hz3 hy3 he4 hf4 hz4 hy4 he5 hf5 hz5 hy5 hc0 hc1 hc2 hg1 hg2; (with_reducible refine (spec_l19Attrs.calls n g s1 nx true about at_ sp s3 p3 _ w0 _ HE6.out.st HE6.out.bl Ha.out).mono ?_); rintro e w7 ⟨v3, rfl, hs⟩; have HE7 := A_ (HE6.out.state hs.st hs.bl hs.kp); have HE8 := A_ ((HE6.out.attrs_ hs).space_ sp); obtain ⟨A3, c3, rfl⟩ := Kd.R_slice hs.nr; clear hs HE6; obtain ⟨he0, he1, he2, he3, he4, he5, hf0, hf1, hf2, hf3, hf4, hf5⟩ := bk6_ HE7.out.el; obtain ⟨hz0, hz1, hz2, hz3, hz4, hz5, hy0, hy1, hy2, hy3, hy4, hy5⟩ := bk6_ HE7.out.rs; have hc0 := cellS89_0 HE7.out.st.1; have hc1 := cellS89_1 HE7.out.st.1; have hc2 := cellS89_2 HE7.out.st.1; have hg1 := blk_frozen HE7.out.st.1 1; have hg2 := blk_frozen HE7.out.st.1 2)
      go_wp2
      go_quiet ((go_at_call 69; (refine (spec_l5Stands.calls s3 p3 ⟨#[47, 62]⟩ _ _ HZ.out).mono ?_); rintro r w' ⟨rfl, ⟨nd, rfl⟩⟩; exact ⟨rfl, _, World.drewN_drewN _ _ _⟩))
      generalize hW : World.drewN _ nq = wq;have HE9 : As9 (Sle w0 w wq g ge gr s3 p3 true sp nm (.slice A3 at_.length c3) (.slice none 0 0) at_ []) := ⟨by rw [← hW]; exact HE8.out.below (bN9 (Below.refl _ _) _)⟩;clear hW HE8 HE7;clear he0 hf0 hz0 hy0 he1 hf1 hz1 hy1 he2 hf2 hz2 hy2 he3 hf3 hz3 hy3 he4 hf4 hz4 hy4 he5 hf5 hz5 hy5 hc0 hc1 hc2 hg1 hg2;obtain ⟨he0, he1, he2, he3, he4, he5, hf0, hf1, hf2, hf3, hf4, hf5⟩ := bk6_ HE9.out.el;obtain ⟨hz0, hz1, hz2, hz3, hz4, hz5, hy0, hy1, hy2, hy3, hy4, hy5⟩ := bk6_ HE9.out.rs;have hc0 := cellS89_0 HE9.out.st.1;have hc1 := cellS89_1 HE9.out.st.1;have hc2 := cellS89_2 HE9.out.st.1;have hg1 := blk_frozen HE9.out.st.1 1;have hg2 := blk_frozen HE9.out.st.1 2;clear Ha cnb cni HZ;go_wp2
      have HZ := A_ (HE9.out.at_ (wrap64 (p3 + 2)));refine bodyPost_ret (results_single rfl (.cell gr 43 #[.int .i64 1, .int .i64 sp, .string nm, .slice A3 at_.length c3, .string ⟨#[]⟩, .slice none 0 0] (0, 0) _ rfl (blk_six HZ.out.rs _ _ _ _ _ _) hu rfl (by kernel_rfl) .nil)) rfl ?_;exact SEl_end (ok := (fun k_ => w.heap.size ≤ k_ ∧ k_ ≠ ge ∧ k_ ≠ gr)) HZ.out.st HZ.out.bl HZ.out.kp HZ.out.rs (k43_mkM _ _ _ ⟨1, sp, nm, at_, ⟨#[]⟩, []⟩ HZ.out.ar HZ.out.kr) (fun k hk => ⟨hk.1, hk.2.2⟩) HZ.out.hr (Nat.ne_of_lt (Nat.lt_of_lt_of_le HZ.out.gl HZ.out.hr)) (Nat.le_trans HZ.out.g0 HZ.out.hr)
     | false =>
      rw [if_neg si_] at H;go_wp2_with (go_at_call 131; have HE6 := A_ ((HE5.out.name_ nm).at_ nx); clear HE5; clear he0 hf0 hz0 hy0 he1 hf1 hz1 hy1 he2 hf2 hz2 hy2 he3 hf3 hz3 hy3 he4 hf4 hz4 hy4 he5 hf5 hz5 hy5 hc0 hc1 hc2 hg1 hg2; (with_reducible refine (spec_l19Attrs.calls n g s1 nx true about at_ sp s3 p3 _ w0 _ HE6.out.st HE6.out.bl Ha.out).mono ?_); rintro e w7 ⟨v3, rfl, hs⟩; have HE7 := A_ (HE6.out.state hs.st hs.bl hs.kp); have HE8 := A_ ((HE6.out.attrs_ hs).space_ sp); obtain ⟨A3, c3, rfl⟩ := Kd.R_slice hs.nr; clear hs HE6; obtain ⟨he0, he1, he2, he3, he4, he5, hf0, hf1, hf2, hf3, hf4, hf5⟩ := bk6_ HE7.out.el; obtain ⟨hz0, hz1, hz2, hz3, hz4, hz5, hy0, hy1, hy2, hy3, hy4, hy5⟩ := bk6_ HE7.out.rs; have hc0 := cellS89_0 HE7.out.st.1; have hc1 := cellS89_1 HE7.out.st.1; have hc2 := cellS89_2 HE7.out.st.1; have hg1 := blk_frozen HE7.out.st.1 1; have hg2 := blk_frozen HE7.out.st.1 2)
      go_wp2
      go_quiet ((go_at_call 69; (refine (spec_l5Stands.calls s3 p3 ⟨#[47, 62]⟩ _ _ HZ.out).mono ?_); rintro r w' ⟨rfl, ⟨nd, rfl⟩⟩; exact ⟨rfl, _, World.drewN_drewN _ _ _⟩))
      generalize hW : World.drewN _ nq = wq;have HE9 : As9 (Sle w0 w wq g ge gr s3 p3 true sp nm (.slice A3 at_.length c3) (.slice none 0 0) at_ []) := ⟨by rw [← hW]; exact HE8.out.below (bN9 (Below.refl _ _) _)⟩;clear hW HE8 HE7;clear he0 hf0 hz0 hy0 he1 hf1 hz1 hy1 he2 hf2 hz2 hy2 he3 hf3 hz3 hy3 he4 hf4 hz4 hy4 he5 hf5 hz5 hy5 hc0 hc1 hc2 hg1 hg2;obtain ⟨he0, he1, he2, he3, he4, he5, hf0, hf1, hf2, hf3, hf4, hf5⟩ := bk6_ HE9.out.el;obtain ⟨hz0, hz1, hz2, hz3, hz4, hz5, hy0, hy1, hy2, hy3, hy4, hy5⟩ := bk6_ HE9.out.rs;have hc0 := cellS89_0 HE9.out.st.1;have hc1 := cellS89_1 HE9.out.st.1;have hc2 := cellS89_2 HE9.out.st.1;have hg1 := blk_frozen HE9.out.st.1 1;have hg2 := blk_frozen HE9.out.st.1 2;clear Ha cnb cni HZ;cases n with
      | zero => simp [sRest] at H
      | succ m =>
      rw [sRest] at H;obtain ⟨⟨s5, p5, b5⟩, ht3, H⟩ := oB_ H;obtain ⟨⟨ks, s6, p6, b6⟩, hks, H⟩ := oB_ H;dsimp only at hks H;split at H
      case isFalse => cases H
      case isTrue hsz =>
      obtain ⟨⟨s7, p7, b7⟩, ht4, H⟩ := oB_ H;simp only [Option.some.injEq, Prod.mk.injEq] at H;obtain ⟨rfl, rfl, rfl, rfl⟩ := H;have Ht3 := A_ ht3;have Hks := A_ hks;have Ht4 := A_ ht4;have q1 : (9223372036854775807 < (⟨#[60, 47]⟩ : BA).size + nm.size) = False := eq_false (by have h2 : (⟨#[60, 47]⟩ : BA).size = 2 := rfl; omega);have q2 : (9223372036854775807 < (⟨#[60, 47]⟩ : BA).size + nm.size + (⟨#[62]⟩ : BA).size) = False := eq_false (by have h2 : (⟨#[60, 47]⟩ : BA).size = 2 := rfl; have h3 : (⟨#[62]⟩ : BA).size = 1 := rfl; omega);have q3 : (9223372036854775807 < 2 + nm.size) = False := eq_false om_;have q4 : (9223372036854775807 < 2 + nm.size + 1) = False := eq_false om_;clear ht3 hks ht4 hsz;go_wp2_with (first | (go_at_call 91; (with_reducible refine (spec_l19Take.calls g s3 p3 _ ⟨#[62]⟩ s5 p5 b5 w0 _ HE9.out.st HE9.out.bl Ht3.out).mono ?_); rintro e w10 ⟨rfl, hi, hb, hk⟩; have HEa := A_ (HE9.out.state hi hb hk); clear hi hb hk HE9; clear he0 hf0 hz0 hy0 he1 hf1 hz1 hy1 he2 hf2 hz2 hy2 he3 hf3 hz3 hy3 he4 hf4 hz4 hy4 he5 hf5 hz5 hy5 hc0 hc1 hc2 hg1 hg2; obtain ⟨he0, he1, he2, he3, he4, he5, hf0, hf1, hf2, hf3, hf4, hf5⟩ := bk6_ HEa.out.el; obtain ⟨hz0, hz1, hz2, hz3, hz4, hz5, hy0, hy1, hy2, hy3, hy4, hy5⟩ := bk6_ HEa.out.rs; have hc0 := cellS89_0 HEa.out.st.1; have hc1 := cellS89_1 HEa.out.st.1; have hc2 := cellS89_2 HEa.out.st.1; have hg1 := blk_frozen HEa.out.st.1 1; have hg2 := blk_frozen HEa.out.st.1 2) | (go_at_call 132; (with_reducible refine (hK_ m om_ g sp deep s5 p5 b5 ks s6 p6 b6 w0 _ HEa.out.st HEa.out.bl Hks.out).mono ?_); rintro e w11 ⟨v5, rfl, hs⟩; have HEb := A_ (HEa.out.state hs.st hs.bl hs.kp); have HEc := A_ (HEa.out.kids_ hs); obtain ⟨A5, c5, rfl⟩ := Kd.R_slice hs.nr; clear hs HEa; clear he0 hf0 hz0 hy0 he1 hf1 hz1 hy1 he2 hf2 hz2 hy2 he3 hf3 hz3 hy3 he4 hf4 hz4 hy4 he5 hf5 hz5 hy5 hc0 hc1 hc2 hg1 hg2; obtain ⟨he0, he1, he2, he3, he4, he5, hf0, hf1, hf2, hf3, hf4, hf5⟩ := bk6_ HEb.out.el; obtain ⟨hz0, hz1, hz2, hz3, hz4, hz5, hy0, hy1, hy2, hy3, hy4, hy5⟩ := bk6_ HEb.out.rs; have hc0 := cellS89_0 HEb.out.st.1; have hc1 := cellS89_1 HEb.out.st.1; have hc2 := cellS89_2 HEb.out.st.1; have hg1 := blk_frozen HEb.out.st.1 1; have hg2 := blk_frozen HEb.out.st.1 2) | (go_at_call 91; clear he0 hf0 hz0 hy0 he1 hf1 hz1 hy1 he2 hf2 hz2 hy2 he3 hf3 hz3 hy3 he4 hf4 hz4 hy4 he5 hf5 hz5 hy5 hc0 hc1 hc2 hg1 hg2; (with_reducible refine (spec_l19Take.calls g s6 p6 b6 ((⟨#[60, 47]⟩ ++ nm) ++ ⟨#[62]⟩) s7 p7 b7 w0 _ HEc.out.st HEc.out.bl Ht4.out).mono ?_); rintro e w12 ⟨rfl, hi, hb, hk⟩; have HEd := A_ (HEc.out.state hi hb hk); clear hi hb hk HEc; obtain ⟨he0, he1, he2, he3, he4, he5, hf0, hf1, hf2, hf3, hf4, hf5⟩ := bk6_ HEd.out.el; obtain ⟨hz0, hz1, hz2, hz3, hz4, hz5, hy0, hy1, hy2, hy3, hy4, hy5⟩ := bk6_ HEd.out.rs; have hc0 := cellS89_0 HEd.out.st.1; have hc1 := cellS89_1 HEd.out.st.1; have hc2 := cellS89_2 HEd.out.st.1; have hg1 := blk_frozen HEd.out.st.1 1; have hg2 := blk_frozen HEd.out.st.1 2))
      refine bodyPost_ret (results_single rfl (.cell gr 43 #[.int .i64 1, .int .i64 sp, .string nm, .slice A3 at_.length c3, .string ⟨#[]⟩, .slice A5 ks.length c5] (0, 0) _ rfl (blk_six HEd.out.rs _ _ _ _ _ _) hu rfl (by kernel_rfl) .nil)) rfl ?_;exact SEl_end (ok := (fun k_ => w.heap.size ≤ k_ ∧ k_ ≠ ge ∧ k_ ≠ gr)) HEd.out.st HEd.out.bl HEd.out.kp HEd.out.rs (k43_mkM _ _ _ ⟨1, sp, nm, at_, ⟨#[]⟩, ks⟩ HEd.out.ar HEd.out.kr) (fun k hk => ⟨hk.1, hk.2.2⟩) HEd.out.hr (Nat.ne_of_lt (Nat.lt_of_lt_of_le HEd.out.gl HEd.out.hr)) (Nat.le_trans HEd.out.g0 HEd.out.hr)
theorem sreader_all : ∀ k, SElC k ∧ SKidC k := by
 intro k;induction k using Nat.strongRecOn with
 | _ k ih =>
 refine ⟨?_, ?_⟩
 ·cases k with
  | zero => exact fun g about deep s p b r r2 r3 r4 w0 w _ _ h => by simp [sEl] at h
  | succ n => exact sel_step n (fun m hm => (ih m om_).2)
 ·exact skids_step k (fun m hm => (ih m hm).1)
def spec_l19El.f (k : Nat) (s : BA) (p : Int) (b : Bool) (about deep : Int) : Option (S43 × ByteArray × Int × Bool) := sEl k about deep s p b
theorem spec_l19El.mono : ∀ s p b about deep k, LeO (spec_l19El.f k s p b about deep) (spec_l19El.f (k + 1) s p b about deep) := fun _ _ _ _ _ k => (sEl_mono_all k).1 _ _ _ _ _
theorem spec_l19El.calls (k g : Nat) (about deep : Int) (s : BA) (p : Int) (b : Bool) (r : S43) (r2 : BA) (r3 : Int) (r4 : Bool) (w0 w : World) (hI : IsS89 w0 w g s p b) (hB : Below w0.heap.size w0 w) (h : spec_l19El.f k s p b about deep = some (r, r2, r3, r4)) :
  Calls Tryz.prog 84 #[.pointer (some ⟨g, 0, none⟩), .int .i64 about, .int .i64 deep] w (SElPost w0 w g r r2 r3 r4) := (sreader_all k).1 g about deep s p b r r2 r3 r4 w0 w hI hB h
mutual
def spec_ElDeep.l0 : Nat → Int → Int → Int → Int → ByteArray → List (S36) → ByteArray → List (S43) → Option (Int)
 | 0, _, _, _, _, _, _, _, _ => none
 | k + 1, x3, x4, x509000, x509001, x509002, x509003, x509004, x509005 => if x4 < (x509005.length : Int) then (if 0 ≤ x4 then ((spec_ElDeep.f k ((rd_T43 x509005 x4).f0) ((rd_T43 x509005 x4).f1) ((rd_T43 x509005 x4).f2) ((rd_T43 x509005 x4).f3) ((rd_T43 x509005 x4).f4) ((rd_T43 x509005 x4).f5)).bind fun t510 => ((spec_l1Max.f x3 t510).bind fun t511 => (spec_ElDeep.l0 k t511 (wrap64 (x4 + 1)) x509000 x509001 x509002 x509003 x509004 x509005))) else (none)) else (some (wrap64 (x3 + 1)))
def spec_ElDeep.f : Nat → Int → Int → ByteArray → List (S36) → ByteArray → List (S43) → Option (Int)
 | 0, _, _, _, _, _, _ => none
 | k + 1, a0_0, a0_1, a0_2, l0_3, a0_4, l0_5 => spec_ElDeep.l0 k 0 0 a0_0 a0_1 a0_2 l0_3 a0_4 l0_5
end
theorem spec_ElDeep.mono_l : ∀ k, (∀ y0 y1 y2 y3 y4 y5, LeO (spec_ElDeep.f k y0 y1 y2 y3 y4 y5) (spec_ElDeep.f (k + 1) y0 y1 y2 y3 y4 y5)) ∧ (∀ y0 y1 y2 y3 y4 y5 y6 y7, LeO (spec_ElDeep.l0 k y0 y1 y2 y3 y4 y5 y6 y7) (spec_ElDeep.l0 (k + 1) y0 y1 y2 y3 y4 y5 y6 y7))
 | 0 => ⟨fun _ _ _ _ _ _ r h => by simp [spec_ElDeep.f] at h, fun _ _ _ _ _ _ _ _ r h => by simp [spec_ElDeep.l0] at h⟩
 | k + 1 => by
  obtain ⟨ih0, ih1⟩ := spec_ElDeep.mono_l k;refine ⟨?_, ?_⟩
  ·intro y0 y1 y2 y3 y4 y5;unfold spec_ElDeep.f;with_reducible repeat' first | exact ih0 _ _ _ _ _ _ | exact ih1 _ _ _ _ _ _ _ _ | apply LeO.refl | apply LeO.none | apply LeO.ite | apply LeO.bind | intro
  ·intro y0 y1 y2 y3 y4 y5 y6 y7;unfold spec_ElDeep.l0;with_reducible repeat' first | exact ih0 _ _ _ _ _ _ | exact ih1 _ _ _ _ _ _ _ _ | apply LeO.refl | apply LeO.none | apply LeO.ite | apply LeO.bind | intro
theorem spec_ElDeep.mono : ∀ a0 a1 a2 a3 a4 a5 k, LeO (spec_ElDeep.f k a0 a1 a2 a3 a4 a5) (spec_ElDeep.f (k + 1) a0 a1 a2 a3 a4 a5) := by
 intro a0 a1 a2 a3 a4 a5 k;obtain ⟨ih0, ih1⟩ := spec_ElDeep.mono_l k;exact ih0 a0 a1 a2 a3 a4 a5
theorem spec_ElDeep.calls (k : Nat) : ∀ (a0_0 : Int) (a0_1 : Int) (a0_2 : BA) (A0_3 : Option Addr) (c0_3 : Nat) (l0_3 : List (S36)) (a0_4 : BA) (A0_5 : Option Addr) (c0_5 : Nat) (l0_5 : List (S43)) (r : Int) (w : World) (hr0_3 : Kd.C k36 w A0_3 l0_3.length l0_3) (hc0_3 : l0_3.length ≤ c0_3) (hr0_5 : Kd.C k43 w A0_5 l0_5.length l0_5) (hc0_5 : l0_5.length ≤ c0_5) (h : spec_ElDeep.f k a0_0 a0_1 a0_2 l0_3 a0_4 l0_5 = some r),
  Calls Tryz.prog 133 #[.agg #[.int .i64 a0_0, .int .i64 a0_1, .string a0_2, .slice A0_3 l0_3.length c0_3, .string a0_4, .slice A0_5 l0_5.length c0_5]] w fun e w' => e = .returned (.int .i64 r) ∧ Below w.heap.size w w' := by
 induction k using Nat.strongRecOn with
 | _ k ih =>
 intro a0_0 a0_1 a0_2 A0_3 c0_3 l0_3 a0_4 A0_5 c0_5 l0_5 r w hr0_3 hc0_3 hr0_5 hc0_5 h;cases k with
 | zero => exact absurd h (by simp [spec_ElDeep.f])
 | succ k =>
 simp only [spec_ElDeep.f] at h;have hu43 := Tryz.underlying43;have HR0_3 := A_ hr0_3;have HC0_3 := A_ hc0_3;clear hr0_3 hc0_3;have HR0_5 := A_ hr0_5;have HC0_5 := A_ hc0_5;clear hr0_5 hc0_5;have HB := A_ (Below.refl w.heap.size w);have H : (spec_ElDeep.l0 k 0 0 a0_0 a0_1 a0_2 l0_3 a0_4 l0_5) = some r := h;clear h;have H' := A_ H;clear H;go_enter Tryz.func133, Tryz.ntmps133
 go_wp2_with (first | ((with_reducible refine gate_dst (N := 1) rfl ?_); refine bE_ #[.int .i64 a0_0, .int .i64 a0_1, .string a0_2, .slice A0_3 l0_3.length c0_3, .string a0_4, .slice A0_5 l0_5.length c0_5] 43 ?_; intro gb508 hg w2 hbox hb; have BK508 := A_ (hbox); have GW508 := hs_ hg; have GE508 := hs_ hg; replace HB := bS_ hb; clear hb hbox hg))
 go_loopg [3, 4] k (fun kq v3 v4 w' => ∃ (x3_1 : Int) (x4_1 : Int), v3 = .int .i64 x3_1 ∧ v4 = .int .i64 x4_1 ∧ As9 (spec_ElDeep.l0 kq x3_1 x4_1 a0_0 a0_1 a0_2 l0_3 a0_4 l0_5 = some r) ∧ As9 (kq ≤ k) ∧ As9 (w'.heap[gb508]? = some (.cells #[.int .i64 a0_0, .int .i64 a0_1, .string a0_2, (.slice A0_3 l0_3.length c0_3), .string a0_4, (.slice A0_5 l0_5.length c0_5)] 43 (0, 0))) ∧ As9 (Below w.heap.size w w'))
 case atStart => exact ⟨(0), (0), e2_, e2_, H', ⟨Nat.le_refl _⟩, ⟨blk_below BK508.out hR_⟩, ⟨hB_⟩⟩
 case round =>
  clear H';try clear c1
  try clear p2
  obtain ⟨x3_1, x4_1, rfl, rfl, HA, HK1, BK508, HB⟩ := hrel;cases gk with
  | zero => exact absurd HA.out (by simp [spec_ElDeep.l0])
  | succ k1 =>
   have H := HA.out;clear HA;simp only [spec_ElDeep.l0] at H;rcases ic_ H with ⟨c3, H⟩ | ⟨c3, H⟩
   ·have c3b0 := dE_ c3;clear c3;obtain ⟨c4, H⟩ := ifn_ H;have c4b0 := dE_ c4;clear c4;obtain ⟨t510, A5, H⟩ := ob_ H;obtain ⟨t511, A6, H⟩ := ob_ H;(try dsimp only at H)
    have H' := A_ H;clear H;obtain ⟨hcz7_0, hcz7_1, hcz7_2, hcz7_3, hcz7_4, hcz7_5, hfz7_0, hfz7_1, hfz7_2, hfz7_3, hfz7_4, hfz7_5⟩ := bk6_ BK508.out;obtain ⟨p509, q509, ad509, A509_3, c509_3, A509_5, c509_5, e509, hx509_0, hx509_1, hx509_2, hx509_3, hx509_4, hx509_5, HC509_3, HR509_3, HC509_5, HR509_5⟩ := aB43_ HB.out HR0_5.out x4_1;cases e509;go_wp2_with (first | ((with_reducible refine gC_ 133 ?_); refine gL_ 18 Tryz.func133 #[.agg #[.int .i64 ((rd_T43 l0_5 x4_1).f0), .int .i64 ((rd_T43 l0_5 x4_1).f1), .string ((rd_T43 l0_5 x4_1).f2), .slice A509_3 ((rd_T43 l0_5 x4_1).f3).length c509_3, .string ((rd_T43 l0_5 x4_1).f4), .slice A509_5 ((rd_T43 l0_5 x4_1).f5).length c509_5]] ?_; (with_reducible refine (ih k1 (by have := HK1.out; omega) ((rd_T43 l0_5 x4_1).f0) ((rd_T43 l0_5 x4_1).f1) ((rd_T43 l0_5 x4_1).f2) _ _ ((rd_T43 l0_5 x4_1).f3) ((rd_T43 l0_5 x4_1).f4) _ _ ((rd_T43 l0_5 x4_1).f5) t510 _ ?side1 ?side2 ?side3 ?side4 A5.out).mono ?_); (case side1 => exact Kd.C_below HR509_3.out hB_); (case side2 => exact HC509_3.out); (case side3 => exact Kd.C_below HR509_5.out hB_); (case side4 => exact HC509_5.out); rintro e w8 ⟨rfl, hb⟩; refine ⟨_, rfl, ?_⟩; replace BK508 := A_ (blk_below (g := gb508) (o := .cells #[.int .i64 a0_0, .int .i64 a0_1, .string a0_2, .slice A0_3 l0_3.length c0_3, .string a0_4, .slice (some ad509) l0_5.length c0_5] 43 (0, 0)) (blk_below BK508.out hR_) hb); replace HB := bS_ hb; clear hb) | ((with_reducible refine gC_ 92 ?_); refine gL_ 19 Tryz.func92 #[.int .i64 x3_1, .int .i64 t510] ?_; refine dm_ (spec_l1Max.calls x3_1 t510 t511 _ A6.out) fun nd => ?_))
    go_roundg k1
    case measure => have := HK1.out; omega
    case rel => exact ⟨(t511), (wrap64 (x4_1 + 1)), e2_, e2_, H', ⟨by have := HK1.out; omega⟩, ⟨blk_below BK508.out hR_⟩, ⟨hB_⟩⟩
   ·have c3b0 := dF_ c3;clear c3;obtain rfl := sI_ H;obtain ⟨hcz9_0, hcz9_1, hcz9_2, hcz9_3, hcz9_4, hcz9_5, hfz9_0, hfz9_1, hfz9_2, hfz9_3, hfz9_4, hfz9_5⟩ := bk6_ BK508.out;go_wp2
    go_ret
    exact ⟨e1_, hB_⟩
def spec_NameOk.l0 : Nat → ByteArray → List Int → Int → Option (Bool)
 | 0, _, _, _ => none
 | k + 1, x0, x3, x4 => if x4 < (x3.length : Int) then (if x4 = 0 then (if 0 ≤ x4 then ((spec_IsFirst.f k (rd x3 x4)).bind fun t517 => (if t517 = true then ((spec_IsNext.f k (rd x3 x4)).bind fun t519 => (if t519 = true then (spec_NameOk.l0 k x0 x3 (wrap64 (x4 + 1))) else (some false))) else (some false))) else (none)) else (if 0 ≤ x4 then ((spec_IsNext.f k (rd x3 x4)).bind fun t521 => (if t521 = true then (spec_NameOk.l0 k x0 x3 (wrap64 (x4 + 1))) else (some false))) else (none))) else (if x0.toList = ([] : List UInt8) then (some false) else ((spec_CleanOk.f k x0).bind fun t515 => (some t515)))
def spec_NameOk.f (k : Nat) (a0 : BA) : Option (Bool) := (spec_Signs.f k a0).bind fun t512 => (spec_NameOk.l0 k a0 t512 0)
theorem spec_NameOk.mono_l : ∀ k, (∀ y0 y1 y2, LeO (spec_NameOk.l0 k y0 y1 y2) (spec_NameOk.l0 (k + 1) y0 y1 y2))
 | 0 => fun _ _ _ r h => by simp [spec_NameOk.l0] at h
 | k + 1 => by
  have ih0 := spec_NameOk.mono_l k
  ·intro y0 y1 y2;unfold spec_NameOk.l0;with_reducible repeat' first | exact ih0 _ _ _ | exact spec_CleanOk.mono _ _ | exact spec_IsFirst.mono _ _ | exact spec_IsNext.mono _ _ | exact spec_Signs.mono _ _ | apply LeO.refl | apply LeO.none | apply LeO.ite | apply LeO.bind | intro
theorem spec_NameOk.mono : ∀ a0 k, LeO (spec_NameOk.f k a0) (spec_NameOk.f (k + 1) a0) := by
 intro a0 k;have ih0 := spec_NameOk.mono_l k;unfold spec_NameOk.f;with_reducible repeat' first | exact ih0 _ _ _ | exact spec_CleanOk.mono _ _ | exact spec_IsFirst.mono _ _ | exact spec_IsNext.mono _ _ | exact spec_Signs.mono _ _ | apply LeO.refl | apply LeO.none | apply LeO.ite | apply LeO.bind | intro
theorem spec_NameOk.calls (k : Nat) (a0 : BA) (r : Bool) (w : World) (h : spec_NameOk.f k a0 = some r) :
  Calls Tryz.prog 170 #[.string a0] w fun e w' => e = .returned (.bool r) ∧ Below w.heap.size w w' := by
 have HB := A_ (Below.refl w.heap.size w);have H : ((spec_Signs.f k a0).bind fun t512 => (spec_NameOk.l0 k a0 t512 0)) = some r := h;clear h;obtain ⟨t512, A2, H⟩ := ob_ H;(try dsimp only at H)
 have H' := A_ H;clear H;go_enter Tryz.func170, Tryz.ntmps170
 go_wp2_with (first | ((with_reducible refine gC_ 165 ?_); refine gL_ 6 Tryz.func165 #[.string a0] ?_; (with_reducible refine (spec_Signs.calls k a0 t512 _ A2.out).mono ?_); rintro e w3 ⟨v513, rfl, ho0, hb⟩; refine ⟨_, rfl, ?_⟩; have HO514 := A_ (Kd.R_lower ho0 (below_size hB_)); replace HB := bS_ hb; clear hb; (try clear ho0)))
 go_loopg [4] k (fun kq v4 w' => ∃ (x4_1 : Int), v4 = .int .i64 x4_1 ∧ As9 (spec_NameOk.l0 kq a0 t512 x4_1 = some r) ∧ As9 (kq ≤ k) ∧ As9 (Kd.R (Kd.int .i64) 3 w' w.heap.size (fun _ => True) v513 t512) ∧ As9 (Below w.heap.size w w'))
 case atStart => exact ⟨(0), e2_, H', ⟨Nat.le_refl _⟩, ⟨kQ_ HO514.out⟩, ⟨hB_⟩⟩
 case round =>
  clear H';try clear c1
  try clear p2
  obtain ⟨x4_1, rfl, HA, HK1, HO_3, HB⟩ := hrel;cases gk with
  | zero => exact absurd HA.out (by simp [spec_NameOk.l0])
  | succ k1 =>
   have H := HA.out;clear HA;simp only [spec_NameOk.l0] at H;rcases ic_ H with ⟨c4, H⟩ | ⟨c4, H⟩
   ·have c4b0 := dE_ c4;clear c4;rcases ic_ H with ⟨c5, H⟩ | ⟨c5, H⟩
    ·obtain ⟨c5b0, c5b1⟩ := be_ c5;clear c5;obtain ⟨c6, H⟩ := ifn_ H;have c6b0 := dE_ c6;clear c6;obtain ⟨t517, A7, H⟩ := ob_ H;(try dsimp only at H)
     by_cases c8 : t517 = true
     ·subst c8;rw [if_pos rfl] at H;obtain ⟨t519, A9, H⟩ := ob_ H;(try dsimp only at H)
      by_cases c10 : t519 = true
      ·subst c10;rw [if_pos rfl] at H;have H' := A_ H;clear H;obtain ⟨Ao11, co11, eo11⟩ := Kd.R_slice HO_3.out;subst eo11;have p516 : 0 ≤ (x4_1 : Int) := dT_;have q516 : x4_1 < (t512.length : Int) := dT_;obtain ⟨ad516, e516, hx516_0⟩ := Kd.at_int (Kd.R_reads' HO_3.out).2.2 x4_1 p516 q516;cases e516;replace p516 := eq_true p516;replace q516 := eq_true q516;go_wp2_with (first | (go_at_call 59; (with_reducible refine (spec_IsFirst.calls k1 (rd t512 x4_1) true _ A7.out).mono ?_); rintro e w12 ⟨rfl, hb⟩; replace HO_3 := A_ (Kd.R_below (kQ_ HO_3.out) hb); replace HB := bS_ hb; clear hb; have p518 : 0 ≤ (x4_1 : Int) := dT_; have q518 : x4_1 < (t512.length : Int) := dT_; obtain ⟨ad518, e518, hx518_0⟩ := Kd.at_int (Kd.R_reads' HO_3.out).2.2 x4_1 p518 q518; obtain rfl : ad516 = ad518 := (by injection e518); replace p518 := eq_true p518; replace q518 := eq_true q518) | (go_at_call 60; (with_reducible refine (spec_IsNext.calls k1 (rd t512 x4_1) true _ A9.out).mono ?_); rintro e w13 ⟨rfl, hb⟩; replace HO_3 := A_ (Kd.R_below (kQ_ HO_3.out) hb); replace HB := bS_ hb; clear hb))
       go_roundg k1
       case measure => have := HK1.out; omega
       case rel => exact ⟨(wrap64 (x4_1 + 1)), e2_, H', ⟨by have := HK1.out; omega⟩, ⟨kQ_ HO_3.out⟩, ⟨hB_⟩⟩
      ·replace c10 := bF_ c10;subst c10;rw [if_neg nF_] at H;obtain rfl := sI_ H;obtain ⟨Ao14, co14, eo14⟩ := Kd.R_slice HO_3.out;subst eo14;have p516 : 0 ≤ (x4_1 : Int) := dT_;have q516 : x4_1 < (t512.length : Int) := dT_;obtain ⟨ad516, e516, hx516_0⟩ := Kd.at_int (Kd.R_reads' HO_3.out).2.2 x4_1 p516 q516;cases e516;replace p516 := eq_true p516;replace q516 := eq_true q516;go_wp2_with (first | (go_at_call 59; (with_reducible refine (spec_IsFirst.calls k1 (rd t512 x4_1) true _ A7.out).mono ?_); rintro e w15 ⟨rfl, hb⟩; replace HO_3 := A_ (Kd.R_below (kQ_ HO_3.out) hb); replace HB := bS_ hb; clear hb; have p518 : 0 ≤ (x4_1 : Int) := dT_; have q518 : x4_1 < (t512.length : Int) := dT_; obtain ⟨ad518, e518, hx518_0⟩ := Kd.at_int (Kd.R_reads' HO_3.out).2.2 x4_1 p518 q518; obtain rfl : ad516 = ad518 := (by injection e518); replace p518 := eq_true p518; replace q518 := eq_true q518) | (go_at_call 60; (with_reducible refine (spec_IsNext.calls k1 (rd t512 x4_1) false _ A9.out).mono ?_); rintro e w16 ⟨rfl, hb⟩; replace HO_3 := A_ (Kd.R_below (kQ_ HO_3.out) hb); replace HB := bS_ hb; clear hb))
       go_ret
       exact ⟨e1_, hB_⟩
     ·replace c8 := bF_ c8;subst c8;rw [if_neg nF_] at H;obtain rfl := sI_ H;obtain ⟨Ao17, co17, eo17⟩ := Kd.R_slice HO_3.out;subst eo17;have p516 : 0 ≤ (x4_1 : Int) := dT_;have q516 : x4_1 < (t512.length : Int) := dT_;obtain ⟨ad516, e516, hx516_0⟩ := Kd.at_int (Kd.R_reads' HO_3.out).2.2 x4_1 p516 q516;cases e516;replace p516 := eq_true p516;replace q516 := eq_true q516;go_wp2_with (first | (go_at_call 59; (with_reducible refine (spec_IsFirst.calls k1 (rd t512 x4_1) false _ A7.out).mono ?_); rintro e w18 ⟨rfl, hb⟩; replace HO_3 := A_ (Kd.R_below (kQ_ HO_3.out) hb); replace HB := bS_ hb; clear hb))
      go_ret
      exact ⟨e1_, hB_⟩
    ·obtain ⟨c5b0, c5b1⟩ := bn_ c5;obtain ⟨c19, H⟩ := ifn_ H;have c19b0 := dE_ c19;clear c19;obtain ⟨t521, A20, H⟩ := ob_ H;(try dsimp only at H)
     by_cases c21 : t521 = true
     ·subst c21;rw [if_pos rfl] at H;have H' := A_ H;clear H;obtain ⟨Ao22, co22, eo22⟩ := Kd.R_slice HO_3.out;subst eo22;have p520 : 0 ≤ (x4_1 : Int) := dT_;have q520 : x4_1 < (t512.length : Int) := dT_;obtain ⟨ad520, e520, hx520_0⟩ := Kd.at_int (Kd.R_reads' HO_3.out).2.2 x4_1 p520 q520;cases e520;replace p520 := eq_true p520;replace q520 := eq_true q520;go_wp2_with (first | (go_at_call 60; (with_reducible refine (spec_IsNext.calls k1 (rd t512 x4_1) true _ A20.out).mono ?_); rintro e w23 ⟨rfl, hb⟩; replace HO_3 := A_ (Kd.R_below (kQ_ HO_3.out) hb); replace HB := bS_ hb; clear hb))
      go_roundg k1
      case measure => have := HK1.out; omega
      case rel => exact ⟨(wrap64 (x4_1 + 1)), e2_, H', ⟨by have := HK1.out; omega⟩, ⟨kQ_ HO_3.out⟩, ⟨hB_⟩⟩
     ·replace c21 := bF_ c21;subst c21;rw [if_neg nF_] at H;obtain rfl := sI_ H;obtain ⟨Ao24, co24, eo24⟩ := Kd.R_slice HO_3.out;subst eo24;have p520 : 0 ≤ (x4_1 : Int) := dT_;have q520 : x4_1 < (t512.length : Int) := dT_;obtain ⟨ad520, e520, hx520_0⟩ := Kd.at_int (Kd.R_reads' HO_3.out).2.2 x4_1 p520 q520;cases e520;replace p520 := eq_true p520;replace q520 := eq_true q520;go_wp2_with (first | (go_at_call 60; (with_reducible refine (spec_IsNext.calls k1 (rd t512 x4_1) false _ A20.out).mono ?_); rintro e w25 ⟨rfl, hb⟩; replace HO_3 := A_ (Kd.R_below (kQ_ HO_3.out) hb); replace HB := bS_ hb; clear hb))
      go_ret
      exact ⟨e1_, hB_⟩
   ·have c4b0 := dF_ c4;clear c4;rcases ic_ H with ⟨c26, H⟩ | ⟨c26, H⟩
    ·obtain ⟨c26b0, c26b1⟩ := be_ c26;clear c26;obtain rfl := sI_ H;obtain ⟨Ao27, co27, eo27⟩ := Kd.R_slice HO_3.out;subst eo27;go_wp2
     go_ret
     exact ⟨e1_, hB_⟩
    ·obtain ⟨c26b0, c26b1⟩ := bn_ c26;obtain ⟨t515, A28, H⟩ := ob_ H;obtain rfl := sI_ H;obtain ⟨Ao29, co29, eo29⟩ := Kd.R_slice HO_3.out;subst eo29;go_wp2_with (first | (go_at_call 166; (with_reducible refine (spec_CleanOk.calls k1 a0 t515 _ A28.out).mono ?_); rintro e w30 ⟨rfl, hb⟩; replace HO_3 := A_ (Kd.R_below (kQ_ HO_3.out) hb); replace HB := bS_ hb; clear hb))
     go_ret
     exact ⟨e1_, hB_⟩
end Go.Proofs.YtkmmoheeoblmnaaGreatDoor.A
