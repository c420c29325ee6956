-- joined by wip/tools/shake.py
import Derived.Test.YtkmmoheeoblmnaaGreatDoorVReTW9
import Derived.Test.YtkmmoheeoblmnaaGreatDoorMReT0
import Derived.Test.YtkmmoheeoblmnaaGreatDoorMReT1
set_option maxHeartbeats 16000000
set_option maxRecDepth 100000
namespace Go.Proofs.YtkmmoheeoblmnaaGreatDoor.A
open Go.RowKit Go.Proofs.YtkmmoheeoblmnaaGreatDoorW.PrintWords Go.Proofs.YtkmmoheeoblmnaaGreatDoorW.PrintLast Go.Proofs.YtkmmoheeoblmnaaGreatDoorW.PrintMore
attribute [local go_sem] max2_int min2_int max_two min_two max_three min_three max_four min_four
set_option linter.unusedVariables false
set_option linter.unusedSimpArgs false
section
variable {P : Program} {ops : Array Oper} {o : Oper} {a : Act} {Q : Exit → Act → World → Prop} {Kc : Act → World → Prop}
theorem put_step {W : World} (hw : Region.wanted o (yielded ops a.tmps) = true) (hN : o.dst = none) (t : TypeId) (p x : Operand) (ho : o.op = .store t p x) {g o' : Nat} {u : Value} {seg : List Value} {cur : Array Value} {e : TypeId}
  (haddr : a.eval p = .pointer (some ⟨g, o', none⟩)) (hx : a.eval x = u) (hu : u.cells.toList = seg) (ht : (P.info? t).map (·.size) = some seg.length) (hh : W.heap[g]? = some (.cells cur e (0, 0))) (hl : o' + seg.length ≤ cur.size) (h1 : ∀ q ∈ seg, q.oneCell' = true)
  (h : Kc a (W.setCells g o' seg)) : if Region.wanted o (yielded ops a.tmps) = true then Oper.wp P o a W Kc Q else Kc (a.put none undef) W := by
 rw [if_pos hw];have hrun : (Instr.storeAt t (.pointer (some ⟨g, o', none⟩)) u).run P W = .ok () (W.setCells g o' seg) := run_store_run t u seg hh hu ht hl h1;unfold Oper.wp execOp;simp only [ho, haddr, hx, Sem.run_bind, Sem.run_pure, Result.andThen_ok, hrun];show Kc (a.put o.dst undef) _;rw [hN];exact h
theorem put_step2 {W : World} (hw : Region.wanted o (yielded ops a.tmps) = true) (hN : o.dst = none) (t : TypeId) (p x : Operand) (ho : o.op = .store t p x) {g : Nat} {u0 u1 a0 a1 : Value} {e : TypeId}
  (haddr : a.eval p = .pointer (some ⟨g, 0, none⟩)) (hx : a.eval x = .agg #[u0, u1]) (ht : (P.info? t).map (·.size) = some 2) (hh : W.heap[g]? = some (.cells #[a0, a1] e (0, 0))) (h0 : u0.oneCell' = true) (h1 : u1.oneCell' = true)
  (h : Kc a ((W.setCell ⟨g, 0, none⟩ u0).setCell ⟨g, 1, none⟩ u1)) : if Region.wanted o (yielded ops a.tmps) = true then Oper.wp P o a W Kc Q else Kc (a.put none undef) W :=
 put_step hw hN t p x ho haddr hx (seg := [u0, u1]) rfl ht hh si_ (by intro q hq; simp at hq; rcases hq with rfl | rfl <;> assumption) h
theorem put_step6 {W : World} (hw : Region.wanted o (yielded ops a.tmps) = true) (hN : o.dst = none) (t : TypeId) (p x : Operand) (ho : o.op = .store t p x) {g : Nat} {u0 u1 u2 u3 u4 u5 a0 a1 a2 a3 a4 a5 : Value} {e : TypeId}
  (haddr : a.eval p = .pointer (some ⟨g, 0, none⟩)) (hx : a.eval x = .agg #[u0, u1, u2, u3, u4, u5]) (ht : (P.info? t).map (·.size) = some 6) (hh : W.heap[g]? = some (.cells #[a0, a1, a2, a3, a4, a5] e (0, 0))) (h1 : ∀ q ∈ [u0, u1, u2, u3, u4, u5], q.oneCell' = true)
  (h : Kc a ((((((W.setCell ⟨g, 0, none⟩ u0).setCell ⟨g, 1, none⟩ u1).setCell ⟨g, 2, none⟩ u2).setCell ⟨g, 3, none⟩ u3).setCell ⟨g, 4, none⟩ u4).setCell ⟨g, 5, none⟩ u5)) : if Region.wanted o (yielded ops a.tmps) = true then Oper.wp P o a W Kc Q else Kc (a.put none undef) W :=
 put_step hw hN t p x ho haddr hx (seg := [u0, u1, u2, u3, u4, u5]) rfl ht hh si_ h1 h
theorem put_step1 {W : World} (hw : Region.wanted o (yielded ops a.tmps) = true) (hN : o.dst = none) (t : TypeId) (p x : Operand) (ho : o.op = .store t p x) {g j : Nat} {u : Value} {cur : Array Value} {e : TypeId}
  (haddr : a.eval p = .pointer (some ⟨g, j, none⟩)) (hx : a.eval x = u) (hu : u.cells.toList = [u]) (ht : (P.info? t).map (·.size) = some 1) (hh : W.heap[g]? = some (.cells cur e (0, 0))) (hj : j + 1 ≤ cur.size) (h1 : u.oneCell' = true)
  (h : Kc a (W.setCell ⟨g, j, none⟩ u)) : if Region.wanted o (yielded ops a.tmps) = true then Oper.wp P o a W Kc Q else Kc (a.put none undef) W :=
 put_step hw hN t p x ho haddr hx (seg := [u]) hu ht hh hj (by intro q hq; simp at hq; rw [hq]; exact h1) h
end
theorem blk_two {w : World} {g : Nat} {t : TypeId} {a0 a1 : Value} (h : w.heap[g]? = some (.cells #[a0, a1] t (0, 0))) (u0 u1 : Value) :
  ((w.setCell ⟨g, 0, none⟩ u0).setCell ⟨g, 1, none⟩ u1).heap[g]? = some (.cells #[u0, u1] t (0, 0)) := blk_put (blk_put h 0 u0 rfl) 1 u1 rfl
theorem st_two {w0 w : World} {g gx : Nat} {s : BA} {p : Int} {b : Bool} (h : IsS93 w0 w g s p b) (hne : g ≠ gx) (u0 u1 : Value) :
  IsS93 w0 ((w.setCell ⟨gx, 0, none⟩ u0).setCell ⟨gx, 1, none⟩ u1) g s p b := (h.far (p := ⟨gx, 0, none⟩) hne u0).far (p := ⟨gx, 1, none⟩) hne u1
theorem below_two {w0 w : World} {gx : Nat} (h : Below w0.heap.size w0 w) (hg : w0.heap.size ≤ gx) (u0 u1 : Value) :
  Below w0.heap.size w0 ((w.setCell ⟨gx, 0, none⟩ u0).setCell ⟨gx, 1, none⟩ u1) := below_set (below_set h hg) hg
theorem keep_two {w W : World} {g gx : Nat} (h : KeepBut w W g none) (hg : w.heap.size ≤ gx) (u0 u1 : Value) :
  KeepBut w ((W.setCell ⟨gx, 0, none⟩ u0).setCell ⟨gx, 1, none⟩ u1) g none := keep_far (p := ⟨gx, 1, none⟩) (keep_far (p := ⟨gx, 0, none⟩) h hg u0) hg u1
def impl_reader_attr.f (k : Nat) (s : BA) (p : Int) (b : Bool) : Option (ByteArray × ByteArray × ByteArray × Int × Bool) :=
 if b = true then some (⟨#[]⟩, ⟨#[]⟩, s, p, true) else (impl_XmlAttr.f k s p).bind fun q => if q.2.2 < 0 then some (⟨#[]⟩, ⟨#[]⟩, s, p, true) else some (q.1, q.2.1, s, q.2.2, false)
theorem impl_reader_attr.mono : ∀ s p b k, LeO (impl_reader_attr.f k s p b) (impl_reader_attr.f (k + 1) s p b) := fun s p b k => LeO.ite (LeO.refl _) (LeO.bind (impl_XmlAttr.mono _ _ _) (fun _ => LeO.refl _))
theorem impl_reader_attr.calls (k : Nat) (g : Nat) (s : BA) (p : Int) (b : Bool) (r0 r1 r2 : BA) (r3 : Int) (r4 : Bool) (w0 w : World) (hI : IsS93 w0 w g s p b) (hB : Below w0.heap.size w0 w) (hL : LibOk w0) (hE : LibErr w0) (h : impl_reader_attr.f k s p b = some (r0, r1, r2, r3, r4)) :
  Calls Tryz.prog 172 #[.pointer (some ⟨g, 0, none⟩)] w fun e w' => e = .returned (.agg #[.string r0, .string r1]) ∧ IsS93 w0 w' g r2 r3 r4 ∧ Below w0.heap.size w0 w' ∧ KeepBut w w' g none := by
 unfold impl_reader_attr.f at h;have hu := Tryz.underlying36;have HH := A_ h;have HLL := A_ hL;have HEE := A_ hE;clear h hL hE;obtain ⟨W1, hW1⟩ : ∃ W1, W1 = w.alloc (.cells #[.string ⟨#[]⟩, .string ⟨#[]⟩] 36) := ⟨_, rfl⟩;have HI0 : As9 (IsS93 w0 W1 g s p b) := ⟨by rw [hW1]; exact hI.alloc _⟩;have HB0 : As9 (Below w0.heap.size w0 W1) := ⟨by rw [hW1]; exact bA9 hB _⟩;have HK0 : As9 (KeepBut w W1 g none) := ⟨by rw [hW1]; exact keep_alloc (KeepBut.refl w g none) _⟩;have HX0 : As9 (W1.heap[w.heap.size]? = some (.cells #[.string ⟨#[]⟩, .string ⟨#[]⟩] 36 (0, 0))) := ⟨by rw [hW1]; exact heap_alloc_new w _⟩;have HZ0 : As9 (w.heap.size < W1.heap.size) := ⟨by rw [hW1]; exact blk_lt (heap_alloc_new w _)⟩;obtain ⟨gx, hgx⟩ : ∃ gx, gx = w.heap.size := ⟨_, rfl⟩;rw [← hgx] at HX0 HZ0;have HGX : As9 (gx = w.heap.size ∧ g < gx) := ⟨hgx, by rw [hgx]; exact hI.lt⟩;have hne1 : (g = gx) = False := eq_false (Nat.ne_of_lt HGX.out.2);have hne2 : (gx = g) = False := eq_false (Nat.ne_of_gt HGX.out.2);obtain ⟨HG, hge⟩ := HI0.out;have hc0 := cellS93_0 HG;have hc1 := cellS93_1 HG;have hc2 := cellS93_2 HG;obtain ⟨hz0, hz1, hy0, hy1⟩ := bk2_ HX0.out;have hW2 : W1.heap.size = W1.heap.size := rfl;clear HG hge hB hI hW2;have hd2 : (w.alloc (.cells #[.string ⟨#[]⟩, .string ⟨#[]⟩] 36)).cell? ⟨g, 2, none⟩ = some (.bool b) := by rw [← hW1]; exact hc2
 go_enter Tryz.func172, Tryz.ntmps172
 cases b with
 | true =>
  have h := HH.out;rw [if_pos rfl] at h;simp only [Option.some.injEq, Prod.mk.injEq] at h;obtain ⟨rfl, rfl, rfl, rfl, rfl⟩ := h;go_wp2
  rw [← hW1, ← hgx];clear hW1 hgx;go_wp2
  refine bodyPost_ret (results_single rfl (.cell gx 36 #[.string ⟨#[]⟩, .string ⟨#[]⟩] (0, 0) _ rfl HX0.out hu rfl (by kernel_rfl) .nil)) rfl ?_;exact ⟨rfl, HI0.out, HB0.out, HK0.out⟩
 | false =>
  have h := HH.out;rw [if_neg si_] at h;obtain ⟨q, hq, h⟩ := oB_ h;have HQ := A_ hq;have H1 := A_ h;have HI1 : As9 (IsS93 w0 W1.drew g s p false) := ⟨HI0.out.drew⟩;have HB1 : As9 (Below w0.heap.size w0 W1.drew) := ⟨below_drew HB0.out⟩;have HK1 : As9 (KeepBut w W1.drew g none) := ⟨keep_drew HK0.out⟩;have HX1 : As9 (W1.drew.heap[gx]? = some (.cells #[.string ⟨#[]⟩, .string ⟨#[]⟩] 36 (0, 0))) := ⟨HX0.out⟩;have HZ1 : As9 (gx < W1.drew.heap.size) := ⟨HZ0.out⟩;clear h hq HH HI0 HB0 HK0 HX0 HZ0;go_wp2
  rw [← hW1, ← hgx];clear hW1 hgx;go_wp2
  clear hz0 hz1 hy0 hy1 hc2 hd2;refine start_ (n := 15) (S := fun w' => w'.cell? ⟨g, 0, none⟩ = some (.string s) ∧ w'.cell? ⟨g, 1, none⟩ = some (.int .i64 p)) (ds := [13]) (tS 15 0) (by kernel_rfl) rfl rfl ⟨hc0, hc1⟩ (fun hHeld => ?_);generalize World.drew _ = wr0 at HI1 HB1 HK1 HX1 HZ1 hHeld ⊢;iterate 3 refine pq_ ?_
  refine pg_ 4 (tB 15 23) ?_;refine pg_ 5 (tB 15 55) ?_;refine pg_ 6 (tB 15 119) ?_;refine tg_ 3 (tS 15 7) rfl (by rintro w' ⟨s0, s1⟩; go_simp; with_reducible rfl) ?_;refine tq_ rfl (by rintro w' ⟨s0, s1⟩; go_simp; with_reducible rfl) ?_;refine two_ (i := 8) (j := 12) (Ni := some 19) (Nj := some 3) (tS 15 9) (tB 15 4351) rfl rfl rfl rfl (by kernel_rfl) de_ de_ (fun K hK => ?_) (fun K hK => ?_)
  ·skip
   refine gS_ Tryz.func25 #[.string s, .int .i64 p] ?_;with_reducible refine (impl_XmlAttr.calls k s p q.1 q.2.1 q.2.2 _ (HLL.out.below HB1.out) (HEE.out.below HB1.out) HQ.out).mono ?_
   rintro e wr8 ⟨rfl, hb⟩;refine ⟨_, rfl, ?_⟩;have n1_ := A_ (HI1.out.below hb);have n2_ := A_ (below_step HB1.out hb);have n3_ := A_ (HK1.out.trans (KeepBut.of_below hb g none) (.inl rfl));have n4_ := A_ (blk_below HX1.out hb);have n5_ := A_ (Nat.lt_of_lt_of_le HZ1.out hb.size);(try (have n6_ := A_ (blk_below HA.out hb); clear HA; have HA := n6_; clear n6_))
   clear hb HI1 HB1 HK1 HX1 HZ1;have HI1 := n1_;have HB1 := n2_;have HK1 := n3_;have HX1 := n4_;have HZ1 := n5_;clear n1_ n2_ n3_ n4_ n5_;refine hK.out _ _ ⟨cellS93_0 HI1.out.1, cellS93_1 HI1.out.1⟩ (fun hHeld => ?_);clear hK K;refine nm_ ?_;iterate 3 refine pq_ ?_
   refine n1_ 12 (tS 15 13) rfl fun K hK => ?_
   refine box_step ?hg (N := 3) ?hd (cs := #[.string ⟨#[]⟩, .string ⟨#[]⟩]) (t := 36) ?hr ?_; (case hd => rfl); (case hg => rfl); (case hr => first | (go_simp; done) | (go_simp; rfl));intro ga hga wr12 hbox hb;have HGA := A_ (show gx < ga from by rw [hga]; exact HZ1.out);have HA := A_ hbox;have n1_ := A_ (HI1.out.below hb);have n2_ := A_ (below_step HB1.out hb);have n3_ := A_ (HK1.out.trans (KeepBut.of_below hb g none) (.inl rfl));have n4_ := A_ (blk_below HX1.out hb);have n5_ := A_ (Nat.lt_of_lt_of_le HZ1.out hb.size);clear hb hga hbox HI1 HB1 HK1 HX1 HZ1;have HI1 := n1_;have HB1 := n2_;have HK1 := n3_;have HX1 := n4_;have HZ1 := n5_;clear n1_ n2_ n3_ n4_ n5_;refine hK.out _ _ ⟨cellS93_0 HI1.out.1, cellS93_1 HI1.out.1⟩ (fun hHeld => ?_);clear hK K;refine nm_ ?_;refine last_ (i := 13) (N := none) (tS 15 14) rfl rfl (by kernel_rfl) de_ (fun K hK => ?_);refine put_step2 ?hw ?hN 36 (.tmp 3) (.tmp 20) ?ho (g := ga) (u0 := .string q.1) (u1 := .string q.2.1) ?ha ?hx (by kernel_rfl) HA.out rfl rfl ?_; (case hw => rfl); (case hN => rfl); (case ho => rfl); (case ha => rfl); (case hx => rfl);replace HA := A_ (blk_two HA.out (.string q.1) (.string q.2.1));replace HB1 := A_ (below_two HB1.out (Nat.le_trans HI1.out.2 (Nat.le_of_lt (Nat.lt_trans HGX.out.2 HGA.out))) (.string q.1) (.string q.2.1));replace HI1 := A_ (st_two HI1.out (Nat.ne_of_lt (Nat.lt_trans HGX.out.2 HGA.out)) (.string q.1) (.string q.2.1));replace HK1 := A_ (keep_two HK1.out (by rw [← HGX.out.1]; exact Nat.le_of_lt HGA.out) (.string q.1) (.string q.2.1));replace HX1 := A_ (blk_far (blk_far HX1.out (p := ⟨ga, 0, none⟩) (Nat.ne_of_lt HGA.out) (.string q.1)) (p := ⟨ga, 1, none⟩) (Nat.ne_of_lt HGA.out) (.string q.2.1));refine hK.out _ _ ?_;clear hK K;refine pq_ ?_;refine done_ (by kernel_rfl) ?_;generalize hwe : World.setCell _ _ _ = we at HA HI1 HB1 HK1 HX1 ⊢;clear hwe;have he1 : (g = ga) = False := eq_false (Nat.ne_of_lt (Nat.lt_trans HGX.out.2 HGA.out));have he2 : (ga = g) = False := eq_false (Nat.ne_of_gt (Nat.lt_trans HGX.out.2 HGA.out));have he3 : (gx = ga) = False := eq_false (Nat.ne_of_lt HGA.out);have he4 : (ga = gx) = False := eq_false (Nat.ne_of_gt HGA.out);obtain ⟨HG, hge⟩ := HI1.out;have hc0' := cellS93_0 HG;have hc1' := cellS93_1 HG;have hc2' := cellS93_2 HG;have hf1 := blk_frozen HG 1;have hf2 := blk_frozen HG 2;clear HG hge;obtain ⟨hz0, hz1, hy0, hy1⟩ := bk2_ HX1.out;obtain ⟨ha0, ha1⟩ := bc2_ HA.out;have h := H1.out;by_cases c : q.2.2 < 0
   case pos =>
    rw [if_pos c] at h;simp only [Option.some.injEq, Prod.mk.injEq] at h;obtain ⟨rfl, rfl, rfl, rfl, rfl⟩ := h;go_wp2
    refine bodyPost_ret (results_single rfl (.cell gx 36 #[.string ⟨#[]⟩, .string ⟨#[]⟩] (0, 0) _ rfl (blk_two (blk_far HX1.out (p := ⟨g, 2, none⟩) (Nat.ne_of_gt HGX.out.2) _) _ _) hu rfl (by kernel_rfl) .nil)) rfl ?_;exact ⟨rfl, st_two (HI1.out.set_2 _) (Nat.ne_of_lt HGX.out.2) _ _, below_two (below_set HB1.out HI1.out.2) (Nat.le_trans HI1.out.2 (Nat.le_of_lt HGX.out.2)) _ _, keep_two (HK1.out.set_ _ _) (Nat.le_of_eq HGX.out.1.symm) _ _⟩
   case neg =>
    rw [if_neg c] at h;simp only [Option.some.injEq, Prod.mk.injEq] at h;obtain ⟨rfl, rfl, rfl, rfl, rfl⟩ := h;go_wp2
    refine bodyPost_ret (results_single rfl (.cell gx 36 #[.string q.1, .string q.2.1] (0, 0) _ rfl (blk_two (blk_far HX1.out (p := ⟨g, 1, none⟩) (Nat.ne_of_gt HGX.out.2) _) _ _) hu rfl (by kernel_rfl) .nil)) rfl ?_;exact ⟨rfl, st_two (HI1.out.set_1 _) (Nat.ne_of_lt HGX.out.2) _ _, below_two (below_set HB1.out HI1.out.2) (Nat.le_trans HI1.out.2 (Nat.le_of_lt HGX.out.2)) _ _, keep_two (HK1.out.set_ _ _) (Nat.le_of_eq HGX.out.1.symm) _ _⟩
  ·skip
   refine box_step ?hg (N := 3) ?hd (cs := #[.string ⟨#[]⟩, .string ⟨#[]⟩]) (t := 36) ?hr ?_; (case hd => rfl); (case hg => rfl); (case hr => first | (go_simp; done) | (go_simp; rfl));intro ga hga wr12 hbox hb;have HGA := A_ (show gx < ga from by rw [hga]; exact HZ1.out);have HA := A_ hbox;have n1_ := A_ (HI1.out.below hb);have n2_ := A_ (below_step HB1.out hb);have n3_ := A_ (HK1.out.trans (KeepBut.of_below hb g none) (.inl rfl));have n4_ := A_ (blk_below HX1.out hb);have n5_ := A_ (Nat.lt_of_lt_of_le HZ1.out hb.size);clear hb hga hbox HI1 HB1 HK1 HX1 HZ1;have HI1 := n1_;have HB1 := n2_;have HK1 := n3_;have HX1 := n4_;have HZ1 := n5_;clear n1_ n2_ n3_ n4_ n5_;refine hK.out _ _ ⟨cellS93_0 HI1.out.1, cellS93_1 HI1.out.1⟩ (fun hHeld => ?_);clear hK K;refine nm_ ?_;refine n1_ 8 (tB 15 4607) rfl fun K hK => ?_
   refine gS_ Tryz.func25 #[.string s, .int .i64 p] ?_;with_reducible refine (impl_XmlAttr.calls k s p q.1 q.2.1 q.2.2 _ (HLL.out.below HB1.out) (HEE.out.below HB1.out) HQ.out).mono ?_
   rintro e wr8 ⟨rfl, hb⟩;refine ⟨_, rfl, ?_⟩;have n1_ := A_ (HI1.out.below hb);have n2_ := A_ (below_step HB1.out hb);have n3_ := A_ (HK1.out.trans (KeepBut.of_below hb g none) (.inl rfl));have n4_ := A_ (blk_below HX1.out hb);have n5_ := A_ (Nat.lt_of_lt_of_le HZ1.out hb.size);(try (have n6_ := A_ (blk_below HA.out hb); clear HA; have HA := n6_; clear n6_))
   clear hb HI1 HB1 HK1 HX1 HZ1;have HI1 := n1_;have HB1 := n2_;have HK1 := n3_;have HX1 := n4_;have HZ1 := n5_;clear n1_ n2_ n3_ n4_ n5_;refine hK.out _ _ ⟨cellS93_0 HI1.out.1, cellS93_1 HI1.out.1⟩ (fun hHeld => ?_);clear hK K;refine nm_ ?_;refine pg_ 9 (tB 15 5119) ?_;refine pg_ 10 (tB 15 6143) ?_;refine pg_ 11 (tS 15 13) ?_;refine last_ (i := 13) (N := none) (tS 15 14) rfl rfl (by kernel_rfl) de_ (fun K hK => ?_);refine put_step2 ?hw ?hN 36 (.tmp 3) (.tmp 20) ?ho (g := ga) (u0 := .string q.1) (u1 := .string q.2.1) ?ha ?hx (by kernel_rfl) HA.out rfl rfl ?_; (case hw => rfl); (case hN => rfl); (case ho => rfl); (case ha => rfl); (case hx => rfl);replace HA := A_ (blk_two HA.out (.string q.1) (.string q.2.1));replace HB1 := A_ (below_two HB1.out (Nat.le_trans HI1.out.2 (Nat.le_of_lt (Nat.lt_trans HGX.out.2 HGA.out))) (.string q.1) (.string q.2.1));replace HI1 := A_ (st_two HI1.out (Nat.ne_of_lt (Nat.lt_trans HGX.out.2 HGA.out)) (.string q.1) (.string q.2.1));replace HK1 := A_ (keep_two HK1.out (by rw [← HGX.out.1]; exact Nat.le_of_lt HGA.out) (.string q.1) (.string q.2.1));replace HX1 := A_ (blk_far (blk_far HX1.out (p := ⟨ga, 0, none⟩) (Nat.ne_of_lt HGA.out) (.string q.1)) (p := ⟨ga, 1, none⟩) (Nat.ne_of_lt HGA.out) (.string q.2.1));refine hK.out _ _ ?_;clear hK K;refine pq_ ?_;refine done_ (by kernel_rfl) ?_;generalize hwe : World.setCell _ _ _ = we at HA HI1 HB1 HK1 HX1 ⊢;clear hwe;have he1 : (g = ga) = False := eq_false (Nat.ne_of_lt (Nat.lt_trans HGX.out.2 HGA.out));have he2 : (ga = g) = False := eq_false (Nat.ne_of_gt (Nat.lt_trans HGX.out.2 HGA.out));have he3 : (gx = ga) = False := eq_false (Nat.ne_of_lt HGA.out);have he4 : (ga = gx) = False := eq_false (Nat.ne_of_gt HGA.out);obtain ⟨HG, hge⟩ := HI1.out;have hc0' := cellS93_0 HG;have hc1' := cellS93_1 HG;have hc2' := cellS93_2 HG;have hf1 := blk_frozen HG 1;have hf2 := blk_frozen HG 2;clear HG hge;obtain ⟨hz0, hz1, hy0, hy1⟩ := bk2_ HX1.out;obtain ⟨ha0, ha1⟩ := bc2_ HA.out;have h := H1.out;by_cases c : q.2.2 < 0
   case pos =>
    rw [if_pos c] at h;simp only [Option.some.injEq, Prod.mk.injEq] at h;obtain ⟨rfl, rfl, rfl, rfl, rfl⟩ := h;go_wp2
    refine bodyPost_ret (results_single rfl (.cell gx 36 #[.string ⟨#[]⟩, .string ⟨#[]⟩] (0, 0) _ rfl (blk_two (blk_far HX1.out (p := ⟨g, 2, none⟩) (Nat.ne_of_gt HGX.out.2) _) _ _) hu rfl (by kernel_rfl) .nil)) rfl ?_;exact ⟨rfl, st_two (HI1.out.set_2 _) (Nat.ne_of_lt HGX.out.2) _ _, below_two (below_set HB1.out HI1.out.2) (Nat.le_trans HI1.out.2 (Nat.le_of_lt HGX.out.2)) _ _, keep_two (HK1.out.set_ _ _) (Nat.le_of_eq HGX.out.1.symm) _ _⟩
   case neg =>
    rw [if_neg c] at h;simp only [Option.some.injEq, Prod.mk.injEq] at h;obtain ⟨rfl, rfl, rfl, rfl, rfl⟩ := h;go_wp2
    refine bodyPost_ret (results_single rfl (.cell gx 36 #[.string q.1, .string q.2.1] (0, 0) _ rfl (blk_two (blk_far HX1.out (p := ⟨g, 1, none⟩) (Nat.ne_of_gt HGX.out.2) _) _ _) hu rfl (by kernel_rfl) .nil)) rfl ?_;exact ⟨rfl, st_two (HI1.out.set_1 _) (Nat.ne_of_lt HGX.out.2) _ _, below_two (below_set HB1.out HI1.out.2) (Nat.le_trans HI1.out.2 (Nat.le_of_lt HGX.out.2)) _ _, keep_two (HK1.out.set_ _ _) (Nat.le_of_eq HGX.out.1.symm) _ _⟩
end Go.Proofs.YtkmmoheeoblmnaaGreatDoor.A
namespace Go.Proofs.YtkmmoheeoblmnaaGreatDoor.A
open Go.RowKit Go.Proofs.YtkmmoheeoblmnaaGreatDoorW.PrintWords Go.Proofs.YtkmmoheeoblmnaaGreatDoorW.PrintLast Go.Proofs.YtkmmoheeoblmnaaGreatDoorW.PrintMore
attribute [local go_sem] max2_int min2_int max_two min_two max_three min_three max_four min_four
set_option linter.unusedVariables false
set_option linter.unusedSimpArgs false
theorem hasAttr_1 (a b n : BA) (h : Nat) (w : World) (hc : w.cell? ⟨h, 0, none⟩ = some (.string n)) :
  Calls Tryz.prog 193 #[.agg #[.string a, .string b], .pointer (some ⟨h, 0, none⟩)] w fun e w' => e = .returned (.bool (a.toList == n.toList)) ∧ Below w.heap.size w w' := by
 have hl := World.block_lt_of_cell? w _ hc;go_enter Tryz.func193, Tryz.ntmps193
 go_wp2
 go_ret
 exact ⟨rfl, bA9 (Below.refl _ _) _⟩
def hasP (n : BA) (x : S36) : Bool := x.f0.toList == n.toList
def IxPost (b : Bool) (w : World) (e : Ending) (w' : World) : Prop := ∃ r : Int, e = .returned (.int .i64 r) ∧ decide (0 ≤ r) = b ∧ Below w.heap.size w w'
theorem take_any {α : Type} (l : List α) (p : α → Bool) (j : Nat) (h : j < l.length) (h0 : (l.take j).any p = false) (h1 : p (l[j]'h) = false) : (l.take (j + 1)).any p = false := by
 rw [List.take_succ_eq_append_getElem h, List.any_append, h0]; simp [h1]
theorem indexFunc_any (A0 : Option Addr) (c0 : Nat) (l0 : List (S36)) (n : BA) (h : Nat) (w : World) (hr0 : Kd.C k36 w A0 l0.length l0) (hc0 : l0.length ≤ c0) (hl : l0.length ≤ 140737488355328) (hc : w.cell? ⟨h, 0, none⟩ = some (.string n)) :
  Calls Tryz.prog 203 #[.slice A0 l0.length c0, .func (Fn.func 193) #[] #[.pointer (some ⟨h, 0, none⟩)]] w (IxPost (l0.any (hasP n)) w) := by
 have HR := A_ hr0;have HC := A_ hc;clear hr0 hc;go_enter Tryz.func203, Tryz.ntmps203
 go_wp2
 go_loopg [8] l0.length (fun kq v wr => ∃ j : Int, v = .int .i64 j ∧ 0 ≤ j ∧ j ≤ l0.length ∧ As9 (kq = l0.length - j.toNat) ∧ As9 ((l0.take j.toNat).any (hasP n) = false) ∧ As9 (Below w.heap.size w wr))
 case atStart => exact ⟨0, rfl, Int.le_refl _, om_, ⟨rfl⟩, ⟨by simp⟩, ⟨Below.refl _ _⟩⟩
 case round =>
  obtain ⟨j, rfl, j0, hj, HM, HE, HB⟩ := hrel;have hlm : (l0.length : Int) ≤ 140737488355328 := om_;by_cases hlt : j < l0.length
  ·have hjn : j.toNat < l0.length := om_;have hel : rd_T36 l0 j = l0[j.toNat] := by
    unfold rd_T36; first | (rw [List.getD_eq_getElem?_getD, List.getElem?_eq_getElem hjn]; rfl) | (simp [rdOf, List.getD_eq_getElem?_getD, List.getElem?_eq_getElem hjn])
   have Hel := A_ hel;clear hel;obtain ⟨ad, ea, hx0, hx1⟩ := at_T36 (Kd.C_below HR.out HB.out) j j0 hlt;cases ea;have hcn := pw_cell_below HB.out HC.out;have p7 := eq_true j0;have q7 := eq_true hlt;cases hp : hasP n (rd_T36 l0 j) with
   | true =>
    have HP := A_ hp;clear hp;go_wp2_with ((go_at_call 193; (with_reducible refine (hasAttr_1 _ _ n h _ hcn).mono ?_); rintro r w2 ⟨rfl, hb⟩; rw [show ((rd_T36 l0 j).f0.toList == n.toList) = true from HP.out]))
    go_ret
    exact ⟨j, rfl, by rw [dE_ j0]; symm; rw [List.any_eq_true]; exact ⟨l0[j.toNat], List.getElem_mem _, by rw [← Hel.out]; exact HP.out⟩, below_step HB.out hb⟩
   | false =>
    have HP := A_ hp;clear hp;go_wp2_with ((go_at_call 193; (with_reducible refine (hasAttr_1 _ _ n h _ hcn).mono ?_); rintro r w2 ⟨rfl, hb⟩; rw [show ((rd_T36 l0 j).f0.toList == n.toList) = false from HP.out]))
    go_roundg (l0.length - (j + 1).toNat)
    case measure => have := HM.out; omega
    case rel => exact ⟨j + 1, rfl, om_, om_, ⟨rfl⟩, ⟨by rw [show (j + 1).toNat = j.toNat + 1 by omega]; exact take_any _ _ _ hjn HE.out (by rw [← Hel.out]; exact HP.out)⟩, ⟨below_step HB.out hb⟩⟩
  ·go_wp2
   go_ret
   have he := HE.out;rw [List.take_of_length_le om_] at he;exact ⟨-1, rfl, by rw [he]; rfl, HB.out⟩
theorem containsFunc_any (A0 : Option Addr) (c0 : Nat) (l0 : List (S36)) (n : BA) (h : Nat) (w : World) (hr0 : Kd.C k36 w A0 l0.length l0) (hc0 : l0.length ≤ c0) (hl : l0.length ≤ 140737488355328) (hc : w.cell? ⟨h, 0, none⟩ = some (.string n)) :
  Calls Tryz.prog 192 #[.slice A0 l0.length c0, .func (Fn.func 193) #[] #[.pointer (some ⟨h, 0, none⟩)]] w fun e w' => e = .returned (.bool (l0.any (hasP n))) ∧ Below w.heap.size w w' := by
 go_enter Tryz.func192, Tryz.ntmps192
 go_wp2_with ((go_at_call 203; (with_reducible refine (indexFunc_any A0 c0 l0 n h _ hr0 hc0 hl hc).mono ?_); rintro r w2 ⟨i, rfl, hi, hb⟩))
 go_ret
 exact ⟨by rw [← hi]; rfl, hb⟩
def impl_hasAttr.f (l0 : List (S36)) (a1 : BA) : Option Bool :=
 if l0.length ≤ 140737488355328 then some (l0.any fun x => x.f0.toList == a1.toList) else none
theorem impl_hasAttr.calls (A0 : Option Addr) (c0 : Nat) (l0 : List (S36)) (a1 : BA) (r : Bool) (w : World) (hr0 : Kd.C k36 w A0 l0.length l0) (hc0 : l0.length ≤ c0) (h : impl_hasAttr.f l0 a1 = some r) :
  Calls Tryz.prog 173 #[.slice A0 l0.length c0, .string a1] w fun e w' => e = .returned (.bool r) ∧ Below w.heap.size w w' := by
 unfold impl_hasAttr.f at h;split at h
 case isFalse => cases h
 case isTrue hl =>
 obtain rfl := sI_ h;have hr1 := A_ (Kd.C_alloc hr0 (.cells #[.string a1] 9));have hc1 : As9 ((w.alloc (.cells #[.string a1] 9)).cell? ⟨w.heap.size, 0, none⟩ = some (.string a1)) := ⟨(blk_cell (heap_alloc_new w _) 0).trans rfl⟩;clear hr0 h;go_enter Tryz.func173, Tryz.ntmps173
 go_wp2_with ((go_at_call 192; (refine (containsFunc_any A0 c0 l0 a1 w.heap.size _ hr1.out hc0 hl hc1.out).mono ?_); rintro r w2 ⟨rfl, hb⟩))
 go_ret
 exact ⟨rfl, below_step (bA9 (Below.refl _ _) _) hb⟩
abbrev spN0 : ByteArray := ⟨#[104, 116, 116, 112, 58, 47, 47, 119, 119, 119, 46, 119, 51, 46, 111, 114, 103, 47, 49, 57, 57, 57, 47, 120, 104, 116, 109, 108]⟩
abbrev spN1 : ByteArray := ⟨#[104, 116, 116, 112, 58, 47, 47, 119, 119, 119, 46, 119, 51, 46, 111, 114, 103, 47, 50, 48, 48, 48, 47, 115, 118, 103]⟩
abbrev spN2 : ByteArray := ⟨#[104, 116, 116, 112, 58, 47, 47, 119, 119, 119, 46, 119, 51, 46, 111, 114, 103, 47, 49, 57, 57, 56, 47, 77, 97, 116, 104, 47, 77, 97, 116, 104, 77, 76]⟩
def spNF (a0 : Int) : ByteArray := if a0 = 0 then spN0 else if a0 = 1 then spN1 else if a0 = 2 then spN2 else ⟨#[]⟩
theorem sp_at (i : Int) (h0 : 0 ≤ i) (h1 : i ≤ 2) (w : World) : (Instr.index 65 (.agg #[.string spN0, .string spN1, .string spN2]) (.int .i64 i)).run Tryz.prog w = .ok (.string (spNF i)) w := by
 rcases (show i = 0 ∨ i = 1 ∨ i = 2 by omega) with rfl | rfl | rfl <;> (clear h0 h1; show _ = _; kernel_rfl)
def impl_SpaceName.f (a0 : Int) : Option ByteArray := some (spNF a0)
theorem impl_SpaceName.calls (a0 : Int) (r : BA) (w : World) (h : impl_SpaceName.f a0 = some r) :
  Calls Tryz.prog 13 #[.int .i64 a0] w fun e w' => e = .returned (.string r) ∧ Drawn0 w w' := by
 obtain rfl := sI_ h;clear h;have hu := Tryz.underlying65;by_cases hc : 0 ≤ a0 ∧ a0 ≤ 2
 ·have hin : impl_inRange.f a0 0 2 = some true := by unfold impl_inRange.f; rw [if_pos hc.1, dE_ hc.2]
  have Hin := A_ hin;clear hin;rcases (show a0 = 0 ∨ a0 = 1 ∨ a0 = 2 by omega) with rfl | rfl | rfl
  ·have hix := sp_at 0 om_ om_;clear hc;go_enter Tryz.func13, Tryz.ntmps13
   go_wp2_with ((go_at_call 53; (with_reducible refine (impl_inRange.calls 0 0 2 true _ Hin.out).mono ?_); rintro r w' ⟨rfl, ⟨nd, rfl⟩⟩))
   go_ret
   exact ⟨rfl, ⟨_, rfl⟩⟩
  ·have hix := sp_at 1 om_ om_;clear hc;go_enter Tryz.func13, Tryz.ntmps13
   go_wp2_with ((go_at_call 53; (with_reducible refine (impl_inRange.calls 1 0 2 true _ Hin.out).mono ?_); rintro r w' ⟨rfl, ⟨nd, rfl⟩⟩))
   go_ret
   exact ⟨rfl, ⟨_, rfl⟩⟩
  ·have hix := sp_at 2 om_ om_;clear hc;go_enter Tryz.func13, Tryz.ntmps13
   go_wp2_with ((go_at_call 53; (with_reducible refine (impl_inRange.calls 2 0 2 true _ Hin.out).mono ?_); rintro r w' ⟨rfl, ⟨nd, rfl⟩⟩))
   go_ret
   exact ⟨rfl, ⟨_, rfl⟩⟩
 ·have hin : impl_inRange.f a0 0 2 = some false := by
   unfold impl_inRange.f;by_cases h1 : a0 ≥ 0
   ·rw [if_pos h1, dF_ om_]
   ·rw [if_neg h1]
  have Hin := A_ hin;have hs : spNF a0 = ⟨#[]⟩ := by unfold spNF; rw [if_neg om_, if_neg om_, if_neg om_]
  have HS := A_ hs;clear hin hc hs;go_enter Tryz.func13, Tryz.ntmps13
  go_wp2_with ((go_at_call 53; (with_reducible refine (impl_inRange.calls a0 0 2 false _ Hin.out).mono ?_); rintro r w' ⟨rfl, ⟨nd, rfl⟩⟩))
  go_ret
  exact ⟨by rw [HS.out]; rfl, ⟨_, rfl⟩⟩
def impl_spaceOf.l0 : Nat → ByteArray → Int → Option (Int)
 | 0, _, _ => none
 | k + 1, x0, x4 => if x4 < 3 then ((impl_SpaceName.f x4).bind fun t565 => (if t565.toList = x0.toList then (some x4) else (impl_spaceOf.l0 k x0 (wrap64 (x4 + 1))))) else (some (-1))
def impl_spaceOf.f (k : Nat) (a0 : BA) : Option (Int) := impl_spaceOf.l0 k a0 0
theorem impl_spaceOf.mono_l : ∀ k, (∀ y0 y1, LeO (impl_spaceOf.l0 k y0 y1) (impl_spaceOf.l0 (k + 1) y0 y1))
 | 0 => fun _ _ r h => by simp [impl_spaceOf.l0] at h
 | k + 1 => by
  have ih0 := impl_spaceOf.mono_l k
  ·intro y0 y1;unfold impl_spaceOf.l0;with_reducible repeat' first | exact ih0 _ _ | apply LeO.refl | apply LeO.none | apply LeO.ite | apply LeO.bind | intro
theorem impl_spaceOf.mono : ∀ a0 k, LeO (impl_spaceOf.f k a0) (impl_spaceOf.f (k + 1) a0) := by
 intro a0 k;have ih0 := impl_spaceOf.mono_l k;unfold impl_spaceOf.f;with_reducible repeat' first | exact ih0 _ _ | apply LeO.refl | apply LeO.none | apply LeO.ite | apply LeO.bind | intro
theorem impl_spaceOf.calls (k : Nat) (a0 : BA) (r : Int) (w : World) (h : impl_spaceOf.f k a0 = some r) :
  Calls Tryz.prog 174 #[.string a0] w fun e w' => e = .returned (.int .i64 r) ∧ Drawn0 w w' := by
 have H : (impl_spaceOf.l0 k a0 0) = some r := h;clear h;have H' := A_ H;clear H;go_enter Tryz.func174, Tryz.ntmps174
 go_wp2
 go_loopg [4] k (fun kq v4 w' => ∃ (x4_1 : Int), v4 = .int .i64 x4_1 ∧ As9 (impl_spaceOf.l0 kq a0 x4_1 = some r) ∧ As9 (kq ≤ k) ∧ Drawn0 w w')
 case atStart => exact ⟨(0), e2_, H', ⟨Nat.le_refl _⟩, d0_⟩
 case round =>
  clear H';try clear c1
  obtain ⟨x4_1, rfl, HA, HK1, ⟨m1, rfl⟩⟩ := hrel;cases gk with
  | zero => exact absurd HA.out (by simp [impl_spaceOf.l0])
  | succ k1 =>
   have H := HA.out;clear HA;simp only [impl_spaceOf.l0] at H;rcases ic_ H with ⟨c2, H⟩ | ⟨c2, H⟩
   ·have c2b0 := dE_ c2;clear c2;obtain ⟨t565, A3, H⟩ := ob_ H;rcases ic_ H with ⟨c4, H⟩ | ⟨c4, H⟩
    ·obtain ⟨c4b0, c4b1⟩ := be_ c4;clear c4;obtain rfl := sI_ H;go_wp2_with (first | ((with_reducible refine gC_ 13 ?_); refine gL_ 8 Tryz.func13 #[.int .i64 x4_1] ?_; refine dm_ (impl_SpaceName.calls x4_1 t565 _ A3.out) fun nd => ?_))
     go_ret
     exact ⟨e2_, d0_⟩
    ·obtain ⟨c4b0, c4b1⟩ := bn_ c4;have H' := A_ H;clear H;go_wp2_with (first | ((with_reducible refine gC_ 13 ?_); refine gL_ 8 Tryz.func13 #[.int .i64 x4_1] ?_; refine dm_ (impl_SpaceName.calls x4_1 t565 _ A3.out) fun nd => ?_))
     go_roundg k1
     case measure => have := HK1.out; omega
     case rel => exact ⟨(wrap64 (x4_1 + 1)), e2_, H', ⟨by have := HK1.out; omega⟩, d0_⟩
   ·have c2b0 := dF_ c2;clear c2;obtain rfl := sI_ H;go_wp2
    go_ret
    exact ⟨e2_, d0_⟩
def Keep2 (w w' : World) (g ge : Nat) : Prop := w.heap.size ≤ w'.heap.size ∧ ∀ i, i < w.heap.size → i ≠ g → i ≠ ge → w'.heap[i]? = w.heap[i]?
theorem Keep2.refl (w : World) (g ge : Nat) : Keep2 w w g ge := ⟨Nat.le_refl _, fun _ _ _ _ => rfl⟩
theorem Keep2.keep {w W W' : World} {g ge : Nat} (h : Keep2 w W g ge) (hk : KeepBut W W' g none) : Keep2 w W' g ge :=
 ⟨Nat.le_trans h.1 hk.1, fun i hi hg he => (hk.2 i (Nat.lt_of_lt_of_le hi h.1) hg si_).trans (h.2 i hi hg he)⟩
theorem Keep2.keepE {w W W' : World} {g ge : Nat} (h : Keep2 w W g ge) (hk : KeepBut W W' ge none) : Keep2 w W' g ge :=
 ⟨Nat.le_trans h.1 hk.1, fun i hi hg he => (hk.2 i (Nat.lt_of_lt_of_le hi h.1) he si_).trans (h.2 i hi hg he)⟩
theorem Keep2.below {w W W' : World} {g ge : Nat} (h : Keep2 w W g ge) (hb : Below W.heap.size W W') : Keep2 w W' g ge := h.keep (KeepBut.of_below hb g none)
theorem Keep2.grown {w W W' : World} {g ge : Nat} {row : Option Nat} (h : Keep2 w W g ge) (hg : W.grownBy W' row) (hr : ∀ k, row = some k → w.heap.size ≤ k) : Keep2 w W' g ge :=
 ⟨Nat.le_trans h.1 hg.size, fun i hi h1 h2 => (hg.block i (Nat.lt_of_lt_of_le hi h.1) (fun e => by have := hr i e.symm; omega)).trans (h.2 i hi h1 h2)⟩
structure Att (w0 w W : World) (g ge : Nat) (kd : Int) (nm tx : BA) (vk : Value) (s : BA) (p : Int) (b : Bool) (sp : Int) (v6 v3 : Value) (names attrs : List S36) : Prop where
 st : IsS93 w0 W g s p b
 el : W.heap[ge]? = some (.cells #[.int .i64 kd, .int .i64 sp, .string nm, v3, .string tx, vk] 43 (0, 0))
 nr : k36.R 36 W w0.heap.size (fun k_ => w.heap.size ≤ k_ ∧ some k_ ≠ v3.ownBlock) v6 names
 ar : k36.R 36 W w0.heap.size (fun k_ => w.heap.size ≤ k_ ∧ some k_ ≠ v6.ownBlock) v3 attrs
 bl : Below w0.heap.size w0 W
 kp : Keep2 w W g ge
 gl : g < w.heap.size
 le : ge < w.heap.size
 ne : ge ≠ g
 g0 : w0.heap.size ≤ ge
theorem Att.state {w0 w W W' : World} {g ge : Nat} {kd : Int} {nm tx : BA} {vk : Value} {s s' : BA} {p p' : Int} {b b' : Bool} {sp : Int} {v6 v3 : Value} {names attrs : List S36} (h : Att w0 w W g ge kd nm tx vk s p b sp v6 v3 names attrs) (hi : IsS93 w0 W' g s' p' b') (hb : Below w0.heap.size w0 W') (hk : KeepBut W W' g none) : Att w0 w W' g ge kd nm tx vk s' p' b' sp v6 v3 names attrs :=
 ⟨hi, hk.blk h.el h.ne si_, Kd.R_keep h.nr hk (fun k hk => by have := h.gl; omega), Kd.R_keep h.ar hk (fun k hk => by have := h.gl; omega), hb, h.kp.keep hk, h.gl, h.le, h.ne, h.g0⟩
theorem Att.below {w0 w W W' : World} {g ge : Nat} {kd : Int} {nm tx : BA} {vk : Value} {s : BA} {p : Int} {b : Bool} {sp : Int} {v6 v3 : Value} {names attrs : List S36} (h : Att w0 w W g ge kd nm tx vk s p b sp v6 v3 names attrs) (hb : Below W.heap.size W W') : Att w0 w W' g ge kd nm tx vk s p b sp v6 v3 names attrs :=
 h.state (h.st.below hb) (below_step h.bl hb) (KeepBut.of_below hb g none)
theorem Att.drew {w0 w W : World} {g ge : Nat} {kd : Int} {nm tx : BA} {vk : Value} {s : BA} {p : Int} {b : Bool} {sp : Int} {v6 v3 : Value} {names attrs : List S36} (h : Att w0 w W g ge kd nm tx vk s p b sp v6 v3 names attrs) : Att w0 w W.drew g ge kd nm tx vk s p b sp v6 v3 names attrs := h.below (below_drew (Below.refl _ _))
theorem Att.bad {w0 w W : World} {g ge : Nat} {kd : Int} {nm tx : BA} {vk : Value} {s : BA} {p : Int} {b : Bool} {sp : Int} {v6 v3 : Value} {names attrs : List S36} (h : Att w0 w W g ge kd nm tx vk s p b sp v6 v3 names attrs) (x : Bool) : Att w0 w (W.setCell ⟨g, 2, none⟩ (.bool x)) g ge kd nm tx vk s p x sp v6 v3 names attrs :=
 h.state (h.st.set_2 x) (below_set h.bl h.st.2) ((KeepBut.refl W g none).set_ 2 _)
theorem Att.space {w0 w W : World} {g ge : Nat} {kd : Int} {nm tx : BA} {vk : Value} {s : BA} {p : Int} {b : Bool} {sp : Int} {v6 v3 : Value} {names attrs : List S36} (h : Att w0 w W g ge kd nm tx vk s p b sp v6 v3 names attrs) (x : Int) : Att w0 w (W.setCell ⟨ge, 1, none⟩ (.int .i64 x)) g ge kd nm tx vk s p b x v6 v3 names attrs :=
 ⟨h.st.far (p := ⟨ge, 1, none⟩) (Ne.symm h.ne) _, blk_put h.el 1 _ rfl, Kd.R_far (p := ⟨ge, 1, none⟩) h.nr (fun k hk => by have := h.le; show k ≠ ge; omega) _, Kd.R_far (p := ⟨ge, 1, none⟩) h.ar (fun k hk => by have := h.le; show k ≠ ge; omega) _, below_set h.bl h.g0, h.kp.keepE ((KeepBut.refl W ge none).set_ 1 _), h.gl, h.le, h.ne, h.g0⟩
theorem Att.names_ {w0 w W W' : World} {g ge : Nat} {kd : Int} {nm tx : BA} {vk : Value} {s : BA} {p : Int} {b : Bool} {sp : Int} {v6 v3 v' : Value} {names attrs : List S36} (h : Att w0 w W g ge kd nm tx vk s p b sp v6 v3 names attrs) {x : S36} (ho : k36.R 36 W' w0.heap.size (fun k_ => w.heap.size ≤ k_ ∧ some k_ ≠ v3.ownBlock) v' (names ++ [x])) (hb : Below w0.heap.size w0 W') (hg : W.grownBy W' v6.ownBlock) (hat : v'.ownBlock = v6.ownBlock ∨ ∃ b, v'.ownBlock = some b ∧ W.heap.size ≤ b) :
  Att w0 w W' g ge kd nm tx vk s p b sp v' v3 (names ++ [x]) attrs :=
 ⟨h.st.grown hg (h.st.own_ne h.nr de_), blk_grown h.el hg (Kd.R_ne h.nr h.el de_), ho, Kd.R_after h.ar hg hat, hb, h.kp.grown hg (fun k hk => (h.nr.1 k hk).1), h.gl, h.le, h.ne, h.g0⟩
theorem Att.attrs_ {w0 w W W' : World} {g ge : Nat} {kd : Int} {nm tx : BA} {vk : Value} {s : BA} {p : Int} {b : Bool} {sp : Int} {v6 v3 v' : Value} {names attrs : List S36} (h : Att w0 w W g ge kd nm tx vk s p b sp v6 v3 names attrs) {x : S36} (ho : k36.R 36 W' w0.heap.size (fun k_ => w.heap.size ≤ k_ ∧ some k_ ≠ v6.ownBlock) v' (attrs ++ [x])) (hb : Below w0.heap.size w0 W') (hg : W.grownBy W' v3.ownBlock) (hat : v'.ownBlock = v3.ownBlock ∨ ∃ b, v'.ownBlock = some b ∧ W.heap.size ≤ b) :
  Att w0 w (W'.setCell ⟨ge, 3, none⟩ v') g ge kd nm tx vk s p b sp v6 v' names (attrs ++ [x]) :=
 ⟨(h.st.grown hg (h.st.own_ne h.ar de_)).far (p := ⟨ge, 3, none⟩) (Ne.symm h.ne) _, blk_put (blk_grown h.el hg (Kd.R_ne h.ar h.el de_)) 3 _ rfl, Kd.R_far (p := ⟨ge, 3, none⟩) (Kd.R_after h.nr hg hat) (fun k hk => by have := h.le; show k ≠ ge; omega) _, Kd.R_far (p := ⟨ge, 3, none⟩) ho (fun k hk => by have := h.le; show k ≠ ge; omega) _, below_set hb h.g0, (h.kp.grown hg (fun k hk => (h.ar.1 k hk).1)).keepE ((KeepBut.refl W' ge none).set_ 3 _), h.gl, h.le, h.ne, h.g0⟩
theorem Att.freshN {w0 w W : World} {g ge : Nat} {kd : Int} {nm tx : BA} {vk : Value} {s : BA} {p : Int} {b : Bool} {sp : Int} {v6 v3 : Value} {names attrs : List S36} (h : Att w0 w W g ge kd nm tx vk s p b sp v6 v3 names attrs) : ∀ k, W.heap.size ≤ k → w.heap.size ≤ k ∧ some k ≠ v3.ownBlock :=
 fun k hk => ⟨Nat.le_trans h.kp.1 hk, fun e => by have := Kd.R_lt h.ar k e.symm; omega⟩
theorem Att.freshA {w0 w W : World} {g ge : Nat} {kd : Int} {nm tx : BA} {vk : Value} {s : BA} {p : Int} {b : Bool} {sp : Int} {v6 v3 : Value} {names attrs : List S36} (h : Att w0 w W g ge kd nm tx vk s p b sp v6 v3 names attrs) : ∀ k, W.heap.size ≤ k → w.heap.size ≤ k ∧ some k ≠ v6.ownBlock :=
 fun k hk => ⟨Nat.le_trans h.kp.1 hk, fun e => by have := Kd.R_lt h.nr k e.symm; omega⟩
section
variable {P : Program} {ops : Array Oper} {o : Oper} {a : Act} {Q : Exit → Act → World → Prop} {Kc : Act → World → Prop}
theorem lit_step {W w1' : World} {v : Value} (hw : Region.wanted o (yielded ops a.tmps) = true) (hrun : (execOp a.eval o).run P W = .ok (.value v) w1') (h : ∀ w1, w1 = w1' → Kc (a.put o.dst v) w1) : if Region.wanted o (yielded ops a.tmps) = true then Oper.wp P o a W Kc Q else Kc (a.put o.dst undef) W := event_step hw hrun (h _ rfl)
end
theorem set2 {w w9 : World} {g : Nat} (hb : Below w.heap.size w w9) (hg : w.heap.size ≤ g) (v0 v1 : Value) : Below w.heap.size w ((w9.setCell ⟨g, 0, none⟩ v0).setCell ⟨g, 1, none⟩ v1) := below_set (below_set hb hg) hg
def attrsL : Nat → Int → ByteArray → Int → Bool → List S36 → List S36 → Int → Option (List S36 × Int × ByteArray × Int × Bool)
 | 0, _, _, _, _, _, _, _ => none
 | n + 1, about, s, p, b, names, attrs, sp =>
  (impl_reader_is.f s p b ⟨#[32]⟩).bind fun t => if t.1 = true then
   (impl_reader_take.f t.2.1 t.2.2.1 t.2.2.2 ⟨#[32]⟩).bind fun t2 => (impl_reader_attr.f n t2.1 t2.2.1 t2.2.2).bind fun a =>
   (impl_hasAttr.f names a.1).bind fun hb => if hb = true then some (attrs, sp, a.2.2.1, a.2.2.2.1, true) else if a.2.2.2.2 = true then some (attrs, sp, a.2.2.1, a.2.2.2.1, true) else
   if names.length < 4398046511104 ∧ attrs.length < 4398046511104 then
    (if a.1.toList = [120, 109, 108, 110, 115] then (impl_spaceOf.f n a.2.1).bind fun x => attrsL n about a.2.2.1 a.2.2.2.1 (decide (x < 0) || decide (x = about)) (names ++ [⟨a.1, a.2.1⟩]) attrs x
    else attrsL n about a.2.2.1 a.2.2.2.1 false (names ++ [⟨a.1, a.2.1⟩]) (attrs ++ [⟨a.1, a.2.1⟩]) sp)
   else none
  else (impl_inRange.f sp 0 2).bind fun r => some (attrs, sp, t.2.1, t.2.2.1, if r = true then t.2.2.2 else true)
theorem attrsL_mono : ∀ k y0 y1 y2 y3 y4 y5 y6, LeO (attrsL k y0 y1 y2 y3 y4 y5 y6) (attrsL (k + 1) y0 y1 y2 y3 y4 y5 y6)
 | 0 => fun _ _ _ _ _ _ _ r h => by simp [attrsL] at h
 | k + 1 => by
  have ih := attrsL_mono k;intro y0 y1 y2 y3 y4 y5 y6;rw [attrsL, attrsL];exact LeO.bind (LeO.refl _) fun t => LeO.ite (LeO.bind (LeO.refl _) fun t2 => LeO.bind (impl_reader_attr.mono _ _ _ _) fun a => LeO.bind (LeO.refl _) fun hb => LeO.ite (LeO.refl _) (LeO.ite (LeO.refl _) (LeO.ite (LeO.ite (LeO.bind (impl_spaceOf.mono _ _) fun x => ih _ _ _ _ _ _ _) (ih _ _ _ _ _ _ _)) (LeO.refl _)))) (LeO.refl _)
def impl_reader_attrs.f (k : Nat) (about sp : Int) (s : BA) (p : Int) (b : Bool) : Option (List S36 × Int × ByteArray × Int × Bool) := attrsL k about s p b [] [] sp
theorem impl_reader_attrs.mono : ∀ about sp s p b k, LeO (impl_reader_attrs.f k about sp s p b) (impl_reader_attrs.f (k + 1) about sp s p b) := fun _ _ _ _ _ k => attrsL_mono k _ _ _ _ _ _ _
theorem impl_reader_attrs.calls (k : Nat) (g ge : Nat) (kd : Int) (nm tx : BA) (vk : Value) (about sp : Int) (s : BA) (p : Int) (b : Bool) (r0 : List S36) (r1 : Int) (r2 : BA) (r3 : Int) (r4 : Bool) (w0 w : World) (hI : IsS93 w0 w g s p b)
  (hG : w.heap[ge]? = some (.cells #[.int .i64 kd, .int .i64 sp, .string nm, .slice none 0 0, .string tx, vk] 43 (0, 0))) (hg0 : w0.heap.size ≤ ge) (hB : Below w0.heap.size w0 w) (hL : LibOk w0) (hE : LibErr w0) (h : impl_reader_attrs.f k about sp s p b = some (r0, r1, r2, r3, r4)) :
  Calls Tryz.prog 136 #[.pointer (some ⟨g, 0, none⟩), .pointer (some ⟨ge, 0, none⟩), .int .i64 about] w fun e w' => e = .returned (.tuple #[]) ∧ ∃ v6 v3 names, Att w0 w w' g ge kd nm tx vk r2 r3 r4 r1 v6 v3 names r0 := by
 have hu := Tryz.underlying36;have hu2 := Tryz.underlying43;have HF : As9 (attrsL k about s p b [] [] sp = some (r0, r1, r2, r3, r4)) := ⟨h⟩;have HT : As9 (Att w0 w w g ge kd nm tx vk s p b sp (.slice none 0 0) (.slice none 0 0) [] []) := ⟨⟨hI, hG, Kd.R_nil _ _ _ _ _, Kd.R_nil _ _ _ _ _, hB, Keep2.refl _ _ _, hI.lt, blk_lt hG, Ne.symm (hI.ne_blk hG de_), hg0⟩⟩;have HLL := A_ hL;have HEE := A_ hE;clear h hI hG hB hL hE;go_enter Tryz.func136, Tryz.ntmps136
 go_wp2
 go_loopg [6] k (fun kq v6 wr => ∃ (names attrs : List S36) (v3 : Value) (sp : Int) (s : BA) (p : Int) (b : Bool), As9 (attrsL kq about s p b names attrs sp = some (r0, r1, r2, r3, r4)) ∧ As9 (Att w0 w wr g ge kd nm tx vk s p b sp v6 v3 names attrs))
 case atStart => exact ⟨[], [], .slice none 0 0, sp, s, p, b, HF, HT⟩
 case round =>
  clear HF HT;obtain ⟨names, attrs, v3, sp, s, p, b, HA, HT⟩ := hrel;cases gk with
  | zero => exact absurd HA.out (by simp [attrsL])
  | succ n =>
  have H := HA.out;clear HA;simp only [attrsL] at H;obtain ⟨An, cn, rfl⟩ := Kd.R_slice HT.out.nr;obtain ⟨⟨t, s1, p1, b1⟩, ht, H⟩ := oB_ H;dsimp only at H;have Ht := A_ ht;clear ht;cases t with
  | false =>
   rw [if_neg si_] at H;obtain ⟨r, hr, H⟩ := oB_ H;have Hr := A_ hr;clear hr;cases r with
   | true =>
    rw [if_pos rfl] at H;simp only [Option.some.injEq, Prod.mk.injEq] at H;obtain ⟨rfl, rfl, rfl, rfl, rfl⟩ := H;go_wp2_with (first | (go_at_call 95; (with_reducible refine (impl_reader_is.calls g s p b ⟨#[32]⟩ false s1 p1 b1 w0 _ HT.out.st HT.out.bl Ht.out).mono ?_); rintro e w1 ⟨rfl, hi, hb, hk⟩; have HT1 := A_ (HT.out.state hi hb hk); clear hi hb hk HT; have hz1 := (blk_cell HT1.out.el 1).trans rfl) | (go_at_call 53; (with_reducible refine (impl_inRange.calls sp 0 2 true _ Hr.out).mono ?_); rintro e w2 ⟨rfl, hd⟩; have HT2 := A_ (HT1.out.below hd.below); clear hd HT1))
    go_end0
    exact ⟨rfl, _, _, _, HT2.out⟩
   | false =>
    rw [if_neg si_] at H;simp only [Option.some.injEq, Prod.mk.injEq] at H;obtain ⟨rfl, rfl, rfl, rfl, rfl⟩ := H;go_wp2_with (first | (go_at_call 95; (with_reducible refine (impl_reader_is.calls g s p b ⟨#[32]⟩ false s1 p1 b1 w0 _ HT.out.st HT.out.bl Ht.out).mono ?_); rintro e w1 ⟨rfl, hi, hb, hk⟩; have HT1 := A_ (HT.out.state hi hb hk); clear hi hb hk HT; have hz1 := (blk_cell HT1.out.el 1).trans rfl) | (go_at_call 53; (with_reducible refine (impl_inRange.calls sp 0 2 false _ Hr.out).mono ?_); rintro e w2 ⟨rfl, hd⟩; have HT2 := A_ (HT1.out.below hd.below); clear hd HT1; have hz2 := (blk_cell HT2.out.st.1 2).trans rfl; have hf2 := blk_frozen HT2.out.st.1 2))
    go_end0
    exact ⟨rfl, _, _, _, HT2.out.bad true⟩
  | true =>
   rw [if_pos rfl] at H;obtain ⟨⟨s2, p2, b2⟩, ht2, H⟩ := oB_ H;obtain ⟨⟨an, av, s3, p3, b3⟩, ha, H⟩ := oB_ H;obtain ⟨hv, hhv, H⟩ := oB_ H;dsimp only at H ht2 ha hhv;have Ht2 := A_ ht2;have Ha := A_ ha;have Hv := A_ hhv;clear ht2 ha hhv;cases hv with
   | true =>
    rw [if_pos rfl] at H;simp only [Option.some.injEq, Prod.mk.injEq] at H;obtain ⟨rfl, rfl, rfl, rfl, rfl⟩ := H;go_wp2_with (first | (go_at_call 95; (with_reducible refine (impl_reader_is.calls g s p b ⟨#[32]⟩ true s1 p1 b1 w0 _ HT.out.st HT.out.bl Ht.out).mono ?_); rintro e w1 ⟨rfl, hi, hb, hk⟩; have HT1 := A_ (HT.out.state hi hb hk); clear hi hb hk HT; have hz1 := (blk_cell HT1.out.el 1).trans rfl) | (go_at_call 94; (with_reducible refine (impl_reader_take.calls g s1 p1 b1 ⟨#[32]⟩ s2 p2 b2 w0 _ HT1.out.st HT1.out.bl Ht2.out).mono ?_); rintro e w2 ⟨rfl, hi, hb, hk⟩; have HT2 := A_ (HT1.out.state hi hb hk); clear hi hb hk HT1) | (go_at_call 172; (with_reducible refine (impl_reader_attr.calls n g s2 p2 b2 an av s3 p3 _ w0 _ HT2.out.st HT2.out.bl HLL.out HEE.out Ha.out).mono ?_); rintro e w3 ⟨rfl, hi, hb, hk⟩; have HT3 := A_ (HT2.out.state hi hb hk); clear hi hb hk HT2) | ((with_reducible refine gate_dst (N := 7) rfl ?_); refine bE_ #[.string ⟨#[]⟩, .string ⟨#[]⟩] 36 ?_; intro ga hga w4 hbox hb; have HGA := A_ hga; have HBX := A_ hb; have HX := A_ hbox; obtain ⟨hy0, hy1, hf0, hf1⟩ := bk2_ hbox; clear hga hb hbox) | (go_at_call 173; have HT5 := A_ (HT3.out.below (set2 HBX.out (Nat.le_of_eq HGA.out.symm) (.string an) (.string av))); have HX5 := A_ (blk_two HX.out (.string an) (.string av)); have HNA := A_ (show (∀ k, (Value.slice An names.length cn).ownBlock = some k → k < ga) ∧ ∀ k, v3.ownBlock = some k → k < ga from ⟨fun k hk => by have := Kd.R_lt HT3.out.nr k hk; rw [HGA.out]; exact this, fun k hk => by have := Kd.R_lt HT3.out.ar k hk; rw [HGA.out]; exact this⟩); clear HT3 HX HBX; (with_reducible refine (impl_hasAttr.calls An cn names an _ _ (Kd.R_reads' HT5.out.nr).2.2 (Kd.R_reads' HT5.out.nr).2.1 Hv.out).mono ?_); rintro e w6 ⟨rfl, hb⟩; have HT6 := A_ (HT5.out.below hb); have HX6 := A_ (blk_below HX5.out hb); clear hb HT5 HX5 hy0 hy1 hf0 hf1; obtain ⟨hx0, hx1⟩ := bc2_ HX6.out; have hz2 := (blk_cell HT6.out.st.1 2).trans rfl; have hf2 := blk_frozen HT6.out.st.1 2))
    refine bodyPost_ret (results_none rfl _ _ _) rfl ?_;exact ⟨rfl, _, _, _, HT6.out.bad true⟩
   | false =>
    rw [if_neg si_] at H;cases b3 with
    | true =>
     rw [if_pos rfl] at H;simp only [Option.some.injEq, Prod.mk.injEq] at H;obtain ⟨rfl, rfl, rfl, rfl, rfl⟩ := H;go_wp2_with (first | (go_at_call 95; (with_reducible refine (impl_reader_is.calls g s p b ⟨#[32]⟩ true s1 p1 b1 w0 _ HT.out.st HT.out.bl Ht.out).mono ?_); rintro e w1 ⟨rfl, hi, hb, hk⟩; have HT1 := A_ (HT.out.state hi hb hk); clear hi hb hk HT; have hz1 := (blk_cell HT1.out.el 1).trans rfl) | (go_at_call 94; (with_reducible refine (impl_reader_take.calls g s1 p1 b1 ⟨#[32]⟩ s2 p2 b2 w0 _ HT1.out.st HT1.out.bl Ht2.out).mono ?_); rintro e w2 ⟨rfl, hi, hb, hk⟩; have HT2 := A_ (HT1.out.state hi hb hk); clear hi hb hk HT1) | (go_at_call 172; (with_reducible refine (impl_reader_attr.calls n g s2 p2 b2 an av s3 p3 _ w0 _ HT2.out.st HT2.out.bl HLL.out HEE.out Ha.out).mono ?_); rintro e w3 ⟨rfl, hi, hb, hk⟩; have HT3 := A_ (HT2.out.state hi hb hk); clear hi hb hk HT2) | ((with_reducible refine gate_dst (N := 7) rfl ?_); refine bE_ #[.string ⟨#[]⟩, .string ⟨#[]⟩] 36 ?_; intro ga hga w4 hbox hb; have HGA := A_ hga; have HBX := A_ hb; have HX := A_ hbox; obtain ⟨hy0, hy1, hf0, hf1⟩ := bk2_ hbox; clear hga hb hbox) | (go_at_call 173; have HT5 := A_ (HT3.out.below (set2 HBX.out (Nat.le_of_eq HGA.out.symm) (.string an) (.string av))); have HX5 := A_ (blk_two HX.out (.string an) (.string av)); have HNA := A_ (show (∀ k, (Value.slice An names.length cn).ownBlock = some k → k < ga) ∧ ∀ k, v3.ownBlock = some k → k < ga from ⟨fun k hk => by have := Kd.R_lt HT3.out.nr k hk; rw [HGA.out]; exact this, fun k hk => by have := Kd.R_lt HT3.out.ar k hk; rw [HGA.out]; exact this⟩); clear HT3 HX HBX; (with_reducible refine (impl_hasAttr.calls An cn names an _ _ (Kd.R_reads' HT5.out.nr).2.2 (Kd.R_reads' HT5.out.nr).2.1 Hv.out).mono ?_); rintro e w6 ⟨rfl, hb⟩; have HT6 := A_ (HT5.out.below hb); have HX6 := A_ (blk_below HX5.out hb); clear hb HT5 HX5 hy0 hy1 hf0 hf1; obtain ⟨hx0, hx1⟩ := bc2_ HX6.out; have hz2 := (blk_cell HT6.out.st.1 2).trans rfl; have hf2 := blk_frozen HT6.out.st.1 2))
     refine bodyPost_ret (results_none rfl _ _ _) rfl ?_;exact ⟨rfl, _, _, _, HT6.out⟩
    | false =>
     rw [if_neg si_] at H;split at H
     case isFalse => cases H
     case isTrue hl =>
     have HL := A_ hl;clear hl;by_cases cx : an.toList = [120, 109, 108, 110, 115]
     case pos =>
      rw [if_pos cx] at H;obtain ⟨x, hx, H⟩ := oB_ H;have Hx := A_ hx;have HH := A_ H;clear hx H;have cxb : (!(an.toList == [120, 109, 108, 110, 115])) = false := by rw [cx]; rfl
      by_cases d1 : x < 0
      case pos =>
       have HM : As9 (attrsL n about s3 p3 true (names ++ [⟨an, av⟩]) attrs x = some (r0, r1, r2, r3, r4)) := ⟨by have h := HH.out; rw [dE_ d1, Bool.true_or] at h; exact h⟩;go_wp2_with (first | (go_at_call 95; (with_reducible refine (impl_reader_is.calls g s p b ⟨#[32]⟩ true s1 p1 b1 w0 _ HT.out.st HT.out.bl Ht.out).mono ?_); rintro e w1 ⟨rfl, hi, hb, hk⟩; have HT1 := A_ (HT.out.state hi hb hk); clear hi hb hk HT; have hz1 := (blk_cell HT1.out.el 1).trans rfl) | (go_at_call 94; (with_reducible refine (impl_reader_take.calls g s1 p1 b1 ⟨#[32]⟩ s2 p2 b2 w0 _ HT1.out.st HT1.out.bl Ht2.out).mono ?_); rintro e w2 ⟨rfl, hi, hb, hk⟩; have HT2 := A_ (HT1.out.state hi hb hk); clear hi hb hk HT1) | (go_at_call 172; (with_reducible refine (impl_reader_attr.calls n g s2 p2 b2 an av s3 p3 _ w0 _ HT2.out.st HT2.out.bl HLL.out HEE.out Ha.out).mono ?_); rintro e w3 ⟨rfl, hi, hb, hk⟩; have HT3 := A_ (HT2.out.state hi hb hk); clear hi hb hk HT2) | ((with_reducible refine gate_dst (N := 7) rfl ?_); refine bE_ #[.string ⟨#[]⟩, .string ⟨#[]⟩] 36 ?_; intro ga hga w4 hbox hb; have HGA := A_ hga; have HBX := A_ hb; have HX := A_ hbox; obtain ⟨hy0, hy1, hf0, hf1⟩ := bk2_ hbox; clear hga hb hbox) | (go_at_call 173; have HT5 := A_ (HT3.out.below (set2 HBX.out (Nat.le_of_eq HGA.out.symm) (.string an) (.string av))); have HX5 := A_ (blk_two HX.out (.string an) (.string av)); have HNA := A_ (show (∀ k, (Value.slice An names.length cn).ownBlock = some k → k < ga) ∧ ∀ k, v3.ownBlock = some k → k < ga from ⟨fun k hk => by have := Kd.R_lt HT3.out.nr k hk; rw [HGA.out]; exact this, fun k hk => by have := Kd.R_lt HT3.out.ar k hk; rw [HGA.out]; exact this⟩); clear HT3 HX HBX; (with_reducible refine (impl_hasAttr.calls An cn names an _ _ (Kd.R_reads' HT5.out.nr).2.2 (Kd.R_reads' HT5.out.nr).2.1 Hv.out).mono ?_); rintro e w6 ⟨rfl, hb⟩; have HT6 := A_ (HT5.out.below hb); have HX6 := A_ (blk_below HX5.out hb); clear hb HT5 HX5 hy0 hy1 hf0 hf1; obtain ⟨hx0, hx1⟩ := bc2_ HX6.out; have hz2 := (blk_cell HT6.out.st.1 2).trans rfl; have hf2 := blk_frozen HT6.out.st.1 2) | ((with_reducible refine gate_builtin (b := .append) (xs := #[.tmp 25, .tmp 27]) rfl ?_); at_builtin; go_loud (refine Kd.R_append k36 (w0 := w0) w0.heap.size rfl (.tmp 25) (.tmp 27) 40 36 (.agg #[(.string ⟨#[]⟩), (.string ⟨#[]⟩)]) 32 rfl Tryz.underlying40 info36 rfl de_ om_ (.slice An names.length cn) names (⟨an, av⟩ : S36) [.string an, .string av] (fun k_ => w.heap.size ≤ k_ ∧ some k_ ≠ v3.ownBlock) (fun _ => False) rfl rfl ?aP (fun _ hk => hk.elim) ?aF ?aO ?aB ?aS ?aL ?_); (case aP => exact k36_mkM _ _ _ (⟨an, av⟩ : S36)); (case aF => exact HT6.out.freshN); (case aO => exact HT6.out.nr); (case aB => exact HT6.out.bl); (case aS => exact HT6.out.bl.size); (case aL => have := HL.out.1; omega); intro v6 w7 ho hb hg hat; have HT7 := A_ (HT6.out.names_ ho hb hg hat); have HX7 := A_ (blk_grown HX6.out hg (fun e_ => by have := HNA.out.1 ga e_.symm; omega)); clear ho hb hg hat HT6 HX6 hx0 hx1 hz2 hf2; obtain ⟨hx0, hx1⟩ := bc2_ HX7.out) | (go_at_call 174; (with_reducible refine (impl_spaceOf.calls n av x _ Hx.out).mono ?_); rintro e w8 ⟨rfl, hd⟩; have HT8 := A_ (HT7.out.below hd.below); clear hd HT7 HX7 hx0 hx1; have hze := (blk_cell HT8.out.el 1).trans rfl; have hfe := blk_frozen HT8.out.el 1; have hz2 := (blk_cell HT8.out.st.1 2).trans rfl; have hf2 := blk_frozen HT8.out.st.1 2; have hn1 := eq_false HT8.out.ne; have hn2 := eq_false (Ne.symm HT8.out.ne)))
       go_roundg n
       case measure => omega
       case rel => exact ⟨_, _, _, _, _, _, _, HM, ⟨(HT8.out.space x).bad true⟩⟩
      case neg =>
      by_cases d2 : x = about
      case pos =>
       have d2b : (x == about) = true := bQ_ d2;have HM : As9 (attrsL n about s3 p3 true (names ++ [⟨an, av⟩]) attrs x = some (r0, r1, r2, r3, r4)) := ⟨by have h := HH.out; rw [dE_ d2, Bool.or_true] at h; exact h⟩;clear d2;go_wp2_with (first | (go_at_call 95; (with_reducible refine (impl_reader_is.calls g s p b ⟨#[32]⟩ true s1 p1 b1 w0 _ HT.out.st HT.out.bl Ht.out).mono ?_); rintro e w1 ⟨rfl, hi, hb, hk⟩; have HT1 := A_ (HT.out.state hi hb hk); clear hi hb hk HT; have hz1 := (blk_cell HT1.out.el 1).trans rfl) | (go_at_call 94; (with_reducible refine (impl_reader_take.calls g s1 p1 b1 ⟨#[32]⟩ s2 p2 b2 w0 _ HT1.out.st HT1.out.bl Ht2.out).mono ?_); rintro e w2 ⟨rfl, hi, hb, hk⟩; have HT2 := A_ (HT1.out.state hi hb hk); clear hi hb hk HT1) | (go_at_call 172; (with_reducible refine (impl_reader_attr.calls n g s2 p2 b2 an av s3 p3 _ w0 _ HT2.out.st HT2.out.bl HLL.out HEE.out Ha.out).mono ?_); rintro e w3 ⟨rfl, hi, hb, hk⟩; have HT3 := A_ (HT2.out.state hi hb hk); clear hi hb hk HT2) | ((with_reducible refine gate_dst (N := 7) rfl ?_); refine bE_ #[.string ⟨#[]⟩, .string ⟨#[]⟩] 36 ?_; intro ga hga w4 hbox hb; have HGA := A_ hga; have HBX := A_ hb; have HX := A_ hbox; obtain ⟨hy0, hy1, hf0, hf1⟩ := bk2_ hbox; clear hga hb hbox) | (go_at_call 173; have HT5 := A_ (HT3.out.below (set2 HBX.out (Nat.le_of_eq HGA.out.symm) (.string an) (.string av))); have HX5 := A_ (blk_two HX.out (.string an) (.string av)); have HNA := A_ (show (∀ k, (Value.slice An names.length cn).ownBlock = some k → k < ga) ∧ ∀ k, v3.ownBlock = some k → k < ga from ⟨fun k hk => by have := Kd.R_lt HT3.out.nr k hk; rw [HGA.out]; exact this, fun k hk => by have := Kd.R_lt HT3.out.ar k hk; rw [HGA.out]; exact this⟩); clear HT3 HX HBX; (with_reducible refine (impl_hasAttr.calls An cn names an _ _ (Kd.R_reads' HT5.out.nr).2.2 (Kd.R_reads' HT5.out.nr).2.1 Hv.out).mono ?_); rintro e w6 ⟨rfl, hb⟩; have HT6 := A_ (HT5.out.below hb); have HX6 := A_ (blk_below HX5.out hb); clear hb HT5 HX5 hy0 hy1 hf0 hf1; obtain ⟨hx0, hx1⟩ := bc2_ HX6.out; have hz2 := (blk_cell HT6.out.st.1 2).trans rfl; have hf2 := blk_frozen HT6.out.st.1 2) | ((with_reducible refine gate_builtin (b := .append) (xs := #[.tmp 25, .tmp 27]) rfl ?_); at_builtin; go_loud (refine Kd.R_append k36 (w0 := w0) w0.heap.size rfl (.tmp 25) (.tmp 27) 40 36 (.agg #[(.string ⟨#[]⟩), (.string ⟨#[]⟩)]) 32 rfl Tryz.underlying40 info36 rfl de_ om_ (.slice An names.length cn) names (⟨an, av⟩ : S36) [.string an, .string av] (fun k_ => w.heap.size ≤ k_ ∧ some k_ ≠ v3.ownBlock) (fun _ => False) rfl rfl ?aP (fun _ hk => hk.elim) ?aF ?aO ?aB ?aS ?aL ?_); (case aP => exact k36_mkM _ _ _ (⟨an, av⟩ : S36)); (case aF => exact HT6.out.freshN); (case aO => exact HT6.out.nr); (case aB => exact HT6.out.bl); (case aS => exact HT6.out.bl.size); (case aL => have := HL.out.1; omega); intro v6 w7 ho hb hg hat; have HT7 := A_ (HT6.out.names_ ho hb hg hat); have HX7 := A_ (blk_grown HX6.out hg (fun e_ => by have := HNA.out.1 ga e_.symm; omega)); clear ho hb hg hat HT6 HX6 hx0 hx1 hz2 hf2; obtain ⟨hx0, hx1⟩ := bc2_ HX7.out) | (go_at_call 174; (with_reducible refine (impl_spaceOf.calls n av x _ Hx.out).mono ?_); rintro e w8 ⟨rfl, hd⟩; have HT8 := A_ (HT7.out.below hd.below); clear hd HT7 HX7 hx0 hx1; have hze := (blk_cell HT8.out.el 1).trans rfl; have hfe := blk_frozen HT8.out.el 1; have hz2 := (blk_cell HT8.out.st.1 2).trans rfl; have hf2 := blk_frozen HT8.out.st.1 2; have hn1 := eq_false HT8.out.ne; have hn2 := eq_false (Ne.symm HT8.out.ne)))
       go_roundg n
       case measure => omega
       case rel => exact ⟨_, _, _, _, _, _, _, HM, ⟨(HT8.out.space x).bad true⟩⟩
      case neg =>
       have d2b : (x == about) = false := bN_ d2;have HM : As9 (attrsL n about s3 p3 false (names ++ [⟨an, av⟩]) attrs x = some (r0, r1, r2, r3, r4)) := ⟨by have h := HH.out; rw [dF_ d1, dF_ d2] at h; exact h⟩;clear d2;go_wp2_with (first | (go_at_call 95; (with_reducible refine (impl_reader_is.calls g s p b ⟨#[32]⟩ true s1 p1 b1 w0 _ HT.out.st HT.out.bl Ht.out).mono ?_); rintro e w1 ⟨rfl, hi, hb, hk⟩; have HT1 := A_ (HT.out.state hi hb hk); clear hi hb hk HT; have hz1 := (blk_cell HT1.out.el 1).trans rfl) | (go_at_call 94; (with_reducible refine (impl_reader_take.calls g s1 p1 b1 ⟨#[32]⟩ s2 p2 b2 w0 _ HT1.out.st HT1.out.bl Ht2.out).mono ?_); rintro e w2 ⟨rfl, hi, hb, hk⟩; have HT2 := A_ (HT1.out.state hi hb hk); clear hi hb hk HT1) | (go_at_call 172; (with_reducible refine (impl_reader_attr.calls n g s2 p2 b2 an av s3 p3 _ w0 _ HT2.out.st HT2.out.bl HLL.out HEE.out Ha.out).mono ?_); rintro e w3 ⟨rfl, hi, hb, hk⟩; have HT3 := A_ (HT2.out.state hi hb hk); clear hi hb hk HT2) | ((with_reducible refine gate_dst (N := 7) rfl ?_); refine bE_ #[.string ⟨#[]⟩, .string ⟨#[]⟩] 36 ?_; intro ga hga w4 hbox hb; have HGA := A_ hga; have HBX := A_ hb; have HX := A_ hbox; obtain ⟨hy0, hy1, hf0, hf1⟩ := bk2_ hbox; clear hga hb hbox) | (go_at_call 173; have HT5 := A_ (HT3.out.below (set2 HBX.out (Nat.le_of_eq HGA.out.symm) (.string an) (.string av))); have HX5 := A_ (blk_two HX.out (.string an) (.string av)); have HNA := A_ (show (∀ k, (Value.slice An names.length cn).ownBlock = some k → k < ga) ∧ ∀ k, v3.ownBlock = some k → k < ga from ⟨fun k hk => by have := Kd.R_lt HT3.out.nr k hk; rw [HGA.out]; exact this, fun k hk => by have := Kd.R_lt HT3.out.ar k hk; rw [HGA.out]; exact this⟩); clear HT3 HX HBX; (with_reducible refine (impl_hasAttr.calls An cn names an _ _ (Kd.R_reads' HT5.out.nr).2.2 (Kd.R_reads' HT5.out.nr).2.1 Hv.out).mono ?_); rintro e w6 ⟨rfl, hb⟩; have HT6 := A_ (HT5.out.below hb); have HX6 := A_ (blk_below HX5.out hb); clear hb HT5 HX5 hy0 hy1 hf0 hf1; obtain ⟨hx0, hx1⟩ := bc2_ HX6.out; have hz2 := (blk_cell HT6.out.st.1 2).trans rfl; have hf2 := blk_frozen HT6.out.st.1 2) | ((with_reducible refine gate_builtin (b := .append) (xs := #[.tmp 25, .tmp 27]) rfl ?_); at_builtin; go_loud (refine Kd.R_append k36 (w0 := w0) w0.heap.size rfl (.tmp 25) (.tmp 27) 40 36 (.agg #[(.string ⟨#[]⟩), (.string ⟨#[]⟩)]) 32 rfl Tryz.underlying40 info36 rfl de_ om_ (.slice An names.length cn) names (⟨an, av⟩ : S36) [.string an, .string av] (fun k_ => w.heap.size ≤ k_ ∧ some k_ ≠ v3.ownBlock) (fun _ => False) rfl rfl ?aP (fun _ hk => hk.elim) ?aF ?aO ?aB ?aS ?aL ?_); (case aP => exact k36_mkM _ _ _ (⟨an, av⟩ : S36)); (case aF => exact HT6.out.freshN); (case aO => exact HT6.out.nr); (case aB => exact HT6.out.bl); (case aS => exact HT6.out.bl.size); (case aL => have := HL.out.1; omega); intro v6 w7 ho hb hg hat; have HT7 := A_ (HT6.out.names_ ho hb hg hat); have HX7 := A_ (blk_grown HX6.out hg (fun e_ => by have := HNA.out.1 ga e_.symm; omega)); clear ho hb hg hat HT6 HX6 hx0 hx1 hz2 hf2; obtain ⟨hx0, hx1⟩ := bc2_ HX7.out) | (go_at_call 174; (with_reducible refine (impl_spaceOf.calls n av x _ Hx.out).mono ?_); rintro e w8 ⟨rfl, hd⟩; have HT8 := A_ (HT7.out.below hd.below); clear hd HT7 HX7 hx0 hx1; have hze := (blk_cell HT8.out.el 1).trans rfl; have hfe := blk_frozen HT8.out.el 1; have hz2 := (blk_cell HT8.out.st.1 2).trans rfl; have hf2 := blk_frozen HT8.out.st.1 2; have hn1 := eq_false HT8.out.ne; have hn2 := eq_false (Ne.symm HT8.out.ne)))
       go_roundg n
       case measure => omega
       case rel => exact ⟨_, _, _, _, _, _, _, HM, ⟨HT8.out.space x⟩⟩
     case neg =>
      rw [if_neg cx] at H;have HH := A_ H;clear H;have cxb : (!(an.toList == [120, 109, 108, 110, 115])) = true := by rw [bN_ cx]; rfl
      go_wp2_with (first | (go_at_call 95; (with_reducible refine (impl_reader_is.calls g s p b ⟨#[32]⟩ true s1 p1 b1 w0 _ HT.out.st HT.out.bl Ht.out).mono ?_); rintro e w1 ⟨rfl, hi, hb, hk⟩; have HT1 := A_ (HT.out.state hi hb hk); clear hi hb hk HT; have hz1 := (blk_cell HT1.out.el 1).trans rfl) | (go_at_call 94; (with_reducible refine (impl_reader_take.calls g s1 p1 b1 ⟨#[32]⟩ s2 p2 b2 w0 _ HT1.out.st HT1.out.bl Ht2.out).mono ?_); rintro e w2 ⟨rfl, hi, hb, hk⟩; have HT2 := A_ (HT1.out.state hi hb hk); clear hi hb hk HT1) | (go_at_call 172; (with_reducible refine (impl_reader_attr.calls n g s2 p2 b2 an av s3 p3 _ w0 _ HT2.out.st HT2.out.bl HLL.out HEE.out Ha.out).mono ?_); rintro e w3 ⟨rfl, hi, hb, hk⟩; have HT3 := A_ (HT2.out.state hi hb hk); clear hi hb hk HT2) | ((with_reducible refine gate_dst (N := 7) rfl ?_); refine bE_ #[.string ⟨#[]⟩, .string ⟨#[]⟩] 36 ?_; intro ga hga w4 hbox hb; have HGA := A_ hga; have HBX := A_ hb; have HX := A_ hbox; obtain ⟨hy0, hy1, hf0, hf1⟩ := bk2_ hbox; clear hga hb hbox) | (go_at_call 173; have HT5 := A_ (HT3.out.below (set2 HBX.out (Nat.le_of_eq HGA.out.symm) (.string an) (.string av))); have HX5 := A_ (blk_two HX.out (.string an) (.string av)); have HNA := A_ (show (∀ k, (Value.slice An names.length cn).ownBlock = some k → k < ga) ∧ ∀ k, v3.ownBlock = some k → k < ga from ⟨fun k hk => by have := Kd.R_lt HT3.out.nr k hk; rw [HGA.out]; exact this, fun k hk => by have := Kd.R_lt HT3.out.ar k hk; rw [HGA.out]; exact this⟩); clear HT3 HX HBX; (with_reducible refine (impl_hasAttr.calls An cn names an _ _ (Kd.R_reads' HT5.out.nr).2.2 (Kd.R_reads' HT5.out.nr).2.1 Hv.out).mono ?_); rintro e w6 ⟨rfl, hb⟩; have HT6 := A_ (HT5.out.below hb); have HX6 := A_ (blk_below HX5.out hb); clear hb HT5 HX5 hy0 hy1 hf0 hf1; obtain ⟨hx0, hx1⟩ := bc2_ HX6.out; have hz2 := (blk_cell HT6.out.st.1 2).trans rfl; have hf2 := blk_frozen HT6.out.st.1 2) | ((with_reducible refine gate_builtin (b := .append) (xs := #[.tmp 25, .tmp 27]) rfl ?_); at_builtin; go_loud (refine Kd.R_append k36 (w0 := w0) w0.heap.size rfl (.tmp 25) (.tmp 27) 40 36 (.agg #[(.string ⟨#[]⟩), (.string ⟨#[]⟩)]) 32 rfl Tryz.underlying40 info36 rfl de_ om_ (.slice An names.length cn) names (⟨an, av⟩ : S36) [.string an, .string av] (fun k_ => w.heap.size ≤ k_ ∧ some k_ ≠ v3.ownBlock) (fun _ => False) rfl rfl ?aP (fun _ hk => hk.elim) ?aF ?aO ?aB ?aS ?aL ?_); (case aP => exact k36_mkM _ _ _ (⟨an, av⟩ : S36)); (case aF => exact HT6.out.freshN); (case aO => exact HT6.out.nr); (case aB => exact HT6.out.bl); (case aS => exact HT6.out.bl.size); (case aL => have := HL.out.1; omega); intro v6 w7 ho hb hg hat; have HT7 := A_ (HT6.out.names_ ho hb hg hat); have HX7 := A_ (blk_grown HX6.out hg (fun e_ => by have := HNA.out.1 ga e_.symm; omega)); clear ho hb hg hat HT6 HX6 hx0 hx1 hz2 hf2; obtain ⟨hx0, hx1⟩ := bc2_ HX7.out))
      have HTd := A_ HT7.out.drew;have HXd := A_ (blk_drew HX7.out);clear HT7 HX7 hx0 hx1;refine start_ (n := 11) (S := fun w' => w'.cell? ⟨ge, 3, none⟩ = some v3 ∧ w'.cell? ⟨ga, 0, none⟩ = some (.string an) ∧ w'.cell? ⟨ga, 1, none⟩ = some (.string av)) (ds := [10]) (tS 11 0) (by kernel_rfl) rfl rfl ⟨(blk_cell HTd.out.el 3).trans rfl, (blk_cell HXd.out 0).trans rfl, (blk_cell HXd.out 1).trans rfl⟩ (fun hHeld => ?_);generalize World.drew _ = wr0 at HTd HXd hHeld ⊢;iterate 4 refine pq_ ?_
      refine tq_ rfl (by rintro w' ⟨s0, s1, s2⟩; go_simp; with_reducible rfl) ?_;refine tq_ rfl (by rintro w' ⟨s0, s1, s2⟩; go_simp; with_reducible rfl) ?_;refine n1_ 6 (tS 11 7) rfl fun K hK => ?_
      refine lit_step ?hw (v := .slice (some ⟨wr0.heap.size, 0, none⟩) 1 1) (w1' := wr0.alloc (.cells #[.string an, .string av] 36)) ?hr ?_; (case hw => rfl); (case hr => first | (go_simp; done) | (go_simp; rfl));intro wr6 hwr6;refine hK.out _ _ (by rw [hwr6]; exact ⟨(blk_cell (blk_alloc HTd.out.el _) 3).trans rfl, (blk_cell (blk_alloc HXd.out _) 0).trans rfl, (blk_cell (blk_alloc HXd.out _) 1).trans rfl⟩) (fun hHeld => ?_);clear hK K;refine nm_ ?_;refine n1_ 7 (tS 11 8) rfl fun K hK => ?_
      subst hwr6; refine Kd.R_append_step k36 (w0 := w0) w0.heap.size ?hw (.tmp 36) (.tmp 38) 40 36 (.agg #[(.string ⟨#[]⟩), (.string ⟨#[]⟩)]) 32 rfl Tryz.underlying40 info36 rfl de_ om_ v3 attrs (⟨an, av⟩ : S36) [.string an, .string av] (fun k_ => w.heap.size ≤ k_ ∧ some k_ ≠ v6.ownBlock) (fun _ => False) rfl rfl ?aP (fun _ hk => hk.elim) ?aF ?aO ?aB ?aS ?aL ?_; (case hw => rfl); (case aP => exact k36_mkM _ _ _ (⟨an, av⟩ : S36)); (case aF => exact HTd.out.freshA); (case aO => exact HTd.out.ar); (case aB => exact HTd.out.bl); (case aS => exact HTd.out.bl.size); (case aL => have := HL.out.2; omega);intro v3' wr7 ho hb hg hat;obtain ⟨A3, c3, rfl⟩ := Kd.R_slice ho;have HXe := A_ (blk_grown HTd.out.el hg (Kd.R_ne HTd.out.ar HTd.out.el de_));have HXb := A_ (blk_grown HXd.out hg (fun e_ => by have := HNA.out.2 ga e_.symm; omega));have HTe := A_ (HTd.out.attrs_ ho hb hg hat);clear ho hb hg hat;refine hK.out _ _ ⟨(blk_cell HXe.out 3).trans rfl, (blk_cell HXb.out 0).trans rfl, (blk_cell HXb.out 1).trans rfl⟩ (fun hHeld => ?_);clear hK K;refine nm_ ?_;refine pq_ ?_;refine pq_ ?_;refine last_ (i := 10) (N := none) (tS 11 11) rfl rfl (by kernel_rfl) de_ (fun K hK => ?_);refine put_step1 ?hw ?hN 40 (.tmp 41) (.tmp 39) ?ho (g := ge) (j := 3) (u := .slice A3 (attrs ++ [(⟨an, av⟩ : S36)]).length c3) ?ha ?hx rfl (by kernel_rfl) HXe.out si_ rfl ?_; (case hw => rfl); (case hN => rfl); (case ho => rfl); (case ha => rfl); (case hx => rfl);refine hK.out _ _ ?_;clear hK K;refine done_ (by kernel_rfl) ?_;go_wp2
      go_roundg n
      case measure => omega
      case rel => exact ⟨_, _, _, _, _, _, _, HH, HTe⟩
end Go.Proofs.YtkmmoheeoblmnaaGreatDoor.A
namespace Go.Proofs.YtkmmoheeoblmnaaGreatDoor.A
open Go.RowKit Go.Proofs.YtkmmoheeoblmnaaGreatDoorW.PrintWords Go.Proofs.YtkmmoheeoblmnaaGreatDoorW.PrintLast Go.Proofs.YtkmmoheeoblmnaaGreatDoorW.PrintMore
attribute [local go_sem] max2_int min2_int max_two min_two max_three min_three max_four min_four
set_option linter.unusedVariables false
set_option linter.unusedSimpArgs false
def impl_reader_text.f (k : Nat) (s : BA) (p : Int) (b : Bool) : Option (Int × ByteArray × ByteArray × Int × Bool) :=
 (impl_XmlText.f k s p ⟨#[60]⟩).bind fun q => if q.2 ≤ p then some (0, ⟨#[]⟩, s, p, true) else some (2, q.1, s, q.2, b)
theorem impl_reader_text.mono : ∀ s p b k, LeO (impl_reader_text.f k s p b) (impl_reader_text.f (k + 1) s p b) := fun s p b k => LeO.bind (impl_XmlText.mono _ _ _ _) (fun _ => LeO.refl _)
theorem impl_reader_text.calls (k : Nat) (g : Nat) (s : BA) (p : Int) (b : Bool) (r0 : Int) (r1 r2 : BA) (r3 : Int) (r4 : Bool) (w0 w : World) (hI : IsS93 w0 w g s p b) (hB : Below w0.heap.size w0 w) (hL : LibOk w0) (hE : LibErr w0) (h : impl_reader_text.f k s p b = some (r0, r1, r2, r3, r4)) :
  Calls Tryz.prog 175 #[.pointer (some ⟨g, 0, none⟩)] w fun e w' => e = .returned (.agg #[.int .i64 r0, .int .i64 0, .string ⟨#[]⟩, .slice none 0 0, .string r1, .slice none 0 0]) ∧ IsS93 w0 w' g r2 r3 r4 ∧ Below w0.heap.size w0 w' ∧ KeepBut w w' g none := by
 unfold impl_reader_text.f at h;have hu := Tryz.underlying43;obtain ⟨q, hq, h⟩ := oB_ h;have HQ := A_ hq;have HH := A_ h;have HLL := A_ hL;have HEE := A_ hE;clear hq h hL hE;have hz : (.cells #[.int .i64 0, .int .i64 0, .string ⟨#[]⟩, .slice none 0 0, .string ⟨#[]⟩, .slice none 0 0] 43 : Obj) = .cells #[.int .i64 0, .int .i64 0, .string ⟨#[]⟩, .slice none 0 0, .string ⟨#[]⟩, .slice none 0 0] 43 := rfl;clear hz;obtain ⟨W1, hW1⟩ : ∃ W1, W1 = w.alloc (.cells #[.int .i64 0, .int .i64 0, .string ⟨#[]⟩, .slice none 0 0, .string ⟨#[]⟩, .slice none 0 0] 43) := ⟨_, rfl⟩;have HI1 : As9 (IsS93 w0 W1.drew g s p b) := ⟨by rw [hW1]; exact (hI.alloc _).drew⟩;have HB1 : As9 (Below w0.heap.size w0 W1.drew) := ⟨by rw [hW1]; exact below_drew (bA9 hB _)⟩;have HK1 : As9 (KeepBut w W1.drew g none) := ⟨by rw [hW1]; exact keep_drew (keep_alloc (KeepBut.refl w g none) _)⟩;have HX1 : As9 (W1.drew.heap[w.heap.size]? = some (.cells #[.int .i64 0, .int .i64 0, .string ⟨#[]⟩, .slice none 0 0, .string ⟨#[]⟩, .slice none 0 0] 43 (0, 0))) := ⟨by rw [hW1]; exact heap_alloc_new w _⟩;obtain ⟨gx, hgx⟩ : ∃ gx, gx = w.heap.size := ⟨_, rfl⟩;rw [← hgx] at HX1;have HGX : As9 (gx = w.heap.size ∧ g < gx) := ⟨hgx, by rw [hgx]; exact hI.lt⟩;obtain ⟨HG, hge⟩ := HI1.out;have hc0 := cellS93_0 HG;have hc1 := cellS93_1 HG;clear HG hge hB hI;go_enter Tryz.func175, Tryz.ntmps175
 go_wp2
 rw [← hW1, ← hgx];clear hW1 hgx;refine start_ (n := 14) (S := fun w' => w'.cell? ⟨g, 0, none⟩ = some (.string s) ∧ w'.cell? ⟨g, 1, none⟩ = some (.int .i64 p)) (ds := [8]) (tS 14 0) (by kernel_rfl) rfl rfl ⟨hc0, hc1⟩ (fun hHeld => ?_);generalize World.drew _ = wr0 at HI1 HB1 HK1 HX1 hHeld ⊢;iterate 3 refine pq_ ?_
 refine pg_ 4 (tB 14 23) ?_;refine pg_ 5 (tB 14 55) ?_;refine pg_ 6 (tB 14 119) ?_;refine tg_ 3 (tS 14 7) rfl (by rintro w' ⟨s0, s1⟩; go_simp; with_reducible rfl) ?_;refine tq_ rfl (by rintro w' ⟨s0, s1⟩; go_simp; with_reducible rfl) ?_;refine last_ (i := 8) (N := some 14) (tS 14 9) rfl rfl (by kernel_rfl) de_ (fun K hK => ?_);refine gS_ Tryz.func22 #[.string s, .int .i64 p, .string ⟨#[60]⟩] ?_;with_reducible refine (impl_XmlText.calls k s p ⟨#[60]⟩ q.1 q.2 _ (HLL.out.below HB1.out) (HEE.out.below HB1.out) HQ.out).mono ?_
 rintro e wr8 ⟨rfl, hb⟩;refine ⟨_, rfl, ?_⟩;have HI2 := A_ (HI1.out.below hb);have HB2 := A_ (below_step HB1.out hb);have HK2 := A_ (HK1.out.trans (KeepBut.of_below hb g none) (.inl rfl));have HX2 := A_ (blk_below HX1.out hb);clear hb HI1 HB1 HK1 HX1;refine hK.out _ _ ?_;clear hK K;refine nm_ ?_;iterate 5 refine pq_ ?_
 refine done_ (by kernel_rfl) ?_;obtain ⟨HG, hge⟩ := HI2.out;have hc0' := cellS93_0 HG;have hc1' := cellS93_1 HG;have hc2' := cellS93_2 HG;have hf1 := blk_frozen HG 1;have hf2 := blk_frozen HG 2;clear HG hge;obtain ⟨hz0, hz1, hz2, hz3, hz4, hz5, hy0, hy1, hy2, hy3, hy4, hy5⟩ := bk6_ HX2.out;have hne1 : (g = gx) = False := eq_false (Nat.ne_of_lt HGX.out.2);have hne2 : (gx = g) = False := eq_false (Nat.ne_of_gt HGX.out.2);have H := HH.out;rcases ic_ H with ⟨c, H⟩ | ⟨c, H⟩
 ·simp only [Option.some.injEq, Prod.mk.injEq] at H;obtain ⟨rfl, rfl, rfl, rfl, rfl⟩ := H;go_wp2
  refine bodyPost_ret (results_single rfl (.cell gx 43 #[.int .i64 0, .int .i64 0, .string ⟨#[]⟩, .slice none 0 0, .string ⟨#[]⟩, .slice none 0 0] (0, 0) _ rfl (blk_six (blk_far HX2.out (p := ⟨g, 2, none⟩) (Nat.ne_of_gt HGX.out.2) _) _ _ _ _ _ _) hu rfl (by kernel_rfl) .nil)) rfl ?_;exact ⟨rfl, st_six (HI2.out.set_2 _) (Nat.ne_of_lt HGX.out.2) _ _ _ _ _ _, below_six (below_set HB2.out HI2.out.2) (Nat.le_trans (Nat.le_trans HI2.out.2 (Nat.le_of_lt HGX.out.2)) (Nat.le_refl _)) _ _ _ _ _ _, keep_six (HK2.out.set_ _ _) (Nat.le_of_eq HGX.out.1.symm) _ _ _ _ _ _⟩
 ·simp only [Option.some.injEq, Prod.mk.injEq] at H;obtain ⟨rfl, rfl, rfl, rfl, rfl⟩ := H;go_wp2
  refine bodyPost_ret (results_single rfl (.cell gx 43 #[.int .i64 2, .int .i64 0, .string ⟨#[]⟩, .slice none 0 0, .string q.1, .slice none 0 0] (0, 0) _ rfl (blk_six (blk_far HX2.out (p := ⟨g, 1, none⟩) (Nat.ne_of_gt HGX.out.2) _) _ _ _ _ _ _) hu rfl (by kernel_rfl) .nil)) rfl ?_;exact ⟨rfl, st_six (HI2.out.set_1 _) (Nat.ne_of_lt HGX.out.2) _ _ _ _ _ _, below_six (below_set HB2.out HI2.out.2) (Nat.le_trans (Nat.le_trans HI2.out.2 (Nat.le_of_lt HGX.out.2)) (Nat.le_refl _)) _ _ _ _ _ _, keep_six (HK2.out.set_ _ _) (Nat.le_of_eq HGX.out.1.symm) _ _ _ _ _ _⟩
end Go.Proofs.YtkmmoheeoblmnaaGreatDoor.A
