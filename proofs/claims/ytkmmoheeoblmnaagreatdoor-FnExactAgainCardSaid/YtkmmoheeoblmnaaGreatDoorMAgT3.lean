-- joined by wip/tools/shake.py
import Derived.Test.YtkmmoheeoblmnaaGreatDoorVAgTW9
import Derived.Test.YtkmmoheeoblmnaaGreatDoorMAgT0
import Derived.Test.YtkmmoheeoblmnaaGreatDoorMAgT2
import Derived.Test.YtkmmoheeoblmnaaGreatDoorMAgT1
set_option maxHeartbeats 16000000
set_option maxRecDepth 100000
namespace Go.Proofs.YtkmmoheeoblmnaaGreatDoor.A
open Go.RowKit Go.Proofs.YtkmmoheeoblmnaaGreatDoorW.PrintWords Go.Proofs.YtkmmoheeoblmnaaGreatDoorW.PrintLast Go.Proofs.YtkmmoheeoblmnaaGreatDoorW.PrintMore
attribute [local go_sem] max2_int min2_int max_two min_two max_three min_three max_four min_four
set_option linter.unusedVariables false
set_option linter.unusedSimpArgs false
section
variable {P : Program} {ops : Array Oper} {o : Oper} {a : Act} {Q : Exit → Act → World → Prop} {Kc : Act → World → Prop}
theorem put_step {W : World} (hw : Region.wanted o (yielded ops a.tmps) = true) (hN : o.dst = none) (t : TypeId) (p x : Operand) (ho : o.op = .store t p x) {g o' : Nat} {u : Value} {seg : List Value} {cur : Array Value} {e : TypeId}
  (haddr : a.eval p = .pointer (some ⟨g, o', none⟩)) (hx : a.eval x = u) (hu : u.cells.toList = seg) (ht : (P.info? t).map (·.size) = some seg.length) (hh : W.heap[g]? = some (.cells cur e (0, 0))) (hl : o' + seg.length ≤ cur.size) (h1 : ∀ q ∈ seg, q.oneCell' = true)
  (h : Kc a (W.setCells g o' seg)) : if Region.wanted o (yielded ops a.tmps) = true then Oper.wp P o a W Kc Q else Kc (a.put none undef) W := by
 rw [if_pos hw];have hrun : (Instr.storeAt t (.pointer (some ⟨g, o', none⟩)) u).run P W = .ok () (W.setCells g o' seg) := run_store_run t u seg hh hu ht hl h1;unfold Oper.wp execOp;simp only [ho, haddr, hx, Sem.run_bind, Sem.run_pure, Result.andThen_ok, hrun];show Kc (a.put o.dst undef) _;rw [hN];exact h
theorem put_step2 {W : World} (hw : Region.wanted o (yielded ops a.tmps) = true) (hN : o.dst = none) (t : TypeId) (p x : Operand) (ho : o.op = .store t p x) {g : Nat} {u0 u1 a0 a1 : Value} {e : TypeId}
  (haddr : a.eval p = .pointer (some ⟨g, 0, none⟩)) (hx : a.eval x = .agg #[u0, u1]) (ht : (P.info? t).map (·.size) = some 2) (hh : W.heap[g]? = some (.cells #[a0, a1] e (0, 0))) (h0 : u0.oneCell' = true) (h1 : u1.oneCell' = true)
  (h : Kc a ((W.setCell ⟨g, 0, none⟩ u0).setCell ⟨g, 1, none⟩ u1)) : if Region.wanted o (yielded ops a.tmps) = true then Oper.wp P o a W Kc Q else Kc (a.put none undef) W :=
 put_step hw hN t p x ho haddr hx (seg := [u0, u1]) rfl ht hh si_ (by intro q hq; simp at hq; rcases hq with rfl | rfl <;> assumption) h
theorem put_step1 {W : World} (hw : Region.wanted o (yielded ops a.tmps) = true) (hN : o.dst = none) (t : TypeId) (p x : Operand) (ho : o.op = .store t p x) {g j : Nat} {u : Value} {cur : Array Value} {e : TypeId}
  (haddr : a.eval p = .pointer (some ⟨g, j, none⟩)) (hx : a.eval x = u) (hu : u.cells.toList = [u]) (ht : (P.info? t).map (·.size) = some 1) (hh : W.heap[g]? = some (.cells cur e (0, 0))) (hj : j + 1 ≤ cur.size) (h1 : u.oneCell' = true)
  (h : Kc a (W.setCell ⟨g, j, none⟩ u)) : if Region.wanted o (yielded ops a.tmps) = true then Oper.wp P o a W Kc Q else Kc (a.put none undef) W :=
 put_step hw hN t p x ho haddr hx (seg := [u]) hu ht hh hj (by intro q hq; simp at hq; rw [hq]; exact h1) h
end
theorem blk_two {w : World} {g : Nat} {t : TypeId} {a0 a1 : Value} (h : w.heap[g]? = some (.cells #[a0, a1] t (0, 0))) (u0 u1 : Value) :
  ((w.setCell ⟨g, 0, none⟩ u0).setCell ⟨g, 1, none⟩ u1).heap[g]? = some (.cells #[u0, u1] t (0, 0)) := blk_put (blk_put h 0 u0 rfl) 1 u1 rfl
theorem st_two {w0 w : World} {g gx : Nat} {s : BA} {p : Int} {b : Bool} (h : IsS93 w0 w g s p b) (hne : g ≠ gx) (u0 u1 : Value) :
  IsS93 w0 ((w.setCell ⟨gx, 0, none⟩ u0).setCell ⟨gx, 1, none⟩ u1) g s p b := (h.far (p := ⟨gx, 0, none⟩) hne u0).far (p := ⟨gx, 1, none⟩) hne u1
theorem below_two {w0 w : World} {gx : Nat} (h : Below w0.heap.size w0 w) (hg : w0.heap.size ≤ gx) (u0 u1 : Value) :
  Below w0.heap.size w0 ((w.setCell ⟨gx, 0, none⟩ u0).setCell ⟨gx, 1, none⟩ u1) := below_set (below_set h hg) hg
theorem keep_two {w W : World} {g gx : Nat} (h : KeepBut w W g none) (hg : w.heap.size ≤ gx) (u0 u1 : Value) :
  KeepBut w ((W.setCell ⟨gx, 0, none⟩ u0).setCell ⟨gx, 1, none⟩ u1) g none := keep_far (p := ⟨gx, 1, none⟩) (keep_far (p := ⟨gx, 0, none⟩) h hg u0) hg u1
def impl_reader_attr.f (k : Nat) (s : BA) (p : Int) (b : Bool) : Option (ByteArray × ByteArray × ByteArray × Int × Bool) :=
 if b = true then some (⟨#[]⟩, ⟨#[]⟩, s, p, true) else (impl_XmlAttr.f k s p).bind fun q => if q.2.2 < 0 then some (⟨#[]⟩, ⟨#[]⟩, s, p, true) else some (q.1, q.2.1, s, q.2.2, false)
theorem impl_reader_attr.mono : ∀ s p b k, LeO (impl_reader_attr.f k s p b) (impl_reader_attr.f (k + 1) s p b) := fun s p b k => LeO.ite (LeO.refl _) (LeO.bind (impl_XmlAttr.mono _ _ _) (fun _ => LeO.refl _))
theorem impl_reader_attr.calls (k : Nat) (g : Nat) (s : BA) (p : Int) (b : Bool) (r0 r1 r2 : BA) (r3 : Int) (r4 : Bool) (w0 w : World) (hI : IsS93 w0 w g s p b) (hB : Below w0.heap.size w0 w) (hL : LibOk w0) (hE : LibErr w0) (h : impl_reader_attr.f k s p b = some (r0, r1, r2, r3, r4)) :
  Calls Tryz.prog 172 #[.pointer (some ⟨g, 0, none⟩)] w fun e w' => e = .returned (.agg #[.string r0, .string r1]) ∧ IsS93 w0 w' g r2 r3 r4 ∧ Below w0.heap.size w0 w' ∧ KeepBut w w' g none := by
 unfold impl_reader_attr.f at h;have hu := Tryz.underlying36;have HH := A_ h;have HLL := A_ hL;have HEE := A_ hE;clear h hL hE;obtain ⟨W1, hW1⟩ : ∃ W1, W1 = w.alloc (.cells #[.string ⟨#[]⟩, .string ⟨#[]⟩] 36) := ⟨_, rfl⟩;have HI0 : As9 (IsS93 w0 W1 g s p b) := ⟨by rw [hW1]; exact hI.alloc _⟩;have HB0 : As9 (Below w0.heap.size w0 W1) := ⟨by rw [hW1]; exact bA9 hB _⟩;have HK0 : As9 (KeepBut w W1 g none) := ⟨by rw [hW1]; exact keep_alloc (KeepBut.refl w g none) _⟩;have HX0 : As9 (W1.heap[w.heap.size]? = some (.cells #[.string ⟨#[]⟩, .string ⟨#[]⟩] 36 (0, 0))) := ⟨by rw [hW1]; exact heap_alloc_new w _⟩;have HZ0 : As9 (w.heap.size < W1.heap.size) := ⟨by rw [hW1]; exact blk_lt (heap_alloc_new w _)⟩;obtain ⟨gx, hgx⟩ : ∃ gx, gx = w.heap.size := ⟨_, rfl⟩;rw [← hgx] at HX0 HZ0;have HGX : As9 (gx = w.heap.size ∧ g < gx) := ⟨hgx, by rw [hgx]; exact hI.lt⟩;have hne1 : (g = gx) = False := eq_false (Nat.ne_of_lt HGX.out.2);have hne2 : (gx = g) = False := eq_false (Nat.ne_of_gt HGX.out.2);obtain ⟨HG, hge⟩ := HI0.out;have hc0 := cellS93_0 HG;have hc1 := cellS93_1 HG;have hc2 := cellS93_2 HG;obtain ⟨hz0, hz1, hy0, hy1⟩ := bk2_ HX0.out;have hW2 : W1.heap.size = W1.heap.size := rfl;clear HG hge hB hI hW2;have hd2 : (w.alloc (.cells #[.string ⟨#[]⟩, .string ⟨#[]⟩] 36)).cell? ⟨g, 2, none⟩ = some (.bool b) := by rw [← hW1]; exact hc2
 go_enter Tryz.func172, Tryz.ntmps172
 cases b with
 | true =>
  have h := HH.out;rw [if_pos rfl] at h;simp only [Option.some.injEq, Prod.mk.injEq] at h;obtain ⟨rfl, rfl, rfl, rfl, rfl⟩ := h;go_wp2
  rw [← hW1, ← hgx];clear hW1 hgx;go_wp2
  refine bodyPost_ret (results_single rfl (.cell gx 36 #[.string ⟨#[]⟩, .string ⟨#[]⟩] (0, 0) _ rfl HX0.out hu rfl (by kernel_rfl) .nil)) rfl ?_;exact ⟨rfl, HI0.out, HB0.out, HK0.out⟩
 | false =>
  have h := HH.out;rw [if_neg si_] at h;obtain ⟨q, hq, h⟩ := oB_ h;have HQ := A_ hq;have H1 := A_ h;have HI1 : As9 (IsS93 w0 W1.drew g s p false) := ⟨HI0.out.drew⟩;have HB1 : As9 (Below w0.heap.size w0 W1.drew) := ⟨below_drew HB0.out⟩;have HK1 : As9 (KeepBut w W1.drew g none) := ⟨keep_drew HK0.out⟩;have HX1 : As9 (W1.drew.heap[gx]? = some (.cells #[.string ⟨#[]⟩, .string ⟨#[]⟩] 36 (0, 0))) := ⟨HX0.out⟩;have HZ1 : As9 (gx < W1.drew.heap.size) := ⟨HZ0.out⟩;clear h hq HH HI0 HB0 HK0 HX0 HZ0;go_wp2
  rw [← hW1, ← hgx];clear hW1 hgx;go_wp2
  clear hz0 hz1 hy0 hy1 hc2 hd2;refine start_ (n := 15) (S := fun w' => w'.cell? ⟨g, 0, none⟩ = some (.string s) ∧ w'.cell? ⟨g, 1, none⟩ = some (.int .i64 p)) (ds := [13]) (tS 15 0) (by kernel_rfl) rfl rfl ⟨hc0, hc1⟩ (fun hHeld => ?_);generalize World.drew _ = wr0 at HI1 HB1 HK1 HX1 HZ1 hHeld ⊢;iterate 3 refine pq_ ?_
  refine pg_ 4 (tB 15 23) ?_;refine pg_ 5 (tB 15 55) ?_;refine pg_ 6 (tB 15 119) ?_;refine tg_ 3 (tS 15 7) rfl (by rintro w' ⟨s0, s1⟩; go_simp; with_reducible rfl) ?_;refine tq_ rfl (by rintro w' ⟨s0, s1⟩; go_simp; with_reducible rfl) ?_;refine two_ (i := 8) (j := 12) (Ni := some 19) (Nj := some 3) (tS 15 9) (tB 15 4351) rfl rfl rfl rfl (by kernel_rfl) de_ de_ (fun K hK => ?_) (fun K hK => ?_)
  ·skip
   refine gS_ Tryz.func25 #[.string s, .int .i64 p] ?_;with_reducible refine (impl_XmlAttr.calls k s p q.1 q.2.1 q.2.2 _ (HLL.out.below HB1.out) (HEE.out.below HB1.out) HQ.out).mono ?_
   rintro e wr8 ⟨rfl, hb⟩;refine ⟨_, rfl, ?_⟩;have n1_ := A_ (HI1.out.below hb);have n2_ := A_ (below_step HB1.out hb);have n3_ := A_ (HK1.out.trans (KeepBut.of_below hb g none) (.inl rfl));have n4_ := A_ (blk_below HX1.out hb);have n5_ := A_ (Nat.lt_of_lt_of_le HZ1.out hb.size);(try (have n6_ := A_ (blk_below HA.out hb); clear HA; have HA := n6_; clear n6_))
   clear hb HI1 HB1 HK1 HX1 HZ1;have HI1 := n1_;have HB1 := n2_;have HK1 := n3_;have HX1 := n4_;have HZ1 := n5_;clear n1_ n2_ n3_ n4_ n5_;refine hK.out _ _ ⟨cellS93_0 HI1.out.1, cellS93_1 HI1.out.1⟩ (fun hHeld => ?_);clear hK K;refine nm_ ?_;iterate 3 refine pq_ ?_
   refine n1_ 12 (tS 15 13) rfl fun K hK => ?_
   refine box_step ?hg (N := 3) ?hd (cs := #[.string ⟨#[]⟩, .string ⟨#[]⟩]) (t := 36) ?hr ?_; (case hd => rfl); (case hg => rfl); (case hr => first | (go_simp; done) | (go_simp; rfl));intro ga hga wr12 hbox hb;have HGA := A_ (show gx < ga from by rw [hga]; exact HZ1.out);have HA := A_ hbox;have n1_ := A_ (HI1.out.below hb);have n2_ := A_ (below_step HB1.out hb);have n3_ := A_ (HK1.out.trans (KeepBut.of_below hb g none) (.inl rfl));have n4_ := A_ (blk_below HX1.out hb);have n5_ := A_ (Nat.lt_of_lt_of_le HZ1.out hb.size);clear hb hga hbox HI1 HB1 HK1 HX1 HZ1;have HI1 := n1_;have HB1 := n2_;have HK1 := n3_;have HX1 := n4_;have HZ1 := n5_;clear n1_ n2_ n3_ n4_ n5_;refine hK.out _ _ ⟨cellS93_0 HI1.out.1, cellS93_1 HI1.out.1⟩ (fun hHeld => ?_);clear hK K;refine nm_ ?_;refine last_ (i := 13) (N := none) (tS 15 14) rfl rfl (by kernel_rfl) de_ (fun K hK => ?_);refine put_step2 ?hw ?hN 36 (.tmp 3) (.tmp 20) ?ho (g := ga) (u0 := .string q.1) (u1 := .string q.2.1) ?ha ?hx (by kernel_rfl) HA.out rfl rfl ?_; (case hw => rfl); (case hN => rfl); (case ho => rfl); (case ha => rfl); (case hx => rfl);replace HA := A_ (blk_two HA.out (.string q.1) (.string q.2.1));replace HB1 := A_ (below_two HB1.out (Nat.le_trans HI1.out.2 (Nat.le_of_lt (Nat.lt_trans HGX.out.2 HGA.out))) (.string q.1) (.string q.2.1));replace HI1 := A_ (st_two HI1.out (Nat.ne_of_lt (Nat.lt_trans HGX.out.2 HGA.out)) (.string q.1) (.string q.2.1));replace HK1 := A_ (keep_two HK1.out (by rw [← HGX.out.1]; exact Nat.le_of_lt HGA.out) (.string q.1) (.string q.2.1));replace HX1 := A_ (blk_far (blk_far HX1.out (p := ⟨ga, 0, none⟩) (Nat.ne_of_lt HGA.out) (.string q.1)) (p := ⟨ga, 1, none⟩) (Nat.ne_of_lt HGA.out) (.string q.2.1));refine hK.out _ _ ?_;clear hK K;refine pq_ ?_;refine done_ (by kernel_rfl) ?_;generalize hwe : World.setCell _ _ _ = we at HA HI1 HB1 HK1 HX1 ⊢;clear hwe;have he1 : (g = ga) = False := eq_false (Nat.ne_of_lt (Nat.lt_trans HGX.out.2 HGA.out));have he2 : (ga = g) = False := eq_false (Nat.ne_of_gt (Nat.lt_trans HGX.out.2 HGA.out));have he3 : (gx = ga) = False := eq_false (Nat.ne_of_lt HGA.out);have he4 : (ga = gx) = False := eq_false (Nat.ne_of_gt HGA.out);obtain ⟨HG, hge⟩ := HI1.out;have hc0' := cellS93_0 HG;have hc1' := cellS93_1 HG;have hc2' := cellS93_2 HG;have hf1 := blk_frozen HG 1;have hf2 := blk_frozen HG 2;clear HG hge;obtain ⟨hz0, hz1, hy0, hy1⟩ := bk2_ HX1.out;obtain ⟨ha0, ha1⟩ := bc2_ HA.out;have h := H1.out;by_cases c : q.2.2 < 0
   case pos =>
    rw [if_pos c] at h;simp only [Option.some.injEq, Prod.mk.injEq] at h;obtain ⟨rfl, rfl, rfl, rfl, rfl⟩ := h;go_wp2
    refine bodyPost_ret (results_single rfl (.cell gx 36 #[.string ⟨#[]⟩, .string ⟨#[]⟩] (0, 0) _ rfl (blk_two (blk_far HX1.out (p := ⟨g, 2, none⟩) (Nat.ne_of_gt HGX.out.2) _) _ _) hu rfl (by kernel_rfl) .nil)) rfl ?_;exact ⟨rfl, st_two (HI1.out.set_2 _) (Nat.ne_of_lt HGX.out.2) _ _, below_two (below_set HB1.out HI1.out.2) (Nat.le_trans HI1.out.2 (Nat.le_of_lt HGX.out.2)) _ _, keep_two (HK1.out.set_ _ _) (Nat.le_of_eq HGX.out.1.symm) _ _⟩
   case neg =>
    rw [if_neg c] at h;simp only [Option.some.injEq, Prod.mk.injEq] at h;obtain ⟨rfl, rfl, rfl, rfl, rfl⟩ := h;go_wp2
    refine bodyPost_ret (results_single rfl (.cell gx 36 #[.string q.1, .string q.2.1] (0, 0) _ rfl (blk_two (blk_far HX1.out (p := ⟨g, 1, none⟩) (Nat.ne_of_gt HGX.out.2) _) _ _) hu rfl (by kernel_rfl) .nil)) rfl ?_;exact ⟨rfl, st_two (HI1.out.set_1 _) (Nat.ne_of_lt HGX.out.2) _ _, below_two (below_set HB1.out HI1.out.2) (Nat.le_trans HI1.out.2 (Nat.le_of_lt HGX.out.2)) _ _, keep_two (HK1.out.set_ _ _) (Nat.le_of_eq HGX.out.1.symm) _ _⟩
  ·skip
   refine box_step ?hg (N := 3) ?hd (cs := #[.string ⟨#[]⟩, .string ⟨#[]⟩]) (t := 36) ?hr ?_; (case hd => rfl); (case hg => rfl); (case hr => first | (go_simp; done) | (go_simp; rfl));intro ga hga wr12 hbox hb;have HGA := A_ (show gx < ga from by rw [hga]; exact HZ1.out);have HA := A_ hbox;have n1_ := A_ (HI1.out.below hb);have n2_ := A_ (below_step HB1.out hb);have n3_ := A_ (HK1.out.trans (KeepBut.of_below hb g none) (.inl rfl));have n4_ := A_ (blk_below HX1.out hb);have n5_ := A_ (Nat.lt_of_lt_of_le HZ1.out hb.size);clear hb hga hbox HI1 HB1 HK1 HX1 HZ1;have HI1 := n1_;have HB1 := n2_;have HK1 := n3_;have HX1 := n4_;have HZ1 := n5_;clear n1_ n2_ n3_ n4_ n5_;refine hK.out _ _ ⟨cellS93_0 HI1.out.1, cellS93_1 HI1.out.1⟩ (fun hHeld => ?_);clear hK K;refine nm_ ?_;refine n1_ 8 (tB 15 4607) rfl fun K hK => ?_
   refine gS_ Tryz.func25 #[.string s, .int .i64 p] ?_;with_reducible refine (impl_XmlAttr.calls k s p q.1 q.2.1 q.2.2 _ (HLL.out.below HB1.out) (HEE.out.below HB1.out) HQ.out).mono ?_
   rintro e wr8 ⟨rfl, hb⟩;refine ⟨_, rfl, ?_⟩;have n1_ := A_ (HI1.out.below hb);have n2_ := A_ (below_step HB1.out hb);have n3_ := A_ (HK1.out.trans (KeepBut.of_below hb g none) (.inl rfl));have n4_ := A_ (blk_below HX1.out hb);have n5_ := A_ (Nat.lt_of_lt_of_le HZ1.out hb.size);(try (have n6_ := A_ (blk_below HA.out hb); clear HA; have HA := n6_; clear n6_))
   clear hb HI1 HB1 HK1 HX1 HZ1;have HI1 := n1_;have HB1 := n2_;have HK1 := n3_;have HX1 := n4_;have HZ1 := n5_;clear n1_ n2_ n3_ n4_ n5_;refine hK.out _ _ ⟨cellS93_0 HI1.out.1, cellS93_1 HI1.out.1⟩ (fun hHeld => ?_);clear hK K;refine nm_ ?_;refine pg_ 9 (tB 15 5119) ?_;refine pg_ 10 (tB 15 6143) ?_;refine pg_ 11 (tS 15 13) ?_;refine last_ (i := 13) (N := none) (tS 15 14) rfl rfl (by kernel_rfl) de_ (fun K hK => ?_);refine put_step2 ?hw ?hN 36 (.tmp 3) (.tmp 20) ?ho (g := ga) (u0 := .string q.1) (u1 := .string q.2.1) ?ha ?hx (by kernel_rfl) HA.out rfl rfl ?_; (case hw => rfl); (case hN => rfl); (case ho => rfl); (case ha => rfl); (case hx => rfl);replace HA := A_ (blk_two HA.out (.string q.1) (.string q.2.1));replace HB1 := A_ (below_two HB1.out (Nat.le_trans HI1.out.2 (Nat.le_of_lt (Nat.lt_trans HGX.out.2 HGA.out))) (.string q.1) (.string q.2.1));replace HI1 := A_ (st_two HI1.out (Nat.ne_of_lt (Nat.lt_trans HGX.out.2 HGA.out)) (.string q.1) (.string q.2.1));replace HK1 := A_ (keep_two HK1.out (by rw [← HGX.out.1]; exact Nat.le_of_lt HGA.out) (.string q.1) (.string q.2.1));replace HX1 := A_ (blk_far (blk_far HX1.out (p := ⟨ga, 0, none⟩) (Nat.ne_of_lt HGA.out) (.string q.1)) (p := ⟨ga, 1, none⟩) (Nat.ne_of_lt HGA.out) (.string q.2.1));refine hK.out _ _ ?_;clear hK K;refine pq_ ?_;refine done_ (by kernel_rfl) ?_;generalize hwe : World.setCell _ _ _ = we at HA HI1 HB1 HK1 HX1 ⊢;clear hwe;have he1 : (g = ga) = False := eq_false (Nat.ne_of_lt (Nat.lt_trans HGX.out.2 HGA.out));have he2 : (ga = g) = False := eq_false (Nat.ne_of_gt (Nat.lt_trans HGX.out.2 HGA.out));have he3 : (gx = ga) = False := eq_false (Nat.ne_of_lt HGA.out);have he4 : (ga = gx) = False := eq_false (Nat.ne_of_gt HGA.out);obtain ⟨HG, hge⟩ := HI1.out;have hc0' := cellS93_0 HG;have hc1' := cellS93_1 HG;have hc2' := cellS93_2 HG;have hf1 := blk_frozen HG 1;have hf2 := blk_frozen HG 2;clear HG hge;obtain ⟨hz0, hz1, hy0, hy1⟩ := bk2_ HX1.out;obtain ⟨ha0, ha1⟩ := bc2_ HA.out;have h := H1.out;by_cases c : q.2.2 < 0
   case pos =>
    rw [if_pos c] at h;simp only [Option.some.injEq, Prod.mk.injEq] at h;obtain ⟨rfl, rfl, rfl, rfl, rfl⟩ := h;go_wp2
    refine bodyPost_ret (results_single rfl (.cell gx 36 #[.string ⟨#[]⟩, .string ⟨#[]⟩] (0, 0) _ rfl (blk_two (blk_far HX1.out (p := ⟨g, 2, none⟩) (Nat.ne_of_gt HGX.out.2) _) _ _) hu rfl (by kernel_rfl) .nil)) rfl ?_;exact ⟨rfl, st_two (HI1.out.set_2 _) (Nat.ne_of_lt HGX.out.2) _ _, below_two (below_set HB1.out HI1.out.2) (Nat.le_trans HI1.out.2 (Nat.le_of_lt HGX.out.2)) _ _, keep_two (HK1.out.set_ _ _) (Nat.le_of_eq HGX.out.1.symm) _ _⟩
   case neg =>
    rw [if_neg c] at h;simp only [Option.some.injEq, Prod.mk.injEq] at h;obtain ⟨rfl, rfl, rfl, rfl, rfl⟩ := h;go_wp2
    refine bodyPost_ret (results_single rfl (.cell gx 36 #[.string q.1, .string q.2.1] (0, 0) _ rfl (blk_two (blk_far HX1.out (p := ⟨g, 1, none⟩) (Nat.ne_of_gt HGX.out.2) _) _ _) hu rfl (by kernel_rfl) .nil)) rfl ?_;exact ⟨rfl, st_two (HI1.out.set_1 _) (Nat.ne_of_lt HGX.out.2) _ _, below_two (below_set HB1.out HI1.out.2) (Nat.le_trans HI1.out.2 (Nat.le_of_lt HGX.out.2)) _ _, keep_two (HK1.out.set_ _ _) (Nat.le_of_eq HGX.out.1.symm) _ _⟩
end Go.Proofs.YtkmmoheeoblmnaaGreatDoor.A
namespace Go.Proofs.YtkmmoheeoblmnaaGreatDoor.A
open Go.RowKit Go.Proofs.YtkmmoheeoblmnaaGreatDoorW.PrintWords Go.Proofs.YtkmmoheeoblmnaaGreatDoorW.PrintLast Go.Proofs.YtkmmoheeoblmnaaGreatDoorW.PrintMore
attribute [local go_sem] max2_int min2_int max_two min_two max_three min_three max_four min_four
set_option linter.unusedVariables false
set_option linter.unusedSimpArgs false
structure Sat (w0 w W : World) (g : Nat) (s : BA) (p : Int) (b : Bool) (v : Value) (out : List S36) : Prop where
 st : IsS89 w0 W g s p b
 nr : k36.R 36 W w0.heap.size (fun k_ => w.heap.size ≤ k_) v out
 bl : Below w0.heap.size w0 W
 kp : KeepBut w W g none
 gl : g < w.heap.size
theorem Sat.state {w0 w W W' : World} {g : Nat} {s s' : BA} {p p' : Int} {b b' : Bool} {v : Value} {out : List S36} (h : Sat w0 w W g s p b v out) (hi : IsS89 w0 W' g s' p' b') (hb : Below w0.heap.size w0 W') (hk : KeepBut W W' g none) : Sat w0 w W' g s' p' b' v out :=
 ⟨hi, Kd.R_keep h.nr hk (fun k hk => by have := h.gl; omega), hb, h.kp.trans hk (.inl rfl), h.gl⟩
theorem Sat.below {w0 w W W' : World} {g : Nat} {s : BA} {p : Int} {b : Bool} {v : Value} {out : List S36} (h : Sat w0 w W g s p b v out) (hb : Below W.heap.size W W') : Sat w0 w W' g s p b v out := h.state (h.st.below hb) (below_step h.bl hb) (KeepBut.of_below hb g none)
theorem Sat.ok_ {w0 w W : World} {g : Nat} {s : BA} {p : Int} {b : Bool} {v : Value} {out : List S36} (h : Sat w0 w W g s p b v out) (x : Bool) : Sat w0 w (W.setCell ⟨g, 2, none⟩ (.bool x)) g s p x v out := h.state (h.st.set_2 x) (below_set h.bl h.st.2) ((KeepBut.refl W g none).set_ 2 _)
theorem Sat.at_ {w0 w W : World} {g : Nat} {s : BA} {p : Int} {b : Bool} {v : Value} {out : List S36} (h : Sat w0 w W g s p b v out) (x : Int) : Sat w0 w (W.setCell ⟨g, 1, none⟩ (.int .i64 x)) g s x b v out := h.state (h.st.set_1 x) (below_set h.bl h.st.2) ((KeepBut.refl W g none).set_ 1 _)
theorem Sat.app {w0 w W W' : World} {g : Nat} {s : BA} {p : Int} {b : Bool} {v v' : Value} {out : List S36} (h : Sat w0 w W g s p b v out) {x : S36} (ho : k36.R 36 W' w0.heap.size (fun k_ => w.heap.size ≤ k_) v' (out ++ [x])) (hb : Below w0.heap.size w0 W') (hg : W.grownBy W' v.ownBlock) : Sat w0 w W' g s p b v' (out ++ [x]) :=
 ⟨h.st.grown hg (h.st.own_ne h.nr de_), ho, hb, h.kp.trans (KeepBut.of_grown hg g) (by
  cases hv : v.ownBlock with
  | none => exact .inl rfl
  | some k => exact .inr ⟨k, rfl, h.nr.1 k hv⟩), h.gl⟩
theorem Sat.two_ {w0 w W : World} {g : Nat} {s : BA} {p : Int} {b : Bool} {v : Value} {out : List S36} (h : Sat w0 w W g s p b v out) {ga : Nat} (h1 : w.heap.size ≤ ga) (h2 : g < ga) (h3 : ∀ k, v.ownBlock = some k → k < ga) (u0 u1 : Value) : Sat w0 w ((W.setCell ⟨ga, 0, none⟩ u0).setCell ⟨ga, 1, none⟩ u1) g s p b v out := by
 have hk : KeepBut W ((W.setCell ⟨ga, 0, none⟩ u0).setCell ⟨ga, 1, none⟩ u1) ga none := ((KeepBut.refl W ga none).set_ 0 _).set_ 1 _;refine ⟨(h.st.far (p := ⟨ga, 0, none⟩) (Nat.ne_of_lt h2) _).far (p := ⟨ga, 1, none⟩) (Nat.ne_of_lt h2) _, ?_, below_set (below_set h.bl (Nat.le_trans h.st.2 (Nat.le_of_lt h2))) (Nat.le_trans h.st.2 (Nat.le_of_lt h2)), keep_far (p := ⟨ga, 1, none⟩) (keep_far (p := ⟨ga, 0, none⟩) h.kp h1 _) h1 _, h.gl⟩;exact Kd.R_mono (Kd.R_keep (g := ga) (Kd.R_flat (ok' := fun k => w.heap.size ≤ k ∧ k ≠ ga) (fun hx => by rw [k36_openM hx]; exact k36_mkM _ _ _ _) h.nr (fun k hk ho => ⟨ho, fun e => by have := h3 k hk; omega⟩)) hk (fun k hk => hk.2)) (fun k hk => hk.1)
def sexit (s : BA) (p : Int) (b : Bool) (out : List S36) (sp : Int) : Option (List S36 × Int × ByteArray × Int × Bool) := (spec_l1In.f sp 0 2).bind fun r => some (out, sp, s, p, if r = true then b else false)
def sattrsL : Nat → Int → ByteArray → Int → Bool → List S36 → Int → Bool → Option (List S36 × Int × ByteArray × Int × Bool)
 | 0, _, _, _, _, _, _, _ => none
 | n + 1, about, s, p, b, out, sp, told =>
  if b = true then (if p < (s.size : Int) then (if 0 ≤ p then (if bt s p = 32 then
   (spec_XmlAttr.f n s (wrap64 (p + 1))).bind fun a => if a.2.2 < 0 then some (out, sp, s, p, false) else
    (spec_l4Has.f n out a.1).bind fun hb => if hb = true then some (out, sp, s, p, false) else
    (if a.1.toList = [120, 109, 108, 110, 115] then (if told = true then some (out, sp, s, p, false) else (spec_l19Space.f n a.2.1).bind fun x => sattrsL n about s a.2.2 (!decide (x = about)) out x true)
    else (if out.length < 4398046511104 then sattrsL n about s a.2.2 true (out ++ [⟨a.1, a.2.1⟩]) sp told else none))
  else sexit s p b out sp) else none) else sexit s p b out sp) else sexit s p b out sp
theorem sattrsL_mono : ∀ k y0 y1 y2 y3 y4 y5 y6, LeO (sattrsL k y0 y1 y2 y3 y4 y5 y6) (sattrsL (k + 1) y0 y1 y2 y3 y4 y5 y6)
 | 0 => fun _ _ _ _ _ _ _ r h => by simp [sattrsL] at h
 | k + 1 => by
  have ih := sattrsL_mono k;intro y0 y1 y2 y3 y4 y5 y6;rw [sattrsL, sattrsL];exact LeO.ite (LeO.ite (LeO.ite (LeO.ite (LeO.bind (spec_XmlAttr.mono _ _ _) fun a => LeO.ite (LeO.refl _) (LeO.bind (spec_l4Has.mono _ _ _) fun hb => LeO.ite (LeO.refl _) (LeO.ite (LeO.ite (LeO.refl _) (LeO.bind (spec_l19Space.mono _ _) fun x => ih _ _ _ _ _ _ _)) (LeO.ite (ih _ _ _ _ _ _ _) (LeO.refl _))))) (LeO.refl _)) (LeO.refl _)) (LeO.refl _)) (LeO.refl _)
def spec_l19Attrs.f (k : Nat) (s : BA) (p : Int) (b : Bool) (about : Int) : Option (List S36 × Int × ByteArray × Int × Bool) := sattrsL k about s p b [] about false
theorem spec_l19Attrs.mono : ∀ s p b about k, LeO (spec_l19Attrs.f k s p b about) (spec_l19Attrs.f (k + 1) s p b about) := fun _ _ _ _ k => sattrsL_mono k _ _ _ _ _ _ _
theorem spec_l19Attrs.calls (k g : Nat) (s : BA) (p : Int) (b : Bool) (about : Int) (r0 : List S36) (r1 : Int) (r2 : BA) (r3 : Int) (r4 : Bool) (w0 w : World) (hI : IsS89 w0 w g s p b) (hB : Below w0.heap.size w0 w) (h : spec_l19Attrs.f k s p b about = some (r0, r1, r2, r3, r4)) :
  Calls Tryz.prog 131 #[.pointer (some ⟨g, 0, none⟩), .int .i64 about] w fun e w' => ∃ v, e = .returned (.tuple #[v, .int .i64 r1]) ∧ Sat w0 w w' g r2 r3 r4 v r0 := by
 have hu := Tryz.underlying36;have HF : As9 (sattrsL k about s p b [] about false = some (r0, r1, r2, r3, r4)) := ⟨h⟩;have HI := A_ hI;have HB := A_ hB;clear h hI hB;go_enter Tryz.func131, Tryz.ntmps131
 go_wp2_with (refine gate_dst (N := 11) rfl ?_; refine Kd.R_lit (w0 := w0) k36 w0.heap.size 36 ?hg (N := 11) ?hd (xs := ([] : List S36)) (inner := []) (ok := fun k_ => w.heap.size ≤ k_) (okp := fun _ => False) ?hr ?hp (fun _ hk => hk.elim) (Nat.le_refl _) HB.out HB.out.size si_ ?_; (case hd => rfl); (case hg => rfl); (case hr => first | (go_simp; done) | (go_simp; rfl)); (case hp => exact (Reps.none _ _)); intro v11 w2 ho hb hg_ hnew_; have HT := A_ (show Sat w0 w w2 g s p b v11 [] from ⟨HI.out.grown hg_ si_, ho, hb, KeepBut.of_grown hg_ g, HI.out.lt⟩); clear ho hb hg_ hnew_ HI HB)
 go_loopg [6, 7, 8] k (fun kq v6 v7 v8 wr => ∃ (out : List S36) (sp : Int) (told : Bool) (s : BA) (p : Int) (b : Bool), v7 = .int .i64 sp ∧ v8 = .bool told ∧ As9 (sattrsL kq about s p b out sp told = some (r0, r1, r2, r3, r4)) ∧ As9 (Sat w0 w wr g s p b v6 out))
 case atStart => exact ⟨[], about, false, s, p, b, rfl, rfl, HF, HT⟩
 case round =>
  clear HF HT;obtain ⟨out, sp, told, s, p, b, rfl, rfl, HA, HT⟩ := hrel;cases gk with
  | zero => exact absurd HA.out (by simp [sattrsL])
  | succ n =>
  have H := HA.out;clear HA;simp only [sattrsL] at H;obtain ⟨An, cn, rfl⟩ := Kd.R_slice HT.out.nr;have hc0 := cellS89_0 HT.out.st.1;have hc1 := cellS89_1 HT.out.st.1;have hc2 := cellS89_2 HT.out.st.1;cases b with
  | false =>
   rw [if_neg si_] at H;go_wp2
   go_quiet (fail)
   generalize hW : World.drewN wr nq = wx;have HT2 : As9 (Sat w0 w wx g s p false (.slice An out.length cn) out) := ⟨by rw [← hW]; exact HT.out.below (bN9 (Below.refl _ _) _)⟩;clear hW HT hc0 hc1 hc2;unfold sexit at H;obtain ⟨r, hr, H⟩ := oB_ H;simp only [Option.some.injEq, Prod.mk.injEq] at H;obtain ⟨rfl, rfl, rfl, rfl, rfl⟩ := H;have Hr := A_ hr;clear hr;cases r with
   | true =>
    go_wp2_with ((go_at_call 111; (with_reducible refine (spec_l1In.calls sp 0 2 true _ Hr.out).mono ?_); rintro e w2 ⟨rfl, hd⟩; have HT3 := A_ (HT2.out.below hd.below); clear hd HT2))
    go_ret2
    exact ⟨_, rfl, HT3.out⟩
   | false =>
    go_wp2_with ((go_at_call 111; (with_reducible refine (spec_l1In.calls sp 0 2 false _ Hr.out).mono ?_); rintro e w2 ⟨rfl, hd⟩; have HT3 := A_ (HT2.out.below hd.below); clear hd HT2; have hz2 := cellS89_2 HT3.out.st.1; have hf2 := blk_frozen HT3.out.st.1 2))
    go_ret2
    exact ⟨_, rfl, HT3.out.ok_ false⟩
  | true =>
   rw [if_pos rfl] at H;by_cases hlt : p < (s.size : Int)
   case neg =>
    rw [if_neg hlt] at H;have q8 := eq_false hlt;have q9 : decide (p < (s.size : Int)) = false := dF_ hlt;go_wp2
    go_quiet (fail)
    generalize hW : World.drewN wr nq = wx;have HT2 : As9 (Sat w0 w wx g s p true (.slice An out.length cn) out) := ⟨by rw [← hW]; exact HT.out.below (bN9 (Below.refl _ _) _)⟩;clear hW HT hc0 hc1 hc2;unfold sexit at H;obtain ⟨r, hr, H⟩ := oB_ H;simp only [Option.some.injEq, Prod.mk.injEq] at H;obtain ⟨rfl, rfl, rfl, rfl, rfl⟩ := H;have Hr := A_ hr;clear hr;cases r with
    | true =>
     go_wp2_with ((go_at_call 111; (with_reducible refine (spec_l1In.calls sp 0 2 true _ Hr.out).mono ?_); rintro e w2 ⟨rfl, hd⟩; have HT3 := A_ (HT2.out.below hd.below); clear hd HT2))
     go_ret2
     exact ⟨_, rfl, HT3.out⟩
    | false =>
     go_wp2_with ((go_at_call 111; (with_reducible refine (spec_l1In.calls sp 0 2 false _ Hr.out).mono ?_); rintro e w2 ⟨rfl, hd⟩; have HT3 := A_ (HT2.out.below hd.below); clear hd HT2; have hz2 := cellS89_2 HT3.out.st.1; have hf2 := blk_frozen HT3.out.st.1 2))
     go_ret2
     exact ⟨_, rfl, HT3.out.ok_ false⟩
   case pos =>
   rw [if_pos hlt] at H;by_cases h0 : 0 ≤ p
   case neg => rw [if_neg h0] at H; cases H
   case pos =>
   rw [if_pos h0] at H;have p7 := eq_true h0;have q7 := eq_true hlt;have hx := bt_at s p;by_cases hc : bt s p = 32
   case neg =>
    have hcb : (bt s p == 32) = false := bN_ hc;rw [if_neg hc] at H;go_wp2
    go_quiet (fail)
    generalize hW : World.drewN wr nq = wx;have HT2 : As9 (Sat w0 w wx g s p true (.slice An out.length cn) out) := ⟨by rw [← hW]; exact HT.out.below (bN9 (Below.refl _ _) _)⟩;clear hW HT hc0 hc1 hc2;unfold sexit at H;obtain ⟨r, hr, H⟩ := oB_ H;simp only [Option.some.injEq, Prod.mk.injEq] at H;obtain ⟨rfl, rfl, rfl, rfl, rfl⟩ := H;have Hr := A_ hr;clear hr;cases r with
    | true =>
     go_wp2_with ((go_at_call 111; (with_reducible refine (spec_l1In.calls sp 0 2 true _ Hr.out).mono ?_); rintro e w2 ⟨rfl, hd⟩; have HT3 := A_ (HT2.out.below hd.below); clear hd HT2))
     go_ret2
     exact ⟨_, rfl, HT3.out⟩
    | false =>
     go_wp2_with ((go_at_call 111; (with_reducible refine (spec_l1In.calls sp 0 2 false _ Hr.out).mono ?_); rintro e w2 ⟨rfl, hd⟩; have HT3 := A_ (HT2.out.below hd.below); clear hd HT2; have hz2 := cellS89_2 HT3.out.st.1; have hf2 := blk_frozen HT3.out.st.1 2))
     go_ret2
     exact ⟨_, rfl, HT3.out.ok_ false⟩
   case pos =>
    have hcb : (bt s p == 32) = true := bQ_ hc;rw [if_pos hc] at H;go_wp2
    go_quiet (fail)
    generalize hW : World.drewN wr nq = wx;have HT2 : As9 (Sat w0 w wx g s p true (.slice An out.length cn) out) := ⟨by rw [← hW]; exact HT.out.below (bN9 (Below.refl _ _) _)⟩;clear hW HT hc0 hc1 hc2;obtain ⟨⟨nm, av, nx⟩, ha, H⟩ := oB_ H;dsimp only at H;have Ha := A_ ha;have HH := A_ H;clear ha H p7 q7 hx hcb hc;go_wp2
    have HTd := A_ (HT2.out.below (below_drew (Below.refl _ _)));clear HT2;refine start_ (n := 16) (S := fun w' => w'.cell? ⟨g, 0, none⟩ = some (.string s) ∧ w'.cell? ⟨g, 1, none⟩ = some (.int .i64 p)) (ds := [14]) (tS 16 0) (by kernel_rfl) rfl rfl ⟨cellS89_0 HTd.out.st.1, cellS89_1 HTd.out.st.1⟩ (fun hHeld => ?_);generalize World.drew _ = wr0 at HTd hHeld ⊢;iterate 3 refine pq_ ?_
    refine pg_ 4 (tB 16 23) ?_;refine pg_ 5 (tB 16 55) ?_;refine pg_ 6 (tB 16 119) ?_;refine tg_ 3 (tS 16 7) rfl (by rintro w' ⟨s0, s1⟩; go_simp; with_reducible rfl) ?_;refine tq_ rfl (by rintro w' ⟨s0, s1⟩; go_simp; with_reducible rfl) ?_;refine pq_ ?_;refine two_ (i := 9) (j := 13) (Ni := some 51) (Nj := some 9) (tS 16 10) (tB 16 8703) rfl rfl rfl rfl (by kernel_rfl) de_ de_ (fun K hK => ?_) (fun K hK => ?_)
    ·skip
     refine gS_ Tryz.func26 #[.string s, .int .i64 (wrap64 (p + 1))] ?_;with_reducible refine (spec_XmlAttr.calls n s (wrap64 (p + 1)) nm av nx _ Ha.out).mono ?_
     rintro e wr9 ⟨rfl, hb⟩;refine ⟨_, rfl, ?_⟩;have n1_ := A_ (HTd.out.below hb);(try (have n6_ := A_ (blk_below HA.out hb); clear HA; have HA := n6_; clear n6_))
     clear hb HTd;have HTd := n1_;clear n1_;refine hK.out _ _ ⟨cellS89_0 HTd.out.st.1, cellS89_1 HTd.out.st.1⟩ (fun hHeld => ?_);clear hK K;refine nm_ ?_;iterate 3 refine pq_ ?_
     refine n1_ 13 (tS 16 14) rfl fun K hK => ?_
     refine box_step ?hg (N := 9) ?hd (cs := #[.string ⟨#[]⟩, .string ⟨#[]⟩]) (t := 36) ?hr ?_; (case hd => rfl); (case hg => rfl); (case hr => first | (go_simp; done) | (go_simp; rfl));intro ga hga wr13 hbox hb;have HGA := A_ (show w.heap.size ≤ ga ∧ g < ga ∧ ∀ k, (Value.slice An out.length cn).ownBlock = some k → k < ga from by rw [hga]; exact ⟨HTd.out.kp.1, HTd.out.st.lt, fun k hk => Kd.R_lt HTd.out.nr k hk⟩);have HA := A_ hbox;have n1_ := A_ (HTd.out.below hb);clear hb hga hbox HTd;have HTd := n1_;clear n1_;refine hK.out _ _ ⟨cellS89_0 HTd.out.st.1, cellS89_1 HTd.out.st.1⟩ (fun hHeld => ?_);clear hK K;refine nm_ ?_;refine last_ (i := 14) (N := none) (tS 16 15) rfl rfl (by kernel_rfl) de_ (fun K hK => ?_);refine put_step2 ?hw ?hN 36 (.tmp 9) (.tmp 52) ?ho (g := ga) (u0 := .string nm) (u1 := .string av) ?ha ?hx (by kernel_rfl) HA.out rfl rfl ?_; (case hw => rfl); (case hN => rfl); (case ho => rfl); (case ha => rfl); (case hx => rfl);replace HA := A_ (blk_two HA.out (.string nm) (.string av));replace HTd := A_ (HTd.out.two_ HGA.out.1 HGA.out.2.1 HGA.out.2.2 (.string nm) (.string av));refine hK.out _ _ ?_;clear hK K;refine pq_ ?_;refine done_ (by kernel_rfl) ?_;generalize hwe : World.setCell _ _ _ = we at HA HTd ⊢;clear hwe;have he1 : (g = ga) = False := eq_false (Nat.ne_of_lt HGA.out.2.1);have he2 : (ga = g) = False := eq_false (Nat.ne_of_gt HGA.out.2.1);obtain ⟨hx0, hx1⟩ := bc2_ HA.out;have hz1 := cellS89_1 HTd.out.st.1;have hz2 := cellS89_2 HTd.out.st.1;have hf1 := blk_frozen HTd.out.st.1 1;have hf2 := blk_frozen HTd.out.st.1 2;have H := HH.out;by_cases d1 : nx < 0
     case pos =>
      rw [if_pos d1] at H;simp only [Option.some.injEq, Prod.mk.injEq] at H;obtain ⟨rfl, rfl, rfl, rfl, rfl⟩ := H;go_wp2
      go_ret2
      exact ⟨_, rfl, HTd.out.ok_ false⟩
     case neg =>
     rw [if_neg d1] at H;obtain ⟨hv, hhv, H⟩ := oB_ H;have Hv := A_ hhv;clear hhv;cases hv with
     | true =>
      rw [if_pos rfl] at H;simp only [Option.some.injEq, Prod.mk.injEq] at H;obtain ⟨rfl, rfl, rfl, rfl, rfl⟩ := H;go_wp2_with ((go_at_call 168; (with_reducible refine (spec_l4Has.calls n An cn out nm _ _ (Kd.R_reads' HTd.out.nr).2.2 (Kd.R_reads' HTd.out.nr).2.1 Hv.out).mono ?_); rintro e w6 ⟨rfl, hd⟩; have HTe := A_ (HTd.out.below hd.below); have HAe := A_ (blk_below HA.out hd.below); clear hd HTd HA hx0 hx1 hz1 hz2 hf1 hf2; obtain ⟨hx0, hx1⟩ := bc2_ HAe.out; have hz1 := cellS89_1 HTe.out.st.1; have hz2 := cellS89_2 HTe.out.st.1; have hf1 := blk_frozen HTe.out.st.1 1; have hf2 := blk_frozen HTe.out.st.1 2; have HT8 := A_ (HTe.out.at_ nx)))
      go_ret2
      exact ⟨_, rfl, HTe.out.ok_ false⟩
     | false =>
      rw [if_neg si_] at H;by_cases cx : nm.toList = [120, 109, 108, 110, 115]
      case pos =>
       rw [if_pos cx] at H;have cxb : (nm.toList == [120, 109, 108, 110, 115]) = true := by rw [cx]; rfl
       have cxn : (!(nm.toList == [120, 109, 108, 110, 115])) = false := by rw [cx]; rfl
       clear cx;cases told with
       | true =>
        rw [if_pos rfl] at H;simp only [Option.some.injEq, Prod.mk.injEq] at H;obtain ⟨rfl, rfl, rfl, rfl, rfl⟩ := H;go_wp2_with ((go_at_call 168; (with_reducible refine (spec_l4Has.calls n An cn out nm _ _ (Kd.R_reads' HTd.out.nr).2.2 (Kd.R_reads' HTd.out.nr).2.1 Hv.out).mono ?_); rintro e w6 ⟨rfl, hd⟩; have HTe := A_ (HTd.out.below hd.below); have HAe := A_ (blk_below HA.out hd.below); clear hd HTd HA hx0 hx1 hz1 hz2 hf1 hf2; obtain ⟨hx0, hx1⟩ := bc2_ HAe.out; have hz1 := cellS89_1 HTe.out.st.1; have hz2 := cellS89_2 HTe.out.st.1; have hf1 := blk_frozen HTe.out.st.1 1; have hf2 := blk_frozen HTe.out.st.1 2; have HT8 := A_ (HTe.out.at_ nx)))
        go_ret2
        exact ⟨_, rfl, HTe.out.ok_ false⟩
       | false =>
        rw [if_neg si_] at H;obtain ⟨x, hx, H⟩ := oB_ H;have Hx := A_ hx;have HM := A_ H;clear hx H;by_cases d2 : x = about
        case pos =>
         have d2b : (x == about) = true := bQ_ d2;have HM2 : As9 (sattrsL n about s nx false out x true = some (r0, r1, r2, r3, r4)) := ⟨by have h := HM.out; rw [dE_ d2] at h; exact h⟩;clear d2;go_wp2_with (first | (go_at_call 168; (with_reducible refine (spec_l4Has.calls n An cn out nm _ _ (Kd.R_reads' HTd.out.nr).2.2 (Kd.R_reads' HTd.out.nr).2.1 Hv.out).mono ?_); rintro e w6 ⟨rfl, hd⟩; have HTe := A_ (HTd.out.below hd.below); have HAe := A_ (blk_below HA.out hd.below); clear hd HTd HA hx0 hx1 hz1 hz2 hf1 hf2; obtain ⟨hx0, hx1⟩ := bc2_ HAe.out; have hz1 := cellS89_1 HTe.out.st.1; have hz2 := cellS89_2 HTe.out.st.1; have hf1 := blk_frozen HTe.out.st.1 1; have hf2 := blk_frozen HTe.out.st.1 2; have HT8 := A_ (HTe.out.at_ nx)) | (go_at_call 169; clear hx0 hx1 hz1 hz2 hf1 hf2; (with_reducible refine (spec_l19Space.calls n av x _ Hx.out).mono ?_); rintro e w8 ⟨rfl, hd⟩; have HTf := A_ (HT8.out.below hd.below); clear hd HT8 HTe HAe; have hz2 := cellS89_2 HTf.out.st.1; have hf2 := blk_frozen HTf.out.st.1 2))
         go_roundg n
         case measure => omega
         case rel => exact ⟨_, _, _, _, _, _, rfl, rfl, HM2, ⟨HTf.out.ok_ false⟩⟩
        case neg =>
         have d2b : (x == about) = false := bN_ d2;have HM2 : As9 (sattrsL n about s nx true out x true = some (r0, r1, r2, r3, r4)) := ⟨by have h := HM.out; rw [dF_ d2] at h; exact h⟩;clear d2;go_wp2_with (first | (go_at_call 168; (with_reducible refine (spec_l4Has.calls n An cn out nm _ _ (Kd.R_reads' HTd.out.nr).2.2 (Kd.R_reads' HTd.out.nr).2.1 Hv.out).mono ?_); rintro e w6 ⟨rfl, hd⟩; have HTe := A_ (HTd.out.below hd.below); have HAe := A_ (blk_below HA.out hd.below); clear hd HTd HA hx0 hx1 hz1 hz2 hf1 hf2; obtain ⟨hx0, hx1⟩ := bc2_ HAe.out; have hz1 := cellS89_1 HTe.out.st.1; have hz2 := cellS89_2 HTe.out.st.1; have hf1 := blk_frozen HTe.out.st.1 1; have hf2 := blk_frozen HTe.out.st.1 2; have HT8 := A_ (HTe.out.at_ nx)) | (go_at_call 169; clear hx0 hx1 hz1 hz2 hf1 hf2; (with_reducible refine (spec_l19Space.calls n av x _ Hx.out).mono ?_); rintro e w8 ⟨rfl, hd⟩; have HTf := A_ (HT8.out.below hd.below); clear hd HT8 HTe HAe; have hz2 := cellS89_2 HTf.out.st.1; have hf2 := blk_frozen HTf.out.st.1 2))
         go_roundg n
         case measure => omega
         case rel => exact ⟨_, _, _, _, _, _, rfl, rfl, HM2, HTf⟩
      case neg =>
       rw [if_neg cx] at H;have cxb : (nm.toList == [120, 109, 108, 110, 115]) = false := bN_ cx;have cxn : (!(nm.toList == [120, 109, 108, 110, 115])) = true := by rw [cxb]; rfl
       clear cx;split at H
       case isFalse => cases H
       case isTrue hl =>
        have HL := A_ hl;have HM := A_ H;clear hl H;go_wp2_with (first | (go_at_call 168; (with_reducible refine (spec_l4Has.calls n An cn out nm _ _ (Kd.R_reads' HTd.out.nr).2.2 (Kd.R_reads' HTd.out.nr).2.1 Hv.out).mono ?_); rintro e w6 ⟨rfl, hd⟩; have HTe := A_ (HTd.out.below hd.below); have HAe := A_ (blk_below HA.out hd.below); clear hd HTd HA hx0 hx1 hz1 hz2 hf1 hf2; obtain ⟨hx0, hx1⟩ := bc2_ HAe.out; have hz1 := cellS89_1 HTe.out.st.1; have hz2 := cellS89_2 HTe.out.st.1; have hf1 := blk_frozen HTe.out.st.1 1; have hf2 := blk_frozen HTe.out.st.1 2; have HT8 := A_ (HTe.out.at_ nx)) | ((with_reducible refine gate_builtin (b := .append) (xs := #[.tmp 82, .tmp 84]) rfl ?_); at_builtin; go_loud (refine Kd.R_append k36 (w0 := w0) w0.heap.size rfl (.tmp 82) (.tmp 84) 40 36 (.agg #[(.string ⟨#[]⟩), (.string ⟨#[]⟩)]) 32 rfl Tryz.underlying40 info36 rfl de_ om_ (.slice An out.length cn) out (⟨nm, av⟩ : S36) [.string nm, .string av] (fun k_ => w.heap.size ≤ k_) (fun _ => False) rfl ?aX ?aP (fun _ hk => hk.elim) ?aF ?aO ?aB ?aS ?aL ?_); (case aX => first | rfl | (go_simp; done) | (go_simp; rfl) | (simp; done) | (simp; rfl)); (case aP => exact k36_mkM _ _ _ (⟨nm, av⟩ : S36)); (case aF => exact fun k hk => Nat.le_trans HT8.out.kp.1 hk); (case aO => exact HT8.out.nr); (case aB => exact HT8.out.bl); (case aS => exact HT8.out.bl.size); (case aL => have := HL.out; omega); intro v6 w7 ho hb hg hat; have HTg := A_ (HT8.out.app ho hb hg); clear ho hb hg hat HT8 HTe HAe hx0 hx1 hz1 hz2 hf1 hf2))
        go_roundg n
        case measure => omega
        case rel => exact ⟨_, _, _, _, _, _, rfl, rfl, HM, HTg⟩
    ·skip
     refine box_step ?hg (N := 9) ?hd (cs := #[.string ⟨#[]⟩, .string ⟨#[]⟩]) (t := 36) ?hr ?_; (case hd => rfl); (case hg => rfl); (case hr => first | (go_simp; done) | (go_simp; rfl));intro ga hga wr13 hbox hb;have HGA := A_ (show w.heap.size ≤ ga ∧ g < ga ∧ ∀ k, (Value.slice An out.length cn).ownBlock = some k → k < ga from by rw [hga]; exact ⟨HTd.out.kp.1, HTd.out.st.lt, fun k hk => Kd.R_lt HTd.out.nr k hk⟩);have HA := A_ hbox;have n1_ := A_ (HTd.out.below hb);clear hb hga hbox HTd;have HTd := n1_;clear n1_;refine hK.out _ _ ⟨cellS89_0 HTd.out.st.1, cellS89_1 HTd.out.st.1⟩ (fun hHeld => ?_);clear hK K;refine nm_ ?_;refine n1_ 9 (tB 16 9215) rfl fun K hK => ?_
     refine gS_ Tryz.func26 #[.string s, .int .i64 (wrap64 (p + 1))] ?_;with_reducible refine (spec_XmlAttr.calls n s (wrap64 (p + 1)) nm av nx _ Ha.out).mono ?_
     rintro e wr9 ⟨rfl, hb⟩;refine ⟨_, rfl, ?_⟩;have n1_ := A_ (HTd.out.below hb);(try (have n6_ := A_ (blk_below HA.out hb); clear HA; have HA := n6_; clear n6_))
     clear hb HTd;have HTd := n1_;clear n1_;refine hK.out _ _ ⟨cellS89_0 HTd.out.st.1, cellS89_1 HTd.out.st.1⟩ (fun hHeld => ?_);clear hK K;refine nm_ ?_;refine pg_ 10 (tB 16 10239) ?_;refine pg_ 11 (tB 16 12287) ?_;refine pg_ 12 (tS 16 14) ?_;refine last_ (i := 14) (N := none) (tS 16 15) rfl rfl (by kernel_rfl) de_ (fun K hK => ?_);refine put_step2 ?hw ?hN 36 (.tmp 9) (.tmp 52) ?ho (g := ga) (u0 := .string nm) (u1 := .string av) ?ha ?hx (by kernel_rfl) HA.out rfl rfl ?_; (case hw => rfl); (case hN => rfl); (case ho => rfl); (case ha => rfl); (case hx => rfl);replace HA := A_ (blk_two HA.out (.string nm) (.string av));replace HTd := A_ (HTd.out.two_ HGA.out.1 HGA.out.2.1 HGA.out.2.2 (.string nm) (.string av));refine hK.out _ _ ?_;clear hK K;refine pq_ ?_;refine done_ (by kernel_rfl) ?_;generalize hwe : World.setCell _ _ _ = we at HA HTd ⊢;clear hwe;have he1 : (g = ga) = False := eq_false (Nat.ne_of_lt HGA.out.2.1);have he2 : (ga = g) = False := eq_false (Nat.ne_of_gt HGA.out.2.1);obtain ⟨hx0, hx1⟩ := bc2_ HA.out;have hz1 := cellS89_1 HTd.out.st.1;have hz2 := cellS89_2 HTd.out.st.1;have hf1 := blk_frozen HTd.out.st.1 1;have hf2 := blk_frozen HTd.out.st.1 2;have H := HH.out;by_cases d1 : nx < 0
     case pos =>
      rw [if_pos d1] at H;simp only [Option.some.injEq, Prod.mk.injEq] at H;obtain ⟨rfl, rfl, rfl, rfl, rfl⟩ := H;go_wp2
      go_ret2
      exact ⟨_, rfl, HTd.out.ok_ false⟩
     case neg =>
     rw [if_neg d1] at H;obtain ⟨hv, hhv, H⟩ := oB_ H;have Hv := A_ hhv;clear hhv;cases hv with
     | true =>
      rw [if_pos rfl] at H;simp only [Option.some.injEq, Prod.mk.injEq] at H;obtain ⟨rfl, rfl, rfl, rfl, rfl⟩ := H;go_wp2_with ((go_at_call 168; (with_reducible refine (spec_l4Has.calls n An cn out nm _ _ (Kd.R_reads' HTd.out.nr).2.2 (Kd.R_reads' HTd.out.nr).2.1 Hv.out).mono ?_); rintro e w6 ⟨rfl, hd⟩; have HTe := A_ (HTd.out.below hd.below); have HAe := A_ (blk_below HA.out hd.below); clear hd HTd HA hx0 hx1 hz1 hz2 hf1 hf2; obtain ⟨hx0, hx1⟩ := bc2_ HAe.out; have hz1 := cellS89_1 HTe.out.st.1; have hz2 := cellS89_2 HTe.out.st.1; have hf1 := blk_frozen HTe.out.st.1 1; have hf2 := blk_frozen HTe.out.st.1 2; have HT8 := A_ (HTe.out.at_ nx)))
      go_ret2
      exact ⟨_, rfl, HTe.out.ok_ false⟩
     | false =>
      rw [if_neg si_] at H;by_cases cx : nm.toList = [120, 109, 108, 110, 115]
      case pos =>
       rw [if_pos cx] at H;have cxb : (nm.toList == [120, 109, 108, 110, 115]) = true := by rw [cx]; rfl
       have cxn : (!(nm.toList == [120, 109, 108, 110, 115])) = false := by rw [cx]; rfl
       clear cx;cases told with
       | true =>
        rw [if_pos rfl] at H;simp only [Option.some.injEq, Prod.mk.injEq] at H;obtain ⟨rfl, rfl, rfl, rfl, rfl⟩ := H;go_wp2_with ((go_at_call 168; (with_reducible refine (spec_l4Has.calls n An cn out nm _ _ (Kd.R_reads' HTd.out.nr).2.2 (Kd.R_reads' HTd.out.nr).2.1 Hv.out).mono ?_); rintro e w6 ⟨rfl, hd⟩; have HTe := A_ (HTd.out.below hd.below); have HAe := A_ (blk_below HA.out hd.below); clear hd HTd HA hx0 hx1 hz1 hz2 hf1 hf2; obtain ⟨hx0, hx1⟩ := bc2_ HAe.out; have hz1 := cellS89_1 HTe.out.st.1; have hz2 := cellS89_2 HTe.out.st.1; have hf1 := blk_frozen HTe.out.st.1 1; have hf2 := blk_frozen HTe.out.st.1 2; have HT8 := A_ (HTe.out.at_ nx)))
        go_ret2
        exact ⟨_, rfl, HTe.out.ok_ false⟩
       | false =>
        rw [if_neg si_] at H;obtain ⟨x, hx, H⟩ := oB_ H;have Hx := A_ hx;have HM := A_ H;clear hx H;by_cases d2 : x = about
        case pos =>
         have d2b : (x == about) = true := bQ_ d2;have HM2 : As9 (sattrsL n about s nx false out x true = some (r0, r1, r2, r3, r4)) := ⟨by have h := HM.out; rw [dE_ d2] at h; exact h⟩;clear d2;go_wp2_with (first | (go_at_call 168; (with_reducible refine (spec_l4Has.calls n An cn out nm _ _ (Kd.R_reads' HTd.out.nr).2.2 (Kd.R_reads' HTd.out.nr).2.1 Hv.out).mono ?_); rintro e w6 ⟨rfl, hd⟩; have HTe := A_ (HTd.out.below hd.below); have HAe := A_ (blk_below HA.out hd.below); clear hd HTd HA hx0 hx1 hz1 hz2 hf1 hf2; obtain ⟨hx0, hx1⟩ := bc2_ HAe.out; have hz1 := cellS89_1 HTe.out.st.1; have hz2 := cellS89_2 HTe.out.st.1; have hf1 := blk_frozen HTe.out.st.1 1; have hf2 := blk_frozen HTe.out.st.1 2; have HT8 := A_ (HTe.out.at_ nx)) | (go_at_call 169; clear hx0 hx1 hz1 hz2 hf1 hf2; (with_reducible refine (spec_l19Space.calls n av x _ Hx.out).mono ?_); rintro e w8 ⟨rfl, hd⟩; have HTf := A_ (HT8.out.below hd.below); clear hd HT8 HTe HAe; have hz2 := cellS89_2 HTf.out.st.1; have hf2 := blk_frozen HTf.out.st.1 2))
         go_roundg n
         case measure => omega
         case rel => exact ⟨_, _, _, _, _, _, rfl, rfl, HM2, ⟨HTf.out.ok_ false⟩⟩
        case neg =>
         have d2b : (x == about) = false := bN_ d2;have HM2 : As9 (sattrsL n about s nx true out x true = some (r0, r1, r2, r3, r4)) := ⟨by have h := HM.out; rw [dF_ d2] at h; exact h⟩;clear d2;go_wp2_with (first | (go_at_call 168; (with_reducible refine (spec_l4Has.calls n An cn out nm _ _ (Kd.R_reads' HTd.out.nr).2.2 (Kd.R_reads' HTd.out.nr).2.1 Hv.out).mono ?_); rintro e w6 ⟨rfl, hd⟩; have HTe := A_ (HTd.out.below hd.below); have HAe := A_ (blk_below HA.out hd.below); clear hd HTd HA hx0 hx1 hz1 hz2 hf1 hf2; obtain ⟨hx0, hx1⟩ := bc2_ HAe.out; have hz1 := cellS89_1 HTe.out.st.1; have hz2 := cellS89_2 HTe.out.st.1; have hf1 := blk_frozen HTe.out.st.1 1; have hf2 := blk_frozen HTe.out.st.1 2; have HT8 := A_ (HTe.out.at_ nx)) | (go_at_call 169; clear hx0 hx1 hz1 hz2 hf1 hf2; (with_reducible refine (spec_l19Space.calls n av x _ Hx.out).mono ?_); rintro e w8 ⟨rfl, hd⟩; have HTf := A_ (HT8.out.below hd.below); clear hd HT8 HTe HAe; have hz2 := cellS89_2 HTf.out.st.1; have hf2 := blk_frozen HTf.out.st.1 2))
         go_roundg n
         case measure => omega
         case rel => exact ⟨_, _, _, _, _, _, rfl, rfl, HM2, HTf⟩
      case neg =>
       rw [if_neg cx] at H;have cxb : (nm.toList == [120, 109, 108, 110, 115]) = false := bN_ cx;have cxn : (!(nm.toList == [120, 109, 108, 110, 115])) = true := by rw [cxb]; rfl
       clear cx;split at H
       case isFalse => cases H
       case isTrue hl =>
        have HL := A_ hl;have HM := A_ H;clear hl H;go_wp2_with (first | (go_at_call 168; (with_reducible refine (spec_l4Has.calls n An cn out nm _ _ (Kd.R_reads' HTd.out.nr).2.2 (Kd.R_reads' HTd.out.nr).2.1 Hv.out).mono ?_); rintro e w6 ⟨rfl, hd⟩; have HTe := A_ (HTd.out.below hd.below); have HAe := A_ (blk_below HA.out hd.below); clear hd HTd HA hx0 hx1 hz1 hz2 hf1 hf2; obtain ⟨hx0, hx1⟩ := bc2_ HAe.out; have hz1 := cellS89_1 HTe.out.st.1; have hz2 := cellS89_2 HTe.out.st.1; have hf1 := blk_frozen HTe.out.st.1 1; have hf2 := blk_frozen HTe.out.st.1 2; have HT8 := A_ (HTe.out.at_ nx)) | ((with_reducible refine gate_builtin (b := .append) (xs := #[.tmp 82, .tmp 84]) rfl ?_); at_builtin; go_loud (refine Kd.R_append k36 (w0 := w0) w0.heap.size rfl (.tmp 82) (.tmp 84) 40 36 (.agg #[(.string ⟨#[]⟩), (.string ⟨#[]⟩)]) 32 rfl Tryz.underlying40 info36 rfl de_ om_ (.slice An out.length cn) out (⟨nm, av⟩ : S36) [.string nm, .string av] (fun k_ => w.heap.size ≤ k_) (fun _ => False) rfl ?aX ?aP (fun _ hk => hk.elim) ?aF ?aO ?aB ?aS ?aL ?_); (case aX => first | rfl | (go_simp; done) | (go_simp; rfl) | (simp; done) | (simp; rfl)); (case aP => exact k36_mkM _ _ _ (⟨nm, av⟩ : S36)); (case aF => exact fun k hk => Nat.le_trans HT8.out.kp.1 hk); (case aO => exact HT8.out.nr); (case aB => exact HT8.out.bl); (case aS => exact HT8.out.bl.size); (case aL => have := HL.out; omega); intro v6 w7 ho hb hg hat; have HTg := A_ (HT8.out.app ho hb hg); clear ho hb hg hat HT8 HTe HAe hx0 hx1 hz1 hz2 hf1 hf2))
        go_roundg n
        case measure => omega
        case rel => exact ⟨_, _, _, _, _, _, rfl, rfl, HM, HTg⟩
def strings_Index.f (a0 : BA) (a1 : BA) : Option Int := if a0.size < 4294967281 then some (Lib.index a0.data.toList a1.data.toList) else none
theorem strings_Index.calls (a0 : BA) (a1 : BA) (r : Int) (w : World) (hL : LibOk w) (h : strings_Index.f a0 a1 = some r) :
  Calls Tryz.prog 78 #[.string a0, .string a1] w fun e w' => e = .returned (.int .i64 r) ∧ Drawn0 w w' := by
 unfold strings_Index.f at h;have hs : a0.size < 4294967281 := by
  by_cases hs : a0.size < 4294967281
  ·exact hs
  ·rw [if_neg hs] at h; cases h
 rw [if_pos hs] at h;obtain rfl := sI_ h;obtain ⟨m, hm⟩ := hL.maxLen;exact (Tryz.strings_Index a0 a1 m w hs hm).mono fun e w' hh => ⟨hh.1, by rw [hh.2]; exact Drawn0.refl _⟩
def impl_Signs.l0 : Nat → ByteArray → List Int → Int → Option (List Int)
 | 0, _, _, _ => none
 | k + 1, x0, x3, x4 => if x4 < (x0.size : Int) then ((impl_getSign.f k x0 x4).bind fun bt389 => (if x3.length < 17592186044416 then (impl_Signs.l0 k x0 (x3 ++ [bt389.1]) (wrap64 (x4 + bt389.2))) else (none))) else (some x3)
def impl_Signs.f (k : Nat) (a0 : BA) : Option (List Int) := impl_Signs.l0 k a0 ([] : List Int) 0
theorem impl_Signs.mono_l : ∀ k, (∀ y0 y1 y2, LeO (impl_Signs.l0 k y0 y1 y2) (impl_Signs.l0 (k + 1) y0 y1 y2))
 | 0 => fun _ _ _ r h => by simp [impl_Signs.l0] at h
 | k + 1 => by
  have ih0 := impl_Signs.mono_l k
  ·intro y0 y1 y2;unfold impl_Signs.l0;with_reducible repeat' first | exact ih0 _ _ _ | exact impl_getSign.mono _ _ _ | apply LeO.refl | apply LeO.none | apply LeO.ite | apply LeO.bind | intro
theorem impl_Signs.mono : ∀ a0 k, LeO (impl_Signs.f k a0) (impl_Signs.f (k + 1) a0) := by
 intro a0 k;have ih0 := impl_Signs.mono_l k;unfold impl_Signs.f;with_reducible repeat' first | exact ih0 _ _ _ | exact impl_getSign.mono _ _ _ | apply LeO.refl | apply LeO.none | apply LeO.ite | apply LeO.bind | intro
theorem impl_Signs.calls (k : Nat) (a0 : BA) (r : List Int) (w : World) (h : impl_Signs.f k a0 = some r) :
  Calls Tryz.prog 82 #[.string a0] w fun e w' => ∃ v0_ : Value, e = .returned (v0_) ∧ Kd.R (Kd.int .i64) 3 w' w.heap.size (fun _ => True) v0_ r ∧ Below w.heap.size w w' := by
 have HB := A_ (Below.refl w.heap.size w);have H : (impl_Signs.l0 k a0 ([] : List Int) 0) = some r := h;clear h;have H' := A_ H;clear H;go_enter Tryz.func82, Tryz.ntmps82
 go_wp2
 go_loopg [3, 4] k (fun kq v3 v4 w' => ∃ (x3_1 : List Int) (x4_1 : Int), v4 = .int .i64 x4_1 ∧ As9 (impl_Signs.l0 kq a0 x3_1 x4_1 = some r) ∧ As9 (kq ≤ k) ∧ As9 (Kd.R (Kd.int .i64) 3 w' w.heap.size (fun _ => True) v3 x3_1) ∧ As9 (Below w.heap.size w w'))
 case atStart => exact ⟨(([] : List Int)), (0), e2_, H', ⟨Nat.le_refl _⟩, ⟨by first | exact Kd.R_nil _ _ _ _ _ | exact Kd.N_nil _ _ _ _ _ | exact Kd.V_nil _ _ _ _ _ | exact Kd.Q_nil _ _ _ _ _ | exact Kd.S_nil _ _ _ _ _⟩, ⟨hB_⟩⟩
 case round =>
  clear H';obtain ⟨x3_1, x4_1, rfl, HA, HK1, HO_3, HB⟩ := hrel;cases gk with
  | zero => exact absurd HA.out (by simp [impl_Signs.l0])
  | succ k1 =>
   have H := HA.out;clear HA;simp only [impl_Signs.l0] at H;rcases ic_ H with ⟨c2, H⟩ | ⟨c2, H⟩
   ·have c2b0 := dE_ c2;clear c2;obtain ⟨⟨t389, t390⟩, A3, H⟩ := ob_ H;(try dsimp only at H)
    obtain ⟨c4, H⟩ := ifn_ H;have LMc4 := A_ c4;clear c4;obtain ⟨y391, hy391⟩ : ∃ y_ : List Int, y_ = (x3_1 ++ [t389]) := ⟨_, rfl⟩;replace H : (impl_Signs.l0 k1 a0 y391 (wrap64 (x4_1 + t390))) = some r := by first | (rw [hy391]; with_reducible exact H) | (have H2_ := (Option.bind_some _ _).symm.trans H; rw [hy391]; with_reducible exact H2_) | (have H2_ := (Option.bind_some _ _).symm.trans H; with_reducible exact H2_) | with_reducible exact H | (rw [hy391]; exact H) | exact H
    have Ny391 := A_ hy391;clear hy391;have H' := A_ H;clear H;go_wp2_with (first | (refine gL_ 14 Tryz.func106 #[.string a0, .int .i64 x4_1] ?_; refine dm_ (impl_getSign.calls k1 a0 x4_1 t389 t390 _ A3.out) fun nd => ?_) | ((with_reducible refine gate_builtin (b := .append) (xs := #[.tmp 17, .tmp 19]) rfl ?_); at_builtin; refine Kd.R_append (Kd.int .i64) (w0 := w) w.heap.size rfl (.tmp 17) (.tmp 19) 85 3 (.int .i64 0) 8 rfl Tryz.underlying85 info3 rfl de_ om_ u3 x3_1 t389 [.int .i64 t389] (fun _ => True) (fun _ => False) rfl rfl ?aP (fun _ hk => hk.elim) ?aF ?aO ?aB ?aS ?aL ?_; (case aP => exact rfl); (case aB => exact hB_); (case aF => exact (fun _ _ => trivial)); (case aO => exact (kQ_ HO_3.out)); (case aS => exact (below_size hB_)); (case aL => have := LMc4.out; omega); intro v392 w5 ho hb hg hat; rw [← Ny391.out] at ho; replace HB := A_ (hb); have HO393 := A_ (ho); clear HO_3; clear ho hb hg hat))
    go_roundg k1
    case measure => have := HK1.out; omega
    case rel => exact ⟨(y391), (wrap64 (x4_1 + t390)), e2_, H', ⟨by have := HK1.out; omega⟩, ⟨kQ_ HO393.out⟩, ⟨hB_⟩⟩
   ·have c2b0 := dF_ c2;clear c2;obtain rfl := sI_ H;go_wp2
    go_ret
    exact ⟨_, e1_, kQ_ HO_3.out, hB_⟩
def impl_Clean.f (k : Nat) (a0 : BA) : Option (ByteArray) := (impl_Signs.f k a0).bind fun t394 => ((impl_SignText.f k t394).bind fun t397 => (some t397))
theorem impl_Clean.mono : ∀ a0 k, LeO (impl_Clean.f k a0) (impl_Clean.f (k + 1) a0) := by
 intro a0 k;unfold impl_Clean.f;with_reducible repeat' first | exact impl_SignText.mono _ _ | exact impl_Signs.mono _ _ | apply LeO.refl | apply LeO.none | apply LeO.ite | apply LeO.bind | intro
theorem impl_Clean.calls (k : Nat) (a0 : BA) (r : BA) (w : World) (h : impl_Clean.f k a0 = some r) :
  Calls Tryz.prog 130 #[.string a0] w fun e w' => e = .returned (.string r) ∧ Below w.heap.size w w' := by
 have HB := A_ (Below.refl w.heap.size w);have H : ((impl_Signs.f k a0).bind fun t394 => ((impl_SignText.f k t394).bind fun t397 => (some t397))) = some r := h;clear h;obtain ⟨t394, A2, H⟩ := ob_ H;obtain ⟨t397, A3, H⟩ := ob_ H;obtain rfl := sI_ H;go_enter Tryz.func130, Tryz.ntmps130
 go_wp2_with (first | (refine gL_ 4 Tryz.func82 #[.string a0] ?_; (with_reducible refine (impl_Signs.calls k a0 t394 _ A2.out).mono ?_); rintro e w4 ⟨v395, rfl, ho0, hb⟩; refine ⟨_, rfl, ?_⟩; have HO396 := A_ (Kd.R_lower ho0 (below_size hB_)); replace HB := bS_ hb; clear hb; (try clear ho0); obtain ⟨Ao5, co5, eo5⟩ := Kd.R_slice HO396.out; subst eo5) | (refine gL_ 5 Tryz.func167 #[.slice Ao5 t394.length co5] ?_; (with_reducible refine (impl_SignText.calls k _ _ t394 t397 _ ?side1 ?side2 A3.out).mono ?_); (case side1 => repeat (first | exact (Kd.R_reads' HO396.out).2.2 | (with_reducible refine Kd.C_alloc ?_ _) | (with_reducible refine Kd.C_drewN ?_ _) | (with_reducible refine Kd.C_drew ?_))); (case side2 => exact (Kd.R_reads' HO396.out).2.1); rintro e w6 ⟨rfl, hb⟩; refine ⟨_, rfl, ?_⟩; replace HO396 := A_ (Kd.R_below (kQ_ HO396.out) hb); replace HB := bS_ hb; clear hb))
 go_ret
 exact ⟨e1_, hB_⟩
def impl_CleanOk.f (k : Nat) (a0 : BA) : Option (Bool) := (impl_Clean.f k a0).bind fun t398 => (some (t398.toList == a0.toList))
theorem impl_CleanOk.mono : ∀ a0 k, LeO (impl_CleanOk.f k a0) (impl_CleanOk.f (k + 1) a0) := by
 intro a0 k;unfold impl_CleanOk.f;with_reducible repeat' first | exact impl_Clean.mono _ _ | apply LeO.refl | apply LeO.none | apply LeO.ite | apply LeO.bind | intro
theorem impl_CleanOk.calls (k : Nat) (a0 : BA) (r : Bool) (w : World) (h : impl_CleanOk.f k a0 = some r) :
  Calls Tryz.prog 83 #[.string a0] w fun e w' => e = .returned (.bool r) ∧ Below w.heap.size w w' := by
 have HB := A_ (Below.refl w.heap.size w);have H : ((impl_Clean.f k a0).bind fun t398 => (some (t398.toList == a0.toList))) = some r := h;clear h;obtain ⟨t398, A2, H⟩ := ob_ H;obtain rfl := sI_ H;go_enter Tryz.func83, Tryz.ntmps83
 go_wp2_with (first | (refine gL_ 4 Tryz.func130 #[.string a0] ?_; refine bm_ (impl_Clean.calls k a0 t398 _ A2.out) ?_; clear HB; intro w3 HB))
 go_ret
 exact ⟨e1_, hB_⟩
def impl_TextOk.l0 : Nat → ByteArray → List Int → Int → Int → Option (Bool)
 | 0, _, _, _, _ => none
 | k + 1, x0, x6, x7, x8 => if x8 < x7 then (if 0 ≤ x8 then (if x8 < (x6.length : Int) then ((impl_IsText.f (rd x6 x8)).bind fun t403 => (if t403 = true then (impl_TextOk.l0 k x0 x6 x7 (wrap64 (x8 + 1))) else (some false))) else (none)) else (none)) else ((impl_CleanOk.f k x0).bind fun t404 => (some t404))
def impl_TextOk.f (k : Nat) (a0 : BA) : Option (Bool) := (impl_Signs.f k a0).bind fun t399 => (impl_TextOk.l0 k a0 t399 (t399.length : Int) 0)
theorem impl_TextOk.mono_l : ∀ k, (∀ y0 y1 y2 y3, LeO (impl_TextOk.l0 k y0 y1 y2 y3) (impl_TextOk.l0 (k + 1) y0 y1 y2 y3))
 | 0 => fun _ _ _ _ r h => by simp [impl_TextOk.l0] at h
 | k + 1 => by
  have ih0 := impl_TextOk.mono_l k
  ·intro y0 y1 y2 y3;unfold impl_TextOk.l0;with_reducible repeat' first | exact ih0 _ _ _ _ | exact impl_CleanOk.mono _ _ | exact impl_Signs.mono _ _ | apply LeO.refl | apply LeO.none | apply LeO.ite | apply LeO.bind | intro
theorem impl_TextOk.mono : ∀ a0 k, LeO (impl_TextOk.f k a0) (impl_TextOk.f (k + 1) a0) := by
 intro a0 k;have ih0 := impl_TextOk.mono_l k;unfold impl_TextOk.f;with_reducible repeat' first | exact ih0 _ _ _ _ | exact impl_CleanOk.mono _ _ | exact impl_Signs.mono _ _ | apply LeO.refl | apply LeO.none | apply LeO.ite | apply LeO.bind | intro
theorem impl_TextOk.calls (k : Nat) (a0 : BA) (r : Bool) (w : World) (h : impl_TextOk.f k a0 = some r) :
  Calls Tryz.prog 30 #[.string a0] w fun e w' => e = .returned (.bool r) ∧ Below w.heap.size w w' := by
 have HB := A_ (Below.refl w.heap.size w);have H : ((impl_Signs.f k a0).bind fun t399 => (impl_TextOk.l0 k a0 t399 (t399.length : Int) 0)) = some r := h;clear h;obtain ⟨t399, A2, H⟩ := ob_ H;(try dsimp only at H)
 have H' := A_ H;clear H;go_enter Tryz.func30, Tryz.ntmps30
 go_wp2_with (first | (refine gL_ 6 Tryz.func82 #[.string a0] ?_; (with_reducible refine (impl_Signs.calls k a0 t399 _ A2.out).mono ?_); rintro e w3 ⟨v400, rfl, ho0, hb⟩; refine ⟨_, rfl, ?_⟩; have HO401 := A_ (Kd.R_lower ho0 (below_size hB_)); replace HB := bS_ hb; clear hb; (try clear ho0); obtain ⟨Ao4, co4, eo4⟩ := Kd.R_slice HO401.out; subst eo4))
 go_loopg [8] k (fun kq v8 w' => ∃ (x8_1 : Int), v8 = .int .i64 x8_1 ∧ As9 (impl_TextOk.l0 kq a0 t399 (t399.length : Int) x8_1 = some r) ∧ As9 (kq ≤ k) ∧ As9 (Kd.R (Kd.int .i64) 3 w' w.heap.size (fun _ => True) (.slice Ao4 t399.length co4) t399) ∧ As9 (Below w.heap.size w w'))
 case atStart => exact ⟨(0), e2_, H', ⟨Nat.le_refl _⟩, ⟨kQ_ HO401.out⟩, ⟨hB_⟩⟩
 case round =>
  clear H';try clear p2
  try clear c3
  obtain ⟨x8_1, rfl, HA, HK1, HO_6, HB⟩ := hrel;cases gk with
  | zero => exact absurd HA.out (by simp [impl_TextOk.l0])
  | succ k1 =>
   have H := HA.out;clear HA;simp only [impl_TextOk.l0] at H;rcases ic_ H with ⟨c5, H⟩ | ⟨c5, H⟩
   ·have c5b0 := dE_ c5;clear c5;obtain ⟨c6, H⟩ := ifn_ H;have c6b0 := dE_ c6;clear c6;obtain ⟨c7, H⟩ := ifn_ H;have c7b0 := dE_ c7;clear c7;obtain ⟨t403, A8, H⟩ := ob_ H;(try dsimp only at H)
    by_cases c9 : t403 = true
    ·subst c9;rw [if_pos rfl] at H;have H' := A_ H;clear H;have p402 : 0 ≤ (x8_1 : Int) := dT_;have q402 : x8_1 < (t399.length : Int) := dT_;obtain ⟨ad402, e402, hx402_0⟩ := Kd.at_int (Kd.R_reads' HO_6.out).2.2 x8_1 p402 q402;cases e402;replace p402 := eq_true p402;replace q402 := eq_true q402;go_wp2_with (first | (refine gL_ 13 Tryz.func67 #[.int .i64 (rd t399 x8_1)] ?_; refine dm_ (impl_IsText.calls (rd t399 x8_1) true _ A8.out) fun nd => ?_))
     go_roundg k1
     case measure => have := HK1.out; omega
     case rel => exact ⟨(wrap64 (x8_1 + 1)), e2_, H', ⟨by have := HK1.out; omega⟩, ⟨kQ_ HO_6.out⟩, ⟨hB_⟩⟩
    ·replace c9 := bF_ c9;subst c9;rw [if_neg nF_] at H;obtain rfl := sI_ H;have p402 : 0 ≤ (x8_1 : Int) := dT_;have q402 : x8_1 < (t399.length : Int) := dT_;obtain ⟨ad402, e402, hx402_0⟩ := Kd.at_int (Kd.R_reads' HO_6.out).2.2 x8_1 p402 q402;cases e402;replace p402 := eq_true p402;replace q402 := eq_true q402;go_wp2_with (first | (refine gL_ 13 Tryz.func67 #[.int .i64 (rd t399 x8_1)] ?_; refine dm_ (impl_IsText.calls (rd t399 x8_1) false _ A8.out) fun nd => ?_))
     go_ret
     exact ⟨e1_, hB_⟩
   ·have c5b0 := dF_ c5;clear c5;obtain ⟨t404, A10, H⟩ := ob_ H;obtain rfl := sI_ H;go_wp2_with (first | (refine gL_ 17 Tryz.func83 #[.string a0] ?_; (with_reducible refine (impl_CleanOk.calls k1 a0 t404 _ A10.out).mono ?_); rintro e w11 ⟨rfl, hb⟩; refine ⟨_, rfl, ?_⟩; replace HO_6 := A_ (Kd.R_below (kQ_ HO_6.out) hb); replace HB := bS_ hb; clear hb))
    go_ret
    exact ⟨e1_, hB_⟩
def strings_Contains.f (a0 : BA) (a1 : BA) : Option Bool := if a0.size < 4294967281 then some (Lib.contains a0.data.toList a1.data.toList) else none
theorem strings_Contains.calls (a0 : BA) (a1 : BA) (r : Bool) (w : World) (hL : LibOk w) (h : strings_Contains.f a0 a1 = some r) :
  Calls Tryz.prog 128 #[.string a0, .string a1] w fun e w' => e = .returned (.bool r) ∧ Drawn0 w w' := by
 unfold strings_Contains.f at h;have hs : a0.size < 4294967281 := by
  by_cases hs : a0.size < 4294967281
  ·exact hs
  ·rw [if_neg hs] at h; cases h
 rw [if_pos hs] at h;obtain rfl := sI_ h;obtain ⟨m, hm⟩ := hL.maxLen;exact (Tryz.strings_Contains a0 a1 m w hs hm).mono fun e w' hh => ⟨hh.1, by rw [hh.2]; exact Drawn0.refl _⟩
def impl_NoteOk.f (k : Nat) (a0 : BA) : Option (Bool) := (impl_TextOk.f k a0).bind fun t405 => (if t405 = true then ((strings_Contains.f a0 (⟨#[13]⟩ : BA)).bind fun t406 => (if t406 = true then (some false) else ((strings_Contains.f a0 (⟨#[45, 45]⟩ : BA)).bind fun t407 => (if t407 = true then (some false) else ((strings_HasSuffix.f a0 (⟨#[45]⟩ : BA)).bind fun t408 => (some (!t408))))))) else (some false))
theorem impl_NoteOk.mono : ∀ a0 k, LeO (impl_NoteOk.f k a0) (impl_NoteOk.f (k + 1) a0) := by
 intro a0 k;unfold impl_NoteOk.f;with_reducible repeat' first | exact impl_TextOk.mono _ _ | apply LeO.refl | apply LeO.none | apply LeO.ite | apply LeO.bind | intro
theorem impl_NoteOk.calls (k : Nat) (a0 : BA) (r : Bool) (w : World) (hL : LibOk w) (h : impl_NoteOk.f k a0 = some r) :
  Calls Tryz.prog 79 #[.string a0] w fun e w' => e = .returned (.bool r) ∧ Below w.heap.size w w' := by
 have HB := A_ (Below.refl w.heap.size w);have H : ((impl_TextOk.f k a0).bind fun t405 => (if t405 = true then ((strings_Contains.f a0 (⟨#[13]⟩ : BA)).bind fun t406 => (if t406 = true then (some false) else ((strings_Contains.f a0 (⟨#[45, 45]⟩ : BA)).bind fun t407 => (if t407 = true then (some false) else ((strings_HasSuffix.f a0 (⟨#[45]⟩ : BA)).bind fun t408 => (some (!t408))))))) else (some false))) = some r := h;clear h;obtain ⟨t405, A2, H⟩ := ob_ H;(try dsimp only at H)
 by_cases c3 : t405 = true
 ·subst c3;rw [if_pos rfl] at H;obtain ⟨t406, A4, H⟩ := ob_ H;(try dsimp only at H)
  by_cases c5 : t406 = true
  ·subst c5;rw [if_pos rfl] at H;obtain rfl := sI_ H;go_enter Tryz.func79, Tryz.ntmps79
   go_wp2_with (first | (refine gL_ 4 Tryz.func30 #[.string a0] ?_; refine bm_ (impl_TextOk.calls k a0 true _ A2.out) ?_; clear HB; intro w6 HB) | (go_at_call 128; (with_reducible refine (strings_Contains.calls a0 (⟨#[13]⟩ : BA) true _ ?side1 A4.out).mono ?_); (case side1 => first | exact hL | exact LibOk.below hL hB_); rintro e w' ⟨rfl, ⟨nd, rfl⟩⟩))
   go_ret
   exact ⟨e1_, hB_⟩
  ·replace c5 := bF_ c5;subst c5;rw [if_neg nF_] at H;obtain ⟨t407, A7, H⟩ := ob_ H;(try dsimp only at H)
   by_cases c8 : t407 = true
   ·subst c8;rw [if_pos rfl] at H;obtain rfl := sI_ H;go_enter Tryz.func79, Tryz.ntmps79
    go_wp2_with (first | (refine gL_ 4 Tryz.func30 #[.string a0] ?_; refine bm_ (impl_TextOk.calls k a0 true _ A2.out) ?_; clear HB; intro w9 HB) | (go_at_call 128; (with_reducible refine (strings_Contains.calls a0 (⟨#[13]⟩ : BA) false _ ?side1 A4.out).mono ?_); (case side1 => first | exact hL | exact LibOk.below hL hB_); rintro e w' ⟨rfl, ⟨nd, rfl⟩⟩) | (go_at_call 128; (with_reducible refine (strings_Contains.calls a0 (⟨#[45, 45]⟩ : BA) true _ ?side1 A7.out).mono ?_); (case side1 => first | exact hL | exact LibOk.below hL hB_); rintro e w' ⟨rfl, ⟨nd, rfl⟩⟩))
    go_ret
    exact ⟨e1_, hB_⟩
   ·replace c8 := bF_ c8;subst c8;rw [if_neg nF_] at H;obtain ⟨t408, A10, H⟩ := ob_ H;obtain rfl := sI_ H;go_enter Tryz.func79, Tryz.ntmps79
    go_wp2_with (first | (refine gL_ 4 Tryz.func30 #[.string a0] ?_; refine bm_ (impl_TextOk.calls k a0 true _ A2.out) ?_; clear HB; intro w11 HB) | (go_at_call 128; (with_reducible refine (strings_Contains.calls a0 (⟨#[13]⟩ : BA) false _ ?side1 A4.out).mono ?_); (case side1 => first | exact hL | exact LibOk.below hL hB_); rintro e w' ⟨rfl, ⟨nd, rfl⟩⟩) | (go_at_call 128; (with_reducible refine (strings_Contains.calls a0 (⟨#[45, 45]⟩ : BA) false _ ?side1 A7.out).mono ?_); (case side1 => first | exact hL | exact LibOk.below hL hB_); rintro e w' ⟨rfl, ⟨nd, rfl⟩⟩) | (go_at_call 72; (with_reducible refine (strings_HasSuffix.calls a0 (⟨#[45]⟩ : BA) t408 _ A10.out).mono ?_); rintro e w' ⟨rfl, ⟨nd, rfl⟩⟩))
    go_ret
    exact ⟨e1_, hB_⟩
 ·replace c3 := bF_ c3;subst c3;rw [if_neg nF_] at H;obtain rfl := sI_ H;go_enter Tryz.func79, Tryz.ntmps79
  go_wp2_with (first | (refine gL_ 4 Tryz.func30 #[.string a0] ?_; refine bm_ (impl_TextOk.calls k a0 false _ A2.out) ?_; clear HB; intro w12 HB))
  go_ret
  exact ⟨e1_, hB_⟩
def impl_XmlNote.f (k : Nat) (a0 : BA) (a1 : Int) : Option (ByteArray × Int) := (impl_inRange.f a1 0 (wrap64 ((a0.size : Int) - 1))).bind fun t409 => (if t409 = true then (if 0 ≤ a1 then (if a1 ≤ (a0.size : Int) then ((strings_CutPrefix.f (a0.extract (a1 : Int).toNat a0.size) (⟨#[60, 33, 45, 45]⟩ : BA)).bind fun bt410 => ((strings_Index.f bt410.1 (⟨#[45, 45]⟩ : BA)).bind fun t412 => (if bt410.2 = true then (if t412 < 0 then (some ((⟨#[]⟩ : BA), (-1))) else (if 0 ≤ t412 then (if t412 ≤ (bt410.1.size : Int) then ((impl_NoteOk.f k (bt410.1.extract 0 (t412 : Int).toNat)).bind fun t413 => (if t413 = true then ((strings_HasPrefix.f (bt410.1.extract (t412 : Int).toNat bt410.1.size) (⟨#[45, 45, 62]⟩ : BA)).bind fun t414 => (if t414 = true then (some (bt410.1.extract 0 (t412 : Int).toNat, wrap64 ((wrap64 ((wrap64 (a1 + 4)) + t412)) + 3))) else (some ((⟨#[]⟩ : BA), (-1))))) else (some ((⟨#[]⟩ : BA), (-1))))) else (none)) else (none))) else (some ((⟨#[]⟩ : BA), (-1)))))) else (none)) else (none)) else (some ((⟨#[]⟩ : BA), (-1))))
theorem impl_XmlNote.mono : ∀ a0 a1 k, LeO (impl_XmlNote.f k a0 a1) (impl_XmlNote.f (k + 1) a0 a1) := by
 intro a0 a1 k;unfold impl_XmlNote.f;with_reducible repeat' first | exact impl_NoteOk.mono _ _ | apply LeO.refl | apply LeO.none | apply LeO.ite | apply LeO.bind | intro
theorem impl_XmlNote.calls (k : Nat) (a0 : BA) (a1 : Int) (r1 : BA) (r2 : Int) (w : World) (hL : LibOk w) (h : impl_XmlNote.f k a0 a1 = some (r1, r2)) :
  Calls Tryz.prog 28 #[.string a0, .int .i64 a1] w fun e w' => e = .returned (.tuple #[.string r1, .int .i64 r2]) ∧ Below w.heap.size w w' := by
 have HB := A_ (Below.refl w.heap.size w);have H : ((impl_inRange.f a1 0 (wrap64 ((a0.size : Int) - 1))).bind fun t409 => (if t409 = true then (if 0 ≤ a1 then (if a1 ≤ (a0.size : Int) then ((strings_CutPrefix.f (a0.extract (a1 : Int).toNat a0.size) (⟨#[60, 33, 45, 45]⟩ : BA)).bind fun bt410 => ((strings_Index.f bt410.1 (⟨#[45, 45]⟩ : BA)).bind fun t412 => (if bt410.2 = true then (if t412 < 0 then (some ((⟨#[]⟩ : BA), (-1))) else (if 0 ≤ t412 then (if t412 ≤ (bt410.1.size : Int) then ((impl_NoteOk.f k (bt410.1.extract 0 (t412 : Int).toNat)).bind fun t413 => (if t413 = true then ((strings_HasPrefix.f (bt410.1.extract (t412 : Int).toNat bt410.1.size) (⟨#[45, 45, 62]⟩ : BA)).bind fun t414 => (if t414 = true then (some (bt410.1.extract 0 (t412 : Int).toNat, wrap64 ((wrap64 ((wrap64 (a1 + 4)) + t412)) + 3))) else (some ((⟨#[]⟩ : BA), (-1))))) else (some ((⟨#[]⟩ : BA), (-1))))) else (none)) else (none))) else (some ((⟨#[]⟩ : BA), (-1)))))) else (none)) else (none)) else (some ((⟨#[]⟩ : BA), (-1))))) = some (r1, r2) := h;clear h;obtain ⟨t409, A3, H⟩ := ob_ H;(try dsimp only at H)
 by_cases c4 : t409 = true
 ·subst c4;rw [if_pos rfl] at H;obtain ⟨c5, H⟩ := ifn_ H;have c5b0 := eq_true c5;have c5b1 := dE_ c5;clear c5;obtain ⟨c6, H⟩ := ifn_ H;have c6b0 := eq_true c6;have c6b1 := dE_ c6;clear c6;obtain ⟨⟨t410, t411⟩, A7, H⟩ := ob_ H;(try dsimp only at H)
  obtain ⟨t412, A8, H⟩ := ob_ H;(try dsimp only at H)
  by_cases c9 : t411 = true
  ·subst c9;rw [if_pos rfl] at H;rcases ic_ H with ⟨c10, H⟩ | ⟨c10, H⟩
   ·have c10b0 := dE_ c10;clear c10;obtain ⟨rfl, rfl⟩ := pi_ H;go_enter Tryz.func28, Tryz.ntmps28
    go_wp2_with (first | (refine gL_ 13 Tryz.func53 #[.int .i64 a1, .int .i64 0, .int .i64 (wrap64 ((a0.size : Int) - 1))] ?_; (with_reducible refine (impl_inRange.calls a1 0 (wrap64 ((a0.size : Int) - 1)) true _ A3.out).mono ?_); rintro e w' ⟨rfl, ⟨nd, rfl⟩⟩; refine ⟨_, rfl, ?_⟩) | (refine gL_ 19 Tryz.func63 #[.string (a0.extract (a1 : Int).toNat a0.size), .string (⟨#[60, 33, 45, 45]⟩ : BA)] ?_; refine dm_ (strings_CutPrefix.calls (a0.extract (a1 : Int).toNat a0.size) (⟨#[60, 33, 45, 45]⟩ : BA) t410 true _ A7.out) fun nd => ?_) | (refine gL_ 23 Tryz.func78 #[.string t410, .string (⟨#[45, 45]⟩ : BA)] ?_; (with_reducible refine (strings_Index.calls t410 (⟨#[45, 45]⟩ : BA) t412 _ ?side1 A8.out).mono ?_); (case side1 => first | exact hL | exact LibOk.below hL hB_); rintro e w' ⟨rfl, ⟨nd, rfl⟩⟩; refine ⟨_, rfl, ?_⟩))
    go_ret2
    exact ⟨e1_, hB_⟩
   ·have c10b0 := dF_ c10;clear c10;obtain ⟨c11, H⟩ := ifn_ H;have c11b0 := eq_true c11;have c11b1 := dE_ c11;clear c11;obtain ⟨c12, H⟩ := ifn_ H;have c12b0 := eq_true c12;have c12b1 := dE_ c12;clear c12;obtain ⟨t413, A13, H⟩ := ob_ H;(try dsimp only at H)
    by_cases c14 : t413 = true
    ·subst c14;rw [if_pos rfl] at H;have c15b0 := eq_true (dT_ : 0 ≤ t412);have c16b0 := eq_true (dT_ : t412 ≤ (t410.size : Int));obtain ⟨t414, A17, H⟩ := ob_ H;(try dsimp only at H)
     by_cases c18 : t414 = true
     ·subst c18;rw [if_pos rfl] at H;have c19b0 := eq_true (dT_ : 0 ≤ t412);have c20b0 := eq_true (dT_ : t412 ≤ (t410.size : Int));obtain ⟨rfl, rfl⟩ := pi_ H;go_enter Tryz.func28, Tryz.ntmps28
      go_wp2_with (first | (refine gL_ 13 Tryz.func53 #[.int .i64 a1, .int .i64 0, .int .i64 (wrap64 ((a0.size : Int) - 1))] ?_; (with_reducible refine (impl_inRange.calls a1 0 (wrap64 ((a0.size : Int) - 1)) true _ A3.out).mono ?_); rintro e w' ⟨rfl, ⟨nd, rfl⟩⟩; refine ⟨_, rfl, ?_⟩) | (refine gL_ 19 Tryz.func63 #[.string (a0.extract (a1 : Int).toNat a0.size), .string (⟨#[60, 33, 45, 45]⟩ : BA)] ?_; refine dm_ (strings_CutPrefix.calls (a0.extract (a1 : Int).toNat a0.size) (⟨#[60, 33, 45, 45]⟩ : BA) t410 true _ A7.out) fun nd => ?_) | (refine gL_ 23 Tryz.func78 #[.string t410, .string (⟨#[45, 45]⟩ : BA)] ?_; (with_reducible refine (strings_Index.calls t410 (⟨#[45, 45]⟩ : BA) t412 _ ?side1 A8.out).mono ?_); (case side1 => first | exact hL | exact LibOk.below hL hB_); rintro e w' ⟨rfl, ⟨nd, rfl⟩⟩; refine ⟨_, rfl, ?_⟩) | (go_at_call 79; (with_reducible refine (impl_NoteOk.calls k (t410.extract 0 (t412 : Int).toNat) true _ ?side1 A13.out).mono ?_); (case side1 => first | exact hL | exact LibOk.below hL hB_); rintro e w21 ⟨rfl, hb⟩; replace HB := bS_ hb; clear hb) | (go_at_call 76; (with_reducible refine (strings_HasPrefix.calls (t410.extract (t412 : Int).toNat t410.size) (⟨#[45, 45, 62]⟩ : BA) true _ A17.out).mono ?_); rintro e w' ⟨rfl, ⟨nd, rfl⟩⟩))
      go_ret2
      exact ⟨e1_, hB_⟩
     ·replace c18 := bF_ c18;subst c18;rw [if_neg nF_] at H;obtain ⟨rfl, rfl⟩ := pi_ H;go_enter Tryz.func28, Tryz.ntmps28
      go_wp2_with (first | (refine gL_ 13 Tryz.func53 #[.int .i64 a1, .int .i64 0, .int .i64 (wrap64 ((a0.size : Int) - 1))] ?_; (with_reducible refine (impl_inRange.calls a1 0 (wrap64 ((a0.size : Int) - 1)) true _ A3.out).mono ?_); rintro e w' ⟨rfl, ⟨nd, rfl⟩⟩; refine ⟨_, rfl, ?_⟩) | (refine gL_ 19 Tryz.func63 #[.string (a0.extract (a1 : Int).toNat a0.size), .string (⟨#[60, 33, 45, 45]⟩ : BA)] ?_; refine dm_ (strings_CutPrefix.calls (a0.extract (a1 : Int).toNat a0.size) (⟨#[60, 33, 45, 45]⟩ : BA) t410 true _ A7.out) fun nd => ?_) | (refine gL_ 23 Tryz.func78 #[.string t410, .string (⟨#[45, 45]⟩ : BA)] ?_; (with_reducible refine (strings_Index.calls t410 (⟨#[45, 45]⟩ : BA) t412 _ ?side1 A8.out).mono ?_); (case side1 => first | exact hL | exact LibOk.below hL hB_); rintro e w' ⟨rfl, ⟨nd, rfl⟩⟩; refine ⟨_, rfl, ?_⟩) | (go_at_call 79; (with_reducible refine (impl_NoteOk.calls k (t410.extract 0 (t412 : Int).toNat) true _ ?side1 A13.out).mono ?_); (case side1 => first | exact hL | exact LibOk.below hL hB_); rintro e w22 ⟨rfl, hb⟩; replace HB := bS_ hb; clear hb) | (go_at_call 76; (with_reducible refine (strings_HasPrefix.calls (t410.extract (t412 : Int).toNat t410.size) (⟨#[45, 45, 62]⟩ : BA) false _ A17.out).mono ?_); rintro e w' ⟨rfl, ⟨nd, rfl⟩⟩))
      go_ret2
      exact ⟨e1_, hB_⟩
    ·replace c14 := bF_ c14;subst c14;rw [if_neg nF_] at H;obtain ⟨rfl, rfl⟩ := pi_ H;go_enter Tryz.func28, Tryz.ntmps28
     go_wp2_with (first | (refine gL_ 13 Tryz.func53 #[.int .i64 a1, .int .i64 0, .int .i64 (wrap64 ((a0.size : Int) - 1))] ?_; (with_reducible refine (impl_inRange.calls a1 0 (wrap64 ((a0.size : Int) - 1)) true _ A3.out).mono ?_); rintro e w' ⟨rfl, ⟨nd, rfl⟩⟩; refine ⟨_, rfl, ?_⟩) | (refine gL_ 19 Tryz.func63 #[.string (a0.extract (a1 : Int).toNat a0.size), .string (⟨#[60, 33, 45, 45]⟩ : BA)] ?_; refine dm_ (strings_CutPrefix.calls (a0.extract (a1 : Int).toNat a0.size) (⟨#[60, 33, 45, 45]⟩ : BA) t410 true _ A7.out) fun nd => ?_) | (refine gL_ 23 Tryz.func78 #[.string t410, .string (⟨#[45, 45]⟩ : BA)] ?_; (with_reducible refine (strings_Index.calls t410 (⟨#[45, 45]⟩ : BA) t412 _ ?side1 A8.out).mono ?_); (case side1 => first | exact hL | exact LibOk.below hL hB_); rintro e w' ⟨rfl, ⟨nd, rfl⟩⟩; refine ⟨_, rfl, ?_⟩) | (go_at_call 79; (with_reducible refine (impl_NoteOk.calls k (t410.extract 0 (t412 : Int).toNat) false _ ?side1 A13.out).mono ?_); (case side1 => first | exact hL | exact LibOk.below hL hB_); rintro e w23 ⟨rfl, hb⟩; replace HB := bS_ hb; clear hb))
     go_ret2
     exact ⟨e1_, hB_⟩
  ·replace c9 := bF_ c9;subst c9;rw [if_neg nF_] at H;obtain ⟨rfl, rfl⟩ := pi_ H;go_enter Tryz.func28, Tryz.ntmps28
   go_wp2_with (first | (refine gL_ 13 Tryz.func53 #[.int .i64 a1, .int .i64 0, .int .i64 (wrap64 ((a0.size : Int) - 1))] ?_; (with_reducible refine (impl_inRange.calls a1 0 (wrap64 ((a0.size : Int) - 1)) true _ A3.out).mono ?_); rintro e w' ⟨rfl, ⟨nd, rfl⟩⟩; refine ⟨_, rfl, ?_⟩) | (refine gL_ 19 Tryz.func63 #[.string (a0.extract (a1 : Int).toNat a0.size), .string (⟨#[60, 33, 45, 45]⟩ : BA)] ?_; refine dm_ (strings_CutPrefix.calls (a0.extract (a1 : Int).toNat a0.size) (⟨#[60, 33, 45, 45]⟩ : BA) t410 false _ A7.out) fun nd => ?_) | (refine gL_ 23 Tryz.func78 #[.string t410, .string (⟨#[45, 45]⟩ : BA)] ?_; (with_reducible refine (strings_Index.calls t410 (⟨#[45, 45]⟩ : BA) t412 _ ?side1 A8.out).mono ?_); (case side1 => first | exact hL | exact LibOk.below hL hB_); rintro e w' ⟨rfl, ⟨nd, rfl⟩⟩; refine ⟨_, rfl, ?_⟩))
   go_ret2
   exact ⟨e1_, hB_⟩
 ·replace c4 := bF_ c4;subst c4;rw [if_neg nF_] at H;obtain ⟨rfl, rfl⟩ := pi_ H;go_enter Tryz.func28, Tryz.ntmps28
  go_wp2_with (first | (refine gL_ 13 Tryz.func53 #[.int .i64 a1, .int .i64 0, .int .i64 (wrap64 ((a0.size : Int) - 1))] ?_; (with_reducible refine (impl_inRange.calls a1 0 (wrap64 ((a0.size : Int) - 1)) false _ A3.out).mono ?_); rintro e w' ⟨rfl, ⟨nd, rfl⟩⟩; refine ⟨_, rfl, ?_⟩))
  go_ret2
  exact ⟨e1_, hB_⟩
theorem blk_six {w : World} {g : Nat} {t : TypeId} {a0 a1 a2 a3 a4 a5 : Value} (h : w.heap[g]? = some (.cells #[a0, a1, a2, a3, a4, a5] t (0, 0))) (u0 u1 u2 u3 u4 u5 : Value) :
  ((((((w.setCell ⟨g, 0, none⟩ u0).setCell ⟨g, 1, none⟩ u1).setCell ⟨g, 2, none⟩ u2).setCell ⟨g, 3, none⟩ u3).setCell ⟨g, 4, none⟩ u4).setCell ⟨g, 5, none⟩ u5).heap[g]? = some (.cells #[u0, u1, u2, u3, u4, u5] t (0, 0)) :=
 blk_put (blk_put (blk_put (blk_put (blk_put (blk_put h 0 u0 rfl) 1 u1 rfl) 2 u2 rfl) 3 u3 rfl) 4 u4 rfl) 5 u5 rfl
theorem st_six {w0 w : World} {g gx : Nat} {s : BA} {p : Int} {b : Bool} (h : IsS93 w0 w g s p b) (hne : g ≠ gx) (u0 u1 u2 u3 u4 u5 : Value) :
  IsS93 w0 ((((((w.setCell ⟨gx, 0, none⟩ u0).setCell ⟨gx, 1, none⟩ u1).setCell ⟨gx, 2, none⟩ u2).setCell ⟨gx, 3, none⟩ u3).setCell ⟨gx, 4, none⟩ u4).setCell ⟨gx, 5, none⟩ u5) g s p b :=
 (((((h.far (p := ⟨gx, 0, none⟩) hne u0).far (p := ⟨gx, 1, none⟩) hne u1).far (p := ⟨gx, 2, none⟩) hne u2).far (p := ⟨gx, 3, none⟩) hne u3).far (p := ⟨gx, 4, none⟩) hne u4).far (p := ⟨gx, 5, none⟩) hne u5
theorem below_six {w0 w : World} {gx : Nat} (h : Below w0.heap.size w0 w) (hg : w0.heap.size ≤ gx) (u0 u1 u2 u3 u4 u5 : Value) :
  Below w0.heap.size w0 ((((((w.setCell ⟨gx, 0, none⟩ u0).setCell ⟨gx, 1, none⟩ u1).setCell ⟨gx, 2, none⟩ u2).setCell ⟨gx, 3, none⟩ u3).setCell ⟨gx, 4, none⟩ u4).setCell ⟨gx, 5, none⟩ u5) :=
 below_set (below_set (below_set (below_set (below_set (below_set h hg) hg) hg) hg) hg) hg
theorem keep_six {w W : World} {g gx : Nat} (h : KeepBut w W g none) (hg : w.heap.size ≤ gx) (u0 u1 u2 u3 u4 u5 : Value) :
  KeepBut w ((((((W.setCell ⟨gx, 0, none⟩ u0).setCell ⟨gx, 1, none⟩ u1).setCell ⟨gx, 2, none⟩ u2).setCell ⟨gx, 3, none⟩ u3).setCell ⟨gx, 4, none⟩ u4).setCell ⟨gx, 5, none⟩ u5) g none :=
 keep_far (p := ⟨gx, 5, none⟩) (keep_far (p := ⟨gx, 4, none⟩) (keep_far (p := ⟨gx, 3, none⟩) (keep_far (p := ⟨gx, 2, none⟩) (keep_far (p := ⟨gx, 1, none⟩) (keep_far (p := ⟨gx, 0, none⟩) h hg u0) hg u1) hg u2) hg u3) hg u4) hg u5
def impl_reader_note.f (k : Nat) (s : BA) (p : Int) (b : Bool) : Option (Int × ByteArray × ByteArray × Int × Bool) :=
 (impl_XmlNote.f k s p).bind fun q => if q.2 < 0 then some (0, ⟨#[]⟩, s, p, true) else some (3, q.1, s, q.2, b)
theorem impl_reader_note.mono : ∀ s p b k, LeO (impl_reader_note.f k s p b) (impl_reader_note.f (k + 1) s p b) := fun s p b k => LeO.bind (impl_XmlNote.mono _ _ _) (fun _ => LeO.refl _)
theorem impl_reader_note.calls (k : Nat) (g : Nat) (s : BA) (p : Int) (b : Bool) (r0 : Int) (r1 r2 : BA) (r3 : Int) (r4 : Bool) (w0 w : World) (hI : IsS93 w0 w g s p b) (hB : Below w0.heap.size w0 w) (hL : LibOk w0) (h : impl_reader_note.f k s p b = some (r0, r1, r2, r3, r4)) :
  Calls Tryz.prog 96 #[.pointer (some ⟨g, 0, none⟩)] w fun e w' => e = .returned (.agg #[.int .i64 r0, .int .i64 0, .string ⟨#[]⟩, .slice none 0 0, .string r1, .slice none 0 0]) ∧ IsS93 w0 w' g r2 r3 r4 ∧ Below w0.heap.size w0 w' ∧ KeepBut w w' g none := by
 unfold impl_reader_note.f at h;have hu := Tryz.underlying43;obtain ⟨q, hq, h⟩ := oB_ h;have HQ := A_ hq;have HH := A_ h;have HLL := A_ hL;clear hq h hL;have hz : (.cells #[.int .i64 0, .int .i64 0, .string ⟨#[]⟩, .slice none 0 0, .string ⟨#[]⟩, .slice none 0 0] 43 : Obj) = .cells #[.int .i64 0, .int .i64 0, .string ⟨#[]⟩, .slice none 0 0, .string ⟨#[]⟩, .slice none 0 0] 43 := rfl;clear hz;obtain ⟨W1, hW1⟩ : ∃ W1, W1 = w.alloc (.cells #[.int .i64 0, .int .i64 0, .string ⟨#[]⟩, .slice none 0 0, .string ⟨#[]⟩, .slice none 0 0] 43) := ⟨_, rfl⟩;have HI1 : As9 (IsS93 w0 W1.drew g s p b) := ⟨by rw [hW1]; exact (hI.alloc _).drew⟩;have HB1 : As9 (Below w0.heap.size w0 W1.drew) := ⟨by rw [hW1]; exact below_drew (bA9 hB _)⟩;have HK1 : As9 (KeepBut w W1.drew g none) := ⟨by rw [hW1]; exact keep_drew (keep_alloc (KeepBut.refl w g none) _)⟩;have HX1 : As9 (W1.drew.heap[w.heap.size]? = some (.cells #[.int .i64 0, .int .i64 0, .string ⟨#[]⟩, .slice none 0 0, .string ⟨#[]⟩, .slice none 0 0] 43 (0, 0))) := ⟨by rw [hW1]; exact heap_alloc_new w _⟩;obtain ⟨gx, hgx⟩ : ∃ gx, gx = w.heap.size := ⟨_, rfl⟩;rw [← hgx] at HX1;have HGX : As9 (gx = w.heap.size ∧ g < gx) := ⟨hgx, by rw [hgx]; exact hI.lt⟩;obtain ⟨HG, hge⟩ := HI1.out;have hc0 := cellS93_0 HG;have hc1 := cellS93_1 HG;clear HG hge hB hI;go_enter Tryz.func96, Tryz.ntmps96
 go_wp2
 rw [← hW1, ← hgx];clear hW1 hgx;refine start_ (n := 14) (S := fun w' => w'.cell? ⟨g, 0, none⟩ = some (.string s) ∧ w'.cell? ⟨g, 1, none⟩ = some (.int .i64 p)) (ds := [8]) (tS 14 0) (by kernel_rfl) rfl rfl ⟨hc0, hc1⟩ (fun hHeld => ?_);generalize World.drew _ = wr0 at HI1 HB1 HK1 HX1 hHeld ⊢;iterate 3 refine pq_ ?_
 refine pg_ 4 (tB 14 23) ?_;refine pg_ 5 (tB 14 55) ?_;refine pg_ 6 (tB 14 119) ?_;refine tg_ 3 (tS 14 7) rfl (by rintro w' ⟨s0, s1⟩; go_simp; with_reducible rfl) ?_;refine tq_ rfl (by rintro w' ⟨s0, s1⟩; go_simp; with_reducible rfl) ?_;refine last_ (i := 8) (N := some 14) (tS 14 9) rfl rfl (by kernel_rfl) de_ (fun K hK => ?_);refine gS_ Tryz.func28 #[.string s, .int .i64 p] ?_;with_reducible refine (impl_XmlNote.calls k s p q.1 q.2 _ (HLL.out.below HB1.out) HQ.out).mono ?_
 rintro e wr8 ⟨rfl, hb⟩;refine ⟨_, rfl, ?_⟩;have HI2 := A_ (HI1.out.below hb);have HB2 := A_ (below_step HB1.out hb);have HK2 := A_ (HK1.out.trans (KeepBut.of_below hb g none) (.inl rfl));have HX2 := A_ (blk_below HX1.out hb);clear hb HI1 HB1 HK1 HX1;refine hK.out _ _ ?_;clear hK K;refine nm_ ?_;iterate 5 refine pq_ ?_
 refine done_ (by kernel_rfl) ?_;obtain ⟨HG, hge⟩ := HI2.out;have hc0' := cellS93_0 HG;have hc1' := cellS93_1 HG;have hc2' := cellS93_2 HG;have hf1 := blk_frozen HG 1;have hf2 := blk_frozen HG 2;clear HG hge;obtain ⟨hz0, hz1, hz2, hz3, hz4, hz5, hy0, hy1, hy2, hy3, hy4, hy5⟩ := bk6_ HX2.out;have hne1 : (g = gx) = False := eq_false (Nat.ne_of_lt HGX.out.2);have hne2 : (gx = g) = False := eq_false (Nat.ne_of_gt HGX.out.2);have H := HH.out;rcases ic_ H with ⟨c, H⟩ | ⟨c, H⟩
 ·simp only [Option.some.injEq, Prod.mk.injEq] at H;obtain ⟨rfl, rfl, rfl, rfl, rfl⟩ := H;go_wp2
  refine bodyPost_ret (results_single rfl (.cell gx 43 #[.int .i64 0, .int .i64 0, .string ⟨#[]⟩, .slice none 0 0, .string ⟨#[]⟩, .slice none 0 0] (0, 0) _ rfl (blk_six (blk_far HX2.out (p := ⟨g, 2, none⟩) (Nat.ne_of_gt HGX.out.2) _) _ _ _ _ _ _) hu rfl (by kernel_rfl) .nil)) rfl ?_;exact ⟨rfl, st_six (HI2.out.set_2 _) (Nat.ne_of_lt HGX.out.2) _ _ _ _ _ _, below_six (below_set HB2.out HI2.out.2) (Nat.le_trans (Nat.le_trans HI2.out.2 (Nat.le_of_lt HGX.out.2)) (Nat.le_refl _)) _ _ _ _ _ _, keep_six (HK2.out.set_ _ _) (Nat.le_of_eq HGX.out.1.symm) _ _ _ _ _ _⟩
 ·simp only [Option.some.injEq, Prod.mk.injEq] at H;obtain ⟨rfl, rfl, rfl, rfl, rfl⟩ := H;go_wp2
  refine bodyPost_ret (results_single rfl (.cell gx 43 #[.int .i64 3, .int .i64 0, .string ⟨#[]⟩, .slice none 0 0, .string q.1, .slice none 0 0] (0, 0) _ rfl (blk_six (blk_far HX2.out (p := ⟨g, 1, none⟩) (Nat.ne_of_gt HGX.out.2) _) _ _ _ _ _ _) hu rfl (by kernel_rfl) .nil)) rfl ?_;exact ⟨rfl, st_six (HI2.out.set_1 _) (Nat.ne_of_lt HGX.out.2) _ _ _ _ _ _, below_six (below_set HB2.out HI2.out.2) (Nat.le_trans (Nat.le_trans HI2.out.2 (Nat.le_of_lt HGX.out.2)) (Nat.le_refl _)) _ _ _ _ _ _, keep_six (HK2.out.set_ _ _) (Nat.le_of_eq HGX.out.1.symm) _ _ _ _ _ _⟩
mutual
def sEl : Nat → Int → Int → ByteArray → Int → Bool → Option (S43 × ByteArray × Int × Bool)
 | 0, _, _, _, _, _ => none
 | n + 1, about, deep, s, p, b => (spec_l19Take.f s p b ⟨#[60]⟩).bind fun t1 =>
  if t1.2.2 = true then (if deep = 0 then some (⟨1, 0, ⟨#[]⟩, [], ⟨#[]⟩, []⟩, t1.1, t1.2.1, false) else
   (spec_XmlName.f n t1.1 t1.2.1).bind fun q => if q.1.toList = [] then some (⟨1, 0, ⟨#[]⟩, [], ⟨#[]⟩, []⟩, t1.1, t1.2.1, false) else
   (spec_l19Attrs.f n t1.1 q.2 true about).bind fun a =>
   if a.2.2.2.2 = true then ((spec_l5Stands.f a.2.2.1 a.2.2.2.1 ⟨#[47, 62]⟩).bind fun z => if z = true then some (⟨1, a.2.1, q.1, a.1, ⟨#[]⟩, []⟩, a.2.2.1, wrap64 (a.2.2.2.1 + 2), true) else sRest n about deep q.1 a.1 a.2.1 a.2.2.1 a.2.2.2.1 true)
   else sRest n about deep q.1 a.1 a.2.1 a.2.2.1 a.2.2.2.1 false)
  else some (⟨1, 0, ⟨#[]⟩, [], ⟨#[]⟩, []⟩, t1.1, t1.2.1, false)
def sRest : Nat → Int → Int → ByteArray → List S36 → Int → ByteArray → Int → Bool → Option (S43 × ByteArray × Int × Bool)
 | 0, _, _, _, _, _, _, _, _ => none
 | n + 1, _, deep, nm, at_, sp, s, p, b => (spec_l19Take.f s p b ⟨#[62]⟩).bind fun t3 => (sKidsL n sp deep t3.1 t3.2.1 t3.2.2 []).bind fun ks =>
   if nm.size ≤ 140737488351232 then (spec_l19Take.f ks.2.1 ks.2.2.1 ks.2.2.2 ((⟨#[60, 47]⟩ ++ nm) ++ ⟨#[62]⟩)).bind fun t4 => some (⟨1, sp, nm, at_, ⟨#[]⟩, ks.1⟩, t4) else none
def sKidsL : Nat → Int → Int → ByteArray → Int → Bool → List S43 → Option (List S43 × ByteArray × Int × Bool)
 | 0, _, _, _, _, _, _ => none
 | n + 1, sp, deep, s, p, b, out => if b = true then ((spec_l5Stands.f s p ⟨#[60, 47]⟩).bind fun z => if z = true then some (out, s, p, true) else
   (if (s.size : Int) ≤ p then sKidsL n sp deep s p false out else (spec_l5Stands.f s p ⟨#[60, 33, 45, 45]⟩).bind fun z2 =>
    if z2 = true then (spec_XmlNote.f n s p).bind fun q => if out.length < 1000000000000 then (spec_l1Max.f q.2 0).bind fun m => sKidsL n sp deep s m (decide (q.2 ≥ 0)) (out ++ [⟨3, 0, ⟨#[]⟩, [], q.1, []⟩]) else none
    else if 0 ≤ p then (if out.length < 1000000000000 then (if bt s p = 60 then (sEl n sp (wrap64 (deep - 1)) s p true).bind fun kd => sKidsL n sp deep kd.2.1 kd.2.2.1 kd.2.2.2 (out ++ [kd.1])
     else (spec_XmlText.f n s p ⟨#[60]⟩).bind fun q => (spec_l1Max.f q.2 0).bind fun m => sKidsL n sp deep s m (decide (q.2 ≥ 0)) (out ++ [⟨2, 0, ⟨#[]⟩, [], q.1, []⟩])) else none)
    else none))
  else some (out, s, p, false)
end
theorem sEl_mono_all : ∀ k, (∀ y0 y1 y2 y3 y4, LeO (sEl k y0 y1 y2 y3 y4) (sEl (k + 1) y0 y1 y2 y3 y4)) ∧ (∀ y0 y1 y2 y3 y4 y5 y6 y7, LeO (sRest k y0 y1 y2 y3 y4 y5 y6 y7) (sRest (k + 1) y0 y1 y2 y3 y4 y5 y6 y7)) ∧ (∀ y0 y1 y2 y3 y4 y5, LeO (sKidsL k y0 y1 y2 y3 y4 y5) (sKidsL (k + 1) y0 y1 y2 y3 y4 y5))
 | 0 => ⟨fun _ _ _ _ _ r h => by simp [sEl] at h, fun _ _ _ _ _ _ _ _ r h => by simp [sRest] at h, fun _ _ _ _ _ _ r h => by simp [sKidsL] at h⟩
 | k + 1 => by
  obtain ⟨i1, i2, i3⟩ := sEl_mono_all k;refine ⟨fun y0 y1 y2 y3 y4 => ?_, fun y0 y1 y2 y3 y4 y5 y6 y7 => ?_, fun y0 y1 y2 y3 y4 y5 => ?_⟩
  ·rw [sEl, sEl];exact LeO.bind (LeO.refl _) fun t1 => LeO.ite (LeO.ite (LeO.refl _) (LeO.bind (spec_XmlName.mono _ _ _) fun q => LeO.ite (LeO.refl _) (LeO.bind (spec_l19Attrs.mono _ _ _ _ _) fun a => LeO.ite (LeO.bind (LeO.refl _) fun z => LeO.ite (LeO.refl _) (i2 _ _ _ _ _ _ _ _)) (i2 _ _ _ _ _ _ _ _)))) (LeO.refl _)
  ·rw [sRest, sRest];exact LeO.bind (LeO.refl _) fun t3 => LeO.bind (i3 _ _ _ _ _ _) fun ks => LeO.refl _
  ·rw [sKidsL, sKidsL];exact LeO.ite (LeO.bind (LeO.refl _) fun z => LeO.ite (LeO.refl _) (LeO.ite (i3 _ _ _ _ _ _) (LeO.bind (LeO.refl _) fun z2 => LeO.ite (LeO.bind (spec_XmlNote.mono _ _ _) fun q => LeO.ite (LeO.bind (LeO.refl _) fun m => i3 _ _ _ _ _ _) (LeO.refl _)) (LeO.ite (LeO.ite (LeO.ite (LeO.bind (i1 _ _ _ _ _) fun kd => i3 _ _ _ _ _ _) (LeO.bind (spec_XmlText.mono _ _ _ _) fun q => LeO.bind (LeO.refl _) fun m => i3 _ _ _ _ _ _)) (LeO.refl _)) (LeO.refl _))))) (LeO.refl _)
theorem sst_six {w0 w : World} {g gx : Nat} {s : BA} {p : Int} {b : Bool} (h : IsS89 w0 w g s p b) (hne : g ≠ gx) (u0 u1 u2 u3 u4 u5 : Value) : IsS89 w0 ((((((w.setCell ⟨gx, 0, none⟩ u0).setCell ⟨gx, 1, none⟩ u1).setCell ⟨gx, 2, none⟩ u2).setCell ⟨gx, 3, none⟩ u3).setCell ⟨gx, 4, none⟩ u4).setCell ⟨gx, 5, none⟩ u5) g s p b :=
 (((((h.far (p := ⟨gx, 0, none⟩) hne u0).far (p := ⟨gx, 1, none⟩) hne u1).far (p := ⟨gx, 2, none⟩) hne u2).far (p := ⟨gx, 3, none⟩) hne u3).far (p := ⟨gx, 4, none⟩) hne u4).far (p := ⟨gx, 5, none⟩) hne u5
def SElPost (w0 w : World) (g : Nat) (r : S43) (r2 : BA) (r3 : Int) (r4 : Bool) (e : Ending) (w' : World) : Prop :=
 ∃ cs : Array Value, e = .returned (.agg cs) ∧ k43.M w' w0.heap.size (fun k_ => w.heap.size ≤ k_) r cs.toList ∧ IsS89 w0 w' g r2 r3 r4 ∧ Below w0.heap.size w0 w' ∧ KeepBut w w' g none
def SElC (k : Nat) : Prop := ∀ (g : Nat) (about deep : Int) (s : BA) (p : Int) (b : Bool) (r : S43) (r2 : BA) (r3 : Int) (r4 : Bool) (w0 w : World), IsS89 w0 w g s p b → Below w0.heap.size w0 w → sEl k about deep s p b = some (r, r2, r3, r4) →
  Calls Tryz.prog 84 #[.pointer (some ⟨g, 0, none⟩), .int .i64 about, .int .i64 deep] w (SElPost w0 w g r r2 r3 r4)
structure Skd (w0 w W : World) (g : Nat) (s : BA) (p : Int) (b : Bool) (v : Value) (out : List S43) : Prop where
 st : IsS89 w0 W g s p b
 nr : k43.R 43 W w0.heap.size (fun k_ => w.heap.size ≤ k_) v out
 bl : Below w0.heap.size w0 W
 kp : KeepBut w W g none
 gl : g < w.heap.size
def SKidC (k : Nat) : Prop := ∀ (g : Nat) (sp deep : Int) (s : BA) (p : Int) (b : Bool) (r : List S43) (r2 : BA) (r3 : Int) (r4 : Bool) (w0 w : World), IsS89 w0 w g s p b → Below w0.heap.size w0 w → sKidsL k sp deep s p b [] = some (r, r2, r3, r4) →
  Calls Tryz.prog 132 #[.pointer (some ⟨g, 0, none⟩), .int .i64 sp, .int .i64 deep] w fun e w' => ∃ v, e = .returned v ∧ Skd w0 w w' g r2 r3 r4 v r
theorem SEl_end {w0 w W : World} {g gr : Nat} {s : BA} {p : Int} {b : Bool} {r : S43} {a0 a1 a2 a3 a4 a5 u0 u1 u2 u3 u4 u5 : Value} {ok : Nat → Prop} (hI : IsS89 w0 W g s p b) (hB : Below w0.heap.size w0 W) (hK : KeepBut w W g none) (hX : W.heap[gr]? = some (.cells #[a0, a1, a2, a3, a4, a5] 43 (0, 0)))
  (hM : k43.M W w0.heap.size ok r [u0, u1, u2, u3, u4, u5]) (hok : ∀ k, ok k → w.heap.size ≤ k ∧ k ≠ gr) (hgr : w.heap.size ≤ gr) (hg : g ≠ gr) (hg0 : w0.heap.size ≤ gr) :
  SElPost w0 w g r s p b (.returned (.agg #[u0, u1, u2, u3, u4, u5])) ((((((W.setCell ⟨gr, 0, none⟩ u0).setCell ⟨gr, 1, none⟩ u1).setCell ⟨gr, 2, none⟩ u2).setCell ⟨gr, 3, none⟩ u3).setCell ⟨gr, 4, none⟩ u4).setCell ⟨gr, 5, none⟩ u5) := by
 have hk : KeepBut W ((((((W.setCell ⟨gr, 0, none⟩ u0).setCell ⟨gr, 1, none⟩ u1).setCell ⟨gr, 2, none⟩ u2).setCell ⟨gr, 3, none⟩ u3).setCell ⟨gr, 4, none⟩ u4).setCell ⟨gr, 5, none⟩ u5) gr none := ((((((KeepBut.refl W gr none).set_ 0 _).set_ 1 _).set_ 2 _).set_ 3 _).set_ 4 _).set_ 5 _;exact ⟨_, rfl, k43.M_mono (fun k hk => (hok k hk).1) (Kd.M_keep hM hk (fun k hk => (hok k hk).2)), sst_six hI hg _ _ _ _ _ _, below_six hB hg0 _ _ _ _ _ _, keep_six hK hgr _ _ _ _ _ _⟩
theorem Skd.state {w0 w W W' : World} {g : Nat} {s s' : BA} {p p' : Int} {b b' : Bool} {v : Value} {out : List S43} (h : Skd w0 w W g s p b v out) (hi : IsS89 w0 W' g s' p' b') (hb : Below w0.heap.size w0 W') (hk : KeepBut W W' g none) : Skd w0 w W' g s' p' b' v out :=
 ⟨hi, Kd.R_keep h.nr hk (fun k hk => by have := h.gl; omega), hb, h.kp.trans hk (.inl rfl), h.gl⟩
theorem Skd.below {w0 w W W' : World} {g : Nat} {s : BA} {p : Int} {b : Bool} {v : Value} {out : List S43} (h : Skd w0 w W g s p b v out) (hb : Below W.heap.size W W') : Skd w0 w W' g s p b v out := h.state (h.st.below hb) (below_step h.bl hb) (KeepBut.of_below hb g none)
theorem Skd.ok_ {w0 w W : World} {g : Nat} {s : BA} {p : Int} {b : Bool} {v : Value} {out : List S43} (h : Skd w0 w W g s p b v out) (x : Bool) : Skd w0 w (W.setCell ⟨g, 2, none⟩ (.bool x)) g s p x v out := h.state (h.st.set_2 x) (below_set h.bl h.st.2) ((KeepBut.refl W g none).set_ 2 _)
theorem Skd.at_ {w0 w W : World} {g : Nat} {s : BA} {p : Int} {b : Bool} {v : Value} {out : List S43} (h : Skd w0 w W g s p b v out) (x : Int) : Skd w0 w (W.setCell ⟨g, 1, none⟩ (.int .i64 x)) g s x b v out := h.state (h.st.set_1 x) (below_set h.bl h.st.2) ((KeepBut.refl W g none).set_ 1 _)
theorem Skd.app {w0 w W W' : World} {g : Nat} {s : BA} {p : Int} {b : Bool} {v v' : Value} {out : List S43} (h : Skd w0 w W g s p b v out) {x : S43} (ho : k43.R 43 W' w0.heap.size (fun k_ => w.heap.size ≤ k_) v' (out ++ [x])) (hb : Below w0.heap.size w0 W') (hg : W.grownBy W' v.ownBlock) : Skd w0 w W' g s p b v' (out ++ [x]) :=
 ⟨h.st.grown hg (h.st.own_ne h.nr de_), ho, hb, h.kp.trans (KeepBut.of_grown hg g) (by
  cases hv : v.ownBlock with
  | none => exact .inl rfl
  | some k => exact .inr ⟨k, rfl, h.nr.1 k hv⟩), h.gl⟩
theorem skids_step (k : Nat) (hE_ : ∀ m, m < k → SElC m) : SKidC k := by
 unfold SElC at hE_;intro g sp deep s p b r r2 r3 r4 w0 w hI hB h;have hu := Tryz.underlying43;have HF := A_ h;have HI := A_ hI;have HB := A_ hB;clear h hI hB;go_enter Tryz.func132, Tryz.ntmps132
 go_wp2_with (refine gate_dst (N := 12) rfl ?_; refine Kd.R_lit (w0 := w0) k43 w0.heap.size 43 ?hg (N := 12) ?hd (xs := ([] : List S43)) (inner := []) (ok := fun k_ => w.heap.size ≤ k_) (okp := fun _ => False) ?hr ?hp (fun _ hk => hk.elim) (Nat.le_refl _) HB.out HB.out.size si_ ?_; (case hd => rfl); (case hg => rfl); (case hr => first | (go_simp; done) | (go_simp; rfl)); (case hp => exact (Reps.none _ _)); intro v12 w2 ho hb hg_ hnew_; have HT := A_ (show Skd w0 w w2 g s p b v12 [] from ⟨HI.out.grown hg_ si_, ho, hb, KeepBut.of_grown hg_ g, HI.out.lt⟩); clear ho hb hg_ hnew_ HI HB)
 go_loopg [7] k (fun kq v7 wr => ∃ (out : List S43) (s : BA) (p : Int) (b : Bool), As9 (sKidsL kq sp deep s p b out = some (r, r2, r3, r4)) ∧ As9 (Skd w0 w wr g s p b v7 out) ∧ As9 (kq ≤ k))
 case atStart => exact ⟨[], s, p, b, HF, HT, ⟨Nat.le_refl _⟩⟩
 case round =>
  clear HF HT;obtain ⟨out, s, p, b, HA, HT, HN⟩ := hrel;cases gk with
  | zero => exact absurd HA.out (by simp [sKidsL])
  | succ n =>
  have H := HA.out;clear HA;simp only [sKidsL] at H;obtain ⟨An, cn, rfl⟩ := Kd.R_slice HT.out.nr;have hc0 := cellS89_0 HT.out.st.1;have hc1 := cellS89_1 HT.out.st.1;have hc2 := cellS89_2 HT.out.st.1;cases b with
  | false =>
   rw [if_neg si_] at H;simp only [Option.some.injEq, Prod.mk.injEq] at H;obtain ⟨rfl, rfl, rfl, rfl⟩ := H;go_wp2
   go_quiet (fail)
   generalize hW : World.drewN wr nq = wx;have HTx : As9 (Skd w0 w wx g s p false (.slice An out.length cn) out) := ⟨by rw [← hW]; exact HT.out.below (bN9 (Below.refl _ _) _)⟩;clear hW HT hc0 hc1 hc2;have hc0 := cellS89_0 HTx.out.st.1;have hc1 := cellS89_1 HTx.out.st.1;have hc2 := cellS89_2 HTx.out.st.1;go_wp2
   go_ret
   exact ⟨_, rfl, HTx.out⟩
  | true =>
   rw [if_pos rfl] at H;obtain ⟨z, hz, H⟩ := oB_ H;have HZ := A_ hz;clear hz;cases z with
   | true =>
    rw [if_pos rfl] at H;simp only [Option.some.injEq, Prod.mk.injEq] at H;obtain ⟨rfl, rfl, rfl, rfl⟩ := H;go_wp2
    go_quiet ((go_at_call 69; (refine (spec_l5Stands.calls s p ⟨#[60, 47]⟩ _ _ HZ.out).mono ?_); rintro r w' ⟨rfl, ⟨nd, rfl⟩⟩; exact ⟨rfl, _, World.drewN_drewN _ _ _⟩))
    generalize hW : World.drewN wr nq = wx;have HTx : As9 (Skd w0 w wx g s p true (.slice An out.length cn) out) := ⟨by rw [← hW]; exact HT.out.below (bN9 (Below.refl _ _) _)⟩;clear hW HT hc0 hc1 hc2;have hc0 := cellS89_0 HTx.out.st.1;have hc1 := cellS89_1 HTx.out.st.1;have hc2 := cellS89_2 HTx.out.st.1;go_wp2
    go_ret
    exact ⟨_, rfl, HTx.out⟩
   | false =>
    rw [if_neg si_] at H;go_wp2
    go_quiet ((go_at_call 69; (refine (spec_l5Stands.calls s p ⟨#[60, 47]⟩ _ _ HZ.out).mono ?_); rintro r w' ⟨rfl, ⟨nd, rfl⟩⟩; exact ⟨rfl, _, World.drewN_drewN _ _ _⟩))
    generalize hW : World.drewN wr nq = wx;have HTx : As9 (Skd w0 w wx g s p true (.slice An out.length cn) out) := ⟨by rw [← hW]; exact HT.out.below (bN9 (Below.refl _ _) _)⟩;clear hW HT hc0 hc1 hc2;have hc0 := cellS89_0 HTx.out.st.1;have hc1 := cellS89_1 HTx.out.st.1;have hc2 := cellS89_2 HTx.out.st.1;clear HZ;by_cases hlt : (s.size : Int) ≤ p
    case pos =>
     rw [if_pos hlt] at H;have HH := A_ H;clear H;have q7 := eq_true hlt;have q8 : decide ((s.size : Int) ≤ p) = true := dE_ hlt;go_wp2
     go_quiet (fail)
     generalize hW : World.drewN wx nq = wy;have HTy : As9 (Skd w0 w wy g s p true (.slice An out.length cn) out) := ⟨by rw [← hW]; exact HTx.out.below (bN9 (Below.refl _ _) _)⟩;clear hW HTx hc0 hc1 hc2;have hc0 := cellS89_0 HTy.out.st.1;have hc1 := cellS89_1 HTy.out.st.1;have hc2 := cellS89_2 HTy.out.st.1;have hf2 := blk_frozen HTy.out.st.1 2;go_wp2
     go_roundg n
     case measure => omega
     case rel => exact ⟨_, _, _, _, HH, ⟨HTy.out.ok_ false⟩, ⟨by have := HN.out; omega⟩⟩
    case neg =>
    rw [if_neg hlt] at H;have q7 := eq_false hlt;have q8 : decide ((s.size : Int) ≤ p) = false := dF_ hlt;obtain ⟨z2, hz2, H⟩ := oB_ H;have HZ2 := A_ hz2;clear hz2;go_wp2
    go_quiet (fail)
    generalize hW : World.drewN wx nq = wy;have HTy : As9 (Skd w0 w wy g s p true (.slice An out.length cn) out) := ⟨by rw [← hW]; exact HTx.out.below (bN9 (Below.refl _ _) _)⟩;clear hW HTx hc0 hc1 hc2;have hc0 := cellS89_0 HTy.out.st.1;have hc1 := cellS89_1 HTy.out.st.1;have hc2 := cellS89_2 HTy.out.st.1;cases z2 with
    | true =>
     rw [if_pos rfl] at H;obtain ⟨⟨qt, qx⟩, hq, H⟩ := oB_ H;dsimp only at H;split at H
     case isFalse => cases H
     case isTrue hl =>
     obtain ⟨m, hm, H⟩ := oB_ H;have Hq := A_ hq;have Hm := A_ hm;have HL := A_ hl;have HH := A_ H;clear hq hm hl H;go_wp2
     go_quiet ((go_at_call 69; (refine (spec_l5Stands.calls s p ⟨#[60, 33, 45, 45]⟩ _ _ HZ2.out).mono ?_); rintro r w' ⟨rfl, ⟨nd, rfl⟩⟩; exact ⟨rfl, _, World.drewN_drewN _ _ _⟩))
     generalize hW : World.drewN wy nq = wz;have HTx : As9 (Skd w0 w wz g s p true (.slice An out.length cn) out) := ⟨by rw [← hW]; exact HTy.out.below (bN9 (Below.refl _ _) _)⟩;clear hW HTy hc0 hc1 hc2;have hc0 := cellS89_0 HTx.out.st.1;have hc1 := cellS89_1 HTx.out.st.1;have hc2 := cellS89_2 HTx.out.st.1;clear HZ2 q7 q8 hlt;go_wp2
     have HTd := A_ (HTx.out.below (below_drew (Below.refl _ _)));clear HTx hc0 hc1 hc2;refine start_ (n := 14) (S := fun w' => w'.cell? ⟨g, 0, none⟩ = some (.string s) ∧ w'.cell? ⟨g, 1, none⟩ = some (.int .i64 p)) (ds := [8]) (tS 14 0) (by kernel_rfl) rfl rfl ⟨cellS89_0 HTd.out.st.1, cellS89_1 HTd.out.st.1⟩ (fun hHeld => ?_);generalize World.drew _ = wr0 at HTd hHeld ⊢;iterate 3 refine pq_ ?_
     refine pg_ 4 (tB 14 23) ?_;refine pg_ 5 (tB 14 55) ?_;refine pg_ 6 (tB 14 119) ?_;refine tg_ 3 (tS 14 7) rfl (by rintro w' ⟨s0, s1⟩; go_simp; with_reducible rfl) ?_;refine tq_ rfl (by rintro w' ⟨s0, s1⟩; go_simp; with_reducible rfl) ?_;refine last_ (i := 8) (N := some 60) (tS 14 9) rfl rfl (by kernel_rfl) de_ (fun K hK => ?_);refine gS_ Tryz.func29 #[.string s, .int .i64 p] ?_;with_reducible refine (spec_XmlNote.calls n s p qt qx _ Hq.out).mono ?_
     rintro e wr8 ⟨rfl, hb⟩;refine ⟨_, rfl, ?_⟩;have HTe := A_ (HTd.out.below hb);clear hb HTd;refine hK.out _ _ ?_;clear hK K;refine nm_ ?_;iterate 5 refine pq_ ?_
     refine done_ (by kernel_rfl) ?_;have hz1 := cellS89_1 HTe.out.st.1;have hz2 := cellS89_2 HTe.out.st.1;have hf1 := blk_frozen HTe.out.st.1 1;have hf2 := blk_frozen HTe.out.st.1 2;go_wp2_with (first | (go_at_call 92; have HT5 := A_ (HTe.out.ok_ (decide (qx ≥ 0))); clear HTe; (with_reducible refine (spec_l1Max.calls qx 0 m _ Hm.out).mono ?_); rintro e w6 ⟨rfl, hd⟩; have HT6 := A_ (HT5.out.below hd.below); clear hd HT5 hz1 hz2 hf1 hf2; have hz1 := cellS89_1 HT6.out.st.1; have hf1 := blk_frozen HT6.out.st.1 1; have HT7 := A_ (HT6.out.at_ m)) | ((with_reducible refine gate_builtin (b := .append) (xs := #[.tmp 73, .tmp 76]) rfl ?_); at_builtin; go_loud (refine Kd.R_append k43 (w0 := w0) w0.heap.size rfl (.tmp 73) (.tmp 76) 41 43 (.agg #[.int .i64 0, .int .i64 0, .string ⟨#[]⟩, .slice none 0 0, .string ⟨#[]⟩, .slice none 0 0]) 96 rfl Tryz.underlying41 (by kernel_rfl) rfl de_ om_ (.slice An out.length cn) out (⟨3, 0, ⟨#[]⟩, [], qt, []⟩ : S43) [.int .i64 3, .int .i64 0, .string ⟨#[]⟩, .slice none 0 0, .string qt, .slice none 0 0] (fun k_ => w.heap.size ≤ k_) (fun _ => False) rfl ?aX ?aP (fun _ hk => hk.elim) ?aF ?aO ?aB ?aS ?aL ?_); (case aX => first | rfl | (go_simp; done) | (go_simp; rfl) | (simp; done) | (simp; rfl)); (case aP => exact k43_mkM _ _ _ (⟨3, 0, ⟨#[]⟩, [], qt, []⟩ : S43) (Kd.R_nil _ _ _ _ _) (Kd.R_nil _ _ _ _ _)); (case aF => exact fun k hk => Nat.le_trans HT7.out.kp.1 hk); (case aO => exact HT7.out.nr); (case aB => exact HT7.out.bl); (case aS => exact HT7.out.bl.size); (case aL => have := HL.out; omega); intro v7 w7 ho hb hg hat; have HTg := A_ (HT7.out.app ho hb hg); clear ho hb hg hat HT7))
     go_roundg n
     case measure => omega
     case rel => exact ⟨_, _, _, _, HH, HTg, ⟨by have := HN.out; omega⟩⟩
    | false =>
     rw [if_neg si_] at H;split at H
     case isFalse => cases H
     case isTrue h0 =>
     split at H
     case isFalse => cases H
     case isTrue hl =>
     have HL := A_ hl;clear hl;have p7 := eq_true h0;have q9 := eq_true (show p < (s.size : Int) by omega);have hx := bt_at s p;go_wp2
     go_quiet ((go_at_call 69; (refine (spec_l5Stands.calls s p ⟨#[60, 33, 45, 45]⟩ _ _ HZ2.out).mono ?_); rintro r w' ⟨rfl, ⟨nd, rfl⟩⟩; exact ⟨rfl, _, World.drewN_drewN _ _ _⟩))
     generalize hW : World.drewN wy nq = wz;have HTx : As9 (Skd w0 w wz g s p true (.slice An out.length cn) out) := ⟨by rw [← hW]; exact HTy.out.below (bN9 (Below.refl _ _) _)⟩;clear hW HTy hc0 hc1 hc2;have hc0 := cellS89_0 HTx.out.st.1;have hc1 := cellS89_1 HTx.out.st.1;have hc2 := cellS89_2 HTx.out.st.1;clear HZ2;by_cases hc : bt s p = 60
     case pos =>
      rw [if_pos hc] at H;obtain ⟨⟨kd, s9, p9, b9⟩, hkd, H⟩ := oB_ H;dsimp only at H;have Hkd := A_ hkd;have HH := A_ H;clear hkd H;have hcb : (bt s p == 60) = true := bQ_ hc;go_wp2
      go_quiet (fail)
      generalize hW : World.drewN wz nq = wv;have HTw : As9 (Skd w0 w wv g s p true (.slice An out.length cn) out) := ⟨by rw [← hW]; exact HTx.out.below (bN9 (Below.refl _ _) _)⟩;clear hW HTx hc0 hc1 hc2;have hc0 := cellS89_0 HTw.out.st.1;have hc1 := cellS89_1 HTw.out.st.1;have hc2 := cellS89_2 HTw.out.st.1;have HTx := HTw;clear HTw;clear p7 q9 hx hcb hc q7 q8 hlt;go_wp2_with (first | (go_at_call 84; (with_reducible refine (hE_ n (by have := HN.out; omega) g sp (wrap64 (deep - 1)) s p true kd s9 p9 b9 w0 _ HTx.out.st HTx.out.bl Hkd.out).mono ?_); rintro e w11 ⟨cs, rfl, hm, hi, hb, hk⟩; have HM := A_ (k43.M_mono (ok' := fun k_ => w.heap.size ≤ k_ ∧ some k_ ≠ (Value.slice An out.length cn).ownBlock) (fun k_ hk_ => ⟨Nat.le_trans HTx.out.kp.1 hk_, fun e_ => by have := Kd.R_lt HTx.out.nr k_ e_.symm; omega⟩) hm); have HTb := A_ (HTx.out.state hi hb hk); obtain ⟨u3, u5, hcs, g3, g5⟩ := k43_openM hm; obtain rfl : cs = #[.int .i64 kd.f0, .int .i64 kd.f1, .string kd.f2, u3, .string kd.f4, u5] := Array.ext' hcs; obtain ⟨A3', c3', rfl⟩ := Kd.R_slice g3; obtain ⟨A5', c5', rfl⟩ := Kd.R_slice g5; clear hm hcs g3 g5 hi hb hk HTx hc0 hc1 hc2) | ((with_reducible refine gate_builtin (b := .append) (xs := #[.tmp 88, .tmp 94]) rfl ?_); at_builtin; go_loud (refine Kd.R_append k43 (w0 := w0) w0.heap.size rfl (.tmp 88) (.tmp 94) 41 43 (.agg #[.int .i64 0, .int .i64 0, .string ⟨#[]⟩, .slice none 0 0, .string ⟨#[]⟩, .slice none 0 0]) 96 rfl Tryz.underlying41 (by kernel_rfl) rfl de_ om_ (.slice An out.length cn) out (kd) [.int .i64 kd.f0, .int .i64 kd.f1, .string kd.f2, .slice A3' kd.f3.length c3', .string kd.f4, .slice A5' kd.f5.length c5'] (fun k_ => w.heap.size ≤ k_) (fun k_ => w.heap.size ≤ k_ ∧ some k_ ≠ (Value.slice An out.length cn).ownBlock) rfl ?aX ?aP (fun _ hk => hk) ?aF ?aO ?aB ?aS ?aL ?_); (case aX => first | rfl | (go_simp; done) | (go_simp; rfl) | (simp; done) | (simp; rfl)); (case aP => exact HM.out); (case aF => exact fun k hk => Nat.le_trans HTb.out.kp.1 hk); (case aO => exact HTb.out.nr); (case aB => exact HTb.out.bl); (case aS => exact HTb.out.bl.size); (case aL => have := HL.out; omega); intro v7 w7 ho hb hg hat; have HTg := A_ (HTb.out.app ho hb hg); clear ho hb hg hat HTb))
      go_roundg n
      case measure => omega
      case rel => exact ⟨_, _, _, _, HH, HTg, ⟨by have := HN.out; omega⟩⟩
     case neg =>
      rw [if_neg hc] at H;obtain ⟨⟨qt, qx⟩, hq, H⟩ := oB_ H;obtain ⟨m, hm, H⟩ := oB_ H;have Hq := A_ hq;have Hm := A_ hm;have HH := A_ H;clear hq hm H;have hcb : (bt s p == 60) = false := bN_ hc;go_wp2
      go_quiet (fail)
      generalize hW : World.drewN wz nq = wv;have HTw : As9 (Skd w0 w wv g s p true (.slice An out.length cn) out) := ⟨by rw [← hW]; exact HTx.out.below (bN9 (Below.refl _ _) _)⟩;clear hW HTx hc0 hc1 hc2;have hc0 := cellS89_0 HTw.out.st.1;have hc1 := cellS89_1 HTw.out.st.1;have hc2 := cellS89_2 HTw.out.st.1;have HTx := HTw;clear HTw;clear p7 q9 hx hcb hc q7 q8 hlt;go_wp2
      have HTd := A_ (HTx.out.below (below_drew (Below.refl _ _)));clear HTx hc0 hc1 hc2;refine start_ (n := 14) (S := fun w' => w'.cell? ⟨g, 0, none⟩ = some (.string s) ∧ w'.cell? ⟨g, 1, none⟩ = some (.int .i64 p)) (ds := [8]) (tS 14 0) (by kernel_rfl) rfl rfl ⟨cellS89_0 HTd.out.st.1, cellS89_1 HTd.out.st.1⟩ (fun hHeld => ?_);generalize World.drew _ = wr0 at HTd hHeld ⊢;iterate 3 refine pq_ ?_
      refine pg_ 4 (tB 14 23) ?_;refine pg_ 5 (tB 14 55) ?_;refine pg_ 6 (tB 14 119) ?_;refine tg_ 3 (tS 14 7) rfl (by rintro w' ⟨s0, s1⟩; go_simp; with_reducible rfl) ?_;refine tq_ rfl (by rintro w' ⟨s0, s1⟩; go_simp; with_reducible rfl) ?_;refine last_ (i := 8) (N := some 105) (tS 14 9) rfl rfl (by kernel_rfl) de_ (fun K hK => ?_);refine gS_ Tryz.func23 #[.string s, .int .i64 p, .string ⟨#[60]⟩] ?_;with_reducible refine (spec_XmlText.calls n s p ⟨#[60]⟩ qt qx _ Hq.out).mono ?_
      rintro e wr8 ⟨rfl, hb⟩;refine ⟨_, rfl, ?_⟩;have HTe := A_ (HTd.out.below hb);clear hb HTd;refine hK.out _ _ ?_;clear hK K;refine nm_ ?_;iterate 5 refine pq_ ?_
      refine done_ (by kernel_rfl) ?_;have hz1 := cellS89_1 HTe.out.st.1;have hz2 := cellS89_2 HTe.out.st.1;have hf1 := blk_frozen HTe.out.st.1 1;have hf2 := blk_frozen HTe.out.st.1 2;go_wp2_with (first | (go_at_call 92; have HT5 := A_ (HTe.out.ok_ (decide (qx ≥ 0))); clear HTe; (with_reducible refine (spec_l1Max.calls qx 0 m _ Hm.out).mono ?_); rintro e w6 ⟨rfl, hd⟩; have HT6 := A_ (HT5.out.below hd.below); clear hd HT5 hz1 hz2 hf1 hf2; have hz1 := cellS89_1 HT6.out.st.1; have hf1 := blk_frozen HT6.out.st.1 1; have HT7 := A_ (HT6.out.at_ m)) | ((with_reducible refine gate_builtin (b := .append) (xs := #[.tmp 118, .tmp 121]) rfl ?_); at_builtin; go_loud (refine Kd.R_append k43 (w0 := w0) w0.heap.size rfl (.tmp 118) (.tmp 121) 41 43 (.agg #[.int .i64 0, .int .i64 0, .string ⟨#[]⟩, .slice none 0 0, .string ⟨#[]⟩, .slice none 0 0]) 96 rfl Tryz.underlying41 (by kernel_rfl) rfl de_ om_ (.slice An out.length cn) out (⟨2, 0, ⟨#[]⟩, [], qt, []⟩ : S43) [.int .i64 2, .int .i64 0, .string ⟨#[]⟩, .slice none 0 0, .string qt, .slice none 0 0] (fun k_ => w.heap.size ≤ k_) (fun _ => False) rfl ?aX ?aP (fun _ hk => hk.elim) ?aF ?aO ?aB ?aS ?aL ?_); (case aX => first | rfl | (go_simp; done) | (go_simp; rfl) | (simp; done) | (simp; rfl)); (case aP => exact k43_mkM _ _ _ (⟨2, 0, ⟨#[]⟩, [], qt, []⟩ : S43) (Kd.R_nil _ _ _ _ _) (Kd.R_nil _ _ _ _ _)); (case aF => exact fun k hk => Nat.le_trans HT7.out.kp.1 hk); (case aO => exact HT7.out.nr); (case aB => exact HT7.out.bl); (case aS => exact HT7.out.bl.size); (case aL => have := HL.out; omega); intro v7 w7 ho hb hg hat; have HTg := A_ (HT7.out.app ho hb hg); clear ho hb hg hat HT7))
      go_roundg n
      case measure => omega
      case rel => exact ⟨_, _, _, _, HH, HTg, ⟨by have := HN.out; omega⟩⟩
structure Sle (w0 w W : World) (g ge gr : Nat) (s : BA) (p : Int) (b : Bool) (sp : Int) (nm : BA) (v3 v5 : Value) (attrs : List S36) (kids : List S43) : Prop where
 st : IsS89 w0 W g s p b
 el : W.heap[ge]? = some (.cells #[.int .i64 1, .int .i64 sp, .string nm, v3, .string ⟨#[]⟩, v5] 43 (0, 0))
 ar : k36.R 36 W w0.heap.size (fun k_ => w.heap.size ≤ k_ ∧ k_ ≠ ge ∧ k_ ≠ gr) v3 attrs
 kr : k43.R 43 W w0.heap.size (fun k_ => w.heap.size ≤ k_ ∧ k_ ≠ ge ∧ k_ ≠ gr) v5 kids
 rs : W.heap[gr]? = some (.cells #[.int .i64 0, .int .i64 0, .string ⟨#[]⟩, .slice none 0 0, .string ⟨#[]⟩, .slice none 0 0] 43 (0, 0))
 bl : Below w0.heap.size w0 W
 kp : KeepBut w W g none
 gl : g < w.heap.size
 he : w.heap.size ≤ ge
 hr : w.heap.size ≤ gr
 ne : ge ≠ gr
 g0 : w0.heap.size ≤ w.heap.size
theorem Sle.state {w0 w W W' : World} {g ge gr : Nat} {s s' : BA} {p p' : Int} {b b' : Bool} {sp : Int} {nm : BA} {v3 v5 : Value} {attrs : List S36} {kids : List S43} (h : Sle w0 w W g ge gr s p b sp nm v3 v5 attrs kids) (hi : IsS89 w0 W' g s' p' b') (hb : Below w0.heap.size w0 W') (hk : KeepBut W W' g none) : Sle w0 w W' g ge gr s' p' b' sp nm v3 v5 attrs kids :=
 ⟨hi, hk.blk h.el (by have := h.gl; have := h.he; omega) si_, Kd.R_keep h.ar hk (fun k hk => by have := h.gl; omega), Kd.R_keep h.kr hk (fun k hk => by have := h.gl; omega), hk.blk h.rs (by have := h.gl; have := h.hr; omega) si_, hb, h.kp.trans hk (.inl rfl), h.gl, h.he, h.hr, h.ne, h.g0⟩
theorem Sle.below {w0 w W W' : World} {g ge gr : Nat} {s : BA} {p : Int} {b : Bool} {sp : Int} {nm : BA} {v3 v5 : Value} {attrs : List S36} {kids : List S43} (h : Sle w0 w W g ge gr s p b sp nm v3 v5 attrs kids) (hb : Below W.heap.size W W') : Sle w0 w W' g ge gr s p b sp nm v3 v5 attrs kids := h.state (h.st.below hb) (below_step h.bl hb) (KeepBut.of_below hb g none)
theorem Sle.ok_ {w0 w W : World} {g ge gr : Nat} {s : BA} {p : Int} {b : Bool} {sp : Int} {nm : BA} {v3 v5 : Value} {attrs : List S36} {kids : List S43} (h : Sle w0 w W g ge gr s p b sp nm v3 v5 attrs kids) (x : Bool) : Sle w0 w (W.setCell ⟨g, 2, none⟩ (.bool x)) g ge gr s p x sp nm v3 v5 attrs kids := h.state (h.st.set_2 x) (below_set h.bl h.st.2) ((KeepBut.refl W g none).set_ 2 _)
theorem Sle.at_ {w0 w W : World} {g ge gr : Nat} {s : BA} {p : Int} {b : Bool} {sp : Int} {nm : BA} {v3 v5 : Value} {attrs : List S36} {kids : List S43} (h : Sle w0 w W g ge gr s p b sp nm v3 v5 attrs kids) (x : Int) : Sle w0 w (W.setCell ⟨g, 1, none⟩ (.int .i64 x)) g ge gr s x b sp nm v3 v5 attrs kids := h.state (h.st.set_1 x) (below_set h.bl h.st.2) ((KeepBut.refl W g none).set_ 1 _)
theorem Sle.name_ {w0 w W : World} {g ge gr : Nat} {s : BA} {p : Int} {b : Bool} {sp : Int} {nm : BA} {v3 v5 : Value} {attrs : List S36} {kids : List S43} (h : Sle w0 w W g ge gr s p b sp nm v3 v5 attrs kids) (x : BA) : Sle w0 w (W.setCell ⟨ge, 2, none⟩ (.string x)) g ge gr s p b sp x v3 v5 attrs kids :=
 ⟨h.st.far (p := ⟨ge, 2, none⟩) (by have := h.gl; have := h.he; show g ≠ ge; omega) _, blk_put h.el 2 _ rfl, Kd.R_far (p := ⟨ge, 2, none⟩) h.ar (fun k hk => hk.2.1) _, Kd.R_far (p := ⟨ge, 2, none⟩) h.kr (fun k hk => hk.2.1) _, blk_far h.rs (p := ⟨ge, 2, none⟩) (Ne.symm h.ne) _, below_set h.bl (Nat.le_trans h.g0 h.he), keep_far (p := ⟨ge, 2, none⟩) h.kp h.he _, h.gl, h.he, h.hr, h.ne, h.g0⟩
theorem Sle.space_ {w0 w W : World} {g ge gr : Nat} {s : BA} {p : Int} {b : Bool} {sp : Int} {nm : BA} {v3 v5 : Value} {attrs : List S36} {kids : List S43} (h : Sle w0 w W g ge gr s p b sp nm v3 v5 attrs kids) (x : Int) : Sle w0 w (W.setCell ⟨ge, 1, none⟩ (.int .i64 x)) g ge gr s p b x nm v3 v5 attrs kids :=
 ⟨h.st.far (p := ⟨ge, 1, none⟩) (by have := h.gl; have := h.he; show g ≠ ge; omega) _, blk_put h.el 1 _ rfl, Kd.R_far (p := ⟨ge, 1, none⟩) h.ar (fun k hk => hk.2.1) _, Kd.R_far (p := ⟨ge, 1, none⟩) h.kr (fun k hk => hk.2.1) _, blk_far h.rs (p := ⟨ge, 1, none⟩) (Ne.symm h.ne) _, below_set h.bl (Nat.le_trans h.g0 h.he), keep_far (p := ⟨ge, 1, none⟩) h.kp h.he _, h.gl, h.he, h.hr, h.ne, h.g0⟩
theorem Sle.attrs_ {w0 w W W' : World} {g ge gr : Nat} {s s' : BA} {p p' : Int} {b b' : Bool} {sp : Int} {nm : BA} {v v3 v5 : Value} {attrs at_ : List S36} {kids : List S43} (h : Sle w0 w W g ge gr s p b sp nm v3 v5 attrs kids) (hs : Sat w0 W W' g s' p' b' v at_) : Sle w0 w (W'.setCell ⟨ge, 3, none⟩ v) g ge gr s' p' b' sp nm v v5 at_ kids := by
 have h1 := h.state hs.st hs.bl hs.kp;have e1 := blk_lt h.el;have e2 := blk_lt h.rs;have e3 := h.kp.1;exact ⟨h1.st.far (p := ⟨ge, 3, none⟩) (by have := h.gl; have := h.he; show g ≠ ge; omega) _, blk_put h1.el 3 _ rfl, Kd.R_far (p := ⟨ge, 3, none⟩) (Kd.R_mono hs.nr (ok' := (fun k_ => w.heap.size ≤ k_ ∧ k_ ≠ ge ∧ k_ ≠ gr)) (fun k hk => by omega)) (fun k hk => hk.2.1) _, Kd.R_far (p := ⟨ge, 3, none⟩) h1.kr (fun k hk => hk.2.1) _, blk_far h1.rs (p := ⟨ge, 3, none⟩) (Ne.symm h.ne) _, below_set h1.bl (Nat.le_trans h.g0 h.he), keep_far (p := ⟨ge, 3, none⟩) h1.kp h.he _, h.gl, h.he, h.hr, h.ne, h.g0⟩
theorem Sle.kids_ {w0 w W W' : World} {g ge gr : Nat} {s s' : BA} {p p' : Int} {b b' : Bool} {sp : Int} {nm : BA} {v v3 v5 : Value} {attrs : List S36} {kids ks : List S43} (h : Sle w0 w W g ge gr s p b sp nm v3 v5 attrs kids) (hs : Skd w0 W W' g s' p' b' v ks) : Sle w0 w (W'.setCell ⟨ge, 5, none⟩ v) g ge gr s' p' b' sp nm v3 v attrs ks := by
 have h1 := h.state hs.st hs.bl hs.kp;have e1 := blk_lt h.el;have e2 := blk_lt h.rs;have e3 := h.kp.1;exact ⟨h1.st.far (p := ⟨ge, 5, none⟩) (by have := h.gl; have := h.he; show g ≠ ge; omega) _, blk_put h1.el 5 _ rfl, Kd.R_far (p := ⟨ge, 5, none⟩) h1.ar (fun k hk => hk.2.1) _, Kd.R_far (p := ⟨ge, 5, none⟩) (Kd.R_mono hs.nr (ok' := (fun k_ => w.heap.size ≤ k_ ∧ k_ ≠ ge ∧ k_ ≠ gr)) (fun k hk => by omega)) (fun k hk => hk.2.1) _, blk_far h1.rs (p := ⟨ge, 5, none⟩) (Ne.symm h.ne) _, below_set h1.bl (Nat.le_trans h.g0 h.he), keep_far (p := ⟨ge, 5, none⟩) h1.kp h.he _, h.gl, h.he, h.hr, h.ne, h.g0⟩
theorem Sle.start {w0 w W W2 : World} {g ge gr : Nat} {s : BA} {p : Int} {b : Bool} (hI : IsS89 w0 W g s p b) (hB : Below w0.heap.size w0 W) (hK : KeepBut w W g none) (hX : W.heap[gr]? = some (.cells #[.int .i64 0, .int .i64 0, .string ⟨#[]⟩, .slice none 0 0, .string ⟨#[]⟩, .slice none 0 0] 43 (0, 0))) (hgr : w.heap.size ≤ gr) (gl : g < w.heap.size) (g0 : w0.heap.size ≤ w.heap.size) (hge : ge = W.heap.size)
  (hbox : W2.heap[ge]? = some (.cells #[.int .i64 0, .int .i64 0, .string ⟨#[]⟩, .slice none 0 0, .string ⟨#[]⟩, .slice none 0 0] 43 (0, 0))) (hb : Below W.heap.size W W2) :
  Sle w0 w ((((((W2.setCell ⟨ge, 0, none⟩ (.int .i64 1)).setCell ⟨ge, 1, none⟩ (.int .i64 0)).setCell ⟨ge, 2, none⟩ (.string ⟨#[]⟩)).setCell ⟨ge, 3, none⟩ (.slice none 0 0)).setCell ⟨ge, 4, none⟩ (.string ⟨#[]⟩)).setCell ⟨ge, 5, none⟩ (.slice none 0 0)) g ge gr s p b 0 ⟨#[]⟩ (.slice none 0 0) (.slice none 0 0) [] [] := by
 have h1 := hI.lt;have h2 := blk_lt hX;have h3 := hK.1;have hk : KeepBut W2 ((((((W2.setCell ⟨ge, 0, none⟩ (.int .i64 1)).setCell ⟨ge, 1, none⟩ (.int .i64 0)).setCell ⟨ge, 2, none⟩ (.string ⟨#[]⟩)).setCell ⟨ge, 3, none⟩ (.slice none 0 0)).setCell ⟨ge, 4, none⟩ (.string ⟨#[]⟩)).setCell ⟨ge, 5, none⟩ (.slice none 0 0)) ge none := ((((((KeepBut.refl W2 ge none).set_ 0 _).set_ 1 _).set_ 2 _).set_ 3 _).set_ 4 _).set_ 5 _;exact ⟨sst_six (hI.below hb) om_ _ _ _ _ _ _, blk_six hbox _ _ _ _ _ _, Kd.R_nil _ _ _ _ _, Kd.R_nil _ _ _ _ _, hk.blk (blk_below hX hb) om_ si_, below_six (below_step hB hb) om_ _ _ _ _ _ _, keep_six (hK.trans (KeepBut.of_below hb g none) (.inl rfl)) om_ _ _ _ _ _ _, gl, om_, hgr, om_, g0⟩
theorem sel_step (n : Nat) (hK_ : ∀ m, m < n → SKidC m) : SElC (n + 1) := by
 unfold SKidC at hK_;intro g about deep s p b r r2 r3 r4 w0 w hI hB h;have hu := Tryz.underlying43;rw [sEl] at h;have HI := A_ hI;have HB := A_ hB;have HGL : As9 (g < w.heap.size) := ⟨hI.lt⟩;have HG0 : As9 (w0.heap.size ≤ w.heap.size) := ⟨hB.size⟩;obtain ⟨⟨s1, p1, b1⟩, ht1, H⟩ := oB_ h;dsimp only at H;have Ht1 := A_ ht1;clear ht1 h hI hB;go_enter Tryz.func84, Tryz.ntmps84
 cases b1 with
 | false =>
  rw [if_neg si_] at H;simp only [Option.some.injEq, Prod.mk.injEq] at H;obtain ⟨rfl, rfl, rfl, rfl⟩ := H;go_wp2_with (first | (refine gate_dst (N := 6) rfl ?_; refine bZ_ 43 ?_; intro gr hg_ w1 hbox hb; have HGR := A_ hg_; have HI1 := A_ (HI.out.below hb); have HB1 := A_ (below_step HB.out hb); have HK1 := A_ (KeepBut.of_below hb g none); have HX1 := A_ hbox; clear hg_ hbox hb HI HB) | (refine gate_dst (N := 7) rfl ?_; refine bZ_ 43 ?_; intro ge hg_ w2 hbox hb; have HGE := A_ hg_; have HBX := A_ hb; have HX2 := A_ hbox; obtain ⟨he0, he1, he2, he3, he4, he5, hf0, hf1, hf2, hf3, hf4, hf5⟩ := bk6_ hbox; clear hg_ hb hbox) | (go_at_call 91; have HE3 := A_ (Sle.start HI1.out HB1.out HK1.out HX1.out (Nat.le_of_eq HGR.out.symm) HGL.out HG0.out HGE.out HX2.out HBX.out); clear HI1 HB1 HK1 HX1 HX2 HBX he0 he1 he2 he3 he4 he5 hf0 hf1 hf2 hf3 hf4 hf5; (with_reducible refine (spec_l19Take.calls g s p b ⟨#[60]⟩ _ _ _ w0 _ HE3.out.st HE3.out.bl Ht1.out).mono ?_); rintro e w4 ⟨rfl, hi, hb, hk⟩; have HE4 := A_ (HE3.out.state hi hb hk); clear hi hb hk HE3; obtain ⟨he0, he1, he2, he3, he4, he5, hf0, hf1, hf2, hf3, hf4, hf5⟩ := bk6_ HE4.out.el; obtain ⟨hz0, hz1, hz2, hz3, hz4, hz5, hy0, hy1, hy2, hy3, hy4, hy5⟩ := bk6_ HE4.out.rs; have hc0 := cellS89_0 HE4.out.st.1; have hc1 := cellS89_1 HE4.out.st.1; have hc2 := cellS89_2 HE4.out.st.1; have hg1 := blk_frozen HE4.out.st.1 1; have hg2 := blk_frozen HE4.out.st.1 2; have hn1 := eq_false HE4.out.ne; have hn2 := eq_false (Ne.symm HE4.out.ne); have hn3 : (g = ge) = False := eq_false (by have := HE4.out.gl; have := HE4.out.he; omega); have hn4 : (ge = g) = False := eq_false (by have := HE4.out.gl; have := HE4.out.he; omega); have hn5 : (g = gr) = False := eq_false (by have := HE4.out.gl; have := HE4.out.hr; omega); have hn6 : (gr = g) = False := eq_false (by have := HE4.out.gl; have := HE4.out.hr; omega)))
  have HZ := A_ (HE4.out.ok_ false);refine bodyPost_ret (results_single rfl (.cell gr 43 #[.int .i64 1, .int .i64 0, .string ⟨#[]⟩, .slice none 0 0, .string ⟨#[]⟩, .slice none 0 0] (0, 0) _ rfl (blk_six HZ.out.rs _ _ _ _ _ _) hu rfl (by kernel_rfl) .nil)) rfl ?_;exact SEl_end (ok := (fun k_ => w.heap.size ≤ k_ ∧ k_ ≠ ge ∧ k_ ≠ gr)) HZ.out.st HZ.out.bl HZ.out.kp HZ.out.rs (k43_mkM _ _ _ ⟨1, 0, ⟨#[]⟩, [], ⟨#[]⟩, []⟩ HZ.out.ar HZ.out.kr) (fun k hk => ⟨hk.1, hk.2.2⟩) HZ.out.hr (Nat.ne_of_lt (Nat.lt_of_lt_of_le HZ.out.gl HZ.out.hr)) (Nat.le_trans HZ.out.g0 HZ.out.hr)
 | true =>
  rw [if_pos rfl] at H;by_cases d0 : deep = 0
  case pos =>
   rw [if_pos d0] at H;have d0b : (deep == 0) = true := bQ_ d0;simp only [Option.some.injEq, Prod.mk.injEq] at H;obtain ⟨rfl, rfl, rfl, rfl⟩ := H;clear d0;go_wp2_with (first | (refine gate_dst (N := 6) rfl ?_; refine bZ_ 43 ?_; intro gr hg_ w1 hbox hb; have HGR := A_ hg_; have HI1 := A_ (HI.out.below hb); have HB1 := A_ (below_step HB.out hb); have HK1 := A_ (KeepBut.of_below hb g none); have HX1 := A_ hbox; clear hg_ hbox hb HI HB) | (refine gate_dst (N := 7) rfl ?_; refine bZ_ 43 ?_; intro ge hg_ w2 hbox hb; have HGE := A_ hg_; have HBX := A_ hb; have HX2 := A_ hbox; obtain ⟨he0, he1, he2, he3, he4, he5, hf0, hf1, hf2, hf3, hf4, hf5⟩ := bk6_ hbox; clear hg_ hb hbox) | (go_at_call 91; have HE3 := A_ (Sle.start HI1.out HB1.out HK1.out HX1.out (Nat.le_of_eq HGR.out.symm) HGL.out HG0.out HGE.out HX2.out HBX.out); clear HI1 HB1 HK1 HX1 HX2 HBX he0 he1 he2 he3 he4 he5 hf0 hf1 hf2 hf3 hf4 hf5; (with_reducible refine (spec_l19Take.calls g s p b ⟨#[60]⟩ _ _ _ w0 _ HE3.out.st HE3.out.bl Ht1.out).mono ?_); rintro e w4 ⟨rfl, hi, hb, hk⟩; have HE4 := A_ (HE3.out.state hi hb hk); clear hi hb hk HE3; obtain ⟨he0, he1, he2, he3, he4, he5, hf0, hf1, hf2, hf3, hf4, hf5⟩ := bk6_ HE4.out.el; obtain ⟨hz0, hz1, hz2, hz3, hz4, hz5, hy0, hy1, hy2, hy3, hy4, hy5⟩ := bk6_ HE4.out.rs; have hc0 := cellS89_0 HE4.out.st.1; have hc1 := cellS89_1 HE4.out.st.1; have hc2 := cellS89_2 HE4.out.st.1; have hg1 := blk_frozen HE4.out.st.1 1; have hg2 := blk_frozen HE4.out.st.1 2; have hn1 := eq_false HE4.out.ne; have hn2 := eq_false (Ne.symm HE4.out.ne); have hn3 : (g = ge) = False := eq_false (by have := HE4.out.gl; have := HE4.out.he; omega); have hn4 : (ge = g) = False := eq_false (by have := HE4.out.gl; have := HE4.out.he; omega); have hn5 : (g = gr) = False := eq_false (by have := HE4.out.gl; have := HE4.out.hr; omega); have hn6 : (gr = g) = False := eq_false (by have := HE4.out.gl; have := HE4.out.hr; omega)))
   have HZ := A_ (HE4.out.ok_ false);refine bodyPost_ret (results_single rfl (.cell gr 43 #[.int .i64 1, .int .i64 0, .string ⟨#[]⟩, .slice none 0 0, .string ⟨#[]⟩, .slice none 0 0] (0, 0) _ rfl (blk_six HZ.out.rs _ _ _ _ _ _) hu rfl (by kernel_rfl) .nil)) rfl ?_;exact SEl_end (ok := (fun k_ => w.heap.size ≤ k_ ∧ k_ ≠ ge ∧ k_ ≠ gr)) HZ.out.st HZ.out.bl HZ.out.kp HZ.out.rs (k43_mkM _ _ _ ⟨1, 0, ⟨#[]⟩, [], ⟨#[]⟩, []⟩ HZ.out.ar HZ.out.kr) (fun k hk => ⟨hk.1, hk.2.2⟩) HZ.out.hr (Nat.ne_of_lt (Nat.lt_of_lt_of_le HZ.out.gl HZ.out.hr)) (Nat.le_trans HZ.out.g0 HZ.out.hr)
  case neg =>
   rw [if_neg d0] at H;have d0b : (deep == 0) = false := bN_ d0;obtain ⟨⟨nm, nx⟩, hq, H⟩ := oB_ H;dsimp only at H;have Hq := A_ hq;have HH := A_ H;clear hq H d0;go_wp2_with (first | (refine gate_dst (N := 6) rfl ?_; refine bZ_ 43 ?_; intro gr hg_ w1 hbox hb; have HGR := A_ hg_; have HI1 := A_ (HI.out.below hb); have HB1 := A_ (below_step HB.out hb); have HK1 := A_ (KeepBut.of_below hb g none); have HX1 := A_ hbox; clear hg_ hbox hb HI HB) | (refine gate_dst (N := 7) rfl ?_; refine bZ_ 43 ?_; intro ge hg_ w2 hbox hb; have HGE := A_ hg_; have HBX := A_ hb; have HX2 := A_ hbox; obtain ⟨he0, he1, he2, he3, he4, he5, hf0, hf1, hf2, hf3, hf4, hf5⟩ := bk6_ hbox; clear hg_ hb hbox) | (go_at_call 91; have HE3 := A_ (Sle.start HI1.out HB1.out HK1.out HX1.out (Nat.le_of_eq HGR.out.symm) HGL.out HG0.out HGE.out HX2.out HBX.out); clear HI1 HB1 HK1 HX1 HX2 HBX he0 he1 he2 he3 he4 he5 hf0 hf1 hf2 hf3 hf4 hf5; (with_reducible refine (spec_l19Take.calls g s p b ⟨#[60]⟩ _ _ _ w0 _ HE3.out.st HE3.out.bl Ht1.out).mono ?_); rintro e w4 ⟨rfl, hi, hb, hk⟩; have HE4 := A_ (HE3.out.state hi hb hk); clear hi hb hk HE3; obtain ⟨he0, he1, he2, he3, he4, he5, hf0, hf1, hf2, hf3, hf4, hf5⟩ := bk6_ HE4.out.el; obtain ⟨hz0, hz1, hz2, hz3, hz4, hz5, hy0, hy1, hy2, hy3, hy4, hy5⟩ := bk6_ HE4.out.rs; have hc0 := cellS89_0 HE4.out.st.1; have hc1 := cellS89_1 HE4.out.st.1; have hc2 := cellS89_2 HE4.out.st.1; have hg1 := blk_frozen HE4.out.st.1 1; have hg2 := blk_frozen HE4.out.st.1 2; have hn1 := eq_false HE4.out.ne; have hn2 := eq_false (Ne.symm HE4.out.ne); have hn3 : (g = ge) = False := eq_false (by have := HE4.out.gl; have := HE4.out.he; omega); have hn4 : (ge = g) = False := eq_false (by have := HE4.out.gl; have := HE4.out.he; omega); have hn5 : (g = gr) = False := eq_false (by have := HE4.out.gl; have := HE4.out.hr; omega); have hn6 : (gr = g) = False := eq_false (by have := HE4.out.gl; have := HE4.out.hr; omega)))
   clear he0 hf0 hz0 hy0 he1 hf1 hz1 hy1 he2 hf2 hz2 hy2 he3 hf3 hz3 hy3 he4 hf4 hz4 hy4 he5 hf5 hz5 hy5 hc0 hc1 hc2 hg1 hg2;have HTd := A_ (HE4.out.below (below_drew (Below.refl _ _)));clear HE4 d0b;refine start_ (n := 14) (S := fun w' => w'.cell? ⟨g, 0, none⟩ = some (.string s1) ∧ w'.cell? ⟨g, 1, none⟩ = some (.int .i64 p1)) (ds := [8]) (tS 14 0) (by kernel_rfl) rfl rfl ⟨cellS89_0 HTd.out.st.1, cellS89_1 HTd.out.st.1⟩ (fun hHeld => ?_);generalize World.drew _ = wr0 at HTd hHeld ⊢;iterate 3 refine pq_ ?_
   refine pg_ 4 (tB 14 23) ?_;refine pg_ 5 (tB 14 55) ?_;refine pg_ 6 (tB 14 119) ?_;refine tg_ 3 (tS 14 7) rfl (by rintro w' ⟨s0, s1⟩; go_simp; with_reducible rfl) ?_;refine tq_ rfl (by rintro w' ⟨s0, s1⟩; go_simp; with_reducible rfl) ?_;refine last_ (i := 8) (N := some 35) (tS 14 9) rfl rfl (by kernel_rfl) de_ (fun K hK => ?_);refine gS_ Tryz.func17 #[.string s1, .int .i64 p1] ?_;with_reducible refine (spec_XmlName.calls n s1 p1 nm nx _ Hq.out).mono ?_
   rintro e wr8 ⟨rfl, hb⟩;refine ⟨_, rfl, ?_⟩;have HE5 := A_ (HTd.out.below hb);clear hb HTd;refine hK.out _ _ ?_;clear hK K;refine nm_ ?_;iterate 5 refine pq_ ?_
   refine done_ (by kernel_rfl) ?_;obtain ⟨he0, he1, he2, he3, he4, he5, hf0, hf1, hf2, hf3, hf4, hf5⟩ := bk6_ HE5.out.el;obtain ⟨hz0, hz1, hz2, hz3, hz4, hz5, hy0, hy1, hy2, hy3, hy4, hy5⟩ := bk6_ HE5.out.rs;have hc0 := cellS89_0 HE5.out.st.1;have hc1 := cellS89_1 HE5.out.st.1;have hc2 := cellS89_2 HE5.out.st.1;have hg1 := blk_frozen HE5.out.st.1 1;have hg2 := blk_frozen HE5.out.st.1 2;have H := HH.out;clear HH Hq;by_cases cn : nm.toList = []
   case pos =>
    rw [if_pos cn] at H;have cnb : (nm.toList == ([] : List UInt8)) = true := by rw [cn]; rfl
    have cni : nm.toList.isEmpty = true := by rw [cn]; rfl
    simp only [Option.some.injEq, Prod.mk.injEq] at H;obtain ⟨rfl, rfl, rfl, rfl⟩ := H;go_wp2
    have HZ := A_ (HE5.out.ok_ false);refine bodyPost_ret (results_single rfl (.cell gr 43 #[.int .i64 1, .int .i64 0, .string ⟨#[]⟩, .slice none 0 0, .string ⟨#[]⟩, .slice none 0 0] (0, 0) _ rfl (blk_six HZ.out.rs _ _ _ _ _ _) hu rfl (by kernel_rfl) .nil)) rfl ?_;exact SEl_end (ok := (fun k_ => w.heap.size ≤ k_ ∧ k_ ≠ ge ∧ k_ ≠ gr)) HZ.out.st HZ.out.bl HZ.out.kp HZ.out.rs (k43_mkM _ _ _ ⟨1, 0, ⟨#[]⟩, [], ⟨#[]⟩, []⟩ HZ.out.ar HZ.out.kr) (fun k hk => ⟨hk.1, hk.2.2⟩) HZ.out.hr (Nat.ne_of_lt (Nat.lt_of_lt_of_le HZ.out.gl HZ.out.hr)) (Nat.le_trans HZ.out.g0 HZ.out.hr)
   case neg =>
    rw [if_neg cn] at H;have cnb : (nm.toList == ([] : List UInt8)) = false := bN_ cn;have cni : nm.toList.isEmpty = false := by cases h9 : nm.toList with | nil => exact absurd h9 cn | cons _ _ => rfl
    clear cn;obtain ⟨⟨at_, sp, s3, p3, b3⟩, ha, H⟩ := oB_ H;dsimp only at H;have Ha := A_ ha;clear ha;cases b3 with
    | false =>
     rw [if_neg si_] at H;go_wp2_with (go_at_call 131; have HE6 := A_ ((HE5.out.name_ nm).at_ nx); clear HE5; clear he0 hf0 hz0 hy0 he1 hf1 hz1 hy1 he2 hf2 hz2 hy2 he3 hf3 hz3 hy3 he4 hf4 hz4 hy4 he5 hf5 hz5 hy5 hc0 hc1 hc2 hg1 hg2; (with_reducible refine (spec_l19Attrs.calls n g s1 nx true about at_ sp s3 p3 _ w0 _ HE6.out.st HE6.out.bl Ha.out).mono ?_); rintro e w7 ⟨v3, rfl, hs⟩; have HE7 := A_ (HE6.out.state hs.st hs.bl hs.kp); have HE8 := A_ ((HE6.out.attrs_ hs).space_ sp); obtain ⟨A3, c3, rfl⟩ := Kd.R_slice hs.nr; clear hs HE6; obtain ⟨he0, he1, he2, he3, he4, he5, hf0, hf1, hf2, hf3, hf4, hf5⟩ := bk6_ HE7.out.el; obtain ⟨hz0, hz1, hz2, hz3, hz4, hz5, hy0, hy1, hy2, hy3, hy4, hy5⟩ := bk6_ HE7.out.rs; have hc0 := cellS89_0 HE7.out.st.1; have hc1 := cellS89_1 HE7.out.st.1; have hc2 := cellS89_2 HE7.out.st.1; have hg1 := blk_frozen HE7.out.st.1 1; have hg2 := blk_frozen HE7.out.st.1 2)
     go_wp2
     go_quiet (fail)
     generalize hW : World.drewN _ nq = wq;have HE9 : As9 (Sle w0 w wq g ge gr s3 p3 false sp nm (.slice A3 at_.length c3) (.slice none 0 0) at_ []) := ⟨by rw [← hW]; exact HE8.out.below (bN9 (Below.refl _ _) _)⟩;clear hW HE8 HE7;clear he0 hf0 hz0 hy0 he1 hf1 hz1 hy1 he2 hf2 hz2 hy2 he3 hf3 hz3 hy3 he4 hf4 hz4 hy4 he5 hf5 hz5 hy5 hc0 hc1 hc2 hg1 hg2;obtain ⟨he0, he1, he2, he3, he4, he5, hf0, hf1, hf2, hf3, hf4, hf5⟩ := bk6_ HE9.out.el;obtain ⟨hz0, hz1, hz2, hz3, hz4, hz5, hy0, hy1, hy2, hy3, hy4, hy5⟩ := bk6_ HE9.out.rs;have hc0 := cellS89_0 HE9.out.st.1;have hc1 := cellS89_1 HE9.out.st.1;have hc2 := cellS89_2 HE9.out.st.1;have hg1 := blk_frozen HE9.out.st.1 1;have hg2 := blk_frozen HE9.out.st.1 2;clear Ha cnb cni;cases n with
     | zero => simp [sRest] at H
     | succ m =>
     rw [sRest] at H;obtain ⟨⟨s5, p5, b5⟩, ht3, H⟩ := oB_ H;obtain ⟨⟨ks, s6, p6, b6⟩, hks, H⟩ := oB_ H;dsimp only at hks H;split at H
     case isFalse => cases H
     case isTrue hsz =>
     obtain ⟨⟨s7, p7, b7⟩, ht4, H⟩ := oB_ H;simp only [Option.some.injEq, Prod.mk.injEq] at H;obtain ⟨rfl, rfl, rfl, rfl⟩ := H;have Ht3 := A_ ht3;have Hks := A_ hks;have Ht4 := A_ ht4;have q1 : (9223372036854775807 < (⟨#[60, 47]⟩ : BA).size + nm.size) = False := eq_false (by have h2 : (⟨#[60, 47]⟩ : BA).size = 2 := rfl; omega);have q2 : (9223372036854775807 < (⟨#[60, 47]⟩ : BA).size + nm.size + (⟨#[62]⟩ : BA).size) = False := eq_false (by have h2 : (⟨#[60, 47]⟩ : BA).size = 2 := rfl; have h3 : (⟨#[62]⟩ : BA).size = 1 := rfl; omega);have q3 : (9223372036854775807 < 2 + nm.size) = False := eq_false om_;have q4 : (9223372036854775807 < 2 + nm.size + 1) = False := eq_false om_;clear ht3 hks ht4 hsz;go_wp2_with (first | (go_at_call 91; (with_reducible refine (spec_l19Take.calls g s3 p3 _ ⟨#[62]⟩ s5 p5 b5 w0 _ HE9.out.st HE9.out.bl Ht3.out).mono ?_); rintro e w10 ⟨rfl, hi, hb, hk⟩; have HEa := A_ (HE9.out.state hi hb hk); clear hi hb hk HE9; clear he0 hf0 hz0 hy0 he1 hf1 hz1 hy1 he2 hf2 hz2 hy2 he3 hf3 hz3 hy3 he4 hf4 hz4 hy4 he5 hf5 hz5 hy5 hc0 hc1 hc2 hg1 hg2; obtain ⟨he0, he1, he2, he3, he4, he5, hf0, hf1, hf2, hf3, hf4, hf5⟩ := bk6_ HEa.out.el; obtain ⟨hz0, hz1, hz2, hz3, hz4, hz5, hy0, hy1, hy2, hy3, hy4, hy5⟩ := bk6_ HEa.out.rs; have hc0 := cellS89_0 HEa.out.st.1; have hc1 := cellS89_1 HEa.out.st.1; have hc2 := cellS89_2 HEa.out.st.1; have hg1 := blk_frozen HEa.out.st.1 1; have hg2 := blk_frozen HEa.out.st.1 2) | (go_at_call 132; (with_reducible refine (hK_ m om_ g sp deep s5 p5 b5 ks s6 p6 b6 w0 _ HEa.out.st HEa.out.bl Hks.out).mono ?_); rintro e w11 ⟨v5, rfl, hs⟩; have HEb := A_ (HEa.out.state hs.st hs.bl hs.kp); have HEc := A_ (HEa.out.kids_ hs); obtain ⟨A5, c5, rfl⟩ := Kd.R_slice hs.nr; clear hs HEa; clear he0 hf0 hz0 hy0 he1 hf1 hz1 hy1 he2 hf2 hz2 hy2 he3 hf3 hz3 hy3 he4 hf4 hz4 hy4 he5 hf5 hz5 hy5 hc0 hc1 hc2 hg1 hg2; obtain ⟨he0, he1, he2, he3, he4, he5, hf0, hf1, hf2, hf3, hf4, hf5⟩ := bk6_ HEb.out.el; obtain ⟨hz0, hz1, hz2, hz3, hz4, hz5, hy0, hy1, hy2, hy3, hy4, hy5⟩ := bk6_ HEb.out.rs; have hc0 := cellS89_0 HEb.out.st.1; have hc1 := cellS89_1 HEb.out.st.1; have hc2 := cellS89_2 HEb.out.st.1; have hg1 := blk_frozen HEb.out.st.1 1; have hg2 := blk_frozen HEb.out.st.1 2) | (go_at_call 91; clear he0 hf0 hz0 hy0 he1 hf1 hz1 hy1 he2 hf2 hz2 hy2 he3 hf3 hz3 hy3 he4 hf4 hz4 hy4 he5 hf5 hz5 hy5 hc0 hc1 hc2 hg1 hg2; (with_reducible refine (spec_l19Take.calls g s6 p6 b6 ((⟨#[60, 47]⟩ ++ nm) ++ ⟨#[62]⟩) s7 p7 b7 w0 _ HEc.out.st HEc.out.bl Ht4.out).mono ?_); rintro e w12 ⟨rfl, hi, hb, hk⟩; have HEd := A_ (HEc.out.state hi hb hk); clear hi hb hk HEc; obtain ⟨he0, he1, he2, he3, he4, he5, hf0, hf1, hf2, hf3, hf4, hf5⟩ := bk6_ HEd.out.el; obtain ⟨hz0, hz1, hz2, hz3, hz4, hz5, hy0, hy1, hy2, hy3, hy4, hy5⟩ := bk6_ HEd.out.rs; have hc0 := cellS89_0 HEd.out.st.1; have hc1 := cellS89_1 HEd.out.st.1; have hc2 := cellS89_2 HEd.out.st.1; have hg1 := blk_frozen HEd.out.st.1 1; have hg2 := blk_frozen HEd.out.st.1 2))
     refine bodyPost_ret (results_single rfl (.cell gr 43 #[.int .i64 1, .int .i64 sp, .string nm, .slice A3 at_.length c3, .string ⟨#[]⟩, .slice A5 ks.length c5] (0, 0) _ rfl (blk_six HEd.out.rs _ _ _ _ _ _) hu rfl (by kernel_rfl) .nil)) rfl ?_;exact SEl_end (ok := (fun k_ => w.heap.size ≤ k_ ∧ k_ ≠ ge ∧ k_ ≠ gr)) HEd.out.st HEd.out.bl HEd.out.kp HEd.out.rs (k43_mkM _ _ _ ⟨1, sp, nm, at_, ⟨#[]⟩, ks⟩ HEd.out.ar HEd.out.kr) (fun k hk => ⟨hk.1, hk.2.2⟩) HEd.out.hr (Nat.ne_of_lt (Nat.lt_of_lt_of_le HEd.out.gl HEd.out.hr)) (Nat.le_trans HEd.out.g0 HEd.out.hr)
    | true =>
     rw [if_pos rfl] at H;obtain ⟨z, hz_, H⟩ := oB_ H;have HZ := A_ hz_;clear hz_;cases z with
     | true =>
      rw [if_pos rfl] at H;simp only [Option.some.injEq, Prod.mk.injEq] at H;obtain ⟨rfl, rfl, rfl, rfl⟩ := H;go_wp2_with (go_at_call 131; have HE6 := A_ ((HE5.out.name_ nm).at_ nx); clear HE5; clear he0 hf0 hz0 hy0 he1 hf1 hz1 hy1 he2 hf2 hz2 hy2 he3 hf3 hz3 hy3 he4 hf4 hz4 hy4 he5 hf5 hz5 hy5 hc0 hc1 hc2 hg1 hg2; (with_reducible refine (spec_l19Attrs.calls n g s1 nx true about at_ sp s3 p3 _ w0 _ HE6.out.st HE6.out.bl Ha.out).mono ?_); rintro e w7 ⟨v3, rfl, hs⟩; have HE7 := A_ (HE6.out.state hs.st hs.bl hs.kp); have HE8 := A_ ((HE6.out.attrs_ hs).space_ sp); obtain ⟨A3, c3, rfl⟩ := Kd.R_slice hs.nr; clear hs HE6; obtain ⟨he0, he1, he2, he3, he4, he5, hf0, hf1, hf2, hf3, hf4, hf5⟩ := bk6_ HE7.out.el; obtain ⟨hz0, hz1, hz2, hz3, hz4, hz5, hy0, hy1, hy2, hy3, hy4, hy5⟩ := bk6_ HE7.out.rs; have hc0 := cellS89_0 HE7.out.st.1; have hc1 := cellS89_1 HE7.out.st.1; have hc2 := cellS89_2 HE7.out.st.1; have hg1 := blk_frozen HE7.out.st.1 1; have hg2 := blk_frozen HE7.out.st.1 2)
      go_wp2
      go_quiet ((go_at_call 69; (refine (spec_l5Stands.calls s3 p3 ⟨#[47, 62]⟩ _ _ HZ.out).mono ?_); rintro r w' ⟨rfl, ⟨nd, rfl⟩⟩; exact ⟨rfl, _, World.drewN_drewN _ _ _⟩))
      generalize hW : World.drewN _ nq = wq;have HE9 : As9 (Sle w0 w wq g ge gr s3 p3 true sp nm (.slice A3 at_.length c3) (.slice none 0 0) at_ []) := ⟨by rw [← hW]; exact HE8.out.below (bN9 (Below.refl _ _) _)⟩;clear hW HE8 HE7;clear he0 hf0 hz0 hy0 he1 hf1 hz1 hy1 he2 hf2 hz2 hy2 he3 hf3 hz3 hy3 he4 hf4 hz4 hy4 he5 hf5 hz5 hy5 hc0 hc1 hc2 hg1 hg2;obtain ⟨he0, he1, he2, he3, he4, he5, hf0, hf1, hf2, hf3, hf4, hf5⟩ := bk6_ HE9.out.el;obtain ⟨hz0, hz1, hz2, hz3, hz4, hz5, hy0, hy1, hy2, hy3, hy4, hy5⟩ := bk6_ HE9.out.rs;have hc0 := cellS89_0 HE9.out.st.1;have hc1 := cellS89_1 HE9.out.st.1;have hc2 := cellS89_2 HE9.out.st.1;have hg1 := blk_frozen HE9.out.st.1 1;have hg2 := blk_frozen HE9.out.st.1 2;clear Ha cnb cni HZ;go_wp2
      have HZ := A_ (HE9.out.at_ (wrap64 (p3 + 2)));refine bodyPost_ret (results_single rfl (.cell gr 43 #[.int .i64 1, .int .i64 sp, .string nm, .slice A3 at_.length c3, .string ⟨#[]⟩, .slice none 0 0] (0, 0) _ rfl (blk_six HZ.out.rs _ _ _ _ _ _) hu rfl (by kernel_rfl) .nil)) rfl ?_;exact SEl_end (ok := (fun k_ => w.heap.size ≤ k_ ∧ k_ ≠ ge ∧ k_ ≠ gr)) HZ.out.st HZ.out.bl HZ.out.kp HZ.out.rs (k43_mkM _ _ _ ⟨1, sp, nm, at_, ⟨#[]⟩, []⟩ HZ.out.ar HZ.out.kr) (fun k hk => ⟨hk.1, hk.2.2⟩) HZ.out.hr (Nat.ne_of_lt (Nat.lt_of_lt_of_le HZ.out.gl HZ.out.hr)) (Nat.le_trans HZ.out.g0 HZ.out.hr)
     | false =>
      rw [if_neg si_] at H;go_wp2_with (go_at_call 131; have HE6 := A_ ((HE5.out.name_ nm).at_ nx); clear HE5; clear he0 hf0 hz0 hy0 he1 hf1 hz1 hy1 he2 hf2 hz2 hy2 he3 hf3 hz3 hy3 he4 hf4 hz4 hy4 he5 hf5 hz5 hy5 hc0 hc1 hc2 hg1 hg2; (with_reducible refine (spec_l19Attrs.calls n g s1 nx true about at_ sp s3 p3 _ w0 _ HE6.out.st HE6.out.bl Ha.out).mono ?_); rintro e w7 ⟨v3, rfl, hs⟩; have HE7 := A_ (HE6.out.state hs.st hs.bl hs.kp); have HE8 := A_ ((HE6.out.attrs_ hs).space_ sp); obtain ⟨A3, c3, rfl⟩ := Kd.R_slice hs.nr; clear hs HE6; obtain ⟨he0, he1, he2, he3, he4, he5, hf0, hf1, hf2, hf3, hf4, hf5⟩ := bk6_ HE7.out.el; obtain ⟨hz0, hz1, hz2, hz3, hz4, hz5, hy0, hy1, hy2, hy3, hy4, hy5⟩ := bk6_ HE7.out.rs; have hc0 := cellS89_0 HE7.out.st.1; have hc1 := cellS89_1 HE7.out.st.1; have hc2 := cellS89_2 HE7.out.st.1; have hg1 := blk_frozen HE7.out.st.1 1; have hg2 := blk_frozen HE7.out.st.1 2)
      go_wp2
      go_quiet ((go_at_call 69; (refine (spec_l5Stands.calls s3 p3 ⟨#[47, 62]⟩ _ _ HZ.out).mono ?_); rintro r w' ⟨rfl, ⟨nd, rfl⟩⟩; exact ⟨rfl, _, World.drewN_drewN _ _ _⟩))
      generalize hW : World.drewN _ nq = wq;have HE9 : As9 (Sle w0 w wq g ge gr s3 p3 true sp nm (.slice A3 at_.length c3) (.slice none 0 0) at_ []) := ⟨by rw [← hW]; exact HE8.out.below (bN9 (Below.refl _ _) _)⟩;clear hW HE8 HE7;clear he0 hf0 hz0 hy0 he1 hf1 hz1 hy1 he2 hf2 hz2 hy2 he3 hf3 hz3 hy3 he4 hf4 hz4 hy4 he5 hf5 hz5 hy5 hc0 hc1 hc2 hg1 hg2;obtain ⟨he0, he1, he2, he3, he4, he5, hf0, hf1, hf2, hf3, hf4, hf5⟩ := bk6_ HE9.out.el;obtain ⟨hz0, hz1, hz2, hz3, hz4, hz5, hy0, hy1, hy2, hy3, hy4, hy5⟩ := bk6_ HE9.out.rs;have hc0 := cellS89_0 HE9.out.st.1;have hc1 := cellS89_1 HE9.out.st.1;have hc2 := cellS89_2 HE9.out.st.1;have hg1 := blk_frozen HE9.out.st.1 1;have hg2 := blk_frozen HE9.out.st.1 2;clear Ha cnb cni HZ;cases n with
      | zero => simp [sRest] at H
      | succ m =>
      rw [sRest] at H;obtain ⟨⟨s5, p5, b5⟩, ht3, H⟩ := oB_ H;obtain ⟨⟨ks, s6, p6, b6⟩, hks, H⟩ := oB_ H;dsimp only at hks H;split at H
      case isFalse => cases H
      case isTrue hsz =>
      obtain ⟨⟨s7, p7, b7⟩, ht4, H⟩ := oB_ H;simp only [Option.some.injEq, Prod.mk.injEq] at H;obtain ⟨rfl, rfl, rfl, rfl⟩ := H;have Ht3 := A_ ht3;have Hks := A_ hks;have Ht4 := A_ ht4;have q1 : (9223372036854775807 < (⟨#[60, 47]⟩ : BA).size + nm.size) = False := eq_false (by have h2 : (⟨#[60, 47]⟩ : BA).size = 2 := rfl; omega);have q2 : (9223372036854775807 < (⟨#[60, 47]⟩ : BA).size + nm.size + (⟨#[62]⟩ : BA).size) = False := eq_false (by have h2 : (⟨#[60, 47]⟩ : BA).size = 2 := rfl; have h3 : (⟨#[62]⟩ : BA).size = 1 := rfl; omega);have q3 : (9223372036854775807 < 2 + nm.size) = False := eq_false om_;have q4 : (9223372036854775807 < 2 + nm.size + 1) = False := eq_false om_;clear ht3 hks ht4 hsz;go_wp2_with (first | (go_at_call 91; (with_reducible refine (spec_l19Take.calls g s3 p3 _ ⟨#[62]⟩ s5 p5 b5 w0 _ HE9.out.st HE9.out.bl Ht3.out).mono ?_); rintro e w10 ⟨rfl, hi, hb, hk⟩; have HEa := A_ (HE9.out.state hi hb hk); clear hi hb hk HE9; clear he0 hf0 hz0 hy0 he1 hf1 hz1 hy1 he2 hf2 hz2 hy2 he3 hf3 hz3 hy3 he4 hf4 hz4 hy4 he5 hf5 hz5 hy5 hc0 hc1 hc2 hg1 hg2; obtain ⟨he0, he1, he2, he3, he4, he5, hf0, hf1, hf2, hf3, hf4, hf5⟩ := bk6_ HEa.out.el; obtain ⟨hz0, hz1, hz2, hz3, hz4, hz5, hy0, hy1, hy2, hy3, hy4, hy5⟩ := bk6_ HEa.out.rs; have hc0 := cellS89_0 HEa.out.st.1; have hc1 := cellS89_1 HEa.out.st.1; have hc2 := cellS89_2 HEa.out.st.1; have hg1 := blk_frozen HEa.out.st.1 1; have hg2 := blk_frozen HEa.out.st.1 2) | (go_at_call 132; (with_reducible refine (hK_ m om_ g sp deep s5 p5 b5 ks s6 p6 b6 w0 _ HEa.out.st HEa.out.bl Hks.out).mono ?_); rintro e w11 ⟨v5, rfl, hs⟩; have HEb := A_ (HEa.out.state hs.st hs.bl hs.kp); have HEc := A_ (HEa.out.kids_ hs); obtain ⟨A5, c5, rfl⟩ := Kd.R_slice hs.nr; clear hs HEa; clear he0 hf0 hz0 hy0 he1 hf1 hz1 hy1 he2 hf2 hz2 hy2 he3 hf3 hz3 hy3 he4 hf4 hz4 hy4 he5 hf5 hz5 hy5 hc0 hc1 hc2 hg1 hg2; obtain ⟨he0, he1, he2, he3, he4, he5, hf0, hf1, hf2, hf3, hf4, hf5⟩ := bk6_ HEb.out.el; obtain ⟨hz0, hz1, hz2, hz3, hz4, hz5, hy0, hy1, hy2, hy3, hy4, hy5⟩ := bk6_ HEb.out.rs; have hc0 := cellS89_0 HEb.out.st.1; have hc1 := cellS89_1 HEb.out.st.1; have hc2 := cellS89_2 HEb.out.st.1; have hg1 := blk_frozen HEb.out.st.1 1; have hg2 := blk_frozen HEb.out.st.1 2) | (go_at_call 91; clear he0 hf0 hz0 hy0 he1 hf1 hz1 hy1 he2 hf2 hz2 hy2 he3 hf3 hz3 hy3 he4 hf4 hz4 hy4 he5 hf5 hz5 hy5 hc0 hc1 hc2 hg1 hg2; (with_reducible refine (spec_l19Take.calls g s6 p6 b6 ((⟨#[60, 47]⟩ ++ nm) ++ ⟨#[62]⟩) s7 p7 b7 w0 _ HEc.out.st HEc.out.bl Ht4.out).mono ?_); rintro e w12 ⟨rfl, hi, hb, hk⟩; have HEd := A_ (HEc.out.state hi hb hk); clear hi hb hk HEc; obtain ⟨he0, he1, he2, he3, he4, he5, hf0, hf1, hf2, hf3, hf4, hf5⟩ := bk6_ HEd.out.el; obtain ⟨hz0, hz1, hz2, hz3, hz4, hz5, hy0, hy1, hy2, hy3, hy4, hy5⟩ := bk6_ HEd.out.rs; have hc0 := cellS89_0 HEd.out.st.1; have hc1 := cellS89_1 HEd.out.st.1; have hc2 := cellS89_2 HEd.out.st.1; have hg1 := blk_frozen HEd.out.st.1 1; have hg2 := blk_frozen HEd.out.st.1 2))
      refine bodyPost_ret (results_single rfl (.cell gr 43 #[.int .i64 1, .int .i64 sp, .string nm, .slice A3 at_.length c3, .string ⟨#[]⟩, .slice A5 ks.length c5] (0, 0) _ rfl (blk_six HEd.out.rs _ _ _ _ _ _) hu rfl (by kernel_rfl) .nil)) rfl ?_;exact SEl_end (ok := (fun k_ => w.heap.size ≤ k_ ∧ k_ ≠ ge ∧ k_ ≠ gr)) HEd.out.st HEd.out.bl HEd.out.kp HEd.out.rs (k43_mkM _ _ _ ⟨1, sp, nm, at_, ⟨#[]⟩, ks⟩ HEd.out.ar HEd.out.kr) (fun k hk => ⟨hk.1, hk.2.2⟩) HEd.out.hr (Nat.ne_of_lt (Nat.lt_of_lt_of_le HEd.out.gl HEd.out.hr)) (Nat.le_trans HEd.out.g0 HEd.out.hr)
theorem sreader_all : ∀ k, SElC k ∧ SKidC k := by
 intro k;induction k using Nat.strongRecOn with
 | _ k ih =>
 refine ⟨?_, ?_⟩
 ·cases k with
  | zero => exact fun g about deep s p b r r2 r3 r4 w0 w _ _ h => by simp [sEl] at h
  | succ n => exact sel_step n (fun m hm => (ih m om_).2)
 ·exact skids_step k (fun m hm => (ih m hm).1)
def spec_l19El.f (k : Nat) (s : BA) (p : Int) (b : Bool) (about deep : Int) : Option (S43 × ByteArray × Int × Bool) := sEl k about deep s p b
theorem spec_l19El.mono : ∀ s p b about deep k, LeO (spec_l19El.f k s p b about deep) (spec_l19El.f (k + 1) s p b about deep) := fun _ _ _ _ _ k => (sEl_mono_all k).1 _ _ _ _ _
theorem spec_l19El.calls (k g : Nat) (about deep : Int) (s : BA) (p : Int) (b : Bool) (r : S43) (r2 : BA) (r3 : Int) (r4 : Bool) (w0 w : World) (hI : IsS89 w0 w g s p b) (hB : Below w0.heap.size w0 w) (h : spec_l19El.f k s p b about deep = some (r, r2, r3, r4)) :
  Calls Tryz.prog 84 #[.pointer (some ⟨g, 0, none⟩), .int .i64 about, .int .i64 deep] w (SElPost w0 w g r r2 r3 r4) := (sreader_all k).1 g about deep s p b r r2 r3 r4 w0 w hI hB h
end Go.Proofs.YtkmmoheeoblmnaaGreatDoor.A
