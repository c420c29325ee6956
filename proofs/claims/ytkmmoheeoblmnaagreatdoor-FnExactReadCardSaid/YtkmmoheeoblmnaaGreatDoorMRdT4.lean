-- joined by wip/tools/shake.py
import Derived.Test.YtkmmoheeoblmnaaGreatDoorVRdTW9
import Derived.Test.YtkmmoheeoblmnaaGreatDoorMRdT0
import Derived.Test.YtkmmoheeoblmnaaGreatDoorMRdT3
import Derived.Test.YtkmmoheeoblmnaaGreatDoorMRdT2
import Derived.Test.YtkmmoheeoblmnaaGreatDoorMRdT1
set_option maxHeartbeats 16000000
set_option maxRecDepth 100000
namespace Go.Proofs.YtkmmoheeoblmnaaGreatDoor.A
open Go.RowKit Go.Proofs.YtkmmoheeoblmnaaGreatDoorW.PrintWords Go.Proofs.YtkmmoheeoblmnaaGreatDoorW.PrintLast Go.Proofs.YtkmmoheeoblmnaaGreatDoorW.PrintMore
attribute [local go_sem] max2_int min2_int max_two min_two max_three min_three max_four min_four
set_option linter.unusedVariables false
set_option linter.unusedSimpArgs false
section
variable {P : Program} {ops : Array Oper} {o : Oper} {a : Act} {Q : Exit → Act → World → Prop} {Kc : Act → World → Prop}
theorem put_step {W : World} (hw : Region.wanted o (yielded ops a.tmps) = true) (hN : o.dst = none) (t : TypeId) (p x : Operand) (ho : o.op = .store t p x) {g o' : Nat} {u : Value} {seg : List Value} {cur : Array Value} {e : TypeId}
  (haddr : a.eval p = .pointer (some ⟨g, o', none⟩)) (hx : a.eval x = u) (hu : u.cells.toList = seg) (ht : (P.info? t).map (·.size) = some seg.length) (hh : W.heap[g]? = some (.cells cur e (0, 0))) (hl : o' + seg.length ≤ cur.size) (h1 : ∀ q ∈ seg, q.oneCell' = true)
  (h : Kc a (W.setCells g o' seg)) : if Region.wanted o (yielded ops a.tmps) = true then Oper.wp P o a W Kc Q else Kc (a.put none undef) W := by
 rw [if_pos hw];have hrun : (Instr.storeAt t (.pointer (some ⟨g, o', none⟩)) u).run P W = .ok () (W.setCells g o' seg) := run_store_run t u seg hh hu ht hl h1;unfold Oper.wp execOp;simp only [ho, haddr, hx, Sem.run_bind, Sem.run_pure, Result.andThen_ok, hrun];show Kc (a.put o.dst undef) _;rw [hN];exact h
theorem put_step2 {W : World} (hw : Region.wanted o (yielded ops a.tmps) = true) (hN : o.dst = none) (t : TypeId) (p x : Operand) (ho : o.op = .store t p x) {g : Nat} {u0 u1 a0 a1 : Value} {e : TypeId}
  (haddr : a.eval p = .pointer (some ⟨g, 0, none⟩)) (hx : a.eval x = .agg #[u0, u1]) (ht : (P.info? t).map (·.size) = some 2) (hh : W.heap[g]? = some (.cells #[a0, a1] e (0, 0))) (h0 : u0.oneCell' = true) (h1 : u1.oneCell' = true)
  (h : Kc a ((W.setCell ⟨g, 0, none⟩ u0).setCell ⟨g, 1, none⟩ u1)) : if Region.wanted o (yielded ops a.tmps) = true then Oper.wp P o a W Kc Q else Kc (a.put none undef) W :=
 put_step hw hN t p x ho haddr hx (seg := [u0, u1]) rfl ht hh si_ (by intro q hq; simp at hq; rcases hq with rfl | rfl <;> assumption) h
theorem put_step1 {W : World} (hw : Region.wanted o (yielded ops a.tmps) = true) (hN : o.dst = none) (t : TypeId) (p x : Operand) (ho : o.op = .store t p x) {g j : Nat} {u : Value} {cur : Array Value} {e : TypeId}
  (haddr : a.eval p = .pointer (some ⟨g, j, none⟩)) (hx : a.eval x = u) (hu : u.cells.toList = [u]) (ht : (P.info? t).map (·.size) = some 1) (hh : W.heap[g]? = some (.cells cur e (0, 0))) (hj : j + 1 ≤ cur.size) (h1 : u.oneCell' = true)
  (h : Kc a (W.setCell ⟨g, j, none⟩ u)) : if Region.wanted o (yielded ops a.tmps) = true then Oper.wp P o a W Kc Q else Kc (a.put none undef) W :=
 put_step hw hN t p x ho haddr hx (seg := [u]) hu ht hh hj (by intro q hq; simp at hq; rw [hq]; exact h1) h
end
theorem blk_two {w : World} {g : Nat} {t : TypeId} {a0 a1 : Value} (h : w.heap[g]? = some (.cells #[a0, a1] t (0, 0))) (u0 u1 : Value) :
  ((w.setCell ⟨g, 0, none⟩ u0).setCell ⟨g, 1, none⟩ u1).heap[g]? = some (.cells #[u0, u1] t (0, 0)) := blk_put (blk_put h 0 u0 rfl) 1 u1 rfl
theorem st_two {w0 w : World} {g gx : Nat} {s : BA} {p : Int} {b : Bool} (h : IsS93 w0 w g s p b) (hne : g ≠ gx) (u0 u1 : Value) :
  IsS93 w0 ((w.setCell ⟨gx, 0, none⟩ u0).setCell ⟨gx, 1, none⟩ u1) g s p b := (h.far (p := ⟨gx, 0, none⟩) hne u0).far (p := ⟨gx, 1, none⟩) hne u1
theorem below_two {w0 w : World} {gx : Nat} (h : Below w0.heap.size w0 w) (hg : w0.heap.size ≤ gx) (u0 u1 : Value) :
  Below w0.heap.size w0 ((w.setCell ⟨gx, 0, none⟩ u0).setCell ⟨gx, 1, none⟩ u1) := below_set (below_set h hg) hg
theorem keep_two {w W : World} {g gx : Nat} (h : KeepBut w W g none) (hg : w.heap.size ≤ gx) (u0 u1 : Value) :
  KeepBut w ((W.setCell ⟨gx, 0, none⟩ u0).setCell ⟨gx, 1, none⟩ u1) g none := keep_far (p := ⟨gx, 1, none⟩) (keep_far (p := ⟨gx, 0, none⟩) h hg u0) hg u1
def impl_reader_attr.f (k : Nat) (s : BA) (p : Int) (b : Bool) : Option (ByteArray × ByteArray × ByteArray × Int × Bool) :=
 if b = true then some (⟨#[]⟩, ⟨#[]⟩, s, p, true) else (impl_XmlAttr.f k s p).bind fun q => if q.2.2 < 0 then some (⟨#[]⟩, ⟨#[]⟩, s, p, true) else some (q.1, q.2.1, s, q.2.2, false)
theorem impl_reader_attr.mono : ∀ s p b k, LeO (impl_reader_attr.f k s p b) (impl_reader_attr.f (k + 1) s p b) := fun s p b k => LeO.ite (LeO.refl _) (LeO.bind (impl_XmlAttr.mono _ _ _) (fun _ => LeO.refl _))
theorem impl_reader_attr.calls (k : Nat) (g : Nat) (s : BA) (p : Int) (b : Bool) (r0 r1 r2 : BA) (r3 : Int) (r4 : Bool) (w0 w : World) (hI : IsS93 w0 w g s p b) (hB : Below w0.heap.size w0 w) (hL : LibOk w0) (hE : LibErr w0) (h : impl_reader_attr.f k s p b = some (r0, r1, r2, r3, r4)) :
  Calls Tryz.prog 172 #[.pointer (some ⟨g, 0, none⟩)] w fun e w' => e = .returned (.agg #[.string r0, .string r1]) ∧ IsS93 w0 w' g r2 r3 r4 ∧ Below w0.heap.size w0 w' ∧ KeepBut w w' g none := by
 unfold impl_reader_attr.f at h;have hu := Tryz.underlying36;have HH := A_ h;have HLL := A_ hL;have HEE := A_ hE;clear h hL hE;obtain ⟨W1, hW1⟩ : ∃ W1, W1 = w.alloc (.cells #[.string ⟨#[]⟩, .string ⟨#[]⟩] 36) := ⟨_, rfl⟩;have HI0 : As9 (IsS93 w0 W1 g s p b) := ⟨by rw [hW1]; exact hI.alloc _⟩;have HB0 : As9 (Below w0.heap.size w0 W1) := ⟨by rw [hW1]; exact bA9 hB _⟩;have HK0 : As9 (KeepBut w W1 g none) := ⟨by rw [hW1]; exact keep_alloc (KeepBut.refl w g none) _⟩;have HX0 : As9 (W1.heap[w.heap.size]? = some (.cells #[.string ⟨#[]⟩, .string ⟨#[]⟩] 36 (0, 0))) := ⟨by rw [hW1]; exact heap_alloc_new w _⟩;have HZ0 : As9 (w.heap.size < W1.heap.size) := ⟨by rw [hW1]; exact blk_lt (heap_alloc_new w _)⟩;obtain ⟨gx, hgx⟩ : ∃ gx, gx = w.heap.size := ⟨_, rfl⟩;rw [← hgx] at HX0 HZ0;have HGX : As9 (gx = w.heap.size ∧ g < gx) := ⟨hgx, by rw [hgx]; exact hI.lt⟩;have hne1 : (g = gx) = False := eq_false (Nat.ne_of_lt HGX.out.2);have hne2 : (gx = g) = False := eq_false (Nat.ne_of_gt HGX.out.2);obtain ⟨HG, hge⟩ := HI0.out;have hc0 := cellS93_0 HG;have hc1 := cellS93_1 HG;have hc2 := cellS93_2 HG;obtain ⟨hz0, hz1, hy0, hy1⟩ := bk2_ HX0.out;have hW2 : W1.heap.size = W1.heap.size := rfl;clear HG hge hB hI hW2;have hd2 : (w.alloc (.cells #[.string ⟨#[]⟩, .string ⟨#[]⟩] 36)).cell? ⟨g, 2, none⟩ = some (.bool b) := by rw [← hW1]; exact hc2
 go_enter Tryz.func172, Tryz.ntmps172
 cases b with
 | true =>
  have h := HH.out;rw [if_pos rfl] at h;simp only [Option.some.injEq, Prod.mk.injEq] at h;obtain ⟨rfl, rfl, rfl, rfl, rfl⟩ := h;go_wp2
  rw [← hW1, ← hgx];clear hW1 hgx;go_wp2
  refine bodyPost_ret (results_single rfl (.cell gx 36 #[.string ⟨#[]⟩, .string ⟨#[]⟩] (0, 0) _ rfl HX0.out hu rfl (by kernel_rfl) .nil)) rfl ?_;exact ⟨rfl, HI0.out, HB0.out, HK0.out⟩
 | false =>
  have h := HH.out;rw [if_neg si_] at h;obtain ⟨q, hq, h⟩ := oB_ h;have HQ := A_ hq;have H1 := A_ h;have HI1 : As9 (IsS93 w0 W1.drew g s p false) := ⟨HI0.out.drew⟩;have HB1 : As9 (Below w0.heap.size w0 W1.drew) := ⟨below_drew HB0.out⟩;have HK1 : As9 (KeepBut w W1.drew g none) := ⟨keep_drew HK0.out⟩;have HX1 : As9 (W1.drew.heap[gx]? = some (.cells #[.string ⟨#[]⟩, .string ⟨#[]⟩] 36 (0, 0))) := ⟨HX0.out⟩;have HZ1 : As9 (gx < W1.drew.heap.size) := ⟨HZ0.out⟩;clear h hq HH HI0 HB0 HK0 HX0 HZ0;go_wp2
  rw [← hW1, ← hgx];clear hW1 hgx;go_wp2
  clear hz0 hz1 hy0 hy1 hc2 hd2;refine start_ (n := 15) (S := fun w' => w'.cell? ⟨g, 0, none⟩ = some (.string s) ∧ w'.cell? ⟨g, 1, none⟩ = some (.int .i64 p)) (ds := [13]) (tS 15 0) (by kernel_rfl) rfl rfl ⟨hc0, hc1⟩ (fun hHeld => ?_);generalize World.drew _ = wr0 at HI1 HB1 HK1 HX1 HZ1 hHeld ⊢;iterate 3 refine pq_ ?_
  refine pg_ 4 (tB 15 23) ?_;refine pg_ 5 (tB 15 55) ?_;refine pg_ 6 (tB 15 119) ?_;refine tg_ 3 (tS 15 7) rfl (by rintro w' ⟨s0, s1⟩; go_simp; with_reducible rfl) ?_;refine tq_ rfl (by rintro w' ⟨s0, s1⟩; go_simp; with_reducible rfl) ?_;refine two_ (i := 8) (j := 12) (Ni := some 19) (Nj := some 3) (tS 15 9) (tB 15 4351) rfl rfl rfl rfl (by kernel_rfl) de_ de_ (fun K hK => ?_) (fun K hK => ?_)
  ·skip
   refine gS_ Tryz.func25 #[.string s, .int .i64 p] ?_;with_reducible refine (impl_XmlAttr.calls k s p q.1 q.2.1 q.2.2 _ (HLL.out.below HB1.out) (HEE.out.below HB1.out) HQ.out).mono ?_
   rintro e wr8 ⟨rfl, hb⟩;refine ⟨_, rfl, ?_⟩;have n1_ := A_ (HI1.out.below hb);have n2_ := A_ (below_step HB1.out hb);have n3_ := A_ (HK1.out.trans (KeepBut.of_below hb g none) (.inl rfl));have n4_ := A_ (blk_below HX1.out hb);have n5_ := A_ (Nat.lt_of_lt_of_le HZ1.out hb.size);(try (have n6_ := A_ (blk_below HA.out hb); clear HA; have HA := n6_; clear n6_))
   clear hb HI1 HB1 HK1 HX1 HZ1;have HI1 := n1_;have HB1 := n2_;have HK1 := n3_;have HX1 := n4_;have HZ1 := n5_;clear n1_ n2_ n3_ n4_ n5_;refine hK.out _ _ ⟨cellS93_0 HI1.out.1, cellS93_1 HI1.out.1⟩ (fun hHeld => ?_);clear hK K;refine nm_ ?_;iterate 3 refine pq_ ?_
   refine n1_ 12 (tS 15 13) rfl fun K hK => ?_
   refine box_step ?hg (N := 3) ?hd (cs := #[.string ⟨#[]⟩, .string ⟨#[]⟩]) (t := 36) ?hr ?_; (case hd => rfl); (case hg => rfl); (case hr => first | (go_simp; done) | (go_simp; rfl));intro ga hga wr12 hbox hb;have HGA := A_ (show gx < ga from by rw [hga]; exact HZ1.out);have HA := A_ hbox;have n1_ := A_ (HI1.out.below hb);have n2_ := A_ (below_step HB1.out hb);have n3_ := A_ (HK1.out.trans (KeepBut.of_below hb g none) (.inl rfl));have n4_ := A_ (blk_below HX1.out hb);have n5_ := A_ (Nat.lt_of_lt_of_le HZ1.out hb.size);clear hb hga hbox HI1 HB1 HK1 HX1 HZ1;have HI1 := n1_;have HB1 := n2_;have HK1 := n3_;have HX1 := n4_;have HZ1 := n5_;clear n1_ n2_ n3_ n4_ n5_;refine hK.out _ _ ⟨cellS93_0 HI1.out.1, cellS93_1 HI1.out.1⟩ (fun hHeld => ?_);clear hK K;refine nm_ ?_;refine last_ (i := 13) (N := none) (tS 15 14) rfl rfl (by kernel_rfl) de_ (fun K hK => ?_);refine put_step2 ?hw ?hN 36 (.tmp 3) (.tmp 20) ?ho (g := ga) (u0 := .string q.1) (u1 := .string q.2.1) ?ha ?hx (by kernel_rfl) HA.out rfl rfl ?_; (case hw => rfl); (case hN => rfl); (case ho => rfl); (case ha => rfl); (case hx => rfl);replace HA := A_ (blk_two HA.out (.string q.1) (.string q.2.1));replace HB1 := A_ (below_two HB1.out (Nat.le_trans HI1.out.2 (Nat.le_of_lt (Nat.lt_trans HGX.out.2 HGA.out))) (.string q.1) (.string q.2.1));replace HI1 := A_ (st_two HI1.out (Nat.ne_of_lt (Nat.lt_trans HGX.out.2 HGA.out)) (.string q.1) (.string q.2.1));replace HK1 := A_ (keep_two HK1.out (by rw [← HGX.out.1]; exact Nat.le_of_lt HGA.out) (.string q.1) (.string q.2.1));replace HX1 := A_ (blk_far (blk_far HX1.out (p := ⟨ga, 0, none⟩) (Nat.ne_of_lt HGA.out) (.string q.1)) (p := ⟨ga, 1, none⟩) (Nat.ne_of_lt HGA.out) (.string q.2.1));refine hK.out _ _ ?_;clear hK K;refine pq_ ?_;refine done_ (by kernel_rfl) ?_;generalize hwe : World.setCell _ _ _ = we at HA HI1 HB1 HK1 HX1 ⊢;clear hwe;have he1 : (g = ga) = False := eq_false (Nat.ne_of_lt (Nat.lt_trans HGX.out.2 HGA.out));have he2 : (ga = g) = False := eq_false (Nat.ne_of_gt (Nat.lt_trans HGX.out.2 HGA.out));have he3 : (gx = ga) = False := eq_false (Nat.ne_of_lt HGA.out);have he4 : (ga = gx) = False := eq_false (Nat.ne_of_gt HGA.out);obtain ⟨HG, hge⟩ := HI1.out;have hc0' := cellS93_0 HG;have hc1' := cellS93_1 HG;have hc2' := cellS93_2 HG;have hf1 := blk_frozen HG 1;have hf2 := blk_frozen HG 2;clear HG hge;obtain ⟨hz0, hz1, hy0, hy1⟩ := bk2_ HX1.out;obtain ⟨ha0, ha1⟩ := bc2_ HA.out;have h := H1.out;by_cases c : q.2.2 < 0
   case pos =>
    rw [if_pos c] at h;simp only [Option.some.injEq, Prod.mk.injEq] at h;obtain ⟨rfl, rfl, rfl, rfl, rfl⟩ := h;go_wp2
    refine bodyPost_ret (results_single rfl (.cell gx 36 #[.string ⟨#[]⟩, .string ⟨#[]⟩] (0, 0) _ rfl (blk_two (blk_far HX1.out (p := ⟨g, 2, none⟩) (Nat.ne_of_gt HGX.out.2) _) _ _) hu rfl (by kernel_rfl) .nil)) rfl ?_;exact ⟨rfl, st_two (HI1.out.set_2 _) (Nat.ne_of_lt HGX.out.2) _ _, below_two (below_set HB1.out HI1.out.2) (Nat.le_trans HI1.out.2 (Nat.le_of_lt HGX.out.2)) _ _, keep_two (HK1.out.set_ _ _) (Nat.le_of_eq HGX.out.1.symm) _ _⟩
   case neg =>
    rw [if_neg c] at h;simp only [Option.some.injEq, Prod.mk.injEq] at h;obtain ⟨rfl, rfl, rfl, rfl, rfl⟩ := h;go_wp2
    refine bodyPost_ret (results_single rfl (.cell gx 36 #[.string q.1, .string q.2.1] (0, 0) _ rfl (blk_two (blk_far HX1.out (p := ⟨g, 1, none⟩) (Nat.ne_of_gt HGX.out.2) _) _ _) hu rfl (by kernel_rfl) .nil)) rfl ?_;exact ⟨rfl, st_two (HI1.out.set_1 _) (Nat.ne_of_lt HGX.out.2) _ _, below_two (below_set HB1.out HI1.out.2) (Nat.le_trans HI1.out.2 (Nat.le_of_lt HGX.out.2)) _ _, keep_two (HK1.out.set_ _ _) (Nat.le_of_eq HGX.out.1.symm) _ _⟩
  ·skip
   refine box_step ?hg (N := 3) ?hd (cs := #[.string ⟨#[]⟩, .string ⟨#[]⟩]) (t := 36) ?hr ?_; (case hd => rfl); (case hg => rfl); (case hr => first | (go_simp; done) | (go_simp; rfl));intro ga hga wr12 hbox hb;have HGA := A_ (show gx < ga from by rw [hga]; exact HZ1.out);have HA := A_ hbox;have n1_ := A_ (HI1.out.below hb);have n2_ := A_ (below_step HB1.out hb);have n3_ := A_ (HK1.out.trans (KeepBut.of_below hb g none) (.inl rfl));have n4_ := A_ (blk_below HX1.out hb);have n5_ := A_ (Nat.lt_of_lt_of_le HZ1.out hb.size);clear hb hga hbox HI1 HB1 HK1 HX1 HZ1;have HI1 := n1_;have HB1 := n2_;have HK1 := n3_;have HX1 := n4_;have HZ1 := n5_;clear n1_ n2_ n3_ n4_ n5_;refine hK.out _ _ ⟨cellS93_0 HI1.out.1, cellS93_1 HI1.out.1⟩ (fun hHeld => ?_);clear hK K;refine nm_ ?_;refine n1_ 8 (tB 15 4607) rfl fun K hK => ?_
   refine gS_ Tryz.func25 #[.string s, .int .i64 p] ?_;with_reducible refine (impl_XmlAttr.calls k s p q.1 q.2.1 q.2.2 _ (HLL.out.below HB1.out) (HEE.out.below HB1.out) HQ.out).mono ?_
   rintro e wr8 ⟨rfl, hb⟩;refine ⟨_, rfl, ?_⟩;have n1_ := A_ (HI1.out.below hb);have n2_ := A_ (below_step HB1.out hb);have n3_ := A_ (HK1.out.trans (KeepBut.of_below hb g none) (.inl rfl));have n4_ := A_ (blk_below HX1.out hb);have n5_ := A_ (Nat.lt_of_lt_of_le HZ1.out hb.size);(try (have n6_ := A_ (blk_below HA.out hb); clear HA; have HA := n6_; clear n6_))
   clear hb HI1 HB1 HK1 HX1 HZ1;have HI1 := n1_;have HB1 := n2_;have HK1 := n3_;have HX1 := n4_;have HZ1 := n5_;clear n1_ n2_ n3_ n4_ n5_;refine hK.out _ _ ⟨cellS93_0 HI1.out.1, cellS93_1 HI1.out.1⟩ (fun hHeld => ?_);clear hK K;refine nm_ ?_;refine pg_ 9 (tB 15 5119) ?_;refine pg_ 10 (tB 15 6143) ?_;refine pg_ 11 (tS 15 13) ?_;refine last_ (i := 13) (N := none) (tS 15 14) rfl rfl (by kernel_rfl) de_ (fun K hK => ?_);refine put_step2 ?hw ?hN 36 (.tmp 3) (.tmp 20) ?ho (g := ga) (u0 := .string q.1) (u1 := .string q.2.1) ?ha ?hx (by kernel_rfl) HA.out rfl rfl ?_; (case hw => rfl); (case hN => rfl); (case ho => rfl); (case ha => rfl); (case hx => rfl);replace HA := A_ (blk_two HA.out (.string q.1) (.string q.2.1));replace HB1 := A_ (below_two HB1.out (Nat.le_trans HI1.out.2 (Nat.le_of_lt (Nat.lt_trans HGX.out.2 HGA.out))) (.string q.1) (.string q.2.1));replace HI1 := A_ (st_two HI1.out (Nat.ne_of_lt (Nat.lt_trans HGX.out.2 HGA.out)) (.string q.1) (.string q.2.1));replace HK1 := A_ (keep_two HK1.out (by rw [← HGX.out.1]; exact Nat.le_of_lt HGA.out) (.string q.1) (.string q.2.1));replace HX1 := A_ (blk_far (blk_far HX1.out (p := ⟨ga, 0, none⟩) (Nat.ne_of_lt HGA.out) (.string q.1)) (p := ⟨ga, 1, none⟩) (Nat.ne_of_lt HGA.out) (.string q.2.1));refine hK.out _ _ ?_;clear hK K;refine pq_ ?_;refine done_ (by kernel_rfl) ?_;generalize hwe : World.setCell _ _ _ = we at HA HI1 HB1 HK1 HX1 ⊢;clear hwe;have he1 : (g = ga) = False := eq_false (Nat.ne_of_lt (Nat.lt_trans HGX.out.2 HGA.out));have he2 : (ga = g) = False := eq_false (Nat.ne_of_gt (Nat.lt_trans HGX.out.2 HGA.out));have he3 : (gx = ga) = False := eq_false (Nat.ne_of_lt HGA.out);have he4 : (ga = gx) = False := eq_false (Nat.ne_of_gt HGA.out);obtain ⟨HG, hge⟩ := HI1.out;have hc0' := cellS93_0 HG;have hc1' := cellS93_1 HG;have hc2' := cellS93_2 HG;have hf1 := blk_frozen HG 1;have hf2 := blk_frozen HG 2;clear HG hge;obtain ⟨hz0, hz1, hy0, hy1⟩ := bk2_ HX1.out;obtain ⟨ha0, ha1⟩ := bc2_ HA.out;have h := H1.out;by_cases c : q.2.2 < 0
   case pos =>
    rw [if_pos c] at h;simp only [Option.some.injEq, Prod.mk.injEq] at h;obtain ⟨rfl, rfl, rfl, rfl, rfl⟩ := h;go_wp2
    refine bodyPost_ret (results_single rfl (.cell gx 36 #[.string ⟨#[]⟩, .string ⟨#[]⟩] (0, 0) _ rfl (blk_two (blk_far HX1.out (p := ⟨g, 2, none⟩) (Nat.ne_of_gt HGX.out.2) _) _ _) hu rfl (by kernel_rfl) .nil)) rfl ?_;exact ⟨rfl, st_two (HI1.out.set_2 _) (Nat.ne_of_lt HGX.out.2) _ _, below_two (below_set HB1.out HI1.out.2) (Nat.le_trans HI1.out.2 (Nat.le_of_lt HGX.out.2)) _ _, keep_two (HK1.out.set_ _ _) (Nat.le_of_eq HGX.out.1.symm) _ _⟩
   case neg =>
    rw [if_neg c] at h;simp only [Option.some.injEq, Prod.mk.injEq] at h;obtain ⟨rfl, rfl, rfl, rfl, rfl⟩ := h;go_wp2
    refine bodyPost_ret (results_single rfl (.cell gx 36 #[.string q.1, .string q.2.1] (0, 0) _ rfl (blk_two (blk_far HX1.out (p := ⟨g, 1, none⟩) (Nat.ne_of_gt HGX.out.2) _) _ _) hu rfl (by kernel_rfl) .nil)) rfl ?_;exact ⟨rfl, st_two (HI1.out.set_1 _) (Nat.ne_of_lt HGX.out.2) _ _, below_two (below_set HB1.out HI1.out.2) (Nat.le_trans HI1.out.2 (Nat.le_of_lt HGX.out.2)) _ _, keep_two (HK1.out.set_ _ _) (Nat.le_of_eq HGX.out.1.symm) _ _⟩
end Go.Proofs.YtkmmoheeoblmnaaGreatDoor.A
namespace Go.Proofs.YtkmmoheeoblmnaaGreatDoor.A
open Go.RowKit Go.Proofs.YtkmmoheeoblmnaaGreatDoorW.PrintWords Go.Proofs.YtkmmoheeoblmnaaGreatDoorW.PrintLast Go.Proofs.YtkmmoheeoblmnaaGreatDoorW.PrintMore
attribute [local go_sem] max2_int min2_int max_two min_two max_three min_three max_four min_four
set_option linter.unusedVariables false
set_option linter.unusedSimpArgs false
structure Sat (w0 w W : World) (g : Nat) (s : BA) (p : Int) (b : Bool) (v : Value) (out : List S36) : Prop where
 st : IsS89 w0 W g s p b
 nr : k36.R 36 W w0.heap.size (fun k_ => w.heap.size ≤ k_) v out
 bl : Below w0.heap.size w0 W
 kp : KeepBut w W g none
 gl : g < w.heap.size
theorem Sat.state {w0 w W W' : World} {g : Nat} {s s' : BA} {p p' : Int} {b b' : Bool} {v : Value} {out : List S36} (h : Sat w0 w W g s p b v out) (hi : IsS89 w0 W' g s' p' b') (hb : Below w0.heap.size w0 W') (hk : KeepBut W W' g none) : Sat w0 w W' g s' p' b' v out :=
 ⟨hi, Kd.R_keep h.nr hk (fun k hk => by have := h.gl; omega), hb, h.kp.trans hk (.inl rfl), h.gl⟩
theorem Sat.below {w0 w W W' : World} {g : Nat} {s : BA} {p : Int} {b : Bool} {v : Value} {out : List S36} (h : Sat w0 w W g s p b v out) (hb : Below W.heap.size W W') : Sat w0 w W' g s p b v out := h.state (h.st.below hb) (below_step h.bl hb) (KeepBut.of_below hb g none)
theorem Sat.ok_ {w0 w W : World} {g : Nat} {s : BA} {p : Int} {b : Bool} {v : Value} {out : List S36} (h : Sat w0 w W g s p b v out) (x : Bool) : Sat w0 w (W.setCell ⟨g, 2, none⟩ (.bool x)) g s p x v out := h.state (h.st.set_2 x) (below_set h.bl h.st.2) ((KeepBut.refl W g none).set_ 2 _)
theorem Sat.at_ {w0 w W : World} {g : Nat} {s : BA} {p : Int} {b : Bool} {v : Value} {out : List S36} (h : Sat w0 w W g s p b v out) (x : Int) : Sat w0 w (W.setCell ⟨g, 1, none⟩ (.int .i64 x)) g s x b v out := h.state (h.st.set_1 x) (below_set h.bl h.st.2) ((KeepBut.refl W g none).set_ 1 _)
theorem Sat.app {w0 w W W' : World} {g : Nat} {s : BA} {p : Int} {b : Bool} {v v' : Value} {out : List S36} (h : Sat w0 w W g s p b v out) {x : S36} (ho : k36.R 36 W' w0.heap.size (fun k_ => w.heap.size ≤ k_) v' (out ++ [x])) (hb : Below w0.heap.size w0 W') (hg : W.grownBy W' v.ownBlock) : Sat w0 w W' g s p b v' (out ++ [x]) :=
 ⟨h.st.grown hg (h.st.own_ne h.nr de_), ho, hb, h.kp.trans (KeepBut.of_grown hg g) (by
  cases hv : v.ownBlock with
  | none => exact .inl rfl
  | some k => exact .inr ⟨k, rfl, h.nr.1 k hv⟩), h.gl⟩
theorem Sat.two_ {w0 w W : World} {g : Nat} {s : BA} {p : Int} {b : Bool} {v : Value} {out : List S36} (h : Sat w0 w W g s p b v out) {ga : Nat} (h1 : w.heap.size ≤ ga) (h2 : g < ga) (h3 : ∀ k, v.ownBlock = some k → k < ga) (u0 u1 : Value) : Sat w0 w ((W.setCell ⟨ga, 0, none⟩ u0).setCell ⟨ga, 1, none⟩ u1) g s p b v out := by
 have hk : KeepBut W ((W.setCell ⟨ga, 0, none⟩ u0).setCell ⟨ga, 1, none⟩ u1) ga none := ((KeepBut.refl W ga none).set_ 0 _).set_ 1 _;refine ⟨(h.st.far (p := ⟨ga, 0, none⟩) (Nat.ne_of_lt h2) _).far (p := ⟨ga, 1, none⟩) (Nat.ne_of_lt h2) _, ?_, below_set (below_set h.bl (Nat.le_trans h.st.2 (Nat.le_of_lt h2))) (Nat.le_trans h.st.2 (Nat.le_of_lt h2)), keep_far (p := ⟨ga, 1, none⟩) (keep_far (p := ⟨ga, 0, none⟩) h.kp h1 _) h1 _, h.gl⟩;exact Kd.R_mono (Kd.R_keep (g := ga) (Kd.R_flat (ok' := fun k => w.heap.size ≤ k ∧ k ≠ ga) (fun hx => by rw [k36_openM hx]; exact k36_mkM _ _ _ _) h.nr (fun k hk ho => ⟨ho, fun e => by have := h3 k hk; omega⟩)) hk (fun k hk => hk.2)) (fun k hk => hk.1)
def sexit (s : BA) (p : Int) (b : Bool) (out : List S36) (sp : Int) : Option (List S36 × Int × ByteArray × Int × Bool) := (spec_l1In.f sp 0 2).bind fun r => some (out, sp, s, p, if r = true then b else false)
def sattrsL : Nat → Int → ByteArray → Int → Bool → List S36 → Int → Bool → Option (List S36 × Int × ByteArray × Int × Bool)
 | 0, _, _, _, _, _, _, _ => none
 | n + 1, about, s, p, b, out, sp, told =>
  if b = true then (if p < (s.size : Int) then (if 0 ≤ p then (if bt s p = 32 then
   (spec_XmlAttr.f n s (wrap64 (p + 1))).bind fun a => if a.2.2 < 0 then some (out, sp, s, p, false) else
    (spec_l4Has.f n out a.1).bind fun hb => if hb = true then some (out, sp, s, p, false) else
    (if a.1.toList = [120, 109, 108, 110, 115] then (if told = true then some (out, sp, s, p, false) else (spec_l19Space.f n a.2.1).bind fun x => sattrsL n about s a.2.2 (!decide (x = about)) out x true)
    else (if out.length < 4398046511104 then sattrsL n about s a.2.2 true (out ++ [⟨a.1, a.2.1⟩]) sp told else none))
  else sexit s p b out sp) else none) else sexit s p b out sp) else sexit s p b out sp
theorem sattrsL_mono : ∀ k y0 y1 y2 y3 y4 y5 y6, LeO (sattrsL k y0 y1 y2 y3 y4 y5 y6) (sattrsL (k + 1) y0 y1 y2 y3 y4 y5 y6)
 | 0 => fun _ _ _ _ _ _ _ r h => by simp [sattrsL] at h
 | k + 1 => by
  have ih := sattrsL_mono k;intro y0 y1 y2 y3 y4 y5 y6;rw [sattrsL, sattrsL];exact LeO.ite (LeO.ite (LeO.ite (LeO.ite (LeO.bind (spec_XmlAttr.mono _ _ _) fun a => LeO.ite (LeO.refl _) (LeO.bind (spec_l4Has.mono _ _ _) fun hb => LeO.ite (LeO.refl _) (LeO.ite (LeO.ite (LeO.refl _) (LeO.bind (spec_l19Space.mono _ _) fun x => ih _ _ _ _ _ _ _)) (LeO.ite (ih _ _ _ _ _ _ _) (LeO.refl _))))) (LeO.refl _)) (LeO.refl _)) (LeO.refl _)) (LeO.refl _)
def spec_l19Attrs.f (k : Nat) (s : BA) (p : Int) (b : Bool) (about : Int) : Option (List S36 × Int × ByteArray × Int × Bool) := sattrsL k about s p b [] about false
theorem spec_l19Attrs.mono : ∀ s p b about k, LeO (spec_l19Attrs.f k s p b about) (spec_l19Attrs.f (k + 1) s p b about) := fun _ _ _ _ k => sattrsL_mono k _ _ _ _ _ _ _
theorem spec_l19Attrs.calls (k g : Nat) (s : BA) (p : Int) (b : Bool) (about : Int) (r0 : List S36) (r1 : Int) (r2 : BA) (r3 : Int) (r4 : Bool) (w0 w : World) (hI : IsS89 w0 w g s p b) (hB : Below w0.heap.size w0 w) (h : spec_l19Attrs.f k s p b about = some (r0, r1, r2, r3, r4)) :
  Calls Tryz.prog 131 #[.pointer (some ⟨g, 0, none⟩), .int .i64 about] w fun e w' => ∃ v, e = .returned (.tuple #[v, .int .i64 r1]) ∧ Sat w0 w w' g r2 r3 r4 v r0 := by
 have hu := Tryz.underlying36;have HF : As9 (sattrsL k about s p b [] about false = some (r0, r1, r2, r3, r4)) := ⟨h⟩;have HI := A_ hI;have HB := A_ hB;clear h hI hB;go_enter Tryz.func131, Tryz.ntmps131
 go_wp2_with ((with_reducible refine gate_dst (N := 11) rfl ?_); refine Kd.R_lit (w0 := w0) k36 w0.heap.size 36 ?hg (N := 11) ?hd (xs := ([] : List S36)) (inner := []) (ok := fun k_ => w.heap.size ≤ k_) (okp := fun _ => False) ?hr ?hp (fun _ hk => hk.elim) (Nat.le_refl _) HB.out HB.out.size si_ ?_; (case hd => rfl); (case hg => rfl); (case hr => first | (go_simp; done) | (go_simp; rfl)); (case hp => exact (Reps.none _ _)); intro v11 w2 ho hb hg_ hnew_; have HT := A_ (show Sat w0 w w2 g s p b v11 [] from ⟨HI.out.grown hg_ si_, ho, hb, KeepBut.of_grown hg_ g, HI.out.lt⟩); clear ho hb hg_ hnew_ HI HB)
 go_loopg [6, 7, 8] k (fun kq v6 v7 v8 wr => ∃ (out : List S36) (sp : Int) (told : Bool) (s : BA) (p : Int) (b : Bool), v7 = .int .i64 sp ∧ v8 = .bool told ∧ As9 (sattrsL kq about s p b out sp told = some (r0, r1, r2, r3, r4)) ∧ As9 (Sat w0 w wr g s p b v6 out))
 case atStart => exact ⟨[], about, false, s, p, b, rfl, rfl, HF, HT⟩
 case round =>
  clear HF HT;obtain ⟨out, sp, told, s, p, b, rfl, rfl, HA, HT⟩ := hrel;cases gk with
  | zero => exact absurd HA.out (by simp [sattrsL])
  | succ n =>
  have H := HA.out;clear HA;simp only [sattrsL] at H;obtain ⟨An, cn, rfl⟩ := Kd.R_slice HT.out.nr;have hc0 := cellS89_0 HT.out.st.1;have hc1 := cellS89_1 HT.out.st.1;have hc2 := cellS89_2 HT.out.st.1;cases b with
  | false =>
   rw [if_neg si_] at H;go_wp2
   go_quiet (fail)
   generalize hW : World.drewN wr nq = wx;have HT2 : As9 (Sat w0 w wx g s p false (.slice An out.length cn) out) := ⟨by rw [← hW]; exact HT.out.below (bN9 (Below.refl _ _) _)⟩;clear hW HT hc0 hc1 hc2;unfold sexit at H;obtain ⟨r, hr, H⟩ := oB_ H;simp only [Option.some.injEq, Prod.mk.injEq] at H;obtain ⟨rfl, rfl, rfl, rfl, rfl⟩ := H;have Hr := A_ hr;clear hr;cases r with
   | true =>
    go_wp2_with ((go_at_call 111; (with_reducible refine (spec_l1In.calls sp 0 2 true _ Hr.out).mono ?_); rintro e w2 ⟨rfl, hd⟩; have HT3 := A_ (HT2.out.below hd.below); clear hd HT2))
    go_ret2
    exact ⟨_, rfl, HT3.out⟩
   | false =>
    go_wp2_with ((go_at_call 111; (with_reducible refine (spec_l1In.calls sp 0 2 false _ Hr.out).mono ?_); rintro e w2 ⟨rfl, hd⟩; have HT3 := A_ (HT2.out.below hd.below); clear hd HT2; have hz2 := cellS89_2 HT3.out.st.1; have hf2 := blk_frozen HT3.out.st.1 2))
    go_ret2
    exact ⟨_, rfl, HT3.out.ok_ false⟩
  | true =>
   rw [if_pos rfl] at H;by_cases hlt : p < (s.size : Int)
   case neg =>
    rw [if_neg hlt] at H;have q8 := eq_false hlt;have q9 : decide (p < (s.size : Int)) = false := dF_ hlt;go_wp2
    go_quiet (fail)
    generalize hW : World.drewN wr nq = wx;have HT2 : As9 (Sat w0 w wx g s p true (.slice An out.length cn) out) := ⟨by rw [← hW]; exact HT.out.below (bN9 (Below.refl _ _) _)⟩;clear hW HT hc0 hc1 hc2;unfold sexit at H;obtain ⟨r, hr, H⟩ := oB_ H;simp only [Option.some.injEq, Prod.mk.injEq] at H;obtain ⟨rfl, rfl, rfl, rfl, rfl⟩ := H;have Hr := A_ hr;clear hr;cases r with
    | true =>
     go_wp2_with ((go_at_call 111; (with_reducible refine (spec_l1In.calls sp 0 2 true _ Hr.out).mono ?_); rintro e w2 ⟨rfl, hd⟩; have HT3 := A_ (HT2.out.below hd.below); clear hd HT2))
     go_ret2
     exact ⟨_, rfl, HT3.out⟩
    | false =>
     go_wp2_with ((go_at_call 111; (with_reducible refine (spec_l1In.calls sp 0 2 false _ Hr.out).mono ?_); rintro e w2 ⟨rfl, hd⟩; have HT3 := A_ (HT2.out.below hd.below); clear hd HT2; have hz2 := cellS89_2 HT3.out.st.1; have hf2 := blk_frozen HT3.out.st.1 2))
     go_ret2
     exact ⟨_, rfl, HT3.out.ok_ false⟩
   case pos =>
   rw [if_pos hlt] at H;by_cases h0 : 0 ≤ p
   case neg => rw [if_neg h0] at H; cases H
   case pos =>
   rw [if_pos h0] at H;have p7 := eq_true h0;have q7 := eq_true hlt;have hx := bt_at s p;by_cases hc : bt s p = 32
   case neg =>
    have hcb : (bt s p == 32) = false := bN_ hc;rw [if_neg hc] at H;go_wp2
    go_quiet (fail)
    generalize hW : World.drewN wr nq = wx;have HT2 : As9 (Sat w0 w wx g s p true (.slice An out.length cn) out) := ⟨by rw [← hW]; exact HT.out.below (bN9 (Below.refl _ _) _)⟩;clear hW HT hc0 hc1 hc2;unfold sexit at H;obtain ⟨r, hr, H⟩ := oB_ H;simp only [Option.some.injEq, Prod.mk.injEq] at H;obtain ⟨rfl, rfl, rfl, rfl, rfl⟩ := H;have Hr := A_ hr;clear hr;cases r with
    | true =>
     go_wp2_with ((go_at_call 111; (with_reducible refine (spec_l1In.calls sp 0 2 true _ Hr.out).mono ?_); rintro e w2 ⟨rfl, hd⟩; have HT3 := A_ (HT2.out.below hd.below); clear hd HT2))
     go_ret2
     exact ⟨_, rfl, HT3.out⟩
    | false =>
     go_wp2_with ((go_at_call 111; (with_reducible refine (spec_l1In.calls sp 0 2 false _ Hr.out).mono ?_); rintro e w2 ⟨rfl, hd⟩; have HT3 := A_ (HT2.out.below hd.below); clear hd HT2; have hz2 := cellS89_2 HT3.out.st.1; have hf2 := blk_frozen HT3.out.st.1 2))
     go_ret2
     exact ⟨_, rfl, HT3.out.ok_ false⟩
   case pos =>
    have hcb : (bt s p == 32) = true := bQ_ hc;rw [if_pos hc] at H;go_wp2
    go_quiet (fail)
    generalize hW : World.drewN wr nq = wx;have HT2 : As9 (Sat w0 w wx g s p true (.slice An out.length cn) out) := ⟨by rw [← hW]; exact HT.out.below (bN9 (Below.refl _ _) _)⟩;clear hW HT hc0 hc1 hc2;obtain ⟨⟨nm, av, nx⟩, ha, H⟩ := oB_ H;dsimp only at H;have Ha := A_ ha;have HH := A_ H;clear ha H p7 q7 hx hcb hc;go_wp2
    have HTd := A_ (HT2.out.below (below_drew (Below.refl _ _)));clear HT2;refine start_ (n := 16) (S := fun w' => w'.cell? ⟨g, 0, none⟩ = some (.string s) ∧ w'.cell? ⟨g, 1, none⟩ = some (.int .i64 p)) (ds := [14]) (tS 16 0) (by kernel_rfl) rfl rfl ⟨cellS89_0 HTd.out.st.1, cellS89_1 HTd.out.st.1⟩ (fun hHeld => ?_);generalize World.drew _ = wr0 at HTd hHeld ⊢;iterate 3 refine pq_ ?_
    refine pg_ 4 (tB 16 23) ?_;refine pg_ 5 (tB 16 55) ?_;refine pg_ 6 (tB 16 119) ?_;refine tg_ 3 (tS 16 7) rfl (by rintro w' ⟨s0, s1⟩; go_simp; with_reducible rfl) ?_;refine tq_ rfl (by rintro w' ⟨s0, s1⟩; go_simp; with_reducible rfl) ?_;refine pq_ ?_;refine two_ (i := 9) (j := 13) (Ni := some 51) (Nj := some 9) (tS 16 10) (tB 16 8703) rfl rfl rfl rfl (by kernel_rfl) de_ de_ (fun K hK => ?_) (fun K hK => ?_)
    ·skip
     refine gS_ Tryz.func26 #[.string s, .int .i64 (wrap64 (p + 1))] ?_;with_reducible refine (spec_XmlAttr.calls n s (wrap64 (p + 1)) nm av nx _ Ha.out).mono ?_
     rintro e wr9 ⟨rfl, hb⟩;refine ⟨_, rfl, ?_⟩;have n1_ := A_ (HTd.out.below hb);(try (have n6_ := A_ (blk_below HA.out hb); clear HA; have HA := n6_; clear n6_))
     clear hb HTd;have HTd := n1_;clear n1_;refine hK.out _ _ ⟨cellS89_0 HTd.out.st.1, cellS89_1 HTd.out.st.1⟩ (fun hHeld => ?_);clear hK K;refine nm_ ?_;iterate 3 refine pq_ ?_
     refine n1_ 13 (tS 16 14) rfl fun K hK => ?_
     refine box_step ?hg (N := 9) ?hd (cs := #[.string ⟨#[]⟩, .string ⟨#[]⟩]) (t := 36) ?hr ?_; (case hd => rfl); (case hg => rfl); (case hr => first | (go_simp; done) | (go_simp; rfl));intro ga hga wr13 hbox hb;have HGA := A_ (show w.heap.size ≤ ga ∧ g < ga ∧ ∀ k, (Value.slice An out.length cn).ownBlock = some k → k < ga from by rw [hga]; exact ⟨HTd.out.kp.1, HTd.out.st.lt, fun k hk => Kd.R_lt HTd.out.nr k hk⟩);have HA := A_ hbox;have n1_ := A_ (HTd.out.below hb);clear hb hga hbox HTd;have HTd := n1_;clear n1_;refine hK.out _ _ ⟨cellS89_0 HTd.out.st.1, cellS89_1 HTd.out.st.1⟩ (fun hHeld => ?_);clear hK K;refine nm_ ?_;refine last_ (i := 14) (N := none) (tS 16 15) rfl rfl (by kernel_rfl) de_ (fun K hK => ?_);refine put_step2 ?hw ?hN 36 (.tmp 9) (.tmp 52) ?ho (g := ga) (u0 := .string nm) (u1 := .string av) ?ha ?hx (by kernel_rfl) HA.out rfl rfl ?_; (case hw => rfl); (case hN => rfl); (case ho => rfl); (case ha => rfl); (case hx => rfl);replace HA := A_ (blk_two HA.out (.string nm) (.string av));replace HTd := A_ (HTd.out.two_ HGA.out.1 HGA.out.2.1 HGA.out.2.2 (.string nm) (.string av));refine hK.out _ _ ?_;clear hK K;refine pq_ ?_;refine done_ (by kernel_rfl) ?_;generalize hwe : World.setCell _ _ _ = we at HA HTd ⊢;clear hwe;have he1 : (g = ga) = False := eq_false (Nat.ne_of_lt HGA.out.2.1);have he2 : (ga = g) = False := eq_false (Nat.ne_of_gt HGA.out.2.1);obtain ⟨hx0, hx1⟩ := bc2_ HA.out;have hz1 := cellS89_1 HTd.out.st.1;have hz2 := cellS89_2 HTd.out.st.1;have hf1 := blk_frozen HTd.out.st.1 1;have hf2 := blk_frozen HTd.out.st.1 2;have H := HH.out;by_cases d1 : nx < 0
     case pos =>
      rw [if_pos d1] at H;simp only [Option.some.injEq, Prod.mk.injEq] at H;obtain ⟨rfl, rfl, rfl, rfl, rfl⟩ := H;go_wp2
      go_ret2
      exact ⟨_, rfl, HTd.out.ok_ false⟩
     case neg =>
     rw [if_neg d1] at H;obtain ⟨hv, hhv, H⟩ := oB_ H;have Hv := A_ hhv;clear hhv;cases hv with
     | true =>
      rw [if_pos rfl] at H;simp only [Option.some.injEq, Prod.mk.injEq] at H;obtain ⟨rfl, rfl, rfl, rfl, rfl⟩ := H;go_wp2_with ((go_at_call 168; (with_reducible refine (spec_l4Has.calls n An cn out nm _ _ (Kd.R_reads' HTd.out.nr).2.2 (Kd.R_reads' HTd.out.nr).2.1 Hv.out).mono ?_); rintro e w6 ⟨rfl, hd⟩; have HTe := A_ (HTd.out.below hd.below); have HAe := A_ (blk_below HA.out hd.below); clear hd HTd HA hx0 hx1 hz1 hz2 hf1 hf2; obtain ⟨hx0, hx1⟩ := bc2_ HAe.out; have hz1 := cellS89_1 HTe.out.st.1; have hz2 := cellS89_2 HTe.out.st.1; have hf1 := blk_frozen HTe.out.st.1 1; have hf2 := blk_frozen HTe.out.st.1 2; have HT8 := A_ (HTe.out.at_ nx)))
      go_ret2
      exact ⟨_, rfl, HTe.out.ok_ false⟩
     | false =>
      rw [if_neg si_] at H;by_cases cx : nm.toList = [120, 109, 108, 110, 115]
      case pos =>
       rw [if_pos cx] at H;have cxb : (nm.toList == [120, 109, 108, 110, 115]) = true := by rw [cx]; rfl
       have cxn : (!(nm.toList == [120, 109, 108, 110, 115])) = false := by rw [cx]; rfl
       clear cx;cases told with
       | true =>
        rw [if_pos rfl] at H;simp only [Option.some.injEq, Prod.mk.injEq] at H;obtain ⟨rfl, rfl, rfl, rfl, rfl⟩ := H;go_wp2_with ((go_at_call 168; (with_reducible refine (spec_l4Has.calls n An cn out nm _ _ (Kd.R_reads' HTd.out.nr).2.2 (Kd.R_reads' HTd.out.nr).2.1 Hv.out).mono ?_); rintro e w6 ⟨rfl, hd⟩; have HTe := A_ (HTd.out.below hd.below); have HAe := A_ (blk_below HA.out hd.below); clear hd HTd HA hx0 hx1 hz1 hz2 hf1 hf2; obtain ⟨hx0, hx1⟩ := bc2_ HAe.out; have hz1 := cellS89_1 HTe.out.st.1; have hz2 := cellS89_2 HTe.out.st.1; have hf1 := blk_frozen HTe.out.st.1 1; have hf2 := blk_frozen HTe.out.st.1 2; have HT8 := A_ (HTe.out.at_ nx)))
        go_ret2
        exact ⟨_, rfl, HTe.out.ok_ false⟩
       | false =>
        rw [if_neg si_] at H;obtain ⟨x, hx, H⟩ := oB_ H;have Hx := A_ hx;have HM := A_ H;clear hx H;by_cases d2 : x = about
        case pos =>
         have d2b : (x == about) = true := bQ_ d2;have HM2 : As9 (sattrsL n about s nx false out x true = some (r0, r1, r2, r3, r4)) := ⟨by have h := HM.out; rw [dE_ d2] at h; exact h⟩;clear d2;go_wp2_with (first | (go_at_call 168; (with_reducible refine (spec_l4Has.calls n An cn out nm _ _ (Kd.R_reads' HTd.out.nr).2.2 (Kd.R_reads' HTd.out.nr).2.1 Hv.out).mono ?_); rintro e w6 ⟨rfl, hd⟩; have HTe := A_ (HTd.out.below hd.below); have HAe := A_ (blk_below HA.out hd.below); clear hd HTd HA hx0 hx1 hz1 hz2 hf1 hf2; obtain ⟨hx0, hx1⟩ := bc2_ HAe.out; have hz1 := cellS89_1 HTe.out.st.1; have hz2 := cellS89_2 HTe.out.st.1; have hf1 := blk_frozen HTe.out.st.1 1; have hf2 := blk_frozen HTe.out.st.1 2; have HT8 := A_ (HTe.out.at_ nx)) | (go_at_call 169; clear hx0 hx1 hz1 hz2 hf1 hf2; (with_reducible refine (spec_l19Space.calls n av x _ Hx.out).mono ?_); rintro e w8 ⟨rfl, hd⟩; have HTf := A_ (HT8.out.below hd.below); clear hd HT8 HTe HAe; have hz2 := cellS89_2 HTf.out.st.1; have hf2 := blk_frozen HTf.out.st.1 2))
         go_roundg n
         case measure => omega
         case rel => exact ⟨_, _, _, _, _, _, rfl, rfl, HM2, ⟨HTf.out.ok_ false⟩⟩
        case neg =>
         have d2b : (x == about) = false := bN_ d2;have HM2 : As9 (sattrsL n about s nx true out x true = some (r0, r1, r2, r3, r4)) := ⟨by have h := HM.out; rw [dF_ d2] at h; exact h⟩;clear d2;go_wp2_with (first | (go_at_call 168; (with_reducible refine (spec_l4Has.calls n An cn out nm _ _ (Kd.R_reads' HTd.out.nr).2.2 (Kd.R_reads' HTd.out.nr).2.1 Hv.out).mono ?_); rintro e w6 ⟨rfl, hd⟩; have HTe := A_ (HTd.out.below hd.below); have HAe := A_ (blk_below HA.out hd.below); clear hd HTd HA hx0 hx1 hz1 hz2 hf1 hf2; obtain ⟨hx0, hx1⟩ := bc2_ HAe.out; have hz1 := cellS89_1 HTe.out.st.1; have hz2 := cellS89_2 HTe.out.st.1; have hf1 := blk_frozen HTe.out.st.1 1; have hf2 := blk_frozen HTe.out.st.1 2; have HT8 := A_ (HTe.out.at_ nx)) | (go_at_call 169; clear hx0 hx1 hz1 hz2 hf1 hf2; (with_reducible refine (spec_l19Space.calls n av x _ Hx.out).mono ?_); rintro e w8 ⟨rfl, hd⟩; have HTf := A_ (HT8.out.below hd.below); clear hd HT8 HTe HAe; have hz2 := cellS89_2 HTf.out.st.1; have hf2 := blk_frozen HTf.out.st.1 2))
         go_roundg n
         case measure => omega
         case rel => exact ⟨_, _, _, _, _, _, rfl, rfl, HM2, HTf⟩
      case neg =>
       rw [if_neg cx] at H;have cxb : (nm.toList == [120, 109, 108, 110, 115]) = false := bN_ cx;have cxn : (!(nm.toList == [120, 109, 108, 110, 115])) = true := by rw [cxb]; rfl
       clear cx;split at H
       case isFalse => cases H
       case isTrue hl =>
        have HL := A_ hl;have HM := A_ H;clear hl H;go_wp2_with (first | (go_at_call 168; (with_reducible refine (spec_l4Has.calls n An cn out nm _ _ (Kd.R_reads' HTd.out.nr).2.2 (Kd.R_reads' HTd.out.nr).2.1 Hv.out).mono ?_); rintro e w6 ⟨rfl, hd⟩; have HTe := A_ (HTd.out.below hd.below); have HAe := A_ (blk_below HA.out hd.below); clear hd HTd HA hx0 hx1 hz1 hz2 hf1 hf2; obtain ⟨hx0, hx1⟩ := bc2_ HAe.out; have hz1 := cellS89_1 HTe.out.st.1; have hz2 := cellS89_2 HTe.out.st.1; have hf1 := blk_frozen HTe.out.st.1 1; have hf2 := blk_frozen HTe.out.st.1 2; have HT8 := A_ (HTe.out.at_ nx)) | ((with_reducible refine gate_builtin (b := .append) (xs := #[.tmp 82, .tmp 84]) rfl ?_); at_builtin; go_loud (refine Kd.R_append k36 (w0 := w0) w0.heap.size rfl (.tmp 82) (.tmp 84) 40 36 (.agg #[(.string ⟨#[]⟩), (.string ⟨#[]⟩)]) 32 rfl Tryz.underlying40 info36 rfl de_ om_ (.slice An out.length cn) out (⟨nm, av⟩ : S36) [.string nm, .string av] (fun k_ => w.heap.size ≤ k_) (fun _ => False) rfl ?aX ?aP (fun _ hk => hk.elim) ?aF ?aO ?aB ?aS ?aL ?_); (case aX => first | rfl | (go_simp; done) | (go_simp; rfl) | (simp; done) | (simp; rfl)); (case aP => exact k36_mkM _ _ _ (⟨nm, av⟩ : S36)); (case aF => exact fun k hk => Nat.le_trans HT8.out.kp.1 hk); (case aO => exact HT8.out.nr); (case aB => exact HT8.out.bl); (case aS => exact HT8.out.bl.size); (case aL => have := HL.out; omega); intro v6 w7 ho hb hg hat; have HTg := A_ (HT8.out.app ho hb hg); clear ho hb hg hat HT8 HTe HAe hx0 hx1 hz1 hz2 hf1 hf2))
        go_roundg n
        case measure => omega
        case rel => exact ⟨_, _, _, _, _, _, rfl, rfl, HM, HTg⟩
    ·skip
     refine box_step ?hg (N := 9) ?hd (cs := #[.string ⟨#[]⟩, .string ⟨#[]⟩]) (t := 36) ?hr ?_; (case hd => rfl); (case hg => rfl); (case hr => first | (go_simp; done) | (go_simp; rfl));intro ga hga wr13 hbox hb;have HGA := A_ (show w.heap.size ≤ ga ∧ g < ga ∧ ∀ k, (Value.slice An out.length cn).ownBlock = some k → k < ga from by rw [hga]; exact ⟨HTd.out.kp.1, HTd.out.st.lt, fun k hk => Kd.R_lt HTd.out.nr k hk⟩);have HA := A_ hbox;have n1_ := A_ (HTd.out.below hb);clear hb hga hbox HTd;have HTd := n1_;clear n1_;refine hK.out _ _ ⟨cellS89_0 HTd.out.st.1, cellS89_1 HTd.out.st.1⟩ (fun hHeld => ?_);clear hK K;refine nm_ ?_;refine n1_ 9 (tB 16 9215) rfl fun K hK => ?_
     refine gS_ Tryz.func26 #[.string s, .int .i64 (wrap64 (p + 1))] ?_;with_reducible refine (spec_XmlAttr.calls n s (wrap64 (p + 1)) nm av nx _ Ha.out).mono ?_
     rintro e wr9 ⟨rfl, hb⟩;refine ⟨_, rfl, ?_⟩;have n1_ := A_ (HTd.out.below hb);(try (have n6_ := A_ (blk_below HA.out hb); clear HA; have HA := n6_; clear n6_))
     clear hb HTd;have HTd := n1_;clear n1_;refine hK.out _ _ ⟨cellS89_0 HTd.out.st.1, cellS89_1 HTd.out.st.1⟩ (fun hHeld => ?_);clear hK K;refine nm_ ?_;refine pg_ 10 (tB 16 10239) ?_;refine pg_ 11 (tB 16 12287) ?_;refine pg_ 12 (tS 16 14) ?_;refine last_ (i := 14) (N := none) (tS 16 15) rfl rfl (by kernel_rfl) de_ (fun K hK => ?_);refine put_step2 ?hw ?hN 36 (.tmp 9) (.tmp 52) ?ho (g := ga) (u0 := .string nm) (u1 := .string av) ?ha ?hx (by kernel_rfl) HA.out rfl rfl ?_; (case hw => rfl); (case hN => rfl); (case ho => rfl); (case ha => rfl); (case hx => rfl);replace HA := A_ (blk_two HA.out (.string nm) (.string av));replace HTd := A_ (HTd.out.two_ HGA.out.1 HGA.out.2.1 HGA.out.2.2 (.string nm) (.string av));refine hK.out _ _ ?_;clear hK K;refine pq_ ?_;refine done_ (by kernel_rfl) ?_;generalize hwe : World.setCell _ _ _ = we at HA HTd ⊢;clear hwe;have he1 : (g = ga) = False := eq_false (Nat.ne_of_lt HGA.out.2.1);have he2 : (ga = g) = False := eq_false (Nat.ne_of_gt HGA.out.2.1);obtain ⟨hx0, hx1⟩ := bc2_ HA.out;have hz1 := cellS89_1 HTd.out.st.1;have hz2 := cellS89_2 HTd.out.st.1;have hf1 := blk_frozen HTd.out.st.1 1;have hf2 := blk_frozen HTd.out.st.1 2;have H := HH.out;by_cases d1 : nx < 0
     case pos =>
      rw [if_pos d1] at H;simp only [Option.some.injEq, Prod.mk.injEq] at H;obtain ⟨rfl, rfl, rfl, rfl, rfl⟩ := H;go_wp2
      go_ret2
      exact ⟨_, rfl, HTd.out.ok_ false⟩
     case neg =>
     rw [if_neg d1] at H;obtain ⟨hv, hhv, H⟩ := oB_ H;have Hv := A_ hhv;clear hhv;cases hv with
     | true =>
      rw [if_pos rfl] at H;simp only [Option.some.injEq, Prod.mk.injEq] at H;obtain ⟨rfl, rfl, rfl, rfl, rfl⟩ := H;go_wp2_with ((go_at_call 168; (with_reducible refine (spec_l4Has.calls n An cn out nm _ _ (Kd.R_reads' HTd.out.nr).2.2 (Kd.R_reads' HTd.out.nr).2.1 Hv.out).mono ?_); rintro e w6 ⟨rfl, hd⟩; have HTe := A_ (HTd.out.below hd.below); have HAe := A_ (blk_below HA.out hd.below); clear hd HTd HA hx0 hx1 hz1 hz2 hf1 hf2; obtain ⟨hx0, hx1⟩ := bc2_ HAe.out; have hz1 := cellS89_1 HTe.out.st.1; have hz2 := cellS89_2 HTe.out.st.1; have hf1 := blk_frozen HTe.out.st.1 1; have hf2 := blk_frozen HTe.out.st.1 2; have HT8 := A_ (HTe.out.at_ nx)))
      go_ret2
      exact ⟨_, rfl, HTe.out.ok_ false⟩
     | false =>
      rw [if_neg si_] at H;by_cases cx : nm.toList = [120, 109, 108, 110, 115]
      case pos =>
       rw [if_pos cx] at H;have cxb : (nm.toList == [120, 109, 108, 110, 115]) = true := by rw [cx]; rfl
       have cxn : (!(nm.toList == [120, 109, 108, 110, 115])) = false := by rw [cx]; rfl
       clear cx;cases told with
       | true =>
        rw [if_pos rfl] at H;simp only [Option.some.injEq, Prod.mk.injEq] at H;obtain ⟨rfl, rfl, rfl, rfl, rfl⟩ := H;go_wp2_with ((go_at_call 168; (with_reducible refine (spec_l4Has.calls n An cn out nm _ _ (Kd.R_reads' HTd.out.nr).2.2 (Kd.R_reads' HTd.out.nr).2.1 Hv.out).mono ?_); rintro e w6 ⟨rfl, hd⟩; have HTe := A_ (HTd.out.below hd.below); have HAe := A_ (blk_below HA.out hd.below); clear hd HTd HA hx0 hx1 hz1 hz2 hf1 hf2; obtain ⟨hx0, hx1⟩ := bc2_ HAe.out; have hz1 := cellS89_1 HTe.out.st.1; have hz2 := cellS89_2 HTe.out.st.1; have hf1 := blk_frozen HTe.out.st.1 1; have hf2 := blk_frozen HTe.out.st.1 2; have HT8 := A_ (HTe.out.at_ nx)))
        go_ret2
        exact ⟨_, rfl, HTe.out.ok_ false⟩
       | false =>
        rw [if_neg si_] at H;obtain ⟨x, hx, H⟩ := oB_ H;have Hx := A_ hx;have HM := A_ H;clear hx H;by_cases d2 : x = about
        case pos =>
         have d2b : (x == about) = true := bQ_ d2;have HM2 : As9 (sattrsL n about s nx false out x true = some (r0, r1, r2, r3, r4)) := ⟨by have h := HM.out; rw [dE_ d2] at h; exact h⟩;clear d2;go_wp2_with (first | (go_at_call 168; (with_reducible refine (spec_l4Has.calls n An cn out nm _ _ (Kd.R_reads' HTd.out.nr).2.2 (Kd.R_reads' HTd.out.nr).2.1 Hv.out).mono ?_); rintro e w6 ⟨rfl, hd⟩; have HTe := A_ (HTd.out.below hd.below); have HAe := A_ (blk_below HA.out hd.below); clear hd HTd HA hx0 hx1 hz1 hz2 hf1 hf2; obtain ⟨hx0, hx1⟩ := bc2_ HAe.out; have hz1 := cellS89_1 HTe.out.st.1; have hz2 := cellS89_2 HTe.out.st.1; have hf1 := blk_frozen HTe.out.st.1 1; have hf2 := blk_frozen HTe.out.st.1 2; have HT8 := A_ (HTe.out.at_ nx)) | (go_at_call 169; clear hx0 hx1 hz1 hz2 hf1 hf2; (with_reducible refine (spec_l19Space.calls n av x _ Hx.out).mono ?_); rintro e w8 ⟨rfl, hd⟩; have HTf := A_ (HT8.out.below hd.below); clear hd HT8 HTe HAe; have hz2 := cellS89_2 HTf.out.st.1; have hf2 := blk_frozen HTf.out.st.1 2))
         go_roundg n
         case measure => omega
         case rel => exact ⟨_, _, _, _, _, _, rfl, rfl, HM2, ⟨HTf.out.ok_ false⟩⟩
        case neg =>
         have d2b : (x == about) = false := bN_ d2;have HM2 : As9 (sattrsL n about s nx true out x true = some (r0, r1, r2, r3, r4)) := ⟨by have h := HM.out; rw [dF_ d2] at h; exact h⟩;clear d2;go_wp2_with (first | (go_at_call 168; (with_reducible refine (spec_l4Has.calls n An cn out nm _ _ (Kd.R_reads' HTd.out.nr).2.2 (Kd.R_reads' HTd.out.nr).2.1 Hv.out).mono ?_); rintro e w6 ⟨rfl, hd⟩; have HTe := A_ (HTd.out.below hd.below); have HAe := A_ (blk_below HA.out hd.below); clear hd HTd HA hx0 hx1 hz1 hz2 hf1 hf2; obtain ⟨hx0, hx1⟩ := bc2_ HAe.out; have hz1 := cellS89_1 HTe.out.st.1; have hz2 := cellS89_2 HTe.out.st.1; have hf1 := blk_frozen HTe.out.st.1 1; have hf2 := blk_frozen HTe.out.st.1 2; have HT8 := A_ (HTe.out.at_ nx)) | (go_at_call 169; clear hx0 hx1 hz1 hz2 hf1 hf2; (with_reducible refine (spec_l19Space.calls n av x _ Hx.out).mono ?_); rintro e w8 ⟨rfl, hd⟩; have HTf := A_ (HT8.out.below hd.below); clear hd HT8 HTe HAe; have hz2 := cellS89_2 HTf.out.st.1; have hf2 := blk_frozen HTf.out.st.1 2))
         go_roundg n
         case measure => omega
         case rel => exact ⟨_, _, _, _, _, _, rfl, rfl, HM2, HTf⟩
      case neg =>
       rw [if_neg cx] at H;have cxb : (nm.toList == [120, 109, 108, 110, 115]) = false := bN_ cx;have cxn : (!(nm.toList == [120, 109, 108, 110, 115])) = true := by rw [cxb]; rfl
       clear cx;split at H
       case isFalse => cases H
       case isTrue hl =>
        have HL := A_ hl;have HM := A_ H;clear hl H;go_wp2_with (first | (go_at_call 168; (with_reducible refine (spec_l4Has.calls n An cn out nm _ _ (Kd.R_reads' HTd.out.nr).2.2 (Kd.R_reads' HTd.out.nr).2.1 Hv.out).mono ?_); rintro e w6 ⟨rfl, hd⟩; have HTe := A_ (HTd.out.below hd.below); have HAe := A_ (blk_below HA.out hd.below); clear hd HTd HA hx0 hx1 hz1 hz2 hf1 hf2; obtain ⟨hx0, hx1⟩ := bc2_ HAe.out; have hz1 := cellS89_1 HTe.out.st.1; have hz2 := cellS89_2 HTe.out.st.1; have hf1 := blk_frozen HTe.out.st.1 1; have hf2 := blk_frozen HTe.out.st.1 2; have HT8 := A_ (HTe.out.at_ nx)) | ((with_reducible refine gate_builtin (b := .append) (xs := #[.tmp 82, .tmp 84]) rfl ?_); at_builtin; go_loud (refine Kd.R_append k36 (w0 := w0) w0.heap.size rfl (.tmp 82) (.tmp 84) 40 36 (.agg #[(.string ⟨#[]⟩), (.string ⟨#[]⟩)]) 32 rfl Tryz.underlying40 info36 rfl de_ om_ (.slice An out.length cn) out (⟨nm, av⟩ : S36) [.string nm, .string av] (fun k_ => w.heap.size ≤ k_) (fun _ => False) rfl ?aX ?aP (fun _ hk => hk.elim) ?aF ?aO ?aB ?aS ?aL ?_); (case aX => first | rfl | (go_simp; done) | (go_simp; rfl) | (simp; done) | (simp; rfl)); (case aP => exact k36_mkM _ _ _ (⟨nm, av⟩ : S36)); (case aF => exact fun k hk => Nat.le_trans HT8.out.kp.1 hk); (case aO => exact HT8.out.nr); (case aB => exact HT8.out.bl); (case aS => exact HT8.out.bl.size); (case aL => have := HL.out; omega); intro v6 w7 ho hb hg hat; have HTg := A_ (HT8.out.app ho hb hg); clear ho hb hg hat HT8 HTe HAe hx0 hx1 hz1 hz2 hf1 hf2))
        go_roundg n
        case measure => omega
        case rel => exact ⟨_, _, _, _, _, _, rfl, rfl, HM, HTg⟩
def strings_Index.f (a0 : BA) (a1 : BA) : Option Int := if a0.size < 4294967281 then some (Lib.index a0.data.toList a1.data.toList) else none
theorem strings_Index.calls (a0 : BA) (a1 : BA) (r : Int) (w : World) (hL : LibOk w) (h : strings_Index.f a0 a1 = some r) :
  Calls Tryz.prog 78 #[.string a0, .string a1] w fun e w' => e = .returned (.int .i64 r) ∧ Drawn0 w w' := by
 unfold strings_Index.f at h;have hs : a0.size < 4294967281 := by
  by_cases hs : a0.size < 4294967281
  ·exact hs
  ·rw [if_neg hs] at h; cases h
 rw [if_pos hs] at h;obtain rfl := sI_ h;obtain ⟨m, hm⟩ := hL.maxLen;exact (Tryz.strings_Index a0 a1 m w hs hm).mono fun e w' hh => ⟨hh.1, by rw [hh.2]; exact Drawn0.refl _⟩
def impl_Signs.l0 : Nat → ByteArray → List Int → Int → Option (List Int)
 | 0, _, _, _ => none
 | k + 1, x0, x3, x4 => if x4 < (x0.size : Int) then ((impl_getSign.f k x0 x4).bind fun bt389 => (if x3.length < 17592186044416 then (impl_Signs.l0 k x0 (x3 ++ [bt389.1]) (wrap64 (x4 + bt389.2))) else (none))) else (some x3)
def impl_Signs.f (k : Nat) (a0 : BA) : Option (List Int) := impl_Signs.l0 k a0 ([] : List Int) 0
theorem impl_Signs.mono_l : ∀ k, (∀ y0 y1 y2, LeO (impl_Signs.l0 k y0 y1 y2) (impl_Signs.l0 (k + 1) y0 y1 y2))
 | 0 => fun _ _ _ r h => by simp [impl_Signs.l0] at h
 | k + 1 => by
  have ih0 := impl_Signs.mono_l k
  ·intro y0 y1 y2;unfold impl_Signs.l0;with_reducible repeat' first | exact ih0 _ _ _ | exact impl_getSign.mono _ _ _ | apply LeO.refl | apply LeO.none | apply LeO.ite | apply LeO.bind | intro
theorem impl_Signs.mono : ∀ a0 k, LeO (impl_Signs.f k a0) (impl_Signs.f (k + 1) a0) := by
 intro a0 k;have ih0 := impl_Signs.mono_l k;unfold impl_Signs.f;with_reducible repeat' first | exact ih0 _ _ _ | exact impl_getSign.mono _ _ _ | apply LeO.refl | apply LeO.none | apply LeO.ite | apply LeO.bind | intro
theorem impl_Signs.calls (k : Nat) (a0 : BA) (r : List Int) (w : World) (h : impl_Signs.f k a0 = some r) :
  Calls Tryz.prog 82 #[.string a0] w fun e w' => ∃ v0_ : Value, e = .returned (v0_) ∧ Kd.R (Kd.int .i64) 3 w' w.heap.size (fun _ => True) v0_ r ∧ Below w.heap.size w w' := by
 have HB := A_ (Below.refl w.heap.size w);have H : (impl_Signs.l0 k a0 ([] : List Int) 0) = some r := h;clear h;have H' := A_ H;clear H;go_enter Tryz.func82, Tryz.ntmps82
 go_wp2
 go_loopg [3, 4] k (fun kq v3 v4 w' => ∃ (x3_1 : List Int) (x4_1 : Int), v4 = .int .i64 x4_1 ∧ As9 (impl_Signs.l0 kq a0 x3_1 x4_1 = some r) ∧ As9 (kq ≤ k) ∧ As9 (Kd.R (Kd.int .i64) 3 w' w.heap.size (fun _ => True) v3 x3_1) ∧ As9 (Below w.heap.size w w'))
 case atStart => exact ⟨(([] : List Int)), (0), e2_, H', ⟨Nat.le_refl _⟩, ⟨by first | exact Kd.R_nil _ _ _ _ _ | exact Kd.N_nil _ _ _ _ _ | exact Kd.V_nil _ _ _ _ _ | exact Kd.Q_nil _ _ _ _ _ | exact Kd.S_nil _ _ _ _ _⟩, ⟨hB_⟩⟩
 case round =>
  clear H';obtain ⟨x3_1, x4_1, rfl, HA, HK1, HO_3, HB⟩ := hrel;cases gk with
  | zero => exact absurd HA.out (by simp [impl_Signs.l0])
  | succ k1 =>
   have H := HA.out;clear HA;simp only [impl_Signs.l0] at H;rcases ic_ H with ⟨c2, H⟩ | ⟨c2, H⟩
   ·have c2b0 := dE_ c2;clear c2;obtain ⟨⟨t389, t390⟩, A3, H⟩ := ob_ H;(try dsimp only at H)
    obtain ⟨c4, H⟩ := ifn_ H;have LMc4 := A_ c4;clear c4;obtain ⟨y391, hy391⟩ : ∃ y_ : List Int, y_ = (x3_1 ++ [t389]) := ⟨_, rfl⟩;replace H : (impl_Signs.l0 k1 a0 y391 (wrap64 (x4_1 + t390))) = some r := by first | (rw [hy391]; with_reducible exact H) | (have H2_ := (Option.bind_some _ _).symm.trans H; rw [hy391]; with_reducible exact H2_) | (have H2_ := (Option.bind_some _ _).symm.trans H; with_reducible exact H2_) | with_reducible exact H | (rw [hy391]; exact H) | exact H
    have Ny391 := A_ hy391;clear hy391;have H' := A_ H;clear H;go_wp2_with (first | ((with_reducible refine gC_ 106 ?_); refine gL_ 14 Tryz.func106 #[.string a0, .int .i64 x4_1] ?_; refine dm_ (impl_getSign.calls k1 a0 x4_1 t389 t390 _ A3.out) fun nd => ?_) | ((with_reducible refine gate_builtin (b := .append) (xs := #[.tmp 17, .tmp 19]) rfl ?_); at_builtin; refine Kd.R_append (Kd.int .i64) (w0 := w) w.heap.size rfl (.tmp 17) (.tmp 19) 85 3 (.int .i64 0) 8 rfl Tryz.underlying85 info3 rfl de_ om_ u3 x3_1 t389 [.int .i64 t389] (fun _ => True) (fun _ => False) rfl rfl ?aP (fun _ hk => hk.elim) ?aF ?aO ?aB ?aS ?aL ?_; (case aP => exact rfl); (case aB => exact hB_); (case aF => exact (fun _ _ => trivial)); (case aO => exact (kQ_ HO_3.out)); (case aS => exact (below_size hB_)); (case aL => have := LMc4.out; omega); intro v392 w5 ho hb hg hat; rw [← Ny391.out] at ho; replace HB := A_ (hb); have HO393 := A_ (ho); clear HO_3; clear ho hb hg hat))
    go_roundg k1
    case measure => have := HK1.out; omega
    case rel => exact ⟨(y391), (wrap64 (x4_1 + t390)), e2_, H', ⟨by have := HK1.out; omega⟩, ⟨kQ_ HO393.out⟩, ⟨hB_⟩⟩
   ·have c2b0 := dF_ c2;clear c2;obtain rfl := sI_ H;go_wp2
    go_ret
    exact ⟨_, e1_, kQ_ HO_3.out, hB_⟩
def impl_Clean.f (k : Nat) (a0 : BA) : Option (ByteArray) := (impl_Signs.f k a0).bind fun t394 => ((impl_SignText.f k t394).bind fun t397 => (some t397))
theorem impl_Clean.mono : ∀ a0 k, LeO (impl_Clean.f k a0) (impl_Clean.f (k + 1) a0) := by
 intro a0 k;unfold impl_Clean.f;with_reducible repeat' first | exact impl_SignText.mono _ _ | exact impl_Signs.mono _ _ | apply LeO.refl | apply LeO.none | apply LeO.ite | apply LeO.bind | intro
theorem impl_Clean.calls (k : Nat) (a0 : BA) (r : BA) (w : World) (h : impl_Clean.f k a0 = some r) :
  Calls Tryz.prog 130 #[.string a0] w fun e w' => e = .returned (.string r) ∧ Below w.heap.size w w' := by
 have HB := A_ (Below.refl w.heap.size w);have H : ((impl_Signs.f k a0).bind fun t394 => ((impl_SignText.f k t394).bind fun t397 => (some t397))) = some r := h;clear h;obtain ⟨t394, A2, H⟩ := ob_ H;obtain ⟨t397, A3, H⟩ := ob_ H;obtain rfl := sI_ H;go_enter Tryz.func130, Tryz.ntmps130
 go_wp2_with (first | ((with_reducible refine gC_ 82 ?_); refine gL_ 4 Tryz.func82 #[.string a0] ?_; (with_reducible refine (impl_Signs.calls k a0 t394 _ A2.out).mono ?_); rintro e w4 ⟨v395, rfl, ho0, hb⟩; refine ⟨_, rfl, ?_⟩; have HO396 := A_ (Kd.R_lower ho0 (below_size hB_)); replace HB := bS_ hb; clear hb; (try clear ho0); obtain ⟨Ao5, co5, eo5⟩ := Kd.R_slice HO396.out; subst eo5) | ((with_reducible refine gC_ 167 ?_); refine gL_ 5 Tryz.func167 #[.slice Ao5 t394.length co5] ?_; (with_reducible refine (impl_SignText.calls k _ _ t394 t397 _ ?side1 ?side2 A3.out).mono ?_); (case side1 => repeat (first | exact (Kd.R_reads' HO396.out).2.2 | (with_reducible refine Kd.C_alloc ?_ _) | (with_reducible refine Kd.C_drewN ?_ _) | (with_reducible refine Kd.C_drew ?_))); (case side2 => exact (Kd.R_reads' HO396.out).2.1); rintro e w6 ⟨rfl, hb⟩; refine ⟨_, rfl, ?_⟩; replace HO396 := A_ (Kd.R_below (kQ_ HO396.out) hb); replace HB := bS_ hb; clear hb))
 go_ret
 exact ⟨e1_, hB_⟩
def impl_CleanOk.f (k : Nat) (a0 : BA) : Option (Bool) := (impl_Clean.f k a0).bind fun t398 => (some (t398.toList == a0.toList))
theorem impl_CleanOk.mono : ∀ a0 k, LeO (impl_CleanOk.f k a0) (impl_CleanOk.f (k + 1) a0) := by
 intro a0 k;unfold impl_CleanOk.f;with_reducible repeat' first | exact impl_Clean.mono _ _ | apply LeO.refl | apply LeO.none | apply LeO.ite | apply LeO.bind | intro
theorem impl_CleanOk.calls (k : Nat) (a0 : BA) (r : Bool) (w : World) (h : impl_CleanOk.f k a0 = some r) :
  Calls Tryz.prog 83 #[.string a0] w fun e w' => e = .returned (.bool r) ∧ Below w.heap.size w w' := by
 have HB := A_ (Below.refl w.heap.size w);have H : ((impl_Clean.f k a0).bind fun t398 => (some (t398.toList == a0.toList))) = some r := h;clear h;obtain ⟨t398, A2, H⟩ := ob_ H;obtain rfl := sI_ H;go_enter Tryz.func83, Tryz.ntmps83
 go_wp2_with (first | ((with_reducible refine gC_ 130 ?_); refine gL_ 4 Tryz.func130 #[.string a0] ?_; refine bm_ (impl_Clean.calls k a0 t398 _ A2.out) ?_; clear HB; intro w3 HB))
 go_ret
 exact ⟨e1_, hB_⟩
def impl_TextOk.l0 : Nat → ByteArray → List Int → Int → Int → Option (Bool)
 | 0, _, _, _, _ => none
 | k + 1, x0, x6, x7, x8 => if x8 < x7 then (if 0 ≤ x8 then (if x8 < (x6.length : Int) then ((impl_IsText.f (rd x6 x8)).bind fun t403 => (if t403 = true then (impl_TextOk.l0 k x0 x6 x7 (wrap64 (x8 + 1))) else (some false))) else (none)) else (none)) else ((impl_CleanOk.f k x0).bind fun t404 => (some t404))
def impl_TextOk.f (k : Nat) (a0 : BA) : Option (Bool) := (impl_Signs.f k a0).bind fun t399 => (impl_TextOk.l0 k a0 t399 (t399.length : Int) 0)
theorem impl_TextOk.mono_l : ∀ k, (∀ y0 y1 y2 y3, LeO (impl_TextOk.l0 k y0 y1 y2 y3) (impl_TextOk.l0 (k + 1) y0 y1 y2 y3))
 | 0 => fun _ _ _ _ r h => by simp [impl_TextOk.l0] at h
 | k + 1 => by
  have ih0 := impl_TextOk.mono_l k
  ·intro y0 y1 y2 y3;unfold impl_TextOk.l0;with_reducible repeat' first | exact ih0 _ _ _ _ | exact impl_CleanOk.mono _ _ | exact impl_Signs.mono _ _ | apply LeO.refl | apply LeO.none | apply LeO.ite | apply LeO.bind | intro
theorem impl_TextOk.mono : ∀ a0 k, LeO (impl_TextOk.f k a0) (impl_TextOk.f (k + 1) a0) := by
 intro a0 k;have ih0 := impl_TextOk.mono_l k;unfold impl_TextOk.f;with_reducible repeat' first | exact ih0 _ _ _ _ | exact impl_CleanOk.mono _ _ | exact impl_Signs.mono _ _ | apply LeO.refl | apply LeO.none | apply LeO.ite | apply LeO.bind | intro
theorem impl_TextOk.calls (k : Nat) (a0 : BA) (r : Bool) (w : World) (h : impl_TextOk.f k a0 = some r) :
  Calls Tryz.prog 30 #[.string a0] w fun e w' => e = .returned (.bool r) ∧ Below w.heap.size w w' := by
 have HB := A_ (Below.refl w.heap.size w);have H : ((impl_Signs.f k a0).bind fun t399 => (impl_TextOk.l0 k a0 t399 (t399.length : Int) 0)) = some r := h;clear h;obtain ⟨t399, A2, H⟩ := ob_ H;(try dsimp only at H)
 have H' := A_ H;clear H;go_enter Tryz.func30, Tryz.ntmps30
 go_wp2_with (first | ((with_reducible refine gC_ 82 ?_); refine gL_ 6 Tryz.func82 #[.string a0] ?_; (with_reducible refine (impl_Signs.calls k a0 t399 _ A2.out).mono ?_); rintro e w3 ⟨v400, rfl, ho0, hb⟩; refine ⟨_, rfl, ?_⟩; have HO401 := A_ (Kd.R_lower ho0 (below_size hB_)); replace HB := bS_ hb; clear hb; (try clear ho0); obtain ⟨Ao4, co4, eo4⟩ := Kd.R_slice HO401.out; subst eo4))
 go_loopg [8] k (fun kq v8 w' => ∃ (x8_1 : Int), v8 = .int .i64 x8_1 ∧ As9 (impl_TextOk.l0 kq a0 t399 (t399.length : Int) x8_1 = some r) ∧ As9 (kq ≤ k) ∧ As9 (Kd.R (Kd.int .i64) 3 w' w.heap.size (fun _ => True) (.slice Ao4 t399.length co4) t399) ∧ As9 (Below w.heap.size w w'))
 case atStart => exact ⟨(0), e2_, H', ⟨Nat.le_refl _⟩, ⟨kQ_ HO401.out⟩, ⟨hB_⟩⟩
 case round =>
  clear H';try clear p2
  try clear c3
  obtain ⟨x8_1, rfl, HA, HK1, HO_6, HB⟩ := hrel;cases gk with
  | zero => exact absurd HA.out (by simp [impl_TextOk.l0])
  | succ k1 =>
   have H := HA.out;clear HA;simp only [impl_TextOk.l0] at H;rcases ic_ H with ⟨c5, H⟩ | ⟨c5, H⟩
   ·have c5b0 := dE_ c5;clear c5;obtain ⟨c6, H⟩ := ifn_ H;have c6b0 := dE_ c6;clear c6;obtain ⟨c7, H⟩ := ifn_ H;have c7b0 := dE_ c7;clear c7;obtain ⟨t403, A8, H⟩ := ob_ H;(try dsimp only at H)
    by_cases c9 : t403 = true
    ·subst c9;rw [if_pos rfl] at H;have H' := A_ H;clear H;have p402 : 0 ≤ (x8_1 : Int) := dT_;have q402 : x8_1 < (t399.length : Int) := dT_;obtain ⟨ad402, e402, hx402_0⟩ := Kd.at_int (Kd.R_reads' HO_6.out).2.2 x8_1 p402 q402;cases e402;replace p402 := eq_true p402;replace q402 := eq_true q402;go_wp2_with (first | ((with_reducible refine gC_ 67 ?_); refine gL_ 13 Tryz.func67 #[.int .i64 (rd t399 x8_1)] ?_; refine dm_ (impl_IsText.calls (rd t399 x8_1) true _ A8.out) fun nd => ?_))
     go_roundg k1
     case measure => have := HK1.out; omega
     case rel => exact ⟨(wrap64 (x8_1 + 1)), e2_, H', ⟨by have := HK1.out; omega⟩, ⟨kQ_ HO_6.out⟩, ⟨hB_⟩⟩
    ·replace c9 := bF_ c9;subst c9;rw [if_neg nF_] at H;obtain rfl := sI_ H;have p402 : 0 ≤ (x8_1 : Int) := dT_;have q402 : x8_1 < (t399.length : Int) := dT_;obtain ⟨ad402, e402, hx402_0⟩ := Kd.at_int (Kd.R_reads' HO_6.out).2.2 x8_1 p402 q402;cases e402;replace p402 := eq_true p402;replace q402 := eq_true q402;go_wp2_with (first | ((with_reducible refine gC_ 67 ?_); refine gL_ 13 Tryz.func67 #[.int .i64 (rd t399 x8_1)] ?_; refine dm_ (impl_IsText.calls (rd t399 x8_1) false _ A8.out) fun nd => ?_))
     go_ret
     exact ⟨e1_, hB_⟩
   ·have c5b0 := dF_ c5;clear c5;obtain ⟨t404, A10, H⟩ := ob_ H;obtain rfl := sI_ H;go_wp2_with (first | ((with_reducible refine gC_ 83 ?_); refine gL_ 17 Tryz.func83 #[.string a0] ?_; (with_reducible refine (impl_CleanOk.calls k1 a0 t404 _ A10.out).mono ?_); rintro e w11 ⟨rfl, hb⟩; refine ⟨_, rfl, ?_⟩; replace HO_6 := A_ (Kd.R_below (kQ_ HO_6.out) hb); replace HB := bS_ hb; clear hb))
    go_ret
    exact ⟨e1_, hB_⟩
def strings_Contains.f (a0 : BA) (a1 : BA) : Option Bool := if a0.size < 4294967281 then some (Lib.contains a0.data.toList a1.data.toList) else none
theorem strings_Contains.calls (a0 : BA) (a1 : BA) (r : Bool) (w : World) (hL : LibOk w) (h : strings_Contains.f a0 a1 = some r) :
  Calls Tryz.prog 128 #[.string a0, .string a1] w fun e w' => e = .returned (.bool r) ∧ Drawn0 w w' := by
 unfold strings_Contains.f at h;have hs : a0.size < 4294967281 := by
  by_cases hs : a0.size < 4294967281
  ·exact hs
  ·rw [if_neg hs] at h; cases h
 rw [if_pos hs] at h;obtain rfl := sI_ h;obtain ⟨m, hm⟩ := hL.maxLen;exact (Tryz.strings_Contains a0 a1 m w hs hm).mono fun e w' hh => ⟨hh.1, by rw [hh.2]; exact Drawn0.refl _⟩
def impl_NoteOk.f (k : Nat) (a0 : BA) : Option (Bool) := (impl_TextOk.f k a0).bind fun t405 => (if t405 = true then ((strings_Contains.f a0 (⟨#[13]⟩ : BA)).bind fun t406 => (if t406 = true then (some false) else ((strings_Contains.f a0 (⟨#[45, 45]⟩ : BA)).bind fun t407 => (if t407 = true then (some false) else ((strings_HasSuffix.f a0 (⟨#[45]⟩ : BA)).bind fun t408 => (some (!t408))))))) else (some false))
theorem impl_NoteOk.mono : ∀ a0 k, LeO (impl_NoteOk.f k a0) (impl_NoteOk.f (k + 1) a0) := by
 intro a0 k;unfold impl_NoteOk.f;with_reducible repeat' first | exact impl_TextOk.mono _ _ | apply LeO.refl | apply LeO.none | apply LeO.ite | apply LeO.bind | intro
theorem impl_NoteOk.calls (k : Nat) (a0 : BA) (r : Bool) (w : World) (hL : LibOk w) (h : impl_NoteOk.f k a0 = some r) :
  Calls Tryz.prog 79 #[.string a0] w fun e w' => e = .returned (.bool r) ∧ Below w.heap.size w w' := by
 have HB := A_ (Below.refl w.heap.size w);have H : ((impl_TextOk.f k a0).bind fun t405 => (if t405 = true then ((strings_Contains.f a0 (⟨#[13]⟩ : BA)).bind fun t406 => (if t406 = true then (some false) else ((strings_Contains.f a0 (⟨#[45, 45]⟩ : BA)).bind fun t407 => (if t407 = true then (some false) else ((strings_HasSuffix.f a0 (⟨#[45]⟩ : BA)).bind fun t408 => (some (!t408))))))) else (some false))) = some r := h;clear h;obtain ⟨t405, A2, H⟩ := ob_ H;(try dsimp only at H)
 by_cases c3 : t405 = true
 ·subst c3;rw [if_pos rfl] at H;obtain ⟨t406, A4, H⟩ := ob_ H;(try dsimp only at H)
  by_cases c5 : t406 = true
  ·subst c5;rw [if_pos rfl] at H;obtain rfl := sI_ H;go_enter Tryz.func79, Tryz.ntmps79
   go_wp2_with (first | ((with_reducible refine gC_ 30 ?_); refine gL_ 4 Tryz.func30 #[.string a0] ?_; refine bm_ (impl_TextOk.calls k a0 true _ A2.out) ?_; clear HB; intro w6 HB) | (go_at_call 128; (with_reducible refine (strings_Contains.calls a0 (⟨#[13]⟩ : BA) true _ ?side1 A4.out).mono ?_); (case side1 => first | exact hL | exact LibOk.below hL hB_); rintro e w' ⟨rfl, ⟨nd, rfl⟩⟩))
   go_ret
   exact ⟨e1_, hB_⟩
  ·replace c5 := bF_ c5;subst c5;rw [if_neg nF_] at H;obtain ⟨t407, A7, H⟩ := ob_ H;(try dsimp only at H)
   by_cases c8 : t407 = true
   ·subst c8;rw [if_pos rfl] at H;obtain rfl := sI_ H;go_enter Tryz.func79, Tryz.ntmps79
    go_wp2_with (first | ((with_reducible refine gC_ 30 ?_); refine gL_ 4 Tryz.func30 #[.string a0] ?_; refine bm_ (impl_TextOk.calls k a0 true _ A2.out) ?_; clear HB; intro w9 HB) | (go_at_call 128; (with_reducible refine (strings_Contains.calls a0 (⟨#[13]⟩ : BA) false _ ?side1 A4.out).mono ?_); (case side1 => first | exact hL | exact LibOk.below hL hB_); rintro e w' ⟨rfl, ⟨nd, rfl⟩⟩) | (go_at_call 128; (with_reducible refine (strings_Contains.calls a0 (⟨#[45, 45]⟩ : BA) true _ ?side1 A7.out).mono ?_); (case side1 => first | exact hL | exact LibOk.below hL hB_); rintro e w' ⟨rfl, ⟨nd, rfl⟩⟩))
    go_ret
    exact ⟨e1_, hB_⟩
   ·replace c8 := bF_ c8;subst c8;rw [if_neg nF_] at H;obtain ⟨t408, A10, H⟩ := ob_ H;obtain rfl := sI_ H;go_enter Tryz.func79, Tryz.ntmps79
    go_wp2_with (first | ((with_reducible refine gC_ 30 ?_); refine gL_ 4 Tryz.func30 #[.string a0] ?_; refine bm_ (impl_TextOk.calls k a0 true _ A2.out) ?_; clear HB; intro w11 HB) | (go_at_call 128; (with_reducible refine (strings_Contains.calls a0 (⟨#[13]⟩ : BA) false _ ?side1 A4.out).mono ?_); (case side1 => first | exact hL | exact LibOk.below hL hB_); rintro e w' ⟨rfl, ⟨nd, rfl⟩⟩) | (go_at_call 128; (with_reducible refine (strings_Contains.calls a0 (⟨#[45, 45]⟩ : BA) false _ ?side1 A7.out).mono ?_); (case side1 => first | exact hL | exact LibOk.below hL hB_); rintro e w' ⟨rfl, ⟨nd, rfl⟩⟩) | (go_at_call 72; (with_reducible refine (strings_HasSuffix.calls a0 (⟨#[45]⟩ : BA) t408 _ A10.out).mono ?_); rintro e w' ⟨rfl, ⟨nd, rfl⟩⟩))
    go_ret
    exact ⟨e1_, hB_⟩
 ·replace c3 := bF_ c3;subst c3;rw [if_neg nF_] at H;obtain rfl := sI_ H;go_enter Tryz.func79, Tryz.ntmps79
  go_wp2_with (first | ((with_reducible refine gC_ 30 ?_); refine gL_ 4 Tryz.func30 #[.string a0] ?_; refine bm_ (impl_TextOk.calls k a0 false _ A2.out) ?_; clear HB; intro w12 HB))
  go_ret
  exact ⟨e1_, hB_⟩
def impl_XmlNote.f (k : Nat) (a0 : BA) (a1 : Int) : Option (ByteArray × Int) := (impl_inRange.f a1 0 (wrap64 ((a0.size : Int) - 1))).bind fun t409 => (if t409 = true then (if 0 ≤ a1 then (if a1 ≤ (a0.size : Int) then ((strings_CutPrefix.f (a0.extract (a1 : Int).toNat a0.size) (⟨#[60, 33, 45, 45]⟩ : BA)).bind fun bt410 => ((strings_Index.f bt410.1 (⟨#[45, 45]⟩ : BA)).bind fun t412 => (if bt410.2 = true then (if t412 < 0 then (some ((⟨#[]⟩ : BA), (-1))) else (if 0 ≤ t412 then (if t412 ≤ (bt410.1.size : Int) then ((impl_NoteOk.f k (bt410.1.extract 0 (t412 : Int).toNat)).bind fun t413 => (if t413 = true then ((strings_HasPrefix.f (bt410.1.extract (t412 : Int).toNat bt410.1.size) (⟨#[45, 45, 62]⟩ : BA)).bind fun t414 => (if t414 = true then (some (bt410.1.extract 0 (t412 : Int).toNat, wrap64 ((wrap64 ((wrap64 (a1 + 4)) + t412)) + 3))) else (some ((⟨#[]⟩ : BA), (-1))))) else (some ((⟨#[]⟩ : BA), (-1))))) else (none)) else (none))) else (some ((⟨#[]⟩ : BA), (-1)))))) else (none)) else (none)) else (some ((⟨#[]⟩ : BA), (-1))))
theorem impl_XmlNote.mono : ∀ a0 a1 k, LeO (impl_XmlNote.f k a0 a1) (impl_XmlNote.f (k + 1) a0 a1) := by
 intro a0 a1 k;unfold impl_XmlNote.f;with_reducible repeat' first | exact impl_NoteOk.mono _ _ | apply LeO.refl | apply LeO.none | apply LeO.ite | apply LeO.bind | intro
theorem impl_XmlNote.calls (k : Nat) (a0 : BA) (a1 : Int) (r1 : BA) (r2 : Int) (w : World) (hL : LibOk w) (h : impl_XmlNote.f k a0 a1 = some (r1, r2)) :
  Calls Tryz.prog 28 #[.string a0, .int .i64 a1] w fun e w' => e = .returned (.tuple #[.string r1, .int .i64 r2]) ∧ Below w.heap.size w w' := by
 have HB := A_ (Below.refl w.heap.size w);have H : ((impl_inRange.f a1 0 (wrap64 ((a0.size : Int) - 1))).bind fun t409 => (if t409 = true then (if 0 ≤ a1 then (if a1 ≤ (a0.size : Int) then ((strings_CutPrefix.f (a0.extract (a1 : Int).toNat a0.size) (⟨#[60, 33, 45, 45]⟩ : BA)).bind fun bt410 => ((strings_Index.f bt410.1 (⟨#[45, 45]⟩ : BA)).bind fun t412 => (if bt410.2 = true then (if t412 < 0 then (some ((⟨#[]⟩ : BA), (-1))) else (if 0 ≤ t412 then (if t412 ≤ (bt410.1.size : Int) then ((impl_NoteOk.f k (bt410.1.extract 0 (t412 : Int).toNat)).bind fun t413 => (if t413 = true then ((strings_HasPrefix.f (bt410.1.extract (t412 : Int).toNat bt410.1.size) (⟨#[45, 45, 62]⟩ : BA)).bind fun t414 => (if t414 = true then (some (bt410.1.extract 0 (t412 : Int).toNat, wrap64 ((wrap64 ((wrap64 (a1 + 4)) + t412)) + 3))) else (some ((⟨#[]⟩ : BA), (-1))))) else (some ((⟨#[]⟩ : BA), (-1))))) else (none)) else (none))) else (some ((⟨#[]⟩ : BA), (-1)))))) else (none)) else (none)) else (some ((⟨#[]⟩ : BA), (-1))))) = some (r1, r2) := h;clear h;obtain ⟨t409, A3, H⟩ := ob_ H;(try dsimp only at H)
 by_cases c4 : t409 = true
 ·subst c4;rw [if_pos rfl] at H;obtain ⟨c5, H⟩ := ifn_ H;have c5b0 := eq_true c5;have c5b1 := dE_ c5;clear c5;obtain ⟨c6, H⟩ := ifn_ H;have c6b0 := eq_true c6;have c6b1 := dE_ c6;clear c6;obtain ⟨⟨t410, t411⟩, A7, H⟩ := ob_ H;(try dsimp only at H)
  obtain ⟨t412, A8, H⟩ := ob_ H;(try dsimp only at H)
  by_cases c9 : t411 = true
  ·subst c9;rw [if_pos rfl] at H;rcases ic_ H with ⟨c10, H⟩ | ⟨c10, H⟩
   ·have c10b0 := dE_ c10;clear c10;obtain ⟨rfl, rfl⟩ := pi_ H;go_enter Tryz.func28, Tryz.ntmps28
    go_wp2_with (first | ((with_reducible refine gC_ 53 ?_); refine gL_ 13 Tryz.func53 #[.int .i64 a1, .int .i64 0, .int .i64 (wrap64 ((a0.size : Int) - 1))] ?_; (with_reducible refine (impl_inRange.calls a1 0 (wrap64 ((a0.size : Int) - 1)) true _ A3.out).mono ?_); rintro e w' ⟨rfl, ⟨nd, rfl⟩⟩; refine ⟨_, rfl, ?_⟩) | ((with_reducible refine gC_ 63 ?_); refine gL_ 19 Tryz.func63 #[.string (a0.extract (a1 : Int).toNat a0.size), .string (⟨#[60, 33, 45, 45]⟩ : BA)] ?_; refine dm_ (strings_CutPrefix.calls (a0.extract (a1 : Int).toNat a0.size) (⟨#[60, 33, 45, 45]⟩ : BA) t410 true _ A7.out) fun nd => ?_) | ((with_reducible refine gC_ 78 ?_); refine gL_ 23 Tryz.func78 #[.string t410, .string (⟨#[45, 45]⟩ : BA)] ?_; (with_reducible refine (strings_Index.calls t410 (⟨#[45, 45]⟩ : BA) t412 _ ?side1 A8.out).mono ?_); (case side1 => first | exact hL | exact LibOk.below hL hB_); rintro e w' ⟨rfl, ⟨nd, rfl⟩⟩; refine ⟨_, rfl, ?_⟩))
    go_ret2
    exact ⟨e1_, hB_⟩
   ·have c10b0 := dF_ c10;clear c10;obtain ⟨c11, H⟩ := ifn_ H;have c11b0 := eq_true c11;have c11b1 := dE_ c11;clear c11;obtain ⟨c12, H⟩ := ifn_ H;have c12b0 := eq_true c12;have c12b1 := dE_ c12;clear c12;obtain ⟨t413, A13, H⟩ := ob_ H;(try dsimp only at H)
    by_cases c14 : t413 = true
    ·subst c14;rw [if_pos rfl] at H;have c15b0 := eq_true (dT_ : 0 ≤ t412);have c16b0 := eq_true (dT_ : t412 ≤ (t410.size : Int));obtain ⟨t414, A17, H⟩ := ob_ H;(try dsimp only at H)
     by_cases c18 : t414 = true
     ·subst c18;rw [if_pos rfl] at H;have c19b0 := eq_true (dT_ : 0 ≤ t412);have c20b0 := eq_true (dT_ : t412 ≤ (t410.size : Int));obtain ⟨rfl, rfl⟩ := pi_ H;go_enter Tryz.func28, Tryz.ntmps28
      go_wp2_with (first | ((with_reducible refine gC_ 53 ?_); refine gL_ 13 Tryz.func53 #[.int .i64 a1, .int .i64 0, .int .i64 (wrap64 ((a0.size : Int) - 1))] ?_; (with_reducible refine (impl_inRange.calls a1 0 (wrap64 ((a0.size : Int) - 1)) true _ A3.out).mono ?_); rintro e w' ⟨rfl, ⟨nd, rfl⟩⟩; refine ⟨_, rfl, ?_⟩) | ((with_reducible refine gC_ 63 ?_); refine gL_ 19 Tryz.func63 #[.string (a0.extract (a1 : Int).toNat a0.size), .string (⟨#[60, 33, 45, 45]⟩ : BA)] ?_; refine dm_ (strings_CutPrefix.calls (a0.extract (a1 : Int).toNat a0.size) (⟨#[60, 33, 45, 45]⟩ : BA) t410 true _ A7.out) fun nd => ?_) | ((with_reducible refine gC_ 78 ?_); refine gL_ 23 Tryz.func78 #[.string t410, .string (⟨#[45, 45]⟩ : BA)] ?_; (with_reducible refine (strings_Index.calls t410 (⟨#[45, 45]⟩ : BA) t412 _ ?side1 A8.out).mono ?_); (case side1 => first | exact hL | exact LibOk.below hL hB_); rintro e w' ⟨rfl, ⟨nd, rfl⟩⟩; refine ⟨_, rfl, ?_⟩) | (go_at_call 79; (with_reducible refine (impl_NoteOk.calls k (t410.extract 0 (t412 : Int).toNat) true _ ?side1 A13.out).mono ?_); (case side1 => first | exact hL | exact LibOk.below hL hB_); rintro e w21 ⟨rfl, hb⟩; replace HB := bS_ hb; clear hb) | (go_at_call 76; (with_reducible refine (strings_HasPrefix.calls (t410.extract (t412 : Int).toNat t410.size) (⟨#[45, 45, 62]⟩ : BA) true _ A17.out).mono ?_); rintro e w' ⟨rfl, ⟨nd, rfl⟩⟩))
      go_ret2
      exact ⟨e1_, hB_⟩
     ·replace c18 := bF_ c18;subst c18;rw [if_neg nF_] at H;obtain ⟨rfl, rfl⟩ := pi_ H;go_enter Tryz.func28, Tryz.ntmps28
      go_wp2_with (first | ((with_reducible refine gC_ 53 ?_); refine gL_ 13 Tryz.func53 #[.int .i64 a1, .int .i64 0, .int .i64 (wrap64 ((a0.size : Int) - 1))] ?_; (with_reducible refine (impl_inRange.calls a1 0 (wrap64 ((a0.size : Int) - 1)) true _ A3.out).mono ?_); rintro e w' ⟨rfl, ⟨nd, rfl⟩⟩; refine ⟨_, rfl, ?_⟩) | ((with_reducible refine gC_ 63 ?_); refine gL_ 19 Tryz.func63 #[.string (a0.extract (a1 : Int).toNat a0.size), .string (⟨#[60, 33, 45, 45]⟩ : BA)] ?_; refine dm_ (strings_CutPrefix.calls (a0.extract (a1 : Int).toNat a0.size) (⟨#[60, 33, 45, 45]⟩ : BA) t410 true _ A7.out) fun nd => ?_) | ((with_reducible refine gC_ 78 ?_); refine gL_ 23 Tryz.func78 #[.string t410, .string (⟨#[45, 45]⟩ : BA)] ?_; (with_reducible refine (strings_Index.calls t410 (⟨#[45, 45]⟩ : BA) t412 _ ?side1 A8.out).mono ?_); (case side1 => first | exact hL | exact LibOk.below hL hB_); rintro e w' ⟨rfl, ⟨nd, rfl⟩⟩; refine ⟨_, rfl, ?_⟩) | (go_at_call 79; (with_reducible refine (impl_NoteOk.calls k (t410.extract 0 (t412 : Int).toNat) true _ ?side1 A13.out).mono ?_); (case side1 => first | exact hL | exact LibOk.below hL hB_); rintro e w22 ⟨rfl, hb⟩; replace HB := bS_ hb; clear hb) | (go_at_call 76; (with_reducible refine (strings_HasPrefix.calls (t410.extract (t412 : Int).toNat t410.size) (⟨#[45, 45, 62]⟩ : BA) false _ A17.out).mono ?_); rintro e w' ⟨rfl, ⟨nd, rfl⟩⟩))
      go_ret2
      exact ⟨e1_, hB_⟩
    ·replace c14 := bF_ c14;subst c14;rw [if_neg nF_] at H;obtain ⟨rfl, rfl⟩ := pi_ H;go_enter Tryz.func28, Tryz.ntmps28
     go_wp2_with (first | ((with_reducible refine gC_ 53 ?_); refine gL_ 13 Tryz.func53 #[.int .i64 a1, .int .i64 0, .int .i64 (wrap64 ((a0.size : Int) - 1))] ?_; (with_reducible refine (impl_inRange.calls a1 0 (wrap64 ((a0.size : Int) - 1)) true _ A3.out).mono ?_); rintro e w' ⟨rfl, ⟨nd, rfl⟩⟩; refine ⟨_, rfl, ?_⟩) | ((with_reducible refine gC_ 63 ?_); refine gL_ 19 Tryz.func63 #[.string (a0.extract (a1 : Int).toNat a0.size), .string (⟨#[60, 33, 45, 45]⟩ : BA)] ?_; refine dm_ (strings_CutPrefix.calls (a0.extract (a1 : Int).toNat a0.size) (⟨#[60, 33, 45, 45]⟩ : BA) t410 true _ A7.out) fun nd => ?_) | ((with_reducible refine gC_ 78 ?_); refine gL_ 23 Tryz.func78 #[.string t410, .string (⟨#[45, 45]⟩ : BA)] ?_; (with_reducible refine (strings_Index.calls t410 (⟨#[45, 45]⟩ : BA) t412 _ ?side1 A8.out).mono ?_); (case side1 => first | exact hL | exact LibOk.below hL hB_); rintro e w' ⟨rfl, ⟨nd, rfl⟩⟩; refine ⟨_, rfl, ?_⟩) | (go_at_call 79; (with_reducible refine (impl_NoteOk.calls k (t410.extract 0 (t412 : Int).toNat) false _ ?side1 A13.out).mono ?_); (case side1 => first | exact hL | exact LibOk.below hL hB_); rintro e w23 ⟨rfl, hb⟩; replace HB := bS_ hb; clear hb))
     go_ret2
     exact ⟨e1_, hB_⟩
  ·replace c9 := bF_ c9;subst c9;rw [if_neg nF_] at H;obtain ⟨rfl, rfl⟩ := pi_ H;go_enter Tryz.func28, Tryz.ntmps28
   go_wp2_with (first | ((with_reducible refine gC_ 53 ?_); refine gL_ 13 Tryz.func53 #[.int .i64 a1, .int .i64 0, .int .i64 (wrap64 ((a0.size : Int) - 1))] ?_; (with_reducible refine (impl_inRange.calls a1 0 (wrap64 ((a0.size : Int) - 1)) true _ A3.out).mono ?_); rintro e w' ⟨rfl, ⟨nd, rfl⟩⟩; refine ⟨_, rfl, ?_⟩) | ((with_reducible refine gC_ 63 ?_); refine gL_ 19 Tryz.func63 #[.string (a0.extract (a1 : Int).toNat a0.size), .string (⟨#[60, 33, 45, 45]⟩ : BA)] ?_; refine dm_ (strings_CutPrefix.calls (a0.extract (a1 : Int).toNat a0.size) (⟨#[60, 33, 45, 45]⟩ : BA) t410 false _ A7.out) fun nd => ?_) | ((with_reducible refine gC_ 78 ?_); refine gL_ 23 Tryz.func78 #[.string t410, .string (⟨#[45, 45]⟩ : BA)] ?_; (with_reducible refine (strings_Index.calls t410 (⟨#[45, 45]⟩ : BA) t412 _ ?side1 A8.out).mono ?_); (case side1 => first | exact hL | exact LibOk.below hL hB_); rintro e w' ⟨rfl, ⟨nd, rfl⟩⟩; refine ⟨_, rfl, ?_⟩))
   go_ret2
   exact ⟨e1_, hB_⟩
 ·replace c4 := bF_ c4;subst c4;rw [if_neg nF_] at H;obtain ⟨rfl, rfl⟩ := pi_ H;go_enter Tryz.func28, Tryz.ntmps28
  go_wp2_with (first | ((with_reducible refine gC_ 53 ?_); refine gL_ 13 Tryz.func53 #[.int .i64 a1, .int .i64 0, .int .i64 (wrap64 ((a0.size : Int) - 1))] ?_; (with_reducible refine (impl_inRange.calls a1 0 (wrap64 ((a0.size : Int) - 1)) false _ A3.out).mono ?_); rintro e w' ⟨rfl, ⟨nd, rfl⟩⟩; refine ⟨_, rfl, ?_⟩))
  go_ret2
  exact ⟨e1_, hB_⟩
theorem blk_six {w : World} {g : Nat} {t : TypeId} {a0 a1 a2 a3 a4 a5 : Value} (h : w.heap[g]? = some (.cells #[a0, a1, a2, a3, a4, a5] t (0, 0))) (u0 u1 u2 u3 u4 u5 : Value) :
  ((((((w.setCell ⟨g, 0, none⟩ u0).setCell ⟨g, 1, none⟩ u1).setCell ⟨g, 2, none⟩ u2).setCell ⟨g, 3, none⟩ u3).setCell ⟨g, 4, none⟩ u4).setCell ⟨g, 5, none⟩ u5).heap[g]? = some (.cells #[u0, u1, u2, u3, u4, u5] t (0, 0)) :=
 blk_put (blk_put (blk_put (blk_put (blk_put (blk_put h 0 u0 rfl) 1 u1 rfl) 2 u2 rfl) 3 u3 rfl) 4 u4 rfl) 5 u5 rfl
theorem st_six {w0 w : World} {g gx : Nat} {s : BA} {p : Int} {b : Bool} (h : IsS93 w0 w g s p b) (hne : g ≠ gx) (u0 u1 u2 u3 u4 u5 : Value) :
  IsS93 w0 ((((((w.setCell ⟨gx, 0, none⟩ u0).setCell ⟨gx, 1, none⟩ u1).setCell ⟨gx, 2, none⟩ u2).setCell ⟨gx, 3, none⟩ u3).setCell ⟨gx, 4, none⟩ u4).setCell ⟨gx, 5, none⟩ u5) g s p b :=
 (((((h.far (p := ⟨gx, 0, none⟩) hne u0).far (p := ⟨gx, 1, none⟩) hne u1).far (p := ⟨gx, 2, none⟩) hne u2).far (p := ⟨gx, 3, none⟩) hne u3).far (p := ⟨gx, 4, none⟩) hne u4).far (p := ⟨gx, 5, none⟩) hne u5
theorem below_six {w0 w : World} {gx : Nat} (h : Below w0.heap.size w0 w) (hg : w0.heap.size ≤ gx) (u0 u1 u2 u3 u4 u5 : Value) :
  Below w0.heap.size w0 ((((((w.setCell ⟨gx, 0, none⟩ u0).setCell ⟨gx, 1, none⟩ u1).setCell ⟨gx, 2, none⟩ u2).setCell ⟨gx, 3, none⟩ u3).setCell ⟨gx, 4, none⟩ u4).setCell ⟨gx, 5, none⟩ u5) :=
 below_set (below_set (below_set (below_set (below_set (below_set h hg) hg) hg) hg) hg) hg
theorem keep_six {w W : World} {g gx : Nat} (h : KeepBut w W g none) (hg : w.heap.size ≤ gx) (u0 u1 u2 u3 u4 u5 : Value) :
  KeepBut w ((((((W.setCell ⟨gx, 0, none⟩ u0).setCell ⟨gx, 1, none⟩ u1).setCell ⟨gx, 2, none⟩ u2).setCell ⟨gx, 3, none⟩ u3).setCell ⟨gx, 4, none⟩ u4).setCell ⟨gx, 5, none⟩ u5) g none :=
 keep_far (p := ⟨gx, 5, none⟩) (keep_far (p := ⟨gx, 4, none⟩) (keep_far (p := ⟨gx, 3, none⟩) (keep_far (p := ⟨gx, 2, none⟩) (keep_far (p := ⟨gx, 1, none⟩) (keep_far (p := ⟨gx, 0, none⟩) h hg u0) hg u1) hg u2) hg u3) hg u4) hg u5
def impl_reader_note.f (k : Nat) (s : BA) (p : Int) (b : Bool) : Option (Int × ByteArray × ByteArray × Int × Bool) :=
 (impl_XmlNote.f k s p).bind fun q => if q.2 < 0 then some (0, ⟨#[]⟩, s, p, true) else some (3, q.1, s, q.2, b)
theorem impl_reader_note.mono : ∀ s p b k, LeO (impl_reader_note.f k s p b) (impl_reader_note.f (k + 1) s p b) := fun s p b k => LeO.bind (impl_XmlNote.mono _ _ _) (fun _ => LeO.refl _)
theorem impl_reader_note.calls (k : Nat) (g : Nat) (s : BA) (p : Int) (b : Bool) (r0 : Int) (r1 r2 : BA) (r3 : Int) (r4 : Bool) (w0 w : World) (hI : IsS93 w0 w g s p b) (hB : Below w0.heap.size w0 w) (hL : LibOk w0) (h : impl_reader_note.f k s p b = some (r0, r1, r2, r3, r4)) :
  Calls Tryz.prog 96 #[.pointer (some ⟨g, 0, none⟩)] w fun e w' => e = .returned (.agg #[.int .i64 r0, .int .i64 0, .string ⟨#[]⟩, .slice none 0 0, .string r1, .slice none 0 0]) ∧ IsS93 w0 w' g r2 r3 r4 ∧ Below w0.heap.size w0 w' ∧ KeepBut w w' g none := by
 unfold impl_reader_note.f at h;have hu := Tryz.underlying43;obtain ⟨q, hq, h⟩ := oB_ h;have HQ := A_ hq;have HH := A_ h;have HLL := A_ hL;clear hq h hL;have hz : (.cells #[.int .i64 0, .int .i64 0, .string ⟨#[]⟩, .slice none 0 0, .string ⟨#[]⟩, .slice none 0 0] 43 : Obj) = .cells #[.int .i64 0, .int .i64 0, .string ⟨#[]⟩, .slice none 0 0, .string ⟨#[]⟩, .slice none 0 0] 43 := rfl;clear hz;obtain ⟨W1, hW1⟩ : ∃ W1, W1 = w.alloc (.cells #[.int .i64 0, .int .i64 0, .string ⟨#[]⟩, .slice none 0 0, .string ⟨#[]⟩, .slice none 0 0] 43) := ⟨_, rfl⟩;have HI1 : As9 (IsS93 w0 W1.drew g s p b) := ⟨by rw [hW1]; exact (hI.alloc _).drew⟩;have HB1 : As9 (Below w0.heap.size w0 W1.drew) := ⟨by rw [hW1]; exact below_drew (bA9 hB _)⟩;have HK1 : As9 (KeepBut w W1.drew g none) := ⟨by rw [hW1]; exact keep_drew (keep_alloc (KeepBut.refl w g none) _)⟩;have HX1 : As9 (W1.drew.heap[w.heap.size]? = some (.cells #[.int .i64 0, .int .i64 0, .string ⟨#[]⟩, .slice none 0 0, .string ⟨#[]⟩, .slice none 0 0] 43 (0, 0))) := ⟨by rw [hW1]; exact heap_alloc_new w _⟩;obtain ⟨gx, hgx⟩ : ∃ gx, gx = w.heap.size := ⟨_, rfl⟩;rw [← hgx] at HX1;have HGX : As9 (gx = w.heap.size ∧ g < gx) := ⟨hgx, by rw [hgx]; exact hI.lt⟩;obtain ⟨HG, hge⟩ := HI1.out;have hc0 := cellS93_0 HG;have hc1 := cellS93_1 HG;clear HG hge hB hI;go_enter Tryz.func96, Tryz.ntmps96
 go_wp2
 rw [← hW1, ← hgx];clear hW1 hgx;refine start_ (n := 14) (S := fun w' => w'.cell? ⟨g, 0, none⟩ = some (.string s) ∧ w'.cell? ⟨g, 1, none⟩ = some (.int .i64 p)) (ds := [8]) (tS 14 0) (by kernel_rfl) rfl rfl ⟨hc0, hc1⟩ (fun hHeld => ?_);generalize World.drew _ = wr0 at HI1 HB1 HK1 HX1 hHeld ⊢;iterate 3 refine pq_ ?_
 refine pg_ 4 (tB 14 23) ?_;refine pg_ 5 (tB 14 55) ?_;refine pg_ 6 (tB 14 119) ?_;refine tg_ 3 (tS 14 7) rfl (by rintro w' ⟨s0, s1⟩; go_simp; with_reducible rfl) ?_;refine tq_ rfl (by rintro w' ⟨s0, s1⟩; go_simp; with_reducible rfl) ?_;refine last_ (i := 8) (N := some 14) (tS 14 9) rfl rfl (by kernel_rfl) de_ (fun K hK => ?_);refine gS_ Tryz.func28 #[.string s, .int .i64 p] ?_;with_reducible refine (impl_XmlNote.calls k s p q.1 q.2 _ (HLL.out.below HB1.out) HQ.out).mono ?_
 rintro e wr8 ⟨rfl, hb⟩;refine ⟨_, rfl, ?_⟩;have HI2 := A_ (HI1.out.below hb);have HB2 := A_ (below_step HB1.out hb);have HK2 := A_ (HK1.out.trans (KeepBut.of_below hb g none) (.inl rfl));have HX2 := A_ (blk_below HX1.out hb);clear hb HI1 HB1 HK1 HX1;refine hK.out _ _ ?_;clear hK K;refine nm_ ?_;iterate 5 refine pq_ ?_
 refine done_ (by kernel_rfl) ?_;obtain ⟨HG, hge⟩ := HI2.out;have hc0' := cellS93_0 HG;have hc1' := cellS93_1 HG;have hc2' := cellS93_2 HG;have hf1 := blk_frozen HG 1;have hf2 := blk_frozen HG 2;clear HG hge;obtain ⟨hz0, hz1, hz2, hz3, hz4, hz5, hy0, hy1, hy2, hy3, hy4, hy5⟩ := bk6_ HX2.out;have hne1 : (g = gx) = False := eq_false (Nat.ne_of_lt HGX.out.2);have hne2 : (gx = g) = False := eq_false (Nat.ne_of_gt HGX.out.2);have H := HH.out;rcases ic_ H with ⟨c, H⟩ | ⟨c, H⟩
 ·simp only [Option.some.injEq, Prod.mk.injEq] at H;obtain ⟨rfl, rfl, rfl, rfl, rfl⟩ := H;go_wp2
  refine bodyPost_ret (results_single rfl (.cell gx 43 #[.int .i64 0, .int .i64 0, .string ⟨#[]⟩, .slice none 0 0, .string ⟨#[]⟩, .slice none 0 0] (0, 0) _ rfl (blk_six (blk_far HX2.out (p := ⟨g, 2, none⟩) (Nat.ne_of_gt HGX.out.2) _) _ _ _ _ _ _) hu rfl (by kernel_rfl) .nil)) rfl ?_;exact ⟨rfl, st_six (HI2.out.set_2 _) (Nat.ne_of_lt HGX.out.2) _ _ _ _ _ _, below_six (below_set HB2.out HI2.out.2) (Nat.le_trans (Nat.le_trans HI2.out.2 (Nat.le_of_lt HGX.out.2)) (Nat.le_refl _)) _ _ _ _ _ _, keep_six (HK2.out.set_ _ _) (Nat.le_of_eq HGX.out.1.symm) _ _ _ _ _ _⟩
 ·simp only [Option.some.injEq, Prod.mk.injEq] at H;obtain ⟨rfl, rfl, rfl, rfl, rfl⟩ := H;go_wp2
  refine bodyPost_ret (results_single rfl (.cell gx 43 #[.int .i64 3, .int .i64 0, .string ⟨#[]⟩, .slice none 0 0, .string q.1, .slice none 0 0] (0, 0) _ rfl (blk_six (blk_far HX2.out (p := ⟨g, 1, none⟩) (Nat.ne_of_gt HGX.out.2) _) _ _ _ _ _ _) hu rfl (by kernel_rfl) .nil)) rfl ?_;exact ⟨rfl, st_six (HI2.out.set_1 _) (Nat.ne_of_lt HGX.out.2) _ _ _ _ _ _, below_six (below_set HB2.out HI2.out.2) (Nat.le_trans (Nat.le_trans HI2.out.2 (Nat.le_of_lt HGX.out.2)) (Nat.le_refl _)) _ _ _ _ _ _, keep_six (HK2.out.set_ _ _) (Nat.le_of_eq HGX.out.1.symm) _ _ _ _ _ _⟩
end Go.Proofs.YtkmmoheeoblmnaaGreatDoor.A
