-- joined by wip/tools/shake.py
import Derived.Test.YtkbbfeckieckoaaGreatDoorVScW9
import Derived.Test.YtkbbfeckieckoaaGreatDoorMSc0
import Derived.Test.YtkbbfeckieckoaaGreatDoorMSc2
import Derived.Test.YtkbbfeckieckoaaGreatDoorMSc3
import Derived.Test.YtkbbfeckieckoaaGreatDoorMSc1
set_option maxHeartbeats 16000000
set_option maxRecDepth 100000
namespace Go.Proofs.YtkbbfeckieckoaaGreatDoor.A
open Go.RowKit Go.Proofs.YtkbbfeckieckoaaGreatDoorW.PrintWords Go.Proofs.YtkbbfeckieckoaaGreatDoorW.PrintLast Go.Proofs.YtkbbfeckieckoaaGreatDoorW.PrintMore
attribute [local go_sem] max2_int min2_int max_two min_two max_three min_three max_four min_four
set_option linter.unusedVariables false
set_option linter.unusedSimpArgs false
def spec_l5Raw.f (k : Nat) (s : BA) (p : Int) (out : List S43) (nm : BA) : Option (Int × List S43) :=
 if 0 ≤ p ∧ p ≤ s.size ∧ s.size ≤ 1000000 then (spec_RawEnd.f k s p nm).bind fun te => if p ≤ te ∧ te ≤ s.size then
  (if nm.toList = [116, 105, 116, 108, 101] then spec_Refs.f k (s.extract p.toNat te.toNat) false else if nm.toList = [116, 101, 120, 116, 97, 114, 101, 97] then spec_Refs.f k (s.extract p.toNat te.toNat) false else some (s.extract p.toNat te.toNat)).bind fun tx =>
   if tx.toList = [] then some (te, out) else (appT out ⟨1, ⟨#[]⟩, [], tx, false⟩).bind fun o => some (te, o) else none
 else none
theorem spec_l5Raw.mono : ∀ s p out nm k, LeO (spec_l5Raw.f k s p out nm) (spec_l5Raw.f (k + 1) s p out nm) := fun s p out nm k => LeO.ite (LeO.bind (spec_RawEnd.mono _ _ _ _) fun te => LeO.ite (LeO.bind (LeO.ite (spec_Refs.mono _ _ _) (LeO.ite (spec_Refs.mono _ _ _) (LeO.refl _))) fun tx => LeO.refl _) (LeO.refl _)) (LeO.refl _)
theorem spec_l5Raw.calls (k : Nat) (b : Nat) (s : BA) (p : Int) (out : List S43) (nm : BA) (p' : Int) (out' : List S43) (w0 w : World) (hS : St 36 b w0 s p out w) (h : spec_l5Raw.f k s p out nm = some (p', out')) :
  Calls Tryz.prog 99 #[.pointer (some ⟨b, 0, none⟩), .string nm] w fun e w' => e = .returned (.tuple #[]) ∧ St 36 b w0 s p' out' w' := by
 have HT := A_ hS;clear hS;have hu2 := Tryz.underlying43;unfold spec_l5Raw.f at h;split at h
 case isFalse => cases h
 case isTrue hg =>
 obtain ⟨p0, p1, hs⟩ := hg;obtain ⟨te, hte, h⟩ := oB_ h;split at h
 case isFalse => cases h
 case isTrue hg =>
 obtain ⟨t0, t1⟩ := hg;obtain ⟨tx, htx, h⟩ := oB_ h;have Hte := A_ hte;have Ht := A_ htx;have HH := A_ h;clear hte htx h;have g1 := eq_true p0;have g2 := eq_true t0;have g3 := eq_true t1;obtain ⟨hc0, hc1, hf1⟩ := HT.out.sc.cells;go_enter Tryz.func99, Tryz.ntmps99
 go_wp2
 have HTd := A_ (HT.out.below (below_drew (Below.refl _ _)));clear HT hc0 hc1 hf1;refine start_ (n := 11) (S := fun w' => w'.cell? ⟨b, 0, none⟩ = some (.string s) ∧ w'.cell? ⟨b, 1, none⟩ = some (.int .i64 p)) (ds := [9]) (tS 11 0) (by kernel_rfl) rfl rfl ⟨HTd.out.sc.cells.1, HTd.out.sc.cells.2.1⟩ (fun hHeld => ?_);generalize World.drew _ = wr0 at HTd hHeld ⊢;iterate 3 refine pq_ ?_
 refine tq_ rfl (by rintro w' ⟨s0, s1⟩; go_simp; with_reducible rfl) ?_;iterate 3 refine pq_ ?_
 refine tq_ rfl (by rintro w' ⟨s0, s1⟩; go_simp; with_reducible rfl) ?_;refine pq_ ?_;refine last_ (i := 9) (N := some 15) (tS 11 10) rfl rfl (by kernel_rfl) de_ (fun K hK => ?_);refine gS_ Tryz.func90 #[.string s, .int .i64 p, .string nm] ?_;with_reducible refine (spec_RawEnd.calls k s p nm te _ Hte.out).mono ?_
 rintro e wr9 ⟨rfl, hb⟩;refine ⟨_, rfl, ?_⟩;have HT1 := A_ (HTd.out.below hb);clear hb HTd;refine hK.out _ _ ?_;clear hK K;refine nm_ ?_;refine pq_ ?_;refine done_ (by kernel_rfl) ?_;obtain ⟨hc0, hc1, hf1⟩ := HT1.out.sc.cells;go_wp2
 go_quiet (fail)
 generalize hW : World.drewN _ nq = wx;have HT2 : As9 (St 36 b w0 s p out wx) := ⟨by rw [← hW]; exact HT1.out.below (bN9 (Below.refl _ _) _)⟩;clear hW HT1 hc0 hc1 hf1;obtain ⟨hc0, hc1, hf1⟩ := HT2.out.sc.cells;have H := HH.out;have htx := Ht.out;by_cases n1 : nm.toList = [116, 105, 116, 108, 101]
 case pos =>
  rw [if_pos n1] at htx;have Htx := A_ htx;have b1 : (nm.toList == [116, 105, 116, 108, 101]) = true := bQ_ n1;clear htx Ht;go_upto_region 5 with ((go_at_call 55; (with_reducible refine (spec_Refs.calls k _ false tx _ Htx.out).mono ?_); rintro e w2 ⟨rfl, hb⟩; have HT3 := A_ (HT2.out.below hb); clear hb HT2; clear hc0 hc1 hf1; obtain ⟨hc0, hc1, hf1⟩ := HT3.out.sc.cells))
  have HT4 := A_ (HT3.out.at_ te);generalize hwe : World.setCell _ _ _ = we at HT4 ⊢;clear hwe HT3 hc0 hc1 hf1;by_cases ce : tx.toList = []
  case pos =>
   rw [if_pos ce] at H;obtain ⟨rfl, rfl⟩ := Prod.mk.inj (sI_ H);have qe : (tx.toList == []) = true := bQ_ ce;clear H HH;go_wp2
   go_end0
   exact ⟨rfl, HT4.out⟩
  case neg =>
   rw [if_neg ce] at H;have qe : (tx.toList == []) = false := bN_ ce;obtain ⟨o, ho, H⟩ := oB_ H;obtain ⟨rfl, rfl⟩ := Prod.mk.inj (sI_ H);clear H HH;obtain ⟨⟨v, gs, hsb, hrr, hnd, hlt, hout⟩, hbl⟩ := HT4.out;obtain ⟨A, c, rfl⟩ := Kd.R_slice hrr;subst hout;have HAO : As9 ((gs.map erT).length < 1000000000000 ∧ o = gs.map erT ++ [⟨1, ⟨#[]⟩, [], tx, false⟩]) := ⟨by
    unfold appT at ho;split at ho
    case isTrue hl => exact ⟨hl, (sI_ ho).symm⟩
    case isFalse => cases ho⟩
   have HLN : As9 (gs.length < 1000000000000) := ⟨by have := HAO.out.1; rw [List.length_map] at this; exact this⟩;have HSB := A_ hsb;have HRR := A_ hrr;have HND := A_ hnd;have HLT := A_ hlt;have HBL := A_ hbl;have hc2 := (blk_cell hsb 2).trans rfl;clear hsb hrr hnd hlt hbl HT4 ho;go_wp2_with (((with_reducible refine gate_builtin (b := .append) (xs := #[.tmp 44, .tmp 47]) rfl ?_); at_builtin; refine Kd.R_append kGT (w0 := we) (b + 1) rfl (.tmp 44) (.tmp 47) 22 43 (.agg #[.int .i64 0, .string ⟨#[]⟩, .slice none 0 0, .string ⟨#[]⟩, .bool false]) 72 rfl Tryz.underlying22 (by kernel_rfl) rfl de_ om_ (.slice A gs.length c) gs (⟨1, ⟨#[]⟩, [], tx, false, .slice none 0 0⟩ : GT) [.int .i64 1, .string ⟨#[]⟩, .slice none 0 0, .string tx, .bool false] (fun _ => True) (fun _ => False) rfl rfl ?aP (fun _ hk => hk.elim) ?aF ?aO ?aB ?aS ?aL ?_; (case aP => exact kGT_mkM _ _ _ (⟨1, ⟨#[]⟩, [], tx, false, .slice none 0 0⟩ : GT) (Kd.R_nil _ _ _ _ _)); (case aF => exact fun _ _ => trivial); (case aO => exact HRR.out); (case aB => exact Below.refl _ _); (case aS => have := blk_lt HSB.out; omega); (case aL => have := HLN.out; omega); intro v1 w1 hr hb hg hat; obtain ⟨A3, c3, rfl⟩ := Kd.R_slice hr; have HT9 := A_ (St.app (x := (⟨1, ⟨#[]⟩, [], tx, false, .slice none 0 0⟩ : GT)) HSB.out (fun k_ hk_ => Kd.R_base HRR.out k_ hk_) HND.out HLT.out HBL.out hr hb hg rfl); have HSB9 := A_ (blk_grown HSB.out hg (fun e => by have := Kd.R_base HRR.out b e.symm; omega)); clear hr hb hg hat hc2; have hy2 := blk_frozen HSB9.out 2; have hc2 := (blk_cell HSB9.out 2).trans rfl))
   go_end0
   rw [HAO.out.2];have h9 := HT9.out;rw [List.length_append, List.length_singleton] at h9;exact ⟨rfl, h9⟩
 case neg =>
 rw [if_neg n1] at htx;have b1 : (nm.toList == [116, 105, 116, 108, 101]) = false := bN_ n1;by_cases n2 : nm.toList = [116, 101, 120, 116, 97, 114, 101, 97]
 case pos =>
  rw [if_pos n2] at htx;have Htx := A_ htx;have b2 : (nm.toList == [116, 101, 120, 116, 97, 114, 101, 97]) = true := bQ_ n2;clear htx Ht;go_upto_region 5 with ((go_at_call 55; (with_reducible refine (spec_Refs.calls k _ false tx _ Htx.out).mono ?_); rintro e w2 ⟨rfl, hb⟩; have HT3 := A_ (HT2.out.below hb); clear hb HT2; clear hc0 hc1 hf1; obtain ⟨hc0, hc1, hf1⟩ := HT3.out.sc.cells))
  have HT4 := A_ (HT3.out.at_ te);generalize hwe : World.setCell _ _ _ = we at HT4 ⊢;clear hwe HT3 hc0 hc1 hf1;by_cases ce : tx.toList = []
  case pos =>
   rw [if_pos ce] at H;obtain ⟨rfl, rfl⟩ := Prod.mk.inj (sI_ H);have qe : (tx.toList == []) = true := bQ_ ce;clear H HH;go_wp2
   go_end0
   exact ⟨rfl, HT4.out⟩
  case neg =>
   rw [if_neg ce] at H;have qe : (tx.toList == []) = false := bN_ ce;obtain ⟨o, ho, H⟩ := oB_ H;obtain ⟨rfl, rfl⟩ := Prod.mk.inj (sI_ H);clear H HH;obtain ⟨⟨v, gs, hsb, hrr, hnd, hlt, hout⟩, hbl⟩ := HT4.out;obtain ⟨A, c, rfl⟩ := Kd.R_slice hrr;subst hout;have HAO : As9 ((gs.map erT).length < 1000000000000 ∧ o = gs.map erT ++ [⟨1, ⟨#[]⟩, [], tx, false⟩]) := ⟨by
    unfold appT at ho;split at ho
    case isTrue hl => exact ⟨hl, (sI_ ho).symm⟩
    case isFalse => cases ho⟩
   have HLN : As9 (gs.length < 1000000000000) := ⟨by have := HAO.out.1; rw [List.length_map] at this; exact this⟩;have HSB := A_ hsb;have HRR := A_ hrr;have HND := A_ hnd;have HLT := A_ hlt;have HBL := A_ hbl;have hc2 := (blk_cell hsb 2).trans rfl;clear hsb hrr hnd hlt hbl HT4 ho;go_wp2_with (((with_reducible refine gate_builtin (b := .append) (xs := #[.tmp 44, .tmp 47]) rfl ?_); at_builtin; refine Kd.R_append kGT (w0 := we) (b + 1) rfl (.tmp 44) (.tmp 47) 22 43 (.agg #[.int .i64 0, .string ⟨#[]⟩, .slice none 0 0, .string ⟨#[]⟩, .bool false]) 72 rfl Tryz.underlying22 (by kernel_rfl) rfl de_ om_ (.slice A gs.length c) gs (⟨1, ⟨#[]⟩, [], tx, false, .slice none 0 0⟩ : GT) [.int .i64 1, .string ⟨#[]⟩, .slice none 0 0, .string tx, .bool false] (fun _ => True) (fun _ => False) rfl rfl ?aP (fun _ hk => hk.elim) ?aF ?aO ?aB ?aS ?aL ?_; (case aP => exact kGT_mkM _ _ _ (⟨1, ⟨#[]⟩, [], tx, false, .slice none 0 0⟩ : GT) (Kd.R_nil _ _ _ _ _)); (case aF => exact fun _ _ => trivial); (case aO => exact HRR.out); (case aB => exact Below.refl _ _); (case aS => have := blk_lt HSB.out; omega); (case aL => have := HLN.out; omega); intro v1 w1 hr hb hg hat; obtain ⟨A3, c3, rfl⟩ := Kd.R_slice hr; have HT9 := A_ (St.app (x := (⟨1, ⟨#[]⟩, [], tx, false, .slice none 0 0⟩ : GT)) HSB.out (fun k_ hk_ => Kd.R_base HRR.out k_ hk_) HND.out HLT.out HBL.out hr hb hg rfl); have HSB9 := A_ (blk_grown HSB.out hg (fun e => by have := Kd.R_base HRR.out b e.symm; omega)); clear hr hb hg hat hc2; have hy2 := blk_frozen HSB9.out 2; have hc2 := (blk_cell HSB9.out 2).trans rfl))
   go_end0
   rw [HAO.out.2];have h9 := HT9.out;rw [List.length_append, List.length_singleton] at h9;exact ⟨rfl, h9⟩
 case neg =>
 rw [if_neg n2] at htx;have b2 : (nm.toList == [116, 101, 120, 116, 97, 114, 101, 97]) = false := bN_ n2;have htx2 := sI_ htx;clear htx Ht;rw [htx2];clear htx2;go_upto_region 5 with (fail)
 have HT4 := A_ (HT2.out.at_ te);generalize hwe : World.setCell _ _ _ = we at HT4 ⊢;clear hwe HT2 hc0 hc1 hf1;by_cases ce : tx.toList = []
 case pos =>
  rw [if_pos ce] at H;obtain ⟨rfl, rfl⟩ := Prod.mk.inj (sI_ H);have qe : (tx.toList == []) = true := bQ_ ce;clear H HH;go_wp2
  go_end0
  exact ⟨rfl, HT4.out⟩
 case neg =>
  rw [if_neg ce] at H;have qe : (tx.toList == []) = false := bN_ ce;obtain ⟨o, ho, H⟩ := oB_ H;obtain ⟨rfl, rfl⟩ := Prod.mk.inj (sI_ H);clear H HH;obtain ⟨⟨v, gs, hsb, hrr, hnd, hlt, hout⟩, hbl⟩ := HT4.out;obtain ⟨A, c, rfl⟩ := Kd.R_slice hrr;subst hout;have HAO : As9 ((gs.map erT).length < 1000000000000 ∧ o = gs.map erT ++ [⟨1, ⟨#[]⟩, [], tx, false⟩]) := ⟨by
   unfold appT at ho;split at ho
   case isTrue hl => exact ⟨hl, (sI_ ho).symm⟩
   case isFalse => cases ho⟩
  have HLN : As9 (gs.length < 1000000000000) := ⟨by have := HAO.out.1; rw [List.length_map] at this; exact this⟩;have HSB := A_ hsb;have HRR := A_ hrr;have HND := A_ hnd;have HLT := A_ hlt;have HBL := A_ hbl;have hc2 := (blk_cell hsb 2).trans rfl;clear hsb hrr hnd hlt hbl HT4 ho;go_wp2_with (((with_reducible refine gate_builtin (b := .append) (xs := #[.tmp 44, .tmp 47]) rfl ?_); at_builtin; refine Kd.R_append kGT (w0 := we) (b + 1) rfl (.tmp 44) (.tmp 47) 22 43 (.agg #[.int .i64 0, .string ⟨#[]⟩, .slice none 0 0, .string ⟨#[]⟩, .bool false]) 72 rfl Tryz.underlying22 (by kernel_rfl) rfl de_ om_ (.slice A gs.length c) gs (⟨1, ⟨#[]⟩, [], tx, false, .slice none 0 0⟩ : GT) [.int .i64 1, .string ⟨#[]⟩, .slice none 0 0, .string tx, .bool false] (fun _ => True) (fun _ => False) rfl rfl ?aP (fun _ hk => hk.elim) ?aF ?aO ?aB ?aS ?aL ?_; (case aP => exact kGT_mkM _ _ _ (⟨1, ⟨#[]⟩, [], tx, false, .slice none 0 0⟩ : GT) (Kd.R_nil _ _ _ _ _)); (case aF => exact fun _ _ => trivial); (case aO => exact HRR.out); (case aB => exact Below.refl _ _); (case aS => have := blk_lt HSB.out; omega); (case aL => have := HLN.out; omega); intro v1 w1 hr hb hg hat; obtain ⟨A3, c3, rfl⟩ := Kd.R_slice hr; have HT9 := A_ (St.app (x := (⟨1, ⟨#[]⟩, [], tx, false, .slice none 0 0⟩ : GT)) HSB.out (fun k_ hk_ => Kd.R_base HRR.out k_ hk_) HND.out HLT.out HBL.out hr hb hg rfl); have HSB9 := A_ (blk_grown HSB.out hg (fun e => by have := Kd.R_base HRR.out b e.symm; omega)); clear hr hb hg hat hc2; have hy2 := blk_frozen HSB9.out 2; have hc2 := (blk_cell HSB9.out 2).trans rfl))
  go_end0
  rw [HAO.out.2];have h9 := HT9.out;rw [List.length_append, List.length_singleton] at h9;exact ⟨rfl, h9⟩
def spec_l5Tag.f (k : Nat) (s : BA) (p : Int) (out : List S43) : Option (Int × List S43) :=
 if 0 ≤ p ∧ p ≤ s.size ∧ s.size ≤ 1000000 then (spec_TagEnd.f k s p).bind fun en => if en < 0 then some ((s.size : Int), out) else (spec_l4After.f s p).bind fun fr => (spec_l4Tag.f k s fr).bind fun te =>
  if 0 ≤ fr ∧ fr ≤ te ∧ te ≤ en ∧ en ≤ s.size then (spec_Small.f (s.extract fr.toNat te.toNat)).bind fun nm => if fr = p + 2 then (spec_l5Put.f out ⟨3, nm, [], ⟨#[]⟩, false⟩).bind fun o => some (en + 1, o) else
   (spec_Attrs.f k (s.extract te.toNat en.toNat)).bind fun q => (spec_l5Put.f out ⟨2, nm, q.1, ⟨#[]⟩, q.2⟩).bind fun o => (spec_Raw.f nm).bind fun rw_ => if rw_ = true then (if q.2 = true then some (en + 1, o) else spec_l5Raw.f k s (en + 1) o nm) else some (en + 1, o)
  else none
 else none
theorem spec_l5Tag.mono : ∀ s p out k, LeO (spec_l5Tag.f k s p out) (spec_l5Tag.f (k + 1) s p out) := fun s p out k => LeO.ite (LeO.bind (spec_TagEnd.mono _ _ _) fun en => LeO.ite (LeO.refl _) (LeO.bind (LeO.refl _) fun fr => LeO.bind (spec_l4Tag.mono _ _ _) fun te => LeO.ite (LeO.bind (LeO.refl _) fun nm => LeO.ite (LeO.refl _) (LeO.bind (spec_Attrs.mono _ _) fun q => LeO.bind (LeO.refl _) fun o => LeO.bind (LeO.refl _) fun r => LeO.ite (LeO.ite (LeO.refl _) (spec_l5Raw.mono _ _ _ _ _)) (LeO.refl _))) (LeO.refl _))) (LeO.refl _)
theorem spec_l5Tag.calls (k : Nat) (b : Nat) (s : BA) (p : Int) (out : List S43) (p' : Int) (out' : List S43) (w0 w : World) (hS : St 36 b w0 s p out w) (h : spec_l5Tag.f k s p out = some (p', out')) :
  Calls Tryz.prog 60 #[.pointer (some ⟨b, 0, none⟩)] w fun e w' => e = .returned (.tuple #[]) ∧ St 36 b w0 s p' out' w' := by
 have HT := A_ hS;clear hS;unfold spec_l5Tag.f at h;split at h
 case isFalse => cases h
 case isTrue hg =>
 obtain ⟨p0, p1, hs⟩ := hg;obtain ⟨en, hen, h⟩ := oB_ h;have Hen := A_ hen;have HH := A_ h;clear hen h;obtain ⟨hc0, hc1, hf1⟩ := HT.out.sc.cells;go_enter Tryz.func60, Tryz.ntmps60
 go_wp2
 go_quiet (((go_at_call 96; (refine (spec_TagEnd.calls k s p en _ Hen.out).mono ?_); rintro r w' ⟨rfl, ⟨nd, rfl⟩⟩; exact ⟨rfl, _, World.drewN_drewN _ _ _⟩)))
 generalize hW : World.drewN w nq = wx;have HT1 : As9 (St 36 b w0 s p out wx) := ⟨by rw [← hW]; exact HT.out.below (bN9 (Below.refl _ _) _)⟩;clear hW HT hc0 hc1 hf1;obtain ⟨hc0, hc1, hf1⟩ := HT1.out.sc.cells;have H := HH.out;by_cases ce : en < 0
 case pos =>
  rw [if_pos ce] at H;obtain ⟨rfl, rfl⟩ := Prod.mk.inj (sI_ H);have qe := eq_true ce;clear H HH;go_wp2
  refine bodyPost_ret (results_none rfl _ _ _) rfl ?_;exact ⟨rfl, HT1.out.at_ _⟩
 case neg =>
 rw [if_neg ce] at H;have qe := eq_false ce;obtain ⟨fr, hfr, H⟩ := oB_ H;obtain ⟨te, hte, H⟩ := oB_ H;split at H
 case isFalse => cases H
 case isTrue hg =>
 obtain ⟨f0, b0, b1, b2⟩ := hg;obtain ⟨nm, hnm, H⟩ := oB_ H;have Hfr := A_ hfr;have Hte := A_ hte;have Hnm := A_ hnm;have HQ := A_ H;clear hfr hte hnm H HH;have g1 := eq_true f0;have g2 := eq_true b0;have g3 := eq_true (show te ≤ (s.size : Int) by omega);have g4 := eq_true (show 0 ≤ te by omega);have g5 := eq_true b1;have g6 := eq_true b2;have hw1 : wrap64 (en + 1) = en + 1 := by unfold wrap64; omega
 have hw2 : wrap64 (p + 2) = p + 2 := by unfold wrap64; omega
 go_wp2
 go_quiet (((go_at_call 56; (refine (spec_l4After.calls s p fr _ Hfr.out).mono ?_); rintro r w' ⟨rfl, ⟨nd, rfl⟩⟩; exact ⟨rfl, _, World.drewN_drewN _ _ _⟩)))
 generalize hW : World.drewN _ nq = wx;have HT2 : As9 (St 36 b w0 s p out wx) := ⟨by rw [← hW]; exact HT1.out.below (bN9 (Below.refl _ _) _)⟩;clear hW HT1 hc0 hc1 hf1;obtain ⟨hc0, hc1, hf1⟩ := HT2.out.sc.cells;have H := HQ.out;by_cases ck : fr = p + 2
 case pos =>
  rw [if_pos ck] at H;have qk : (fr == p + 2) = true := bQ_ ck;obtain ⟨o, ho, H⟩ := oB_ H;obtain ⟨rfl, rfl⟩ := Prod.mk.inj (sI_ H);have Ho := A_ ho;clear ho H HQ ck;go_wp2_with (first | (go_at_call 97; (with_reducible refine (spec_l4Tag.calls k s fr te _ Hte.out).mono ?_); rintro e w2 ⟨rfl, hb⟩; have HT3 := A_ (HT2.out.below hb.below); clear hb HT2; clear hc0 hc1 hf1; obtain ⟨hc0, hc1, hf1⟩ := HT3.out.sc.cells) | (go_at_call 87; (with_reducible refine (spec_Small.calls _ nm _ Hnm.out).mono ?_); rintro e w2 ⟨rfl, hb⟩; have HT4 := A_ (HT3.out.below hb); clear hb HT3; clear hc0 hc1 hf1; obtain ⟨hc0, hc1, hf1⟩ := HT4.out.sc.cells) | (go_at_call 54; (with_reducible refine (spec_l5Put.calls b _ s p out o 3 nm [] ⟨#[]⟩ false (.slice none 0 0) w0 _ HT4.out.sc HT4.out.bl (Kd.R_nil _ _ _ _ _) HT4.out.sc.lt (Nat.le_refl _) Ho.out).mono ?_); rintro e w2 ⟨rfl, hst⟩; have HT9 := A_ hst; clear hst HT4; clear hc0 hc1 hf1; obtain ⟨hc0, hc1, hf1⟩ := HT9.out.sc.cells))
  refine bodyPost_ret (results_none rfl _ _ _) rfl ?_;exact ⟨rfl, HT9.out.at_ _⟩
 case neg =>
 rw [if_neg ck] at H;have qk : (fr == p + 2) = false := bN_ ck;have qk' := eq_false ck;obtain ⟨⟨a1, a2⟩, ha, H⟩ := oB_ H;obtain ⟨o, ho, H⟩ := oB_ H;obtain ⟨rw_, hrw, H⟩ := oB_ H;have Ha := A_ ha;have Ho := A_ ho;have Hrw := A_ hrw;have HR := A_ H;clear ha ho hrw H HQ;go_upto_region 11 with (first | (go_at_call 97; (with_reducible refine (spec_l4Tag.calls k s fr te _ Hte.out).mono ?_); rintro e w2 ⟨rfl, hb⟩; have HT3 := A_ (HT2.out.below hb.below); clear hb HT2; clear hc0 hc1 hf1; obtain ⟨hc0, hc1, hf1⟩ := HT3.out.sc.cells) | (go_at_call 87; (with_reducible refine (spec_Small.calls _ nm _ Hnm.out).mono ?_); rintro e w2 ⟨rfl, hb⟩; have HT4 := A_ (HT3.out.below hb); clear hb HT3; clear hc0 hc1 hf1; obtain ⟨hc0, hc1, hf1⟩ := HT4.out.sc.cells) | (go_at_call 98; (with_reducible refine (spec_Attrs.calls k _ a1 a2 _ Ha.out).mono ?_); rintro e w3 ⟨v2, rfl, hr, hb⟩; have HA := A_ hr; have HSC := A_ (HT4.out.sc.below hb); have HBL := A_ (Below.trans HT4.out.bl (Below.mono hb (Nat.le_of_lt HT4.out.sc.lt))); have HLT := A_ HT4.out.sc.lt; have HSZ := A_ hb.size; clear hr hb HT4; obtain ⟨A2, c2, rfl⟩ := Kd.R_slice HA.out; clear hc0 hc1 hf1; obtain ⟨hc0, hc1, hf1⟩ := HSC.out.cells) | (go_at_call 54; (with_reducible refine (spec_l5Put.calls b _ s _ out o 2 nm a1 ⟨#[]⟩ a2 _ w0 _ HSC.out HBL.out HA.out HLT.out HSZ.out Ho.out).mono ?_); rintro e w4 ⟨rfl, hst⟩; have HTa := A_ hst; clear hst HSC HBL HA HLT HSZ hc0 hc1 hf1; obtain ⟨hc0, hc1, hf1⟩ := HTa.out.sc.cells))
 have H := HR.out;try dsimp only at H
 cases rw_ with
 | false =>
  rw [if_neg si_] at H;obtain ⟨rfl, rfl⟩ := Prod.mk.inj (sI_ H);clear H HR;go_wp2_with ((go_at_call 89; have HTb := A_ (HTa.out.at_ (en + 1)); (with_reducible refine (spec_Raw.calls nm false _ Hrw.out).mono ?_); rintro e w5 ⟨rfl, hb⟩; have HTc := A_ (HTb.out.below hb.below); clear hb HTa HTb hc0 hc1 hf1))
  go_end0
  exact ⟨rfl, HTc.out⟩
 | true =>
  rw [if_pos rfl] at H;cases a2 with
  | true =>
   rw [if_pos rfl] at H;obtain ⟨rfl, rfl⟩ := Prod.mk.inj (sI_ H);clear H HR;go_wp2_with ((go_at_call 89; have HTb := A_ (HTa.out.at_ (en + 1)); (with_reducible refine (spec_Raw.calls nm true _ Hrw.out).mono ?_); rintro e w5 ⟨rfl, hb⟩; have HTc := A_ (HTb.out.below hb.below); clear hb HTa HTb hc0 hc1 hf1))
   go_end0
   exact ⟨rfl, HTc.out⟩
  | false =>
   rw [if_neg si_] at H;have Hraw := A_ H;clear H HR;go_wp2_with (first | (go_at_call 89; have HTb := A_ (HTa.out.at_ (en + 1)); (with_reducible refine (spec_Raw.calls nm true _ Hrw.out).mono ?_); rintro e w5 ⟨rfl, hb⟩; have HTc := A_ (HTb.out.below hb.below); clear hb HTa HTb hc0 hc1 hf1) | (go_at_call 99; (with_reducible refine (spec_l5Raw.calls k b s _ o nm _ _ w0 _ HTc.out Hraw.out).mono ?_); rintro e w6 ⟨rfl, hst⟩; have HTd := A_ hst; clear hst HTc))
   go_end0
   exact ⟨rfl, HTd.out⟩
def oddS (k : Nat) (s : BA) (p : Int) (out : List S43) (en te : Int) : Option (Int × List S43) :=
 (if bt s (p + 1) = 33 then (spec_Small.f s).bind fun sm => spec_l5Stands.f sm (p + 2) ⟨#[100, 111, 99, 116, 121, 112, 101]⟩ else some false).bind fun kd => if kd = true then
  (spec_l4Blanks.f k s (wrap64 (p + 9))).bind fun bl => (spec_l1Min.f bl en).bind fun m => if 0 ≤ m ∧ m ≤ en ∧ en ≤ s.size then (spec_Small.f (s.extract m.toNat en.toNat)).bind fun kt => (spec_l5Put.f out ⟨5, ⟨#[]⟩, [], kt, false⟩).bind fun o => some (te, o) else none
 else if bt s (p + 1) = 47 ∧ en = p + 2 ∧ te > en then some (te, out) else
  (spec_l1Min.f (if bt s (p + 1) = 63 then p + 1 else p + 2) en).bind fun m => if 0 ≤ m ∧ m ≤ en ∧ en ≤ s.size then (spec_l5Put.f out ⟨4, ⟨#[]⟩, [], s.extract m.toNat en.toNat, false⟩).bind fun o => some (te, o) else none
theorem oddS_mono : ∀ s p out en te k, LeO (oddS k s p out en te) (oddS (k + 1) s p out en te) := fun s p out en te k => LeO.bind (LeO.refl _) fun kd => LeO.ite (LeO.bind (spec_l4Blanks.mono _ _ _) fun bl => LeO.refl _) (LeO.refl _)
def spec_l5Odd.f (k : Nat) (s : BA) (p : Int) (out : List S43) : Option (Int × List S43) :=
 if 0 ≤ p ∧ p + 2 ≤ s.size ∧ s.size ≤ 1000000 then (spec_l4Find.f k s p 62).bind fun e0 => if e0 < 0 then oddS k s p out s.size s.size else if e0 < s.size then oddS k s p out e0 (e0 + 1) else none
 else none
theorem spec_l5Odd.mono : ∀ s p out k, LeO (spec_l5Odd.f k s p out) (spec_l5Odd.f (k + 1) s p out) := fun s p out k => LeO.ite (LeO.bind (spec_l4Find.mono _ _ _ _) fun e0 => LeO.ite (oddS_mono _ _ _ _ _ _) (LeO.ite (oddS_mono _ _ _ _ _ _) (LeO.refl _))) (LeO.refl _)
theorem spec_l5Odd.calls (k : Nat) (b : Nat) (s : BA) (p : Int) (out : List S43) (p' : Int) (out' : List S43) (w0 w : World) (hS : St 36 b w0 s p out w) (h : spec_l5Odd.f k s p out = some (p', out')) :
  Calls Tryz.prog 61 #[.pointer (some ⟨b, 0, none⟩)] w fun e w' => e = .returned (.tuple #[]) ∧ St 36 b w0 s p' out' w' := by
 have HT := A_ hS;clear hS;unfold spec_l5Odd.f at h;split at h
 case isFalse => cases h
 case isTrue hg =>
 obtain ⟨p0, p1, hs⟩ := hg;obtain ⟨e0, hn, h⟩ := oB_ h;have Hn := A_ hn;have HH := A_ h;clear hn h;have g1 := eq_true (show 0 ≤ p + 1 by omega);have g2 := eq_true (show p + 1 < (s.size : Int) by omega);have hx := bt_at s (p + 1);have hw1 : wrap64 (p + 1) = p + 1 := by unfold wrap64; omega
 have hw2 : wrap64 (p + 2) = p + 2 := by unfold wrap64; omega
 obtain ⟨hc0, hc1, hf1⟩ := HT.out.sc.cells;go_enter Tryz.func61, Tryz.ntmps61
 go_wp2
 go_quiet (((go_at_call 75; (refine (spec_l4Find.calls k s p 62 e0 _ Hn.out).mono ?_); rintro r w' ⟨rfl, ⟨nd, rfl⟩⟩; exact ⟨rfl, _, World.drewN_drewN _ _ _⟩)))
 generalize hW : World.drewN w nq = wx;have HT1 : As9 (St 36 b w0 s p out wx) := ⟨by rw [← hW]; exact HT.out.below (bN9 (Below.refl _ _) _)⟩;clear hW HT hc0 hc1 hf1;obtain ⟨hc0, hc1, hf1⟩ := HT1.out.sc.cells;have H := HH.out;by_cases c : e0 < 0
 case pos =>
  rw [if_pos c] at H;have cb := eq_true c;unfold oddS at H;simp only [Int.toNat_natCast] at H;go_upto_region 7 with (fail)
  have HT3 := A_ (HT1.out.at_ (s.size : Int));generalize hwe : World.setCell _ _ _ = we at HT3 ⊢;clear hwe HT1 hc0 hc1 hf1;obtain ⟨hc0, hc1, hf1⟩ := HT3.out.sc.cells;by_cases b1 : bt s (p + 1) = 33
  case pos =>
   rw [if_pos b1] at H;obtain ⟨kd, hkd, H⟩ := oB_ H;obtain ⟨sm, hsm, hkd⟩ := oB_ hkd;have Hsm := A_ hsm;have Hkd := A_ hkd;clear hsm hkd;cases kd with
   | true =>
    rw [if_pos rfl] at H;obtain ⟨bl, hbl, H⟩ := oB_ H;obtain ⟨m, hm, H⟩ := oB_ H;split at H
    case isFalse => cases H
    case isTrue hq =>
    obtain ⟨m0, m1, m2⟩ := hq;obtain ⟨kt, hkt, H⟩ := oB_ H;obtain ⟨o, ho, H⟩ := oB_ H;obtain ⟨rfl, rfl⟩ := Prod.mk.inj (sI_ H);have Hbl := A_ hbl;have Hm := A_ hm;have Hkt := A_ hkt;have Ho := A_ ho;have k1 := eq_true m0;have k2 := eq_true m1;have k3 := eq_true m2;clear hbl hm hkt ho H HH;go_upto_region 8 with (first | (go_at_call 87; (with_reducible refine (spec_Small.calls s sm _ Hsm.out).mono ?_); rintro e w2 ⟨rfl, hb⟩; have HT4 := A_ (HT3.out.below hb); clear hb HT3 hc0 hc1 hf1; obtain ⟨hc0, hc1, hf1⟩ := HT4.out.sc.cells) | (go_at_call 57; (with_reducible refine (spec_l5Stands.calls sm (p + 2) ⟨#[100, 111, 99, 116, 121, 112, 101]⟩ true _ Hkd.out).mono ?_); rintro e w2 ⟨rfl, hb⟩; have HT5 := A_ (HT4.out.below hb.below); clear hb HT4 hc0 hc1 hf1; obtain ⟨hc0, hc1, hf1⟩ := HT5.out.sc.cells))
    have HTd := A_ (HT5.out.below (below_drew (Below.refl _ _)));clear HT5 hc0 hc1 hf1;refine start_ (n := 19) (S := fun w' => w'.cell? ⟨b, 0, none⟩ = some (.string s)) (ds := [18]) (tS 19 0) (by kernel_rfl) rfl rfl HTd.out.sc.cells.1 (fun hHeld => ?_);generalize World.drew _ = wr0 at HTd hHeld ⊢;iterate 4 refine pq_ ?_
    refine tq_ rfl (by rintro w' s0; go_simp; with_reducible rfl) ?_;iterate 3 refine pq_ ?_
    refine tq_ rfl (by rintro w' s0; go_simp; with_reducible rfl) ?_;refine pq_ ?_;refine pq_ ?_;refine pg_ 12 (tB 19 6143) ?_;refine pg_ 14 (tB 19 22527) ?_;refine n1_ 11 (tB 19 24575) rfl fun K hK => ?_
    refine gS_ Tryz.func88 #[.string s, .int .i64 (wrap64 (p + 9))] ?_;with_reducible refine (spec_l4Blanks.calls k s (wrap64 (p + 9)) bl _ Hbl.out).mono ?_
    rintro e wr11 ⟨rfl, hb⟩;refine ⟨_, rfl, ?_⟩;have n1_ := A_ (HTd.out.below hb.below);clear hb HTd;have HTd := n1_;clear n1_;refine hK.out _ _ HTd.out.sc.cells.1 (fun hHeld => ?_);clear hK K;refine nm_ ?_;refine n1_ 13 (tS 19 15) rfl fun K hK => ?_
    refine gS_ Tryz.func100 #[.int .i64 bl, .int .i64 (s.size : Int)] ?_;with_reducible refine (spec_l1Min.calls bl (s.size : Int) m _ Hm.out).mono ?_
    rintro e wr13 ⟨rfl, hb⟩;refine ⟨_, rfl, ?_⟩;have n1_ := A_ (HTd.out.below hb.below);clear hb HTd;have HTd := n1_;clear n1_;refine hK.out _ _ HTd.out.sc.cells.1 (fun hHeld => ?_);clear hK K;refine nm_ ?_;refine pq_ ?_;refine n1_ 16 (tS 19 17) rfl fun K hK => ?_
    refine gS_ Tryz.func87 #[.string (s.extract m.toNat s.size)] ?_;with_reducible refine (spec_Small.calls (s.extract m.toNat s.size) kt _ Hkt.out).mono ?_
    rintro e wr16 ⟨rfl, hb⟩;refine ⟨_, rfl, ?_⟩;have n1_ := A_ (HTd.out.below hb);clear hb HTd;have HTd := n1_;clear n1_;refine hK.out _ _ HTd.out.sc.cells.1 (fun hHeld => ?_);clear hK K;refine nm_ ?_;refine pq_ ?_;refine last_ (i := 18) (N := some 69) (tS 19 19) rfl rfl (by kernel_rfl) de_ (fun K hK => ?_);refine gS_ Tryz.func54 #[.pointer (some ⟨b, 0, none⟩), .agg #[.int .i64 5, .string ⟨#[]⟩, .slice none 0 0, .string kt, .bool false]] ?_;with_reducible refine (spec_l5Put.calls b _ s _ out o 5 ⟨#[]⟩ [] kt false (.slice none 0 0) w0 _ HTd.out.sc HTd.out.bl (Kd.R_nil _ _ _ _ _) HTd.out.sc.lt (Nat.le_refl _) Ho.out).mono ?_
    rintro e wr18 ⟨rfl, hst⟩;refine ⟨_, rfl, ?_⟩;have HT9 := A_ hst;clear hst HTd;refine hK.out _ _ ?_;clear hK K;refine nm_ ?_;refine done_ (by kernel_rfl) ?_;go_wp2
    refine bodyPost_ret (results_none rfl _ _ _) rfl ?_;exact ⟨rfl, HT9.out⟩
   | false =>
    rw [if_neg si_, if_neg (fun h => by omega), if_neg om_] at H;obtain ⟨m, hm, H⟩ := oB_ H;split at H
    case isFalse => cases H
    case isTrue hq =>
    obtain ⟨m0, m1, m2⟩ := hq;obtain ⟨o, ho, H⟩ := oB_ H;obtain ⟨rfl, rfl⟩ := Prod.mk.inj (sI_ H);have Hm := A_ hm;have Ho := A_ ho;have k1 := eq_true m0;have k2 := eq_true m1;have k3 := eq_true m2;clear hm ho H HH;go_upto_region 13 with (first | (go_at_call 87; (with_reducible refine (spec_Small.calls s sm _ Hsm.out).mono ?_); rintro e w2 ⟨rfl, hb⟩; have HT4 := A_ (HT3.out.below hb); clear hb HT3 hc0 hc1 hf1; obtain ⟨hc0, hc1, hf1⟩ := HT4.out.sc.cells) | (go_at_call 57; (with_reducible refine (spec_l5Stands.calls sm (p + 2) ⟨#[100, 111, 99, 116, 121, 112, 101]⟩ false _ Hkd.out).mono ?_); rintro e w2 ⟨rfl, hb⟩; have HT5 := A_ (HT4.out.below hb.below); clear hb HT4 hc0 hc1 hf1; obtain ⟨hc0, hc1, hf1⟩ := HT5.out.sc.cells))
    have HTd := A_ (HT5.out.below (below_drew (Below.refl _ _)));clear HT5 hc0 hc1 hf1;refine start_ (n := 12) (S := fun w' => w'.cell? ⟨b, 0, none⟩ = some (.string s)) (ds := [11]) (tS 12 0) (by kernel_rfl) rfl rfl HTd.out.sc.cells.1 (fun hHeld => ?_);generalize World.drew _ = wr0 at HTd hHeld ⊢;iterate 4 refine pq_ ?_
    refine tq_ rfl (by rintro w' s0; go_simp; with_reducible rfl) ?_;refine pq_ ?_;refine pq_ ?_;refine pg_ 8 (tB 12 383) ?_;refine n1_ 7 (tS 12 9) rfl fun K hK => ?_
    refine gS_ Tryz.func100 #[.int .i64 (p + 2), .int .i64 (s.size : Int)] ?_;with_reducible refine (spec_l1Min.calls (p + 2) (s.size : Int) m _ Hm.out).mono ?_
    rintro e wr7 ⟨rfl, hb⟩;refine ⟨_, rfl, ?_⟩;have n1_ := A_ (HTd.out.below hb.below);clear hb HTd;have HTd := n1_;clear n1_;refine hK.out _ _ HTd.out.sc.cells.1 (fun hHeld => ?_);clear hK K;refine nm_ ?_;refine pq_ ?_;refine pq_ ?_;refine last_ (i := 11) (N := some 112) (tS 12 12) rfl rfl (by kernel_rfl) de_ (fun K hK => ?_);refine gS_ Tryz.func54 #[.pointer (some ⟨b, 0, none⟩), .agg #[.int .i64 4, .string ⟨#[]⟩, .slice none 0 0, .string (s.extract m.toNat s.size), .bool false]] ?_;with_reducible refine (spec_l5Put.calls b _ s _ out o 4 ⟨#[]⟩ [] (s.extract m.toNat s.size) false (.slice none 0 0) w0 _ HTd.out.sc HTd.out.bl (Kd.R_nil _ _ _ _ _) HTd.out.sc.lt (Nat.le_refl _) Ho.out).mono ?_
    rintro e wr11 ⟨rfl, hst⟩;refine ⟨_, rfl, ?_⟩;have HT9 := A_ hst;clear hst HTd;refine hK.out _ _ ?_;clear hK K;refine nm_ ?_;refine done_ (by kernel_rfl) ?_;go_end0
    exact ⟨rfl, HT9.out⟩
  case neg =>
   have d1 : (bt s (p + 1) == 33) = false := bN_ b1;have d1' := eq_false b1;rw [if_neg b1, Option.bind_some, if_neg si_] at H;by_cases b2 : bt s (p + 1) = 47
   case pos =>
    by_cases b4 : (s.size : Int) = p + 2
    case pos =>
     have q4 : ((s.size : Int) == p + 2) = true := bQ_ b4;by_cases b5 : (s.size : Int) > (s.size : Int)
     case pos =>
      exact absurd b5 om_
     case neg =>
      rw [if_neg (fun h => b5 h.2.2), if_neg om_] at H;have q5 := eq_false b5;have q5' := eq_false (show ¬ (s.size : Int) < (s.size : Int) from b5);clear b4;obtain ⟨m, hm, H⟩ := oB_ H;split at H
      case isFalse => cases H
      case isTrue hq =>
      obtain ⟨m0, m1, m2⟩ := hq;obtain ⟨o, ho, H⟩ := oB_ H;obtain ⟨rfl, rfl⟩ := Prod.mk.inj (sI_ H);have Hm := A_ hm;have Ho := A_ ho;have k1 := eq_true m0;have k2 := eq_true m1;have k3 := eq_true m2;clear hm ho H HH;go_upto_region 13 with (fail)
      have HTd := A_ (HT3.out.below (below_drew (Below.refl _ _)));clear HT3 hc0 hc1 hf1;refine start_ (n := 12) (S := fun w' => w'.cell? ⟨b, 0, none⟩ = some (.string s)) (ds := [11]) (tS 12 0) (by kernel_rfl) rfl rfl HTd.out.sc.cells.1 (fun hHeld => ?_);generalize World.drew _ = wr0 at HTd hHeld ⊢;iterate 4 refine pq_ ?_
      refine tq_ rfl (by rintro w' s0; go_simp; with_reducible rfl) ?_;refine pq_ ?_;refine pq_ ?_;refine pg_ 8 (tB 12 383) ?_;refine n1_ 7 (tS 12 9) rfl fun K hK => ?_
      refine gS_ Tryz.func100 #[.int .i64 (p + 2), .int .i64 (s.size : Int)] ?_;with_reducible refine (spec_l1Min.calls (p + 2) (s.size : Int) m _ Hm.out).mono ?_
      rintro e wr7 ⟨rfl, hb⟩;refine ⟨_, rfl, ?_⟩;have n1_ := A_ (HTd.out.below hb.below);clear hb HTd;have HTd := n1_;clear n1_;refine hK.out _ _ HTd.out.sc.cells.1 (fun hHeld => ?_);clear hK K;refine nm_ ?_;refine pq_ ?_;refine pq_ ?_;refine last_ (i := 11) (N := some 112) (tS 12 12) rfl rfl (by kernel_rfl) de_ (fun K hK => ?_);refine gS_ Tryz.func54 #[.pointer (some ⟨b, 0, none⟩), .agg #[.int .i64 4, .string ⟨#[]⟩, .slice none 0 0, .string (s.extract m.toNat s.size), .bool false]] ?_;with_reducible refine (spec_l5Put.calls b _ s _ out o 4 ⟨#[]⟩ [] (s.extract m.toNat s.size) false (.slice none 0 0) w0 _ HTd.out.sc HTd.out.bl (Kd.R_nil _ _ _ _ _) HTd.out.sc.lt (Nat.le_refl _) Ho.out).mono ?_
      rintro e wr11 ⟨rfl, hst⟩;refine ⟨_, rfl, ?_⟩;have HT9 := A_ hst;clear hst HTd;refine hK.out _ _ ?_;clear hK K;refine nm_ ?_;refine done_ (by kernel_rfl) ?_;go_end0
      exact ⟨rfl, HT9.out⟩
    case neg =>
     have q4 : ((s.size : Int) == p + 2) = false := bN_ b4;have q4' := eq_false b4;rw [if_neg (fun h => b4 h.2.1), if_neg om_] at H;obtain ⟨m, hm, H⟩ := oB_ H;split at H
     case isFalse => cases H
     case isTrue hq =>
     obtain ⟨m0, m1, m2⟩ := hq;obtain ⟨o, ho, H⟩ := oB_ H;obtain ⟨rfl, rfl⟩ := Prod.mk.inj (sI_ H);have Hm := A_ hm;have Ho := A_ ho;have k1 := eq_true m0;have k2 := eq_true m1;have k3 := eq_true m2;clear hm ho H HH;go_upto_region 13 with (fail)
     have HTd := A_ (HT3.out.below (below_drew (Below.refl _ _)));clear HT3 hc0 hc1 hf1;refine start_ (n := 12) (S := fun w' => w'.cell? ⟨b, 0, none⟩ = some (.string s)) (ds := [11]) (tS 12 0) (by kernel_rfl) rfl rfl HTd.out.sc.cells.1 (fun hHeld => ?_);generalize World.drew _ = wr0 at HTd hHeld ⊢;iterate 4 refine pq_ ?_
     refine tq_ rfl (by rintro w' s0; go_simp; with_reducible rfl) ?_;refine pq_ ?_;refine pq_ ?_;refine pg_ 8 (tB 12 383) ?_;refine n1_ 7 (tS 12 9) rfl fun K hK => ?_
     refine gS_ Tryz.func100 #[.int .i64 (p + 2), .int .i64 (s.size : Int)] ?_;with_reducible refine (spec_l1Min.calls (p + 2) (s.size : Int) m _ Hm.out).mono ?_
     rintro e wr7 ⟨rfl, hb⟩;refine ⟨_, rfl, ?_⟩;have n1_ := A_ (HTd.out.below hb.below);clear hb HTd;have HTd := n1_;clear n1_;refine hK.out _ _ HTd.out.sc.cells.1 (fun hHeld => ?_);clear hK K;refine nm_ ?_;refine pq_ ?_;refine pq_ ?_;refine last_ (i := 11) (N := some 112) (tS 12 12) rfl rfl (by kernel_rfl) de_ (fun K hK => ?_);refine gS_ Tryz.func54 #[.pointer (some ⟨b, 0, none⟩), .agg #[.int .i64 4, .string ⟨#[]⟩, .slice none 0 0, .string (s.extract m.toNat s.size), .bool false]] ?_;with_reducible refine (spec_l5Put.calls b _ s _ out o 4 ⟨#[]⟩ [] (s.extract m.toNat s.size) false (.slice none 0 0) w0 _ HTd.out.sc HTd.out.bl (Kd.R_nil _ _ _ _ _) HTd.out.sc.lt (Nat.le_refl _) Ho.out).mono ?_
     rintro e wr11 ⟨rfl, hst⟩;refine ⟨_, rfl, ?_⟩;have HT9 := A_ hst;clear hst HTd;refine hK.out _ _ ?_;clear hK K;refine nm_ ?_;refine done_ (by kernel_rfl) ?_;go_end0
     exact ⟨rfl, HT9.out⟩
   case neg =>
    have d2 : (bt s (p + 1) == 47) = false := bN_ b2;have d2' := eq_false b2;rw [if_neg (fun h => b2 h.1)] at H;by_cases b3 : bt s (p + 1) = 63
    case pos =>
     rw [if_pos b3] at H;obtain ⟨m, hm, H⟩ := oB_ H;split at H
     case isFalse => cases H
     case isTrue hq =>
     obtain ⟨m0, m1, m2⟩ := hq;obtain ⟨o, ho, H⟩ := oB_ H;obtain ⟨rfl, rfl⟩ := Prod.mk.inj (sI_ H);have Hm := A_ hm;have Ho := A_ ho;have k1 := eq_true m0;have k2 := eq_true m1;have k3 := eq_true m2;clear hm ho H HH;go_upto_region 13 with (fail)
     have HTd := A_ (HT3.out.below (below_drew (Below.refl _ _)));clear HT3 hc0 hc1 hf1;refine start_ (n := 12) (S := fun w' => w'.cell? ⟨b, 0, none⟩ = some (.string s)) (ds := [11]) (tS 12 0) (by kernel_rfl) rfl rfl HTd.out.sc.cells.1 (fun hHeld => ?_);generalize World.drew _ = wr0 at HTd hHeld ⊢;iterate 4 refine pq_ ?_
     refine tq_ rfl (by rintro w' s0; go_simp; with_reducible rfl) ?_;refine pq_ ?_;refine pq_ ?_;refine pg_ 8 (tB 12 383) ?_;refine n1_ 7 (tS 12 9) rfl fun K hK => ?_
     refine gS_ Tryz.func100 #[.int .i64 (p + 1), .int .i64 (s.size : Int)] ?_;with_reducible refine (spec_l1Min.calls (p + 1) (s.size : Int) m _ Hm.out).mono ?_
     rintro e wr7 ⟨rfl, hb⟩;refine ⟨_, rfl, ?_⟩;have n1_ := A_ (HTd.out.below hb.below);clear hb HTd;have HTd := n1_;clear n1_;refine hK.out _ _ HTd.out.sc.cells.1 (fun hHeld => ?_);clear hK K;refine nm_ ?_;refine pq_ ?_;refine pq_ ?_;refine last_ (i := 11) (N := some 112) (tS 12 12) rfl rfl (by kernel_rfl) de_ (fun K hK => ?_);refine gS_ Tryz.func54 #[.pointer (some ⟨b, 0, none⟩), .agg #[.int .i64 4, .string ⟨#[]⟩, .slice none 0 0, .string (s.extract m.toNat s.size), .bool false]] ?_;with_reducible refine (spec_l5Put.calls b _ s _ out o 4 ⟨#[]⟩ [] (s.extract m.toNat s.size) false (.slice none 0 0) w0 _ HTd.out.sc HTd.out.bl (Kd.R_nil _ _ _ _ _) HTd.out.sc.lt (Nat.le_refl _) Ho.out).mono ?_
     rintro e wr11 ⟨rfl, hst⟩;refine ⟨_, rfl, ?_⟩;have HT9 := A_ hst;clear hst HTd;refine hK.out _ _ ?_;clear hK K;refine nm_ ?_;refine done_ (by kernel_rfl) ?_;go_end0
     exact ⟨rfl, HT9.out⟩
    case neg =>
     have d3 : (bt s (p + 1) == 63) = false := bN_ b3;have d3' := eq_false b3;rw [if_neg b3] at H;obtain ⟨m, hm, H⟩ := oB_ H;split at H
     case isFalse => cases H
     case isTrue hq =>
     obtain ⟨m0, m1, m2⟩ := hq;obtain ⟨o, ho, H⟩ := oB_ H;obtain ⟨rfl, rfl⟩ := Prod.mk.inj (sI_ H);have Hm := A_ hm;have Ho := A_ ho;have k1 := eq_true m0;have k2 := eq_true m1;have k3 := eq_true m2;clear hm ho H HH;go_upto_region 13 with (fail)
     have HTd := A_ (HT3.out.below (below_drew (Below.refl _ _)));clear HT3 hc0 hc1 hf1;refine start_ (n := 12) (S := fun w' => w'.cell? ⟨b, 0, none⟩ = some (.string s)) (ds := [11]) (tS 12 0) (by kernel_rfl) rfl rfl HTd.out.sc.cells.1 (fun hHeld => ?_);generalize World.drew _ = wr0 at HTd hHeld ⊢;iterate 4 refine pq_ ?_
     refine tq_ rfl (by rintro w' s0; go_simp; with_reducible rfl) ?_;refine pq_ ?_;refine pq_ ?_;refine pg_ 8 (tB 12 383) ?_;refine n1_ 7 (tS 12 9) rfl fun K hK => ?_
     refine gS_ Tryz.func100 #[.int .i64 (p + 2), .int .i64 (s.size : Int)] ?_;with_reducible refine (spec_l1Min.calls (p + 2) (s.size : Int) m _ Hm.out).mono ?_
     rintro e wr7 ⟨rfl, hb⟩;refine ⟨_, rfl, ?_⟩;have n1_ := A_ (HTd.out.below hb.below);clear hb HTd;have HTd := n1_;clear n1_;refine hK.out _ _ HTd.out.sc.cells.1 (fun hHeld => ?_);clear hK K;refine nm_ ?_;refine pq_ ?_;refine pq_ ?_;refine last_ (i := 11) (N := some 112) (tS 12 12) rfl rfl (by kernel_rfl) de_ (fun K hK => ?_);refine gS_ Tryz.func54 #[.pointer (some ⟨b, 0, none⟩), .agg #[.int .i64 4, .string ⟨#[]⟩, .slice none 0 0, .string (s.extract m.toNat s.size), .bool false]] ?_;with_reducible refine (spec_l5Put.calls b _ s _ out o 4 ⟨#[]⟩ [] (s.extract m.toNat s.size) false (.slice none 0 0) w0 _ HTd.out.sc HTd.out.bl (Kd.R_nil _ _ _ _ _) HTd.out.sc.lt (Nat.le_refl _) Ho.out).mono ?_
     rintro e wr11 ⟨rfl, hst⟩;refine ⟨_, rfl, ?_⟩;have HT9 := A_ hst;clear hst HTd;refine hK.out _ _ ?_;clear hK K;refine nm_ ?_;refine done_ (by kernel_rfl) ?_;go_end0
     exact ⟨rfl, HT9.out⟩
 case neg =>
  rw [if_neg c] at H;have cb := eq_false c;split at H
  case isFalse => cases H
  case isTrue hl =>
  have hw5 : wrap64 (e0 + 1) = e0 + 1 := by unfold wrap64; omega
  unfold oddS at H;skip
  go_upto_region 7 with (fail)
  have HT3 := A_ (HT1.out.at_ (e0 + 1));generalize hwe : World.setCell _ _ _ = we at HT3 ⊢;clear hwe HT1 hc0 hc1 hf1;obtain ⟨hc0, hc1, hf1⟩ := HT3.out.sc.cells;by_cases b1 : bt s (p + 1) = 33
  case pos =>
   rw [if_pos b1] at H;obtain ⟨kd, hkd, H⟩ := oB_ H;obtain ⟨sm, hsm, hkd⟩ := oB_ hkd;have Hsm := A_ hsm;have Hkd := A_ hkd;clear hsm hkd;cases kd with
   | true =>
    rw [if_pos rfl] at H;obtain ⟨bl, hbl, H⟩ := oB_ H;obtain ⟨m, hm, H⟩ := oB_ H;split at H
    case isFalse => cases H
    case isTrue hq =>
    obtain ⟨m0, m1, m2⟩ := hq;obtain ⟨kt, hkt, H⟩ := oB_ H;obtain ⟨o, ho, H⟩ := oB_ H;obtain ⟨rfl, rfl⟩ := Prod.mk.inj (sI_ H);have Hbl := A_ hbl;have Hm := A_ hm;have Hkt := A_ hkt;have Ho := A_ ho;have k1 := eq_true m0;have k2 := eq_true m1;have k3 := eq_true m2;clear hbl hm hkt ho H HH;go_upto_region 8 with (first | (go_at_call 87; (with_reducible refine (spec_Small.calls s sm _ Hsm.out).mono ?_); rintro e w2 ⟨rfl, hb⟩; have HT4 := A_ (HT3.out.below hb); clear hb HT3 hc0 hc1 hf1; obtain ⟨hc0, hc1, hf1⟩ := HT4.out.sc.cells) | (go_at_call 57; (with_reducible refine (spec_l5Stands.calls sm (p + 2) ⟨#[100, 111, 99, 116, 121, 112, 101]⟩ true _ Hkd.out).mono ?_); rintro e w2 ⟨rfl, hb⟩; have HT5 := A_ (HT4.out.below hb.below); clear hb HT4 hc0 hc1 hf1; obtain ⟨hc0, hc1, hf1⟩ := HT5.out.sc.cells))
    have HTd := A_ (HT5.out.below (below_drew (Below.refl _ _)));clear HT5 hc0 hc1 hf1;refine start_ (n := 19) (S := fun w' => w'.cell? ⟨b, 0, none⟩ = some (.string s)) (ds := [18]) (tS 19 0) (by kernel_rfl) rfl rfl HTd.out.sc.cells.1 (fun hHeld => ?_);generalize World.drew _ = wr0 at HTd hHeld ⊢;iterate 4 refine pq_ ?_
    refine tq_ rfl (by rintro w' s0; go_simp; with_reducible rfl) ?_;iterate 3 refine pq_ ?_
    refine tq_ rfl (by rintro w' s0; go_simp; with_reducible rfl) ?_;refine pq_ ?_;refine pq_ ?_;refine pg_ 12 (tB 19 6143) ?_;refine pg_ 14 (tB 19 22527) ?_;refine n1_ 11 (tB 19 24575) rfl fun K hK => ?_
    refine gS_ Tryz.func88 #[.string s, .int .i64 (wrap64 (p + 9))] ?_;with_reducible refine (spec_l4Blanks.calls k s (wrap64 (p + 9)) bl _ Hbl.out).mono ?_
    rintro e wr11 ⟨rfl, hb⟩;refine ⟨_, rfl, ?_⟩;have n1_ := A_ (HTd.out.below hb.below);clear hb HTd;have HTd := n1_;clear n1_;refine hK.out _ _ HTd.out.sc.cells.1 (fun hHeld => ?_);clear hK K;refine nm_ ?_;refine n1_ 13 (tS 19 15) rfl fun K hK => ?_
    refine gS_ Tryz.func100 #[.int .i64 bl, .int .i64 e0] ?_;with_reducible refine (spec_l1Min.calls bl e0 m _ Hm.out).mono ?_
    rintro e wr13 ⟨rfl, hb⟩;refine ⟨_, rfl, ?_⟩;have n1_ := A_ (HTd.out.below hb.below);clear hb HTd;have HTd := n1_;clear n1_;refine hK.out _ _ HTd.out.sc.cells.1 (fun hHeld => ?_);clear hK K;refine nm_ ?_;refine pq_ ?_;refine n1_ 16 (tS 19 17) rfl fun K hK => ?_
    refine gS_ Tryz.func87 #[.string (s.extract m.toNat e0.toNat)] ?_;with_reducible refine (spec_Small.calls (s.extract m.toNat e0.toNat) kt _ Hkt.out).mono ?_
    rintro e wr16 ⟨rfl, hb⟩;refine ⟨_, rfl, ?_⟩;have n1_ := A_ (HTd.out.below hb);clear hb HTd;have HTd := n1_;clear n1_;refine hK.out _ _ HTd.out.sc.cells.1 (fun hHeld => ?_);clear hK K;refine nm_ ?_;refine pq_ ?_;refine last_ (i := 18) (N := some 69) (tS 19 19) rfl rfl (by kernel_rfl) de_ (fun K hK => ?_);refine gS_ Tryz.func54 #[.pointer (some ⟨b, 0, none⟩), .agg #[.int .i64 5, .string ⟨#[]⟩, .slice none 0 0, .string kt, .bool false]] ?_;with_reducible refine (spec_l5Put.calls b _ s _ out o 5 ⟨#[]⟩ [] kt false (.slice none 0 0) w0 _ HTd.out.sc HTd.out.bl (Kd.R_nil _ _ _ _ _) HTd.out.sc.lt (Nat.le_refl _) Ho.out).mono ?_
    rintro e wr18 ⟨rfl, hst⟩;refine ⟨_, rfl, ?_⟩;have HT9 := A_ hst;clear hst HTd;refine hK.out _ _ ?_;clear hK K;refine nm_ ?_;refine done_ (by kernel_rfl) ?_;go_wp2
    refine bodyPost_ret (results_none rfl _ _ _) rfl ?_;exact ⟨rfl, HT9.out⟩
   | false =>
    rw [if_neg si_, if_neg (fun h => by omega), if_neg om_] at H;obtain ⟨m, hm, H⟩ := oB_ H;split at H
    case isFalse => cases H
    case isTrue hq =>
    obtain ⟨m0, m1, m2⟩ := hq;obtain ⟨o, ho, H⟩ := oB_ H;obtain ⟨rfl, rfl⟩ := Prod.mk.inj (sI_ H);have Hm := A_ hm;have Ho := A_ ho;have k1 := eq_true m0;have k2 := eq_true m1;have k3 := eq_true m2;clear hm ho H HH;go_upto_region 13 with (first | (go_at_call 87; (with_reducible refine (spec_Small.calls s sm _ Hsm.out).mono ?_); rintro e w2 ⟨rfl, hb⟩; have HT4 := A_ (HT3.out.below hb); clear hb HT3 hc0 hc1 hf1; obtain ⟨hc0, hc1, hf1⟩ := HT4.out.sc.cells) | (go_at_call 57; (with_reducible refine (spec_l5Stands.calls sm (p + 2) ⟨#[100, 111, 99, 116, 121, 112, 101]⟩ false _ Hkd.out).mono ?_); rintro e w2 ⟨rfl, hb⟩; have HT5 := A_ (HT4.out.below hb.below); clear hb HT4 hc0 hc1 hf1; obtain ⟨hc0, hc1, hf1⟩ := HT5.out.sc.cells))
    have HTd := A_ (HT5.out.below (below_drew (Below.refl _ _)));clear HT5 hc0 hc1 hf1;refine start_ (n := 12) (S := fun w' => w'.cell? ⟨b, 0, none⟩ = some (.string s)) (ds := [11]) (tS 12 0) (by kernel_rfl) rfl rfl HTd.out.sc.cells.1 (fun hHeld => ?_);generalize World.drew _ = wr0 at HTd hHeld ⊢;iterate 4 refine pq_ ?_
    refine tq_ rfl (by rintro w' s0; go_simp; with_reducible rfl) ?_;refine pq_ ?_;refine pq_ ?_;refine pg_ 8 (tB 12 383) ?_;refine n1_ 7 (tS 12 9) rfl fun K hK => ?_
    refine gS_ Tryz.func100 #[.int .i64 (p + 2), .int .i64 e0] ?_;with_reducible refine (spec_l1Min.calls (p + 2) e0 m _ Hm.out).mono ?_
    rintro e wr7 ⟨rfl, hb⟩;refine ⟨_, rfl, ?_⟩;have n1_ := A_ (HTd.out.below hb.below);clear hb HTd;have HTd := n1_;clear n1_;refine hK.out _ _ HTd.out.sc.cells.1 (fun hHeld => ?_);clear hK K;refine nm_ ?_;refine pq_ ?_;refine pq_ ?_;refine last_ (i := 11) (N := some 112) (tS 12 12) rfl rfl (by kernel_rfl) de_ (fun K hK => ?_);refine gS_ Tryz.func54 #[.pointer (some ⟨b, 0, none⟩), .agg #[.int .i64 4, .string ⟨#[]⟩, .slice none 0 0, .string (s.extract m.toNat e0.toNat), .bool false]] ?_;with_reducible refine (spec_l5Put.calls b _ s _ out o 4 ⟨#[]⟩ [] (s.extract m.toNat e0.toNat) false (.slice none 0 0) w0 _ HTd.out.sc HTd.out.bl (Kd.R_nil _ _ _ _ _) HTd.out.sc.lt (Nat.le_refl _) Ho.out).mono ?_
    rintro e wr11 ⟨rfl, hst⟩;refine ⟨_, rfl, ?_⟩;have HT9 := A_ hst;clear hst HTd;refine hK.out _ _ ?_;clear hK K;refine nm_ ?_;refine done_ (by kernel_rfl) ?_;go_end0
    exact ⟨rfl, HT9.out⟩
  case neg =>
   have d1 : (bt s (p + 1) == 33) = false := bN_ b1;have d1' := eq_false b1;rw [if_neg b1, Option.bind_some, if_neg si_] at H;by_cases b2 : bt s (p + 1) = 47
   case pos =>
    by_cases b4 : e0 = p + 2
    case pos =>
     have q4 : (e0 == p + 2) = true := bQ_ b4;by_cases b5 : (e0 + 1) > e0
     case pos =>
      rw [if_pos ⟨b2, b4, b5⟩] at H;obtain ⟨rfl, rfl⟩ := Prod.mk.inj (sI_ H);have q5 := eq_true b5;have q5' := eq_true (show e0 < (e0 + 1) from b5);clear H HH b4;go_wp2_with (fail)
      refine bodyPost_ret (results_none rfl _ _ _) rfl ?_;exact ⟨rfl, HT3.out⟩
     case neg =>
      exact absurd b5 om_
    case neg =>
     have q4 : (e0 == p + 2) = false := bN_ b4;have q4' := eq_false b4;rw [if_neg (fun h => b4 h.2.1), if_neg om_] at H;obtain ⟨m, hm, H⟩ := oB_ H;split at H
     case isFalse => cases H
     case isTrue hq =>
     obtain ⟨m0, m1, m2⟩ := hq;obtain ⟨o, ho, H⟩ := oB_ H;obtain ⟨rfl, rfl⟩ := Prod.mk.inj (sI_ H);have Hm := A_ hm;have Ho := A_ ho;have k1 := eq_true m0;have k2 := eq_true m1;have k3 := eq_true m2;clear hm ho H HH;go_upto_region 13 with (fail)
     have HTd := A_ (HT3.out.below (below_drew (Below.refl _ _)));clear HT3 hc0 hc1 hf1;refine start_ (n := 12) (S := fun w' => w'.cell? ⟨b, 0, none⟩ = some (.string s)) (ds := [11]) (tS 12 0) (by kernel_rfl) rfl rfl HTd.out.sc.cells.1 (fun hHeld => ?_);generalize World.drew _ = wr0 at HTd hHeld ⊢;iterate 4 refine pq_ ?_
     refine tq_ rfl (by rintro w' s0; go_simp; with_reducible rfl) ?_;refine pq_ ?_;refine pq_ ?_;refine pg_ 8 (tB 12 383) ?_;refine n1_ 7 (tS 12 9) rfl fun K hK => ?_
     refine gS_ Tryz.func100 #[.int .i64 (p + 2), .int .i64 e0] ?_;with_reducible refine (spec_l1Min.calls (p + 2) e0 m _ Hm.out).mono ?_
     rintro e wr7 ⟨rfl, hb⟩;refine ⟨_, rfl, ?_⟩;have n1_ := A_ (HTd.out.below hb.below);clear hb HTd;have HTd := n1_;clear n1_;refine hK.out _ _ HTd.out.sc.cells.1 (fun hHeld => ?_);clear hK K;refine nm_ ?_;refine pq_ ?_;refine pq_ ?_;refine last_ (i := 11) (N := some 112) (tS 12 12) rfl rfl (by kernel_rfl) de_ (fun K hK => ?_);refine gS_ Tryz.func54 #[.pointer (some ⟨b, 0, none⟩), .agg #[.int .i64 4, .string ⟨#[]⟩, .slice none 0 0, .string (s.extract m.toNat e0.toNat), .bool false]] ?_;with_reducible refine (spec_l5Put.calls b _ s _ out o 4 ⟨#[]⟩ [] (s.extract m.toNat e0.toNat) false (.slice none 0 0) w0 _ HTd.out.sc HTd.out.bl (Kd.R_nil _ _ _ _ _) HTd.out.sc.lt (Nat.le_refl _) Ho.out).mono ?_
     rintro e wr11 ⟨rfl, hst⟩;refine ⟨_, rfl, ?_⟩;have HT9 := A_ hst;clear hst HTd;refine hK.out _ _ ?_;clear hK K;refine nm_ ?_;refine done_ (by kernel_rfl) ?_;go_end0
     exact ⟨rfl, HT9.out⟩
   case neg =>
    have d2 : (bt s (p + 1) == 47) = false := bN_ b2;have d2' := eq_false b2;rw [if_neg (fun h => b2 h.1)] at H;by_cases b3 : bt s (p + 1) = 63
    case pos =>
     rw [if_pos b3] at H;obtain ⟨m, hm, H⟩ := oB_ H;split at H
     case isFalse => cases H
     case isTrue hq =>
     obtain ⟨m0, m1, m2⟩ := hq;obtain ⟨o, ho, H⟩ := oB_ H;obtain ⟨rfl, rfl⟩ := Prod.mk.inj (sI_ H);have Hm := A_ hm;have Ho := A_ ho;have k1 := eq_true m0;have k2 := eq_true m1;have k3 := eq_true m2;clear hm ho H HH;go_upto_region 13 with (fail)
     have HTd := A_ (HT3.out.below (below_drew (Below.refl _ _)));clear HT3 hc0 hc1 hf1;refine start_ (n := 12) (S := fun w' => w'.cell? ⟨b, 0, none⟩ = some (.string s)) (ds := [11]) (tS 12 0) (by kernel_rfl) rfl rfl HTd.out.sc.cells.1 (fun hHeld => ?_);generalize World.drew _ = wr0 at HTd hHeld ⊢;iterate 4 refine pq_ ?_
     refine tq_ rfl (by rintro w' s0; go_simp; with_reducible rfl) ?_;refine pq_ ?_;refine pq_ ?_;refine pg_ 8 (tB 12 383) ?_;refine n1_ 7 (tS 12 9) rfl fun K hK => ?_
     refine gS_ Tryz.func100 #[.int .i64 (p + 1), .int .i64 e0] ?_;with_reducible refine (spec_l1Min.calls (p + 1) e0 m _ Hm.out).mono ?_
     rintro e wr7 ⟨rfl, hb⟩;refine ⟨_, rfl, ?_⟩;have n1_ := A_ (HTd.out.below hb.below);clear hb HTd;have HTd := n1_;clear n1_;refine hK.out _ _ HTd.out.sc.cells.1 (fun hHeld => ?_);clear hK K;refine nm_ ?_;refine pq_ ?_;refine pq_ ?_;refine last_ (i := 11) (N := some 112) (tS 12 12) rfl rfl (by kernel_rfl) de_ (fun K hK => ?_);refine gS_ Tryz.func54 #[.pointer (some ⟨b, 0, none⟩), .agg #[.int .i64 4, .string ⟨#[]⟩, .slice none 0 0, .string (s.extract m.toNat e0.toNat), .bool false]] ?_;with_reducible refine (spec_l5Put.calls b _ s _ out o 4 ⟨#[]⟩ [] (s.extract m.toNat e0.toNat) false (.slice none 0 0) w0 _ HTd.out.sc HTd.out.bl (Kd.R_nil _ _ _ _ _) HTd.out.sc.lt (Nat.le_refl _) Ho.out).mono ?_
     rintro e wr11 ⟨rfl, hst⟩;refine ⟨_, rfl, ?_⟩;have HT9 := A_ hst;clear hst HTd;refine hK.out _ _ ?_;clear hK K;refine nm_ ?_;refine done_ (by kernel_rfl) ?_;go_end0
     exact ⟨rfl, HT9.out⟩
    case neg =>
     have d3 : (bt s (p + 1) == 63) = false := bN_ b3;have d3' := eq_false b3;rw [if_neg b3] at H;obtain ⟨m, hm, H⟩ := oB_ H;split at H
     case isFalse => cases H
     case isTrue hq =>
     obtain ⟨m0, m1, m2⟩ := hq;obtain ⟨o, ho, H⟩ := oB_ H;obtain ⟨rfl, rfl⟩ := Prod.mk.inj (sI_ H);have Hm := A_ hm;have Ho := A_ ho;have k1 := eq_true m0;have k2 := eq_true m1;have k3 := eq_true m2;clear hm ho H HH;go_upto_region 13 with (fail)
     have HTd := A_ (HT3.out.below (below_drew (Below.refl _ _)));clear HT3 hc0 hc1 hf1;refine start_ (n := 12) (S := fun w' => w'.cell? ⟨b, 0, none⟩ = some (.string s)) (ds := [11]) (tS 12 0) (by kernel_rfl) rfl rfl HTd.out.sc.cells.1 (fun hHeld => ?_);generalize World.drew _ = wr0 at HTd hHeld ⊢;iterate 4 refine pq_ ?_
     refine tq_ rfl (by rintro w' s0; go_simp; with_reducible rfl) ?_;refine pq_ ?_;refine pq_ ?_;refine pg_ 8 (tB 12 383) ?_;refine n1_ 7 (tS 12 9) rfl fun K hK => ?_
     refine gS_ Tryz.func100 #[.int .i64 (p + 2), .int .i64 e0] ?_;with_reducible refine (spec_l1Min.calls (p + 2) e0 m _ Hm.out).mono ?_
     rintro e wr7 ⟨rfl, hb⟩;refine ⟨_, rfl, ?_⟩;have n1_ := A_ (HTd.out.below hb.below);clear hb HTd;have HTd := n1_;clear n1_;refine hK.out _ _ HTd.out.sc.cells.1 (fun hHeld => ?_);clear hK K;refine nm_ ?_;refine pq_ ?_;refine pq_ ?_;refine last_ (i := 11) (N := some 112) (tS 12 12) rfl rfl (by kernel_rfl) de_ (fun K hK => ?_);refine gS_ Tryz.func54 #[.pointer (some ⟨b, 0, none⟩), .agg #[.int .i64 4, .string ⟨#[]⟩, .slice none 0 0, .string (s.extract m.toNat e0.toNat), .bool false]] ?_;with_reducible refine (spec_l5Put.calls b _ s _ out o 4 ⟨#[]⟩ [] (s.extract m.toNat e0.toNat) false (.slice none 0 0) w0 _ HTd.out.sc HTd.out.bl (Kd.R_nil _ _ _ _ _) HTd.out.sc.lt (Nat.le_refl _) Ho.out).mono ?_
     rintro e wr11 ⟨rfl, hst⟩;refine ⟨_, rfl, ?_⟩;have HT9 := A_ hst;clear hst HTd;refine hK.out _ _ ?_;clear hK K;refine nm_ ?_;refine done_ (by kernel_rfl) ?_;go_end0
     exact ⟨rfl, HT9.out⟩
def sTextTo : Nat → ByteArray → Int → Option Int
 | 0, _, _ => none
 | k + 1, s, j => if j < s.size then (spec_l5Begins.f s j).bind fun c => if c = true then some j else sTextTo k s (j + 1) else some j
theorem sTextTo_mono : ∀ k s j, LeO (sTextTo k s j) (sTextTo (k + 1) s j)
 | 0, _, _ => fun r h => by simp [sTextTo] at h
 | k + 1, s, j => by
  rw [sTextTo, sTextTo];exact LeO.ite (LeO.bind (LeO.refl _) fun c => LeO.ite (LeO.refl _) (sTextTo_mono k s (j + 1))) (LeO.refl _)
def sText (k : Nat) (s : BA) (p : Int) (out : List S43) : Option (Int × List S43) := (sTextTo k s (p + 1)).bind fun te => if p ≤ te ∧ te ≤ s.size then
  (spec_Refs.f k (s.extract p.toNat te.toNat) false).bind fun t => (spec_l5Put.f out ⟨1, ⟨#[]⟩, [], t, false⟩).bind fun o => some (te, o) else none
def spec_l5One.f (k : Nat) (s : BA) (p : Int) (out : List S43) : Option (Int × List S43) :=
 if 0 ≤ p ∧ p < s.size ∧ s.size ≤ 1000000 then (spec_l5Begins.f s p).bind fun c0 => if c0 = true then
  (spec_l4After.f s p).bind fun fr => (spec_l5Stands.f s p ⟨#[60, 33, 45, 45]⟩).bind fun c1 => if c1 = true then spec_l5Note.f k s p out else
  if 0 ≤ fr then (if fr < s.size then (spec_IsLetter.f (bt s fr)) else some false).bind fun c2 => if c2 = true then spec_l5Tag.f k s p out else spec_l5Odd.f k s p out
  else none
 else sText k s p out
 else none
theorem spec_l5One.mono : ∀ s p out k, LeO (spec_l5One.f k s p out) (spec_l5One.f (k + 1) s p out) := fun s p out k => LeO.ite (LeO.bind (LeO.refl _) fun c0 => LeO.ite (LeO.bind (LeO.refl _) fun fr => LeO.bind (LeO.refl _) fun c1 => LeO.ite (spec_l5Note.mono _ _ _ _) (LeO.ite (LeO.bind (LeO.refl _) fun c2 => LeO.ite (spec_l5Tag.mono _ _ _ _) (spec_l5Odd.mono _ _ _ _)) (LeO.refl _))) (LeO.bind (sTextTo_mono _ _ _) fun te => LeO.ite (LeO.bind (spec_Refs.mono _ _ _) fun t => LeO.refl _) (LeO.refl _))) (LeO.refl _)
theorem spec_l5One.calls (k : Nat) (b : Nat) (s : BA) (p : Int) (out : List S43) (p' : Int) (out' : List S43) (w0 w : World) (hS : St 36 b w0 s p out w) (h : spec_l5One.f k s p out = some (p', out')) :
  Calls Tryz.prog 20 #[.pointer (some ⟨b, 0, none⟩)] w fun e w' => e = .returned (.tuple #[]) ∧ St 36 b w0 s p' out' w' := by
 have HT := A_ hS;clear hS;unfold spec_l5One.f at h;split at h
 case isFalse => cases h
 case isTrue hg =>
 obtain ⟨p0, p1, hs⟩ := hg;obtain ⟨c0, hc, h⟩ := oB_ h;have Hc0 := A_ hc;have HH := A_ h;clear hc h;have g1 := eq_true p0;have hw1 : wrap64 (p + 1) = p + 1 := by unfold wrap64; omega
 obtain ⟨hc0, hc1, hf1⟩ := HT.out.sc.cells;go_enter Tryz.func20, Tryz.ntmps20
 have H := HH.out;cases c0 with
 | false =>
  rw [if_neg si_] at H;unfold sText at H;obtain ⟨te, hte, H⟩ := oB_ H;split at H
  case isFalse => cases H
  case isTrue hg =>
  obtain ⟨t0, t1⟩ := hg;obtain ⟨t, ht, H⟩ := oB_ H;obtain ⟨o, ho, H⟩ := oB_ H;obtain ⟨rfl, rfl⟩ := Prod.mk.inj (sI_ H);have Hte := A_ hte;have Ht := A_ ht;have Ho := A_ ho;clear hte ht ho H HH;have g2 := eq_true t0;have g3 := eq_true t1;go_wp2_with ((go_at_call 53; (with_reducible refine (spec_l5Begins.calls s p false _ Hc0.out).mono ?_); rintro e w2 ⟨rfl, hb⟩; have HT1 := A_ (HT.out.below hb.below); clear hb HT; clear hc0 hc1 hf1; obtain ⟨hc0, hc1, hf1⟩ := HT1.out.sc.cells))
  clear hc0 hc1 hf1;go_loopg [3] k (fun kq v3 wr => ∃ j : Int, v3 = .int .i64 j ∧ 0 ≤ j ∧ j ≤ s.size ∧ As9 (sTextTo kq s j = some te) ∧ As9 (St 36 b w0 s p out wr))
  case atStart => exact ⟨p + 1, rfl, om_, om_, Hte, HT1⟩
  case round =>
   clear Hte HT1;obtain ⟨j, rfl, j0, j1, HA, HT⟩ := hrel;obtain ⟨hc0, hc1, hf1⟩ := HT.out.sc.cells;cases gk with
   | zero => exact absurd HA.out (by simp [sTextTo])
   | succ m =>
   have H := HA.out;clear HA;rw [sTextTo] at H;by_cases hj : j < (s.size : Int)
   case neg =>
    rw [if_neg hj] at H;obtain rfl := sI_ H;have q7 := eq_false hj;have HTx := HT;clear H HT;go_wp2_with (first | (go_at_call 55; have HTy := A_ (HTx.out.at_ j); (with_reducible refine (spec_Refs.calls k _ false t _ Ht.out).mono ?_); rintro e w2 ⟨rfl, hb⟩; have HTz := A_ (HTy.out.below hb); clear hb HTx HTy; clear hc0 hc1 hf1; obtain ⟨hc0, hc1, hf1⟩ := HTz.out.sc.cells) | (go_at_call 54; (with_reducible refine (spec_l5Put.calls b _ s _ out o 1 ⟨#[]⟩ [] t false (.slice none 0 0) w0 _ HTz.out.sc HTz.out.bl (Kd.R_nil _ _ _ _ _) HTz.out.sc.lt (Nat.le_refl _) Ho.out).mono ?_); rintro e w2 ⟨rfl, hst⟩; have HT9 := A_ hst; clear hst HTz; clear hc0 hc1 hf1; obtain ⟨hc0, hc1, hf1⟩ := HT9.out.sc.cells))
    refine bodyPost_ret (results_none rfl _ _ _) rfl ?_;exact ⟨rfl, HT9.out⟩
   case pos =>
    rw [if_pos hj] at H;have q7 := eq_true hj;obtain ⟨c, hc, H⟩ := oB_ H;have Hc := A_ hc;cases c with
    | true =>
     rw [if_pos rfl] at H;obtain rfl := sI_ H;clear H hc;go_wp2_with (first | (go_at_call 53; (with_reducible refine (spec_l5Begins.calls s j true _ Hc.out).mono ?_); rintro e w2 ⟨rfl, hb⟩; have HTx := A_ (HT.out.below hb.below); clear hb HT; clear hc0 hc1 hf1; obtain ⟨hc0, hc1, hf1⟩ := HTx.out.sc.cells) | (go_at_call 55; have HTy := A_ (HTx.out.at_ j); (with_reducible refine (spec_Refs.calls k _ false t _ Ht.out).mono ?_); rintro e w2 ⟨rfl, hb⟩; have HTz := A_ (HTy.out.below hb); clear hb HTx HTy; clear hc0 hc1 hf1; obtain ⟨hc0, hc1, hf1⟩ := HTz.out.sc.cells) | (go_at_call 54; (with_reducible refine (spec_l5Put.calls b _ s _ out o 1 ⟨#[]⟩ [] t false (.slice none 0 0) w0 _ HTz.out.sc HTz.out.bl (Kd.R_nil _ _ _ _ _) HTz.out.sc.lt (Nat.le_refl _) Ho.out).mono ?_); rintro e w2 ⟨rfl, hst⟩; have HT9 := A_ hst; clear hst HTz; clear hc0 hc1 hf1; obtain ⟨hc0, hc1, hf1⟩ := HT9.out.sc.cells))
     refine bodyPost_ret (results_none rfl _ _ _) rfl ?_;exact ⟨rfl, HT9.out⟩
    | false =>
     rw [if_neg si_] at H;have HH := A_ H;clear H hc;have hwj : wrap64 (j + 1) = j + 1 := by unfold wrap64; omega
     go_wp2_with ((go_at_call 53; (with_reducible refine (spec_l5Begins.calls s j false _ Hc.out).mono ?_); rintro e w2 ⟨rfl, hb⟩; have HTx := A_ (HT.out.below hb.below); clear hb HT; clear hc0 hc1 hf1; obtain ⟨hc0, hc1, hf1⟩ := HTx.out.sc.cells))
     go_roundg m
     case measure => omega
     case rel => exact ⟨j + 1, rfl, om_, om_, HH, HTx⟩
 | true =>
 rw [if_pos rfl] at H;obtain ⟨fr, hfr, H⟩ := oB_ H;obtain ⟨c1, hc, H⟩ := oB_ H;have Hfr := A_ hfr;have Hc1 := A_ hc;clear hfr hc HH;cases c1 with
 | true =>
  rw [if_pos rfl] at H;have Hx := A_ H;clear H;go_wp2_with (first | (go_at_call 53; (with_reducible refine (spec_l5Begins.calls s p true _ Hc0.out).mono ?_); rintro e w2 ⟨rfl, hb⟩; have HT1 := A_ (HT.out.below hb.below); clear hb HT; clear hc0 hc1 hf1; obtain ⟨hc0, hc1, hf1⟩ := HT1.out.sc.cells) | (go_at_call 56; (with_reducible refine (spec_l4After.calls s p fr _ Hfr.out).mono ?_); rintro e w2 ⟨rfl, hb⟩; have HT2 := A_ (HT1.out.below hb.below); clear hb HT1; clear hc0 hc1 hf1; obtain ⟨hc0, hc1, hf1⟩ := HT2.out.sc.cells) | (go_at_call 57; (with_reducible refine (spec_l5Stands.calls s p ⟨#[60, 33, 45, 45]⟩ true _ Hc1.out).mono ?_); rintro e w2 ⟨rfl, hb⟩; have HT3 := A_ (HT2.out.below hb.below); clear hb HT2; clear hc0 hc1 hf1; obtain ⟨hc0, hc1, hf1⟩ := HT3.out.sc.cells) | (go_at_call 58; (with_reducible refine (spec_l5Note.calls k b s p out _ _ w0 _ HT3.out Hx.out).mono ?_); rintro e w2 ⟨rfl, hst⟩; have HT9 := A_ hst; clear hst HT3 hc0 hc1 hf1))
  go_end0
  exact ⟨rfl, HT9.out⟩
 | false =>
 rw [if_neg si_] at H;split at H
 case isFalse => cases H
 case isTrue hfr0 =>
 obtain ⟨c2, hc, H⟩ := oB_ H;have Hx := A_ H;have k0 := eq_true hfr0;have hx := bt_at s fr;have hr := bt_range s fr;have hw8 : wrap64 (bt s fr) = bt s fr := by unfold wrap64; omega
 clear H hfr0;by_cases hl : fr < (s.size : Int)
 case neg =>
  rw [if_neg hl] at hc;obtain rfl := sI_ hc;have H := Hx.out;rw [if_neg si_] at H;have Hy := A_ H;have q7 := eq_false hl;clear H Hx hc hr;go_wp2_with (first | (go_at_call 53; (with_reducible refine (spec_l5Begins.calls s p true _ Hc0.out).mono ?_); rintro e w2 ⟨rfl, hb⟩; have HT1 := A_ (HT.out.below hb.below); clear hb HT; clear hc0 hc1 hf1; obtain ⟨hc0, hc1, hf1⟩ := HT1.out.sc.cells) | (go_at_call 56; (with_reducible refine (spec_l4After.calls s p fr _ Hfr.out).mono ?_); rintro e w2 ⟨rfl, hb⟩; have HT2 := A_ (HT1.out.below hb.below); clear hb HT1; clear hc0 hc1 hf1; obtain ⟨hc0, hc1, hf1⟩ := HT2.out.sc.cells) | (go_at_call 57; (with_reducible refine (spec_l5Stands.calls s p ⟨#[60, 33, 45, 45]⟩ false _ Hc1.out).mono ?_); rintro e w2 ⟨rfl, hb⟩; have HT3 := A_ (HT2.out.below hb.below); clear hb HT2; clear hc0 hc1 hf1; obtain ⟨hc0, hc1, hf1⟩ := HT3.out.sc.cells) | (go_at_call 61; (with_reducible refine (spec_l5Odd.calls k b s p out _ _ w0 _ HT3.out Hy.out).mono ?_); rintro e w2 ⟨rfl, hst⟩; have HT9 := A_ hst; clear hst HT3 hc0 hc1 hf1))
  go_end0
  exact ⟨rfl, HT9.out⟩
 case pos =>
 rw [if_pos hl] at hc;have H3 := A_ hc;have q7 := eq_true hl;clear hc hr;have H := Hx.out;cases c2 with
 | true =>
  rw [if_pos rfl] at H;have Hy := A_ H;clear H Hx;go_wp2_with (first | (go_at_call 53; (with_reducible refine (spec_l5Begins.calls s p true _ Hc0.out).mono ?_); rintro e w2 ⟨rfl, hb⟩; have HT1 := A_ (HT.out.below hb.below); clear hb HT; clear hc0 hc1 hf1; obtain ⟨hc0, hc1, hf1⟩ := HT1.out.sc.cells) | (go_at_call 56; (with_reducible refine (spec_l4After.calls s p fr _ Hfr.out).mono ?_); rintro e w2 ⟨rfl, hb⟩; have HT2 := A_ (HT1.out.below hb.below); clear hb HT1; clear hc0 hc1 hf1; obtain ⟨hc0, hc1, hf1⟩ := HT2.out.sc.cells) | (go_at_call 57; (with_reducible refine (spec_l5Stands.calls s p ⟨#[60, 33, 45, 45]⟩ false _ Hc1.out).mono ?_); rintro e w2 ⟨rfl, hb⟩; have HT3 := A_ (HT2.out.below hb.below); clear hb HT2; clear hc0 hc1 hf1; obtain ⟨hc0, hc1, hf1⟩ := HT3.out.sc.cells) | (go_at_call 59; (with_reducible refine (spec_IsLetter.calls (bt s fr) true _ H3.out).mono ?_); rintro e w2 ⟨rfl, hb⟩; have HT4 := A_ (HT3.out.below hb.below); clear hb HT3; clear hc0 hc1 hf1; obtain ⟨hc0, hc1, hf1⟩ := HT4.out.sc.cells) | (go_at_call 60; (with_reducible refine (spec_l5Tag.calls k b s p out _ _ w0 _ HT4.out Hy.out).mono ?_); rintro e w2 ⟨rfl, hst⟩; have HT9 := A_ hst; clear hst HT4 hc0 hc1 hf1))
  go_end0
  exact ⟨rfl, HT9.out⟩
 | false =>
  rw [if_neg si_] at H;have Hy := A_ H;clear H Hx;go_wp2_with (first | (go_at_call 53; (with_reducible refine (spec_l5Begins.calls s p true _ Hc0.out).mono ?_); rintro e w2 ⟨rfl, hb⟩; have HT1 := A_ (HT.out.below hb.below); clear hb HT; clear hc0 hc1 hf1; obtain ⟨hc0, hc1, hf1⟩ := HT1.out.sc.cells) | (go_at_call 56; (with_reducible refine (spec_l4After.calls s p fr _ Hfr.out).mono ?_); rintro e w2 ⟨rfl, hb⟩; have HT2 := A_ (HT1.out.below hb.below); clear hb HT1; clear hc0 hc1 hf1; obtain ⟨hc0, hc1, hf1⟩ := HT2.out.sc.cells) | (go_at_call 57; (with_reducible refine (spec_l5Stands.calls s p ⟨#[60, 33, 45, 45]⟩ false _ Hc1.out).mono ?_); rintro e w2 ⟨rfl, hb⟩; have HT3 := A_ (HT2.out.below hb.below); clear hb HT2; clear hc0 hc1 hf1; obtain ⟨hc0, hc1, hf1⟩ := HT3.out.sc.cells) | (go_at_call 59; (with_reducible refine (spec_IsLetter.calls (bt s fr) false _ H3.out).mono ?_); rintro e w2 ⟨rfl, hb⟩; have HT4 := A_ (HT3.out.below hb.below); clear hb HT3; clear hc0 hc1 hf1; obtain ⟨hc0, hc1, hf1⟩ := HT4.out.sc.cells) | (go_at_call 61; (with_reducible refine (spec_l5Odd.calls k b s p out _ _ w0 _ HT4.out Hy.out).mono ?_); rintro e w2 ⟨rfl, hst⟩; have HT9 := A_ hst; clear hst HT4 hc0 hc1 hf1))
  go_end0
  exact ⟨rfl, HT9.out⟩
def sScanL : Nat → ByteArray → Int → List S43 → Option (List S43)
 | 0, _, _, _ => none
 | k + 1, s, p, out => if p < s.size then (spec_l5One.f k s p out).bind fun q => sScanL k s q.1 q.2 else some out
theorem sScanL_mono : ∀ k s p out, LeO (sScanL k s p out) (sScanL (k + 1) s p out)
 | 0, _, _, _ => fun r h => by simp [sScanL] at h
 | k + 1, s, p, out => by
  rw [sScanL, sScanL];exact LeO.ite (LeO.bind (spec_l5One.mono _ _ _ _) fun q => sScanL_mono k s q.1 q.2) (LeO.refl _)
def spec_Scan.f (k : Nat) (a0 : BA) : Option (List S43) := if (a0.size : Int) > 20000 then some [] else (spec_Clean.f k a0).bind fun c => (spec_Lines.f k c).bind fun l => sScanL k l 0 []
theorem spec_Scan.mono : ∀ a0 k, LeO (spec_Scan.f k a0) (spec_Scan.f (k + 1) a0) := fun _ k => LeO.ite (LeO.refl _) (LeO.bind (spec_Clean.mono _ _) fun c => LeO.bind (spec_Lines.mono _ _) fun l => sScanL_mono k _ _ _)
theorem spec_Scan.callsG (k : Nat) (a0 : BA) (r : List S43) (w : World) (h : spec_Scan.f k a0 = some r) :
  Calls Tryz.prog 5 #[.string a0] w fun e w' => ∃ (v0_ : Value) (gs : List GT), e = .returned v0_ ∧ gs.map erT = r ∧ (tbTL gs).Nodup ∧ kGT.R 43 w' w.heap.size (fun _ => True) v0_ gs ∧ Below w.heap.size w w' := by
 have hu := Tryz.underlying36;have hu2 := Tryz.underlying43;unfold spec_Scan.f at h;go_enter Tryz.func5, Tryz.ntmps5
 by_cases d1 : (a0.size : Int) > 20000
 ·rw [if_pos d1] at h;obtain rfl := sI_ h;have b1 : decide (20000 < (a0.size : Int)) = true := dE_ d1;have b2 : decide (20000 < a0.size) = true := dE_ om_;go_wp2_with (((with_reducible refine gate_dst (N := 7) rfl ?_); refine Kd.R_lit (w0 := w) kGT w.heap.size 43 ?hg (N := 7) ?hd (xs := ([] : List GT)) (inner := []) (ok := fun k_ => w.heap.size ≤ k_ ∧ k_ ≤ w.heap.size) (okp := fun _ => False) ?hr ?hp (fun _ hk => hk.elim) ⟨Nat.le_refl _, Nat.le_refl _⟩ (Below.refl _ _) (Nat.le_refl _) si_ ?_; (case hd => rfl); (case hg => rfl); (case hr => first | (go_simp; done) | (go_simp; rfl)); (case hp => exact (Reps.none _ _)); intro v8 w2 ho hb hg_ hnew_; have HO := A_ ho; have HB := A_ hb; obtain ⟨A8, c8, rfl⟩ := Kd.R_slice ho; clear ho hb hg_ hnew_))
  go_ret
  exact ⟨_, rfl, (by rw [tbTL]; exact List.nodup_nil), Kd.R_mono HO.out (fun _ _ => trivial), HB.out⟩
 ·rw [if_neg d1] at h;have b1 : decide (20000 < (a0.size : Int)) = false := dF_ d1;have b2 : decide (20000 < a0.size) = false := dF_ om_;obtain ⟨c, hc, h⟩ := oB_ h;obtain ⟨l, hl, h⟩ := oB_ h;have Hc := A_ hc;have Hl := A_ hl;have HD := A_ h;clear hc hl h;go_wp2_with (first | (go_at_call 19; (with_reducible refine (spec_Clean.calls k a0 c _ Hc.out).mono ?_); rintro e w1 ⟨rfl, hb⟩; have HB1 := A_ hb; clear hb) | (go_at_call 18; (with_reducible refine (spec_Lines.calls k c l _ Hl.out).mono ?_); rintro e w2 ⟨rfl, hb⟩; have HB2 := A_ (below_step HB1.out hb); clear hb HB1) | ((with_reducible refine gate_dst (N := 12) rfl ?_); refine bE_ #[.string l, .int .i64 0, .slice none 0 0] 36 ?_; intro b hb_ w3 hbox hbl; have HBG := A_ hb_; have HX := A_ hbox; have HBX := A_ hbl; clear hb_ hbox hbl; have he0 := (blk_cell HX.out 0).trans rfl; have he1 := (blk_cell HX.out 1).trans rfl; have he2 := (blk_cell HX.out 2).trans rfl; have hf0 := blk_frozen HX.out 0; have hf1 := blk_frozen HX.out 1; have hf2 := blk_frozen HX.out 2))
  have HT : As9 (St 36 b w2 l 0 [] w3) := ⟨⟨⟨.slice none 0 0, [], HX.out, Kd.R_nil _ _ _ _ _, (by rw [tbTL]; exact List.nodup_nil), (fun k_ (hk_ : k_ ∈ tbTL []) => absurd hk_ (by rw [tbTL]; exact List.not_mem_nil)), rfl⟩, Below.mono HBX.out (Nat.le_of_eq HBG.out)⟩⟩;have HB0 : As9 (w2.heap.size ≤ b) := ⟨Nat.le_of_eq HBG.out.symm⟩

  clear HX HBX he0 he1 he2 hf0 hf1 hf2;go_loopg [] k (fun kq wr => ∃ (p : Int) (out : List S43), As9 (sScanL kq l p out = some r) ∧ As9 (St 36 b w2 l p out wr))
  case atStart => exact ⟨0, [], HD, HT⟩
  case round =>
   clear HD HT;obtain ⟨p, out, HA, HT⟩ := hrel;cases gk with
   | zero => exact absurd HA.out (by simp [sScanL])
   | succ n =>
   have H := HA.out;clear HA;rw [sScanL] at H;obtain ⟨hc0, hc1, hf1⟩ := HT.out.sc.cells;by_cases hlt : p < (l.size : Int)
   case neg =>
    rw [if_neg hlt] at H;have q7 := eq_false hlt;have q8 : decide (p < (l.size : Int)) = false := dF_ hlt;obtain rfl := sI_ H;clear H;go_wp2
    go_quiet (fail)
    generalize hW : World.drewN _ nq = wx;have HTx : As9 (St 36 b w2 l p out wx) := ⟨by rw [← hW]; exact HT.out.below (bN9 (Below.refl _ _) _)⟩;clear hW HT hc0 hc1 hf1;obtain ⟨⟨v, gs, hsb, hrr, hnd, hlt_, hout⟩, hbl⟩ := HTx.out;obtain ⟨A, cc, rfl⟩ := Kd.R_slice hrr;have hc2 := (blk_cell hsb 2).trans rfl;have HRR := A_ hrr;have HND := A_ hnd;have HOUT := A_ hout;have HBL := A_ hbl;clear hsb hrr hnd hlt_ hout hbl;go_wp2
    go_ret
    exact ⟨_, gs, rfl, HOUT.out, HND.out, Kd.R_lower HRR.out (by have h1 := HBG.out; have h2 := HB2.out.size; omega), Below.trans HB2.out (Below.mono HBL.out (by have h1 := HBG.out; have h2 := HB2.out.size; omega))⟩
   case pos =>
    rw [if_pos hlt] at H;have q7 := eq_true hlt;have q8 : decide (p < (l.size : Int)) = true := dE_ hlt;obtain ⟨⟨q1, q2⟩, hq, H⟩ := oB_ H;have Hq := A_ hq;have HH := A_ H;clear hq H;go_wp2
    go_quiet (fail)
    generalize hW : World.drewN _ nq = wx;have HTx : As9 (St 36 b w2 l p out wx) := ⟨by rw [← hW]; exact HT.out.below (bN9 (Below.refl _ _) _)⟩;clear hW HT hc0 hc1 hf1;have HT := HTx;clear HTx;obtain ⟨hc0, hc1, hf1⟩ := HT.out.sc.cells;go_wp2_with ((go_at_call 20; (with_reducible refine (spec_l5One.calls n b l p out q1 q2 w2 _ HT.out Hq.out).mono ?_); rintro e w4 ⟨rfl, hst⟩; have HT2 := A_ hst; clear hst HT hc0 hc1 hf1))
    go_roundg n
    case measure => omega
    case rel => exact ⟨q1, q2, HH, HT2⟩
theorem spec_Scan.calls (k : Nat) (a0 : BA) (r : List S43) (w : World) (h : spec_Scan.f k a0 = some r) :
  Calls Tryz.prog 5 #[.string a0] w fun e w' => ∃ v0_ : Value, e = .returned v0_ ∧ Kd.R k43 43 w' w.heap.size (fun _ => True) v0_ r ∧ Below w.heap.size w w' :=
 (spec_Scan.callsG k a0 r w h).mono (by
  rintro e w' ⟨v, gs, rfl, rfl, _, hr, hb⟩;exact ⟨v, rfl, kGT_er hr, hb⟩)
def strings_ReplaceAll.f (a0 : BA) (a1 : BA) (a2 : BA) : Option ByteArray := if a0.size < 4294967281 ∧ 1 ≤ a1.size ∧ a0.size + Lib.countB a0 a1 * a2.size ≤ 140737488355328 then some ⟨(Lib.replaceAll a0.data.toList a1.data.toList a2.data.toList).toArray⟩ else none
theorem strings_ReplaceAll.calls (a0 : BA) (a1 : BA) (a2 : BA) (r : BA) (w : World) (hL : LibOk w) (h : strings_ReplaceAll.f a0 a1 a2 = some r) :
  Calls Tryz.prog 62 #[.string a0, .string a1, .string a2] w fun e w' => e = .returned (.string r) ∧ Below w.heap.size w w' := by
 unfold strings_ReplaceAll.f at h;split at h
 ·next hc =>
  obtain rfl := sI_ h;obtain ⟨m, hm⟩ := hL.maxLen;exact Tryz.strings_ReplaceAll a0 a1 a2 m w hc.1 hm hc.2.1 hc.2.2
 ·cases h
def impl_Lines.f (a0 : BA) : Option (ByteArray) := (strings_ReplaceAll.f a0 (⟨#[13, 10]⟩ : BA) (⟨#[10]⟩ : BA)).bind fun t235 => ((strings_ReplaceAll.f t235 (⟨#[13]⟩ : BA) (⟨#[10]⟩ : BA)).bind fun t236 => (some t236))
theorem impl_Lines.calls (a0 : BA) (r : BA) (w : World) (hL : LibOk w) (h : impl_Lines.f a0 = some r) :
  Calls Tryz.prog 21 #[.string a0] w fun e w' => e = .returned (.string r) ∧ Below w.heap.size w w' := by
 have HB := A_ (Below.refl w.heap.size w);have H : ((strings_ReplaceAll.f a0 (⟨#[13, 10]⟩ : BA) (⟨#[10]⟩ : BA)).bind fun t235 => ((strings_ReplaceAll.f t235 (⟨#[13]⟩ : BA) (⟨#[10]⟩ : BA)).bind fun t236 => (some t236))) = some r := h;clear h;obtain ⟨t235, A2, H⟩ := ob_ H;obtain ⟨t236, A3, H⟩ := ob_ H;obtain rfl := sI_ H;go_enter Tryz.func21, Tryz.ntmps21
 go_wp2_with (first | ((with_reducible refine gC_ 62 ?_); refine gL_ 4 Tryz.func62 #[.string a0, .string (⟨#[13, 10]⟩ : BA), .string (⟨#[10]⟩ : BA)] ?_; (with_reducible refine (strings_ReplaceAll.calls a0 (⟨#[13, 10]⟩ : BA) (⟨#[10]⟩ : BA) t235 _ ?side1 A2.out).mono ?_); (case side1 => first | exact hL | exact LibOk.below hL hB_); rintro e w4 ⟨rfl, hb⟩; refine ⟨_, rfl, ?_⟩; replace HB := bS_ hb; clear hb) | ((with_reducible refine gC_ 62 ?_); refine gL_ 6 Tryz.func62 #[.string t235, .string (⟨#[13]⟩ : BA), .string (⟨#[10]⟩ : BA)] ?_; (with_reducible refine (strings_ReplaceAll.calls t235 (⟨#[13]⟩ : BA) (⟨#[10]⟩ : BA) t236 _ ?side1 A3.out).mono ?_); (case side1 => first | exact hL | exact LibOk.below hL hB_); rintro e w5 ⟨rfl, hb⟩; refine ⟨_, rfl, ?_⟩; replace HB := bS_ hb; clear hb))
 go_ret
 exact ⟨e1_, hB_⟩
def impl_beginning.j0 : Nat → Int → Bool → Option (Int × Int × Int × Int)
 | 0, _, _ => none
 | k + 1, x0, x11 => if x11 = true then (some ((-1), 0, 0, 0)) else (if x0 < 224 then (some (1, wrap64 (Go.bits .and .u8 x0 31), 128, 191)) else (if x0 = 224 then (some (2, 0, 160, 191)) else (if x0 = 237 then (some (2, 13, 128, 159)) else (if x0 < 240 then (some (2, wrap64 (Go.bits .and .u8 x0 15), 128, 191)) else (if x0 = 240 then (some (3, 0, 144, 191)) else (if x0 = 244 then (some (3, 4, 128, 143)) else (some (3, wrap64 (Go.bits .and .u8 x0 7), 128, 191))))))))
def impl_beginning.f (k : Nat) (a0 : Int) : Option (Int × Int × Int × Int) := if a0 < 128 then (some (0, wrap64 (a0), 0, 0)) else (if a0 < 194 then (impl_beginning.j0 k a0 true) else (impl_beginning.j0 k a0 (decide (a0 > 244))))
theorem impl_beginning.mono_l : ∀ k, (∀ y0 y1, LeO (impl_beginning.j0 k y0 y1) (impl_beginning.j0 (k + 1) y0 y1))
 | 0 => fun _ _ r h => by simp [impl_beginning.j0] at h
 | k + 1 => by
  have ih0 := impl_beginning.mono_l k
  ·intro y0 y1;unfold impl_beginning.j0;with_reducible repeat' first | exact ih0 _ _ | apply LeO.refl | apply LeO.none | apply LeO.ite | apply LeO.bind | intro
theorem impl_beginning.mono : ∀ a0 k, LeO (impl_beginning.f k a0) (impl_beginning.f (k + 1) a0) := by
 intro a0 k;have ih0 := impl_beginning.mono_l k;unfold impl_beginning.f;with_reducible repeat' first | exact ih0 _ _ | apply LeO.refl | apply LeO.none | apply LeO.ite | apply LeO.bind | intro
theorem impl_beginning.calls (k : Nat) (a0 : Int) (r1 : Int) (r2 : Int) (r3 : Int) (r4 : Int) (w : World) (h : impl_beginning.f k a0 = some (r1, r2, r3, r4)) :
  Calls Tryz.prog 143 #[.int .u8 a0] w fun e w' => e = .returned (.tuple #[.int .i64 r1, .int .i64 r2, .int .u8 r3, .int .u8 r4]) ∧ Drawn0 w w' := by
 have H : (if a0 < 128 then (some (0, wrap64 (a0), 0, 0)) else (if a0 < 194 then (impl_beginning.j0 k a0 true) else (impl_beginning.j0 k a0 (decide (a0 > 244))))) = some (r1, r2, r3, r4) := h;clear h;rcases ic_ H with ⟨c2, H⟩ | ⟨c2, H⟩
 ·have c2b0 := dE_ c2;clear c2;simp only [Option.some.injEq, Prod.mk.injEq] at H;obtain ⟨rfl, rfl, rfl, rfl⟩ := H;go_enter Tryz.func143, Tryz.ntmps143
  go_wp2
  refine bodyPost_ret (results_list (rs := [.tmp 2, .tmp 3, .tmp 4, .tmp 5]) rfl si_ (.tmp (.tmp (.tmp (.tmp .nil))))) rfl ?_;exact ⟨e2_, d0_⟩
 ·have c2b0 := dF_ c2;clear c2;have HC3 := A_ H;clear H;go_enter Tryz.func143, Tryz.ntmps143
  go_upto_region 3 with (fail)
  go_cut [11] (fun v11 wc => ∃ (kq : Nat) (x11_2 : Bool), v11 = .bool x11_2 ∧ As9 (impl_beginning.j0 kq a0 x11_2 = some (r1, r2, r3, r4)) ∧ As9 (kq ≤ k) ∧ Drawn0 w wc)
  case first =>
   have H := HC3.out;clear HC3;rcases ic_ H with ⟨c4, H⟩ | ⟨c4, H⟩
   ·have c4b0 := dE_ c4;clear c4;(first | rw [c4b0] | (simp only [i64_w, i32_w]; rw [c4b0]) | skip)
    have H' := A_ H;clear H;go_wp2
    go_meet
    case rel => exact ⟨_, (true), e2_, H', ⟨by first | omega | exact Nat.le_refl _⟩, d0_⟩
   ·have c4b0 := dF_ c4;clear c4;(first | rw [c4b0] | (simp only [i64_w, i32_w]; rw [c4b0]) | skip)
    have H' := A_ H;clear H;go_wp2
    go_meet
    case rel => exact ⟨_, (decide (a0 > 244)), e2_, H', ⟨by first | omega | exact Nat.le_refl _⟩, d0_⟩
  case rest =>
   clear HC3;try clear c1
   try clear c2
   try clear c2b0
   try clear p2
   try clear c4
   try clear c4b0
   obtain ⟨kq, x11_2, rfl, HA, HJ2, ⟨mc2, rfl⟩⟩ := hcut;cases kq with
   | zero => exact absurd HA.out (by simp [impl_beginning.j0])
   | succ kj2 =>
    have H := HA.out;clear HA;simp only [impl_beginning.j0] at H;by_cases c5 : x11_2 = true
    ·subst c5;rw [if_pos rfl] at H;simp only [Option.some.injEq, Prod.mk.injEq] at H;obtain ⟨rfl, rfl, rfl, rfl⟩ := H;go_wp2
     refine bodyPost_ret (results_list (rs := [.tmp 2, .tmp 3, .tmp 4, .tmp 5]) rfl si_ (.tmp (.tmp (.tmp (.tmp .nil))))) rfl ?_;exact ⟨e2_, d0_⟩
    ·replace c5 := bF_ c5;subst c5;rw [if_neg nF_] at H;rcases ic_ H with ⟨c6, H⟩ | ⟨c6, H⟩
     ·have c6b0 := dE_ c6;clear c6;simp only [Option.some.injEq, Prod.mk.injEq] at H;obtain ⟨rfl, rfl, rfl, rfl⟩ := H;go_wp2
      refine bodyPost_ret (results_list (rs := [.tmp 2, .tmp 3, .tmp 4, .tmp 5]) rfl si_ (.tmp (.tmp (.tmp (.tmp .nil))))) rfl ?_;exact ⟨e2_, d0_⟩
     ·have c6b0 := dF_ c6;clear c6;rcases ic_ H with ⟨c7, H⟩ | ⟨c7, H⟩
      ·obtain ⟨c7b0, c7b1⟩ := be_ c7;clear c7;simp only [Option.some.injEq, Prod.mk.injEq] at H;obtain ⟨rfl, rfl, rfl, rfl⟩ := H;go_wp2
       refine bodyPost_ret (results_list (rs := [.tmp 2, .tmp 3, .tmp 4, .tmp 5]) rfl si_ (.tmp (.tmp (.tmp (.tmp .nil))))) rfl ?_;exact ⟨e2_, d0_⟩
      ·obtain ⟨c7b0, c7b1⟩ := bn_ c7;rcases ic_ H with ⟨c8, H⟩ | ⟨c8, H⟩
       ·obtain ⟨c8b0, c8b1⟩ := be_ c8;clear c8;simp only [Option.some.injEq, Prod.mk.injEq] at H;obtain ⟨rfl, rfl, rfl, rfl⟩ := H;go_wp2
        refine bodyPost_ret (results_list (rs := [.tmp 2, .tmp 3, .tmp 4, .tmp 5]) rfl si_ (.tmp (.tmp (.tmp (.tmp .nil))))) rfl ?_;exact ⟨e2_, d0_⟩
       ·obtain ⟨c8b0, c8b1⟩ := bn_ c8;rcases ic_ H with ⟨c9, H⟩ | ⟨c9, H⟩
        ·have c9b0 := dE_ c9;clear c9;simp only [Option.some.injEq, Prod.mk.injEq] at H;obtain ⟨rfl, rfl, rfl, rfl⟩ := H;go_wp2
         refine bodyPost_ret (results_list (rs := [.tmp 2, .tmp 3, .tmp 4, .tmp 5]) rfl si_ (.tmp (.tmp (.tmp (.tmp .nil))))) rfl ?_;exact ⟨e2_, d0_⟩
        ·have c9b0 := dF_ c9;clear c9;rcases ic_ H with ⟨c10, H⟩ | ⟨c10, H⟩
         ·obtain ⟨c10b0, c10b1⟩ := be_ c10;clear c10;simp only [Option.some.injEq, Prod.mk.injEq] at H;obtain ⟨rfl, rfl, rfl, rfl⟩ := H;go_wp2
          refine bodyPost_ret (results_list (rs := [.tmp 2, .tmp 3, .tmp 4, .tmp 5]) rfl si_ (.tmp (.tmp (.tmp (.tmp .nil))))) rfl ?_;exact ⟨e2_, d0_⟩
         ·obtain ⟨c10b0, c10b1⟩ := bn_ c10;rcases ic_ H with ⟨c11, H⟩ | ⟨c11, H⟩
          ·obtain ⟨c11b0, c11b1⟩ := be_ c11;clear c11;simp only [Option.some.injEq, Prod.mk.injEq] at H;obtain ⟨rfl, rfl, rfl, rfl⟩ := H;go_wp2
           refine bodyPost_ret (results_list (rs := [.tmp 2, .tmp 3, .tmp 4, .tmp 5]) rfl si_ (.tmp (.tmp (.tmp (.tmp .nil))))) rfl ?_;exact ⟨e2_, d0_⟩
          ·obtain ⟨c11b0, c11b1⟩ := bn_ c11;simp only [Option.some.injEq, Prod.mk.injEq] at H;obtain ⟨rfl, rfl, rfl, rfl⟩ := H;go_wp2
           refine bodyPost_ret (results_list (rs := [.tmp 2, .tmp 3, .tmp 4, .tmp 5]) rfl si_ (.tmp (.tmp (.tmp (.tmp .nil))))) rfl ?_;exact ⟨e2_, d0_⟩
def impl_getSign.l0 : Nat → ByteArray → Int → Int → Int → Int → Int → Int → Option (Int × Int)
 | 0, _, _, _, _, _, _, _ => none
 | k + 1, x0, x1, x6, x7, x8, x9, x10 => if x10 ≤ x6 then (if (wrap64 (x1 + x10)) ≥ (x0.size : Int) then (some (65533, x10)) else (if 0 ≤ (wrap64 (x1 + x10)) then (if (wrap64 (x1 + x10)) < (x0.size : Int) then (if (bt x0 (wrap64 (x1 + x10))) < x8 then (some (65533, x10)) else (if (bt x0 (wrap64 (x1 + x10))) > x9 then (some (65533, x10)) else (impl_getSign.l0 k x0 x1 x6 (Go.bits .or .i64 (wrap64 (x7 * 64)) (wrap64 (Go.bits .and .u8 (bt x0 (wrap64 (x1 + x10))) 63))) 128 191 (wrap64 (x10 + 1))))) else (none)) else (none))) else (some (x7, wrap64 (x6 + 1)))
def impl_getSign.f (k : Nat) (a0 : BA) (a1 : Int) : Option (Int × Int) := if 0 ≤ a1 then (if a1 < (a0.size : Int) then ((impl_beginning.f k (bt a0 a1)).bind fun bt258 => (if bt258.1 < 0 then (some (65533, 1)) else (impl_getSign.l0 k a0 a1 bt258.1 bt258.2.1 bt258.2.2.1 bt258.2.2.2 1))) else (none)) else (none)
theorem impl_getSign.mono_l : ∀ k, (∀ y0 y1 y2 y3 y4 y5 y6, LeO (impl_getSign.l0 k y0 y1 y2 y3 y4 y5 y6) (impl_getSign.l0 (k + 1) y0 y1 y2 y3 y4 y5 y6))
 | 0 => fun _ _ _ _ _ _ _ r h => by simp [impl_getSign.l0] at h
 | k + 1 => by
  have ih0 := impl_getSign.mono_l k
  ·intro y0 y1 y2 y3 y4 y5 y6;unfold impl_getSign.l0;with_reducible repeat' first | exact ih0 _ _ _ _ _ _ _ | exact impl_beginning.mono _ _ | apply LeO.refl | apply LeO.none | apply LeO.ite | apply LeO.bind | intro
theorem impl_getSign.mono : ∀ a0 a1 k, LeO (impl_getSign.f k a0 a1) (impl_getSign.f (k + 1) a0 a1) := by
 intro a0 a1 k;have ih0 := impl_getSign.mono_l k;unfold impl_getSign.f;with_reducible repeat' first | exact ih0 _ _ _ _ _ _ _ | exact impl_beginning.mono _ _ | apply LeO.refl | apply LeO.none | apply LeO.ite | apply LeO.bind | intro
theorem impl_getSign.calls (k : Nat) (a0 : BA) (a1 : Int) (r1 : Int) (r2 : Int) (w : World) (h : impl_getSign.f k a0 a1 = some (r1, r2)) :
  Calls Tryz.prog 103 #[.string a0, .int .i64 a1] w fun e w' => e = .returned (.tuple #[.int .i64 r1, .int .i64 r2]) ∧ Drawn0 w w' := by
 have H : (if 0 ≤ a1 then (if a1 < (a0.size : Int) then ((impl_beginning.f k (bt a0 a1)).bind fun bt258 => (if bt258.1 < 0 then (some (65533, 1)) else (impl_getSign.l0 k a0 a1 bt258.1 bt258.2.1 bt258.2.2.1 bt258.2.2.2 1))) else (none)) else (none)) = some (r1, r2) := h;clear h;obtain ⟨c3, H⟩ := ifn_ H;have c3b0 := dE_ c3;clear c3;obtain ⟨c4, H⟩ := ifn_ H;have c4b0 := dE_ c4;clear c4;obtain ⟨⟨t258, t259, t260, t261⟩, A6, H⟩ := ob_ H;(try dsimp only at H)
 rcases ic_ H with ⟨c7, H⟩ | ⟨c7, H⟩
 ·have c7b0 := dE_ c7;clear c7;obtain ⟨rfl, rfl⟩ := pi_ H;have p5 : 0 ≤ (a1 : Int) := dT_;have q5 : a1 < (a0.size : Int) := dT_;have hx5 := bt_at a0 a1;replace p5 := eq_true p5;replace q5 := eq_true q5;go_enter Tryz.func103, Tryz.ntmps103
  go_wp2_with (first | ((with_reducible refine gC_ 143 ?_); refine gL_ 15 Tryz.func143 #[.int .u8 (bt a0 a1)] ?_; refine dm_ (impl_beginning.calls k (bt a0 a1) t258 t259 t260 t261 _ A6.out) fun nd => ?_))
  go_ret2
  exact ⟨e2_, d0_⟩
 ·have c7b0 := dF_ c7;clear c7;have H' := A_ H;clear H;have p5 : 0 ≤ (a1 : Int) := dT_;have q5 : a1 < (a0.size : Int) := dT_;have hx5 := bt_at a0 a1;replace p5 := eq_true p5;replace q5 := eq_true q5;go_enter Tryz.func103, Tryz.ntmps103
  go_wp2_with (first | ((with_reducible refine gC_ 143 ?_); refine gL_ 15 Tryz.func143 #[.int .u8 (bt a0 a1)] ?_; refine dm_ (impl_beginning.calls k (bt a0 a1) t258 t259 t260 t261 _ A6.out) fun nd => ?_))
  go_loopg [7, 8, 9, 10] k (fun kq v7 v8 v9 v10 w' => ∃ (x7_1 : Int) (x8_1 : Int) (x9_1 : Int) (x10_1 : Int), v7 = .int .i64 x7_1 ∧ v8 = .int .u8 x8_1 ∧ v9 = .int .u8 x9_1 ∧ v10 = .int .i64 x10_1 ∧ As9 (impl_getSign.l0 kq a0 a1 t258 x7_1 x8_1 x9_1 x10_1 = some (r1, r2)) ∧ As9 (kq ≤ k) ∧ Drawn0 w w')
  case atStart => exact ⟨(t259), (t260), (t261), (1), e2_, e2_, e2_, e2_, H', ⟨Nat.le_refl _⟩, d0_⟩
  case round =>
   clear H';try clear c1
   try clear p2
   try clear c3
   try clear c3b0
   try clear c4
   try clear c4b0
   try clear p5
   try clear q5
   try clear hx5
   try clear c7
   try clear c7b0
   try clear p5
   try clear q5
   obtain ⟨x7_1, x8_1, x9_1, x10_1, rfl, rfl, rfl, rfl, HA, HK1, ⟨m1, rfl⟩⟩ := hrel;cases gk with
   | zero => exact absurd HA.out (by simp [impl_getSign.l0])
   | succ k1 =>
    have H := HA.out;clear HA;simp only [impl_getSign.l0] at H;rcases ic_ H with ⟨c8, H⟩ | ⟨c8, H⟩
    ·have c8b0 := dE_ c8;clear c8;rcases ic_ H with ⟨c9, H⟩ | ⟨c9, H⟩
     ·have c9b0 : decide ((a0.size : Int) ≤ (wrap64 (a1 + x10_1))) = true := dE_ c9;clear c9;obtain ⟨rfl, rfl⟩ := pi_ H;go_wp2
      go_ret2
      exact ⟨e2_, d0_⟩
     ·have c9b0 : decide ((a0.size : Int) ≤ (wrap64 (a1 + x10_1))) = false := dF_ c9;clear c9;obtain ⟨ji10, hji10⟩ : ∃ j_ : Int, (wrap64 (a1 + x10_1)) = j_ := ⟨_, rfl⟩;replace H : (if 0 ≤ (ji10) then (if (ji10) < (a0.size : Int) then (if (bt a0 (ji10)) < x8_1 then (some (65533, x10_1)) else (if (bt a0 (ji10)) > x9_1 then (some (65533, x10_1)) else (impl_getSign.l0 k1 a0 a1 t258 (Go.bits .or .i64 (wrap64 (x7_1 * 64)) (wrap64 (Go.bits .and .u8 (bt a0 (ji10)) 63))) 128 191 (wrap64 (x10_1 + 1))))) else (none)) else (none)) = some (r1, r2) := by first | (rw [hji10] at H; exact H) | (simp only [hji10] at H ⊢; exact H)
      (try rw [hji10] at c9b0)
      have hji10w : (IntKind.i64.wrap (a1 + x10_1)) = ji10 := (i64_w _).trans hji10;obtain ⟨c11, H⟩ := ifn_ H;have c11b0 := dE_ c11;clear c11;obtain ⟨c12, H⟩ := ifn_ H;have c12b0 := dE_ c12;clear c12;rcases ic_ H with ⟨c14, H⟩ | ⟨c14, H⟩
      ·have c14b0 := dE_ c14;clear c14;obtain ⟨rfl, rfl⟩ := pi_ H;have p13 : 0 ≤ ((ji10) : Int) := dT_;have q13 : (ji10) < (a0.size : Int) := dT_;have hx13 := bt_at a0 (ji10);replace p13 := eq_true p13;replace q13 := eq_true q13;go_wp2
       go_ret2
       exact ⟨by first | rfl | (simp; done) | (simp only [← hji10] <;> (first | rfl | simp)) | (simp [*]; done), d0_⟩
      ·have c14b0 := dF_ c14;clear c14;rcases ic_ H with ⟨c16, H⟩ | ⟨c16, H⟩
       ·have c16b0 : decide (x9_1 < (bt a0 (ji10))) = true := dE_ c16;clear c16;obtain ⟨rfl, rfl⟩ := pi_ H;have p13 : 0 ≤ ((ji10) : Int) := dT_;have q13 : (ji10) < (a0.size : Int) := dT_;have hx13 := bt_at a0 (ji10);replace p13 := eq_true p13;replace q13 := eq_true q13;have p15 : 0 ≤ ((ji10) : Int) := dT_;have q15 : (ji10) < (a0.size : Int) := dT_;have hx15 := bt_at a0 (ji10);replace p15 := eq_true p15;replace q15 := eq_true q15;go_wp2
        go_ret2
        exact ⟨by first | rfl | (simp; done) | (simp only [← hji10] <;> (first | rfl | simp)) | (simp [*]; done), d0_⟩
       ·have c16b0 : decide (x9_1 < (bt a0 (ji10))) = false := dF_ c16;clear c16;have H' := A_ H;clear H;have p13 : 0 ≤ ((ji10) : Int) := dT_;have q13 : (ji10) < (a0.size : Int) := dT_;have hx13 := bt_at a0 (ji10);replace p13 := eq_true p13;replace q13 := eq_true q13;have p15 : 0 ≤ ((ji10) : Int) := dT_;have q15 : (ji10) < (a0.size : Int) := dT_;have hx15 := bt_at a0 (ji10);replace p15 := eq_true p15;replace q15 := eq_true q15;have p17 : 0 ≤ ((ji10) : Int) := dT_;have q17 : (ji10) < (a0.size : Int) := dT_;have hx17 := bt_at a0 (ji10);replace p17 := eq_true p17;replace q17 := eq_true q17;go_wp2
        go_roundg k1
        case measure => have := HK1.out; omega
        case rel => exact ⟨(Go.bits .or .i64 (wrap64 (x7_1 * 64)) (wrap64 (Go.bits .and .u8 (bt a0 (ji10)) 63))), (128), (191), (wrap64 (x10_1 + 1)), (by first | rfl | (simp; done) | (simp only [← hji10] <;> (first | rfl | simp)) | (simp [*]; done)), e2_, e2_, e2_, H', ⟨by have := HK1.out; omega⟩, d0_⟩
    ·have c8b0 := dF_ c8;clear c8;obtain ⟨rfl, rfl⟩ := pi_ H;go_wp2
     go_ret2
     exact ⟨e2_, d0_⟩
def impl_Signs.l0 : Nat → ByteArray → List Int → Int → Option (List Int)
 | 0, _, _, _ => none
 | k + 1, x0, x3, x4 => if x4 < (x0.size : Int) then ((impl_getSign.f k x0 x4).bind fun bt262 => (if x3.length < 17592186044416 then (impl_Signs.l0 k x0 (x3 ++ [bt262.1]) (wrap64 (x4 + bt262.2))) else (none))) else (some x3)
def impl_Signs.f (k : Nat) (a0 : BA) : Option (List Int) := impl_Signs.l0 k a0 ([] : List Int) 0
theorem impl_Signs.mono_l : ∀ k, (∀ y0 y1 y2, LeO (impl_Signs.l0 k y0 y1 y2) (impl_Signs.l0 (k + 1) y0 y1 y2))
 | 0 => fun _ _ _ r h => by simp [impl_Signs.l0] at h
 | k + 1 => by
  have ih0 := impl_Signs.mono_l k
  ·intro y0 y1 y2;unfold impl_Signs.l0;with_reducible repeat' first | exact ih0 _ _ _ | exact impl_getSign.mono _ _ _ | apply LeO.refl | apply LeO.none | apply LeO.ite | apply LeO.bind | intro
theorem impl_Signs.mono : ∀ a0 k, LeO (impl_Signs.f k a0) (impl_Signs.f (k + 1) a0) := by
 intro a0 k;have ih0 := impl_Signs.mono_l k;unfold impl_Signs.f;with_reducible repeat' first | exact ih0 _ _ _ | exact impl_getSign.mono _ _ _ | apply LeO.refl | apply LeO.none | apply LeO.ite | apply LeO.bind | intro
theorem impl_Signs.calls (k : Nat) (a0 : BA) (r : List Int) (w : World) (h : impl_Signs.f k a0 = some r) :
  Calls Tryz.prog 64 #[.string a0] w fun e w' => ∃ v0_ : Value, e = .returned (v0_) ∧ Kd.R (Kd.int .i64) 3 w' w.heap.size (fun _ => True) v0_ r ∧ Below w.heap.size w w' := by
 have HB := A_ (Below.refl w.heap.size w);have H : (impl_Signs.l0 k a0 ([] : List Int) 0) = some r := h;clear h;have H' := A_ H;clear H;go_enter Tryz.func64, Tryz.ntmps64
 go_wp2
 go_loopg [3, 4] k (fun kq v3 v4 w' => ∃ (x3_1 : List Int) (x4_1 : Int), v4 = .int .i64 x4_1 ∧ As9 (impl_Signs.l0 kq a0 x3_1 x4_1 = some r) ∧ As9 (kq ≤ k) ∧ As9 (Kd.R (Kd.int .i64) 3 w' w.heap.size (fun _ => True) v3 x3_1) ∧ As9 (Below w.heap.size w w'))
 case atStart => exact ⟨(([] : List Int)), (0), e2_, H', ⟨Nat.le_refl _⟩, ⟨by first | exact Kd.R_nil _ _ _ _ _ | exact Kd.N_nil _ _ _ _ _ | exact Kd.V_nil _ _ _ _ _ | exact Kd.Q_nil _ _ _ _ _ | exact Kd.S_nil _ _ _ _ _⟩, ⟨hB_⟩⟩
 case round =>
  clear H';obtain ⟨x3_1, x4_1, rfl, HA, HK1, HO_3, HB⟩ := hrel;cases gk with
  | zero => exact absurd HA.out (by simp [impl_Signs.l0])
  | succ k1 =>
   have H := HA.out;clear HA;simp only [impl_Signs.l0] at H;rcases ic_ H with ⟨c2, H⟩ | ⟨c2, H⟩
   ·have c2b0 := dE_ c2;clear c2;obtain ⟨⟨t262, t263⟩, A3, H⟩ := ob_ H;(try dsimp only at H)
    obtain ⟨c4, H⟩ := ifn_ H;have LMc4 := A_ c4;clear c4;obtain ⟨y264, hy264⟩ : ∃ y_ : List Int, y_ = (x3_1 ++ [t262]) := ⟨_, rfl⟩;replace H : (impl_Signs.l0 k1 a0 y264 (wrap64 (x4_1 + t263))) = some r := by first | (rw [hy264]; with_reducible exact H) | (have H2_ := (Option.bind_some _ _).symm.trans H; rw [hy264]; with_reducible exact H2_) | (have H2_ := (Option.bind_some _ _).symm.trans H; with_reducible exact H2_) | with_reducible exact H | (rw [hy264]; exact H) | exact H
    have Ny264 := A_ hy264;clear hy264;have H' := A_ H;clear H;go_wp2_with (first | ((with_reducible refine gC_ 103 ?_); refine gL_ 14 Tryz.func103 #[.string a0, .int .i64 x4_1] ?_; refine dm_ (impl_getSign.calls k1 a0 x4_1 t262 t263 _ A3.out) fun nd => ?_) | ((with_reducible refine gate_builtin (b := .append) (xs := #[.tmp 17, .tmp 19]) rfl ?_); at_builtin; refine Kd.R_append (Kd.int .i64) (w0 := w) w.heap.size rfl (.tmp 17) (.tmp 19) 71 3 (.int .i64 0) 8 rfl Tryz.underlying71 info3 rfl de_ om_ u3 x3_1 t262 [.int .i64 t262] (fun _ => True) (fun _ => False) rfl rfl ?aP (fun _ hk => hk.elim) ?aF ?aO ?aB ?aS ?aL ?_; (case aP => exact rfl); (case aB => exact hB_); (case aF => exact (fun _ _ => trivial)); (case aO => exact (kQ_ HO_3.out)); (case aS => exact (below_size hB_)); (case aL => have := LMc4.out; omega); intro v265 w5 ho hb hg hat; rw [← Ny264.out] at ho; replace HB := A_ (hb); have HO266 := A_ (ho); clear HO_3; clear ho hb hg hat))
    go_roundg k1
    case measure => have := HK1.out; omega
    case rel => exact ⟨(y264), (wrap64 (x4_1 + t263)), e2_, H', ⟨by have := HK1.out; omega⟩, ⟨kQ_ HO266.out⟩, ⟨hB_⟩⟩
   ·have c2b0 := dF_ c2;clear c2;obtain rfl := sI_ H;go_wp2
    go_ret
    exact ⟨_, e1_, kQ_ HO_3.out, hB_⟩
def impl_Clean.f (k : Nat) (a0 : BA) : Option (ByteArray) := (impl_Signs.f k a0).bind fun t267 => ((impl_SignText.f k t267).bind fun t270 => (some t270))
theorem impl_Clean.mono : ∀ a0 k, LeO (impl_Clean.f k a0) (impl_Clean.f (k + 1) a0) := by
 intro a0 k;unfold impl_Clean.f;with_reducible repeat' first | exact impl_SignText.mono _ _ | exact impl_Signs.mono _ _ | apply LeO.refl | apply LeO.none | apply LeO.ite | apply LeO.bind | intro
theorem impl_Clean.calls (k : Nat) (a0 : BA) (r : BA) (w : World) (h : impl_Clean.f k a0 = some r) :
  Calls Tryz.prog 22 #[.string a0] w fun e w' => e = .returned (.string r) ∧ Below w.heap.size w w' := by
 have HB := A_ (Below.refl w.heap.size w);have H : ((impl_Signs.f k a0).bind fun t267 => ((impl_SignText.f k t267).bind fun t270 => (some t270))) = some r := h;clear h;obtain ⟨t267, A2, H⟩ := ob_ H;obtain ⟨t270, A3, H⟩ := ob_ H;obtain rfl := sI_ H;go_enter Tryz.func22, Tryz.ntmps22
 go_wp2_with (first | ((with_reducible refine gC_ 64 ?_); refine gL_ 4 Tryz.func64 #[.string a0] ?_; (with_reducible refine (impl_Signs.calls k a0 t267 _ A2.out).mono ?_); rintro e w4 ⟨v268, rfl, ho0, hb⟩; refine ⟨_, rfl, ?_⟩; have HO269 := A_ (Kd.R_lower ho0 (below_size hB_)); replace HB := bS_ hb; clear hb; (try clear ho0); obtain ⟨Ao5, co5, eo5⟩ := Kd.R_slice HO269.out; subst eo5) | ((with_reducible refine gC_ 63 ?_); refine gL_ 5 Tryz.func63 #[.slice Ao5 t267.length co5] ?_; (with_reducible refine (impl_SignText.calls k _ _ t267 t270 _ ?side1 ?side2 A3.out).mono ?_); (case side1 => repeat (first | exact (Kd.R_reads' HO269.out).2.2 | (with_reducible refine Kd.C_alloc ?_ _) | (with_reducible refine Kd.C_drewN ?_ _) | (with_reducible refine Kd.C_drew ?_))); (case side2 => exact (Kd.R_reads' HO269.out).2.1); rintro e w6 ⟨rfl, hb⟩; refine ⟨_, rfl, ?_⟩; replace HO269 := A_ (Kd.R_below (kQ_ HO269.out) hb); replace HB := bS_ hb; clear hb))
 go_ret
 exact ⟨e1_, hB_⟩
def impl_IsLetter.f (a0 : Int) : Option (Bool) := (impl_inRange.f a0 97 122).bind fun t271 => (if t271 = true then (some true) else ((impl_inRange.f a0 65 90).bind fun t272 => (some t272)))
theorem impl_IsLetter.calls (a0 : Int) (r : Bool) (w : World) (h : impl_IsLetter.f a0 = some r) :
  Calls Tryz.prog 104 #[.int .i64 a0] w fun e w' => e = .returned (.bool r) ∧ Drawn0 w w' := by
 have H : ((impl_inRange.f a0 97 122).bind fun t271 => (if t271 = true then (some true) else ((impl_inRange.f a0 65 90).bind fun t272 => (some t272)))) = some r := h;clear h;obtain ⟨t271, A2, H⟩ := ob_ H;(try dsimp only at H)
 by_cases c3 : t271 = true
 ·subst c3;rw [if_pos rfl] at H;obtain rfl := sI_ H;go_enter Tryz.func104, Tryz.ntmps104
  go_wp2_with (first | ((with_reducible refine gC_ 144 ?_); refine gL_ 4 Tryz.func144 #[.int .i64 a0, .int .i64 97, .int .i64 122] ?_; refine dm_ (impl_inRange.calls a0 97 122 true _ A2.out) fun nd => ?_))
  go_ret
  exact ⟨e2_, d0_⟩
 ·replace c3 := bF_ c3;subst c3;rw [if_neg nF_] at H;obtain ⟨t272, A4, H⟩ := ob_ H;obtain rfl := sI_ H;go_enter Tryz.func104, Tryz.ntmps104
  go_wp2_with (first | ((with_reducible refine gC_ 144 ?_); refine gL_ 4 Tryz.func144 #[.int .i64 a0, .int .i64 97, .int .i64 122] ?_; refine dm_ (impl_inRange.calls a0 97 122 false _ A2.out) fun nd => ?_) | (go_at_call 144; (with_reducible refine (impl_inRange.calls a0 65 90 t272 _ A4.out).mono ?_); rintro e w' ⟨rfl, ⟨nd, rfl⟩⟩))
  go_ret
  exact ⟨e2_, d0_⟩
end Go.Proofs.YtkbbfeckieckoaaGreatDoor.A
