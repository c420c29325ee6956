-- joined by wip/tools/shake.py
import Derived.Test.YtkmmoheeoblmnaaGreatDoorVPcTAux
import Derived.Test.YtkmmoheeoblmnaaGreatDoorMPcT0
import Derived.Test.YtkmmoheeoblmnaaGreatDoorMPcT1
import Derived.Test.YtkmmoheeoblmnaaGreatDoorMPcT3
import Derived.Test.YtkmmoheeoblmnaaGreatDoorMPcT4
import Derived.Test.YtkmmoheeoblmnaaGreatDoorMPcT2
namespace Go.Proofs.YtkmmoheeoblmnaaGreatDoor.A
open Go.RowKit Go.Proofs.YtkmmoheeoblmnaaGreatDoorW.PrintWords Go.Proofs.YtkmmoheeoblmnaaGreatDoorW.PrintLast Go.Proofs.YtkmmoheeoblmnaaGreatDoorW.PrintMore
attribute [local go_sem] max2_int min2_int max_two min_two max_three min_three max_four min_four   -- for this text's walks alone
set_option linter.unusedVariables false
set_option linter.unusedSimpArgs false
def xtGo (rec_ : Int → List UInt8 → Option (ByteArray × Int)) (s : ByteArray) (i : Int) (c2 : Int) (out : List UInt8) : Option (ByteArray × Int) :=
 if i ≤ wrap64 (i + c2) ∧ wrap64 (i + c2) ≤ (s.size : Int) ∧ out.length + (s.extract i.toNat (wrap64 (i + c2)).toNat).size ≤ 140737488355327 then rec_ (wrap64 (i + c2)) (out ++ (s.extract i.toNat (wrap64 (i + c2)).toNat).data.toList) else none
def xtSign (rec_ : Int → List UInt8 → Option (ByteArray × Int)) (s : ByteArray) (a i : Int) (c1 c2 : Int) (out : List UInt8) : Option (ByteArray × Int) :=
 if c1 < 0 then some (⟨#[]⟩, -1)
 else (impl_IsText.f c1).bind fun b => if b = true then
  (if c1 = 13 then some (⟨#[]⟩, -1) else if c1 = 60 then some (⟨#[]⟩, -1)
   else if c1 = 62 then (if 0 ≤ a ∧ a ≤ i ∧ i ≤ (s.size : Int) then (strings_HasSuffix.f (s.extract a.toNat i.toNat) ⟨#[93, 93]⟩).bind fun h => if h = true then some (⟨#[]⟩, -1) else xtGo rec_ s i c2 out else none)
   else xtGo rec_ s i c2 out)
  else some (⟨#[]⟩, -1)
def xtL : Nat → ByteArray → Int → ByteArray → Int → List UInt8 → Option (ByteArray × Int)
 | 0, _, _, _, _, _ => none
 | n + 1, s, a, en, i, out =>
  if 0 ≤ i then
   (if i < (s.size : Int) then (strings_IndexByte.f en (bt s i)).bind fun q => if q < 0 then
     (if bt s i = 38 then (impl_XmlRef.f n s i).bind fun tn => if tn.2 < 0 then some (⟨#[]⟩, -1) else if out.length + tn.1.size ≤ 140737488355327 then xtL n s a en tn.2 (out ++ tn.1.data.toList) else none
      else (impl_cleanSign.f n s i).bind fun c => xtSign (xtL n s a en) s a i c.1 c.2 out)
    else some (⟨out.toArray⟩, i)
   else some (⟨out.toArray⟩, i))
  else none
theorem xtGo_mono {f g : Int → List UInt8 → Option (ByteArray × Int)} (h : ∀ i o, LeO (f i o) (g i o)) (s : ByteArray) (i c2 : Int) (out : List UInt8) : LeO (xtGo f s i c2 out) (xtGo g s i c2 out) := by
 unfold xtGo; exact LeO.ite (h _ _) (LeO.refl _)
theorem xtSign_mono {f g : Int → List UInt8 → Option (ByteArray × Int)} (h : ∀ i o, LeO (f i o) (g i o)) (s : ByteArray) (a i c1 c2 : Int) (out : List UInt8) : LeO (xtSign f s a i c1 c2 out) (xtSign g s a i c1 c2 out) := by
 unfold xtSign
 exact LeO.ite (LeO.refl _) (LeO.bind (LeO.refl _) (fun b => LeO.ite (LeO.ite (LeO.refl _) (LeO.ite (LeO.refl _) (LeO.ite (LeO.ite (LeO.bind (LeO.refl _) (fun h' => LeO.ite (LeO.refl _) (xtGo_mono h _ _ _ _))) (LeO.refl _)) (xtGo_mono h _ _ _ _)))) (LeO.refl _)))
theorem xtL_mono : ∀ k y0 y1 y2 y3 y4, LeO (xtL k y0 y1 y2 y3 y4) (xtL (k + 1) y0 y1 y2 y3 y4)
 | 0 => fun _ _ _ _ _ r h => by simp [xtL] at h
 | k + 1 => by
  have ih := xtL_mono k
  intro y0 y1 y2 y3 y4
  rw [xtL, xtL]
  exact LeO.ite (LeO.ite (LeO.bind (LeO.refl _) (fun q => LeO.ite (LeO.ite (LeO.bind (impl_XmlRef.mono _ _ _) (fun tn => LeO.ite (LeO.refl _) (LeO.ite (ih _ _ _ _ _) (LeO.refl _)))) (LeO.bind (impl_cleanSign.mono _ _ _) (fun c => xtSign_mono (fun i o => ih _ _ _ i o) _ _ _ _ _ _))) (LeO.refl _))) (LeO.refl _)) (LeO.refl _)
def impl_XmlText.f (k : Nat) (a0 : ByteArray) (a1 : Int) (a2 : ByteArray) : Option (ByteArray × Int) :=
 (impl_inRange.f a1 0 (a0.size : Int)).bind fun t => if t = true then xtL k a0 a1 a2 a1 [] else some (⟨#[]⟩, -1)
theorem impl_XmlText.mono : ∀ a0 a1 a2 k, LeO (impl_XmlText.f k a0 a1 a2) (impl_XmlText.f (k + 1) a0 a1 a2) := by
 intro a0 a1 a2 k
 unfold impl_XmlText.f
 exact LeO.bind (LeO.refl _) (fun t => LeO.ite (xtL_mono k _ _ _ _ _) (LeO.refl _))
set_option maxHeartbeats 8000000 in
set_option maxRecDepth 100000 in
theorem impl_XmlText.calls (k : Nat) (a0 : ByteArray) (a1 : Int) (a2 : ByteArray) (r1 : ByteArray) (r2 : Int) (w : World) (hL : LibOk w) (hE : LibErr w) (h : impl_XmlText.f k a0 a1 a2 = some (r1, r2)) :
  Calls Tryz.prog 22 #[.string a0, .int .i64 a1, .string a2] w fun e w' => e = .returned (.tuple #[.string r1, .int .i64 r2]) ∧ Below w.heap.size w w' := by
 have HLL := As9.mk hL
 have HEE := As9.mk hE
 clear hL hE
 unfold impl_XmlText.f at h
 have hub := Tryz.underlying79
 have HB := As9.mk (Below.refl w.heap.size w)
 obtain ⟨b, hin, h⟩ := Option.bind_eq_some_iff.mp h
 have Hin := As9.mk hin
 clear hin
 cases b with
 | false =>
  rw [if_neg (by simp)] at h
  obtain ⟨rfl, rfl⟩ := Prod.mk.inj (Option.some.inj h)
  clear h
  go_enter Tryz.func22, Tryz.ntmps22
  go_wp2_with ((go_at_call 53; (with_reducible refine (impl_inRange.calls a1 0 (a0.size : Int) false _ Hin.out).mono ?_); rintro r w' ⟨rfl, ⟨nd, rfl⟩⟩))
  go_ret2
  exact ⟨rfl, by repeat (first | (with_reducible first | exact HB.out | apply bA9 | apply bN9 | apply bD9) | exact HB.out)⟩
 | true =>
  rw [if_pos rfl] at h
  have HF := As9.mk h
  clear h
  go_enter Tryz.func22, Tryz.ntmps22
  go_wp2_with ((go_at_call 53; (with_reducible refine (impl_inRange.calls a1 0 (a0.size : Int) true _ Hin.out).mono ?_); rintro r w2 ⟨rfl, hd⟩; have HB2 := As9.mk (below_step HB.out hd.below); have hsz : As9 (w2.heap.size = w.heap.size) := ⟨by obtain ⟨nd, e⟩ := hd; rw [e]; rfl⟩; clear hd))
  have HN3 : As9 (Bld w.heap.size w2.heap.size (Lib.byteCells []) (w2.alloc (.cells #[.pointer none, .slice none 0 0] 79 (0, 0)))) := ⟨by
   have h1 := bld_new w2
   have h2 : ∀ B, w2.heap.size = B → Bld B w2.heap.size (Lib.byteCells []) (w2.alloc (.cells #[.pointer none, .slice none 0 0] 79 (0, 0))) := fun B e => by subst e; exact h1
   exact h2 _ hsz.out⟩
  have HB3 := As9.mk (bA9 HB2.out (.cells #[.pointer none, .slice none 0 0] 79 (0, 0)))
  clear hsz
  go_loopg [9] k (fun kq v9 wr => ∃ (out : List UInt8) (i : Int), v9 = .int .i64 i ∧ As9 (xtL kq a0 a1 a2 i out = some (r1, r2)) ∧ As9 (Bld w.heap.size w2.heap.size (Lib.byteCells out) wr) ∧ As9 (Below w.heap.size w wr))
  case atStart => exact ⟨[], a1, rfl, HF, HN3, HB3⟩
  case round =>
   clear HF HN3 HB3 HB HB2
   obtain ⟨out, i, rfl, HA, HN, HB⟩ := hrel
   cases gk with
   | zero => exact absurd HA.out (by simp [xtL])
   | succ n =>
   have h := HA.out
   clear HA
   rw [xtL] at h
   split at h
   case isFalse => cases h
   case isTrue hi0 =>
   have p1 := eq_true hi0
   by_cases hlt : i < (a0.size : Int)
   case neg =>
    rw [if_neg hlt] at h
    obtain ⟨rfl, rfl⟩ := Prod.mk.inj (Option.some.inj h)
    have q1 : decide (i < (a0.size : Int)) = false := decide_eq_false hlt
    clear h hi0 hlt
    go_wp2_with (first | (go_at_call 73; (with_reducible refine (bld_string w.heap.size w2.heap.size out _ HN.out HB.out.size).mono ?_); rintro e w5 ⟨rfl, hb, hk⟩; have HB5 := As9.mk (HB.out.trans hb); clear hb hk))
    go_ret2
    exact ⟨rfl, HB5.out⟩
   case pos =>
   rw [if_pos hlt] at h
   have q1 : decide (i < (a0.size : Int)) = true := decide_eq_true hlt
   have q2 := eq_true hlt
   obtain ⟨q, hQ, h⟩ := Option.bind_eq_some_iff.mp h
   have HQ := As9.mk hQ
   have hx := bt_at a0 i
   clear hQ
   by_cases hq : q < 0
   case neg =>
    rw [if_neg hq] at h
    obtain ⟨rfl, rfl⟩ := Prod.mk.inj (Option.some.inj h)
    have q3 : decide (q < 0) = false := decide_eq_false hq
    clear h hi0 hlt hq
    go_wp2_with (first | (go_at_call 64; (with_reducible refine (strings_IndexByte.calls a2 (bt a0 i) q _ HQ.out).mono ?_); rintro r w4 ⟨rfl, hd⟩; have HB4 := As9.mk (below_step HB.out hd.below); have HN4 := As9.mk (bld_below HN.out hd.below); clear hd))
    go_wp2_with (first | (go_at_call 73; (with_reducible refine (bld_string w.heap.size w2.heap.size out _ HN4.out HB4.out.size).mono ?_); rintro e w5 ⟨rfl, hb, hk⟩; have HB5 := As9.mk (HB4.out.trans hb); clear hb hk))
    go_ret2
    exact ⟨rfl, HB5.out⟩
   case pos =>
   rw [if_pos hq] at h
   have q3 : decide (q < 0) = true := decide_eq_true hq
   clear hq hi0 hlt
   by_cases h38 : bt a0 i = 38
   case pos =>
    rw [if_pos h38] at h
    have q4 : (bt a0 i == 38) = true := beq_iff_eq.mpr h38
    obtain ⟨⟨t1, t2⟩, hR, h⟩ := Option.bind_eq_some_iff.mp h
    have HR := As9.mk hR
    clear hR h38
    simp only at h
    by_cases hn : t2 < 0
    case pos =>
     rw [if_pos hn] at h
     have q5 : decide (t2 < 0) = true := decide_eq_true hn
     clear hn
     obtain ⟨rfl, rfl⟩ := Prod.mk.inj (Option.some.inj h)
     clear h
     go_wp2_with (first | (go_at_call 64; (with_reducible refine (strings_IndexByte.calls a2 (bt a0 i) q _ HQ.out).mono ?_); rintro r w4 ⟨rfl, hd⟩; have HB4 := As9.mk (below_step HB.out hd.below); have HN4 := As9.mk (bld_below HN.out hd.below); clear hd) | (go_at_call 19; (with_reducible refine (impl_XmlRef.calls n a0 i t1 t2 _ (HLL.out.below HB4.out) (HEE.out.below HB4.out) HR.out).mono ?_); rintro r w5 ⟨rfl, hb⟩; have HB5 := As9.mk (below_step HB4.out hb); clear hb))
     go_ret2
     exact ⟨rfl, by repeat (first | (with_reducible first | exact HB5.out | apply bA9 | apply bN9 | apply bD9) | exact HB5.out)⟩
    case neg =>
     rw [if_neg hn] at h
     have q5 : decide (t2 < 0) = false := decide_eq_false hn
     clear hn
     split at h
     case isFalse => cases h
     case isTrue hl =>
     have HLM : As9 ((Lib.byteCells out).length + t1.size ≤ 140737488355328) := ⟨by rw [byteCells_len]; omega⟩
     have HGN := As9.mk h
     clear h hl
     go_wp2_with (first | (go_at_call 64; (with_reducible refine (strings_IndexByte.calls a2 (bt a0 i) q _ HQ.out).mono ?_); rintro r w4 ⟨rfl, hd⟩; have HB4 := As9.mk (below_step HB.out hd.below); have HN4 := As9.mk (bld_below HN.out hd.below); clear hd) | (go_at_call 19; (with_reducible refine (impl_XmlRef.calls n a0 i t1 t2 _ (HLL.out.below HB4.out) (HEE.out.below HB4.out) HR.out).mono ?_); rintro r w5 ⟨rfl, hb⟩; have HB5 := As9.mk (below_step HB4.out hb); have HN5 := As9.mk (bld_below HN4.out hb); clear hb) | (go_at_call 71; (with_reducible refine (bld_str w.heap.size w2.heap.size (Lib.byteCells out) t1 _ HN5.out HLM.out HB5.out.size).mono ?_); rintro e w8 ⟨rfl, ho, hb, hk⟩; have HN8 := As9.mk ho; have HB8 := As9.mk (HB5.out.trans hb); clear ho hb hk))
     go_roundg n
     case measure => omega
     case rel => exact ⟨_, t2, rfl, HGN, ⟨by rw [byteCells_append, ← strCells_bytes]; exact HN8.out⟩, HB8⟩
   case neg =>
   rw [if_neg h38] at h
   have q4 : (bt a0 i == 38) = false := beq_eq_false_iff_ne.mpr h38
   clear h38
   obtain ⟨⟨c1, c2⟩, hC, h⟩ := Option.bind_eq_some_iff.mp h
   have HCS := As9.mk hC
   clear hC
   simp only at h
   unfold xtSign at h
   by_cases hn : c1 < 0
   case pos =>
    rw [if_pos hn] at h
    have q5 : decide (c1 < 0) = true := decide_eq_true hn
    clear hn
    obtain ⟨rfl, rfl⟩ := Prod.mk.inj (Option.some.inj h)
    clear h
    go_wp2_with (first | (go_at_call 64; (with_reducible refine (strings_IndexByte.calls a2 (bt a0 i) q _ HQ.out).mono ?_); rintro r w4 ⟨rfl, hd⟩; have HB4 := As9.mk (below_step HB.out hd.below); have HN4 := As9.mk (bld_below HN.out hd.below); clear hd) | (go_at_call 55; (with_reducible refine (impl_cleanSign.calls n a0 i c1 c2 _ HCS.out).mono ?_); rintro r w5 ⟨rfl, hb⟩; have HB5 := As9.mk (below_step HB4.out hb); have HN5 := As9.mk (bld_below HN4.out hb); clear hb))
    go_ret2
    exact ⟨rfl, by repeat (first | (with_reducible first | exact HB5.out | apply bA9 | apply bN9 | apply bD9) | exact HB5.out)⟩
   case neg =>
   rw [if_neg hn] at h
   have q5 : decide (c1 < 0) = false := decide_eq_false hn
   clear hn
   obtain ⟨b, hT, h⟩ := Option.bind_eq_some_iff.mp h
   have HT := As9.mk hT
   clear hT
   cases b with
   | false =>
    rw [if_neg (by simp)] at h
    obtain ⟨rfl, rfl⟩ := Prod.mk.inj (Option.some.inj h)
    clear h
    go_wp2_with (first | (go_at_call 64; (with_reducible refine (strings_IndexByte.calls a2 (bt a0 i) q _ HQ.out).mono ?_); rintro r w4 ⟨rfl, hd⟩; have HB4 := As9.mk (below_step HB.out hd.below); have HN4 := As9.mk (bld_below HN.out hd.below); clear hd) | (go_at_call 55; (with_reducible refine (impl_cleanSign.calls n a0 i c1 c2 _ HCS.out).mono ?_); rintro r w5 ⟨rfl, hb⟩; have HB5 := As9.mk (below_step HB4.out hb); have HN5 := As9.mk (bld_below HN4.out hb); clear hb) | (go_at_call 67; (with_reducible refine (impl_IsText.calls c1 false _ HT.out).mono ?_); rintro r w6 ⟨rfl, hd⟩; have HB6 := As9.mk (below_step HB5.out hd.below); have HN6 := As9.mk (bld_below HN5.out hd.below); clear hd))
    go_ret2
    exact ⟨rfl, by repeat (first | (with_reducible first | exact HB6.out | apply bA9 | apply bN9 | apply bD9) | exact HB6.out)⟩
   | true =>
   rw [if_pos rfl] at h
   by_cases h13 : c1 = 13
   case pos =>
    rw [if_pos h13] at h
    have q6 : (c1 == 13) = true := beq_iff_eq.mpr h13
    clear h13
    obtain ⟨rfl, rfl⟩ := Prod.mk.inj (Option.some.inj h)
    clear h
    go_wp2_with (first | (go_at_call 64; (with_reducible refine (strings_IndexByte.calls a2 (bt a0 i) q _ HQ.out).mono ?_); rintro r w4 ⟨rfl, hd⟩; have HB4 := As9.mk (below_step HB.out hd.below); have HN4 := As9.mk (bld_below HN.out hd.below); clear hd) | (go_at_call 55; (with_reducible refine (impl_cleanSign.calls n a0 i c1 c2 _ HCS.out).mono ?_); rintro r w5 ⟨rfl, hb⟩; have HB5 := As9.mk (below_step HB4.out hb); have HN5 := As9.mk (bld_below HN4.out hb); clear hb) | (go_at_call 67; (with_reducible refine (impl_IsText.calls c1 true _ HT.out).mono ?_); rintro r w6 ⟨rfl, hd⟩; have HB6 := As9.mk (below_step HB5.out hd.below); have HN6 := As9.mk (bld_below HN5.out hd.below); clear hd))
    go_ret2
    exact ⟨rfl, by repeat (first | (with_reducible first | exact HB6.out | apply bA9 | apply bN9 | apply bD9) | exact HB6.out)⟩
   case neg =>
   rw [if_neg h13] at h
   have q6 : (c1 == 13) = false := beq_eq_false_iff_ne.mpr h13
   clear h13
   by_cases h60 : c1 = 60
   case pos =>
    rw [if_pos h60] at h
    have q7 : (c1 == 60) = true := beq_iff_eq.mpr h60
    clear h60
    obtain ⟨rfl, rfl⟩ := Prod.mk.inj (Option.some.inj h)
    clear h
    go_wp2_with (first | (go_at_call 64; (with_reducible refine (strings_IndexByte.calls a2 (bt a0 i) q _ HQ.out).mono ?_); rintro r w4 ⟨rfl, hd⟩; have HB4 := As9.mk (below_step HB.out hd.below); have HN4 := As9.mk (bld_below HN.out hd.below); clear hd) | (go_at_call 55; (with_reducible refine (impl_cleanSign.calls n a0 i c1 c2 _ HCS.out).mono ?_); rintro r w5 ⟨rfl, hb⟩; have HB5 := As9.mk (below_step HB4.out hb); have HN5 := As9.mk (bld_below HN4.out hb); clear hb) | (go_at_call 67; (with_reducible refine (impl_IsText.calls c1 true _ HT.out).mono ?_); rintro r w6 ⟨rfl, hd⟩; have HB6 := As9.mk (below_step HB5.out hd.below); have HN6 := As9.mk (bld_below HN5.out hd.below); clear hd))
    go_ret2
    exact ⟨rfl, by repeat (first | (with_reducible first | exact HB6.out | apply bA9 | apply bN9 | apply bD9) | exact HB6.out)⟩
   case neg =>
   rw [if_neg h60] at h
   have q7 : (c1 == 60) = false := beq_eq_false_iff_ne.mpr h60
   clear h60
   obtain ⟨ni, hni⟩ : ∃ j_ : Int, wrap64 (i + c2) = j_ := ⟨_, rfl⟩
   have hniw : IntKind.i64.wrap (i + c2) = ni := (i64_w _).trans hni
   by_cases h62 : c1 = 62
   case pos =>
    rw [if_pos h62] at h
    have q8 : (c1 == 62) = true := beq_iff_eq.mpr h62
    clear h62
    split at h
    case isFalse => cases h
    case isTrue hg0 =>
    obtain ⟨u0, u1, u2⟩ := hg0
    have s0 := eq_true u0
    have s1 := eq_true u1
    have s2 := eq_true u2
    clear u0 u1 u2
    obtain ⟨b, hS, h⟩ := Option.bind_eq_some_iff.mp h
    have HSF := As9.mk hS
    clear hS
    cases b with
    | true =>
     rw [if_pos rfl] at h
     obtain ⟨rfl, rfl⟩ := Prod.mk.inj (Option.some.inj h)
     clear h
     go_wp2_with (first | (go_at_call 64; (with_reducible refine (strings_IndexByte.calls a2 (bt a0 i) q _ HQ.out).mono ?_); rintro r w4 ⟨rfl, hd⟩; have HB4 := As9.mk (below_step HB.out hd.below); have HN4 := As9.mk (bld_below HN.out hd.below); clear hd) | (go_at_call 55; (with_reducible refine (impl_cleanSign.calls n a0 i c1 c2 _ HCS.out).mono ?_); rintro r w5 ⟨rfl, hb⟩; have HB5 := As9.mk (below_step HB4.out hb); have HN5 := As9.mk (bld_below HN4.out hb); clear hb) | (go_at_call 67; (with_reducible refine (impl_IsText.calls c1 true _ HT.out).mono ?_); rintro r w6 ⟨rfl, hd⟩; have HB6 := As9.mk (below_step HB5.out hd.below); have HN6 := As9.mk (bld_below HN5.out hd.below); clear hd) | (go_at_call 72; (with_reducible refine (strings_HasSuffix.calls (a0.extract a1.toNat i.toNat) ⟨#[93, 93]⟩ true _ HSF.out).mono ?_); rintro r w7 ⟨rfl, hd⟩; have HB7 := As9.mk (below_step HB6.out hd.below); have HN7 := As9.mk (bld_below HN6.out hd.below); clear hd))
     go_ret2
     exact ⟨rfl, by repeat (first | (with_reducible first | exact HB7.out | apply bA9 | apply bN9 | apply bD9) | exact HB7.out)⟩
    | false =>
     rw [if_neg (by simp)] at h
     unfold xtGo at h
     rw [hni] at h
     split at h
     case isFalse => cases h
     case isTrue hg =>
     obtain ⟨hg1, hg2, hg3⟩ := hg
     have HLM : As9 ((Lib.byteCells out).length + (a0.extract i.toNat ni.toNat).size ≤ 140737488355328) := ⟨by rw [byteCells_len]; omega⟩
     have pz := eq_true hg1
     have qz := eq_true hg2
     have HGN := As9.mk h
     clear h hg1 hg2 hg3
     go_wp2_with (first | (go_at_call 64; (with_reducible refine (strings_IndexByte.calls a2 (bt a0 i) q _ HQ.out).mono ?_); rintro r w4 ⟨rfl, hd⟩; have HB4 := As9.mk (below_step HB.out hd.below); have HN4 := As9.mk (bld_below HN.out hd.below); clear hd) | (go_at_call 55; (with_reducible refine (impl_cleanSign.calls n a0 i c1 c2 _ HCS.out).mono ?_); rintro r w5 ⟨rfl, hb⟩; have HB5 := As9.mk (below_step HB4.out hb); have HN5 := As9.mk (bld_below HN4.out hb); clear hb) | (go_at_call 67; (with_reducible refine (impl_IsText.calls c1 true _ HT.out).mono ?_); rintro r w6 ⟨rfl, hd⟩; have HB6 := As9.mk (below_step HB5.out hd.below); have HN6 := As9.mk (bld_below HN5.out hd.below); clear hd) | (go_at_call 72; (with_reducible refine (strings_HasSuffix.calls (a0.extract a1.toNat i.toNat) ⟨#[93, 93]⟩ false _ HSF.out).mono ?_); rintro r w7 ⟨rfl, hd⟩; have HB7 := As9.mk (below_step HB6.out hd.below); have HN7 := As9.mk (bld_below HN6.out hd.below); clear hd) | (go_at_call 71; (with_reducible refine (bld_str w.heap.size w2.heap.size (Lib.byteCells out) (a0.extract i.toNat ni.toNat) _ HN7.out HLM.out HB7.out.size).mono ?_); rintro e w8 ⟨rfl, ho, hb, hk⟩; have HN8 := As9.mk ho; have HB8 := As9.mk (HB7.out.trans hb); clear ho hb hk))
     go_roundg n
     case measure => omega
     case rel => exact ⟨_, ni, by first | rfl | rw [← hni], HGN, ⟨by rw [byteCells_append, ← strCells_bytes]; exact HN8.out⟩, HB8⟩
   case neg =>
    rw [if_neg h62] at h
    have q8 : (c1 == 62) = false := beq_eq_false_iff_ne.mpr h62
    clear h62
    unfold xtGo at h
    rw [hni] at h
    split at h
    case isFalse => cases h
    case isTrue hg =>
    obtain ⟨hg1, hg2, hg3⟩ := hg
    have HLM : As9 ((Lib.byteCells out).length + (a0.extract i.toNat ni.toNat).size ≤ 140737488355328) := ⟨by rw [byteCells_len]; omega⟩
    have pz := eq_true hg1
    have qz := eq_true hg2
    have HGN := As9.mk h
    clear h hg1 hg2 hg3
    go_wp2_with (first | (go_at_call 64; (with_reducible refine (strings_IndexByte.calls a2 (bt a0 i) q _ HQ.out).mono ?_); rintro r w4 ⟨rfl, hd⟩; have HB4 := As9.mk (below_step HB.out hd.below); have HN4 := As9.mk (bld_below HN.out hd.below); clear hd) | (go_at_call 55; (with_reducible refine (impl_cleanSign.calls n a0 i c1 c2 _ HCS.out).mono ?_); rintro r w5 ⟨rfl, hb⟩; have HB5 := As9.mk (below_step HB4.out hb); have HN5 := As9.mk (bld_below HN4.out hb); clear hb) | (go_at_call 67; (with_reducible refine (impl_IsText.calls c1 true _ HT.out).mono ?_); rintro r w6 ⟨rfl, hd⟩; have HB6 := As9.mk (below_step HB5.out hd.below); have HN6 := As9.mk (bld_below HN5.out hd.below); clear hd) | (go_at_call 71; (with_reducible refine (bld_str w.heap.size w2.heap.size (Lib.byteCells out) (a0.extract i.toNat ni.toNat) _ HN6.out HLM.out HB6.out.size).mono ?_); rintro e w8 ⟨rfl, ho, hb, hk⟩; have HN8 := As9.mk ho; have HB8 := As9.mk (HB6.out.trans hb); clear ho hb hk))
    go_roundg n
    case measure => omega
    case rel => exact ⟨_, ni, by first | rfl | rw [← hni], HGN, ⟨by rw [byteCells_append, ← strCells_bytes]; exact HN8.out⟩, HB8⟩
def xsGo (rec_ : Int → List Int → Option (ByteArray × Int)) (s : ByteArray) (i c2 : Int) (out : List Int) : Option (ByteArray × Int) :=
 if out.length + (s.extract i.toNat (wrap64 (i + c2)).toNat).size ≤ 140737488355327 then rec_ (wrap64 (i + c2)) (out ++ bytesOf (s.extract i.toNat (wrap64 (i + c2)).toNat)) else none
def xsSign (n : Nat) (rec_ : Int → List Int → Option (ByteArray × Int)) (s en : ByteArray) (i c1 c2 : Int) (out : List Int) : Option (ByteArray × Int) :=
 (spec_IsText.f c1).bind fun b => if b = true then
  (if c1 = 13 then some (⟨#[]⟩, -1) else if c1 = 60 then some (⟨#[]⟩, -1)
   else (spec_PutSign.f n c1).bind fun p =>
    if i ≤ wrap64 (i + c2) ∧ wrap64 (i + c2) ≤ (s.size : Int) then
     (if p.toList = (s.extract i.toNat (wrap64 (i + c2)).toNat).toList then
      (spec_l5Stands.f s i ⟨#[93, 93, 62]⟩).bind fun h => if h = true then (spec_l4Find.f n en 0 62).bind fun z => (if z < 0 then some (⟨#[]⟩, -1) else xsGo rec_ s i c2 out) else xsGo rec_ s i c2 out
     else some (⟨#[]⟩, -1))
    else none)
  else some (⟨#[]⟩, -1)
def xsL : Nat → ByteArray → ByteArray → Int → List Int → Option (ByteArray × Int)
 | 0, _, _, _, _ => none
 | n + 1, s, en, i, out =>
  if 0 ≤ i then
   (if i < (s.size : Int) then (spec_l4Find.f n en 0 (bt s i)).bind fun q => if q < 0 then
     (if bt s i = 38 then (spec_XmlRef.f n s i).bind fun tn => if tn.2 < 0 then some (⟨#[]⟩, -1) else if out.length + tn.1.size ≤ 140737488355327 then xsL n s en tn.2 (out ++ bytesOf tn.1) else none
      else (spec_GetSign.f n s i).bind fun c => xsSign n (xsL n s en) s en i c.1 c.2 out)
    else some (strOfNums out, i)
   else some (strOfNums out, i))
  else none
theorem xsGo_mono {f g : Int → List Int → Option (ByteArray × Int)} (h : ∀ i o, LeO (f i o) (g i o)) (s : ByteArray) (i c2 : Int) (out : List Int) : LeO (xsGo f s i c2 out) (xsGo g s i c2 out) := by
 unfold xsGo; exact LeO.ite (h _ _) (LeO.refl _)
theorem xsSign_mono {f g : Int → List Int → Option (ByteArray × Int)} (n : Nat) (h : ∀ i o, LeO (f i o) (g i o)) (s en : ByteArray) (i c1 c2 : Int) (out : List Int) : LeO (xsSign n f s en i c1 c2 out) (xsSign (n + 1) g s en i c1 c2 out) := by
 unfold xsSign
 exact LeO.bind (LeO.refl _) (fun b => LeO.ite (LeO.ite (LeO.refl _) (LeO.ite (LeO.refl _) (LeO.bind (spec_PutSign.mono _ _) (fun p => LeO.ite (LeO.ite (LeO.bind (LeO.refl _) (fun h' => LeO.ite (LeO.bind (spec_l4Find.mono _ _ _ _) (fun z => LeO.ite (LeO.refl _) (xsGo_mono h _ _ _ _))) (xsGo_mono h _ _ _ _))) (LeO.refl _)) (LeO.refl _))))) (LeO.refl _))
theorem xsL_mono : ∀ k y0 y1 y2 y3, LeO (xsL k y0 y1 y2 y3) (xsL (k + 1) y0 y1 y2 y3)
 | 0 => fun _ _ _ _ r h => by simp [xsL] at h
 | k + 1 => by
  have ih := xsL_mono k
  intro y0 y1 y2 y3
  rw [xsL, xsL]
  exact LeO.ite (LeO.ite (LeO.bind (spec_l4Find.mono _ _ _ _) (fun q => LeO.ite (LeO.ite (LeO.bind (spec_XmlRef.mono _ _ _) (fun tn => LeO.ite (LeO.refl _) (LeO.ite (ih _ _ _ _) (LeO.refl _)))) (LeO.bind (spec_GetSign.mono _ _ _) (fun c => xsSign_mono k (fun i o => ih _ _ i o) _ _ _ _ _ _))) (LeO.refl _))) (LeO.refl _)) (LeO.refl _)
def spec_XmlText.f (k : Nat) (a0 : ByteArray) (a1 : Int) (a2 : ByteArray) : Option (ByteArray × Int) :=
 if a1 < 0 then some (⟨#[]⟩, -1) else if a1 > (a0.size : Int) then some (⟨#[]⟩, -1) else xsL k a0 a2 a1 []
theorem spec_XmlText.mono : ∀ a0 a1 a2 k, LeO (spec_XmlText.f k a0 a1 a2) (spec_XmlText.f (k + 1) a0 a1 a2) := by
 intro a0 a1 a2 k
 unfold spec_XmlText.f
 exact LeO.ite (LeO.refl _) (LeO.ite (LeO.refl _) (xsL_mono k _ _ _ _))
set_option maxHeartbeats 16000000 in
set_option maxRecDepth 100000 in
theorem spec_XmlText.calls (k : Nat) (a0 : ByteArray) (a1 : Int) (a2 : ByteArray) (r1 : ByteArray) (r2 : Int) (w : World) (h : spec_XmlText.f k a0 a1 a2 = some (r1, r2)) :
  Calls Tryz.prog 23 #[.string a0, .int .i64 a1, .string a2] w fun e w' => e = .returned (.tuple #[.string r1, .int .i64 r2]) ∧ Below w.heap.size w w' := by
 unfold spec_XmlText.f at h
 have HB := As9.mk (Below.refl w.heap.size w)
 by_cases c0 : a1 < 0
 ·rw [if_pos c0] at h
  obtain ⟨rfl, rfl⟩ := Prod.mk.inj (Option.some.inj h)
  have b0 : decide (a1 < 0) = true := decide_eq_true c0
  clear h c0
  go_enter Tryz.func23, Tryz.ntmps23
  go_wp2
  go_ret2
  exact ⟨rfl, by repeat (first | (with_reducible first | exact HB.out | apply bA9 | apply bN9 | apply bD9) | exact HB.out)⟩
 rw [if_neg c0] at h
 have b0 : decide (a1 < 0) = false := decide_eq_false c0
 clear c0
 by_cases c1 : a1 > (a0.size : Int)
 ·rw [if_pos c1] at h
  obtain ⟨rfl, rfl⟩ := Prod.mk.inj (Option.some.inj h)
  have b1 : decide ((a0.size : Int) < a1) = true := decide_eq_true c1
  clear h c1
  go_enter Tryz.func23, Tryz.ntmps23
  go_wp2
  go_ret2
  exact ⟨rfl, by repeat (first | (with_reducible first | exact HB.out | apply bA9 | apply bN9 | apply bD9) | exact HB.out)⟩
 rw [if_neg c1] at h
 have b1 : decide ((a0.size : Int) < a1) = false := decide_eq_false c1
 clear c1
 have HH := As9.mk h
 clear h HB
 go_enter Tryz.func23, Tryz.ntmps23
 go_wp2_with ((with_reducible refine gate_dst (N := 22) rfl ?_); refine Kd.R_lit (Kd.int .u8) _ 5 ?hg (N := 22) ?hd (xs := ([] : List Int)) (inner := []) (ok := fun _ => True) (okp := fun _ => True) ?hr ?hp (fun _ hk => hk) trivial (Below.refl _ _) (Nat.le_refl _) (by simp) ?_; (case hd => rfl); (case hg => rfl); (case hr => first | (go_simp; done) | (go_simp; rfl)); (case hp => exact (Reps.none _ _)); intro v22 w2 ho hb hg_ hnew_; clear hg_ hnew_; have HO := As9.mk ho; have HB := As9.mk hb; clear ho hb)
 go_loopg [8, 9] k (fun kq v8 v9 wr => ∃ (out : List Int) (i : Int), v9 = .int .i64 i ∧ As9 (xsL kq a0 a2 i out = some (r1, r2)) ∧ As9 (Kd.R (Kd.int .u8) 5 wr w.heap.size (fun _ => True) v8 out) ∧ As9 (Below w.heap.size w wr))
 case atStart => exact ⟨[], a1, rfl, HH, HO, HB⟩
 case round =>
  clear HH HO HB
  obtain ⟨out, i, rfl, HA, HO, HB⟩ := hrel
  cases gk with
  | zero => exact absurd HA.out (by simp [xsL])
  | succ n =>
  have h := HA.out
  clear HA
  rw [xsL] at h
  split at h
  case isFalse => cases h
  case isTrue hi0 =>
  have p1 := eq_true hi0
  by_cases hlt : i < (a0.size : Int)
  case neg =>
   rw [if_neg hlt] at h
   obtain ⟨rfl, rfl⟩ := Prod.mk.inj (Option.some.inj h)
   have q1 : decide (i < (a0.size : Int)) = false := decide_eq_false hlt
   clear h hi0 hlt
   obtain ⟨A5, c5, rfl⟩ := Kd.R_slice HO.out
   have hback := Kd.C_string (P := Tryz.prog) (src := 22) (dst := 9) (c := c5) Tryz.underlying22 Tryz.underlying5 Tryz.underlying9 (Kd.R_reads' HO.out).2.2
   go_wp2
   go_ret2
   exact ⟨rfl, HB.out⟩
  case pos =>
  rw [if_pos hlt] at h
  have q1 : decide (i < (a0.size : Int)) = true := decide_eq_true hlt
  have q2 := eq_true hlt
  obtain ⟨q, hQ, h⟩ := Option.bind_eq_some_iff.mp h
  have HQ := As9.mk hQ
  have hx := bt_at a0 i
  clear hQ
  by_cases hq : q < 0
  case neg =>
   rw [if_neg hq] at h
   obtain ⟨rfl, rfl⟩ := Prod.mk.inj (Option.some.inj h)
   have q3 : decide (q < 0) = false := decide_eq_false hq
   clear h hi0 hlt hq
   obtain ⟨A5, c5, rfl⟩ := Kd.R_slice HO.out
   go_wp2_with (first | (go_at_call 74; (with_reducible refine (spec_l4Find.calls n a2 0 (bt a0 i) q _ HQ.out).mono ?_); rintro r w4 ⟨rfl, hd⟩; have HB4 := As9.mk (below_step HB.out hd.below); have HO4 := As9.mk (Kd.R_below HO.out hd.below); clear hd; have hback := Kd.C_string (P := Tryz.prog) (src := 22) (dst := 9) (c := c5) Tryz.underlying22 Tryz.underlying5 Tryz.underlying9 (Kd.R_reads' HO4.out).2.2))
   go_ret2
   exact ⟨rfl, HB4.out⟩
  case pos =>
  rw [if_pos hq] at h
  have q3 : decide (q < 0) = true := decide_eq_true hq
  clear hq hi0 hlt
  by_cases h38 : bt a0 i = 38
  case pos =>
   rw [if_pos h38] at h
   have q4 : (bt a0 i == 38) = true := beq_iff_eq.mpr h38
   obtain ⟨⟨t1, t2⟩, hR, h⟩ := Option.bind_eq_some_iff.mp h
   have HR := As9.mk hR
   clear hR h38
   simp only at h
   by_cases hn : t2 < 0
   case pos =>
    rw [if_pos hn] at h
    have q5 : decide (t2 < 0) = true := decide_eq_true hn
    clear hn
    obtain ⟨rfl, rfl⟩ := Prod.mk.inj (Option.some.inj h)
    repeat clear h
    go_wp2_with (first | (go_at_call 74; (with_reducible refine (spec_l4Find.calls n a2 0 (bt a0 i) q _ HQ.out).mono ?_); rintro r w4 ⟨rfl, hd⟩; have HB4 := As9.mk (below_step HB.out hd.below); have HO4 := As9.mk (Kd.R_below HO.out hd.below); clear hd) | (go_at_call 20; (with_reducible refine (spec_XmlRef.calls n a0 i t1 t2 _ HR.out).mono ?_); rintro r w5 ⟨rfl, hb⟩; have HB5 := As9.mk (below_step HB4.out hb); have HO5 := As9.mk (Kd.R_below HO4.out hb); clear hb))
    go_ret2
    exact ⟨rfl, HB5.out⟩
   case neg =>
    rw [if_neg hn] at h
    have q5 : decide (t2 < 0) = false := decide_eq_false hn
    clear hn
    split at h
    case isFalse => cases h
    case isTrue hl =>
    have HL := As9.mk hl
    have HGN := As9.mk h
    clear hl
    repeat clear h
    go_wp2_with (first | ((with_reducible refine gate_builtin (b := .append) (xs := #[.tmp 48, .tmp 50]) rfl ?_); at_builtin; refine Kd.R_append_rows (Kd.int .u8) (w0 := w) w.heap.size rfl (.tmp 48) (.tmp 50) 22 5 (.int .u8 0) 1 rfl Tryz.underlying22 info5 rfl (by decide) (by omega) _ out (bytesOf t1) _ _ _ (fun _ => True) (fun _ => False) rfl rfl ?aO ?aR (fun _ _ h => h) (fun _ h => h.elim) ?aF ?aB ?aS ?aL ?_; (case aO => exact HOc.out); (case aR => exact HC5.out); (case aF => exact fun _ _ => trivial); (case aB => exact HBc.out); (case aS => exact below_size HBc.out); (case aL => have := HL.out; omega); intro v6 w6 ho hb hg hat; have HOz := As9.mk ho; have HBz := As9.mk hb; clear ho hb hg hat) | (go_at_call 74; (with_reducible refine (spec_l4Find.calls n a2 0 (bt a0 i) q _ HQ.out).mono ?_); rintro r w4 ⟨rfl, hd⟩; have HB4 := As9.mk (below_step HB.out hd.below); have HO4 := As9.mk (Kd.R_below HO.out hd.below); clear hd) | (go_at_call 20; (with_reducible refine (spec_XmlRef.calls n a0 i t1 t2 _ HR.out).mono ?_); rintro r w5 ⟨rfl, hb⟩; have HB5 := As9.mk (below_step HB4.out hb); have HO5 := As9.mk (Kd.R_below HO4.out hb); clear hb; have hcv := print_bytes (P := Tryz.prog) 9 22 5 Tryz.underlying9 Tryz.underlying22 Tryz.underlying5 t1 w5; have HC5 := As9.mk (txt_C (TxtRow.new w5 t1 (by have := HL.out; omega))); have hb5 := (bytes_below (Below.refl w5.heap.size w5) (Nat.le_refl _) 5 t1); have HOc := As9.mk (Kd.R_below HO5.out hb5); have HBc := As9.mk (below_step HB5.out hb5); clear hb5 HO5; rw [bytesOf_length] at HC5; generalize Lib.bytesWorld w5 5 t1 = w9 at hcv HC5 HOc HBc; generalize grownCap w5 t1.size 0 5 = cp at hcv))
    go_roundg n
    case measure => omega
    case rel => exact ⟨_, t2, rfl, HGN, HOz, HBz⟩
  case neg =>
  rw [if_neg h38] at h
  have q4 : (bt a0 i == 38) = false := beq_eq_false_iff_ne.mpr h38
  clear h38
  obtain ⟨⟨c1, c2⟩, hC, h⟩ := Option.bind_eq_some_iff.mp h
  have HGS := As9.mk hC
  clear hC
  simp only at h
  unfold xsSign at h
  obtain ⟨b, hT, h⟩ := Option.bind_eq_some_iff.mp h
  have HT := As9.mk hT
  clear hT
  cases b with
  | false =>
   rw [if_neg (by simp)] at h
   obtain ⟨rfl, rfl⟩ := Prod.mk.inj (Option.some.inj h)
   repeat clear h
   go_wp2_with (first | (go_at_call 74; (with_reducible refine (spec_l4Find.calls n a2 0 (bt a0 i) q _ HQ.out).mono ?_); rintro r w4 ⟨rfl, hd⟩; have HB4 := As9.mk (below_step HB.out hd.below); have HO4 := As9.mk (Kd.R_below HO.out hd.below); clear hd) | (go_at_call 58; (with_reducible refine (spec_GetSign.calls n a0 i c1 c2 _ HGS.out).mono ?_); rintro r w5 ⟨rfl, hd⟩; have HB5 := As9.mk (below_step HB4.out hd.below); have HO5 := As9.mk (Kd.R_below HO4.out hd.below); clear hd))
   have HB6 : As9 (Below w.heap.size w w5.drew) := ⟨bD9 HB5.out⟩
   have HO6 : As9 (Kd.R (Kd.int .u8) 5 w5.drew w.heap.size (fun _ => True) _ out) := ⟨by (with_reducible apply Kd.R_drew); exact HO5.out⟩
   clear HB5 HO5
   refine start_ (n := 32) (S := fun w' => True) (ds := [31]) #[false, false, false, false, false, false, false, false, false, false, false, false, false, false, false, false, false, false, false, false, false, false, false, false, false, false, false, false, false, false, false, false] (by kernel_rfl) rfl rfl trivial (fun hHeld => ?_)
   generalize World.drew _ = wq0 at HB6 HO6 hHeld ⊢
   refine pure_ (i := 0) (N := some 59) (v := ?_) (a' := ?_) (tB 32 1) rfl rfl (by kernel_rfl) (fun _ _ _ h => h) (Or.inl ⟨by rfl, ?_⟩) ?_ ?_
   rotate_left
   ·intro w'
    go_simp
    with_reducible rfl
   rotate_left
   ·simp only [Act.put, pA, pB, pC, i64_w, i32_w]
    rfl
   refine one_ (i := 1) (N := some 60) (tB 32 3) rfl rfl (by kernel_rfl) (by decide) (fun K hK => ?_)
   refine goes_ Tryz.func75 (by kernel_rfl) rfl #[.int .i64 c1] (by rfl) rfl rfl (by (try simp only [List.map_toArray, List.map_cons, List.map_nil]); first | done | rfl | (simp only [List.length_drop, List.length_take]; rfl)) ?_
   with_reducible refine (spec_IsText.calls c1 false _ HT.out).mono ?_
   rintro e wq1 ⟨rfl, hd⟩
   refine ⟨_, rfl, ?_⟩
   have HB7 := As9.mk (below_step HB6.out hd.below)
   have HO7 := As9.mk (Kd.R_below HO6.out hd.below)
   clear hd HB6 HO6
   refine hK.out _ _ trivial (fun hHeld => ?_)
   clear hK K
   refine norm_ (a' := ?_) ?_ ?_
   rotate_left
   ·show Act.put _ (some 60) _ = _
    simp only [Act.put, pA, pB, pC, i64_w, i32_w]
    rfl
   refine pure_ (i := 2) (N := some 61) (v := ?_) (a' := ?_) (tB 32 7) rfl rfl (by kernel_rfl) (fun _ _ _ h => h) (Or.inl ⟨by rfl, ?_⟩) ?_ ?_
   rotate_left
   ·intro w'
    go_simp
    with_reducible rfl
   rotate_left
   ·simp only [Act.put, pA, pB, pC, i64_w, i32_w]
    rfl
   refine pure_ (i := 3) (N := some 62) (v := ?_) (a' := ?_) (tB 32 15) rfl rfl (by kernel_rfl) (fun _ _ _ h => h) (Or.inl ⟨by rfl, ?_⟩) ?_ ?_
   rotate_left
   ·intro w'
    go_simp
    with_reducible rfl
   rotate_left
   ·simp only [Act.put, pA, pB, pC, i64_w, i32_w]
    rfl
   refine pure_ (i := 4) (N := some 63) (v := undef) (a' := ?_) (tB 32 31) rfl rfl (by kernel_rfl) (fun _ _ _ h => h) (Or.inr ⟨by rfl, rfl⟩) ?_ ?_
   rotate_left
   ·simp only [Act.put, pA, pB, pC, i64_w, i32_w]
    rfl
   refine pure_ (i := 5) (N := some 64) (v := undef) (a' := ?_) (tB 32 63) rfl rfl (by kernel_rfl) (fun _ _ _ h => h) (Or.inr ⟨by rfl, rfl⟩) ?_ ?_
   rotate_left
   ·simp only [Act.put, pA, pB, pC, i64_w, i32_w]
    rfl
   refine pure_ (i := 6) (N := some 65) (v := ?_) (a' := ?_) (tB 32 127) rfl rfl (by kernel_rfl) (fun _ _ _ h => h) (Or.inl ⟨by rfl, ?_⟩) ?_ ?_
   rotate_left
   ·intro w'
    go_simp
    with_reducible rfl
   rotate_left
   ·simp only [Act.put, pA, pB, pC, i64_w, i32_w]
    rfl
   refine pure_ (i := 7) (N := some 66) (v := ?_) (a' := ?_) (tB 32 255) rfl rfl (by kernel_rfl) (fun _ _ _ h => h) (Or.inl ⟨by rfl, ?_⟩) ?_ ?_
   rotate_left
   ·intro w'
    go_simp
    with_reducible rfl
   rotate_left
   ·simp only [Act.put, pA, pB, pC, i64_w, i32_w]
    rfl
   refine pure_ (i := 8) (N := some 67) (v := undef) (a' := ?_) (tB 32 511) rfl rfl (by kernel_rfl) (fun _ _ _ h => h) (Or.inr ⟨by rfl, rfl⟩) ?_ ?_
   rotate_left
   ·simp only [Act.put, pA, pB, pC, i64_w, i32_w]
    rfl
   refine pure_ (i := 9) (N := some 68) (v := undef) (a' := ?_) (tB 32 1023) rfl rfl (by kernel_rfl) (fun _ _ _ h => h) (Or.inr ⟨by rfl, rfl⟩) ?_ ?_
   rotate_left
   ·simp only [Act.put, pA, pB, pC, i64_w, i32_w]
    rfl
   refine pure_ (i := 10) (N := some 69) (v := ?_) (a' := ?_) (tB 32 2047) rfl rfl (by kernel_rfl) (fun _ _ _ h => h) (Or.inl ⟨by rfl, ?_⟩) ?_ ?_
   rotate_left
   ·intro w'
    go_simp
    with_reducible rfl
   rotate_left
   ·simp only [Act.put, pA, pB, pC, i64_w, i32_w]
    rfl
   refine pure_ (i := 11) (N := some 70) (v := ?_) (a' := ?_) (tB 32 4095) rfl rfl (by kernel_rfl) (fun _ _ _ h => h) (Or.inl ⟨by rfl, ?_⟩) ?_ ?_
   rotate_left
   ·intro w'
    go_simp
    with_reducible rfl
   rotate_left
   ·simp only [Act.put, pA, pB, pC, i64_w, i32_w]
    rfl
   refine pure_ (i := 12) (N := some 71) (v := undef) (a' := ?_) (tB 32 8191) rfl rfl (by kernel_rfl) (fun _ _ _ h => h) (Or.inr ⟨by rfl, rfl⟩) ?_ ?_
   rotate_left
   ·simp only [Act.put, pA, pB, pC, i64_w, i32_w]
    rfl
   refine pure_ (i := 14) (N := some 73) (v := undef) (a' := ?_) (tB 32 24575) rfl rfl (by kernel_rfl) (fun _ _ _ h => h) (Or.inr ⟨by rfl, rfl⟩) ?_ ?_
   rotate_left
   ·simp only [Act.put, pA, pB, pC, i64_w, i32_w]
    rfl
   refine pure_ (i := 15) (N := some 74) (v := undef) (a' := ?_) (tB 32 57343) rfl rfl (by kernel_rfl) (fun _ _ _ h => h) (Or.inr ⟨by rfl, rfl⟩) ?_ ?_
   rotate_left
   ·simp only [Act.put, pA, pB, pC, i64_w, i32_w]
    rfl
   refine pure_ (i := 16) (N := some 75) (v := undef) (a' := ?_) (tB 32 122879) rfl rfl (by kernel_rfl) (fun _ _ _ h => h) (Or.inr ⟨by rfl, rfl⟩) ?_ ?_
   rotate_left
   ·simp only [Act.put, pA, pB, pC, i64_w, i32_w]
    rfl
   refine pure_ (i := 17) (N := some 76) (v := undef) (a' := ?_) (tB 32 253951) rfl rfl (by kernel_rfl) (fun _ _ _ h => h) (Or.inr ⟨by rfl, rfl⟩) ?_ ?_
   rotate_left
   ·simp only [Act.put, pA, pB, pC, i64_w, i32_w]
    rfl
   refine pure_ (i := 18) (N := some 77) (v := undef) (a' := ?_) (tB 32 516095) rfl rfl (by kernel_rfl) (fun _ _ _ h => h) (Or.inr ⟨by rfl, rfl⟩) ?_ ?_
   rotate_left
   ·simp only [Act.put, pA, pB, pC, i64_w, i32_w]
    rfl
   refine pure_ (i := 19) (N := some 78) (v := undef) (a' := ?_) (tB 32 1040383) rfl rfl (by kernel_rfl) (fun _ _ _ h => h) (Or.inr ⟨by rfl, rfl⟩) ?_ ?_
   rotate_left
   ·simp only [Act.put, pA, pB, pC, i64_w, i32_w]
    rfl
   refine one_ (i := 13) (N := some 72) (tB 32 1048575) rfl rfl (by kernel_rfl) (by decide) (fun K hK => ?_)
   show K (Act.put _ (some 72) undef) _
   refine hK.out _ _ trivial (fun hHeld => ?_)
   clear hK K
   refine norm_ (a' := ?_) ?_ ?_
   rotate_left
   ·show Act.put _ (some 72) _ = _
    simp only [Act.put, pA, pB, pC, i64_w, i32_w]
    rfl
   refine pure_ (i := 20) (N := some 79) (v := undef) (a' := ?_) (tB 32 2097151) rfl rfl (by kernel_rfl) (fun _ _ _ h => h) (Or.inr ⟨by rfl, rfl⟩) ?_ ?_
   rotate_left
   ·simp only [Act.put, pA, pB, pC, i64_w, i32_w]
    rfl
   refine pure_ (i := 21) (N := some 80) (v := ?_) (a' := ?_) (tB 32 4194303) rfl rfl (by kernel_rfl) (fun _ _ _ h => h) (Or.inl ⟨by rfl, ?_⟩) ?_ ?_
   rotate_left
   ·intro w'
    go_simp
    with_reducible rfl
   rotate_left
   ·simp only [Act.put, pA, pB, pC, i64_w, i32_w]
    rfl
   refine pure_ (i := 22) (N := some 81) (v := ?_) (a' := ?_) (tB 32 8388607) rfl rfl (by kernel_rfl) (fun _ _ _ h => h) (Or.inl ⟨by rfl, ?_⟩) ?_ ?_
   rotate_left
   ·intro w'
    go_simp
    with_reducible rfl
   rotate_left
   ·simp only [Act.put, pA, pB, pC, i64_w, i32_w]
    rfl
   refine pure_ (i := 23) (N := some 82) (v := undef) (a' := ?_) (tB 32 16777215) rfl rfl (by kernel_rfl) (fun _ _ _ h => h) (Or.inr ⟨by rfl, rfl⟩) ?_ ?_
   rotate_left
   ·simp only [Act.put, pA, pB, pC, i64_w, i32_w]
    rfl
   refine pure_ (i := 24) (N := some 83) (v := undef) (a' := ?_) (tB 32 33554431) rfl rfl (by kernel_rfl) (fun _ _ _ h => h) (Or.inr ⟨by rfl, rfl⟩) ?_ ?_
   rotate_left
   ·simp only [Act.put, pA, pB, pC, i64_w, i32_w]
    rfl
   refine one_ (i := 25) (N := some 84) (tB 32 67108863) rfl rfl (by kernel_rfl) (by decide) (fun K hK => ?_)
   show K (Act.put _ (some 84) undef) _
   refine hK.out _ _ trivial (fun hHeld => ?_)
   clear hK K
   refine norm_ (a' := ?_) ?_ ?_
   rotate_left
   ·show Act.put _ (some 84) _ = _
    simp only [Act.put, pA, pB, pC, i64_w, i32_w]
    rfl
   refine pure_ (i := 26) (N := some 85) (v := undef) (a' := ?_) (tB 32 134217727) rfl rfl (by kernel_rfl) (fun _ _ _ h => h) (Or.inr ⟨by rfl, rfl⟩) ?_ ?_
   rotate_left
   ·simp only [Act.put, pA, pB, pC, i64_w, i32_w]
    rfl
   refine pure_ (i := 27) (N := some 86) (v := undef) (a' := ?_) (tB 32 268435455) rfl rfl (by kernel_rfl) (fun _ _ _ h => h) (Or.inr ⟨by rfl, rfl⟩) ?_ ?_
   rotate_left
   ·simp only [Act.put, pA, pB, pC, i64_w, i32_w]
    rfl
   refine one_ (i := 28) (N := some 87) (tB 32 536870911) rfl rfl (by kernel_rfl) (by decide) (fun K hK => ?_)
   show K (Act.put _ (some 87) undef) _
   refine hK.out _ _ trivial (fun hHeld => ?_)
   clear hK K
   refine norm_ (a' := ?_) ?_ ?_
   rotate_left
   ·show Act.put _ (some 87) _ = _
    simp only [Act.put, pA, pB, pC, i64_w, i32_w]
    rfl
   refine pure_ (i := 29) (N := some 88) (v := undef) (a' := ?_) (tB 32 1073741823) rfl rfl (by kernel_rfl) (fun _ _ _ h => h) (Or.inr ⟨by rfl, rfl⟩) ?_ ?_
   rotate_left
   ·simp only [Act.put, pA, pB, pC, i64_w, i32_w]
    rfl
   refine pure_ (i := 30) (N := some 89) (v := undef) (a' := ?_) (tB 32 2147483647) rfl rfl (by kernel_rfl) (fun _ _ _ h => h) (Or.inr ⟨by rfl, rfl⟩) ?_ ?_
   rotate_left
   ·simp only [Act.put, pA, pB, pC, i64_w, i32_w]
    rfl
   refine pure_ (i := 31) (N := some 90) (v := ?_) (a' := ?_) (tB 32 4294967295) rfl rfl (by kernel_rfl) (fun _ _ _ h => h) (Or.inl ⟨by rfl, ?_⟩) ?_ ?_
   rotate_left
   ·intro w'
    go_simp
    with_reducible rfl
   rotate_left
   ·simp only [Act.put, pA, pB, pC, i64_w, i32_w]
    rfl
   refine done_ (by kernel_rfl) ?_
   go_wp2
   go_ret2
   exact ⟨rfl, by repeat (first | (with_reducible first | exact HB7.out | apply bA9 | apply bN9 | apply bD9) | exact HB7.out)⟩
  | true =>
  rw [if_pos rfl] at h
  by_cases h13 : c1 = 13
  case pos =>
   rw [if_pos h13] at h
   have q6 : (c1 == 13) = true := beq_iff_eq.mpr h13
   clear h13
   obtain ⟨rfl, rfl⟩ := Prod.mk.inj (Option.some.inj h)
   repeat clear h
   go_wp2_with (first | (go_at_call 74; (with_reducible refine (spec_l4Find.calls n a2 0 (bt a0 i) q _ HQ.out).mono ?_); rintro r w4 ⟨rfl, hd⟩; have HB4 := As9.mk (below_step HB.out hd.below); have HO4 := As9.mk (Kd.R_below HO.out hd.below); clear hd) | (go_at_call 58; (with_reducible refine (spec_GetSign.calls n a0 i c1 c2 _ HGS.out).mono ?_); rintro r w5 ⟨rfl, hd⟩; have HB5 := As9.mk (below_step HB4.out hd.below); have HO5 := As9.mk (Kd.R_below HO4.out hd.below); clear hd))
   have HB6 : As9 (Below w.heap.size w w5.drew) := ⟨bD9 HB5.out⟩
   have HO6 : As9 (Kd.R (Kd.int .u8) 5 w5.drew w.heap.size (fun _ => True) _ out) := ⟨by (with_reducible apply Kd.R_drew); exact HO5.out⟩
   clear HB5 HO5
   refine start_ (n := 32) (S := fun w' => True) (ds := [31]) #[false, false, false, false, false, false, false, false, false, false, false, false, false, false, false, false, false, false, false, false, false, false, false, false, false, false, false, false, false, false, false, false] (by kernel_rfl) rfl rfl trivial (fun hHeld => ?_)
   generalize World.drew _ = wq0 at HB6 HO6 hHeld ⊢
   refine pure_ (i := 0) (N := some 59) (v := ?_) (a' := ?_) (tB 32 1) rfl rfl (by kernel_rfl) (fun _ _ _ h => h) (Or.inl ⟨by rfl, ?_⟩) ?_ ?_
   rotate_left
   ·intro w'
    go_simp
    with_reducible rfl
   rotate_left
   ·simp only [Act.put, pA, pB, pC, i64_w, i32_w]
    rfl
   refine one_ (i := 1) (N := some 60) (tB 32 3) rfl rfl (by kernel_rfl) (by decide) (fun K hK => ?_)
   refine goes_ Tryz.func75 (by kernel_rfl) rfl #[.int .i64 c1] (by rfl) rfl rfl (by (try simp only [List.map_toArray, List.map_cons, List.map_nil]); first | done | rfl | (simp only [List.length_drop, List.length_take]; rfl)) ?_
   with_reducible refine (spec_IsText.calls c1 true _ HT.out).mono ?_
   rintro e wq1 ⟨rfl, hd⟩
   refine ⟨_, rfl, ?_⟩
   have HB7 := As9.mk (below_step HB6.out hd.below)
   have HO7 := As9.mk (Kd.R_below HO6.out hd.below)
   clear hd HB6 HO6
   refine hK.out _ _ trivial (fun hHeld => ?_)
   clear hK K
   refine norm_ (a' := ?_) ?_ ?_
   rotate_left
   ·show Act.put _ (some 60) _ = _
    simp only [Act.put, pA, pB, pC, i64_w, i32_w]
    rfl
   refine pure_ (i := 2) (N := some 61) (v := ?_) (a' := ?_) (tB 32 7) rfl rfl (by kernel_rfl) (fun _ _ _ h => h) (Or.inl ⟨by rfl, ?_⟩) ?_ ?_
   rotate_left
   ·intro w'
    go_simp
    with_reducible rfl
   rotate_left
   ·simp only [Act.put, pA, pB, pC, i64_w, i32_w]
    rfl
   refine pure_ (i := 3) (N := some 62) (v := ?_) (a' := ?_) (tB 32 15) rfl rfl (by kernel_rfl) (fun _ _ _ h => h) (Or.inl ⟨by rfl, ?_⟩) ?_ ?_
   rotate_left
   ·intro w'
    go_simp
    with_reducible rfl
   rotate_left
   ·simp only [Act.put, pA, pB, pC, i64_w, i32_w]
    rfl
   refine pure_ (i := 4) (N := some 63) (v := ?_) (a' := ?_) (tB 32 31) rfl rfl (by kernel_rfl) (fun _ _ _ h => h) (Or.inl ⟨by rfl, ?_⟩) ?_ ?_
   rotate_left
   ·intro w'
    go_simp
    with_reducible rfl
   rotate_left
   ·simp only [Act.put, pA, pB, pC, i64_w, i32_w]
    rfl
   refine pure_ (i := 5) (N := some 64) (v := ?_) (a' := ?_) (tB 32 63) rfl rfl (by kernel_rfl) (fun _ _ _ h => h) (Or.inl ⟨by rfl, ?_⟩) ?_ ?_
   rotate_left
   ·intro w'
    go_simp
    with_reducible rfl
   rotate_left
   ·simp only [Act.put, pA, pB, pC, i64_w, i32_w]
    rfl
   refine pure_ (i := 6) (N := some 65) (v := ?_) (a' := ?_) (tB 32 127) rfl rfl (by kernel_rfl) (fun _ _ _ h => h) (Or.inl ⟨by rfl, ?_⟩) ?_ ?_
   rotate_left
   ·intro w'
    go_simp
    with_reducible rfl
   rotate_left
   ·simp only [Act.put, pA, pB, pC, i64_w, i32_w]
    rfl
   refine pure_ (i := 7) (N := some 66) (v := ?_) (a' := ?_) (tB 32 255) rfl rfl (by kernel_rfl) (fun _ _ _ h => h) (Or.inl ⟨by rfl, ?_⟩) ?_ ?_
   rotate_left
   ·intro w'
    go_simp
    with_reducible rfl
   rotate_left
   ·simp only [Act.put, pA, pB, pC, i64_w, i32_w]
    rfl
   refine pure_ (i := 8) (N := some 67) (v := undef) (a' := ?_) (tB 32 511) rfl rfl (by kernel_rfl) (fun _ _ _ h => h) (Or.inr ⟨by rfl, rfl⟩) ?_ ?_
   rotate_left
   ·simp only [Act.put, pA, pB, pC, i64_w, i32_w]
    rfl
   refine pure_ (i := 9) (N := some 68) (v := undef) (a' := ?_) (tB 32 1023) rfl rfl (by kernel_rfl) (fun _ _ _ h => h) (Or.inr ⟨by rfl, rfl⟩) ?_ ?_
   rotate_left
   ·simp only [Act.put, pA, pB, pC, i64_w, i32_w]
    rfl
   refine pure_ (i := 10) (N := some 69) (v := ?_) (a' := ?_) (tB 32 2047) rfl rfl (by kernel_rfl) (fun _ _ _ h => h) (Or.inl ⟨by rfl, ?_⟩) ?_ ?_
   rotate_left
   ·intro w'
    go_simp
    with_reducible rfl
   rotate_left
   ·simp only [Act.put, pA, pB, pC, i64_w, i32_w]
    rfl
   refine pure_ (i := 11) (N := some 70) (v := ?_) (a' := ?_) (tB 32 4095) rfl rfl (by kernel_rfl) (fun _ _ _ h => h) (Or.inl ⟨by rfl, ?_⟩) ?_ ?_
   rotate_left
   ·intro w'
    go_simp
    with_reducible rfl
   rotate_left
   ·simp only [Act.put, pA, pB, pC, i64_w, i32_w]
    rfl
   refine pure_ (i := 12) (N := some 71) (v := undef) (a' := ?_) (tB 32 8191) rfl rfl (by kernel_rfl) (fun _ _ _ h => h) (Or.inr ⟨by rfl, rfl⟩) ?_ ?_
   rotate_left
   ·simp only [Act.put, pA, pB, pC, i64_w, i32_w]
    rfl
   refine pure_ (i := 14) (N := some 73) (v := undef) (a' := ?_) (tB 32 24575) rfl rfl (by kernel_rfl) (fun _ _ _ h => h) (Or.inr ⟨by rfl, rfl⟩) ?_ ?_
   rotate_left
   ·simp only [Act.put, pA, pB, pC, i64_w, i32_w]
    rfl
   refine pure_ (i := 15) (N := some 74) (v := undef) (a' := ?_) (tB 32 57343) rfl rfl (by kernel_rfl) (fun _ _ _ h => h) (Or.inr ⟨by rfl, rfl⟩) ?_ ?_
   rotate_left
   ·simp only [Act.put, pA, pB, pC, i64_w, i32_w]
    rfl
   refine pure_ (i := 16) (N := some 75) (v := undef) (a' := ?_) (tB 32 122879) rfl rfl (by kernel_rfl) (fun _ _ _ h => h) (Or.inr ⟨by rfl, rfl⟩) ?_ ?_
   rotate_left
   ·simp only [Act.put, pA, pB, pC, i64_w, i32_w]
    rfl
   refine pure_ (i := 17) (N := some 76) (v := undef) (a' := ?_) (tB 32 253951) rfl rfl (by kernel_rfl) (fun _ _ _ h => h) (Or.inr ⟨by rfl, rfl⟩) ?_ ?_
   rotate_left
   ·simp only [Act.put, pA, pB, pC, i64_w, i32_w]
    rfl
   refine pure_ (i := 18) (N := some 77) (v := undef) (a' := ?_) (tB 32 516095) rfl rfl (by kernel_rfl) (fun _ _ _ h => h) (Or.inr ⟨by rfl, rfl⟩) ?_ ?_
   rotate_left
   ·simp only [Act.put, pA, pB, pC, i64_w, i32_w]
    rfl
   refine pure_ (i := 19) (N := some 78) (v := undef) (a' := ?_) (tB 32 1040383) rfl rfl (by kernel_rfl) (fun _ _ _ h => h) (Or.inr ⟨by rfl, rfl⟩) ?_ ?_
   rotate_left
   ·simp only [Act.put, pA, pB, pC, i64_w, i32_w]
    rfl
   refine one_ (i := 13) (N := some 72) (tB 32 1048575) rfl rfl (by kernel_rfl) (by decide) (fun K hK => ?_)
   show K (Act.put _ (some 72) undef) _
   refine hK.out _ _ trivial (fun hHeld => ?_)
   clear hK K
   refine norm_ (a' := ?_) ?_ ?_
   rotate_left
   ·show Act.put _ (some 72) _ = _
    simp only [Act.put, pA, pB, pC, i64_w, i32_w]
    rfl
   refine pure_ (i := 20) (N := some 79) (v := undef) (a' := ?_) (tB 32 2097151) rfl rfl (by kernel_rfl) (fun _ _ _ h => h) (Or.inr ⟨by rfl, rfl⟩) ?_ ?_
   rotate_left
   ·simp only [Act.put, pA, pB, pC, i64_w, i32_w]
    rfl
   refine pure_ (i := 21) (N := some 80) (v := ?_) (a' := ?_) (tB 32 4194303) rfl rfl (by kernel_rfl) (fun _ _ _ h => h) (Or.inl ⟨by rfl, ?_⟩) ?_ ?_
   rotate_left
   ·intro w'
    go_simp
    with_reducible rfl
   rotate_left
   ·simp only [Act.put, pA, pB, pC, i64_w, i32_w]
    rfl
   refine pure_ (i := 22) (N := some 81) (v := ?_) (a' := ?_) (tB 32 8388607) rfl rfl (by kernel_rfl) (fun _ _ _ h => h) (Or.inl ⟨by rfl, ?_⟩) ?_ ?_
   rotate_left
   ·intro w'
    go_simp
    with_reducible rfl
   rotate_left
   ·simp only [Act.put, pA, pB, pC, i64_w, i32_w]
    rfl
   refine pure_ (i := 23) (N := some 82) (v := undef) (a' := ?_) (tB 32 16777215) rfl rfl (by kernel_rfl) (fun _ _ _ h => h) (Or.inr ⟨by rfl, rfl⟩) ?_ ?_
   rotate_left
   ·simp only [Act.put, pA, pB, pC, i64_w, i32_w]
    rfl
   refine pure_ (i := 24) (N := some 83) (v := undef) (a' := ?_) (tB 32 33554431) rfl rfl (by kernel_rfl) (fun _ _ _ h => h) (Or.inr ⟨by rfl, rfl⟩) ?_ ?_
   rotate_left
   ·simp only [Act.put, pA, pB, pC, i64_w, i32_w]
    rfl
   refine one_ (i := 25) (N := some 84) (tB 32 67108863) rfl rfl (by kernel_rfl) (by decide) (fun K hK => ?_)
   show K (Act.put _ (some 84) undef) _
   refine hK.out _ _ trivial (fun hHeld => ?_)
   clear hK K
   refine norm_ (a' := ?_) ?_ ?_
   rotate_left
   ·show Act.put _ (some 84) _ = _
    simp only [Act.put, pA, pB, pC, i64_w, i32_w]
    rfl
   refine pure_ (i := 26) (N := some 85) (v := undef) (a' := ?_) (tB 32 134217727) rfl rfl (by kernel_rfl) (fun _ _ _ h => h) (Or.inr ⟨by rfl, rfl⟩) ?_ ?_
   rotate_left
   ·simp only [Act.put, pA, pB, pC, i64_w, i32_w]
    rfl
   refine pure_ (i := 27) (N := some 86) (v := undef) (a' := ?_) (tB 32 268435455) rfl rfl (by kernel_rfl) (fun _ _ _ h => h) (Or.inr ⟨by rfl, rfl⟩) ?_ ?_
   rotate_left
   ·simp only [Act.put, pA, pB, pC, i64_w, i32_w]
    rfl
   refine one_ (i := 28) (N := some 87) (tB 32 536870911) rfl rfl (by kernel_rfl) (by decide) (fun K hK => ?_)
   show K (Act.put _ (some 87) undef) _
   refine hK.out _ _ trivial (fun hHeld => ?_)
   clear hK K
   refine norm_ (a' := ?_) ?_ ?_
   rotate_left
   ·show Act.put _ (some 87) _ = _
    simp only [Act.put, pA, pB, pC, i64_w, i32_w]
    rfl
   refine pure_ (i := 29) (N := some 88) (v := undef) (a' := ?_) (tB 32 1073741823) rfl rfl (by kernel_rfl) (fun _ _ _ h => h) (Or.inr ⟨by rfl, rfl⟩) ?_ ?_
   rotate_left
   ·simp only [Act.put, pA, pB, pC, i64_w, i32_w]
    rfl
   refine pure_ (i := 30) (N := some 89) (v := undef) (a' := ?_) (tB 32 2147483647) rfl rfl (by kernel_rfl) (fun _ _ _ h => h) (Or.inr ⟨by rfl, rfl⟩) ?_ ?_
   rotate_left
   ·simp only [Act.put, pA, pB, pC, i64_w, i32_w]
    rfl
   refine pure_ (i := 31) (N := some 90) (v := ?_) (a' := ?_) (tB 32 4294967295) rfl rfl (by kernel_rfl) (fun _ _ _ h => h) (Or.inl ⟨by rfl, ?_⟩) ?_ ?_
   rotate_left
   ·intro w'
    go_simp
    with_reducible rfl
   rotate_left
   ·simp only [Act.put, pA, pB, pC, i64_w, i32_w]
    rfl
   refine done_ (by kernel_rfl) ?_
   go_wp2
   go_ret2
   exact ⟨rfl, by repeat (first | (with_reducible first | exact HB7.out | apply bA9 | apply bN9 | apply bD9) | exact HB7.out)⟩
  case neg =>
  rw [if_neg h13] at h
  have q6 : (c1 == 13) = false := beq_eq_false_iff_ne.mpr h13
  clear h13
  by_cases h60 : c1 = 60
  case pos =>
   rw [if_pos h60] at h
   have q7 : (c1 == 60) = true := beq_iff_eq.mpr h60
   clear h60
   obtain ⟨rfl, rfl⟩ := Prod.mk.inj (Option.some.inj h)
   repeat clear h
   go_wp2_with (first | (go_at_call 74; (with_reducible refine (spec_l4Find.calls n a2 0 (bt a0 i) q _ HQ.out).mono ?_); rintro r w4 ⟨rfl, hd⟩; have HB4 := As9.mk (below_step HB.out hd.below); have HO4 := As9.mk (Kd.R_below HO.out hd.below); clear hd) | (go_at_call 58; (with_reducible refine (spec_GetSign.calls n a0 i c1 c2 _ HGS.out).mono ?_); rintro r w5 ⟨rfl, hd⟩; have HB5 := As9.mk (below_step HB4.out hd.below); have HO5 := As9.mk (Kd.R_below HO4.out hd.below); clear hd))
   have HB6 : As9 (Below w.heap.size w w5.drew) := ⟨bD9 HB5.out⟩
   have HO6 : As9 (Kd.R (Kd.int .u8) 5 w5.drew w.heap.size (fun _ => True) _ out) := ⟨by (with_reducible apply Kd.R_drew); exact HO5.out⟩
   clear HB5 HO5
   refine start_ (n := 32) (S := fun w' => True) (ds := [31]) #[false, false, false, false, false, false, false, false, false, false, false, false, false, false, false, false, false, false, false, false, false, false, false, false, false, false, false, false, false, false, false, false] (by kernel_rfl) rfl rfl trivial (fun hHeld => ?_)
   generalize World.drew _ = wq0 at HB6 HO6 hHeld ⊢
   refine pure_ (i := 0) (N := some 59) (v := ?_) (a' := ?_) (tB 32 1) rfl rfl (by kernel_rfl) (fun _ _ _ h => h) (Or.inl ⟨by rfl, ?_⟩) ?_ ?_
   rotate_left
   ·intro w'
    go_simp
    with_reducible rfl
   rotate_left
   ·simp only [Act.put, pA, pB, pC, i64_w, i32_w]
    rfl
   refine one_ (i := 1) (N := some 60) (tB 32 3) rfl rfl (by kernel_rfl) (by decide) (fun K hK => ?_)
   refine goes_ Tryz.func75 (by kernel_rfl) rfl #[.int .i64 c1] (by rfl) rfl rfl (by (try simp only [List.map_toArray, List.map_cons, List.map_nil]); first | done | rfl | (simp only [List.length_drop, List.length_take]; rfl)) ?_
   with_reducible refine (spec_IsText.calls c1 true _ HT.out).mono ?_
   rintro e wq1 ⟨rfl, hd⟩
   refine ⟨_, rfl, ?_⟩
   have HB7 := As9.mk (below_step HB6.out hd.below)
   have HO7 := As9.mk (Kd.R_below HO6.out hd.below)
   clear hd HB6 HO6
   refine hK.out _ _ trivial (fun hHeld => ?_)
   clear hK K
   refine norm_ (a' := ?_) ?_ ?_
   rotate_left
   ·show Act.put _ (some 60) _ = _
    simp only [Act.put, pA, pB, pC, i64_w, i32_w]
    rfl
   refine pure_ (i := 2) (N := some 61) (v := ?_) (a' := ?_) (tB 32 7) rfl rfl (by kernel_rfl) (fun _ _ _ h => h) (Or.inl ⟨by rfl, ?_⟩) ?_ ?_
   rotate_left
   ·intro w'
    go_simp
    with_reducible rfl
   rotate_left
   ·simp only [Act.put, pA, pB, pC, i64_w, i32_w]
    rfl
   refine pure_ (i := 3) (N := some 62) (v := ?_) (a' := ?_) (tB 32 15) rfl rfl (by kernel_rfl) (fun _ _ _ h => h) (Or.inl ⟨by rfl, ?_⟩) ?_ ?_
   rotate_left
   ·intro w'
    go_simp
    with_reducible rfl
   rotate_left
   ·simp only [Act.put, pA, pB, pC, i64_w, i32_w]
    rfl
   refine pure_ (i := 4) (N := some 63) (v := ?_) (a' := ?_) (tB 32 31) rfl rfl (by kernel_rfl) (fun _ _ _ h => h) (Or.inl ⟨by rfl, ?_⟩) ?_ ?_
   rotate_left
   ·intro w'
    go_simp
    with_reducible rfl
   rotate_left
   ·simp only [Act.put, pA, pB, pC, i64_w, i32_w]
    rfl
   refine pure_ (i := 5) (N := some 64) (v := ?_) (a' := ?_) (tB 32 63) rfl rfl (by kernel_rfl) (fun _ _ _ h => h) (Or.inl ⟨by rfl, ?_⟩) ?_ ?_
   rotate_left
   ·intro w'
    go_simp
    with_reducible rfl
   rotate_left
   ·simp only [Act.put, pA, pB, pC, i64_w, i32_w]
    rfl
   refine pure_ (i := 6) (N := some 65) (v := ?_) (a' := ?_) (tB 32 127) rfl rfl (by kernel_rfl) (fun _ _ _ h => h) (Or.inl ⟨by rfl, ?_⟩) ?_ ?_
   rotate_left
   ·intro w'
    go_simp
    with_reducible rfl
   rotate_left
   ·simp only [Act.put, pA, pB, pC, i64_w, i32_w]
    rfl
   refine pure_ (i := 7) (N := some 66) (v := ?_) (a' := ?_) (tB 32 255) rfl rfl (by kernel_rfl) (fun _ _ _ h => h) (Or.inl ⟨by rfl, ?_⟩) ?_ ?_
   rotate_left
   ·intro w'
    go_simp
    with_reducible rfl
   rotate_left
   ·simp only [Act.put, pA, pB, pC, i64_w, i32_w]
    rfl
   refine pure_ (i := 8) (N := some 67) (v := ?_) (a' := ?_) (tB 32 511) rfl rfl (by kernel_rfl) (fun _ _ _ h => h) (Or.inl ⟨by rfl, ?_⟩) ?_ ?_
   rotate_left
   ·intro w'
    go_simp
    with_reducible rfl
   rotate_left
   ·simp only [Act.put, pA, pB, pC, i64_w, i32_w]
    rfl
   refine pure_ (i := 9) (N := some 68) (v := ?_) (a' := ?_) (tB 32 1023) rfl rfl (by kernel_rfl) (fun _ _ _ h => h) (Or.inl ⟨by rfl, ?_⟩) ?_ ?_
   rotate_left
   ·intro w'
    go_simp
    with_reducible rfl
   rotate_left
   ·simp only [Act.put, pA, pB, pC, i64_w, i32_w]
    rfl
   refine pure_ (i := 10) (N := some 69) (v := ?_) (a' := ?_) (tB 32 2047) rfl rfl (by kernel_rfl) (fun _ _ _ h => h) (Or.inl ⟨by rfl, ?_⟩) ?_ ?_
   rotate_left
   ·intro w'
    go_simp
    with_reducible rfl
   rotate_left
   ·simp only [Act.put, pA, pB, pC, i64_w, i32_w]
    rfl
   refine pure_ (i := 11) (N := some 70) (v := ?_) (a' := ?_) (tB 32 4095) rfl rfl (by kernel_rfl) (fun _ _ _ h => h) (Or.inl ⟨by rfl, ?_⟩) ?_ ?_
   rotate_left
   ·intro w'
    go_simp
    with_reducible rfl
   rotate_left
   ·simp only [Act.put, pA, pB, pC, i64_w, i32_w]
    rfl
   refine pure_ (i := 12) (N := some 71) (v := undef) (a' := ?_) (tB 32 8191) rfl rfl (by kernel_rfl) (fun _ _ _ h => h) (Or.inr ⟨by rfl, rfl⟩) ?_ ?_
   rotate_left
   ·simp only [Act.put, pA, pB, pC, i64_w, i32_w]
    rfl
   refine pure_ (i := 14) (N := some 73) (v := undef) (a' := ?_) (tB 32 24575) rfl rfl (by kernel_rfl) (fun _ _ _ h => h) (Or.inr ⟨by rfl, rfl⟩) ?_ ?_
   rotate_left
   ·simp only [Act.put, pA, pB, pC, i64_w, i32_w]
    rfl
   refine pure_ (i := 15) (N := some 74) (v := undef) (a' := ?_) (tB 32 57343) rfl rfl (by kernel_rfl) (fun _ _ _ h => h) (Or.inr ⟨by rfl, rfl⟩) ?_ ?_
   rotate_left
   ·simp only [Act.put, pA, pB, pC, i64_w, i32_w]
    rfl
   refine pure_ (i := 16) (N := some 75) (v := undef) (a' := ?_) (tB 32 122879) rfl rfl (by kernel_rfl) (fun _ _ _ h => h) (Or.inr ⟨by rfl, rfl⟩) ?_ ?_
   rotate_left
   ·simp only [Act.put, pA, pB, pC, i64_w, i32_w]
    rfl
   refine pure_ (i := 17) (N := some 76) (v := undef) (a' := ?_) (tB 32 253951) rfl rfl (by kernel_rfl) (fun _ _ _ h => h) (Or.inr ⟨by rfl, rfl⟩) ?_ ?_
   rotate_left
   ·simp only [Act.put, pA, pB, pC, i64_w, i32_w]
    rfl
   refine pure_ (i := 18) (N := some 77) (v := undef) (a' := ?_) (tB 32 516095) rfl rfl (by kernel_rfl) (fun _ _ _ h => h) (Or.inr ⟨by rfl, rfl⟩) ?_ ?_
   rotate_left
   ·simp only [Act.put, pA, pB, pC, i64_w, i32_w]
    rfl
   refine pure_ (i := 19) (N := some 78) (v := undef) (a' := ?_) (tB 32 1040383) rfl rfl (by kernel_rfl) (fun _ _ _ h => h) (Or.inr ⟨by rfl, rfl⟩) ?_ ?_
   rotate_left
   ·simp only [Act.put, pA, pB, pC, i64_w, i32_w]
    rfl
   refine one_ (i := 13) (N := some 72) (tB 32 1048575) rfl rfl (by kernel_rfl) (by decide) (fun K hK => ?_)
   show K (Act.put _ (some 72) undef) _
   refine hK.out _ _ trivial (fun hHeld => ?_)
   clear hK K
   refine norm_ (a' := ?_) ?_ ?_
   rotate_left
   ·show Act.put _ (some 72) _ = _
    simp only [Act.put, pA, pB, pC, i64_w, i32_w]
    rfl
   refine pure_ (i := 20) (N := some 79) (v := undef) (a' := ?_) (tB 32 2097151) rfl rfl (by kernel_rfl) (fun _ _ _ h => h) (Or.inr ⟨by rfl, rfl⟩) ?_ ?_
   rotate_left
   ·simp only [Act.put, pA, pB, pC, i64_w, i32_w]
    rfl
   refine pure_ (i := 21) (N := some 80) (v := ?_) (a' := ?_) (tB 32 4194303) rfl rfl (by kernel_rfl) (fun _ _ _ h => h) (Or.inl ⟨by rfl, ?_⟩) ?_ ?_
   rotate_left
   ·intro w'
    go_simp
    with_reducible rfl
   rotate_left
   ·simp only [Act.put, pA, pB, pC, i64_w, i32_w]
    rfl
   refine pure_ (i := 22) (N := some 81) (v := ?_) (a' := ?_) (tB 32 8388607) rfl rfl (by kernel_rfl) (fun _ _ _ h => h) (Or.inl ⟨by rfl, ?_⟩) ?_ ?_
   rotate_left
   ·intro w'
    go_simp
    with_reducible rfl
   rotate_left
   ·simp only [Act.put, pA, pB, pC, i64_w, i32_w]
    rfl
   refine pure_ (i := 23) (N := some 82) (v := undef) (a' := ?_) (tB 32 16777215) rfl rfl (by kernel_rfl) (fun _ _ _ h => h) (Or.inr ⟨by rfl, rfl⟩) ?_ ?_
   rotate_left
   ·simp only [Act.put, pA, pB, pC, i64_w, i32_w]
    rfl
   refine pure_ (i := 24) (N := some 83) (v := undef) (a' := ?_) (tB 32 33554431) rfl rfl (by kernel_rfl) (fun _ _ _ h => h) (Or.inr ⟨by rfl, rfl⟩) ?_ ?_
   rotate_left
   ·simp only [Act.put, pA, pB, pC, i64_w, i32_w]
    rfl
   refine one_ (i := 25) (N := some 84) (tB 32 67108863) rfl rfl (by kernel_rfl) (by decide) (fun K hK => ?_)
   show K (Act.put _ (some 84) undef) _
   refine hK.out _ _ trivial (fun hHeld => ?_)
   clear hK K
   refine norm_ (a' := ?_) ?_ ?_
   rotate_left
   ·show Act.put _ (some 84) _ = _
    simp only [Act.put, pA, pB, pC, i64_w, i32_w]
    rfl
   refine pure_ (i := 26) (N := some 85) (v := undef) (a' := ?_) (tB 32 134217727) rfl rfl (by kernel_rfl) (fun _ _ _ h => h) (Or.inr ⟨by rfl, rfl⟩) ?_ ?_
   rotate_left
   ·simp only [Act.put, pA, pB, pC, i64_w, i32_w]
    rfl
   refine pure_ (i := 27) (N := some 86) (v := undef) (a' := ?_) (tB 32 268435455) rfl rfl (by kernel_rfl) (fun _ _ _ h => h) (Or.inr ⟨by rfl, rfl⟩) ?_ ?_
   rotate_left
   ·simp only [Act.put, pA, pB, pC, i64_w, i32_w]
    rfl
   refine one_ (i := 28) (N := some 87) (tB 32 536870911) rfl rfl (by kernel_rfl) (by decide) (fun K hK => ?_)
   show K (Act.put _ (some 87) undef) _
   refine hK.out _ _ trivial (fun hHeld => ?_)
   clear hK K
   refine norm_ (a' := ?_) ?_ ?_
   rotate_left
   ·show Act.put _ (some 87) _ = _
    simp only [Act.put, pA, pB, pC, i64_w, i32_w]
    rfl
   refine pure_ (i := 29) (N := some 88) (v := undef) (a' := ?_) (tB 32 1073741823) rfl rfl (by kernel_rfl) (fun _ _ _ h => h) (Or.inr ⟨by rfl, rfl⟩) ?_ ?_
   rotate_left
   ·simp only [Act.put, pA, pB, pC, i64_w, i32_w]
    rfl
   refine pure_ (i := 30) (N := some 89) (v := undef) (a' := ?_) (tB 32 2147483647) rfl rfl (by kernel_rfl) (fun _ _ _ h => h) (Or.inr ⟨by rfl, rfl⟩) ?_ ?_
   rotate_left
   ·simp only [Act.put, pA, pB, pC, i64_w, i32_w]
    rfl
   refine pure_ (i := 31) (N := some 90) (v := ?_) (a' := ?_) (tB 32 4294967295) rfl rfl (by kernel_rfl) (fun _ _ _ h => h) (Or.inl ⟨by rfl, ?_⟩) ?_ ?_
   rotate_left
   ·intro w'
    go_simp
    with_reducible rfl
   rotate_left
   ·simp only [Act.put, pA, pB, pC, i64_w, i32_w]
    rfl
   refine done_ (by kernel_rfl) ?_
   go_wp2
   go_ret2
   exact ⟨rfl, by repeat (first | (with_reducible first | exact HB7.out | apply bA9 | apply bN9 | apply bD9) | exact HB7.out)⟩
  case neg =>
  rw [if_neg h60] at h
  have q7 : (c1 == 60) = false := beq_eq_false_iff_ne.mpr h60
  clear h60
  obtain ⟨p, hP, h⟩ := Option.bind_eq_some_iff.mp h
  have HP := As9.mk hP
  clear hP
  obtain ⟨ni, hni⟩ : ∃ j_ : Int, wrap64 (i + c2) = j_ := ⟨_, rfl⟩
  have hniw : IntKind.i64.wrap (i + c2) = ni := (i64_w _).trans hni
  unfold xsGo at h
  rw [hni] at h
  split at h
  case isFalse => cases h
  case isTrue hg =>
  obtain ⟨u0, u1⟩ := hg
  have s0 := eq_true u0
  have s1 := eq_true u1
  clear u0 u1
  by_cases hp : p.toList = (a0.extract i.toNat ni.toNat).toList
  case neg =>
   rw [if_neg hp] at h
   have q8 : (p.toList != (a0.extract i.toNat ni.toNat).toList) = true := bne_iff_ne.mpr hp
   have q9 : (p.toList == (a0.extract i.toNat ni.toNat).toList) = false := beq_eq_false_iff_ne.mpr hp
   clear hp
   obtain ⟨rfl, rfl⟩ := Prod.mk.inj (Option.some.inj h)
   repeat clear h
   go_wp2_with (first | (go_at_call 74; (with_reducible refine (spec_l4Find.calls n a2 0 (bt a0 i) q _ HQ.out).mono ?_); rintro r w4 ⟨rfl, hd⟩; have HB4 := As9.mk (below_step HB.out hd.below); have HO4 := As9.mk (Kd.R_below HO.out hd.below); clear hd) | (go_at_call 58; (with_reducible refine (spec_GetSign.calls n a0 i c1 c2 _ HGS.out).mono ?_); rintro r w5 ⟨rfl, hd⟩; have HB5 := As9.mk (below_step HB4.out hd.below); have HO5 := As9.mk (Kd.R_below HO4.out hd.below); clear hd))
   have HB6 : As9 (Below w.heap.size w w5.drew) := ⟨bD9 HB5.out⟩
   have HO6 : As9 (Kd.R (Kd.int .u8) 5 w5.drew w.heap.size (fun _ => True) _ out) := ⟨by (with_reducible apply Kd.R_drew); exact HO5.out⟩
   clear HB5 HO5
   refine start_ (n := 32) (S := fun w' => True) (ds := [31]) #[false, false, false, false, false, false, false, false, false, false, false, false, false, false, false, false, false, false, false, false, false, false, false, false, false, false, false, false, false, false, false, false] (by kernel_rfl) rfl rfl trivial (fun hHeld => ?_)
   generalize World.drew _ = wq0 at HB6 HO6 hHeld ⊢
   refine pure_ (i := 0) (N := some 59) (v := ?_) (a' := ?_) (tB 32 1) rfl rfl (by kernel_rfl) (fun _ _ _ h => h) (Or.inl ⟨by rfl, ?_⟩) ?_ ?_
   rotate_left
   ·intro w'
    go_simp
    with_reducible rfl
   rotate_left
   ·simp only [Act.put, pA, pB, pC, i64_w, i32_w]
    rfl
   refine one_ (i := 1) (N := some 60) (tB 32 3) rfl rfl (by kernel_rfl) (by decide) (fun K hK => ?_)
   refine goes_ Tryz.func75 (by kernel_rfl) rfl #[.int .i64 c1] (by rfl) rfl rfl (by (try simp only [List.map_toArray, List.map_cons, List.map_nil]); first | done | rfl | (simp only [List.length_drop, List.length_take]; rfl)) ?_
   with_reducible refine (spec_IsText.calls c1 true _ HT.out).mono ?_
   rintro e wq1 ⟨rfl, hd⟩
   refine ⟨_, rfl, ?_⟩
   have HB7 := As9.mk (below_step HB6.out hd.below)
   have HO7 := As9.mk (Kd.R_below HO6.out hd.below)
   clear hd HB6 HO6
   refine hK.out _ _ trivial (fun hHeld => ?_)
   clear hK K
   refine norm_ (a' := ?_) ?_ ?_
   rotate_left
   ·show Act.put _ (some 60) _ = _
    simp only [Act.put, pA, pB, pC, i64_w, i32_w]
    rfl
   refine pure_ (i := 2) (N := some 61) (v := ?_) (a' := ?_) (tB 32 7) rfl rfl (by kernel_rfl) (fun _ _ _ h => h) (Or.inl ⟨by rfl, ?_⟩) ?_ ?_
   rotate_left
   ·intro w'
    go_simp
    with_reducible rfl
   rotate_left
   ·simp only [Act.put, pA, pB, pC, i64_w, i32_w]
    rfl
   refine pure_ (i := 3) (N := some 62) (v := ?_) (a' := ?_) (tB 32 15) rfl rfl (by kernel_rfl) (fun _ _ _ h => h) (Or.inl ⟨by rfl, ?_⟩) ?_ ?_
   rotate_left
   ·intro w'
    go_simp
    with_reducible rfl
   rotate_left
   ·simp only [Act.put, pA, pB, pC, i64_w, i32_w]
    rfl
   refine pure_ (i := 4) (N := some 63) (v := ?_) (a' := ?_) (tB 32 31) rfl rfl (by kernel_rfl) (fun _ _ _ h => h) (Or.inl ⟨by rfl, ?_⟩) ?_ ?_
   rotate_left
   ·intro w'
    go_simp
    with_reducible rfl
   rotate_left
   ·simp only [Act.put, pA, pB, pC, i64_w, i32_w]
    rfl
   refine pure_ (i := 5) (N := some 64) (v := ?_) (a' := ?_) (tB 32 63) rfl rfl (by kernel_rfl) (fun _ _ _ h => h) (Or.inl ⟨by rfl, ?_⟩) ?_ ?_
   rotate_left
   ·intro w'
    go_simp
    with_reducible rfl
   rotate_left
   ·simp only [Act.put, pA, pB, pC, i64_w, i32_w]
    rfl
   refine pure_ (i := 6) (N := some 65) (v := ?_) (a' := ?_) (tB 32 127) rfl rfl (by kernel_rfl) (fun _ _ _ h => h) (Or.inl ⟨by rfl, ?_⟩) ?_ ?_
   rotate_left
   ·intro w'
    go_simp
    with_reducible rfl
   rotate_left
   ·simp only [Act.put, pA, pB, pC, i64_w, i32_w]
    rfl
   refine pure_ (i := 7) (N := some 66) (v := ?_) (a' := ?_) (tB 32 255) rfl rfl (by kernel_rfl) (fun _ _ _ h => h) (Or.inl ⟨by rfl, ?_⟩) ?_ ?_
   rotate_left
   ·intro w'
    go_simp
    with_reducible rfl
   rotate_left
   ·simp only [Act.put, pA, pB, pC, i64_w, i32_w]
    rfl
   refine pure_ (i := 8) (N := some 67) (v := ?_) (a' := ?_) (tB 32 511) rfl rfl (by kernel_rfl) (fun _ _ _ h => h) (Or.inl ⟨by rfl, ?_⟩) ?_ ?_
   rotate_left
   ·intro w'
    go_simp
    with_reducible rfl
   rotate_left
   ·simp only [Act.put, pA, pB, pC, i64_w, i32_w]
    rfl
   refine pure_ (i := 9) (N := some 68) (v := ?_) (a' := ?_) (tB 32 1023) rfl rfl (by kernel_rfl) (fun _ _ _ h => h) (Or.inl ⟨by rfl, ?_⟩) ?_ ?_
   rotate_left
   ·intro w'
    go_simp
    with_reducible rfl
   rotate_left
   ·simp only [Act.put, pA, pB, pC, i64_w, i32_w]
    rfl
   refine pure_ (i := 10) (N := some 69) (v := ?_) (a' := ?_) (tB 32 2047) rfl rfl (by kernel_rfl) (fun _ _ _ h => h) (Or.inl ⟨by rfl, ?_⟩) ?_ ?_
   rotate_left
   ·intro w'
    go_simp
    with_reducible rfl
   rotate_left
   ·simp only [Act.put, pA, pB, pC, i64_w, i32_w]
    rfl
   refine pure_ (i := 11) (N := some 70) (v := ?_) (a' := ?_) (tB 32 4095) rfl rfl (by kernel_rfl) (fun _ _ _ h => h) (Or.inl ⟨by rfl, ?_⟩) ?_ ?_
   rotate_left
   ·intro w'
    go_simp
    with_reducible rfl
   rotate_left
   ·simp only [Act.put, pA, pB, pC, i64_w, i32_w]
    rfl
   refine pure_ (i := 12) (N := some 71) (v := ?_) (a' := ?_) (tB 32 8191) rfl rfl (by kernel_rfl) (fun _ _ _ h => h) (Or.inl ⟨by rfl, ?_⟩) ?_ ?_
   rotate_left
   ·intro w'
    go_simp
    with_reducible rfl
   rotate_left
   ·simp only [Act.put, pA, pB, pC, i64_w, i32_w]
    rfl
   refine pure_ (i := 14) (N := some 73) (v := ?_) (a' := ?_) (tB 32 24575) rfl rfl (by kernel_rfl) (fun _ _ _ h => h) (Or.inl ⟨by rfl, ?_⟩) ?_ ?_
   rotate_left
   ·intro w'
    go_simp
    with_reducible rfl
   rotate_left
   ·simp only [Act.put, pA, pB, pC, i64_w, i32_w]
    rfl
   refine pure_ (i := 15) (N := some 74) (v := ?_) (a' := ?_) (tB 32 57343) rfl rfl (by kernel_rfl) (fun _ _ _ h => h) (Or.inl ⟨by rfl, ?_⟩) ?_ ?_
   rotate_left
   ·intro w'
    go_simp
    with_reducible rfl
   rotate_left
   ·simp only [Act.put, pA, pB, pC, i64_w, i32_w]
    rfl
   refine pure_ (i := 16) (N := some 75) (v := ?_) (a' := ?_) (tB 32 122879) rfl rfl (by kernel_rfl) (fun _ _ _ h => h) (Or.inl ⟨by rfl, ?_⟩) ?_ ?_
   rotate_left
   ·intro w'
    go_simp
    with_reducible rfl
   rotate_left
   ·simp only [Act.put, pA, pB, pC, i64_w, i32_w]
    rfl
   refine pure_ (i := 17) (N := some 76) (v := ?_) (a' := ?_) (tB 32 253951) rfl rfl (by kernel_rfl) (fun _ _ _ h => h) (Or.inl ⟨by rfl, ?_⟩) ?_ ?_
   rotate_left
   ·intro w'
    go_simp
    with_reducible rfl
   rotate_left
   ·simp only [Act.put, pA, pB, pC, i64_w, i32_w]
    rfl
   refine pure_ (i := 18) (N := some 77) (v := ?_) (a' := ?_) (tB 32 516095) rfl rfl (by kernel_rfl) (fun _ _ _ h => h) (Or.inl ⟨by rfl, ?_⟩) ?_ ?_
   rotate_left
   ·intro w'
    go_simp
    with_reducible rfl
   rotate_left
   ·simp only [Act.put, pA, pB, pC, i64_w, i32_w]
    rfl
   refine pure_ (i := 19) (N := some 78) (v := ?_) (a' := ?_) (tB 32 1040383) rfl rfl (by kernel_rfl) (fun _ _ _ h => h) (Or.inl ⟨by rfl, ?_⟩) ?_ ?_
   rotate_left
   ·intro w'
    go_simp
    with_reducible rfl
   rotate_left
   ·simp only [Act.put, pA, pB, pC, i64_w, i32_w]
    rfl
   refine one_ (i := 13) (N := some 72) (tB 32 1048575) rfl rfl (by kernel_rfl) (by decide) (fun K hK => ?_)
   refine goes_ Tryz.func61 (by kernel_rfl) rfl #[.int .i64 c1] (by rfl) rfl rfl (by (try simp only [List.map_toArray, List.map_cons, List.map_nil]); first | done | rfl | (simp only [List.length_drop, List.length_take]; rfl)) ?_
   with_reducible refine (spec_PutSign.calls n c1 p _ HP.out).mono ?_
   rintro e wq13 ⟨rfl, hb⟩
   refine ⟨_, rfl, ?_⟩
   have HB8 := As9.mk (below_step HB7.out hb)
   have HO8 := As9.mk (Kd.R_below HO7.out hb)
   clear hb HB7 HO7
   refine hK.out _ _ trivial (fun hHeld => ?_)
   clear hK K
   refine norm_ (a' := ?_) ?_ ?_
   rotate_left
   ·show Act.put _ (some 72) _ = _
    simp only [Act.put, pA, pB, pC, i64_w, i32_w]
    rfl
   refine pure_ (i := 20) (N := some 79) (v := ?_) (a' := ?_) (tB 32 2097151) rfl rfl (by kernel_rfl) (fun _ _ _ h => h) (Or.inl ⟨by rfl, ?_⟩) ?_ ?_
   rotate_left
   ·intro w'
    go_simp
    with_reducible rfl
   rotate_left
   ·simp only [Act.put, pA, pB, pC, i64_w, i32_w]
    rfl
   refine pure_ (i := 21) (N := some 80) (v := ?_) (a' := ?_) (tB 32 4194303) rfl rfl (by kernel_rfl) (fun _ _ _ h => h) (Or.inl ⟨by rfl, ?_⟩) ?_ ?_
   rotate_left
   ·intro w'
    go_simp
    with_reducible rfl
   rotate_left
   ·simp only [Act.put, pA, pB, pC, i64_w, i32_w]
    rfl
   refine pure_ (i := 22) (N := some 81) (v := ?_) (a' := ?_) (tB 32 8388607) rfl rfl (by kernel_rfl) (fun _ _ _ h => h) (Or.inl ⟨by rfl, ?_⟩) ?_ ?_
   rotate_left
   ·intro w'
    go_simp
    with_reducible rfl
   rotate_left
   ·simp only [Act.put, pA, pB, pC, i64_w, i32_w]
    rfl
   refine pure_ (i := 23) (N := some 82) (v := undef) (a' := ?_) (tB 32 16777215) rfl rfl (by kernel_rfl) (fun _ _ _ h => h) (Or.inr ⟨by rfl, rfl⟩) ?_ ?_
   rotate_left
   ·simp only [Act.put, pA, pB, pC, i64_w, i32_w]
    rfl
   refine pure_ (i := 24) (N := some 83) (v := undef) (a' := ?_) (tB 32 33554431) rfl rfl (by kernel_rfl) (fun _ _ _ h => h) (Or.inr ⟨by rfl, rfl⟩) ?_ ?_
   rotate_left
   ·simp only [Act.put, pA, pB, pC, i64_w, i32_w]
    rfl
   refine one_ (i := 25) (N := some 84) (tB 32 67108863) rfl rfl (by kernel_rfl) (by decide) (fun K hK => ?_)
   show K (Act.put _ (some 84) undef) _
   refine hK.out _ _ trivial (fun hHeld => ?_)
   clear hK K
   refine norm_ (a' := ?_) ?_ ?_
   rotate_left
   ·show Act.put _ (some 84) _ = _
    simp only [Act.put, pA, pB, pC, i64_w, i32_w]
    rfl
   refine pure_ (i := 26) (N := some 85) (v := undef) (a' := ?_) (tB 32 134217727) rfl rfl (by kernel_rfl) (fun _ _ _ h => h) (Or.inr ⟨by rfl, rfl⟩) ?_ ?_
   rotate_left
   ·simp only [Act.put, pA, pB, pC, i64_w, i32_w]
    rfl
   refine pure_ (i := 27) (N := some 86) (v := undef) (a' := ?_) (tB 32 268435455) rfl rfl (by kernel_rfl) (fun _ _ _ h => h) (Or.inr ⟨by rfl, rfl⟩) ?_ ?_
   rotate_left
   ·simp only [Act.put, pA, pB, pC, i64_w, i32_w]
    rfl
   refine one_ (i := 28) (N := some 87) (tB 32 536870911) rfl rfl (by kernel_rfl) (by decide) (fun K hK => ?_)
   show K (Act.put _ (some 87) undef) _
   refine hK.out _ _ trivial (fun hHeld => ?_)
   clear hK K
   refine norm_ (a' := ?_) ?_ ?_
   rotate_left
   ·show Act.put _ (some 87) _ = _
    simp only [Act.put, pA, pB, pC, i64_w, i32_w]
    rfl
   refine pure_ (i := 29) (N := some 88) (v := undef) (a' := ?_) (tB 32 1073741823) rfl rfl (by kernel_rfl) (fun _ _ _ h => h) (Or.inr ⟨by rfl, rfl⟩) ?_ ?_
   rotate_left
   ·simp only [Act.put, pA, pB, pC, i64_w, i32_w]
    rfl
   refine pure_ (i := 30) (N := some 89) (v := undef) (a' := ?_) (tB 32 2147483647) rfl rfl (by kernel_rfl) (fun _ _ _ h => h) (Or.inr ⟨by rfl, rfl⟩) ?_ ?_
   rotate_left
   ·simp only [Act.put, pA, pB, pC, i64_w, i32_w]
    rfl
   refine pure_ (i := 31) (N := some 90) (v := ?_) (a' := ?_) (tB 32 4294967295) rfl rfl (by kernel_rfl) (fun _ _ _ h => h) (Or.inl ⟨by rfl, ?_⟩) ?_ ?_
   rotate_left
   ·intro w'
    go_simp
    with_reducible rfl
   rotate_left
   ·simp only [Act.put, pA, pB, pC, i64_w, i32_w]
    rfl
   refine done_ (by kernel_rfl) ?_
   go_wp2
   go_ret2
   exact ⟨rfl, by repeat (first | (with_reducible first | exact HB8.out | apply bA9 | apply bN9 | apply bD9) | exact HB8.out)⟩
  case pos =>
  rw [if_pos hp] at h
  have q8 : (p.toList != (a0.extract i.toNat ni.toNat).toList) = false := bne_eq_false_iff_eq.mpr hp
  have q9 : (p.toList == (a0.extract i.toNat ni.toNat).toList) = true := beq_iff_eq.mpr hp
  clear hp
  obtain ⟨b, hS, h⟩ := Option.bind_eq_some_iff.mp h
  have HST := As9.mk hS
  clear hS
  cases b with
  | true =>
   rw [if_pos rfl] at h
   obtain ⟨z, hZ, h⟩ := Option.bind_eq_some_iff.mp h
   have HZ := As9.mk hZ
   clear hZ
   by_cases hz : z < 0
   case pos =>
    rw [if_pos hz] at h
    have q10 : decide (z < 0) = true := decide_eq_true hz
    clear hz
    obtain ⟨rfl, rfl⟩ := Prod.mk.inj (Option.some.inj h)
    repeat clear h
    go_wp2_with (first | (go_at_call 74; (with_reducible refine (spec_l4Find.calls n a2 0 (bt a0 i) q _ HQ.out).mono ?_); rintro r w4 ⟨rfl, hd⟩; have HB4 := As9.mk (below_step HB.out hd.below); have HO4 := As9.mk (Kd.R_below HO.out hd.below); clear hd) | (go_at_call 58; (with_reducible refine (spec_GetSign.calls n a0 i c1 c2 _ HGS.out).mono ?_); rintro r w5 ⟨rfl, hd⟩; have HB5 := As9.mk (below_step HB4.out hd.below); have HO5 := As9.mk (Kd.R_below HO4.out hd.below); clear hd))
    have HB6 : As9 (Below w.heap.size w w5.drew) := ⟨bD9 HB5.out⟩
    have HO6 : As9 (Kd.R (Kd.int .u8) 5 w5.drew w.heap.size (fun _ => True) _ out) := ⟨by (with_reducible apply Kd.R_drew); exact HO5.out⟩
    clear HB5 HO5
    refine start_ (n := 32) (S := fun w' => True) (ds := [31]) #[false, false, false, false, false, false, false, false, false, false, false, false, false, false, false, false, false, false, false, false, false, false, false, false, false, false, false, false, false, false, false, false] (by kernel_rfl) rfl rfl trivial (fun hHeld => ?_)
    generalize World.drew _ = wq0 at HB6 HO6 hHeld ⊢
    refine pure_ (i := 0) (N := some 59) (v := ?_) (a' := ?_) (tB 32 1) rfl rfl (by kernel_rfl) (fun _ _ _ h => h) (Or.inl ⟨by rfl, ?_⟩) ?_ ?_
    rotate_left
    ·intro w'
     go_simp
     with_reducible rfl
    rotate_left
    ·simp only [Act.put, pA, pB, pC, i64_w, i32_w]
     rfl
    refine one_ (i := 1) (N := some 60) (tB 32 3) rfl rfl (by kernel_rfl) (by decide) (fun K hK => ?_)
    refine goes_ Tryz.func75 (by kernel_rfl) rfl #[.int .i64 c1] (by rfl) rfl rfl (by (try simp only [List.map_toArray, List.map_cons, List.map_nil]); first | done | rfl | (simp only [List.length_drop, List.length_take]; rfl)) ?_
    with_reducible refine (spec_IsText.calls c1 true _ HT.out).mono ?_
    rintro e wq1 ⟨rfl, hd⟩
    refine ⟨_, rfl, ?_⟩
    have HB7 := As9.mk (below_step HB6.out hd.below)
    have HO7 := As9.mk (Kd.R_below HO6.out hd.below)
    clear hd HB6 HO6
    refine hK.out _ _ trivial (fun hHeld => ?_)
    clear hK K
    refine norm_ (a' := ?_) ?_ ?_
    rotate_left
    ·show Act.put _ (some 60) _ = _
     simp only [Act.put, pA, pB, pC, i64_w, i32_w]
     rfl
    refine pure_ (i := 2) (N := some 61) (v := ?_) (a' := ?_) (tB 32 7) rfl rfl (by kernel_rfl) (fun _ _ _ h => h) (Or.inl ⟨by rfl, ?_⟩) ?_ ?_
    rotate_left
    ·intro w'
     go_simp
     with_reducible rfl
    rotate_left
    ·simp only [Act.put, pA, pB, pC, i64_w, i32_w]
     rfl
    refine pure_ (i := 3) (N := some 62) (v := ?_) (a' := ?_) (tB 32 15) rfl rfl (by kernel_rfl) (fun _ _ _ h => h) (Or.inl ⟨by rfl, ?_⟩) ?_ ?_
    rotate_left
    ·intro w'
     go_simp
     with_reducible rfl
    rotate_left
    ·simp only [Act.put, pA, pB, pC, i64_w, i32_w]
     rfl
    refine pure_ (i := 4) (N := some 63) (v := ?_) (a' := ?_) (tB 32 31) rfl rfl (by kernel_rfl) (fun _ _ _ h => h) (Or.inl ⟨by rfl, ?_⟩) ?_ ?_
    rotate_left
    ·intro w'
     go_simp
     with_reducible rfl
    rotate_left
    ·simp only [Act.put, pA, pB, pC, i64_w, i32_w]
     rfl
    refine pure_ (i := 5) (N := some 64) (v := ?_) (a' := ?_) (tB 32 63) rfl rfl (by kernel_rfl) (fun _ _ _ h => h) (Or.inl ⟨by rfl, ?_⟩) ?_ ?_
    rotate_left
    ·intro w'
     go_simp
     with_reducible rfl
    rotate_left
    ·simp only [Act.put, pA, pB, pC, i64_w, i32_w]
     rfl
    refine pure_ (i := 6) (N := some 65) (v := ?_) (a' := ?_) (tB 32 127) rfl rfl (by kernel_rfl) (fun _ _ _ h => h) (Or.inl ⟨by rfl, ?_⟩) ?_ ?_
    rotate_left
    ·intro w'
     go_simp
     with_reducible rfl
    rotate_left
    ·simp only [Act.put, pA, pB, pC, i64_w, i32_w]
     rfl
    refine pure_ (i := 7) (N := some 66) (v := ?_) (a' := ?_) (tB 32 255) rfl rfl (by kernel_rfl) (fun _ _ _ h => h) (Or.inl ⟨by rfl, ?_⟩) ?_ ?_
    rotate_left
    ·intro w'
     go_simp
     with_reducible rfl
    rotate_left
    ·simp only [Act.put, pA, pB, pC, i64_w, i32_w]
     rfl
    refine pure_ (i := 8) (N := some 67) (v := ?_) (a' := ?_) (tB 32 511) rfl rfl (by kernel_rfl) (fun _ _ _ h => h) (Or.inl ⟨by rfl, ?_⟩) ?_ ?_
    rotate_left
    ·intro w'
     go_simp
     with_reducible rfl
    rotate_left
    ·simp only [Act.put, pA, pB, pC, i64_w, i32_w]
     rfl
    refine pure_ (i := 9) (N := some 68) (v := ?_) (a' := ?_) (tB 32 1023) rfl rfl (by kernel_rfl) (fun _ _ _ h => h) (Or.inl ⟨by rfl, ?_⟩) ?_ ?_
    rotate_left
    ·intro w'
     go_simp
     with_reducible rfl
    rotate_left
    ·simp only [Act.put, pA, pB, pC, i64_w, i32_w]
     rfl
    refine pure_ (i := 10) (N := some 69) (v := ?_) (a' := ?_) (tB 32 2047) rfl rfl (by kernel_rfl) (fun _ _ _ h => h) (Or.inl ⟨by rfl, ?_⟩) ?_ ?_
    rotate_left
    ·intro w'
     go_simp
     with_reducible rfl
    rotate_left
    ·simp only [Act.put, pA, pB, pC, i64_w, i32_w]
     rfl
    refine pure_ (i := 11) (N := some 70) (v := ?_) (a' := ?_) (tB 32 4095) rfl rfl (by kernel_rfl) (fun _ _ _ h => h) (Or.inl ⟨by rfl, ?_⟩) ?_ ?_
    rotate_left
    ·intro w'
     go_simp
     with_reducible rfl
    rotate_left
    ·simp only [Act.put, pA, pB, pC, i64_w, i32_w]
     rfl
    refine pure_ (i := 12) (N := some 71) (v := ?_) (a' := ?_) (tB 32 8191) rfl rfl (by kernel_rfl) (fun _ _ _ h => h) (Or.inl ⟨by rfl, ?_⟩) ?_ ?_
    rotate_left
    ·intro w'
     go_simp
     with_reducible rfl
    rotate_left
    ·simp only [Act.put, pA, pB, pC, i64_w, i32_w]
     rfl
    refine pure_ (i := 14) (N := some 73) (v := ?_) (a' := ?_) (tB 32 24575) rfl rfl (by kernel_rfl) (fun _ _ _ h => h) (Or.inl ⟨by rfl, ?_⟩) ?_ ?_
    rotate_left
    ·intro w'
     go_simp
     with_reducible rfl
    rotate_left
    ·simp only [Act.put, pA, pB, pC, i64_w, i32_w]
     rfl
    refine pure_ (i := 15) (N := some 74) (v := ?_) (a' := ?_) (tB 32 57343) rfl rfl (by kernel_rfl) (fun _ _ _ h => h) (Or.inl ⟨by rfl, ?_⟩) ?_ ?_
    rotate_left
    ·intro w'
     go_simp
     with_reducible rfl
    rotate_left
    ·simp only [Act.put, pA, pB, pC, i64_w, i32_w]
     rfl
    refine pure_ (i := 16) (N := some 75) (v := ?_) (a' := ?_) (tB 32 122879) rfl rfl (by kernel_rfl) (fun _ _ _ h => h) (Or.inl ⟨by rfl, ?_⟩) ?_ ?_
    rotate_left
    ·intro w'
     go_simp
     with_reducible rfl
    rotate_left
    ·simp only [Act.put, pA, pB, pC, i64_w, i32_w]
     rfl
    refine pure_ (i := 17) (N := some 76) (v := ?_) (a' := ?_) (tB 32 253951) rfl rfl (by kernel_rfl) (fun _ _ _ h => h) (Or.inl ⟨by rfl, ?_⟩) ?_ ?_
    rotate_left
    ·intro w'
     go_simp
     with_reducible rfl
    rotate_left
    ·simp only [Act.put, pA, pB, pC, i64_w, i32_w]
     rfl
    refine pure_ (i := 18) (N := some 77) (v := ?_) (a' := ?_) (tB 32 516095) rfl rfl (by kernel_rfl) (fun _ _ _ h => h) (Or.inl ⟨by rfl, ?_⟩) ?_ ?_
    rotate_left
    ·intro w'
     go_simp
     with_reducible rfl
    rotate_left
    ·simp only [Act.put, pA, pB, pC, i64_w, i32_w]
     rfl
    refine pure_ (i := 19) (N := some 78) (v := ?_) (a' := ?_) (tB 32 1040383) rfl rfl (by kernel_rfl) (fun _ _ _ h => h) (Or.inl ⟨by rfl, ?_⟩) ?_ ?_
    rotate_left
    ·intro w'
     go_simp
     with_reducible rfl
    rotate_left
    ·simp only [Act.put, pA, pB, pC, i64_w, i32_w]
     rfl
    refine one_ (i := 13) (N := some 72) (tB 32 1048575) rfl rfl (by kernel_rfl) (by decide) (fun K hK => ?_)
    refine goes_ Tryz.func61 (by kernel_rfl) rfl #[.int .i64 c1] (by rfl) rfl rfl (by (try simp only [List.map_toArray, List.map_cons, List.map_nil]); first | done | rfl | (simp only [List.length_drop, List.length_take]; rfl)) ?_
    with_reducible refine (spec_PutSign.calls n c1 p _ HP.out).mono ?_
    rintro e wq13 ⟨rfl, hb⟩
    refine ⟨_, rfl, ?_⟩
    have HB8 := As9.mk (below_step HB7.out hb)
    have HO8 := As9.mk (Kd.R_below HO7.out hb)
    clear hb HB7 HO7
    refine hK.out _ _ trivial (fun hHeld => ?_)
    clear hK K
    refine norm_ (a' := ?_) ?_ ?_
    rotate_left
    ·show Act.put _ (some 72) _ = _
     simp only [Act.put, pA, pB, pC, i64_w, i32_w]
     rfl
    refine pure_ (i := 20) (N := some 79) (v := ?_) (a' := ?_) (tB 32 2097151) rfl rfl (by kernel_rfl) (fun _ _ _ h => h) (Or.inl ⟨by rfl, ?_⟩) ?_ ?_
    rotate_left
    ·intro w'
     go_simp
     with_reducible rfl
    rotate_left
    ·simp only [Act.put, pA, pB, pC, i64_w, i32_w]
     rfl
    refine pure_ (i := 21) (N := some 80) (v := ?_) (a' := ?_) (tB 32 4194303) rfl rfl (by kernel_rfl) (fun _ _ _ h => h) (Or.inl ⟨by rfl, ?_⟩) ?_ ?_
    rotate_left
    ·intro w'
     go_simp
     with_reducible rfl
    rotate_left
    ·simp only [Act.put, pA, pB, pC, i64_w, i32_w]
     rfl
    refine pure_ (i := 22) (N := some 81) (v := ?_) (a' := ?_) (tB 32 8388607) rfl rfl (by kernel_rfl) (fun _ _ _ h => h) (Or.inl ⟨by rfl, ?_⟩) ?_ ?_
    rotate_left
    ·intro w'
     go_simp
     with_reducible rfl
    rotate_left
    ·simp only [Act.put, pA, pB, pC, i64_w, i32_w]
     rfl
    refine pure_ (i := 23) (N := some 82) (v := ?_) (a' := ?_) (tB 32 16777215) rfl rfl (by kernel_rfl) (fun _ _ _ h => h) (Or.inl ⟨by rfl, ?_⟩) ?_ ?_
    rotate_left
    ·intro w'
     go_simp
     with_reducible rfl
    rotate_left
    ·simp only [Act.put, pA, pB, pC, i64_w, i32_w]
     rfl
    refine pure_ (i := 24) (N := some 83) (v := ?_) (a' := ?_) (tB 32 33554431) rfl rfl (by kernel_rfl) (fun _ _ _ h => h) (Or.inl ⟨by rfl, ?_⟩) ?_ ?_
    rotate_left
    ·intro w'
     go_simp
     with_reducible rfl
    rotate_left
    ·simp only [Act.put, pA, pB, pC, i64_w, i32_w]
     rfl
    refine one_ (i := 25) (N := some 84) (tB 32 67108863) rfl rfl (by kernel_rfl) (by decide) (fun K hK => ?_)
    refine goes_ Tryz.func69 (by kernel_rfl) rfl #[.string a0, .int .i64 i, .string ⟨#[93, 93, 62]⟩] (by rfl) rfl rfl (by (try simp only [List.map_toArray, List.map_cons, List.map_nil]); first | done | rfl | (simp only [List.length_drop, List.length_take]; rfl)) ?_
    with_reducible refine (spec_l5Stands.calls a0 i ⟨#[93, 93, 62]⟩ true _ HST.out).mono ?_
    rintro e wq25 ⟨rfl, hd⟩
    refine ⟨_, rfl, ?_⟩
    have HB9 := As9.mk (below_step HB8.out hd.below)
    have HO9 := As9.mk (Kd.R_below HO8.out hd.below)
    clear hd HB8 HO8
    refine hK.out _ _ trivial (fun hHeld => ?_)
    clear hK K
    refine norm_ (a' := ?_) ?_ ?_
    rotate_left
    ·show Act.put _ (some 84) _ = _
     simp only [Act.put, pA, pB, pC, i64_w, i32_w]
     rfl
    refine pure_ (i := 26) (N := some 85) (v := ?_) (a' := ?_) (tB 32 134217727) rfl rfl (by kernel_rfl) (fun _ _ _ h => h) (Or.inl ⟨by rfl, ?_⟩) ?_ ?_
    rotate_left
    ·intro w'
     go_simp
     with_reducible rfl
    rotate_left
    ·simp only [Act.put, pA, pB, pC, i64_w, i32_w]
     rfl
    refine pure_ (i := 27) (N := some 86) (v := ?_) (a' := ?_) (tB 32 268435455) rfl rfl (by kernel_rfl) (fun _ _ _ h => h) (Or.inl ⟨by rfl, ?_⟩) ?_ ?_
    rotate_left
    ·intro w'
     go_simp
     with_reducible rfl
    rotate_left
    ·simp only [Act.put, pA, pB, pC, i64_w, i32_w]
     rfl
    refine one_ (i := 28) (N := some 87) (tB 32 536870911) rfl rfl (by kernel_rfl) (by decide) (fun K hK => ?_)
    refine goes_ Tryz.func74 (by kernel_rfl) rfl #[.string a2, .int .i64 0, .int .u8 62] (by rfl) rfl rfl (by (try simp only [List.map_toArray, List.map_cons, List.map_nil]); first | done | rfl | (simp only [List.length_drop, List.length_take]; rfl)) ?_
    with_reducible refine (spec_l4Find.calls n a2 0 62 z _ HZ.out).mono ?_
    rintro e wq28 ⟨rfl, hd⟩
    refine ⟨_, rfl, ?_⟩
    have HB10 := As9.mk (below_step HB9.out hd.below)
    have HO10 := As9.mk (Kd.R_below HO9.out hd.below)
    clear hd HB9 HO9
    refine hK.out _ _ trivial (fun hHeld => ?_)
    clear hK K
    refine norm_ (a' := ?_) ?_ ?_
    rotate_left
    ·show Act.put _ (some 87) _ = _
     simp only [Act.put, pA, pB, pC, i64_w, i32_w]
     rfl
    refine pure_ (i := 29) (N := some 88) (v := ?_) (a' := ?_) (tB 32 1073741823) rfl rfl (by kernel_rfl) (fun _ _ _ h => h) (Or.inl ⟨by rfl, ?_⟩) ?_ ?_
    rotate_left
    ·intro w'
     go_simp
     with_reducible rfl
    rotate_left
    ·simp only [Act.put, pA, pB, pC, i64_w, i32_w]
     rfl
    refine pure_ (i := 30) (N := some 89) (v := ?_) (a' := ?_) (tB 32 2147483647) rfl rfl (by kernel_rfl) (fun _ _ _ h => h) (Or.inl ⟨by rfl, ?_⟩) ?_ ?_
    rotate_left
    ·intro w'
     go_simp
     with_reducible rfl
    rotate_left
    ·simp only [Act.put, pA, pB, pC, i64_w, i32_w]
     rfl
    refine pure_ (i := 31) (N := some 90) (v := ?_) (a' := ?_) (tB 32 4294967295) rfl rfl (by kernel_rfl) (fun _ _ _ h => h) (Or.inl ⟨by rfl, ?_⟩) ?_ ?_
    rotate_left
    ·intro w'
     go_simp
     with_reducible rfl
    rotate_left
    ·simp only [Act.put, pA, pB, pC, i64_w, i32_w]
     rfl
    refine done_ (by kernel_rfl) ?_
    go_wp2
    go_ret2
    exact ⟨rfl, by repeat (first | (with_reducible first | exact HB10.out | apply bA9 | apply bN9 | apply bD9) | exact HB10.out)⟩
   case neg =>
    rw [if_neg hz] at h
    have q10 : decide (z < 0) = false := decide_eq_false hz
    clear hz
    split at h
    case isFalse => cases h
    case isTrue hgl =>
    obtain ⟨tx, htx⟩ : ∃ t_, a0.extract i.toNat ni.toNat = t_ := ⟨_, rfl⟩
    rw [htx] at h hgl
    have HTX := As9.mk htx
    have HL : As9 (out.length + tx.size ≤ 140737488355327) := ⟨hgl⟩
    have HGN := As9.mk h
    repeat clear h
    clear hgl htx
    go_wp2_with (first | (go_at_call 74; (with_reducible refine (spec_l4Find.calls n a2 0 (bt a0 i) q _ HQ.out).mono ?_); rintro r w4 ⟨rfl, hd⟩; have HB4 := As9.mk (below_step HB.out hd.below); have HO4 := As9.mk (Kd.R_below HO.out hd.below); clear hd) | (go_at_call 58; (with_reducible refine (spec_GetSign.calls n a0 i c1 c2 _ HGS.out).mono ?_); rintro r w5 ⟨rfl, hd⟩; have HB5 := As9.mk (below_step HB4.out hd.below); have HO5 := As9.mk (Kd.R_below HO4.out hd.below); clear hd))
    have HB6 : As9 (Below w.heap.size w w5.drew) := ⟨bD9 HB5.out⟩
    have HO6 : As9 (Kd.R (Kd.int .u8) 5 w5.drew w.heap.size (fun _ => True) _ out) := ⟨by (with_reducible apply Kd.R_drew); exact HO5.out⟩
    clear HB5 HO5
    refine start_ (n := 32) (S := fun w' => True) (ds := [31]) #[false, false, false, false, false, false, false, false, false, false, false, false, false, false, false, false, false, false, false, false, false, false, false, false, false, false, false, false, false, false, false, false] (by kernel_rfl) rfl rfl trivial (fun hHeld => ?_)
    generalize World.drew _ = wq0 at HB6 HO6 hHeld ⊢
    refine pure_ (i := 0) (N := some 59) (v := ?_) (a' := ?_) (tB 32 1) rfl rfl (by kernel_rfl) (fun _ _ _ h => h) (Or.inl ⟨by rfl, ?_⟩) ?_ ?_
    rotate_left
    ·intro w'
     go_simp
     with_reducible rfl
    rotate_left
    ·simp only [Act.put, pA, pB, pC, i64_w, i32_w]
     rfl
    refine one_ (i := 1) (N := some 60) (tB 32 3) rfl rfl (by kernel_rfl) (by decide) (fun K hK => ?_)
    refine goes_ Tryz.func75 (by kernel_rfl) rfl #[.int .i64 c1] (by rfl) rfl rfl (by (try simp only [List.map_toArray, List.map_cons, List.map_nil]); first | done | rfl | (simp only [List.length_drop, List.length_take]; rfl)) ?_
    with_reducible refine (spec_IsText.calls c1 true _ HT.out).mono ?_
    rintro e wq1 ⟨rfl, hd⟩
    refine ⟨_, rfl, ?_⟩
    have HB7 := As9.mk (below_step HB6.out hd.below)
    have HO7 := As9.mk (Kd.R_below HO6.out hd.below)
    clear hd HB6 HO6
    refine hK.out _ _ trivial (fun hHeld => ?_)
    clear hK K
    refine norm_ (a' := ?_) ?_ ?_
    rotate_left
    ·show Act.put _ (some 60) _ = _
     simp only [Act.put, pA, pB, pC, i64_w, i32_w]
     rfl
    refine pure_ (i := 2) (N := some 61) (v := ?_) (a' := ?_) (tB 32 7) rfl rfl (by kernel_rfl) (fun _ _ _ h => h) (Or.inl ⟨by rfl, ?_⟩) ?_ ?_
    rotate_left
    ·intro w'
     go_simp
     with_reducible rfl
    rotate_left
    ·simp only [Act.put, pA, pB, pC, i64_w, i32_w]
     rfl
    refine pure_ (i := 3) (N := some 62) (v := ?_) (a' := ?_) (tB 32 15) rfl rfl (by kernel_rfl) (fun _ _ _ h => h) (Or.inl ⟨by rfl, ?_⟩) ?_ ?_
    rotate_left
    ·intro w'
     go_simp
     with_reducible rfl
    rotate_left
    ·simp only [Act.put, pA, pB, pC, i64_w, i32_w]
     rfl
    refine pure_ (i := 4) (N := some 63) (v := ?_) (a' := ?_) (tB 32 31) rfl rfl (by kernel_rfl) (fun _ _ _ h => h) (Or.inl ⟨by rfl, ?_⟩) ?_ ?_
    rotate_left
    ·intro w'
     go_simp
     with_reducible rfl
    rotate_left
    ·simp only [Act.put, pA, pB, pC, i64_w, i32_w]
     rfl
    refine pure_ (i := 5) (N := some 64) (v := ?_) (a' := ?_) (tB 32 63) rfl rfl (by kernel_rfl) (fun _ _ _ h => h) (Or.inl ⟨by rfl, ?_⟩) ?_ ?_
    rotate_left
    ·intro w'
     go_simp
     with_reducible rfl
    rotate_left
    ·simp only [Act.put, pA, pB, pC, i64_w, i32_w]
     rfl
    refine pure_ (i := 6) (N := some 65) (v := ?_) (a' := ?_) (tB 32 127) rfl rfl (by kernel_rfl) (fun _ _ _ h => h) (Or.inl ⟨by rfl, ?_⟩) ?_ ?_
    rotate_left
    ·intro w'
     go_simp
     with_reducible rfl
    rotate_left
    ·simp only [Act.put, pA, pB, pC, i64_w, i32_w]
     rfl
    refine pure_ (i := 7) (N := some 66) (v := ?_) (a' := ?_) (tB 32 255) rfl rfl (by kernel_rfl) (fun _ _ _ h => h) (Or.inl ⟨by rfl, ?_⟩) ?_ ?_
    rotate_left
    ·intro w'
     go_simp
     with_reducible rfl
    rotate_left
    ·simp only [Act.put, pA, pB, pC, i64_w, i32_w]
     rfl
    refine pure_ (i := 8) (N := some 67) (v := ?_) (a' := ?_) (tB 32 511) rfl rfl (by kernel_rfl) (fun _ _ _ h => h) (Or.inl ⟨by rfl, ?_⟩) ?_ ?_
    rotate_left
    ·intro w'
     go_simp
     with_reducible rfl
    rotate_left
    ·simp only [Act.put, pA, pB, pC, i64_w, i32_w]
     rfl
    refine pure_ (i := 9) (N := some 68) (v := ?_) (a' := ?_) (tB 32 1023) rfl rfl (by kernel_rfl) (fun _ _ _ h => h) (Or.inl ⟨by rfl, ?_⟩) ?_ ?_
    rotate_left
    ·intro w'
     go_simp
     with_reducible rfl
    rotate_left
    ·simp only [Act.put, pA, pB, pC, i64_w, i32_w]
     rfl
    refine pure_ (i := 10) (N := some 69) (v := ?_) (a' := ?_) (tB 32 2047) rfl rfl (by kernel_rfl) (fun _ _ _ h => h) (Or.inl ⟨by rfl, ?_⟩) ?_ ?_
    rotate_left
    ·intro w'
     go_simp
     with_reducible rfl
    rotate_left
    ·simp only [Act.put, pA, pB, pC, i64_w, i32_w]
     rfl
    refine pure_ (i := 11) (N := some 70) (v := ?_) (a' := ?_) (tB 32 4095) rfl rfl (by kernel_rfl) (fun _ _ _ h => h) (Or.inl ⟨by rfl, ?_⟩) ?_ ?_
    rotate_left
    ·intro w'
     go_simp
     with_reducible rfl
    rotate_left
    ·simp only [Act.put, pA, pB, pC, i64_w, i32_w]
     rfl
    refine pure_ (i := 12) (N := some 71) (v := ?_) (a' := ?_) (tB 32 8191) rfl rfl (by kernel_rfl) (fun _ _ _ h => h) (Or.inl ⟨by rfl, ?_⟩) ?_ ?_
    rotate_left
    ·intro w'
     go_simp
     with_reducible rfl
    rotate_left
    ·simp only [Act.put, pA, pB, pC, i64_w, i32_w]
     rfl
    refine pure_ (i := 14) (N := some 73) (v := ?_) (a' := ?_) (tB 32 24575) rfl rfl (by kernel_rfl) (fun _ _ _ h => h) (Or.inl ⟨by rfl, ?_⟩) ?_ ?_
    rotate_left
    ·intro w'
     go_simp
     with_reducible rfl
    rotate_left
    ·simp only [Act.put, pA, pB, pC, i64_w, i32_w]
     rfl
    refine pure_ (i := 15) (N := some 74) (v := ?_) (a' := ?_) (tB 32 57343) rfl rfl (by kernel_rfl) (fun _ _ _ h => h) (Or.inl ⟨by rfl, ?_⟩) ?_ ?_
    rotate_left
    ·intro w'
     go_simp
     with_reducible rfl
    rotate_left
    ·simp only [Act.put, pA, pB, pC, i64_w, i32_w]
     rfl
    refine pure_ (i := 16) (N := some 75) (v := ?_) (a' := ?_) (tB 32 122879) rfl rfl (by kernel_rfl) (fun _ _ _ h => h) (Or.inl ⟨by rfl, ?_⟩) ?_ ?_
    rotate_left
    ·intro w'
     go_simp
     with_reducible rfl
    rotate_left
    ·simp only [Act.put, pA, pB, pC, i64_w, i32_w]
     rfl
    refine pure_ (i := 17) (N := some 76) (v := ?_) (a' := ?_) (tB 32 253951) rfl rfl (by kernel_rfl) (fun _ _ _ h => h) (Or.inl ⟨by rfl, ?_⟩) ?_ ?_
    rotate_left
    ·intro w'
     go_simp
     with_reducible rfl
    rotate_left
    ·simp only [Act.put, pA, pB, pC, i64_w, i32_w]
     rfl
    refine pure_ (i := 18) (N := some 77) (v := ?_) (a' := ?_) (tB 32 516095) rfl rfl (by kernel_rfl) (fun _ _ _ h => h) (Or.inl ⟨by rfl, ?_⟩) ?_ ?_
    rotate_left
    ·intro w'
     go_simp
     with_reducible rfl
    rotate_left
    ·simp only [Act.put, pA, pB, pC, i64_w, i32_w]
     rfl
    refine pure_ (i := 19) (N := some 78) (v := ?_) (a' := ?_) (tB 32 1040383) rfl rfl (by kernel_rfl) (fun _ _ _ h => h) (Or.inl ⟨by rfl, ?_⟩) ?_ ?_
    rotate_left
    ·intro w'
     go_simp
     with_reducible rfl
    rotate_left
    ·simp only [Act.put, pA, pB, pC, i64_w, i32_w]
     rfl
    refine one_ (i := 13) (N := some 72) (tB 32 1048575) rfl rfl (by kernel_rfl) (by decide) (fun K hK => ?_)
    refine goes_ Tryz.func61 (by kernel_rfl) rfl #[.int .i64 c1] (by rfl) rfl rfl (by (try simp only [List.map_toArray, List.map_cons, List.map_nil]); first | done | rfl | (simp only [List.length_drop, List.length_take]; rfl)) ?_
    with_reducible refine (spec_PutSign.calls n c1 p _ HP.out).mono ?_
    rintro e wq13 ⟨rfl, hb⟩
    refine ⟨_, rfl, ?_⟩
    have HB8 := As9.mk (below_step HB7.out hb)
    have HO8 := As9.mk (Kd.R_below HO7.out hb)
    clear hb HB7 HO7
    refine hK.out _ _ trivial (fun hHeld => ?_)
    clear hK K
    refine norm_ (a' := ?_) ?_ ?_
    rotate_left
    ·show Act.put _ (some 72) _ = _
     simp only [Act.put, pA, pB, pC, i64_w, i32_w]
     rfl
    refine pure_ (i := 20) (N := some 79) (v := ?_) (a' := ?_) (tB 32 2097151) rfl rfl (by kernel_rfl) (fun _ _ _ h => h) (Or.inl ⟨by rfl, ?_⟩) ?_ ?_
    rotate_left
    ·intro w'
     go_simp
     with_reducible rfl
    rotate_left
    ·simp only [Act.put, pA, pB, pC, i64_w, i32_w]
     rfl
    refine pure_ (i := 21) (N := some 80) (v := ?_) (a' := ?_) (tB 32 4194303) rfl rfl (by kernel_rfl) (fun _ _ _ h => h) (Or.inl ⟨by rfl, ?_⟩) ?_ ?_
    rotate_left
    ·intro w'
     go_simp
     with_reducible rfl
    rotate_left
    ·simp only [Act.put, pA, pB, pC, i64_w, i32_w]
     rfl
    refine pure_ (i := 22) (N := some 81) (v := ?_) (a' := ?_) (tB 32 8388607) rfl rfl (by kernel_rfl) (fun _ _ _ h => h) (Or.inl ⟨by rfl, ?_⟩) ?_ ?_
    rotate_left
    ·intro w'
     go_simp
     with_reducible rfl
    rotate_left
    ·simp only [Act.put, pA, pB, pC, i64_w, i32_w]
     rfl
    refine pure_ (i := 23) (N := some 82) (v := ?_) (a' := ?_) (tB 32 16777215) rfl rfl (by kernel_rfl) (fun _ _ _ h => h) (Or.inl ⟨by rfl, ?_⟩) ?_ ?_
    rotate_left
    ·intro w'
     go_simp
     with_reducible rfl
    rotate_left
    ·simp only [Act.put, pA, pB, pC, i64_w, i32_w]
     rfl
    refine pure_ (i := 24) (N := some 83) (v := ?_) (a' := ?_) (tB 32 33554431) rfl rfl (by kernel_rfl) (fun _ _ _ h => h) (Or.inl ⟨by rfl, ?_⟩) ?_ ?_
    rotate_left
    ·intro w'
     go_simp
     with_reducible rfl
    rotate_left
    ·simp only [Act.put, pA, pB, pC, i64_w, i32_w]
     rfl
    refine one_ (i := 25) (N := some 84) (tB 32 67108863) rfl rfl (by kernel_rfl) (by decide) (fun K hK => ?_)
    refine goes_ Tryz.func69 (by kernel_rfl) rfl #[.string a0, .int .i64 i, .string ⟨#[93, 93, 62]⟩] (by rfl) rfl rfl (by (try simp only [List.map_toArray, List.map_cons, List.map_nil]); first | done | rfl | (simp only [List.length_drop, List.length_take]; rfl)) ?_
    with_reducible refine (spec_l5Stands.calls a0 i ⟨#[93, 93, 62]⟩ true _ HST.out).mono ?_
    rintro e wq25 ⟨rfl, hd⟩
    refine ⟨_, rfl, ?_⟩
    have HB9 := As9.mk (below_step HB8.out hd.below)
    have HO9 := As9.mk (Kd.R_below HO8.out hd.below)
    clear hd HB8 HO8
    refine hK.out _ _ trivial (fun hHeld => ?_)
    clear hK K
    refine norm_ (a' := ?_) ?_ ?_
    rotate_left
    ·show Act.put _ (some 84) _ = _
     simp only [Act.put, pA, pB, pC, i64_w, i32_w]
     rfl
    refine pure_ (i := 26) (N := some 85) (v := ?_) (a' := ?_) (tB 32 134217727) rfl rfl (by kernel_rfl) (fun _ _ _ h => h) (Or.inl ⟨by rfl, ?_⟩) ?_ ?_
    rotate_left
    ·intro w'
     go_simp
     with_reducible rfl
    rotate_left
    ·simp only [Act.put, pA, pB, pC, i64_w, i32_w]
     rfl
    refine pure_ (i := 27) (N := some 86) (v := ?_) (a' := ?_) (tB 32 268435455) rfl rfl (by kernel_rfl) (fun _ _ _ h => h) (Or.inl ⟨by rfl, ?_⟩) ?_ ?_
    rotate_left
    ·intro w'
     go_simp
     with_reducible rfl
    rotate_left
    ·simp only [Act.put, pA, pB, pC, i64_w, i32_w]
     rfl
    refine one_ (i := 28) (N := some 87) (tB 32 536870911) rfl rfl (by kernel_rfl) (by decide) (fun K hK => ?_)
    refine goes_ Tryz.func74 (by kernel_rfl) rfl #[.string a2, .int .i64 0, .int .u8 62] (by rfl) rfl rfl (by (try simp only [List.map_toArray, List.map_cons, List.map_nil]); first | done | rfl | (simp only [List.length_drop, List.length_take]; rfl)) ?_
    with_reducible refine (spec_l4Find.calls n a2 0 62 z _ HZ.out).mono ?_
    rintro e wq28 ⟨rfl, hd⟩
    refine ⟨_, rfl, ?_⟩
    have HB10 := As9.mk (below_step HB9.out hd.below)
    have HO10 := As9.mk (Kd.R_below HO9.out hd.below)
    clear hd HB9 HO9
    refine hK.out _ _ trivial (fun hHeld => ?_)
    clear hK K
    refine norm_ (a' := ?_) ?_ ?_
    rotate_left
    ·show Act.put _ (some 87) _ = _
     simp only [Act.put, pA, pB, pC, i64_w, i32_w]
     rfl
    refine pure_ (i := 29) (N := some 88) (v := ?_) (a' := ?_) (tB 32 1073741823) rfl rfl (by kernel_rfl) (fun _ _ _ h => h) (Or.inl ⟨by rfl, ?_⟩) ?_ ?_
    rotate_left
    ·intro w'
     go_simp
     with_reducible rfl
    rotate_left
    ·simp only [Act.put, pA, pB, pC, i64_w, i32_w]
     rfl
    refine pure_ (i := 30) (N := some 89) (v := ?_) (a' := ?_) (tB 32 2147483647) rfl rfl (by kernel_rfl) (fun _ _ _ h => h) (Or.inl ⟨by rfl, ?_⟩) ?_ ?_
    rotate_left
    ·intro w'
     go_simp
     with_reducible rfl
    rotate_left
    ·simp only [Act.put, pA, pB, pC, i64_w, i32_w]
     rfl
    refine pure_ (i := 31) (N := some 90) (v := ?_) (a' := ?_) (tB 32 4294967295) rfl rfl (by kernel_rfl) (fun _ _ _ h => h) (Or.inl ⟨by rfl, ?_⟩) ?_ ?_
    rotate_left
    ·intro w'
     go_simp
     with_reducible rfl
    rotate_left
    ·simp only [Act.put, pA, pB, pC, i64_w, i32_w]
     rfl
    refine done_ (by kernel_rfl) ?_
    have htx := HTX.out
    clear HTX
    have hcv := print_bytes (P := Tryz.prog) 9 22 5 Tryz.underlying9 Tryz.underlying22 Tryz.underlying5 tx wq28
    have HC5 := As9.mk (txt_C (TxtRow.new wq28 tx (by have := HL.out; omega)))
    have hb5 := (bytes_below (Below.refl wq28.heap.size wq28) (Nat.le_refl _) 5 tx)
    have HOc := As9.mk (Kd.R_below HO10.out hb5)
    have HBc := As9.mk (below_step HB10.out hb5)
    clear hb5 HO10
    rw [bytesOf_length] at HC5
    generalize Lib.bytesWorld wq28 5 tx = w9 at hcv HC5 HOc HBc
    generalize grownCap wq28 tx.size 0 5 = cp at hcv
    go_wp2_with (first | ((with_reducible refine gate_builtin (b := .append) (xs := #[.tmp 91, .tmp 98]) rfl ?_); at_builtin; refine Kd.R_append_rows (Kd.int .u8) (w0 := w) w.heap.size rfl (.tmp 91) (.tmp 98) 22 5 (.int .u8 0) 1 rfl Tryz.underlying22 info5 rfl (by decide) (by omega) _ out (bytesOf tx) _ _ _ (fun _ => True) (fun _ => False) rfl rfl ?aO ?aR (fun _ _ h => h) (fun _ h => h.elim) ?aF ?aB ?aS ?aL ?_; (case aO => exact HOc.out); (case aR => exact HC5.out); (case aF => exact fun _ _ => trivial); (case aB => exact HBc.out); (case aS => exact below_size HBc.out); (case aL => have := HL.out; omega); intro v6 w6 ho hb hg hat; have HOz := As9.mk ho; have HBz := As9.mk hb; clear ho hb hg hat))
    go_roundg n
    case measure => omega
    case rel => exact ⟨_, ni, by first | rfl | rw [← hni], HGN, HOz, HBz⟩
  | false =>
   rw [if_neg (by simp)] at h
   split at h
   case isFalse => cases h
   case isTrue hgl =>
   obtain ⟨tx, htx⟩ : ∃ t_, a0.extract i.toNat ni.toNat = t_ := ⟨_, rfl⟩
   rw [htx] at h hgl
   have HTX := As9.mk htx
   have HL : As9 (out.length + tx.size ≤ 140737488355327) := ⟨hgl⟩
   have HGN := As9.mk h
   repeat clear h
   clear hgl htx
   go_wp2_with (first | (go_at_call 74; (with_reducible refine (spec_l4Find.calls n a2 0 (bt a0 i) q _ HQ.out).mono ?_); rintro r w4 ⟨rfl, hd⟩; have HB4 := As9.mk (below_step HB.out hd.below); have HO4 := As9.mk (Kd.R_below HO.out hd.below); clear hd) | (go_at_call 58; (with_reducible refine (spec_GetSign.calls n a0 i c1 c2 _ HGS.out).mono ?_); rintro r w5 ⟨rfl, hd⟩; have HB5 := As9.mk (below_step HB4.out hd.below); have HO5 := As9.mk (Kd.R_below HO4.out hd.below); clear hd))
   have HB6 : As9 (Below w.heap.size w w5.drew) := ⟨bD9 HB5.out⟩
   have HO6 : As9 (Kd.R (Kd.int .u8) 5 w5.drew w.heap.size (fun _ => True) _ out) := ⟨by (with_reducible apply Kd.R_drew); exact HO5.out⟩
   clear HB5 HO5
   refine start_ (n := 32) (S := fun w' => True) (ds := [31]) #[false, false, false, false, false, false, false, false, false, false, false, false, false, false, false, false, false, false, false, false, false, false, false, false, false, false, false, false, false, false, false, false] (by kernel_rfl) rfl rfl trivial (fun hHeld => ?_)
   generalize World.drew _ = wq0 at HB6 HO6 hHeld ⊢
   refine pure_ (i := 0) (N := some 59) (v := ?_) (a' := ?_) (tB 32 1) rfl rfl (by kernel_rfl) (fun _ _ _ h => h) (Or.inl ⟨by rfl, ?_⟩) ?_ ?_
   rotate_left
   ·intro w'
    go_simp
    with_reducible rfl
   rotate_left
   ·simp only [Act.put, pA, pB, pC, i64_w, i32_w]
    rfl
   refine one_ (i := 1) (N := some 60) (tB 32 3) rfl rfl (by kernel_rfl) (by decide) (fun K hK => ?_)
   refine goes_ Tryz.func75 (by kernel_rfl) rfl #[.int .i64 c1] (by rfl) rfl rfl (by (try simp only [List.map_toArray, List.map_cons, List.map_nil]); first | done | rfl | (simp only [List.length_drop, List.length_take]; rfl)) ?_
   with_reducible refine (spec_IsText.calls c1 true _ HT.out).mono ?_
   rintro e wq1 ⟨rfl, hd⟩
   refine ⟨_, rfl, ?_⟩
   have HB7 := As9.mk (below_step HB6.out hd.below)
   have HO7 := As9.mk (Kd.R_below HO6.out hd.below)
   clear hd HB6 HO6
   refine hK.out _ _ trivial (fun hHeld => ?_)
   clear hK K
   refine norm_ (a' := ?_) ?_ ?_
   rotate_left
   ·show Act.put _ (some 60) _ = _
    simp only [Act.put, pA, pB, pC, i64_w, i32_w]
    rfl
   refine pure_ (i := 2) (N := some 61) (v := ?_) (a' := ?_) (tB 32 7) rfl rfl (by kernel_rfl) (fun _ _ _ h => h) (Or.inl ⟨by rfl, ?_⟩) ?_ ?_
   rotate_left
   ·intro w'
    go_simp
    with_reducible rfl
   rotate_left
   ·simp only [Act.put, pA, pB, pC, i64_w, i32_w]
    rfl
   refine pure_ (i := 3) (N := some 62) (v := ?_) (a' := ?_) (tB 32 15) rfl rfl (by kernel_rfl) (fun _ _ _ h => h) (Or.inl ⟨by rfl, ?_⟩) ?_ ?_
   rotate_left
   ·intro w'
    go_simp
    with_reducible rfl
   rotate_left
   ·simp only [Act.put, pA, pB, pC, i64_w, i32_w]
    rfl
   refine pure_ (i := 4) (N := some 63) (v := ?_) (a' := ?_) (tB 32 31) rfl rfl (by kernel_rfl) (fun _ _ _ h => h) (Or.inl ⟨by rfl, ?_⟩) ?_ ?_
   rotate_left
   ·intro w'
    go_simp
    with_reducible rfl
   rotate_left
   ·simp only [Act.put, pA, pB, pC, i64_w, i32_w]
    rfl
   refine pure_ (i := 5) (N := some 64) (v := ?_) (a' := ?_) (tB 32 63) rfl rfl (by kernel_rfl) (fun _ _ _ h => h) (Or.inl ⟨by rfl, ?_⟩) ?_ ?_
   rotate_left
   ·intro w'
    go_simp
    with_reducible rfl
   rotate_left
   ·simp only [Act.put, pA, pB, pC, i64_w, i32_w]
    rfl
   refine pure_ (i := 6) (N := some 65) (v := ?_) (a' := ?_) (tB 32 127) rfl rfl (by kernel_rfl) (fun _ _ _ h => h) (Or.inl ⟨by rfl, ?_⟩) ?_ ?_
   rotate_left
   ·intro w'
    go_simp
    with_reducible rfl
   rotate_left
   ·simp only [Act.put, pA, pB, pC, i64_w, i32_w]
    rfl
   refine pure_ (i := 7) (N := some 66) (v := ?_) (a' := ?_) (tB 32 255) rfl rfl (by kernel_rfl) (fun _ _ _ h => h) (Or.inl ⟨by rfl, ?_⟩) ?_ ?_
   rotate_left
   ·intro w'
    go_simp
    with_reducible rfl
   rotate_left
   ·simp only [Act.put, pA, pB, pC, i64_w, i32_w]
    rfl
   refine pure_ (i := 8) (N := some 67) (v := ?_) (a' := ?_) (tB 32 511) rfl rfl (by kernel_rfl) (fun _ _ _ h => h) (Or.inl ⟨by rfl, ?_⟩) ?_ ?_
   rotate_left
   ·intro w'
    go_simp
    with_reducible rfl
   rotate_left
   ·simp only [Act.put, pA, pB, pC, i64_w, i32_w]
    rfl
   refine pure_ (i := 9) (N := some 68) (v := ?_) (a' := ?_) (tB 32 1023) rfl rfl (by kernel_rfl) (fun _ _ _ h => h) (Or.inl ⟨by rfl, ?_⟩) ?_ ?_
   rotate_left
   ·intro w'
    go_simp
    with_reducible rfl
   rotate_left
   ·simp only [Act.put, pA, pB, pC, i64_w, i32_w]
    rfl
   refine pure_ (i := 10) (N := some 69) (v := ?_) (a' := ?_) (tB 32 2047) rfl rfl (by kernel_rfl) (fun _ _ _ h => h) (Or.inl ⟨by rfl, ?_⟩) ?_ ?_
   rotate_left
   ·intro w'
    go_simp
    with_reducible rfl
   rotate_left
   ·simp only [Act.put, pA, pB, pC, i64_w, i32_w]
    rfl
   refine pure_ (i := 11) (N := some 70) (v := ?_) (a' := ?_) (tB 32 4095) rfl rfl (by kernel_rfl) (fun _ _ _ h => h) (Or.inl ⟨by rfl, ?_⟩) ?_ ?_
   rotate_left
   ·intro w'
    go_simp
    with_reducible rfl
   rotate_left
   ·simp only [Act.put, pA, pB, pC, i64_w, i32_w]
    rfl
   refine pure_ (i := 12) (N := some 71) (v := ?_) (a' := ?_) (tB 32 8191) rfl rfl (by kernel_rfl) (fun _ _ _ h => h) (Or.inl ⟨by rfl, ?_⟩) ?_ ?_
   rotate_left
   ·intro w'
    go_simp
    with_reducible rfl
   rotate_left
   ·simp only [Act.put, pA, pB, pC, i64_w, i32_w]
    rfl
   refine pure_ (i := 14) (N := some 73) (v := ?_) (a' := ?_) (tB 32 24575) rfl rfl (by kernel_rfl) (fun _ _ _ h => h) (Or.inl ⟨by rfl, ?_⟩) ?_ ?_
   rotate_left
   ·intro w'
    go_simp
    with_reducible rfl
   rotate_left
   ·simp only [Act.put, pA, pB, pC, i64_w, i32_w]
    rfl
   refine pure_ (i := 15) (N := some 74) (v := ?_) (a' := ?_) (tB 32 57343) rfl rfl (by kernel_rfl) (fun _ _ _ h => h) (Or.inl ⟨by rfl, ?_⟩) ?_ ?_
   rotate_left
   ·intro w'
    go_simp
    with_reducible rfl
   rotate_left
   ·simp only [Act.put, pA, pB, pC, i64_w, i32_w]
    rfl
   refine pure_ (i := 16) (N := some 75) (v := ?_) (a' := ?_) (tB 32 122879) rfl rfl (by kernel_rfl) (fun _ _ _ h => h) (Or.inl ⟨by rfl, ?_⟩) ?_ ?_
   rotate_left
   ·intro w'
    go_simp
    with_reducible rfl
   rotate_left
   ·simp only [Act.put, pA, pB, pC, i64_w, i32_w]
    rfl
   refine pure_ (i := 17) (N := some 76) (v := ?_) (a' := ?_) (tB 32 253951) rfl rfl (by kernel_rfl) (fun _ _ _ h => h) (Or.inl ⟨by rfl, ?_⟩) ?_ ?_
   rotate_left
   ·intro w'
    go_simp
    with_reducible rfl
   rotate_left
   ·simp only [Act.put, pA, pB, pC, i64_w, i32_w]
    rfl
   refine pure_ (i := 18) (N := some 77) (v := ?_) (a' := ?_) (tB 32 516095) rfl rfl (by kernel_rfl) (fun _ _ _ h => h) (Or.inl ⟨by rfl, ?_⟩) ?_ ?_
   rotate_left
   ·intro w'
    go_simp
    with_reducible rfl
   rotate_left
   ·simp only [Act.put, pA, pB, pC, i64_w, i32_w]
    rfl
   refine pure_ (i := 19) (N := some 78) (v := ?_) (a' := ?_) (tB 32 1040383) rfl rfl (by kernel_rfl) (fun _ _ _ h => h) (Or.inl ⟨by rfl, ?_⟩) ?_ ?_
   rotate_left
   ·intro w'
    go_simp
    with_reducible rfl
   rotate_left
   ·simp only [Act.put, pA, pB, pC, i64_w, i32_w]
    rfl
   refine one_ (i := 13) (N := some 72) (tB 32 1048575) rfl rfl (by kernel_rfl) (by decide) (fun K hK => ?_)
   refine goes_ Tryz.func61 (by kernel_rfl) rfl #[.int .i64 c1] (by rfl) rfl rfl (by (try simp only [List.map_toArray, List.map_cons, List.map_nil]); first | done | rfl | (simp only [List.length_drop, List.length_take]; rfl)) ?_
   with_reducible refine (spec_PutSign.calls n c1 p _ HP.out).mono ?_
   rintro e wq13 ⟨rfl, hb⟩
   refine ⟨_, rfl, ?_⟩
   have HB8 := As9.mk (below_step HB7.out hb)
   have HO8 := As9.mk (Kd.R_below HO7.out hb)
   clear hb HB7 HO7
   refine hK.out _ _ trivial (fun hHeld => ?_)
   clear hK K
   refine norm_ (a' := ?_) ?_ ?_
   rotate_left
   ·show Act.put _ (some 72) _ = _
    simp only [Act.put, pA, pB, pC, i64_w, i32_w]
    rfl
   refine pure_ (i := 20) (N := some 79) (v := ?_) (a' := ?_) (tB 32 2097151) rfl rfl (by kernel_rfl) (fun _ _ _ h => h) (Or.inl ⟨by rfl, ?_⟩) ?_ ?_
   rotate_left
   ·intro w'
    go_simp
    with_reducible rfl
   rotate_left
   ·simp only [Act.put, pA, pB, pC, i64_w, i32_w]
    rfl
   refine pure_ (i := 21) (N := some 80) (v := ?_) (a' := ?_) (tB 32 4194303) rfl rfl (by kernel_rfl) (fun _ _ _ h => h) (Or.inl ⟨by rfl, ?_⟩) ?_ ?_
   rotate_left
   ·intro w'
    go_simp
    with_reducible rfl
   rotate_left
   ·simp only [Act.put, pA, pB, pC, i64_w, i32_w]
    rfl
   refine pure_ (i := 22) (N := some 81) (v := ?_) (a' := ?_) (tB 32 8388607) rfl rfl (by kernel_rfl) (fun _ _ _ h => h) (Or.inl ⟨by rfl, ?_⟩) ?_ ?_
   rotate_left
   ·intro w'
    go_simp
    with_reducible rfl
   rotate_left
   ·simp only [Act.put, pA, pB, pC, i64_w, i32_w]
    rfl
   refine pure_ (i := 23) (N := some 82) (v := ?_) (a' := ?_) (tB 32 16777215) rfl rfl (by kernel_rfl) (fun _ _ _ h => h) (Or.inl ⟨by rfl, ?_⟩) ?_ ?_
   rotate_left
   ·intro w'
    go_simp
    with_reducible rfl
   rotate_left
   ·simp only [Act.put, pA, pB, pC, i64_w, i32_w]
    rfl
   refine pure_ (i := 24) (N := some 83) (v := ?_) (a' := ?_) (tB 32 33554431) rfl rfl (by kernel_rfl) (fun _ _ _ h => h) (Or.inl ⟨by rfl, ?_⟩) ?_ ?_
   rotate_left
   ·intro w'
    go_simp
    with_reducible rfl
   rotate_left
   ·simp only [Act.put, pA, pB, pC, i64_w, i32_w]
    rfl
   refine one_ (i := 25) (N := some 84) (tB 32 67108863) rfl rfl (by kernel_rfl) (by decide) (fun K hK => ?_)
   refine goes_ Tryz.func69 (by kernel_rfl) rfl #[.string a0, .int .i64 i, .string ⟨#[93, 93, 62]⟩] (by rfl) rfl rfl (by (try simp only [List.map_toArray, List.map_cons, List.map_nil]); first | done | rfl | (simp only [List.length_drop, List.length_take]; rfl)) ?_
   with_reducible refine (spec_l5Stands.calls a0 i ⟨#[93, 93, 62]⟩ false _ HST.out).mono ?_
   rintro e wq25 ⟨rfl, hd⟩
   refine ⟨_, rfl, ?_⟩
   have HB9 := As9.mk (below_step HB8.out hd.below)
   have HO9 := As9.mk (Kd.R_below HO8.out hd.below)
   clear hd HB8 HO8
   refine hK.out _ _ trivial (fun hHeld => ?_)
   clear hK K
   refine norm_ (a' := ?_) ?_ ?_
   rotate_left
   ·show Act.put _ (some 84) _ = _
    simp only [Act.put, pA, pB, pC, i64_w, i32_w]
    rfl
   refine pure_ (i := 26) (N := some 85) (v := ?_) (a' := ?_) (tB 32 134217727) rfl rfl (by kernel_rfl) (fun _ _ _ h => h) (Or.inl ⟨by rfl, ?_⟩) ?_ ?_
   rotate_left
   ·intro w'
    go_simp
    with_reducible rfl
   rotate_left
   ·simp only [Act.put, pA, pB, pC, i64_w, i32_w]
    rfl
   refine pure_ (i := 27) (N := some 86) (v := undef) (a' := ?_) (tB 32 268435455) rfl rfl (by kernel_rfl) (fun _ _ _ h => h) (Or.inr ⟨by rfl, rfl⟩) ?_ ?_
   rotate_left
   ·simp only [Act.put, pA, pB, pC, i64_w, i32_w]
    rfl
   refine one_ (i := 28) (N := some 87) (tB 32 536870911) rfl rfl (by kernel_rfl) (by decide) (fun K hK => ?_)
   show K (Act.put _ (some 87) undef) _
   refine hK.out _ _ trivial (fun hHeld => ?_)
   clear hK K
   refine norm_ (a' := ?_) ?_ ?_
   rotate_left
   ·show Act.put _ (some 87) _ = _
    simp only [Act.put, pA, pB, pC, i64_w, i32_w]
    rfl
   refine pure_ (i := 29) (N := some 88) (v := undef) (a' := ?_) (tB 32 1073741823) rfl rfl (by kernel_rfl) (fun _ _ _ h => h) (Or.inr ⟨by rfl, rfl⟩) ?_ ?_
   rotate_left
   ·simp only [Act.put, pA, pB, pC, i64_w, i32_w]
    rfl
   refine pure_ (i := 30) (N := some 89) (v := ?_) (a' := ?_) (tB 32 2147483647) rfl rfl (by kernel_rfl) (fun _ _ _ h => h) (Or.inl ⟨by rfl, ?_⟩) ?_ ?_
   rotate_left
   ·intro w'
    go_simp
    with_reducible rfl
   rotate_left
   ·simp only [Act.put, pA, pB, pC, i64_w, i32_w]
    rfl
   refine pure_ (i := 31) (N := some 90) (v := ?_) (a' := ?_) (tB 32 4294967295) rfl rfl (by kernel_rfl) (fun _ _ _ h => h) (Or.inl ⟨by rfl, ?_⟩) ?_ ?_
   rotate_left
   ·intro w'
    go_simp
    with_reducible rfl
   rotate_left
   ·simp only [Act.put, pA, pB, pC, i64_w, i32_w]
    rfl
   refine done_ (by kernel_rfl) ?_
   have htx := HTX.out
   clear HTX
   have hcv := print_bytes (P := Tryz.prog) 9 22 5 Tryz.underlying9 Tryz.underlying22 Tryz.underlying5 tx wq25
   have HC5 := As9.mk (txt_C (TxtRow.new wq25 tx (by have := HL.out; omega)))
   have hb5 := (bytes_below (Below.refl wq25.heap.size wq25) (Nat.le_refl _) 5 tx)
   have HOc := As9.mk (Kd.R_below HO9.out hb5)
   have HBc := As9.mk (below_step HB9.out hb5)
   clear hb5 HO9
   rw [bytesOf_length] at HC5
   generalize Lib.bytesWorld wq25 5 tx = w9 at hcv HC5 HOc HBc
   generalize grownCap wq25 tx.size 0 5 = cp at hcv
   go_wp2_with (first | ((with_reducible refine gate_builtin (b := .append) (xs := #[.tmp 91, .tmp 98]) rfl ?_); at_builtin; refine Kd.R_append_rows (Kd.int .u8) (w0 := w) w.heap.size rfl (.tmp 91) (.tmp 98) 22 5 (.int .u8 0) 1 rfl Tryz.underlying22 info5 rfl (by decide) (by omega) _ out (bytesOf tx) _ _ _ (fun _ => True) (fun _ => False) rfl rfl ?aO ?aR (fun _ _ h => h) (fun _ h => h.elim) ?aF ?aB ?aS ?aL ?_; (case aO => exact HOc.out); (case aR => exact HC5.out); (case aF => exact fun _ _ => trivial); (case aB => exact HBc.out); (case aS => exact below_size HBc.out); (case aL => have := HL.out; omega); intro v6 w6 ho hb hg hat; have HOz := As9.mk ho; have HBz := As9.mk hb; clear ho hb hg hat))
   go_roundg n
   case measure => omega
   case rel => exact ⟨_, ni, by first | rfl | rw [← hni], HGN, HOz, HBz⟩
def spec_DrawXmlAttr.f (k : Nat) (l0 : List Int) : Option (ByteArray × Int) := (spec_l18DrawAt.f k l0).bind fun bt369 => (some (bt369.1, bt369.2))
theorem spec_DrawXmlAttr.mono : ∀ a0 k, LeO (spec_DrawXmlAttr.f k a0) (spec_DrawXmlAttr.f (k + 1) a0) := by
 intro a0 k
 unfold spec_DrawXmlAttr.f
 repeat' first
   | (with_reducible exact spec_l18DrawAt.mono _ _)
   | (with_reducible exact LeO.refl _)
   | (with_reducible exact LeO.none _)
   | (with_reducible refine LeO.ite ?_ ?_)
   | (with_reducible refine LeO.bind ?_ (fun _ => ?_))
   | exact spec_l18DrawAt.mono _ _
   | exact LeO.none _
   | refine LeO.ite ?_ ?_
   | refine LeO.bind ?_ (fun _ => ?_)
set_option maxHeartbeats 8000000 in
set_option maxRecDepth 100000 in
theorem spec_DrawXmlAttr.calls (k : Nat) (A0 : Option Addr) (c0 : Nat) (l0 : List Int) (r1 : ByteArray) (r2 : Int) (w : World) (hr0 : Kd.C (Kd.int .u8) w A0 l0.length l0) (hc0 : l0.length ≤ c0) (h : spec_DrawXmlAttr.f k l0 = some (r1, r2)) :
  Calls Tryz.prog 24 #[.slice A0 l0.length c0] w fun e w' => e = .returned (.tuple #[.string r1, .int .i64 r2]) ∧ Below w.heap.size w w' := by
 have HR0 := As9.mk hr0
 have HC0 := As9.mk hc0
 clear hr0 hc0
 have HB := As9.mk (Below.refl w.heap.size w)
 have H : ((spec_l18DrawAt.f k l0).bind fun bt369 => (some (bt369.1, bt369.2))) = some (r1, r2) := h
 clear h
 replace H := Option.bind_eq_some_iff.mp H
 obtain ⟨⟨t369, t370⟩, A20, H⟩ := H
 (try dsimp only at H)
 have A2 := As9.mk A20
 clear A20
 simp only [Option.some.injEq, Prod.mk.injEq] at H
 obtain ⟨rfl, rfl⟩ := H
 go_enter Tryz.func24, Tryz.ntmps24
 go_wp2_with (first | ((with_reducible refine gate_callee (f := 54) rfl ?_); refine goesL_ (some 8) rfl rfl Tryz.func54 (by kernel_rfl) rfl #[.slice A0 l0.length c0] rfl (by (try simp only [List.map_toArray, List.map_cons, List.map_nil]); first | done | rfl | (simp only [List.length_drop, List.length_take]; rfl)) ?_; (with_reducible refine (spec_l18DrawAt.calls k _ _ l0 t369 t370 _ ?side1 ?side2 A2.out).mono ?_); (case side1 => repeat (first | exact HR0.out | (with_reducible refine Kd.C_alloc ?_ _) | (with_reducible refine Kd.C_drewN ?_ _) | (with_reducible refine Kd.C_drew ?_))); (case side2 => exact HC0.out); rintro e w3 ⟨rfl, hb⟩; refine ⟨_, rfl, ?_⟩; have n0_ := As9.mk (below_step (by repeat (first | (with_reducible first | exact HB.out | apply bA9 | apply bN9 | apply bD9) | exact HB.out)) hb); clear HB; have HB := n0_; clear n0_; (try clear hb); (try clear hb2); (try clear hk); (try clear hi)))
 go_ret2
 exact ⟨by first | rfl | (simp <;> rfl) | (simp [*] <;> rfl), by repeat (first | (with_reducible first | exact HB.out | apply bA9 | apply bN9 | apply bD9) | exact HB.out)⟩
abbrev tnB : ByteArray := ⟨#[9, 10]⟩
theorem enc_facts (r : Int) (h : 128 ≤ r) (hv : Utf8.valid r = true) : ∃ rs : ByteArray, Utf8.encode r = rs ∧ 2 ≤ rs.size ∧ rs.size ≤ 4 ∧ ∀ (j : Nat) (hj : j < rs.size), 128 ≤ (rs[j]'hj).toNat := by
 have key : ∀ n : Nat, 128 ≤ n → n < 256 → 128 ≤ (UInt8.ofNat n).toNat := fun n _ h => by simp; omega
 have hm : r.toNat ≤ 1114111 := by
  simp only [Utf8.valid, Bool.or_eq_true, Bool.and_eq_true, decide_eq_true_eq] at hv
  omega
 unfold Utf8.encode
 simp only [hv, if_true]
 rw [if_neg (by omega)]
 split
 ·refine ⟨_, rfl, by show 2 ≤ 2; decide, by show 2 ≤ 4; decide, fun j hj => ?_⟩
  have hj' : j < 2 := hj
  rcases (show j = 0 ∨ j = 1 by omega) with rfl | rfl
  ·exact key _ (by omega) (by omega)
  ·exact key _ (by omega) (by omega)
 ·split
  ·refine ⟨_, rfl, by show 2 ≤ 3; decide, by show 3 ≤ 4; decide, fun j hj => ?_⟩
   have hj' : j < 3 := hj
   rcases (show j = 0 ∨ j = 1 ∨ j = 2 by omega) with rfl | rfl | rfl
   ·exact key _ (by omega) (by omega)
   ·exact key _ (by omega) (by omega)
   ·exact key _ (by omega) (by omega)
  ·refine ⟨_, rfl, by show 2 ≤ 4; decide, by show 4 ≤ 4; decide, fun j hj => ?_⟩
   have hj' : j < 4 := hj
   rcases (show j = 0 ∨ j = 1 ∨ j = 2 ∨ j = 3 by omega) with rfl | rfl | rfl | rfl
   ·exact key _ (by omega) (by omega)
   ·exact key _ (by omega) (by omega)
   ·exact key _ (by omega) (by omega)
   ·exact key _ (by omega) (by omega)
theorem dec_cont (s : ByteArray) (pos : Nat) (h : pos < s.size) (ha : 128 ≤ (s[pos]'h).toNat) :
  ((Utf8.decode s pos).2 = 1) ∨ ((Utf8.decode s pos).2 = 2 ∧ (pos + 1 < s.size ∧ (s.get! (pos + 1)).toNat / 64 = 2)) ∨
  ((Utf8.decode s pos).2 = 3 ∧ (pos + 1 < s.size ∧ (s.get! (pos + 1)).toNat / 64 = 2) ∧ (pos + 2 < s.size ∧ (s.get! (pos + 2)).toNat / 64 = 2)) ∨
  ((Utf8.decode s pos).2 = 4 ∧ (pos + 1 < s.size ∧ (s.get! (pos + 1)).toNat / 64 = 2) ∧ (pos + 2 < s.size ∧ (s.get! (pos + 2)).toNat / 64 = 2) ∧ (pos + 3 < s.size ∧ (s.get! (pos + 3)).toNat / 64 = 2)) := by
 have hn : ¬ (s[pos]'h).toNat < 128 := by omega
 simp only [Utf8.decode, get_at s pos h, hn, if_false]
 repeat' split
 all_goals simp_all
theorem tn_high (b : UInt8) (h : 128 ≤ b.toNat) : tnB.data.toList.contains b = false := by
 have h1 : b ≠ 9 := fun e => by subst e; exact absurd h (by decide)
 have h2 : b ≠ 10 := fun e => by subst e; exact absurd h (by decide)
 simp [tnB, h1, h2]
theorem noAny_dec (s : ByteArray) (i : Nat) (h : i < s.size) (ha : 128 ≤ (s[i]'h).toNat) (hno : Lib.NoAny s.data.toList tnB.data.toList i) :
  Lib.NoAny s.data.toList tnB.data.toList (i + (Utf8.decode s i).2) := by
 have hg : ∀ j (hj : j < s.size), s.get! j = s[j]'hj := fun j hj => by simp [ByteArray.get!, getElem!_pos, hj]; rfl
 have step : ∀ j, j < s.size → 128 ≤ (s.get! j).toNat → Lib.NoAny s.data.toList tnB.data.toList j → Lib.NoAny s.data.toList tnB.data.toList (j + 1) := fun j hj hb hn =>
  hn.succ (Lib.data_getElem? s j hj) (tn_high _ (by rw [← hg j hj]; exact hb))
 have h1 := step i h (by rw [hg i h]; exact ha) hno
 rcases dec_cont s i h ha with e | ⟨e, c1⟩ | ⟨e, c1, c2⟩ | ⟨e, c1, c2, c3⟩ <;> rw [e]
 ·exact h1
 ·exact step _ c1.1 (by omega) h1
 ·exact step _ c2.1 (by omega) (step _ c1.1 (by omega) h1)
 ·exact step _ c3.1 (by omega) (step _ c2.1 (by omega) (step _ c1.1 (by omega) h1))
set_option maxHeartbeats 8000000 in
set_option maxRecDepth 1000000 in
theorem indexRune_tn (r : Int) (h0 : 128 ≤ r) (h1 : r ≤ 2147483647) (w : World) :
  Calls Tryz.prog 158 #[.string tnB, .int .i32 r] w fun e w' => e = .returned (.int .i64 (-1)) ∧ Below w.heap.size w w' := by
 have HB := As9.mk (Below.refl w.heap.size w)
 have b0 : decide (r < 128) = false := decide_eq_false (by omega)
 have b1 : decide (0 ≤ r) = true := decide_eq_true (by omega)
 have b2 : ((0 : Int) ≤ r) = True := eq_true (by omega)
 have b3 : (r < 128) = False := eq_false (by omega)
 by_cases c : r = 65533
 ·have cb : (r == 65533) = true := beq_iff_eq.mpr c
  clear c h0 h1
  go_enter Tryz.func158, Tryz.ntmps158
  go_wp2
  go_loopg [5, 6] 2 (fun g _ _ wx => ∃ i : Nat, i + g = 2 ∧ wx = w.iter tnB i)
  case atStart => exact ⟨0, by omega, rfl⟩
  case round =>
   obtain ⟨i, hig, rfl⟩ := hrel
   cases gk with
   | zero =>
    obtain rfl : i = 2 := by omega
    have hnx := run_next_end (P := Tryz.prog) w tnB 2
    go_wp2
    go_ret
    exact ⟨rfl, (Below.refl _ _).alloc (Nat.le_refl _) _⟩
   | succ g =>
    have hi : i < tnB.size := by show i < 2; omega
    have hx128 : (tnB[i]'hi).toNat < 128 := by
     rcases (show i = 0 ∨ i = 1 by omega) with rfl | rfl
     ·exact (by decide : (9 : UInt8).toNat < 128)
     ·exact (by decide : (10 : UInt8).toNat < 128)
    have hq : (((tnB[i]'hi).toNat : Int) == 65533) = false := by
     rcases (show i = 0 ∨ i = 1 by omega) with rfl | rfl
     ·exact (by decide : (((9 : UInt8).toNat : Int) == 65533) = false)
     ·exact (by decide : (((10 : UInt8).toNat : Int) == 65533) = false)
    have hnx := fun ty => run_next_ascii (P := Tryz.prog) w tnB i ty hi hx128
    generalize tnB[i]'hi = x at *
    go_wp2
    go_roundg g
    case measure => omega
    case rel => exact ⟨i + 1, by omega, rfl⟩
 ·have cb : (r == 65533) = false := beq_eq_false_iff_ne.mpr c
  have hval := Tryz.utf8_ValidRune r
  clear c
  cases hv : Lib.validRune r with
  | false =>
   clear h0 h1
   go_enter Tryz.func158, Tryz.ntmps158
   go_wp2_with ((go_at_call 189; (with_reducible refine (Tryz.utf8_ValidRune r _).mono ?_); rintro e w' ⟨rfl, hw⟩; rw [hw, hv]))
   go_ret
   exact ⟨rfl, by repeat (first | (with_reducible first | exact HB.out | apply bA9 | apply bN9 | apply bD9) | exact HB.out)⟩
  | true =>
   obtain ⟨rs, hrs, hs2, hs4, hrb⟩ := enc_facts r h0 (by
    simp only [Lib.validRune, decide_eq_true_eq] at hv
    simp only [Utf8.valid, Bool.or_eq_true, Bool.and_eq_true, decide_eq_true_eq]
    omega)
   go_enter Tryz.func158, Tryz.ntmps158
   go_wp2_with ((go_at_call 189; (with_reducible refine (Tryz.utf8_ValidRune r _).mono ?_); rintro e w' ⟨rfl, hw⟩; rw [hw, hv]))
   go_step3
   have hs1 : 1 < rs.size := by omega
   have hr1 : ¬ (rs[1]'hs1).toNat < 128 := by have := hrb 1 hs1; omega
   obtain ⟨x1, hx1⟩ : ∃ x : UInt8, rs[1]'hs1 = x := ⟨_, rfl⟩
   rw [hx1] at hr1
   have hwz : wrap64 ((rs.size : Int) - 1) = (rs.size : Int) - 1 := by unfold wrap64; omega
   by_cases c2 : rs.size = 2
   ·have HR : Aside (∀ (j : Nat) (hj : j < rs.size), 128 ≤ (rs[j]'hj).toNat) := hrb
    have hq1 : ((10 : Int) == (x1.toNat : Int)) = false := beq_eq_false_iff_ne.mpr (by omega)
    have hq2 : (((tnB[1]'(by decide)).toNat : Int) != (x1.toNat : Int)) = true := by
     show (!((10 : Int) == (x1.toNat : Int))) = true
     rw [hq1]; rfl
    clear hrb hs2 hs4
    go_wp2
    go_loopg [9] 0 (fun _ v wx => v = .int .i64 1 ∧ wx = w)
    case atStart => exact ⟨rfl, rfl⟩
    case round =>
     obtain ⟨rfl, rfl⟩ := hrel
     go_wp2
     go_step3
     go_wp2
     go_quiet (fail)
     go_wp2
     have he2 : tnB.extract 2 2 = ByteArray.empty := rfl
     go_quiet (first | (go_at_call 64; (with_reducible refine (strings_IndexByte.calls ByteArray.empty (x1.toNat : Int) (-1) _ rfl).mono ?_); rintro e w' ⟨rfl, ⟨nd, rfl⟩⟩; (try first | exact ⟨rfl, _, World.drewN_drewN _ _ _⟩ | exact ⟨rfl, _, Eq.trans (World.drewN_drewN _ _ _) (congrArg (World.drewN _) (Nat.add_assoc _ _ _))⟩)))
     go_wp2
     simp only [Exit.noGoto, Exit.inBlock, Exit.then]
     go_ret
     exact ⟨rfl, by repeat (first | (with_reducible first | exact HB.out | apply bA9 | apply bN9 | apply bD9) | exact HB.out)⟩
   ·have c3 : decide ((rs.size : Int) - 1 < 2) = false := decide_eq_false (by omega)
    clear hrb hs2 hs4 c2
    go_wp2
    go_loopg [9] 0 (fun _ v wx => v = .int .i64 (wrap64 ((rs.size : Int) - 1)) ∧ wx = w)
    case atStart => exact ⟨rfl, rfl⟩
    case round =>
     obtain ⟨rfl, rfl⟩ := hrel
     go_wp2
     rw [Exit.noGoto_ret]
     go_ret
     exact ⟨rfl, Below.refl _ _⟩
set_option maxHeartbeats 8000000 in
set_option maxRecDepth 1000000 in
theorem indexAny_tn_short (s : ByteArray) (w : World) (h8 : s.size ≤ 8) :
  Calls Tryz.prog 126 #[.string s, .string tnB] w fun e w' => e = .returned (.int .i64 (Lib.indexAny s.data.toList tnB.data.toList)) ∧ Below w.heap.size w w' := by
 have h8z : decide ((8 : Int) < (s.size : Int)) = false := decide_eq_false (by omega)
 have hw0 := As9.mk (((Below.refl w.heap.size w).alloc (Nat.le_refl _) (.stringIter s 0)))
 have hw1 : Aside ((w.iter s 0).heap[w.heap.size]? = some (.stringIter s 0)) := w.iter_heap s 0
 go_enter Tryz.func126, Tryz.ntmps126
 go_wp2_with ((go_at_call 159; (with_reducible refine (Tryz.strings_shouldUseASCIISet _ _).mono ?_); rintro e w' ⟨rfl, hw⟩; rw [hw, h8z]))
 go_loopg [9, 10] s.size (fun g _ _ wx => ∃ i : Nat, g = s.size - i ∧ Lib.NoAny s.data.toList tnB.data.toList i ∧ i ≤ s.size ∧ Below w.heap.size w wx ∧ wx.heap[w.heap.size]? = some (.stringIter s i))
 case atStart => exact ⟨0, by omega, Lib.NoAny.zero _ _, by omega, hw0.out, hw1.out⟩
 case round =>
  obtain ⟨i, hig, hno, hile, hb, hk⟩ := hrel
  have HN : Aside (Lib.NoAny s.data.toList tnB.data.toList i) := hno
  have HBl := As9.mk hb
  have HK : Aside (wr.heap[w.heap.size]? = some (.stringIter s i)) := hk
  have hwk : w.heap.size < wr.heap.size := (Array.getElem?_eq_some_iff.1 hk).1
  clear hno hb
  by_cases hi : i < s.size
  ·have hbi := Lib.below_iterAt (HBl.out) (Nat.le_refl w.heap.size) s
   have hii := fun p => Lib.iterAt_heap wr w.heap.size s i p hk
   by_cases hx128 : (s[i]'hi).toNat < 128
   ·have hnx := fun ty => Lib.run_next_ascii_at (P := Tryz.prog) wr w.heap.size s i ty hk hi hx128
    obtain ⟨x, hx⟩ : ∃ x : UInt8, s[i]'hi = x := ⟨_, rfl⟩
    have hxl : s.data.toList[i]? = some x := by rw [← hx]; exact Lib.data_getElem? s i hi
    rw [hx] at hnx hx128
    have Hx : Aside (s.data.toList[i]? = some x) := hxl
    have HB2 := As9.mk (hbi (i + 1))
    have HI2 : Aside ((wr.iterAt w.heap.size s (i + 1)).heap[w.heap.size]? = some (.stringIter s (i + 1))) := hii _
    clear hxl hx hbi hii hk
    have hcon := Lib.contains_iff_indexByte tnB.data.toList x
    have hback : ((x.toNat : Int)).toNat.toUInt8 = x := by simp
    cases hin : tnB.data.toList.contains x
    ·rw [hin] at hcon
     have hlt : ¬ ((0 : Int) ≤ Lib.indexByte tnB.data.toList x) := of_decide_eq_false hcon.symm
     clear hcon
     go_wp2_with (go_at_call 158; refine (Tryz.strings_IndexRune_ascii _ _ _ (by omega) (by omega)).mono ?_; rintro e w' ⟨rfl, hw⟩; rw [hw, hback])
     go_roundg (s.size - (i + 1))
     case measure => omega
     case rel => exact ⟨i + 1, rfl, HN.out.succ Hx.out hin, by omega, HB2.out, HI2.out⟩
    ·rw [hin] at hcon
     have hge : (0 : Int) ≤ Lib.indexByte tnB.data.toList x := of_decide_eq_true hcon.symm
     clear hcon
     go_wp2_with (go_at_call 158; refine (Tryz.strings_IndexRune_ascii _ _ _ (by omega) (by omega)).mono ?_; rintro e w' ⟨rfl, hw⟩; rw [hw, hback])
     go_ret
     exact ⟨by rw [Lib.indexAny_hit HN.out Hx.out hin]; rfl, HB2.out⟩
   ·have hnx := fun ty => Lib.run_next_any_at (P := Tryz.prog) wr w.heap.size s i ty hk hi
    have hd := decode_high s i hi (by omega)
    have hl := decode_le s i
    have HN2 : Aside (Lib.NoAny s.data.toList tnB.data.toList (i + (Utf8.decode s i).2)) := noAny_dec s i hi (by omega) HN.out
    have hle2 : i + (Utf8.decode s i).2 ≤ s.size := by
     rcases dec_cont s i hi (by omega) with e | ⟨e, c1⟩ | ⟨e, c1, c2⟩ | ⟨e, c1, c2, c3⟩ <;> rw [e] <;> omega
    have HB2 := As9.mk (hbi (i + (Utf8.decode s i).2))
    have HI2 : Aside ((wr.iterAt w.heap.size s (i + (Utf8.decode s i).2)).heap[w.heap.size]? = some (.stringIter s (i + (Utf8.decode s i).2))) := hii _
    obtain ⟨d1, hd1⟩ : ∃ n, (Utf8.decode s i).1 = n := ⟨_, rfl⟩
    obtain ⟨d2, hd2⟩ : ∃ n, i + (Utf8.decode s i).2 = n := ⟨_, rfl⟩
    have hi2 : i + 1 ≤ d2 := by omega
    rw [hd1] at hnx hd hl
    rw [hd2] at hnx HN2 hle2 HB2 HI2
    have hzz : wr.heap.size = (wr.iterAt w.heap.size s d2).heap.size := (Lib.iterAt_size _ _ _ _).symm
    clear hbi hii hk hd1 hd2
    have hd0 := hd.1
    clear hd
    generalize wr.iterAt w.heap.size s d2 = wi at *
    go_wp2_with (go_at_call 158; refine (indexRune_tn (d1 : Int) (by omega) (by omega) _).mono ?_; rintro e w' ⟨rfl, hw3⟩)
    go_roundg (s.size - d2)
    case measure => omega
    case rel => exact ⟨d2, rfl, HN2.out, hle2, HB2.out.trans (hw3.mono (by omega)), (hw3.block _ (by omega)).trans HI2.out⟩
  ·have hnx := fun ty => Lib.run_next_end_at (P := Tryz.prog) wr w.heap.size s i ty hk hi
   clear hk
   obtain rfl : i = s.size := by omega
   go_wp2
   go_ret
   exact ⟨by rw [Lib.indexAny_none (by rw [← Lib.size_eq]; exact HN.out)]; rfl, HBl.out⟩
def strings_ContainsAny.f (a0 : ByteArray) (a1 : ByteArray) : Option Bool := if a1 = tnB ∧ a0.size < 4294967281 then some (Lib.containsAny a0.data.toList a1.data.toList) else none
theorem indexAny_tn (s : ByteArray) (w : World) (hs : s.size < 4294967281) :
  Calls Tryz.prog 126 #[.string s, .string tnB] w fun e w' => e = .returned (.int .i64 (Lib.indexAny s.data.toList tnB.data.toList)) ∧ Below w.heap.size w w' := by
 by_cases h8 : s.size ≤ 8
 ·exact indexAny_tn_short s w h8
 ·refine (Tryz.strings_IndexAny_long ?_ s tnB w (by decide) (by omega) hs (by decide) (fun j b hb => by
   have hm := List.mem_of_getElem? hb
   simp [tnB] at hm
   rcases hm with rfl | rfl <;> decide)).mono ?_
  ·exact (zero_of_info (P := Tryz.prog) (by kernel_rfl : _ = some (some (.agg (Array.replicate 256 (.bool false))), 256))).1
  ·rintro e w' ⟨rfl, rfl⟩
   exact ⟨rfl, ((Below.refl _ _).alloc (Nat.le_refl _) _).alloc (by simp) _⟩
set_option maxHeartbeats 8000000 in
set_option maxRecDepth 1000000 in
theorem strings_ContainsAny.calls (a0 : ByteArray) (a1 : ByteArray) (r : Bool) (w : World) (h : strings_ContainsAny.f a0 a1 = some r) :
  Calls Tryz.prog 77 #[.string a0, .string a1] w fun e w' => e = .returned (.bool r) ∧ Below w.heap.size w w' := by
 unfold strings_ContainsAny.f at h
 split at h
 ·next hc =>
  obtain ⟨rfl, hs⟩ := hc
  obtain rfl := Option.some.inj h
  clear h
  have HS : Aside (a0.size < 4294967281) := hs
  clear hs
  go_enter Tryz.func77, Tryz.ntmps77
  go_wp2_with (go_at_call 126; refine (indexAny_tn a0 _ HS.out).mono ?_; rintro e w' ⟨rfl, hw3⟩)
  go_ret
  exact ⟨rfl, hw3⟩
 ·exact nomatch h
end Go.Proofs.YtkmmoheeoblmnaaGreatDoor.A
