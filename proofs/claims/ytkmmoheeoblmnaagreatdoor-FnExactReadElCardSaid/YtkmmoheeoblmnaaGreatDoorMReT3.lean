-- joined by wip/tools/shake.py
import Derived.Test.YtkmmoheeoblmnaaGreatDoorVReTW9
import Derived.Test.YtkmmoheeoblmnaaGreatDoorMReT0
import Derived.Test.YtkmmoheeoblmnaaGreatDoorMReT1
import Derived.Test.YtkmmoheeoblmnaaGreatDoorMReT2
set_option maxHeartbeats 16000000
set_option maxRecDepth 100000
namespace Go.Proofs.YtkmmoheeoblmnaaGreatDoor.A
open Go.RowKit Go.Proofs.YtkmmoheeoblmnaaGreatDoorW.PrintWords Go.Proofs.YtkmmoheeoblmnaaGreatDoorW.PrintLast Go.Proofs.YtkmmoheeoblmnaaGreatDoorW.PrintMore
attribute [local go_sem] max2_int min2_int max_two min_two max_three min_three max_four min_four
set_option linter.unusedVariables false
set_option linter.unusedSimpArgs false
theorem set_last {α : Type} (l : List α) (a b : α) : (l ++ [a]).set l.length b = l ++ [b] := by simp [List.set_append]
theorem set6 {w w9 : World} {g : Nat} (hb : Below w.heap.size w w9) (hg : w.heap.size ≤ g) (v0 v1 v2 v3 v4 v5 : Value) :
  Below w.heap.size w ((((((w9.setCell ⟨g, 0, none⟩ v0).setCell ⟨g, 1, none⟩ v1).setCell ⟨g, 2, none⟩ v2).setCell ⟨g, 3, none⟩ v3).setCell ⟨g, 4, none⟩ v4).setCell ⟨g, 5, none⟩ v5) := below_six hb hg _ _ _ _ _ _
mutual
def readEl : Nat → Int → Int → ByteArray → Int → Bool → Option (S43 × ByteArray × Int × Bool)
 | 0, _, _, _, _, _ => none
 | n + 1, about, deep, s, p, b =>
  if deep < 1 then some (z43, s, p, true) else
  (impl_reader_take.f s p b ⟨#[60]⟩).bind fun t1 => (impl_reader_name.f n t1.1 t1.2.1 t1.2.2).bind fun q => (impl_reader_attrs.f n about about q.2.1 q.2.2.1 q.2.2.2).bind fun a =>
  (impl_reader_is.f a.2.2.1 a.2.2.2.1 a.2.2.2.2 ⟨#[47, 62]⟩).bind fun t => if t.1 = true then
   (impl_reader_take.f t.2.1 t.2.2.1 t.2.2.2 ⟨#[47, 62]⟩).bind fun t2 => some (⟨1, a.2.1, q.1, a.1, ⟨#[]⟩, []⟩, t2)
  else (impl_reader_take.f t.2.1 t.2.2.1 t.2.2.2 ⟨#[62]⟩).bind fun t3 => (kidsL n a.2.1 deep t3.1 t3.2.1 t3.2.2 []).bind fun ks =>
   if q.1.size ≤ 140737488351232 then (impl_reader_take.f ks.2.1 ks.2.2.1 ks.2.2.2 ((⟨#[60, 47]⟩ ++ q.1) ++ ⟨#[62]⟩)).bind fun t4 => some (⟨1, a.2.1, q.1, a.1, ⟨#[]⟩, ks.1⟩, t4) else none
def kidsL : Nat → Int → Int → ByteArray → Int → Bool → List S43 → Option (List S43 × ByteArray × Int × Bool)
 | 0, _, _, _, _, _, _ => none
 | n + 1, sp, deep, s, p, b, kids => if b = true then some (kids, s, p, b) else
  (impl_reader_is.f s p b ⟨#[60, 47]⟩).bind fun t => if t.1 = true then some (kids, t.2) else
   (readKid n sp (wrap64 (deep - 1)) t.2.1 t.2.2.1 t.2.2.2).bind fun kd => if kids.length < 1000000000000 then kidsL n sp deep kd.2.1 kd.2.2.1 kd.2.2.2 (kids ++ [kd.1]) else none
def readKid : Nat → Int → Int → ByteArray → Int → Bool → Option (S43 × ByteArray × Int × Bool)
 | 0, _, _, _, _, _ => none
 | n + 1, about, deep, s, p, b => (impl_reader_is.f s p b ⟨#[60, 33, 45, 45]⟩).bind fun t => if t.1 = true then
   (impl_reader_note.f n t.2.1 t.2.2.1 t.2.2.2).bind fun q => some (⟨q.1, 0, ⟨#[]⟩, [], q.2.1, []⟩, q.2.2)
  else (impl_reader_is.f t.2.1 t.2.2.1 t.2.2.2 ⟨#[60]⟩).bind fun t2 => if t2.1 = true then readEl n about deep t2.2.1 t2.2.2.1 t2.2.2.2
  else (impl_reader_text.f n t2.2.1 t2.2.2.1 t2.2.2.2).bind fun q => some (⟨q.1, 0, ⟨#[]⟩, [], q.2.1, []⟩, q.2.2)
end
theorem readEl_mono_all : ∀ k, (∀ y0 y1 y2 y3 y4, LeO (readEl k y0 y1 y2 y3 y4) (readEl (k + 1) y0 y1 y2 y3 y4)) ∧ (∀ y0 y1 y2 y3 y4 y5, LeO (kidsL k y0 y1 y2 y3 y4 y5) (kidsL (k + 1) y0 y1 y2 y3 y4 y5)) ∧ (∀ y0 y1 y2 y3 y4, LeO (readKid k y0 y1 y2 y3 y4) (readKid (k + 1) y0 y1 y2 y3 y4))
 | 0 => ⟨fun _ _ _ _ _ r h => by simp [readEl] at h, fun _ _ _ _ _ _ r h => by simp [kidsL] at h, fun _ _ _ _ _ r h => by simp [readKid] at h⟩
 | k + 1 => by
  obtain ⟨i1, i2, i3⟩ := readEl_mono_all k;refine ⟨fun y0 y1 y2 y3 y4 => ?_, fun y0 y1 y2 y3 y4 y5 => ?_, fun y0 y1 y2 y3 y4 => ?_⟩
  ·rw [readEl, readEl];exact LeO.ite (LeO.refl _) (LeO.bind (LeO.refl _) fun t1 => LeO.bind (impl_reader_name.mono _ _ _ _) fun q => LeO.bind (impl_reader_attrs.mono _ _ _ _ _ _) fun a => LeO.bind (LeO.refl _) fun t => LeO.ite (LeO.refl _) (LeO.bind (LeO.refl _) fun t3 => LeO.bind (i2 _ _ _ _ _ _) fun ks => LeO.refl _))
  ·rw [kidsL, kidsL];exact LeO.ite (LeO.refl _) (LeO.bind (LeO.refl _) fun t => LeO.ite (LeO.refl _) (LeO.bind (i3 _ _ _ _ _) fun kd => LeO.ite (i2 _ _ _ _ _ _) (LeO.refl _)))
  ·rw [readKid, readKid];exact LeO.bind (LeO.refl _) fun t => LeO.ite (LeO.bind (impl_reader_note.mono _ _ _ _) fun q => LeO.refl _) (LeO.bind (LeO.refl _) fun t2 => LeO.ite (i1 _ _ _ _ _) (LeO.bind (impl_reader_text.mono _ _ _ _) fun q => LeO.refl _))
structure G43 where
 f0 : Int
 f1 : Int
 f2 : ByteArray
 f3 : (List S36)
 f4 : ByteArray
 f5 : (List G43)
 b3 : Value
 b5 : Value
def zG : G43 := ⟨0, 0, ⟨#[]⟩, [], ⟨#[]⟩, [], .slice none 0 0, .slice none 0 0⟩
mutual
def er : G43 → S43
 | ⟨a, b, c, d, f, ks, _, _⟩ => ⟨a, b, c, d, f, erL ks⟩
def erL : List G43 → List S43
 | [] => []
 | x :: xs => er x :: erL xs
end
theorem erL_map : ∀ xs : List G43, erL xs = xs.map er
 | [] => by rw [erL, List.map_nil]
 | x :: xs => by rw [erL, List.map_cons, erL_map xs]
theorem erL_len (xs : List G43) : (erL xs).length = xs.length := by rw [erL_map, List.length_map]
theorem erL_append (a b : List G43) : erL (a ++ b) = erL a ++ erL b := by rw [erL_map, erL_map, erL_map, List.map_append]
theorem erL_one (a : G43) : erL [a] = [er a] := by rw [erL, erL]
mutual
def tb : G43 → List Nat
 | ⟨_, _, _, _, _, ks, b3, b5⟩ => b3.ownBlock.toList ++ (b5.ownBlock.toList ++ tbL ks)
def tbL : List G43 → List Nat
 | [] => []
 | x :: xs => tb x ++ tbL xs
end
theorem tbL_append : ∀ a b : List G43, tbL (a ++ b) = tbL a ++ tbL b
 | [], b => by rw [List.nil_append, tbL, List.nil_append]
 | x :: a, b => by rw [List.cons_append, tbL, tbL, tbL_append a b, List.append_assoc]
theorem tbL_one (x : G43) : tbL [x] = tb x := by rw [tbL, tbL, List.append_nil]
def lab {α β : Type} (d : Kd α) (f : β → α) (p : β → List Value → Prop) : Kd β where
 sz := d.sz
 E := d.E
 K := fun w x cs => d.K w (f x) cs
 M := fun w base ok x cs => d.M w base ok (f x) cs ∧ p x cs
 K_len := d.K_len
 K_one := d.K_one
 K_below := d.K_below
 K_of_M := fun h => d.K_of_M h.1
 M_mono := fun hk h => ⟨d.M_mono hk h.1, h.2⟩
 M_bound := fun h => ⟨d.M_bound h.1, h.2⟩
 M_move := fun hk h => ⟨d.M_move hk h.1, h.2⟩
 M_lower := fun hk h => ⟨d.M_lower hk h.1, h.2⟩
theorem mono_lab {α β γ : Type} {G : Kd α → Kd β} (f : γ → β) (p : γ → List Value → Prop) (hG : Kd.Mono G) : Kd.Mono (fun d => lab (G d) f p) :=
 ⟨hG.sz, fun d d' hs h w x cs => hG.K d d' hs h w (f x) cs, fun d d' hs h w base ok x cs hm => ⟨hG.M d d' hs h w base ok (f x) cs hm.1, hm.2⟩⟩
theorem sub_lab {α β γ : Type} {E : List Nat} {G : Kd α → Kd β} (f : γ → β) (p : γ → List Value → Prop) (hG : Kd.Sub G E) : Kd.Sub (fun d => lab (G d) f p) E := hG
abbrev PG (x : G43) (cs : List Value) : Prop := ∃ u0 u1 u2 u3 u4 u5, cs = [u0, u1, u2, u3, u4, u5] ∧ u3 = x.b3 ∧ u5 = x.b5
def FG (d : Kd G43) : Kd G43 := lab (Kd.pair (Kd.int .i64) (Kd.pair (Kd.int .i64) (Kd.pair Kd.string (Kd.pair (Kd.slice 36 k36) (Kd.pair Kd.string (Kd.slice 43 d)))))) (fun x => (x.f0, x.f1, x.f2, x.f3, x.f4, x.f5)) PG
theorem monoG : Kd.Mono FG := mono_lab _ _ (Kd.mono_pair (Kd.mono_const _) (Kd.mono_pair (Kd.mono_const _) (Kd.mono_pair (Kd.mono_const _) (Kd.mono_pair (Kd.mono_const _) (Kd.mono_pair (Kd.mono_const _) (Kd.mono_slice 43 Kd.mono_id))))))
theorem subG : Kd.Sub FG [36, 43] := sub_lab _ _ (Kd.sub_pair (Kd.sub_const _ de_) (Kd.sub_pair (Kd.sub_const _ de_) (Kd.sub_pair (Kd.sub_const _ de_) (Kd.sub_pair (Kd.sub_const _ de_) (Kd.sub_pair (Kd.sub_const _ de_) (Kd.sub_slice 43 de_ Kd.sub_id))))))
theorem szG : ∀ n, (Kd.upto FG 6 [36, 43] n).sz = 6 := Kd.upto_sz (fun _ => rfl)
def kG : Kd G43 := Kd.fix FG 6 [36, 43] szG (Kd.upto_E subG)
theorem kG_openM {w : World} {base : Nat} {ok : Nat → Prop} {x : G43} {cs : List Value} (h : kG.M w base ok x cs) : ∃ v3 v5, cs = [.int .i64 x.f0, .int .i64 x.f1, .string x.f2, v3, .string x.f4, v5] ∧ k36.R 36 w base ok v3 x.f3 ∧ kG.R 43 w base ok v5 x.f5 ∧ v3 = x.b3 ∧ v5 = x.b5 := by
 obtain ⟨n, h⟩ := h;cases n with
 | zero => exact h.elim
 | succ n =>
  obtain ⟨⟨_, _, rfl, rfl, ⟨_, _, rfl, rfl, ⟨_, _, rfl, rfl, ⟨_, _, rfl, ⟨v3, rfl, g3⟩, ⟨_, _, rfl, rfl, ⟨v5, rfl, g5⟩⟩⟩⟩⟩⟩, u0, u1, u2, u3, u4, u5, e, h3, h5⟩ := h;obtain ⟨_, _, _, rfl, _, rfl⟩ : _ ∧ _ ∧ _ ∧ v3 = u3 ∧ _ ∧ v5 = u5 := by simpa using e
  exact ⟨v3, v5, rfl, g3, Kd.fix_R g5, h3, h5⟩
theorem kG_mkM (w : World) (base : Nat) (ok : Nat → Prop) (x : G43) {v3 : Value} (g3 : k36.R 36 w base ok v3 x.f3) {v5 : Value} (g5 : kG.R 43 w base ok v5 x.f5) (h3 : v3 = x.b3) (h5 : v5 = x.b5) : kG.M w base ok x [.int .i64 x.f0, .int .i64 x.f1, .string x.f2, v3, .string x.f4, v5] := by
 obtain ⟨n5, q5⟩ := Kd.fix_R_back monoG g5;exact ⟨n5 + 1, ⟨[.int .i64 x.f0], [.int .i64 x.f1, .string x.f2, v3, .string x.f4, v5], rfl, rfl, ⟨[.int .i64 x.f1], [.string x.f2, v3, .string x.f4, v5], rfl, rfl, ⟨[.string x.f2], [v3, .string x.f4, v5], rfl, rfl, ⟨[v3], [.string x.f4, v5], rfl, ⟨v3, rfl, g3⟩, ⟨[.string x.f4], [v5], rfl, rfl, ⟨v5, rfl, q5⟩⟩⟩⟩⟩⟩, _, _, _, _, _, _, rfl, h3, h5⟩
theorem R_map {α β : Type} {d : Kd α} {d' : Kd β} (g : α → β) (hs : d.sz = d'.sz) (h : ∀ w base ok x cs, d.M w base ok x cs → d'.M w base ok (g x) cs) {e : Nat} {w : World} {base : Nat} {ok : Nat → Prop} {v : Value} {xs : List α} (hr : d.R e w base ok v xs) : d'.R e w base ok v (xs.map g) := by
 obtain ⟨h0, inner, ho, h1, h2⟩ := hr;refine ⟨h0, inner, ?_, ?_, ?_⟩
 ·rw [← hs, List.length_map]; exact ho
 ·rw [← hs, List.length_map]; exact h1
 ·intro j p hp;rw [List.getElem?_map] at hp;obtain ⟨q, hq, rfl⟩ := Option.map_eq_some_iff.mp hp;rw [← hs];exact h _ _ _ _ _ (h2 j q hq)
theorem upto_er : ∀ (n : Nat) (w : World) (base : Nat) (ok : Nat → Prop) (x : G43) (cs : List Value), (Kd.upto FG 6 [36, 43] n).M w base ok x cs → (Kd.upto F43 6 [36, 43] n).M w base ok (er x) cs := by
 intro n;induction n with
 | zero => exact fun _ _ _ _ _ h => h.elim
 | succ n ih =>
  intro w base ok x cs h;obtain ⟨a, b, c, d, f, ks, b3, b5⟩ := x;obtain ⟨⟨_, _, rfl, rfl, ⟨_, _, rfl, rfl, ⟨_, _, rfl, rfl, ⟨_, _, rfl, ⟨v3, rfl, g3⟩, ⟨_, _, rfl, rfl, ⟨v5, rfl, g5⟩⟩⟩⟩⟩⟩, _⟩ := h;have q5 := R_map (d := Kd.upto FG 6 [36, 43] n) (d' := Kd.upto F43 6 [36, 43] n) er ((szG n).trans (sz43 n).symm) ih g5;rw [← erL_map] at q5;rw [er];exact ⟨[.int .i64 a], _, rfl, rfl, ⟨[.int .i64 b], _, rfl, rfl, ⟨[.string c], _, rfl, rfl, ⟨[v3], _, rfl, ⟨v3, rfl, g3⟩, ⟨[.string f], _, rfl, rfl, ⟨v5, rfl, q5⟩⟩⟩⟩⟩⟩
theorem kG_er {w : World} {base : Nat} {ok : Nat → Prop} {x : G43} {cs : List Value} (h : kG.M w base ok x cs) : k43.M w base ok (er x) cs := by
 obtain ⟨n, h⟩ := h;exact ⟨n, upto_er n _ _ _ _ _ h⟩
theorem kG_erR {w : World} {base : Nat} {ok : Nat → Prop} {v : Value} {xs : List G43} (h : kG.R 43 w base ok v xs) : k43.R 43 w base ok v (erL xs) := by
 rw [erL_map];exact R_map (d := kG) (d' := k43) er rfl (fun _ _ _ _ _ h => kG_er h) h
theorem R_each {α : Type} {d : Kd α} {e : Nat} {w : World} {base : Nat} {ok : Nat → Prop} {v : Value} {xs : List α} (h : d.R e w base ok v xs) : ∀ x ∈ xs, ∃ cs, d.M w base (fun k => ok k ∧ some k ≠ v.ownBlock) x cs := by
 obtain ⟨_, inner, _, _, h2⟩ := h;intro x hx;obtain ⟨j, hj⟩ := List.getElem?_of_mem hx;exact ⟨_, h2 j x hj⟩
mutual
theorem tb_ok : ∀ (x : G43) {w : World} {base : Nat} {ok : Nat → Prop} {cs : List Value}, kG.M w base ok x cs → ∀ b ∈ tb x, ok b
 | ⟨a, b, c, d, f, ks, b3, b5⟩, w, base, ok, cs, h => by
  obtain ⟨v3, v5, _, g3, g5, h3, h5⟩ := kG_openM h;have hk := tbL_ok ks (R_each g5);intro q hq;rw [tb] at hq;rcases List.mem_append.1 hq with hq | hq
  ·exact g3.1 q (h3 ▸ Option.mem_toList.1 hq)
  rcases List.mem_append.1 hq with hq | hq
  ·exact g5.1 q (h5 ▸ Option.mem_toList.1 hq)
  ·exact (hk q hq).1
theorem tbL_ok : ∀ (xs : List G43) {w : World} {base : Nat} {ok : Nat → Prop}, (∀ x ∈ xs, ∃ cs, kG.M w base ok x cs) → ∀ b ∈ tbL xs, ok b
 | [], _, _, _, _, b, hb => by rw [tbL] at hb; cases hb
 | x :: xs, w, base, ok, h, b, hb => by
  rw [tbL] at hb;rcases List.mem_append.1 hb with hb | hb
  ·obtain ⟨cs, hc⟩ := h x List.mem_cons_self;exact tb_ok x hc b hb
  ·exact tbL_ok xs (fun y hy => h y (List.mem_cons_of_mem _ hy)) b hb
end
def ElPost (w0 w : World) (g : Nat) (r : S43) (r2 : BA) (r3 : Int) (r4 : Bool) (e : Ending) (w' : World) : Prop :=
 ∃ (cs : Array Value) (x : G43), e = .returned (.agg cs) ∧ er x = r ∧ (tb x).Nodup ∧ kG.M w' w0.heap.size (fun k_ => w.heap.size ≤ k_) x cs.toList ∧ IsS93 w0 w' g r2 r3 r4 ∧ Below w0.heap.size w0 w' ∧ KeepBut w w' g none
def ElC (k : Nat) : Prop := ∀ (g : Nat) (about deep : Int) (s : BA) (p : Int) (b : Bool) (r : S43) (r2 : BA) (r3 : Int) (r4 : Bool) (w0 w : World), IsS93 w0 w g s p b → Below w0.heap.size w0 w → LibOk w0 → LibErr w0 → readEl k about deep s p b = some (r, r2, r3, r4) →
  Calls Tryz.prog 86 #[.pointer (some ⟨g, 0, none⟩), .int .i64 about, .int .i64 deep] w (ElPost w0 w g r r2 r3 r4)
def KidC (k : Nat) : Prop := ∀ (g : Nat) (about deep : Int) (s : BA) (p : Int) (b : Bool) (r : S43) (r2 : BA) (r3 : Int) (r4 : Bool) (w0 w : World), IsS93 w0 w g s p b → Below w0.heap.size w0 w → LibOk w0 → LibErr w0 → readKid k about deep s p b = some (r, r2, r3, r4) →
  Calls Tryz.prog 137 #[.pointer (some ⟨g, 0, none⟩), .int .i64 about, .int .i64 deep] w (ElPost w0 w g r r2 r3 r4)
theorem El_end {w0 w W : World} {g gr : Nat} {s : BA} {p : Int} {b : Bool} {r : S43} {x : G43} {cs : Array Value} {a0 a1 a2 a3 a4 a5 u0 u1 u2 u3 u4 u5 : Value} {ok : Nat → Prop} (hcs : cs = #[u0, u1, u2, u3, u4, u5]) (hI : IsS93 w0 W g s p b) (hB : Below w0.heap.size w0 W) (hK : KeepBut w W g none) (hX : W.heap[gr]? = some (.cells #[a0, a1, a2, a3, a4, a5] 43 (0, 0)))
  (hM : kG.M W w0.heap.size ok x cs.toList) (hx : er x = r) (hap : (tb x).Nodup) (hok : ∀ k, ok k → w.heap.size ≤ k ∧ k ≠ gr) (hgr : w.heap.size ≤ gr) (hg : g ≠ gr) (hg0 : w0.heap.size ≤ gr) :
  ElPost w0 w g r s p b (.returned (.agg #[u0, u1, u2, u3, u4, u5])) ((((((W.setCell ⟨gr, 0, none⟩ u0).setCell ⟨gr, 1, none⟩ u1).setCell ⟨gr, 2, none⟩ u2).setCell ⟨gr, 3, none⟩ u3).setCell ⟨gr, 4, none⟩ u4).setCell ⟨gr, 5, none⟩ u5) := by
 subst hcs;have hk : KeepBut W ((((((W.setCell ⟨gr, 0, none⟩ u0).setCell ⟨gr, 1, none⟩ u1).setCell ⟨gr, 2, none⟩ u2).setCell ⟨gr, 3, none⟩ u3).setCell ⟨gr, 4, none⟩ u4).setCell ⟨gr, 5, none⟩ u5) gr none := ((((((KeepBut.refl W gr none).set_ 0 _).set_ 1 _).set_ 2 _).set_ 3 _).set_ 4 _).set_ 5 _;exact ⟨_, x, rfl, hx, hap, kG.M_mono (fun k hk => (hok k hk).1) (Kd.M_keep hM hk (fun k hk => (hok k hk).2)), st_six hI hg _ _ _ _ _ _, below_six hB hg0 _ _ _ _ _ _, keep_six hK hgr _ _ _ _ _ _⟩
theorem kid_step (k : Nat) (hE_ : ElC k) : KidC (k + 1) := by
 unfold ElC at hE_;intro g about deep s p b r r2 r3 r4 w0 w hI hB hL hE h;have hu := Tryz.underlying43;rw [readKid] at h;obtain ⟨⟨t, s1, p1, b1⟩, ht, H⟩ := oB_ h;dsimp only at H;have Ht := A_ ht;have HI := A_ hI;have HB := A_ hB;have HLL := A_ hL;have HEE := A_ hE;have HGN : As9 (w.heap.size ≠ g) := ⟨Nat.ne_of_gt hI.lt⟩;have HG0 : As9 (w0.heap.size ≤ w.heap.size) := ⟨hB.size⟩;clear ht h hI hB hL hE;cases t with
 | true =>
  rw [if_pos rfl] at H;obtain ⟨⟨q0, q1, s2, p2, b2⟩, hq, H⟩ := oB_ H;have Hq := A_ hq;simp only [Option.some.injEq, Prod.mk.injEq] at H;obtain ⟨rfl, rfl, rfl, rfl⟩ := H;clear hq;go_enter Tryz.func137, Tryz.ntmps137
  go_wp2_with (first | (go_at_call 95; (with_reducible refine (impl_reader_is.calls g s p b ⟨#[60, 33, 45, 45]⟩ _ s1 p1 b1 w0 _ (HI.out.alloc _) (bA9 HB.out _) Ht.out).mono ?_); rintro e w1 ⟨rfl, hi, hb, hk⟩; have HI1 := A_ hi; have HB1 := A_ hb; have HK1 := A_ ((keep_alloc (KeepBut.refl w g none) _).trans hk (.inl rfl)); have HX1 := A_ (hk.blk (heap_alloc_new w (.cells #[.int .i64 0, .int .i64 0, .string ⟨#[]⟩, .slice none 0 0, .string ⟨#[]⟩, .slice none 0 0] 43)) HGN.out si_); clear hi hb hk HI HB) | (go_at_call 96; (with_reducible refine (impl_reader_note.calls k g s1 p1 b1 q0 q1 s2 p2 b2 w0 _ HI1.out HB1.out HLL.out Hq.out).mono ?_); rintro e w2 ⟨rfl, hi, hb, hk⟩; have HI2 := A_ hi; have HB2 := A_ hb; have HK2 := A_ (HK1.out.trans hk (.inl rfl)); have HX2 := A_ (hk.blk HX1.out HGN.out si_); clear hi hb hk HI1 HB1 HK1 HX1; obtain ⟨hz0, hz1, hz2, hz3, hz4, hz5, hy0, hy1, hy2, hy3, hy4, hy5⟩ := bk6_ HX2.out))
  refine bodyPost_ret (results_single rfl (.cell w.heap.size 43 #[.int .i64 q0, .int .i64 0, .string ⟨#[]⟩, .slice none 0 0, .string q1, .slice none 0 0] (0, 0) _ rfl (blk_six HX2.out _ _ _ _ _ _) hu rfl (by kernel_rfl) .nil)) rfl ?_;exact El_end (ok := fun _ => False) rfl HI2.out HB2.out HK2.out HX2.out (kG_mkM _ _ _ ⟨q0, 0, ⟨#[]⟩, [], q1, [], .slice none 0 0, .slice none 0 0⟩ (Kd.R_nil _ _ _ _ _) (Kd.R_nil _ _ _ _ _) rfl rfl) (by rw [er, erL]) (by rw [tb, tbL]; exact List.nodup_nil) (fun _ h => h.elim) (Nat.le_refl _) (Ne.symm HGN.out) HG0.out
 | false =>
  rw [if_neg si_] at H;obtain ⟨⟨t2, s2, p2, b2⟩, ht2, H⟩ := oB_ H;dsimp only at H;have Ht2 := A_ ht2;clear ht2;cases t2 with
  | true =>
   rw [if_pos rfl] at H;have HH := A_ H;clear H;go_enter Tryz.func137, Tryz.ntmps137
   go_wp2_with (first | (go_at_call 95; (with_reducible refine (impl_reader_is.calls g s p b ⟨#[60, 33, 45, 45]⟩ _ s1 p1 b1 w0 _ (HI.out.alloc _) (bA9 HB.out _) Ht.out).mono ?_); rintro e w1 ⟨rfl, hi, hb, hk⟩; have HI1 := A_ hi; have HB1 := A_ hb; have HK1 := A_ ((keep_alloc (KeepBut.refl w g none) _).trans hk (.inl rfl)); have HX1 := A_ (hk.blk (heap_alloc_new w (.cells #[.int .i64 0, .int .i64 0, .string ⟨#[]⟩, .slice none 0 0, .string ⟨#[]⟩, .slice none 0 0] 43)) HGN.out si_); clear hi hb hk HI HB) | (go_at_call 95; (with_reducible refine (impl_reader_is.calls g s1 p1 b1 ⟨#[60]⟩ _ s2 p2 b2 w0 _ HI1.out HB1.out Ht2.out).mono ?_); rintro e w2 ⟨rfl, hi, hb, hk⟩; have HI2 := A_ hi; have HB2 := A_ hb; have HK2 := A_ (HK1.out.trans hk (.inl rfl)); have HX2 := A_ (hk.blk HX1.out HGN.out si_); have HS2 := A_ (Nat.lt_of_lt_of_le (blk_lt HX1.out) hk.1); clear hi hb hk HI1 HB1 HK1 HX1) | (go_at_call 86; (with_reducible refine (hE_ g about deep s2 p2 b2 r r2 r3 r4 w0 _ HI2.out HB2.out HLL.out HEE.out HH.out).mono ?_); rintro e w3 ⟨cs, x, rfl, hx, hap, hm, hi, hb, hk⟩; obtain ⟨v3, v5, hcs, g3, g5, -, -⟩ := kG_openM hm; obtain rfl : cs = #[.int .i64 x.f0, .int .i64 x.f1, .string x.f2, v3, .string x.f4, v5] := Array.ext' hcs; have HER := A_ hx; have HAP := A_ hap; obtain ⟨A3, c3, rfl⟩ := Kd.R_slice g3; obtain ⟨A5, c5, rfl⟩ := Kd.R_slice g5; have HM3 := A_ hm; have HI3 := A_ hi; have HB3 := A_ hb; have HK3 := A_ (HK2.out.trans hk (.inl rfl)); have HX3 := A_ (hk.blk HX2.out HGN.out si_); clear hm hcs g3 g5 hi hb hk hx hap HI2 HB2 HK2 HX2; obtain ⟨hz0, hz1, hz2, hz3, hz4, hz5, hy0, hy1, hy2, hy3, hy4, hy5⟩ := bk6_ HX3.out))
   refine bodyPost_ret (results_single rfl (.cell w.heap.size 43 #[.int .i64 x.f0, .int .i64 x.f1, .string x.f2, .slice A3 x.f3.length c3, .string x.f4, .slice A5 x.f5.length c5] (0, 0) _ rfl (blk_six HX3.out _ _ _ _ _ _) hu rfl (by kernel_rfl) .nil)) rfl ?_;exact El_end (ok := fun k_ => w2.heap.size ≤ k_) rfl HI3.out HB3.out HK3.out HX3.out (HM3.out) HER.out HAP.out (fun k hk => ⟨Nat.le_trans (Nat.le_of_lt HS2.out) hk, fun e_ => by have := HS2.out; omega⟩) (Nat.le_refl _) (Ne.symm HGN.out) HG0.out
  | false =>
   rw [if_neg si_] at H;obtain ⟨⟨q0, q1, s3, p3, b3⟩, hq, H⟩ := oB_ H;have Hq := A_ hq;simp only [Option.some.injEq, Prod.mk.injEq] at H;obtain ⟨rfl, rfl, rfl, rfl⟩ := H;clear hq;go_enter Tryz.func137, Tryz.ntmps137
   go_wp2_with (first | (go_at_call 95; (with_reducible refine (impl_reader_is.calls g s p b ⟨#[60, 33, 45, 45]⟩ _ s1 p1 b1 w0 _ (HI.out.alloc _) (bA9 HB.out _) Ht.out).mono ?_); rintro e w1 ⟨rfl, hi, hb, hk⟩; have HI1 := A_ hi; have HB1 := A_ hb; have HK1 := A_ ((keep_alloc (KeepBut.refl w g none) _).trans hk (.inl rfl)); have HX1 := A_ (hk.blk (heap_alloc_new w (.cells #[.int .i64 0, .int .i64 0, .string ⟨#[]⟩, .slice none 0 0, .string ⟨#[]⟩, .slice none 0 0] 43)) HGN.out si_); clear hi hb hk HI HB) | (go_at_call 95; (with_reducible refine (impl_reader_is.calls g s1 p1 b1 ⟨#[60]⟩ _ s2 p2 b2 w0 _ HI1.out HB1.out Ht2.out).mono ?_); rintro e w2 ⟨rfl, hi, hb, hk⟩; have HI2 := A_ hi; have HB2 := A_ hb; have HK2 := A_ (HK1.out.trans hk (.inl rfl)); have HX2 := A_ (hk.blk HX1.out HGN.out si_); have HS2 := A_ (Nat.lt_of_lt_of_le (blk_lt HX1.out) hk.1); clear hi hb hk HI1 HB1 HK1 HX1) | (go_at_call 175; (with_reducible refine (impl_reader_text.calls k g s2 p2 b2 q0 q1 s3 p3 b3 w0 _ HI2.out HB2.out HLL.out HEE.out Hq.out).mono ?_); rintro e w3 ⟨rfl, hi, hb, hk⟩; have HI3 := A_ hi; have HB3 := A_ hb; have HK3 := A_ (HK2.out.trans hk (.inl rfl)); have HX3 := A_ (hk.blk HX2.out HGN.out si_); clear hi hb hk HI2 HB2 HK2 HX2; obtain ⟨hz0, hz1, hz2, hz3, hz4, hz5, hy0, hy1, hy2, hy3, hy4, hy5⟩ := bk6_ HX3.out))
   refine bodyPost_ret (results_single rfl (.cell w.heap.size 43 #[.int .i64 q0, .int .i64 0, .string ⟨#[]⟩, .slice none 0 0, .string q1, .slice none 0 0] (0, 0) _ rfl (blk_six HX3.out _ _ _ _ _ _) hu rfl (by kernel_rfl) .nil)) rfl ?_;exact El_end (ok := fun _ => False) rfl HI3.out HB3.out HK3.out HX3.out (kG_mkM _ _ _ ⟨q0, 0, ⟨#[]⟩, [], q1, [], .slice none 0 0, .slice none 0 0⟩ (Kd.R_nil _ _ _ _ _) (Kd.R_nil _ _ _ _ _) rfl rfl) (by rw [er, erL]) (by rw [tb, tbL]; exact List.nodup_nil) (fun _ h => h.elim) (Nat.le_refl _) (Ne.symm HGN.out) HG0.out
section
variable {P : Program} {md : Region.Mode} {ops : Array Oper} {Q : Exit → Act → World → Prop} {S : World → Prop} {ds : List Nat}
theorem two_last {i j : Nat} {Ni Nj : Option Tmp} {oi oj : Oper} {fuel : Nat} {l : Array Bool} {a : Act} {w : World} (li lj : Array Bool) (hi : ops[i]? = some oi) (hj : ops[j]? = some oj) (hNi : oi.dst = Ni) (hNj : oj.dst = Nj)
  (hc : (Region.ready md ops l == [i, j] && l.setIfInBounds i true == li && l.setIfInBounds j true == lj) = true) (hdi : i ∈ ds) (hdj : j ∈ ds)
  (h1 : ∀ K : Act → World → Prop, Shut (∀ a' w', wpAnyLast P md ops Q S ds fuel li a' w' → K a' w') → if Region.wanted oi (yielded ops a.tmps) = true then Oper.wp P oi a w K Q else K (a.put Ni undef) w)
  (h2 : ∀ K : Act → World → Prop, Shut (∀ a' w', wpAnyLast P md ops Q S ds fuel lj a' w' → K a' w') → if Region.wanted oj (yielded ops a.tmps) = true then Oper.wp P oj a w K Q else K (a.put Nj undef) w) :
  wpAnyLast P md ops Q S ds (fuel + 1) l a w := by
 subst hNi;subst hNj;simp only [Bool.and_eq_true, beq_iff_eq] at hc;obtain ⟨⟨h3, h4⟩, h5⟩ := hc;subst h4;subst h5;exact wpAnyLast_ready h3 si_ (AllReadyL.cons_last hi hdi (fun K hK => h1 K hK) (AllReadyL.cons_last hj hdj (fun K hK => h2 K hK) AllReadyL.nil))
end
section
variable {P : Program} {ops : Array Oper} {o : Oper} {a : Act} {Q : Exit → Act → World → Prop} {Kc : Act → World → Prop}
theorem el_step {W : World} {base : Nat} (hw : Region.wanted o (yielded ops a.tmps) = true) (hN : o.dst = none) (t : TypeId) (p x : Operand) (ho : o.op = .store t p x) {g n cap : Nat} (i : Int) {xs : List G43} {x' : G43} {cs : Array Value} {ok okp : Nat → Prop}
  (haddr : a.eval p = .pointer (some ⟨g, i.toNat * 6, none⟩)) (hx : a.eval x = .agg cs) (ht : (P.info? t).map (·.size) = some 6) (HO : kG.R 43 W base ok (.slice (some ⟨g, 0, none⟩) n cap) xs) (h0 : 0 ≤ i) (hi : i < n) (hM : kG.M W base okp x' cs.toList) (hokp : ∀ k, okp k → ok k ∧ k ≠ g)
  (h : ∀ w1, kG.R 43 w1 base ok (.slice (some ⟨g, 0, none⟩) n cap) (xs.set i.toNat x') → W.grownBy w1 (some g) → Kc a w1) : if Region.wanted o (yielded ops a.tmps) = true then Oper.wp P o a W Kc Q else Kc (a.put none undef) W := by
 obtain ⟨c, hcl, _, hcc, _⟩ := Kd.R_elem HO zG i h0 hi;have hcs : cs.toList.length = 6 := kG.K_len (kG.K_of_M hM);have h1 := kG.K_one (kG.K_of_M hM);have hz : kG.sz = 6 := rfl;have hd : c.drop (0 + cs.toList.length) = [] := List.drop_eq_nil_of_le (by rw [hcl, hz, hcs]; exact Nat.le_refl _);obtain ⟨hrow, hg⟩ := Kd.R_seg HO i h0 hi hcl hcc (j := 0) (seg := cs.toList) (by rw [hcs]; exact Nat.le_refl _) (x' := x') (by rw [hd]; simpa using hM) hokp;obtain ⟨hn, hnc, _⟩ := Kd.R_reads' HO;obtain ⟨_, inner, hown, hr⟩ := HO;rcases hown.2 with ⟨hv, _⟩ | ⟨g', cap', cur, hv, hb, hh, hnc2, hcm, hcs', _⟩
 ·cases hv
 injection hv with ha _ hc
 injection ha with ha
 injection ha with hg'
 subst hg'; subst hc;refine put_step hw hN t p x ho (o' := i.toNat * kG.sz + 0) (seg := cs.toList) haddr hx rfl (by rw [hcs]; exact ht) hh ?_ h1 (h _ hrow hg);have hil : i.toNat < n := om_;have h2 : i.toNat * kG.sz + kG.sz ≤ n * kG.sz := by rw [← Nat.succ_mul]; exact Nat.mul_le_mul_right _ hil
 have h3 : n * kG.sz ≤ cap * kG.sz := Nat.mul_le_mul_right _ om_;rw [hcs];omega
end
theorem ap_nil (v : Value) : (tbL []).Nodup ∧ ∀ b ∈ tbL [], v.ownBlock ≠ some b := by rw [tbL]; exact ⟨List.nodup_nil, fun b hb => by cases hb⟩
theorem nd_opt : ∀ o : Option Nat, o.toList.Nodup
 | none => List.nodup_nil
 | some a => by simp
theorem row_tag {α : Type} {d : Kd α} {e : Nat} {w : World} {base : Nat} {ok : Nat → Prop} {v : Value} {xs : List α} (h : d.R e w base ok v xs) (k : Nat) (hk : v.ownBlock = some k) : ∃ cells, w.heap[k]? = some (.cells cells e (0, 0)) := by
 obtain ⟨_, inner, ho, _⟩ := h;exact own_typed ho k hk
theorem ap_end {W : World} {b3 b5 : Nat} {o3 o5 : Nat → Prop} {v3 v5 : Value} {at_ : List S36} {kids : List G43} (h3 : k36.R 36 W b3 o3 v3 at_) (h5 : kG.R 43 W b5 o5 v5 kids) (hap : (tbL kids).Nodup ∧ ∀ b ∈ tbL kids, v3.ownBlock ≠ some b) (a b : Int) (c f : BA) : (tb ⟨a, b, c, at_, f, kids, v3, v5⟩).Nodup := by
 have hk := tbL_ok kids (R_each h5);rw [tb];refine List.nodup_append.2 ⟨nd_opt _, List.nodup_append.2 ⟨nd_opt _, hap.1, ?_⟩, ?_⟩
 ·rintro x hx y hy rfl;exact (hk x hy).2 (Option.mem_toList.1 hx).symm
 ·rintro x hx y hy rfl;rcases List.mem_append.1 hy with hy | hy
  ·obtain ⟨c3, e3⟩ := row_tag h3 x (Option.mem_toList.1 hx);obtain ⟨c5, e5⟩ := row_tag h5 x (Option.mem_toList.1 hy);rw [e3] at e5;injection e5 with e5
   injection e5 with _ e6
   exact absurd e6 de_
  ·exact hap.2 x hy (Option.mem_toList.1 hx)
theorem ap_more {W : World} {b3 b5 : Nat} {o3 o5 : Nat → Prop} {v3 v5 : Value} {at_ : List S36} {kids : List G43} (h3 : k36.R 36 W b3 o3 v3 at_) (h5 : kG.R 43 W b5 o5 v5 kids) (hap : (tbL kids).Nodup ∧ ∀ b ∈ tbL kids, v3.ownBlock ≠ some b) {x : G43} (hx : (tb x).Nodup) {w1 : World} {b1 : Nat} {cs : List Value} (hm : kG.M w1 b1 (fun k => W.heap.size ≤ k) x cs) : (tbL (kids ++ [x])).Nodup ∧ ∀ b ∈ tbL (kids ++ [x]), v3.ownBlock ≠ some b := by
 have hk := tbL_ok kids (R_each (Kd.R_bound h5));have hy := tb_ok x hm;rw [tbL_append, tbL_one];refine ⟨List.nodup_append.2 ⟨hap.1, hx, ?_⟩, ?_⟩
 ·rintro p hp q hq rfl;have h1 := (hk p hp).1.2.2.1;have h2 := hy p hq;omega
 ·intro b hb;rcases List.mem_append.1 hb with hb | hb
  ·exact hap.2 b hb
  ·intro e_;have h1 := Kd.R_lt h3 b e_;have h2 := hy b hb;omega
structure Ele (w0 w W : World) (g ge gr : Nat) (s : BA) (p : Int) (b : Bool) (sp : Int) (nm : BA) (v3 v5 vf : Value) (attrs : List S36) (kids : List G43) : Prop where
 st : IsS93 w0 W g s p b
 el : W.heap[ge]? = some (.cells #[.int .i64 1, .int .i64 sp, .string nm, v3, .string ⟨#[]⟩, vf] 43 (0, 0))
 ar : k36.R 36 W w0.heap.size (fun k_ => w.heap.size ≤ k_ ∧ k_ ≠ ge ∧ k_ ≠ gr) v3 attrs
 kr : kG.R 43 W w0.heap.size (fun k_ => w.heap.size ≤ k_ ∧ k_ ≠ ge ∧ k_ ≠ gr) v5 kids
 rs : W.heap[gr]? = some (.cells #[.int .i64 0, .int .i64 0, .string ⟨#[]⟩, .slice none 0 0, .string ⟨#[]⟩, .slice none 0 0] 43 (0, 0))
 bl : Below w0.heap.size w0 W
 kp : KeepBut w W g none
 gl : g < w.heap.size
 he : w.heap.size ≤ ge
 hr : w.heap.size ≤ gr
 ne : ge ≠ gr
 g0 : w0.heap.size ≤ w.heap.size
 ap : (tbL kids).Nodup ∧ ∀ b ∈ tbL kids, v3.ownBlock ≠ some b
theorem Ele.state {w0 w W W' : World} {g ge gr : Nat} {s s' : BA} {p p' : Int} {b b' : Bool} {sp : Int} {nm : BA} {v3 v5 vf : Value} {attrs : List S36} {kids : List G43} (h : Ele w0 w W g ge gr s p b sp nm v3 v5 vf attrs kids) (hi : IsS93 w0 W' g s' p' b') (hb : Below w0.heap.size w0 W') (hk : KeepBut W W' g none) : Ele w0 w W' g ge gr s' p' b' sp nm v3 v5 vf attrs kids :=
 ⟨hi, hk.blk h.el (by have := h.gl; have := h.he; omega) si_, Kd.R_keep h.ar hk (fun k hk => by have := h.gl; omega), Kd.R_keep h.kr hk (fun k hk => by have := h.gl; omega), hk.blk h.rs (by have := h.gl; have := h.hr; omega) si_, hb, h.kp.trans hk (.inl rfl), h.gl, h.he, h.hr, h.ne, h.g0, h.ap⟩
theorem Ele.below {w0 w W W' : World} {g ge gr : Nat} {s : BA} {p : Int} {b : Bool} {sp : Int} {nm : BA} {v3 v5 vf : Value} {attrs : List S36} {kids : List G43} (h : Ele w0 w W g ge gr s p b sp nm v3 v5 vf attrs kids) (hb : Below W.heap.size W W') : Ele w0 w W' g ge gr s p b sp nm v3 v5 vf attrs kids :=
 h.state (h.st.below hb) (below_step h.bl hb) (KeepBut.of_below hb g none)
theorem Ele.drew {w0 w W : World} {g ge gr : Nat} {s : BA} {p : Int} {b : Bool} {sp : Int} {nm : BA} {v3 v5 vf : Value} {attrs : List S36} {kids : List G43} (h : Ele w0 w W g ge gr s p b sp nm v3 v5 vf attrs kids) : Ele w0 w W.drew g ge gr s p b sp nm v3 v5 vf attrs kids := h.below (below_drew (Below.refl _ _))
theorem Ele.name_ {w0 w W : World} {g ge gr : Nat} {s : BA} {p : Int} {b : Bool} {sp : Int} {nm : BA} {v3 v5 vf : Value} {attrs : List S36} {kids : List G43} (h : Ele w0 w W g ge gr s p b sp nm v3 v5 vf attrs kids) (x : BA) : Ele w0 w (W.setCell ⟨ge, 2, none⟩ (.string x)) g ge gr s p b sp x v3 v5 vf attrs kids :=
 ⟨h.st.far (p := ⟨ge, 2, none⟩) (by have := h.gl; have := h.he; show g ≠ ge; omega) _, blk_put h.el 2 _ rfl, Kd.R_far (p := ⟨ge, 2, none⟩) h.ar (fun k hk => hk.2.1) _, Kd.R_far (p := ⟨ge, 2, none⟩) h.kr (fun k hk => hk.2.1) _, blk_far h.rs (p := ⟨ge, 2, none⟩) (Ne.symm h.ne) _, below_set h.bl (Nat.le_trans h.g0 h.he), keep_far (p := ⟨ge, 2, none⟩) h.kp h.he _, h.gl, h.he, h.hr, h.ne, h.g0, h.ap⟩
theorem Ele.kids_ {w0 w W : World} {g ge gr : Nat} {s : BA} {p : Int} {b : Bool} {sp : Int} {nm : BA} {v3 v5 vf : Value} {attrs : List S36} {kids : List G43} (h : Ele w0 w W g ge gr s p b sp nm v3 v5 vf attrs kids) (x : Value) : Ele w0 w (W.setCell ⟨ge, 5, none⟩ x) g ge gr s p b sp nm v3 v5 x attrs kids :=
 ⟨h.st.far (p := ⟨ge, 5, none⟩) (by have := h.gl; have := h.he; show g ≠ ge; omega) _, blk_put h.el 5 _ rfl, Kd.R_far (p := ⟨ge, 5, none⟩) h.ar (fun k hk => hk.2.1) _, Kd.R_far (p := ⟨ge, 5, none⟩) h.kr (fun k hk => hk.2.1) _, blk_far h.rs (p := ⟨ge, 5, none⟩) (Ne.symm h.ne) _, below_set h.bl (Nat.le_trans h.g0 h.he), keep_far (p := ⟨ge, 5, none⟩) h.kp h.he _, h.gl, h.he, h.hr, h.ne, h.g0, h.ap⟩
theorem Ele.row_ {w0 w W W' : World} {g ge gr : Nat} {s : BA} {p : Int} {b : Bool} {sp : Int} {nm : BA} {v3 v5 vf v' : Value} {attrs : List S36} {kids kids' : List G43} (h : Ele w0 w W g ge gr s p b sp nm v3 v5 vf attrs kids) (ho : kG.R 43 W' w0.heap.size (fun k_ => w.heap.size ≤ k_ ∧ k_ ≠ ge ∧ k_ ≠ gr) v' kids') (hb : Below w0.heap.size w0 W') (hg : W.grownBy W' v5.ownBlock) (hap : (tbL kids').Nodup ∧ ∀ b ∈ tbL kids', v3.ownBlock ≠ some b) : Ele w0 w W' g ge gr s p b sp nm v3 v' vf attrs kids' :=
 ⟨h.st.grown hg (h.st.own_ne h.kr de_), blk_grown h.el hg (fun e_ => (h.kr.1 ge e_.symm).2.1 rfl), Kd.R_over h.ar h.kr de_ hg, ho, blk_grown h.rs hg (fun e_ => (h.kr.1 gr e_.symm).2.2 rfl), hb, h.kp.trans (KeepBut.of_grown hg g) (by
  cases hv : v5.ownBlock with
  | none => exact .inl rfl
  | some k => exact .inr ⟨k, rfl, (h.kr.1 k hv).1⟩), h.gl, h.he, h.hr, h.ne, h.g0, hap⟩
theorem Ele.of_att {w0 w W W' : World} {g ge gr : Nat} {s s' : BA} {p p' : Int} {b b' : Bool} {sp sp' : Int} {nm : BA} {v3 v6 : Value} {names : List S36} {attrs : List S36} (h : Ele w0 w W g ge gr s p b sp nm (.slice none 0 0) (.slice none 0 0) (.slice none 0 0) [] []) (ha : Att w0 W W' g ge 1 nm ⟨#[]⟩ (.slice none 0 0) s' p' b' sp' v6 v3 names attrs) : Ele w0 w W' g ge gr s' p' b' sp' nm v3 (.slice none 0 0) (.slice none 0 0) attrs [] :=
 ⟨ha.st, ha.el, Kd.R_mono ha.ar (fun k hk => by have := blk_lt h.el; have := blk_lt h.rs; have := h.kp.1; omega), Kd.R_nil _ _ _ _ _, (ha.kp.2 gr (blk_lt h.rs) (by have := h.gl; have := h.hr; omega) (Ne.symm h.ne)).trans h.rs, ha.bl, ⟨Nat.le_trans h.kp.1 ha.kp.1, fun i hi h1 _ => (ha.kp.2 i (Nat.lt_of_lt_of_le hi h.kp.1) h1 (by have := h.he; omega)).trans (h.kp.2 i hi h1 si_)⟩, h.gl, h.he, h.hr, h.ne, h.g0, ap_nil _⟩
theorem Ele.fresh_ {w0 w W : World} {g ge gr : Nat} {s : BA} {p : Int} {b : Bool} {sp : Int} {nm : BA} {v3 v5 vf : Value} {attrs : List S36} {kids : List G43} (h : Ele w0 w W g ge gr s p b sp nm v3 v5 vf attrs kids) : ∀ k, W.heap.size ≤ k → w.heap.size ≤ k ∧ k ≠ ge ∧ k ≠ gr := fun k hk => by have := blk_lt h.el; have := blk_lt h.rs; have := h.kp.1; omega
theorem Ele.start {w0 w W W2 : World} {g ge gr : Nat} {s : BA} {p : Int} {b : Bool} (about : Int) (hI : IsS93 w0 W g s p b) (hB : Below w0.heap.size w0 W) (hK : KeepBut w W g none) (hX : W.heap[gr]? = some (.cells #[.int .i64 0, .int .i64 0, .string ⟨#[]⟩, .slice none 0 0, .string ⟨#[]⟩, .slice none 0 0] 43 (0, 0))) (hgr : w.heap.size ≤ gr) (gl : g < w.heap.size) (g0 : w0.heap.size ≤ w.heap.size) (hge : ge = W.heap.size)
  (hbox : W2.heap[ge]? = some (.cells #[.int .i64 0, .int .i64 0, .string ⟨#[]⟩, .slice none 0 0, .string ⟨#[]⟩, .slice none 0 0] 43 (0, 0))) (hb : Below W.heap.size W W2) :
  Ele w0 w ((((((W2.setCell ⟨ge, 0, none⟩ (.int .i64 1)).setCell ⟨ge, 1, none⟩ (.int .i64 about)).setCell ⟨ge, 2, none⟩ (.string ⟨#[]⟩)).setCell ⟨ge, 3, none⟩ (.slice none 0 0)).setCell ⟨ge, 4, none⟩ (.string ⟨#[]⟩)).setCell ⟨ge, 5, none⟩ (.slice none 0 0)) g ge gr s p b about ⟨#[]⟩ (.slice none 0 0) (.slice none 0 0) (.slice none 0 0) [] [] := by
 have h1 := hI.lt;have h2 := blk_lt hX;have h3 := hK.1;have hk : KeepBut W2 ((((((W2.setCell ⟨ge, 0, none⟩ (.int .i64 1)).setCell ⟨ge, 1, none⟩ (.int .i64 about)).setCell ⟨ge, 2, none⟩ (.string ⟨#[]⟩)).setCell ⟨ge, 3, none⟩ (.slice none 0 0)).setCell ⟨ge, 4, none⟩ (.string ⟨#[]⟩)).setCell ⟨ge, 5, none⟩ (.slice none 0 0)) ge none := ((((((KeepBut.refl W2 ge none).set_ 0 _).set_ 1 _).set_ 2 _).set_ 3 _).set_ 4 _).set_ 5 _;exact ⟨st_six (hI.below hb) om_ _ _ _ _ _ _, blk_six hbox _ _ _ _ _ _, Kd.R_nil _ _ _ _ _, Kd.R_nil _ _ _ _ _, hk.blk (blk_below hX hb) om_ si_, below_six (below_step hB hb) om_ _ _ _ _ _ _, keep_six (hK.trans (KeepBut.of_below hb g none) (.inl rfl)) om_ _ _ _ _ _ _, gl, om_, hgr, om_, g0, ap_nil _⟩
theorem element_step (n : Nat) (hK_ : ∀ m, m < n → KidC m) : ElC (n + 1) := by
 unfold KidC at hK_;intro g about deep s p b r r2 r3 r4 w0 w hI hB hL hE h;have hu := Tryz.underlying43;rw [readEl] at h;have HI := A_ hI;have HB := A_ hB;have HLL := A_ hL;have HEE := A_ hE;have HGL : As9 (g < w.heap.size) := ⟨hI.lt⟩;have HG0 : As9 (w0.heap.size ≤ w.heap.size) := ⟨hB.size⟩;by_cases d1 : deep < 1
 ·rw [if_pos d1] at h;simp only [Option.some.injEq, Prod.mk.injEq] at h;obtain ⟨rfl, rfl, rfl, rfl⟩ := h;clear hI hB hL hE;go_enter Tryz.func86, Tryz.ntmps86
  go_wp2_with (first | ((with_reducible refine gate_dst (N := 6) rfl ?_); refine bZ_ 43 ?_; intro gr hg_ w1 hbox hb; have HGR := A_ hg_; have HI1 := A_ (HI.out.below hb); have HB1 := A_ (below_step HB.out hb); have HK1 := A_ (KeepBut.of_below hb g none); have HX1 := A_ hbox; clear hg_ hbox hb HI HB; have hc2 := (blk_cell HI1.out.1 2).trans rfl; have hg2 := blk_frozen HI1.out.1 2; obtain ⟨hz0, hz1, hz2, hz3, hz4, hz5, hy0, hy1, hy2, hy3, hy4, hy5⟩ := bk6_ HX1.out; have hn1 := eq_false (show ¬ g = gr from by rw [HGR.out]; exact Nat.ne_of_lt HGL.out); have hn2 := eq_false (show ¬ gr = g from by rw [HGR.out]; exact Nat.ne_of_gt HGL.out)))
  refine bodyPost_ret (results_single rfl (.cell gr 43 #[.int .i64 0, .int .i64 0, .string ⟨#[]⟩, .slice none 0 0, .string ⟨#[]⟩, .slice none 0 0] (0, 0) _ rfl (blk_six (blk_far HX1.out (p := ⟨g, 2, none⟩) (of_eq_false hn2) _) _ _ _ _ _ _) hu rfl (by kernel_rfl) .nil)) rfl ?_;exact El_end (ok := fun _ => False) rfl (HI1.out.set_2 _) (below_set HB1.out HI1.out.2) (HK1.out.set_ _ _) (blk_far HX1.out (p := ⟨g, 2, none⟩) (of_eq_false hn2) _) (kG_mkM _ _ _ zG (Kd.R_nil _ _ _ _ _) (Kd.R_nil _ _ _ _ _) rfl rfl) (by rw [zG, er, erL]; rfl) (by rw [zG, tb, tbL]; exact List.nodup_nil) (fun _ h => h.elim) (Nat.le_of_eq HGR.out.symm) (of_eq_false hn1) (by rw [HGR.out]; exact HG0.out)
 ·rw [if_neg d1] at h;obtain ⟨⟨s1, p1, b1⟩, ht1, h⟩ := oB_ h;obtain ⟨⟨nm, s2, p2, b2⟩, hq, h⟩ := oB_ h;obtain ⟨⟨at_, sp, s3, p3, b3⟩, ha, h⟩ := oB_ h;obtain ⟨⟨t, s4, p4, b4⟩, ht, H⟩ := oB_ h;dsimp only at hq ha ht H;have Ht1 := A_ ht1;have Hq := A_ hq;have Ha := A_ ha;have Ht := A_ ht;clear ht1 hq ha ht hI hB hL hE h;cases t with
  | true =>
   rw [if_pos rfl] at H;obtain ⟨⟨s5, p5, b5⟩, ht2, H⟩ := oB_ H;simp only [Option.some.injEq, Prod.mk.injEq] at H;obtain ⟨rfl, rfl, rfl, rfl⟩ := H;have Ht2 := A_ ht2;clear ht2;go_enter Tryz.func86, Tryz.ntmps86
   go_wp2_with (first | ((with_reducible refine gate_dst (N := 6) rfl ?_); refine bZ_ 43 ?_; intro gr hg_ w1 hbox hb; have HGR := A_ hg_; have HI1 := A_ (HI.out.below hb); have HB1 := A_ (below_step HB.out hb); have HK1 := A_ (KeepBut.of_below hb g none); have HX1 := A_ hbox; clear hg_ hbox hb HI HB) | ((with_reducible refine gate_dst (N := 7) rfl ?_); refine bZ_ 43 ?_; intro ge hg_ w2 hbox hb; have HGE := A_ hg_; have HBX := A_ hb; have HX2 := A_ hbox; obtain ⟨he0, he1, he2, he3, he4, he5, hf0, hf1, hf2, hf3, hf4, hf5⟩ := bk6_ hbox; clear hg_ hb hbox) | (go_at_call 94; have HE3 := A_ (Ele.start about HI1.out HB1.out HK1.out HX1.out (Nat.le_of_eq HGR.out.symm) HGL.out HG0.out HGE.out HX2.out HBX.out); clear HI1 HB1 HK1 HX1 HX2 HBX he0 he1 he2 he3 he4 he5 hf0 hf1 hf2 hf3 hf4 hf5; (with_reducible refine (impl_reader_take.calls g s p b ⟨#[60]⟩ _ _ _ w0 _ HE3.out.st HE3.out.bl Ht1.out).mono ?_); rintro e w4 ⟨rfl, hi, hb, hk⟩; have HE4 := A_ (HE3.out.state hi hb hk); clear hi hb hk HE3) | (go_at_call 135; (with_reducible refine (impl_reader_name.calls n g s1 p1 b1 nm s2 p2 b2 w0 _ HE4.out.st HE4.out.bl Hq.out).mono ?_); rintro e w5 ⟨rfl, hi, hb, hk⟩; have HE5 := A_ (HE4.out.state hi hb hk); clear hi hb hk HE4; have he2 := (blk_cell HE5.out.el 2).trans rfl; have hf2 := blk_frozen HE5.out.el 2) | (go_at_call 136; have HE6 := A_ (HE5.out.name_ nm); clear HE5 he2 hf2; (with_reducible refine (impl_reader_attrs.calls n g ge 1 nm ⟨#[]⟩ (.slice none 0 0) about about s2 p2 b2 at_ sp s3 p3 b3 w0 _ HE6.out.st HE6.out.el (Nat.le_trans HE6.out.g0 HE6.out.he) HE6.out.bl HLL.out HEE.out Ha.out).mono ?_); rintro e w7 ⟨rfl, v6, v3, names, ha⟩; have HE7 := A_ (Ele.of_att HE6.out ha); clear ha HE6) | (go_at_call 95; (with_reducible refine (impl_reader_is.calls g s3 p3 b3 ⟨#[47, 62]⟩ _ s4 p4 b4 w0 _ HE7.out.st HE7.out.bl Ht.out).mono ?_); rintro e w8 ⟨rfl, hi, hb, hk⟩; have HE8 := A_ (HE7.out.state hi hb hk); clear hi hb hk HE7) | (go_at_call 94; (with_reducible refine (impl_reader_take.calls g s4 p4 b4 ⟨#[47, 62]⟩ _ _ _ w0 _ HE8.out.st HE8.out.bl Ht2.out).mono ?_); rintro e w9 ⟨rfl, hi, hb, hk⟩; have HE9 := A_ (HE8.out.state hi hb hk); clear hi hb hk HE8; obtain ⟨A3, c3, rfl⟩ := Kd.R_slice HE9.out.ar; obtain ⟨he0, he1, he2, he3, he4, he5, hf0, hf1, hf2, hf3, hf4, hf5⟩ := bk6_ HE9.out.el; obtain ⟨hz0, hz1, hz2, hz3, hz4, hz5, hy0, hy1, hy2, hy3, hy4, hy5⟩ := bk6_ HE9.out.rs; have hn1 := eq_false HE9.out.ne; have hn2 := eq_false (Ne.symm HE9.out.ne)))
   refine bodyPost_ret (results_single rfl (.cell gr 43 #[.int .i64 1, .int .i64 sp, .string nm, .slice A3 at_.length c3, .string ⟨#[]⟩, .slice none 0 0] (0, 0) _ rfl (blk_six HE9.out.rs _ _ _ _ _ _) hu rfl (by kernel_rfl) .nil)) rfl ?_;exact El_end (ok := fun k_ => w.heap.size ≤ k_ ∧ k_ ≠ ge ∧ k_ ≠ gr) rfl HE9.out.st HE9.out.bl HE9.out.kp HE9.out.rs (kG_mkM _ _ _ ⟨1, sp, nm, at_, ⟨#[]⟩, [], _, _⟩ HE9.out.ar HE9.out.kr rfl rfl) (by rw [er, erL]) (ap_end HE9.out.ar HE9.out.kr HE9.out.ap _ _ _ _) (fun k hk => ⟨hk.1, hk.2.2⟩) HE9.out.hr (Nat.ne_of_lt (Nat.lt_of_lt_of_le HE9.out.gl HE9.out.hr)) (Nat.le_trans HE9.out.g0 HE9.out.hr)
  | false =>
   rw [if_neg si_] at H;obtain ⟨⟨s5, p5, b5⟩, ht3, H⟩ := oB_ H;obtain ⟨⟨ks, s6, p6, b6⟩, hks, H⟩ := oB_ H;dsimp only at hks H;split at H
   case isFalse => cases H
   case isTrue hsz =>
   obtain ⟨⟨s7, p7, b7⟩, ht4, H⟩ := oB_ H;simp only [Option.some.injEq, Prod.mk.injEq] at H;obtain ⟨rfl, rfl, rfl, rfl⟩ := H;have Ht3 := A_ ht3;have Hks := A_ hks;have Ht4 := A_ ht4;have HSZ := A_ hsz;clear ht3 hks ht4 hsz;go_enter Tryz.func86, Tryz.ntmps86
   go_wp2_with (first | ((with_reducible refine gate_dst (N := 6) rfl ?_); refine bZ_ 43 ?_; intro gr hg_ w1 hbox hb; have HGR := A_ hg_; have HI1 := A_ (HI.out.below hb); have HB1 := A_ (below_step HB.out hb); have HK1 := A_ (KeepBut.of_below hb g none); have HX1 := A_ hbox; clear hg_ hbox hb HI HB) | ((with_reducible refine gate_dst (N := 7) rfl ?_); refine bZ_ 43 ?_; intro ge hg_ w2 hbox hb; have HGE := A_ hg_; have HBX := A_ hb; have HX2 := A_ hbox; obtain ⟨he0, he1, he2, he3, he4, he5, hf0, hf1, hf2, hf3, hf4, hf5⟩ := bk6_ hbox; clear hg_ hb hbox) | (go_at_call 94; have HE3 := A_ (Ele.start about HI1.out HB1.out HK1.out HX1.out (Nat.le_of_eq HGR.out.symm) HGL.out HG0.out HGE.out HX2.out HBX.out); clear HI1 HB1 HK1 HX1 HX2 HBX he0 he1 he2 he3 he4 he5 hf0 hf1 hf2 hf3 hf4 hf5; (with_reducible refine (impl_reader_take.calls g s p b ⟨#[60]⟩ _ _ _ w0 _ HE3.out.st HE3.out.bl Ht1.out).mono ?_); rintro e w4 ⟨rfl, hi, hb, hk⟩; have HE4 := A_ (HE3.out.state hi hb hk); clear hi hb hk HE3) | (go_at_call 135; (with_reducible refine (impl_reader_name.calls n g s1 p1 b1 nm s2 p2 b2 w0 _ HE4.out.st HE4.out.bl Hq.out).mono ?_); rintro e w5 ⟨rfl, hi, hb, hk⟩; have HE5 := A_ (HE4.out.state hi hb hk); clear hi hb hk HE4; have he2 := (blk_cell HE5.out.el 2).trans rfl; have hf2 := blk_frozen HE5.out.el 2) | (go_at_call 136; have HE6 := A_ (HE5.out.name_ nm); clear HE5 he2 hf2; (with_reducible refine (impl_reader_attrs.calls n g ge 1 nm ⟨#[]⟩ (.slice none 0 0) about about s2 p2 b2 at_ sp s3 p3 b3 w0 _ HE6.out.st HE6.out.el (Nat.le_trans HE6.out.g0 HE6.out.he) HE6.out.bl HLL.out HEE.out Ha.out).mono ?_); rintro e w7 ⟨rfl, v6, v3, names, ha⟩; have HE7 := A_ (Ele.of_att HE6.out ha); clear ha HE6) | (go_at_call 95; (with_reducible refine (impl_reader_is.calls g s3 p3 b3 ⟨#[47, 62]⟩ _ s4 p4 b4 w0 _ HE7.out.st HE7.out.bl Ht.out).mono ?_); rintro e w8 ⟨rfl, hi, hb, hk⟩; have HE8 := A_ (HE7.out.state hi hb hk); clear hi hb hk HE7) | (go_at_call 94; (with_reducible refine (impl_reader_take.calls g s4 p4 b4 ⟨#[62]⟩ _ _ _ w0 _ HE8.out.st HE8.out.bl Ht3.out).mono ?_); rintro e w9 ⟨rfl, hi, hb, hk⟩; have HE9 := A_ (HE8.out.state hi hb hk); clear hi hb hk HE8))
   clear Ht1 Hq Ha Ht;go_loopg [] n (fun kq wr => ∃ (kids : List G43) (v5 : Value) (s : BA) (p : Int) (b : Bool), As9 (kidsL kq sp deep s p b (erL kids) = some (ks, s6, p6, b6)) ∧ As9 (Ele w0 w wr g ge gr s p b sp nm v3 v5 v5 at_ kids) ∧ As9 (kq ≤ n))
   case atStart => exact ⟨[], _, _, _, _, ⟨by rw [erL]; exact Hks.out⟩, HE9, ⟨Nat.le_refl _⟩⟩
   case round =>
    clear Hks HE9;obtain ⟨kids, v5, s, p, b, HA, HE, HN⟩ := hrel;cases gk with
    | zero => exact absurd HA.out (by simp [kidsL])
    | succ m =>
    have H := HA.out;clear HA;simp only [kidsL] at H;have hc2 := (blk_cell HE.out.st.1 2).trans rfl;have hnm := (blk_cell HE.out.el 2).trans rfl;cases b with
    | true =>
     rw [if_pos rfl] at H;simp only [Option.some.injEq, Prod.mk.injEq] at H;obtain ⟨rfl, rfl, rfl, rfl⟩ := H;have q1 : (9223372036854775807 < (⟨#[60, 47]⟩ : BA).size + nm.size) = False := eq_false (by have := HSZ.out; have h2 : (⟨#[60, 47]⟩ : BA).size = 2 := rfl; omega);have q2 : (9223372036854775807 < (⟨#[60, 47]⟩ : BA).size + nm.size + (⟨#[62]⟩ : BA).size) = False := eq_false (by have := HSZ.out; have h2 : (⟨#[60, 47]⟩ : BA).size = 2 := rfl; have h3 : (⟨#[62]⟩ : BA).size = 1 := rfl; omega);have q3 : (9223372036854775807 < 2 + nm.size) = False := eq_false (by have := HSZ.out; omega);have q4 : (9223372036854775807 < 2 + nm.size + 1) = False := eq_false (by have := HSZ.out; omega);go_wp2_with (first | (go_at_call 94; (with_reducible refine (impl_reader_take.calls g _ _ _ ((⟨#[60, 47]⟩ ++ nm) ++ ⟨#[62]⟩) s7 p7 b7 w0 _ HE.out.st HE.out.bl Ht4.out).mono ?_); rintro e w13 ⟨rfl, hi, hb, hk⟩; have HEz := A_ (HE.out.state hi hb hk); clear hi hb hk HE; obtain ⟨A3, c3, rfl⟩ := Kd.R_slice HEz.out.ar; obtain ⟨A5, c5, rfl⟩ := Kd.R_slice HEz.out.kr; obtain ⟨he0, he1, he2, he3, he4, he5, hf0, hf1, hf2, hf3, hf4, hf5⟩ := bk6_ HEz.out.el; obtain ⟨hz0, hz1, hz2, hz3, hz4, hz5, hy0, hy1, hy2, hy3, hy4, hy5⟩ := bk6_ HEz.out.rs; have hn1 := eq_false HEz.out.ne; have hn2 := eq_false (Ne.symm HEz.out.ne)))
     refine bodyPost_ret (results_single rfl (.cell gr 43 #[.int .i64 1, .int .i64 sp, .string nm, .slice A3 at_.length c3, .string ⟨#[]⟩, .slice A5 kids.length c5] (0, 0) _ rfl (blk_six HEz.out.rs _ _ _ _ _ _) hu rfl (by kernel_rfl) .nil)) rfl ?_;exact El_end (ok := fun k_ => w.heap.size ≤ k_ ∧ k_ ≠ ge ∧ k_ ≠ gr) rfl HEz.out.st HEz.out.bl HEz.out.kp HEz.out.rs (kG_mkM _ _ _ ⟨1, sp, nm, at_, ⟨#[]⟩, kids, _, _⟩ HEz.out.ar HEz.out.kr rfl rfl) (by rw [er]) (ap_end HEz.out.ar HEz.out.kr HEz.out.ap _ _ _ _) (fun k hk => ⟨hk.1, hk.2.2⟩) HEz.out.hr (Nat.ne_of_lt (Nat.lt_of_lt_of_le HEz.out.gl HEz.out.hr)) (Nat.le_trans HEz.out.g0 HEz.out.hr)
    | false =>
     rw [if_neg si_] at H;obtain ⟨⟨t, s8, p8, b8⟩, ht, H⟩ := oB_ H;dsimp only at H;have Ht := A_ ht;clear ht;cases t with
     | true =>
      rw [if_pos rfl] at H;simp only [Option.some.injEq, Prod.mk.injEq] at H;obtain ⟨rfl, rfl, rfl, rfl⟩ := H;have q1 : (9223372036854775807 < (⟨#[60, 47]⟩ : BA).size + nm.size) = False := eq_false (by have := HSZ.out; have h2 : (⟨#[60, 47]⟩ : BA).size = 2 := rfl; omega);have q2 : (9223372036854775807 < (⟨#[60, 47]⟩ : BA).size + nm.size + (⟨#[62]⟩ : BA).size) = False := eq_false (by have := HSZ.out; have h2 : (⟨#[60, 47]⟩ : BA).size = 2 := rfl; have h3 : (⟨#[62]⟩ : BA).size = 1 := rfl; omega);have q3 : (9223372036854775807 < 2 + nm.size) = False := eq_false (by have := HSZ.out; omega);have q4 : (9223372036854775807 < 2 + nm.size + 1) = False := eq_false (by have := HSZ.out; omega);go_wp2_with (first | (go_at_call 95; (with_reducible refine (impl_reader_is.calls g s p false ⟨#[60, 47]⟩ _ s8 p8 b8 w0 _ HE.out.st HE.out.bl Ht.out).mono ?_); rintro e w10 ⟨rfl, hi, hb, hk⟩; have HEa := A_ (HE.out.state hi hb hk); clear hi hb hk HE hc2 hnm; have hnm := (blk_cell HEa.out.el 2).trans rfl; have hsp := (blk_cell HEa.out.el 1).trans rfl) | (go_at_call 94; (with_reducible refine (impl_reader_take.calls g _ _ _ ((⟨#[60, 47]⟩ ++ nm) ++ ⟨#[62]⟩) s7 p7 b7 w0 _ HEa.out.st HEa.out.bl Ht4.out).mono ?_); rintro e w13 ⟨rfl, hi, hb, hk⟩; have HEz := A_ (HEa.out.state hi hb hk); clear hi hb hk HEa; obtain ⟨A3, c3, rfl⟩ := Kd.R_slice HEz.out.ar; obtain ⟨A5, c5, rfl⟩ := Kd.R_slice HEz.out.kr; obtain ⟨he0, he1, he2, he3, he4, he5, hf0, hf1, hf2, hf3, hf4, hf5⟩ := bk6_ HEz.out.el; obtain ⟨hz0, hz1, hz2, hz3, hz4, hz5, hy0, hy1, hy2, hy3, hy4, hy5⟩ := bk6_ HEz.out.rs; have hn1 := eq_false HEz.out.ne; have hn2 := eq_false (Ne.symm HEz.out.ne)))
      refine bodyPost_ret (results_single rfl (.cell gr 43 #[.int .i64 1, .int .i64 sp, .string nm, .slice A3 at_.length c3, .string ⟨#[]⟩, .slice A5 kids.length c5] (0, 0) _ rfl (blk_six HEz.out.rs _ _ _ _ _ _) hu rfl (by kernel_rfl) .nil)) rfl ?_;exact El_end (ok := fun k_ => w.heap.size ≤ k_ ∧ k_ ≠ ge ∧ k_ ≠ gr) rfl HEz.out.st HEz.out.bl HEz.out.kp HEz.out.rs (kG_mkM _ _ _ ⟨1, sp, nm, at_, ⟨#[]⟩, kids, _, _⟩ HEz.out.ar HEz.out.kr rfl rfl) (by rw [er]) (ap_end HEz.out.ar HEz.out.kr HEz.out.ap _ _ _ _) (fun k hk => ⟨hk.1, hk.2.2⟩) HEz.out.hr (Nat.ne_of_lt (Nat.lt_of_lt_of_le HEz.out.gl HEz.out.hr)) (Nat.le_trans HEz.out.g0 HEz.out.hr)
     | false =>
      rw [if_neg si_] at H;obtain ⟨⟨kd, s9, p9, b9⟩, hkd, H⟩ := oB_ H;dsimp only at hkd H;split at H
      case isFalse => cases H
      case isTrue hl =>
      have Hkd := A_ hkd;have HL := A_ hl;have HH := A_ H;clear hkd hl H;go_wp2_with (first | (go_at_call 95; (with_reducible refine (impl_reader_is.calls g s p false ⟨#[60, 47]⟩ _ s8 p8 b8 w0 _ HE.out.st HE.out.bl Ht.out).mono ?_); rintro e w10 ⟨rfl, hi, hb, hk⟩; have HEa := A_ (HE.out.state hi hb hk); clear hi hb hk HE hc2 hnm; have hnm := (blk_cell HEa.out.el 2).trans rfl; have hsp := (blk_cell HEa.out.el 1).trans rfl) | (go_at_call 137; (with_reducible refine (hK_ m (by have := HN.out; omega) g sp (wrap64 (deep - 1)) s8 p8 b8 kd s9 p9 b9 w0 _ HEa.out.st HEa.out.bl HLL.out HEE.out Hkd.out).mono ?_); rintro e w11 ⟨cs, x, rfl, hx, hap, hm, hi, hb, hk⟩; have HAP := A_ (ap_more HEa.out.ar HEa.out.kr HEa.out.ap hap hm); have HER := A_ hx; clear hap hx; have HM := A_ (kG.M_mono (ok' := fun k_ => (w.heap.size ≤ k_ ∧ k_ ≠ ge ∧ k_ ≠ gr) ∧ some k_ ≠ v5.ownBlock) (fun k_ hk_ => ⟨HEa.out.fresh_ k_ hk_, fun e_ => by have := Kd.R_lt HEa.out.kr k_ e_.symm; omega⟩) hm); have HEb := A_ (HEa.out.state hi hb hk); obtain ⟨u3, u5, hcs, g3, g5, -, -⟩ := kG_openM hm; obtain rfl : cs = #[.int .i64 x.f0, .int .i64 x.f1, .string x.f2, u3, .string x.f4, u5] := Array.ext' hcs; obtain ⟨A3', c3', rfl⟩ := Kd.R_slice g3; obtain ⟨A5', c5', rfl⟩ := Kd.R_slice g5; clear hm hcs g3 g5 hi hb hk HEa hnm hsp) | ((with_reducible refine gate_dst (N := 8) rfl ?_); refine bZ_ 43 ?_; intro gk hg_ w12 hbox hb; have HGK := A_ hg_; have HBX := A_ hb; have HXK := A_ hbox; have HNK := A_ (show ∀ k, v5.ownBlock = some k → k < gk from fun k hk => by have := Kd.R_lt HEb.out.kr k hk; rw [hg_]; exact this); obtain ⟨he0, he1, he2, he3, he4, he5, hf0, hf1, hf2, hf3, hf4, hf5⟩ := bk6_ hbox; clear hg_ hb hbox))
      have HGN := A_ (show w.heap.size ≤ gk ∧ w0.heap.size ≤ gk from by have h1_ := HEb.out.kp.1; have h2_ := HEb.out.g0; rw [HGK.out]; exact ⟨h1_, Nat.le_trans h2_ h1_⟩);have hb6 := set6 HBX.out (Nat.le_of_eq HGK.out.symm) (.int .i64 x.f0) (.int .i64 x.f1) (.string x.f2) (.slice A3' x.f3.length c3') (.string x.f4) (.slice A5' x.f5.length c5');have HEc := A_ (HEb.out.below hb6).drew;have HMd := A_ (Kd.M_below (Kd.M_below HM.out hb6) (below_drew (Below.refl _ _)));have HXc := A_ (blk_drew (blk_six HXK.out (.int .i64 x.f0) (.int .i64 x.f1) (.string x.f2) (.slice A3' x.f3.length c3') (.string x.f4) (.slice A5' x.f5.length c5')));obtain ⟨A5, c5, rfl⟩ := Kd.R_slice HEc.out.kr;clear HEb HM HXK HBX hb6 he0 he1 he2 he3 he4 he5 hf0 hf1 hf2 hf3 hf4 hf5;refine start_ (n := 10) (S := fun w' => w'.cell? ⟨ge, 5, none⟩ = some (.slice A5 kids.length c5) ∧ w'.heap[gk]? = some (.cells #[.int .i64 x.f0, .int .i64 x.f1, .string x.f2, .slice A3' x.f3.length c3', .string x.f4, .slice A5' x.f5.length c5'] 43 (0, 0))) (ds := [7, 9]) (tS 10 0) (by kernel_rfl) rfl rfl ⟨(blk_cell HEc.out.el 5).trans rfl, HXc.out⟩ (fun hHeld => ?_);generalize World.drew _ = wr0 at HEc HXc HMd hHeld ⊢;refine pq_ ?_;refine tq_ rfl (by rintro w' ⟨s0, s1⟩; go_simp; with_reducible rfl) ?_;refine tq_ rfl (by rintro w' ⟨s0, s1⟩; obtain ⟨z0, z1, z2, z3, z4, z5⟩ := bc6_ s1; go_simp; with_reducible rfl) ?_;refine pq_ ?_;refine n1_ 4 (tS 10 5) rfl fun K hK => ?_
      refine lit_step ?hw (v := .slice (some ⟨wr0.heap.size, 0, none⟩) 1 1) (w1' := wr0.alloc (.cells #[.int .i64 0, .int .i64 0, .string ⟨#[]⟩, .slice none 0 0, .string ⟨#[]⟩, .slice none 0 0] 43)) ?hr ?_; (case hw => rfl); (case hr => first | (go_simp; done) | (go_simp; rfl));intro wr4 hwr4;refine hK.out _ _ (by rw [hwr4]; exact ⟨(blk_cell (blk_alloc HEc.out.el _) 5).trans rfl, blk_alloc HXc.out _⟩) (fun hHeld => ?_);clear hK K;refine nm_ ?_;refine n1_ 5 (tS 10 6) rfl fun K hK => ?_
      subst hwr4; refine Kd.R_append_step kG (w0 := w0) w0.heap.size ?hw (.tmp 49) (.tmp 52) 41 43 (.agg #[.int .i64 0, .int .i64 0, .string ⟨#[]⟩, .slice none 0 0, .string ⟨#[]⟩, .slice none 0 0]) 96 rfl Tryz.underlying41 (by kernel_rfl) rfl de_ om_ (.slice A5 kids.length c5) kids zG [.int .i64 0, .int .i64 0, .string ⟨#[]⟩, .slice none 0 0, .string ⟨#[]⟩, .slice none 0 0] (fun k_ => w.heap.size ≤ k_ ∧ k_ ≠ ge ∧ k_ ≠ gr) (fun _ => False) rfl rfl ?aP (fun _ hk => hk.elim) ?aF ?aO ?aB ?aS ?aL ?_; (case hw => rfl); (case aP => exact kG_mkM _ _ _ zG (Kd.R_nil _ _ _ _ _) (Kd.R_nil _ _ _ _ _) rfl rfl); (case aF => exact HEc.out.fresh_); (case aO => exact HEc.out.kr); (case aB => exact HEc.out.bl); (case aS => exact HEc.out.bl.size); (case aL => have := HL.out; rw [erL_len] at this; omega);intro v5' wr5 ho hb hg hat;obtain ⟨gw, cw, rfl, hbw, hlw, hcw⟩ := Kd.R_form ho si_;have HEd := A_ (HEc.out.row_ ho hb hg (by rw [tbL_append, tbL_one, zG, tb, tbL]; simpa [Value.ownBlock] using HEc.out.ap));have HMe := A_ (Kd.M_after HMd.out hg hat);have HXd := A_ (blk_grown HXc.out hg (fun e_ => by have := HNK.out gk e_.symm; omega));clear ho hb hg hat HEc HMd HXc;refine hK.out _ _ ⟨(blk_cell HEd.out.el 5).trans rfl, HXd.out⟩ (fun hHeld => ?_);clear hK K;refine nm_ ?_;have hlt9 := eq_true (show (kids.length : Int) < (kids.length : Int) + 1 by omega);refine pq_ ?_;refine pg_ 8 (tB 10 383) ?_;refine two_last (i := 7) (j := 9) (Ni := none) (Nj := none) (tS 10 9) (tB 10 895) rfl rfl rfl rfl (by kernel_rfl) de_ de_ (fun K hK => ?_) (fun K hK => ?_)
      ·skip
       refine el_step ?hw ?hN 43 (.tmp 54) (.tmp 50) ?ho (base := w0.heap.size) (i := (kids.length : Int)) (x' := x) (cs := #[.int .i64 x.f0, .int .i64 x.f1, .string x.f2, .slice A3' x.f3.length c3', .string x.f4, .slice A5' x.f5.length c5']) ?ha ?hx (by kernel_rfl) HEd.out.kr om_ (by simp only [List.length_append, List.length_cons, List.length_nil]; omega) HMe.out (fun k_ hk_ => ⟨hk_.1, fun e_ => hk_.2 (by rw [e_]; rfl)⟩) ?_; (case hw => rfl); (case hN => rfl); (case ho => rfl); (case ha => rfl); (case hx => rfl);intro wr7 hr7 hg7;rw [Int.toNat_natCast, set_last] at hr7;have n1_ := A_ (HEd.out.row_ hr7 (HEd.out.bl.grown hg7 HEd.out.bl.size (fun k_ hk_ => by obtain rfl := sI_ hk_; exact hbw)) hg7 HAP.out);clear HEd hr7 hg7 HMe;have HEd := n1_;clear n1_;refine hK.out _ _ ?_;clear hK K;refine last_ (i := 9) (N := none) (tS 10 10) rfl rfl (by kernel_rfl) de_ (fun K hK => ?_);refine put_step1 ?hw ?hN 41 (.tmp 55) (.tmp 53) ?ho (g := ge) (j := 5) (u := .slice (some ⟨gw, 0, none⟩) (kids ++ [zG]).length cw) ?ha ?hx rfl (by kernel_rfl) HEd.out.el si_ rfl ?_; (case hw => rfl); (case hN => rfl); (case ho => rfl); (case ha => rfl); (case hx => rfl);have n1_ := A_ (HEd.out.kids_ (.slice (some ⟨gw, 0, none⟩) (kids ++ [zG]).length cw));(try (have n2_ := A_ (Kd.M_far (p := ⟨ge, 5, none⟩) HMe.out (fun k_ hk_ => hk_.1.2.1) (.slice (some ⟨gw, 0, none⟩) (kids ++ [zG]).length cw)); clear HMe; have HMe := n2_; clear n2_))
       clear HEd;have HEd := n1_;clear n1_;refine hK.out _ _ ?_;clear hK K;refine done_ (by kernel_rfl) ?_;go_wp2
       go_roundg m
       case measure => omega
       case rel => exact ⟨_, _, _, _, _, ⟨by rw [erL_append, erL_one, HER.out]; exact HH.out⟩, HEd, ⟨by have := HN.out; omega⟩⟩
      ·skip
       refine put_step1 ?hw ?hN 41 (.tmp 55) (.tmp 53) ?ho (g := ge) (j := 5) (u := .slice (some ⟨gw, 0, none⟩) (kids ++ [zG]).length cw) ?ha ?hx rfl (by kernel_rfl) HEd.out.el si_ rfl ?_; (case hw => rfl); (case hN => rfl); (case ho => rfl); (case ha => rfl); (case hx => rfl);have n1_ := A_ (HEd.out.kids_ (.slice (some ⟨gw, 0, none⟩) (kids ++ [zG]).length cw));(try (have n2_ := A_ (Kd.M_far (p := ⟨ge, 5, none⟩) HMe.out (fun k_ hk_ => hk_.1.2.1) (.slice (some ⟨gw, 0, none⟩) (kids ++ [zG]).length cw)); clear HMe; have HMe := n2_; clear n2_))
       clear HEd;have HEd := n1_;clear n1_;refine hK.out _ _ ?_;clear hK K;refine last_ (i := 7) (N := none) (tS 10 10) rfl rfl (by kernel_rfl) de_ (fun K hK => ?_);refine el_step ?hw ?hN 43 (.tmp 54) (.tmp 50) ?ho (base := w0.heap.size) (i := (kids.length : Int)) (x' := x) (cs := #[.int .i64 x.f0, .int .i64 x.f1, .string x.f2, .slice A3' x.f3.length c3', .string x.f4, .slice A5' x.f5.length c5']) ?ha ?hx (by kernel_rfl) HEd.out.kr om_ (by simp only [List.length_append, List.length_cons, List.length_nil]; omega) HMe.out (fun k_ hk_ => ⟨hk_.1, fun e_ => hk_.2 (by rw [e_]; rfl)⟩) ?_; (case hw => rfl); (case hN => rfl); (case ho => rfl); (case ha => rfl); (case hx => rfl);intro wr7 hr7 hg7;rw [Int.toNat_natCast, set_last] at hr7;have n1_ := A_ (HEd.out.row_ hr7 (HEd.out.bl.grown hg7 HEd.out.bl.size (fun k_ hk_ => by obtain rfl := sI_ hk_; exact hbw)) hg7 HAP.out);clear HEd hr7 hg7 HMe;have HEd := n1_;clear n1_;refine hK.out _ _ ?_;clear hK K;refine done_ (by kernel_rfl) ?_;go_wp2
       go_roundg m
       case measure => omega
       case rel => exact ⟨_, _, _, _, _, ⟨by rw [erL_append, erL_one, HER.out]; exact HH.out⟩, HEd, ⟨by have := HN.out; omega⟩⟩
theorem reader_all : ∀ k, ElC k ∧ KidC k := by
 intro k;induction k using Nat.strongRecOn with
 | _ k ih =>
 refine ⟨?_, ?_⟩
 ·cases k with
  | zero => exact fun g about deep s p b r r2 r3 r4 w0 w _ _ _ _ h => by simp [readEl] at h
  | succ n => exact element_step n (fun m hm => (ih m om_).2)
 ·cases k with
  | zero => exact fun g about deep s p b r r2 r3 r4 w0 w _ _ _ _ h => by simp [readKid] at h
  | succ n => exact kid_step n (ih n (Nat.lt_succ_self n)).1
def impl_reader_element.f (k : Nat) (s : BA) (p : Int) (b : Bool) (about deep : Int) : Option (S43 × ByteArray × Int × Bool) := readEl k about deep s p b
theorem impl_reader_element.mono : ∀ s p b about deep k, LeO (impl_reader_element.f k s p b about deep) (impl_reader_element.f (k + 1) s p b about deep) := fun _ _ _ _ _ k => (readEl_mono_all k).1 _ _ _ _ _
theorem impl_reader_element.calls (k g : Nat) (about deep : Int) (s : BA) (p : Int) (b : Bool) (r : S43) (r2 : BA) (r3 : Int) (r4 : Bool) (w0 w : World) (hI : IsS93 w0 w g s p b) (hB : Below w0.heap.size w0 w) (hL : LibOk w0) (hE : LibErr w0) (h : impl_reader_element.f k s p b about deep = some (r, r2, r3, r4)) :
  Calls Tryz.prog 86 #[.pointer (some ⟨g, 0, none⟩), .int .i64 about, .int .i64 deep] w (ElPost w0 w g r r2 r3 r4) := (reader_all k).1 g about deep s p b r r2 r3 r4 w0 w hI hB hL hE h
end Go.Proofs.YtkmmoheeoblmnaaGreatDoor.A
namespace Go.Proofs.YtkmmoheeoblmnaaGreatDoor.A
open Go.RowKit Go.Proofs.YtkmmoheeoblmnaaGreatDoorW.PrintWords Go.Proofs.YtkmmoheeoblmnaaGreatDoorW.PrintLast Go.Proofs.YtkmmoheeoblmnaaGreatDoorW.PrintMore
attribute [local go_sem] max2_int min2_int max_two min_two max_three min_three max_four min_four
set_option linter.unusedVariables false
set_option linter.unusedSimpArgs false
def spec_l5Stands.f (a0 : BA) (a1 : Int) (a2 : BA) : Option (Bool) := if (wrap64 (a1 + (a2.size : Int))) ≤ (a0.size : Int) then (if 0 ≤ a1 then (if a1 ≤ (wrap64 (a1 + (a2.size : Int))) then (some ((a0.extract (a1 : Int).toNat ((wrap64 (a1 + (a2.size : Int))) : Int).toNat).toList == a2.toList)) else (none)) else (none)) else (some false)
theorem spec_l5Stands.calls (a0 : BA) (a1 : Int) (a2 : BA) (r : Bool) (w : World) (h : spec_l5Stands.f a0 a1 a2 = some r) :
  Calls Tryz.prog 69 #[.string a0, .int .i64 a1, .string a2] w fun e w' => e = .returned (.bool r) ∧ Drawn0 w w' := by
 have H : (if (wrap64 (a1 + (a2.size : Int))) ≤ (a0.size : Int) then (if 0 ≤ a1 then (if a1 ≤ (wrap64 (a1 + (a2.size : Int))) then (some ((a0.extract (a1 : Int).toNat ((wrap64 (a1 + (a2.size : Int))) : Int).toNat).toList == a2.toList)) else (none)) else (none)) else (some false)) = some r := h;clear h;rcases ic_ H with ⟨c4, H⟩ | ⟨c4, H⟩
 ·have c4b0 := dE_ c4;clear c4;obtain ⟨c5, H⟩ := ifn_ H;have c5b0 := eq_true c5;have c5b1 := dE_ c5;clear c5;obtain ⟨c6, H⟩ := ifn_ H;have c6b0 := eq_true c6;have c6b1 := dE_ c6;have c7b0 := eq_true (dT_ : (wrap64 (a1 + (a2.size : Int))) ≤ (a0.size : Int));obtain rfl := sI_ H;go_enter Tryz.func69, Tryz.ntmps69
  go_wp2
  go_ret
  exact ⟨e2_, d0_⟩
 ·have c4b0 := dF_ c4;clear c4;obtain rfl := sI_ H;go_enter Tryz.func69, Tryz.ntmps69
  go_wp2
  go_ret
  exact ⟨e2_, d0_⟩
def IsS89 (w0 W : World) (g : Nat) (f0 : BA) (f1 : Int) (f2 : Bool) : Prop := W.heap[g]? = some (.cells #[.string f0, .int .i64 f1, .bool f2] 89 (0, 0)) ∧ w0.heap.size ≤ g
theorem IsS89.grown {w0 W : World} {g : Nat} {f0 : BA} {f1 : Int} {f2 : Bool} {W1 : World} {row : Option Nat} (h : IsS89 w0 W g f0 f1 f2) (hw : W.grownBy W1 row) (hne : some g ≠ row) : IsS89 w0 W1 g f0 f1 f2 := by
 obtain ⟨hb, hg⟩ := h;exact ⟨blk_grown hb hw hne, hg⟩
theorem IsS89.kept {w0 W : World} {g : Nat} {f0 : BA} {f1 : Int} {f2 : Bool} {W1 : World} {S : Nat → Prop} (h : IsS89 w0 W g f0 f1 f2) (hk : Kept W W1 S) (hne : ¬ S g) : IsS89 w0 W1 g f0 f1 f2 := by
 obtain ⟨hb, hg⟩ := h;exact ⟨blk_kept hb hk hne, hg⟩
theorem IsS89.below {w0 W : World} {g : Nat} {f0 : BA} {f1 : Int} {f2 : Bool} {W1 : World} (h : IsS89 w0 W g f0 f1 f2) (hw : Below W.heap.size W W1) : IsS89 w0 W1 g f0 f1 f2 := h.grown (grown_of_below hw none) si_
theorem IsS89.alloc {w0 W : World} {g : Nat} {f0 : BA} {f1 : Int} {f2 : Bool} (h : IsS89 w0 W g f0 f1 f2) (o : Obj) : IsS89 w0 (W.alloc o) g f0 f1 f2 := h.below (bA9 (Below.refl _ _) o)
theorem IsS89.drewN {w0 W : World} {g : Nat} {f0 : BA} {f1 : Int} {f2 : Bool} (h : IsS89 w0 W g f0 f1 f2) (m : Nat) : IsS89 w0 (W.drewN m) g f0 f1 f2 := h
theorem IsS89.drew {w0 W : World} {g : Nat} {f0 : BA} {f1 : Int} {f2 : Bool} (h : IsS89 w0 W g f0 f1 f2) : IsS89 w0 W.drew g f0 f1 f2 := h
theorem IsS89.at_ {w0 W : World} {g : Nat} {f0 : BA} {f1 : Int} {f2 : Bool} {w' : World} {m : Nat} (hq : W.drewN m = w') (h : IsS89 w0 W g f0 f1 f2) : IsS89 w0 w' g f0 f1 f2 := by subst hq; exact IsS89.drewN h m
theorem IsS89.apart {w0 W : World} {g : Nat} {f0 : BA} {f1 : Int} {f2 : Bool} {α : Type} {d : Kd α} {e : Nat} {base : Nat} {ok : Nat → Prop} {v : Value} {xs : List α} (h : IsS89 w0 W g f0 f1 f2) (ho : d.R e W base ok v xs) (ht : ∀ q, q ∈ e :: d.E → q ≠ 89) : d.R e W base (fun k => ok k ∧ k ≠ g) v xs := by
 obtain ⟨hb, hg⟩ := h;exact Kd.R_types ho hb ht
theorem IsS89.own_ne {w0 W : World} {g : Nat} {f0 : BA} {f1 : Int} {f2 : Bool} {α : Type} {d : Kd α} {e : Nat} {base : Nat} {ok : Nat → Prop} {v : Value} {xs : List α} (h : IsS89 w0 W g f0 f1 f2) (ho : d.R e W base ok v xs) (ht : e ≠ 89) : some g ≠ v.ownBlock := by
 obtain ⟨hb, hg⟩ := h;exact Kd.R_ne ho hb ht
theorem IsS89.lt {w0 W : World} {g : Nat} {f0 : BA} {f1 : Int} {f2 : Bool} (h : IsS89 w0 W g f0 f1 f2) : g < W.heap.size := by
 obtain ⟨hb, hg⟩ := h;exact blk_lt hb
theorem IsS89.ge {w0 W : World} {g : Nat} {f0 : BA} {f1 : Int} {f2 : Bool} (h : IsS89 w0 W g f0 f1 f2) : w0.heap.size ≤ g := by
 obtain ⟨hb, hg⟩ := h;exact hg
theorem IsS89.ne_blk {w0 W : World} {g : Nat} {f0 : BA} {f1 : Int} {f2 : Bool} {a : Nat} {cs : Array Value} {t : TypeId} {fr : Nat × Nat} (h : IsS89 w0 W g f0 f1 f2) (hb2 : W.heap[a]? = some (.cells cs t fr)) (ht : t ≠ 89) : g ≠ a := by
 obtain ⟨hb, hg⟩ := h;rintro rfl;rw [hb] at hb2;injection hb2 with hb2
 injection hb2 with _ ht2
 exact ht ht2.symm
theorem IsS89.far {w0 W : World} {g : Nat} {f0 : BA} {f1 : Int} {f2 : Bool} {p : Addr} (h : IsS89 w0 W g f0 f1 f2) (hne : g ≠ p.block) (u : Value) : IsS89 w0 (W.setCell p u) g f0 f1 f2 := by
 obtain ⟨hb, hg⟩ := h;exact ⟨blk_far hb hne u, hg⟩
theorem cellS89_0 {W : World} {g : Nat} {f0 : BA} {f1 : Int} {f2 : Bool} (h : W.heap[g]? = some (.cells #[.string f0, .int .i64 f1, .bool f2] 89 (0, 0))) : W.cell? ⟨g, 0, none⟩ = some (.string f0) := (blk_cell h 0).trans rfl
theorem IsS89.set_0 {w0 W : World} {g : Nat} {f0 : BA} {f1 : Int} {f2 : Bool} (h : IsS89 w0 W g f0 f1 f2) (x : BA) : IsS89 w0 (W.setCell ⟨g, 0, none⟩ (.string x)) g x f1 f2 := by
 obtain ⟨hb, hg⟩ := h;exact ⟨by simpa using blk_set hb 0 (.string x), hg⟩
theorem cellS89_1 {W : World} {g : Nat} {f0 : BA} {f1 : Int} {f2 : Bool} (h : W.heap[g]? = some (.cells #[.string f0, .int .i64 f1, .bool f2] 89 (0, 0))) : W.cell? ⟨g, 1, none⟩ = some (.int .i64 f1) := (blk_cell h 1).trans rfl
theorem IsS89.set_1 {w0 W : World} {g : Nat} {f0 : BA} {f1 : Int} {f2 : Bool} (h : IsS89 w0 W g f0 f1 f2) (x : Int) : IsS89 w0 (W.setCell ⟨g, 1, none⟩ (.int .i64 x)) g f0 x f2 := by
 obtain ⟨hb, hg⟩ := h;exact ⟨by simpa using blk_set hb 1 (.int .i64 x), hg⟩
theorem cellS89_2 {W : World} {g : Nat} {f0 : BA} {f1 : Int} {f2 : Bool} (h : W.heap[g]? = some (.cells #[.string f0, .int .i64 f1, .bool f2] 89 (0, 0))) : W.cell? ⟨g, 2, none⟩ = some (.bool f2) := (blk_cell h 2).trans rfl
theorem IsS89.set_2 {w0 W : World} {g : Nat} {f0 : BA} {f1 : Int} {f2 : Bool} (h : IsS89 w0 W g f0 f1 f2) (x : Bool) : IsS89 w0 (W.setCell ⟨g, 2, none⟩ (.bool x)) g f0 f1 x := by
 obtain ⟨hb, hg⟩ := h;exact ⟨by simpa using blk_set hb 2 (.bool x), hg⟩
theorem IsS89.new (w0 W : World) (f0 : BA) (f1 : Int) (f2 : Bool) (hB : Below w0.heap.size w0 W) : IsS89 w0 (W.alloc (.cells #[.string f0, .int .i64 f1, .bool f2] 89)) W.heap.size f0 f1 f2 := ⟨by simpa using heap_alloc_new W _, hB.size⟩
def spec_l19Take.f (s0_0 : BA) (s0_1 : Int) (s0_2 : Bool) (a1 : BA) : Option (ByteArray × Int × Bool) := if s0_2 = true then ((spec_l5Stands.f s0_0 s0_1 a1).bind fun t494 => (if t494 = true then (some (s0_0, wrap64 (s0_1 + (a1.size : Int)), s0_2)) else (some (s0_0, s0_1, false)))) else (some (s0_0, s0_1, false))
theorem spec_l19Take.calls (g : Nat) (s0_0 : BA) (s0_1 : Int) (s0_2 : Bool) (a1 : BA) (r1 : BA) (r2 : Int) (r3 : Bool) (w0 w : World) (hI : IsS89 w0 w g s0_0 s0_1 s0_2) (hB : Below w0.heap.size w0 w) (h : spec_l19Take.f s0_0 s0_1 s0_2 a1 = some (r1, r2, r3)) :
  Calls Tryz.prog 91 #[.pointer (some ⟨g, 0, none⟩), .string a1] w fun e w' => e = .returned (.tuple #[]) ∧ IsS89 w0 w' g r1 r2 r3 ∧ Below w0.heap.size w0 w' ∧ KeepBut w w' g none := by
 have HI0 := A_ hI;have HK := A_ (KeepBut.refl w g none);have HL := A_ hB.size;clear hI;have HW0 := A_ hB.size;have HB := A_ hB;clear hB;have H : (if s0_2 = true then ((spec_l5Stands.f s0_0 s0_1 a1).bind fun t494 => (if t494 = true then (some (s0_0, wrap64 (s0_1 + (a1.size : Int)), s0_2)) else (some (s0_0, s0_1, false)))) else (some (s0_0, s0_1, false))) = some (r1, r2, r3) := h;clear h;by_cases c3 : s0_2 = true
 ·subst c3;rw [if_pos rfl] at H;obtain ⟨t494, A4, H⟩ := ob_ H;(try dsimp only at H)
  by_cases c5 : t494 = true
  ·subst c5;rw [if_pos rfl] at H;obtain ⟨rfl, rfl, rfl⟩ := pj_ H;obtain ⟨HGz6, hgz6⟩ := HI0.out;have hcz6_0 := cellS89_0 HGz6;have hcz6_1 := cellS89_1 HGz6;have hcz6_2 := cellS89_2 HGz6;have hfz6_0 := blk_frozen HGz6 0;have hfz6_1 := blk_frozen HGz6 1;have hfz6_2 := blk_frozen HGz6 2;clear HGz6 hgz6;go_enter Tryz.func91, Tryz.ntmps91
   go_wp2_with (first | (go_at_call 69; (with_reducible refine (spec_l5Stands.calls s0_0 s0_1 a1 true _ A4.out).mono ?_); rintro e w' ⟨rfl, ⟨nd, rfl⟩⟩; (try exact dd_)))
   repeat (go_quiet (first | (go_at_call 69; (with_reducible refine (spec_l5Stands.calls s0_0 s0_1 a1 true _ A4.out).mono ?_); rintro e w' ⟨rfl, ⟨nd, rfl⟩⟩; (try exact dd_))); try go_wp2_with (first | (go_at_call 69; (with_reducible refine (spec_l5Stands.calls s0_0 s0_1 a1 true _ A4.out).mono ?_); rintro e w' ⟨rfl, ⟨nd, rfl⟩⟩; (try exact dd_))))
   first | go_end0 | ((try simp only [Exit.inBlock, Exit.then]); refine bodyPost_ret (results_none rfl _ _ _) rfl ?_)
   exact ⟨e1_, by repeat (first | (with_reducible first | exact HI0.out | apply IsS89.alloc | apply IsS89.drewN | apply IsS89.drew | apply IsS89.set_0 | apply IsS89.set_1 | apply IsS89.set_2) | exact HI0.out), by repeat (first | (with_reducible first | exact HB.out | apply bA9 | apply bN9 | apply bD9 | refine below_set ?_ (IsS89.ge HI0.out)) | exact HB.out), by repeat (first | (with_reducible first | exact HK.out | apply KeepBut.set_ | apply keep_drewN | apply keep_drew | apply keep_alloc) | exact HK.out)⟩
  ·replace c5 := bF_ c5;subst c5;rw [if_neg nF_] at H;obtain ⟨rfl, rfl, rfl⟩ := pj_ H;obtain ⟨HGz7, hgz7⟩ := HI0.out;have hcz7_0 := cellS89_0 HGz7;have hcz7_1 := cellS89_1 HGz7;have hcz7_2 := cellS89_2 HGz7;have hfz7_0 := blk_frozen HGz7 0;have hfz7_1 := blk_frozen HGz7 1;have hfz7_2 := blk_frozen HGz7 2;clear HGz7 hgz7;go_enter Tryz.func91, Tryz.ntmps91
   go_wp2_with (first | (go_at_call 69; (with_reducible refine (spec_l5Stands.calls s0_0 s0_1 a1 false _ A4.out).mono ?_); rintro e w' ⟨rfl, ⟨nd, rfl⟩⟩; (try exact dd_)))
   repeat (go_quiet (first | (go_at_call 69; (with_reducible refine (spec_l5Stands.calls s0_0 s0_1 a1 false _ A4.out).mono ?_); rintro e w' ⟨rfl, ⟨nd, rfl⟩⟩; (try exact dd_))); try go_wp2_with (first | (go_at_call 69; (with_reducible refine (spec_l5Stands.calls s0_0 s0_1 a1 false _ A4.out).mono ?_); rintro e w' ⟨rfl, ⟨nd, rfl⟩⟩; (try exact dd_))))
   first | go_end0 | ((try simp only [Exit.inBlock, Exit.then]); refine bodyPost_ret (results_none rfl _ _ _) rfl ?_)
   exact ⟨e1_, by repeat (first | (with_reducible first | exact HI0.out | apply IsS89.alloc | apply IsS89.drewN | apply IsS89.drew | apply IsS89.set_0 | apply IsS89.set_1 | apply IsS89.set_2) | exact HI0.out), by repeat (first | (with_reducible first | exact HB.out | apply bA9 | apply bN9 | apply bD9 | refine below_set ?_ (IsS89.ge HI0.out)) | exact HB.out), by repeat (first | (with_reducible first | exact HK.out | apply KeepBut.set_ | apply keep_drewN | apply keep_drew | apply keep_alloc) | exact HK.out)⟩
 ·replace c3 := bF_ c3;subst c3;rw [if_neg nF_] at H;obtain ⟨rfl, rfl, rfl⟩ := pj_ H;obtain ⟨HGz8, hgz8⟩ := HI0.out;have hcz8_0 := cellS89_0 HGz8;have hcz8_1 := cellS89_1 HGz8;have hcz8_2 := cellS89_2 HGz8;have hfz8_0 := blk_frozen HGz8 0;have hfz8_1 := blk_frozen HGz8 1;have hfz8_2 := blk_frozen HGz8 2;clear HGz8 hgz8;go_enter Tryz.func91, Tryz.ntmps91
  go_wp2
  repeat (go_quiet (fail); try go_wp2)
  first | go_end0 | ((try simp only [Exit.inBlock, Exit.then]); refine bodyPost_ret (results_none rfl _ _ _) rfl ?_)
  exact ⟨e1_, by repeat (first | (with_reducible first | exact HI0.out | apply IsS89.alloc | apply IsS89.drewN | apply IsS89.drew | apply IsS89.set_0 | apply IsS89.set_1 | apply IsS89.set_2) | exact HI0.out), by repeat (first | (with_reducible first | exact HB.out | apply bA9 | apply bN9 | apply bD9 | refine below_set ?_ (IsS89.ge HI0.out)) | exact HB.out), by repeat (first | (with_reducible first | exact HK.out | apply KeepBut.set_ | apply keep_drewN | apply keep_drew | apply keep_alloc) | exact HK.out)⟩
def spec_l1In.f (a0 : Int) (a1 : Int) (a2 : Int) : Option (Bool) := if a0 ≥ a1 then (some (decide (a0 ≤ a2))) else (some false)
theorem spec_l1In.calls (a0 : Int) (a1 : Int) (a2 : Int) (r : Bool) (w : World) (h : spec_l1In.f a0 a1 a2 = some r) :
  Calls Tryz.prog 111 #[.int .i64 a0, .int .i64 a1, .int .i64 a2] w fun e w' => e = .returned (.bool r) ∧ Drawn0 w w' := by
 have H : (if a0 ≥ a1 then (some (decide (a0 ≤ a2))) else (some false)) = some r := h;clear h;rcases ic_ H with ⟨c4, H⟩ | ⟨c4, H⟩
 ·have c4b0 : decide (a1 ≤ a0) = true := dE_ c4;clear c4;obtain rfl := sI_ H;go_enter Tryz.func111, Tryz.ntmps111
  go_wp2
  go_ret
  exact ⟨e2_, d0_⟩
 ·have c4b0 : decide (a1 ≤ a0) = false := dF_ c4;clear c4;obtain rfl := sI_ H;go_enter Tryz.func111, Tryz.ntmps111
  go_wp2
  go_ret
  exact ⟨e2_, d0_⟩
def spec_l1Many.f (a0 : Int) : Option (Int) := if a0 < 128 then (some 1) else ((spec_l1In.f a0 194 223).bind fun t248 => (if t248 = true then (some 2) else ((spec_l1In.f a0 224 239).bind fun t249 => (if t249 = true then (some 3) else ((spec_l1In.f a0 240 244).bind fun t250 => (if t250 = true then (some 4) else (some 0)))))))
theorem spec_l1Many.calls (a0 : Int) (r : Int) (w : World) (h : spec_l1Many.f a0 = some r) :
  Calls Tryz.prog 109 #[.int .i64 a0] w fun e w' => e = .returned (.int .i64 r) ∧ Drawn0 w w' := by
 have H : (if a0 < 128 then (some 1) else ((spec_l1In.f a0 194 223).bind fun t248 => (if t248 = true then (some 2) else ((spec_l1In.f a0 224 239).bind fun t249 => (if t249 = true then (some 3) else ((spec_l1In.f a0 240 244).bind fun t250 => (if t250 = true then (some 4) else (some 0)))))))) = some r := h;clear h;rcases ic_ H with ⟨c2, H⟩ | ⟨c2, H⟩
 ·have c2b0 := dE_ c2;clear c2;obtain rfl := sI_ H;go_enter Tryz.func109, Tryz.ntmps109
  go_wp2
  go_ret
  exact ⟨e2_, d0_⟩
 ·have c2b0 := dF_ c2;clear c2;obtain ⟨t248, A3, H⟩ := ob_ H;(try dsimp only at H)
  by_cases c4 : t248 = true
  ·subst c4;rw [if_pos rfl] at H;obtain rfl := sI_ H;go_enter Tryz.func109, Tryz.ntmps109
   go_wp2_with (first | ((with_reducible refine gC_ 111 ?_); refine gL_ 8 Tryz.func111 #[.int .i64 a0, .int .i64 194, .int .i64 223] ?_; refine dm_ (spec_l1In.calls a0 194 223 true _ A3.out) fun nd => ?_))
   go_ret
   exact ⟨e2_, d0_⟩
  ·replace c4 := bF_ c4;subst c4;rw [if_neg nF_] at H;obtain ⟨t249, A5, H⟩ := ob_ H;(try dsimp only at H)
   by_cases c6 : t249 = true
   ·subst c6;rw [if_pos rfl] at H;obtain rfl := sI_ H;go_enter Tryz.func109, Tryz.ntmps109
    go_wp2_with (first | ((with_reducible refine gC_ 111 ?_); refine gL_ 8 Tryz.func111 #[.int .i64 a0, .int .i64 194, .int .i64 223] ?_; refine dm_ (spec_l1In.calls a0 194 223 false _ A3.out) fun nd => ?_) | ((with_reducible refine gC_ 111 ?_); refine gL_ 11 Tryz.func111 #[.int .i64 a0, .int .i64 224, .int .i64 239] ?_; refine dm_ (spec_l1In.calls a0 224 239 true _ A5.out) fun nd => ?_))
    go_ret
    exact ⟨e2_, d0_⟩
   ·replace c6 := bF_ c6;subst c6;rw [if_neg nF_] at H;obtain ⟨t250, A7, H⟩ := ob_ H;(try dsimp only at H)
    by_cases c8 : t250 = true
    ·subst c8;rw [if_pos rfl] at H;obtain rfl := sI_ H;go_enter Tryz.func109, Tryz.ntmps109
     go_wp2_with (first | ((with_reducible refine gC_ 111 ?_); refine gL_ 8 Tryz.func111 #[.int .i64 a0, .int .i64 194, .int .i64 223] ?_; refine dm_ (spec_l1In.calls a0 194 223 false _ A3.out) fun nd => ?_) | ((with_reducible refine gC_ 111 ?_); refine gL_ 11 Tryz.func111 #[.int .i64 a0, .int .i64 224, .int .i64 239] ?_; refine dm_ (spec_l1In.calls a0 224 239 false _ A5.out) fun nd => ?_) | ((with_reducible refine gC_ 111 ?_); refine gL_ 14 Tryz.func111 #[.int .i64 a0, .int .i64 240, .int .i64 244] ?_; refine dm_ (spec_l1In.calls a0 240 244 true _ A7.out) fun nd => ?_))
     go_ret
     exact ⟨e2_, d0_⟩
    ·replace c8 := bF_ c8;subst c8;rw [if_neg nF_] at H;obtain rfl := sI_ H;go_enter Tryz.func109, Tryz.ntmps109
     go_wp2_with (first | ((with_reducible refine gC_ 111 ?_); refine gL_ 8 Tryz.func111 #[.int .i64 a0, .int .i64 194, .int .i64 223] ?_; refine dm_ (spec_l1In.calls a0 194 223 false _ A3.out) fun nd => ?_) | ((with_reducible refine gC_ 111 ?_); refine gL_ 11 Tryz.func111 #[.int .i64 a0, .int .i64 224, .int .i64 239] ?_; refine dm_ (spec_l1In.calls a0 224 239 false _ A5.out) fun nd => ?_) | ((with_reducible refine gC_ 111 ?_); refine gL_ 14 Tryz.func111 #[.int .i64 a0, .int .i64 240, .int .i64 244] ?_; refine dm_ (spec_l1In.calls a0 240 244 false _ A7.out) fun nd => ?_))
     go_ret
     exact ⟨e2_, d0_⟩
def spec_l1Second.f (a0 : Int) (a1 : Int) : Option (Bool) := if a0 = 224 then ((spec_l1In.f a1 160 191).bind fun t251 => (some t251)) else (if a0 = 237 then ((spec_l1In.f a1 128 159).bind fun t252 => (some t252)) else (if a0 = 240 then ((spec_l1In.f a1 144 191).bind fun t253 => (some t253)) else (if a0 = 244 then ((spec_l1In.f a1 128 143).bind fun t254 => (some t254)) else ((spec_l1In.f a1 128 191).bind fun t255 => (some t255)))))
theorem spec_l1Second.calls (a0 : Int) (a1 : Int) (r : Bool) (w : World) (h : spec_l1Second.f a0 a1 = some r) :
  Calls Tryz.prog 110 #[.int .i64 a0, .int .i64 a1] w fun e w' => e = .returned (.bool r) ∧ Drawn0 w w' := by
 have H : (if a0 = 224 then ((spec_l1In.f a1 160 191).bind fun t251 => (some t251)) else (if a0 = 237 then ((spec_l1In.f a1 128 159).bind fun t252 => (some t252)) else (if a0 = 240 then ((spec_l1In.f a1 144 191).bind fun t253 => (some t253)) else (if a0 = 244 then ((spec_l1In.f a1 128 143).bind fun t254 => (some t254)) else ((spec_l1In.f a1 128 191).bind fun t255 => (some t255)))))) = some r := h;clear h;rcases ic_ H with ⟨c3, H⟩ | ⟨c3, H⟩
 ·obtain ⟨c3b0, c3b1⟩ := be_ c3;clear c3;obtain ⟨t251, A4, H⟩ := ob_ H;obtain rfl := sI_ H;go_enter Tryz.func110, Tryz.ntmps110
  go_wp2_with (first | ((with_reducible refine gC_ 111 ?_); refine gL_ 19 Tryz.func111 #[.int .i64 a1, .int .i64 160, .int .i64 191] ?_; refine dm_ (spec_l1In.calls a1 160 191 t251 _ A4.out) fun nd => ?_))
  go_ret
  exact ⟨e2_, d0_⟩
 ·obtain ⟨c3b0, c3b1⟩ := bn_ c3;rcases ic_ H with ⟨c5, H⟩ | ⟨c5, H⟩
  ·obtain ⟨c5b0, c5b1⟩ := be_ c5;clear c5;obtain ⟨t252, A6, H⟩ := ob_ H;obtain rfl := sI_ H;go_enter Tryz.func110, Tryz.ntmps110
   go_wp2_with (first | ((with_reducible refine gC_ 111 ?_); refine gL_ 19 Tryz.func111 #[.int .i64 a1, .int .i64 128, .int .i64 159] ?_; refine dm_ (spec_l1In.calls a1 128 159 t252 _ A6.out) fun nd => ?_))
   go_ret
   exact ⟨e2_, d0_⟩
  ·obtain ⟨c5b0, c5b1⟩ := bn_ c5;rcases ic_ H with ⟨c7, H⟩ | ⟨c7, H⟩
   ·obtain ⟨c7b0, c7b1⟩ := be_ c7;clear c7;obtain ⟨t253, A8, H⟩ := ob_ H;obtain rfl := sI_ H;go_enter Tryz.func110, Tryz.ntmps110
    go_wp2_with (first | ((with_reducible refine gC_ 111 ?_); refine gL_ 19 Tryz.func111 #[.int .i64 a1, .int .i64 144, .int .i64 191] ?_; refine dm_ (spec_l1In.calls a1 144 191 t253 _ A8.out) fun nd => ?_))
    go_ret
    exact ⟨e2_, d0_⟩
   ·obtain ⟨c7b0, c7b1⟩ := bn_ c7;rcases ic_ H with ⟨c9, H⟩ | ⟨c9, H⟩
    ·obtain ⟨c9b0, c9b1⟩ := be_ c9;clear c9;obtain ⟨t254, A10, H⟩ := ob_ H;obtain rfl := sI_ H;go_enter Tryz.func110, Tryz.ntmps110
     go_wp2_with (first | ((with_reducible refine gC_ 111 ?_); refine gL_ 19 Tryz.func111 #[.int .i64 a1, .int .i64 128, .int .i64 143] ?_; refine dm_ (spec_l1In.calls a1 128 143 t254 _ A10.out) fun nd => ?_))
     go_ret
     exact ⟨e2_, d0_⟩
    ·obtain ⟨c9b0, c9b1⟩ := bn_ c9;obtain ⟨t255, A11, H⟩ := ob_ H;obtain rfl := sI_ H;go_enter Tryz.func110, Tryz.ntmps110
     go_wp2_with (first | ((with_reducible refine gC_ 111 ?_); refine gL_ 19 Tryz.func111 #[.int .i64 a1, .int .i64 128, .int .i64 191] ?_; refine dm_ (spec_l1In.calls a1 128 191 t255 _ A11.out) fun nd => ?_))
     go_ret
     exact ⟨e2_, d0_⟩
mutual
def spec_GetSign.j0 : Nat → ByteArray → Int → Bool → Option (Int × Int)
 | 0, _, _, _ => none
 | k + 1, x0, x1, x17 => if x17 = true then (some (0, 0)) else (if 0 ≤ x1 then (if x1 < (x0.size : Int) then ((spec_l1Many.f (wrap64 (bt x0 x1))).bind fun t256 => (if t256 < 2 then (if t256 = 1 then (some (wrap64 (bt x0 x1), 1)) else (some (65533, 1))) else (if 0 ≤ t256 then (spec_GetSign.l0 k x0 x1 (wrap64 (bt x0 x1)) t256 (Go.bits .and .i64 (wrap64 (bt x0 x1)) (shr .i64 127 t256)) 1) else (none)))) else (none)) else (none))
def spec_GetSign.l0 : Nat → ByteArray → Int → Int → Int → Int → Int → Option (Int × Int)
 | 0, _, _, _, _, _, _ => none
 | k + 1, x0, x1, x6, x7, x8, x9 => if x9 < x7 then (if (wrap64 (x1 + x9)) ≥ (x0.size : Int) then (some (65533, x9)) else (if x9 = 1 then (if 0 ≤ (wrap64 (x1 + 1)) then (if (wrap64 (x1 + 1)) < (x0.size : Int) then ((spec_l1Second.f x6 (wrap64 (bt x0 (wrap64 (x1 + 1))))).bind fun t257 => (if t257 = true then (if 0 ≤ (wrap64 (x1 + x9)) then (if (wrap64 (x1 + x9)) < (x0.size : Int) then ((spec_l1In.f (wrap64 (bt x0 (wrap64 (x1 + x9)))) 128 191).bind fun t258 => (if t258 = true then (spec_GetSign.l0 k x0 x1 x6 x7 (wrap64 ((wrap64 (x8 * 64)) + (Go.bits .and .i64 (wrap64 (bt x0 (wrap64 (x1 + x9)))) 63))) (wrap64 (x9 + 1))) else (some (65533, x9)))) else (none)) else (none)) else (some (65533, x9)))) else (none)) else (none)) else (if 0 ≤ (wrap64 (x1 + x9)) then (if (wrap64 (x1 + x9)) < (x0.size : Int) then ((spec_l1In.f (wrap64 (bt x0 (wrap64 (x1 + x9)))) 128 191).bind fun t259 => (if t259 = true then (spec_GetSign.l0 k x0 x1 x6 x7 (wrap64 ((wrap64 (x8 * 64)) + (Go.bits .and .i64 (wrap64 (bt x0 (wrap64 (x1 + x9)))) 63))) (wrap64 (x9 + 1))) else (some (65533, x9)))) else (none)) else (none)))) else (some (x8, x7))
end
def spec_GetSign.f (k : Nat) (a0 : BA) (a1 : Int) : Option (Int × Int) := if a1 < 0 then (spec_GetSign.j0 k a0 a1 true) else (spec_GetSign.j0 k a0 a1 (decide (a1 ≥ (a0.size : Int))))
theorem spec_GetSign.mono_l : ∀ k, (∀ y0 y1 y2, LeO (spec_GetSign.j0 k y0 y1 y2) (spec_GetSign.j0 (k + 1) y0 y1 y2)) ∧ (∀ y0 y1 y2 y3 y4 y5, LeO (spec_GetSign.l0 k y0 y1 y2 y3 y4 y5) (spec_GetSign.l0 (k + 1) y0 y1 y2 y3 y4 y5))
 | 0 => ⟨fun _ _ _ r h => by simp [spec_GetSign.j0] at h, fun _ _ _ _ _ _ r h => by simp [spec_GetSign.l0] at h⟩
 | k + 1 => by
  obtain ⟨ih0, ih1⟩ := spec_GetSign.mono_l k;refine ⟨?_, ?_⟩
  ·intro y0 y1 y2;unfold spec_GetSign.j0;with_reducible repeat' first | exact ih0 _ _ _ | exact ih1 _ _ _ _ _ _ | apply LeO.refl | apply LeO.none | apply LeO.ite | apply LeO.bind | intro
  ·intro y0 y1 y2 y3 y4 y5;unfold spec_GetSign.l0;with_reducible repeat' first | exact ih0 _ _ _ | exact ih1 _ _ _ _ _ _ | apply LeO.refl | apply LeO.none | apply LeO.ite | apply LeO.bind | intro
theorem spec_GetSign.mono : ∀ a0 a1 k, LeO (spec_GetSign.f k a0 a1) (spec_GetSign.f (k + 1) a0 a1) := by
 intro a0 a1 k;obtain ⟨ih0, ih1⟩ := spec_GetSign.mono_l k;unfold spec_GetSign.f;with_reducible repeat' first | exact ih0 _ _ _ | exact ih1 _ _ _ _ _ _ | apply LeO.refl | apply LeO.none | apply LeO.ite | apply LeO.bind | intro
theorem spec_GetSign.calls (k : Nat) (a0 : BA) (a1 : Int) (r1 : Int) (r2 : Int) (w : World) (h : spec_GetSign.f k a0 a1 = some (r1, r2)) :
  Calls Tryz.prog 58 #[.string a0, .int .i64 a1] w fun e w' => e = .returned (.tuple #[.int .i64 r1, .int .i64 r2]) ∧ Drawn0 w w' := by
 have H : (if a1 < 0 then (spec_GetSign.j0 k a0 a1 true) else (spec_GetSign.j0 k a0 a1 (decide (a1 ≥ (a0.size : Int))))) = some (r1, r2) := h;clear h;have HC3 := A_ H;clear H;go_enter Tryz.func58, Tryz.ntmps58
 go_upto_region 1 with (fail)
 go_cut [17] (fun v17 wc => ∃ (kq : Nat) (x17_2 : Bool), v17 = .bool x17_2 ∧ As9 (spec_GetSign.j0 kq a0 a1 x17_2 = some (r1, r2)) ∧ As9 (kq ≤ k) ∧ Drawn0 w wc)
 case first =>
  have H := HC3.out;clear HC3;rcases ic_ H with ⟨c4, H⟩ | ⟨c4, H⟩
  ·have c4b0 := dE_ c4;clear c4;(first | rw [c4b0] | (simp only [i64_w, i32_w]; rw [c4b0]) | skip)
   have H' := A_ H;clear H;go_wp2
   go_meet
   case rel => exact ⟨_, (true), e2_, H', ⟨by first | omega | exact Nat.le_refl _⟩, d0_⟩
  ·have c4b0 := dF_ c4;clear c4;(first | rw [c4b0] | (simp only [i64_w, i32_w]; rw [c4b0]) | skip)
   have H' := A_ H;clear H;go_wp2
   go_meet
   case rel => exact ⟨_, (decide (a1 ≥ (a0.size : Int))), e2_, H', ⟨by first | omega | exact Nat.le_refl _⟩, d0_⟩
 case rest =>
  clear HC3;try clear p2
  try clear c4
  try clear c4b0
  obtain ⟨kq, x17_2, rfl, HA, HJ2, ⟨mc2, rfl⟩⟩ := hcut;cases kq with
  | zero => exact absurd HA.out (by simp [spec_GetSign.j0])
  | succ kj2 =>
   have H := HA.out;clear HA;simp only [spec_GetSign.j0] at H;by_cases c5 : x17_2 = true
   ·subst c5;rw [if_pos rfl] at H;obtain ⟨rfl, rfl⟩ := pi_ H;go_wp2
    go_ret2
    exact ⟨e2_, d0_⟩
   ·replace c5 := bF_ c5;subst c5;rw [if_neg nF_] at H;obtain ⟨c6, H⟩ := ifn_ H;have c6b0 := dE_ c6;clear c6;obtain ⟨c7, H⟩ := ifn_ H;have c7b0 := dE_ c7;clear c7;obtain ⟨t256, A9, H⟩ := ob_ H;rcases ic_ H with ⟨c10, H⟩ | ⟨c10, H⟩
    ·have c10b0 := dE_ c10;clear c10;rcases ic_ H with ⟨c11, H⟩ | ⟨c11, H⟩
     ·obtain ⟨c11b0, c11b1⟩ := be_ c11;clear c11;obtain ⟨rfl, rfl⟩ := pi_ H;have p8 : 0 ≤ (a1 : Int) := dT_;have q8 : a1 < (a0.size : Int) := dT_;have hx8 := bt_at a0 a1;replace p8 := eq_true p8;replace q8 := eq_true q8;go_wp2_with (first | ((with_reducible refine gC_ 109 ?_); refine gL_ 23 Tryz.func109 #[.int .i64 (wrap64 (bt a0 a1))] ?_; refine dm_ (spec_l1Many.calls (wrap64 (bt a0 a1)) t256 _ A9.out) fun nd => ?_))
      go_ret2
      exact ⟨e2_, d0_⟩
     ·obtain ⟨c11b0, c11b1⟩ := bn_ c11;obtain ⟨rfl, rfl⟩ := pi_ H;have p8 : 0 ≤ (a1 : Int) := dT_;have q8 : a1 < (a0.size : Int) := dT_;have hx8 := bt_at a0 a1;replace p8 := eq_true p8;replace q8 := eq_true q8;go_wp2_with (first | ((with_reducible refine gC_ 109 ?_); refine gL_ 23 Tryz.func109 #[.int .i64 (wrap64 (bt a0 a1))] ?_; refine dm_ (spec_l1Many.calls (wrap64 (bt a0 a1)) t256 _ A9.out) fun nd => ?_))
      go_ret2
      exact ⟨e2_, d0_⟩
    ·have c10b0 := dF_ c10;clear c10;obtain ⟨c12, H⟩ := ifn_ H;have c12b0 := eq_true c12;have c12b1 := dE_ c12;clear c12;obtain ⟨ji13, hji13⟩ : ∃ j_ : Int, (shr .i64 127 t256) = j_ := ⟨_, rfl⟩;replace H : (spec_GetSign.l0 kj2 a0 a1 (wrap64 (bt a0 a1)) t256 (Go.bits .and .i64 (wrap64 (bt a0 a1)) (ji13)) 1) = some (r1, r2) := by first | (rw [hji13] at H; exact H) | (simp only [hji13] at H ⊢; exact H)
     (try rw [hji13] at A9)
     have hji13_ : (127 / 2 ^ min t256.toNat 64) = ji13 := hji13;have hji13z : t256 ≤ 64 → (127 / 2 ^ t256.toNat) = ji13 := shr_small hji13;have H' := A_ H;clear H;have p8 : 0 ≤ (a1 : Int) := dT_;have q8 : a1 < (a0.size : Int) := dT_;have hx8 := bt_at a0 a1;replace p8 := eq_true p8;replace q8 := eq_true q8;go_wp2_with (first | ((with_reducible refine gC_ 109 ?_); refine gL_ 23 Tryz.func109 #[.int .i64 (wrap64 (bt a0 a1))] ?_; refine dm_ (spec_l1Many.calls (wrap64 (bt a0 a1)) t256 _ A9.out) fun nd => ?_))
     go_loopg [8, 9] kj2 (fun kq v8 v9 w' => ∃ (x8_2 : Int) (x9_2 : Int), v8 = .int .i64 x8_2 ∧ v9 = .int .i64 x9_2 ∧ As9 (spec_GetSign.l0 kq a0 a1 (wrap64 (bt a0 a1)) t256 x8_2 x9_2 = some (r1, r2)) ∧ As9 (kq ≤ kj2) ∧ Drawn0 w w')
     case atStart => exact ⟨(Go.bits .and .i64 (wrap64 (bt a0 a1)) (ji13)), (1), (by first | rfl | (simp; done) | (simp only [← hji13] <;> (first | rfl | simp)) | (simp [*]; done)), e2_, H', ⟨Nat.le_refl _⟩, d0_⟩
     case round =>
      clear H';try clear c1
      try clear c2
      try clear p2
      try clear c4
      try clear c4b0
      try clear c5
      try clear c6
      try clear c6b0
      try clear p6
      try clear c7
      try clear c7b0
      try clear p8
      try clear q8
      try clear hx8
      try clear c10
      try clear c10b0
      try clear c11
      try clear c11b0
      try clear c11b1
      try clear c12
      try clear c12b0
      try clear c12b1
      try clear p2
      try clear p8
      try clear q8
      obtain ⟨x8_2, x9_2, rfl, rfl, HA, HK2, ⟨m2, rfl⟩⟩ := hrel;cases gk with
      | zero => exact absurd HA.out (by simp [spec_GetSign.l0])
      | succ k2 =>
       have H := HA.out;clear HA;simp only [spec_GetSign.l0] at H;rcases ic_ H with ⟨c14, H⟩ | ⟨c14, H⟩
       ·have c14b0 := dE_ c14;clear c14;rcases ic_ H with ⟨c15, H⟩ | ⟨c15, H⟩
        ·have c15b0 : decide ((a0.size : Int) ≤ (wrap64 (a1 + x9_2))) = true := dE_ c15;clear c15;obtain ⟨rfl, rfl⟩ := pi_ H;go_wp2
         go_ret2
         exact ⟨by first | rfl | (simp; done) | (simp only [← hji13] <;> (first | rfl | simp)) | (simp [*]; done), d0_⟩
        ·have c15b0 : decide ((a0.size : Int) ≤ (wrap64 (a1 + x9_2))) = false := dF_ c15;clear c15;rcases ic_ H with ⟨c16, H⟩ | ⟨c16, H⟩
         ·obtain ⟨c16b0, c16b1⟩ := be_ c16;clear c16;obtain ⟨ji17, hji17⟩ : ∃ j_ : Int, (wrap64 (a1 + 1)) = j_ := ⟨_, rfl⟩;replace H : (if 0 ≤ (ji17) then (if (ji17) < (a0.size : Int) then ((spec_l1Second.f (wrap64 (bt a0 a1)) (wrap64 (bt a0 (ji17)))).bind fun t257 => (if t257 = true then (if 0 ≤ (wrap64 (a1 + x9_2)) then (if (wrap64 (a1 + x9_2)) < (a0.size : Int) then ((spec_l1In.f (wrap64 (bt a0 (wrap64 (a1 + x9_2)))) 128 191).bind fun t258 => (if t258 = true then (spec_GetSign.l0 k2 a0 a1 (wrap64 (bt a0 a1)) t256 (wrap64 ((wrap64 (x8_2 * 64)) + (Go.bits .and .i64 (wrap64 (bt a0 (wrap64 (a1 + x9_2)))) 63))) (wrap64 (x9_2 + 1))) else (some (65533, x9_2)))) else (none)) else (none)) else (some (65533, x9_2)))) else (none)) else (none)) = some (r1, r2) := by first | (rw [hji17] at H; exact H) | (simp only [hji17] at H ⊢; exact H)
          have hji17w : (IntKind.i64.wrap (a1 + 1)) = ji17 := (i64_w _).trans hji17;obtain ⟨c18, H⟩ := ifn_ H;have c18b0 := dE_ c18;clear c18;obtain ⟨c19, H⟩ := ifn_ H;have c19b0 := dE_ c19;clear c19;obtain ⟨t257, A21, H⟩ := ob_ H;(try dsimp only at H)
          by_cases c22 : t257 = true
          ·subst c22;rw [if_pos rfl] at H;obtain ⟨ji23, hji23⟩ : ∃ j_ : Int, (wrap64 (a1 + x9_2)) = j_ := ⟨_, rfl⟩;replace H : (if 0 ≤ (ji23) then (if (ji23) < (a0.size : Int) then ((spec_l1In.f (wrap64 (bt a0 (ji23))) 128 191).bind fun t258 => (if t258 = true then (spec_GetSign.l0 k2 a0 a1 (wrap64 (bt a0 a1)) t256 (wrap64 ((wrap64 (x8_2 * 64)) + (Go.bits .and .i64 (wrap64 (bt a0 (ji23))) 63))) (wrap64 (x9_2 + 1))) else (some (65533, x9_2)))) else (none)) else (none)) = some (r1, r2) := by first | (rw [hji23] at H; exact H) | (simp only [hji23] at H ⊢; exact H)
           (try rw [hji23] at c15b0)
           (try rw [hji23] at A21)
           have hji23w : (IntKind.i64.wrap (a1 + x9_2)) = ji23 := (i64_w _).trans hji23;obtain ⟨c24, H⟩ := ifn_ H;have c24b0 := dE_ c24;clear c24;obtain ⟨c25, H⟩ := ifn_ H;have c25b0 := dE_ c25;clear c25;obtain ⟨t258, A27, H⟩ := ob_ H;(try dsimp only at H)
           by_cases c28 : t258 = true
           ·subst c28;rw [if_pos rfl] at H;have H' := A_ H;clear H;have p20 : 0 ≤ ((ji17) : Int) := dT_;have q20 : (ji17) < (a0.size : Int) := dT_;have hx20 := bt_at a0 (ji17);replace p20 := eq_true p20;replace q20 := eq_true q20;go_wp2_with (first | (go_at_call 110; (with_reducible refine (spec_l1Second.calls (wrap64 (bt a0 a1)) (wrap64 (bt a0 (ji17))) true _ A21.out).mono ?_); rintro e w' ⟨rfl, ⟨nd, rfl⟩⟩; have p26 : 0 ≤ ((ji23) : Int) := dT_; have q26 : (ji23) < (a0.size : Int) := dT_; have hx26 := bt_at a0 (ji23); replace p26 := eq_true p26; replace q26 := eq_true q26) | (go_at_call 111; (with_reducible refine (spec_l1In.calls (wrap64 (bt a0 (ji23))) 128 191 true _ A27.out).mono ?_); rintro e w' ⟨rfl, ⟨nd, rfl⟩⟩; have p29 : 0 ≤ ((ji23) : Int) := dT_; have q29 : (ji23) < (a0.size : Int) := dT_; have hx29 := bt_at a0 (ji23); replace p29 := eq_true p29; replace q29 := eq_true q29))
            go_roundg k2
            case measure => have := HJ2.out; have := HK2.out; omega
            case rel => exact ⟨(wrap64 ((wrap64 (x8_2 * 64)) + (Go.bits .and .i64 (wrap64 (bt a0 (ji23))) 63))), (wrap64 (x9_2 + 1)), (by first | rfl | (simp; done) | (simp only [← hji23] <;> (first | rfl | simp)) | (simp [*]; done)), e2_, H', ⟨by have := HJ2.out; have := HK2.out; omega⟩, d0_⟩
           ·replace c28 := bF_ c28;subst c28;rw [if_neg nF_] at H;obtain ⟨rfl, rfl⟩ := pi_ H;have p20 : 0 ≤ ((ji17) : Int) := dT_;have q20 : (ji17) < (a0.size : Int) := dT_;have hx20 := bt_at a0 (ji17);replace p20 := eq_true p20;replace q20 := eq_true q20;go_wp2_with (first | (go_at_call 110; (with_reducible refine (spec_l1Second.calls (wrap64 (bt a0 a1)) (wrap64 (bt a0 (ji17))) true _ A21.out).mono ?_); rintro e w' ⟨rfl, ⟨nd, rfl⟩⟩; have p26 : 0 ≤ ((ji23) : Int) := dT_; have q26 : (ji23) < (a0.size : Int) := dT_; have hx26 := bt_at a0 (ji23); replace p26 := eq_true p26; replace q26 := eq_true q26) | (go_at_call 111; (with_reducible refine (spec_l1In.calls (wrap64 (bt a0 (ji23))) 128 191 false _ A27.out).mono ?_); rintro e w' ⟨rfl, ⟨nd, rfl⟩⟩))
            go_ret2
            exact ⟨by first | rfl | (simp; done) | (simp only [← hji13, ← hji17, ← hji23] <;> (first | rfl | simp)) | (simp [*]; done), d0_⟩
          ·replace c22 := bF_ c22;subst c22;rw [if_neg nF_] at H;obtain ⟨rfl, rfl⟩ := pi_ H;have p20 : 0 ≤ ((ji17) : Int) := dT_;have q20 : (ji17) < (a0.size : Int) := dT_;have hx20 := bt_at a0 (ji17);replace p20 := eq_true p20;replace q20 := eq_true q20;go_wp2_with (first | (go_at_call 110; (with_reducible refine (spec_l1Second.calls (wrap64 (bt a0 a1)) (wrap64 (bt a0 (ji17))) false _ A21.out).mono ?_); rintro e w' ⟨rfl, ⟨nd, rfl⟩⟩))
           go_ret2
           exact ⟨by first | rfl | (simp; done) | (simp only [← hji13, ← hji17] <;> (first | rfl | simp)) | (simp [*]; done), d0_⟩
         ·obtain ⟨c16b0, c16b1⟩ := bn_ c16;obtain ⟨ji30, hji30⟩ : ∃ j_ : Int, (wrap64 (a1 + x9_2)) = j_ := ⟨_, rfl⟩;replace H : (if 0 ≤ (ji30) then (if (ji30) < (a0.size : Int) then ((spec_l1In.f (wrap64 (bt a0 (ji30))) 128 191).bind fun t259 => (if t259 = true then (spec_GetSign.l0 k2 a0 a1 (wrap64 (bt a0 a1)) t256 (wrap64 ((wrap64 (x8_2 * 64)) + (Go.bits .and .i64 (wrap64 (bt a0 (ji30))) 63))) (wrap64 (x9_2 + 1))) else (some (65533, x9_2)))) else (none)) else (none)) = some (r1, r2) := by first | (rw [hji30] at H; exact H) | (simp only [hji30] at H ⊢; exact H)
          (try rw [hji30] at c15b0)
          have hji30w : (IntKind.i64.wrap (a1 + x9_2)) = ji30 := (i64_w _).trans hji30;obtain ⟨c31, H⟩ := ifn_ H;have c31b0 := dE_ c31;clear c31;obtain ⟨c32, H⟩ := ifn_ H;have c32b0 := dE_ c32;clear c32;obtain ⟨t259, A34, H⟩ := ob_ H;(try dsimp only at H)
          by_cases c35 : t259 = true
          ·subst c35;rw [if_pos rfl] at H;have H' := A_ H;clear H;have p33 : 0 ≤ ((ji30) : Int) := dT_;have q33 : (ji30) < (a0.size : Int) := dT_;have hx33 := bt_at a0 (ji30);replace p33 := eq_true p33;replace q33 := eq_true q33;go_wp2_with (first | (go_at_call 111; (with_reducible refine (spec_l1In.calls (wrap64 (bt a0 (ji30))) 128 191 true _ A34.out).mono ?_); rintro e w' ⟨rfl, ⟨nd, rfl⟩⟩; have p36 : 0 ≤ ((ji30) : Int) := dT_; have q36 : (ji30) < (a0.size : Int) := dT_; have hx36 := bt_at a0 (ji30); replace p36 := eq_true p36; replace q36 := eq_true q36))
           go_roundg k2
           case measure => have := HJ2.out; have := HK2.out; omega
           case rel => exact ⟨(wrap64 ((wrap64 (x8_2 * 64)) + (Go.bits .and .i64 (wrap64 (bt a0 (ji30))) 63))), (wrap64 (x9_2 + 1)), (by first | rfl | (simp; done) | (simp only [← hji30] <;> (first | rfl | simp)) | (simp [*]; done)), e2_, H', ⟨by have := HJ2.out; have := HK2.out; omega⟩, d0_⟩
          ·replace c35 := bF_ c35;subst c35;rw [if_neg nF_] at H;obtain ⟨rfl, rfl⟩ := pi_ H;have p33 : 0 ≤ ((ji30) : Int) := dT_;have q33 : (ji30) < (a0.size : Int) := dT_;have hx33 := bt_at a0 (ji30);replace p33 := eq_true p33;replace q33 := eq_true q33;go_wp2_with (first | (go_at_call 111; (with_reducible refine (spec_l1In.calls (wrap64 (bt a0 (ji30))) 128 191 false _ A34.out).mono ?_); rintro e w' ⟨rfl, ⟨nd, rfl⟩⟩))
           go_ret2
           exact ⟨by first | rfl | (simp; done) | (simp only [← hji13, ← hji30] <;> (first | rfl | simp)) | (simp [*]; done), d0_⟩
       ·have c14b0 := dF_ c14;clear c14;obtain ⟨rfl, rfl⟩ := pi_ H;go_wp2
        go_ret2
        exact ⟨by first | rfl | (simp; done) | (simp only [← hji13] <;> (first | rfl | simp)) | (simp [*]; done), d0_⟩
def spec_IsLetter.f (a0 : Int) : Option (Bool) := (spec_l1In.f a0 97 122).bind fun t260 => (if t260 = true then (some true) else ((spec_l1In.f a0 65 90).bind fun t261 => (some t261)))
theorem spec_IsLetter.calls (a0 : Int) (r : Bool) (w : World) (h : spec_IsLetter.f a0 = some r) :
  Calls Tryz.prog 112 #[.int .i64 a0] w fun e w' => e = .returned (.bool r) ∧ Drawn0 w w' := by
 have H : ((spec_l1In.f a0 97 122).bind fun t260 => (if t260 = true then (some true) else ((spec_l1In.f a0 65 90).bind fun t261 => (some t261)))) = some r := h;clear h;obtain ⟨t260, A2, H⟩ := ob_ H;(try dsimp only at H)
 by_cases c3 : t260 = true
 ·subst c3;rw [if_pos rfl] at H;obtain rfl := sI_ H;go_enter Tryz.func112, Tryz.ntmps112
  go_wp2_with (first | ((with_reducible refine gC_ 111 ?_); refine gL_ 4 Tryz.func111 #[.int .i64 a0, .int .i64 97, .int .i64 122] ?_; refine dm_ (spec_l1In.calls a0 97 122 true _ A2.out) fun nd => ?_))
  go_ret
  exact ⟨e2_, d0_⟩
 ·replace c3 := bF_ c3;subst c3;rw [if_neg nF_] at H;obtain ⟨t261, A4, H⟩ := ob_ H;obtain rfl := sI_ H;go_enter Tryz.func112, Tryz.ntmps112
  go_wp2_with (first | ((with_reducible refine gC_ 111 ?_); refine gL_ 4 Tryz.func111 #[.int .i64 a0, .int .i64 97, .int .i64 122] ?_; refine dm_ (spec_l1In.calls a0 97 122 false _ A2.out) fun nd => ?_) | (go_at_call 111; (with_reducible refine (spec_l1In.calls a0 65 90 t261 _ A4.out).mono ?_); rintro e w' ⟨rfl, ⟨nd, rfl⟩⟩))
  go_ret
  exact ⟨e2_, d0_⟩
def spec_l2Within.l0 : Nat → List Int → Int → Int → Option (Bool)
 | 0, _, _, _ => none
 | k + 1, x0, x1, x5 => if (wrap64 (x5 + 1)) < (x0.length : Int) then (if 0 ≤ x5 then (if x5 < (x0.length : Int) then (if 0 ≤ (wrap64 (x5 + 1)) then ((spec_l1In.f x1 (rd x0 x5) (rd x0 (wrap64 (x5 + 1)))).bind fun t264 => (if t264 = true then (some true) else (spec_l2Within.l0 k x0 x1 (wrap64 (x5 + 2))))) else (none)) else (none)) else (none)) else (some false)
def spec_l2Within.f (k : Nat) (l0 : List Int) (a1 : Int) : Option (Bool) := spec_l2Within.l0 k l0 a1 0
theorem spec_l2Within.mono_l : ∀ k, (∀ y0 y1 y2, LeO (spec_l2Within.l0 k y0 y1 y2) (spec_l2Within.l0 (k + 1) y0 y1 y2))
 | 0 => fun _ _ _ r h => by simp [spec_l2Within.l0] at h
 | k + 1 => by
  have ih0 := spec_l2Within.mono_l k
  ·intro y0 y1 y2;unfold spec_l2Within.l0;with_reducible repeat' first | exact ih0 _ _ _ | apply LeO.refl | apply LeO.none | apply LeO.ite | apply LeO.bind | intro
theorem spec_l2Within.mono : ∀ a0 a1 k, LeO (spec_l2Within.f k a0 a1) (spec_l2Within.f (k + 1) a0 a1) := by
 intro a0 a1 k;have ih0 := spec_l2Within.mono_l k;unfold spec_l2Within.f;with_reducible repeat' first | exact ih0 _ _ _ | apply LeO.refl | apply LeO.none | apply LeO.ite | apply LeO.bind | intro
theorem spec_l2Within.calls (k : Nat) (A0 : Option Addr) (c0 : Nat) (l0 : List Int) (a1 : Int) (r : Bool) (w : World) (hr0 : Kd.C (Kd.int .i64) w A0 l0.length l0) (hc0 : l0.length ≤ c0) (h : spec_l2Within.f k l0 a1 = some r) :
  Calls Tryz.prog 113 #[.slice A0 l0.length c0, .int .i64 a1] w fun e w' => e = .returned (.bool r) ∧ Drawn0 w w' := by
 have HR0 := A_ hr0;have HC0 := A_ hc0;clear hr0 hc0;have H : (spec_l2Within.l0 k l0 a1 0) = some r := h;clear h;have H' := A_ H;clear H;go_enter Tryz.func113, Tryz.ntmps113
 go_wp2
 repeat (go_quiet (fail); try go_wp2)
 go_loopg [5] k (fun kq v5 w' => ∃ (x5_1 : Int), v5 = .int .i64 x5_1 ∧ As9 (spec_l2Within.l0 kq l0 a1 x5_1 = some r) ∧ As9 (kq ≤ k) ∧ Drawn0 w w')
 case atStart => exact ⟨(0), e2_, H', ⟨Nat.le_refl _⟩, d0_⟩
 case round =>
  clear H';try clear c1
  try clear p2
  obtain ⟨x5_1, rfl, HA, HK1, ⟨m1, rfl⟩⟩ := hrel;cases gk with
  | zero => exact absurd HA.out (by simp [spec_l2Within.l0])
  | succ k1 =>
   have H := HA.out;clear HA;simp only [spec_l2Within.l0] at H;rcases ic_ H with ⟨c3, H⟩ | ⟨c3, H⟩
   ·have c3b0 := dE_ c3;clear c3;obtain ⟨c4, H⟩ := ifn_ H;have c4b0 := dE_ c4;clear c4;obtain ⟨c5, H⟩ := ifn_ H;have c5b0 := dE_ c5;clear c5;obtain ⟨ji6, hji6⟩ : ∃ j_ : Int, (wrap64 (x5_1 + 1)) = j_ := ⟨_, rfl⟩;replace H : (if 0 ≤ (ji6) then ((spec_l1In.f a1 (rd l0 x5_1) (rd l0 (ji6))).bind fun t264 => (if t264 = true then (some true) else (spec_l2Within.l0 k1 l0 a1 (wrap64 (x5_1 + 2))))) else (none)) = some r := by first | (rw [hji6] at H; exact H) | (simp only [hji6] at H ⊢; exact H)
    (try rw [hji6] at c3b0)
    have hji6w : (IntKind.i64.wrap (x5_1 + 1)) = ji6 := (i64_w _).trans hji6;obtain ⟨c7, H⟩ := ifn_ H;have c7b0 := dE_ c7;clear c7;obtain ⟨t264, A8, H⟩ := ob_ H;(try dsimp only at H)
    by_cases c9 : t264 = true
    ·subst c9;rw [if_pos rfl] at H;obtain rfl := sI_ H;have p262 : 0 ≤ (x5_1 : Int) := dT_;have q262 : x5_1 < (l0.length : Int) := dT_;obtain ⟨ad262, e262, hx262_0⟩ := Kd.at_int HR0.out x5_1 p262 q262;cases e262;replace p262 := eq_true p262;replace q262 := eq_true q262;have p263 : 0 ≤ ((ji6) : Int) := dT_;have q263 : (ji6) < (l0.length : Int) := dT_;obtain ⟨ad263, e263, hx263_0⟩ := Kd.at_int HR0.out (ji6) p263 q263;obtain rfl : ad262 = ad263 := (by injection e263);replace p263 := eq_true p263;replace q263 := eq_true q263;go_wp2_with (first | (go_at_call 111; (with_reducible refine (spec_l1In.calls a1 (rd l0 x5_1) (rd l0 (ji6)) true _ A8.out).mono ?_); rintro e w' ⟨rfl, ⟨nd, rfl⟩⟩; (try exact dd_)))
     repeat (go_quiet (first | (go_at_call 111; (with_reducible refine (spec_l1In.calls a1 (rd l0 x5_1) (rd l0 (ji6)) true _ A8.out).mono ?_); rintro e w' ⟨rfl, ⟨nd, rfl⟩⟩; (try exact dd_))); try go_wp2_with (first | (go_at_call 111; (with_reducible refine (spec_l1In.calls a1 (rd l0 x5_1) (rd l0 (ji6)) true _ A8.out).mono ?_); rintro e w' ⟨rfl, ⟨nd, rfl⟩⟩; (try exact dd_))))
     go_ret
     exact ⟨by first | rfl | (simp; done) | (simp only [← hji6] <;> (first | rfl | simp)) | (simp [*]; done), d0_⟩
    ·replace c9 := bF_ c9;subst c9;rw [if_neg nF_] at H;have H' := A_ H;clear H;have p262 : 0 ≤ (x5_1 : Int) := dT_;have q262 : x5_1 < (l0.length : Int) := dT_;obtain ⟨ad262, e262, hx262_0⟩ := Kd.at_int HR0.out x5_1 p262 q262;cases e262;replace p262 := eq_true p262;replace q262 := eq_true q262;have p263 : 0 ≤ ((ji6) : Int) := dT_;have q263 : (ji6) < (l0.length : Int) := dT_;obtain ⟨ad263, e263, hx263_0⟩ := Kd.at_int HR0.out (ji6) p263 q263;obtain rfl : ad262 = ad263 := (by injection e263);replace p263 := eq_true p263;replace q263 := eq_true q263;go_wp2_with (first | (go_at_call 111; (with_reducible refine (spec_l1In.calls a1 (rd l0 x5_1) (rd l0 (ji6)) false _ A8.out).mono ?_); rintro e w' ⟨rfl, ⟨nd, rfl⟩⟩; (try exact dd_)))
     repeat (go_quiet (first | (go_at_call 111; (with_reducible refine (spec_l1In.calls a1 (rd l0 x5_1) (rd l0 (ji6)) false _ A8.out).mono ?_); rintro e w' ⟨rfl, ⟨nd, rfl⟩⟩; (try exact dd_))); try go_wp2_with (first | (go_at_call 111; (with_reducible refine (spec_l1In.calls a1 (rd l0 x5_1) (rd l0 (ji6)) false _ A8.out).mono ?_); rintro e w' ⟨rfl, ⟨nd, rfl⟩⟩; (try exact dd_))))
     go_roundg k1
     case measure => have := HK1.out; omega
     case rel => exact ⟨(wrap64 (x5_1 + 2)), e2_, H', ⟨by have := HK1.out; omega⟩, d0_⟩
   ·have c3b0 := dF_ c3;clear c3;obtain rfl := sI_ H;go_wp2
    repeat (go_quiet (fail); try go_wp2)
    go_ret
    exact ⟨e2_, d0_⟩
def spec_IsFirst.f (k : Nat) (a0 : Int) : Option (Bool) := (spec_IsLetter.f a0).bind fun t265 => (if t265 = true then (some true) else (if a0 = 95 then (some true) else ((spec_l2Within.f k (([192, 214, 216, 246, 248, 767, 880, 893, 895, 8191, 8204, 8205, 8304, 8591, 11264, 12271, 12289, 55295, 63744, 64975, 65008, 65533, 65536, 983039] : List Int)) a0).bind fun t269 => (some t269))))
theorem spec_IsFirst.mono : ∀ a0 k, LeO (spec_IsFirst.f k a0) (spec_IsFirst.f (k + 1) a0) := by
 intro a0 k;unfold spec_IsFirst.f;with_reducible repeat' first | exact spec_l2Within.mono _ _ _ | apply LeO.refl | apply LeO.none | apply LeO.ite | apply LeO.bind | intro
theorem spec_IsFirst.calls (k : Nat) (a0 : Int) (r : Bool) (w : World) (h : spec_IsFirst.f k a0 = some r) :
  Calls Tryz.prog 59 #[.int .i64 a0] w fun e w' => e = .returned (.bool r) ∧ Below w.heap.size w w' := by
 have HB := A_ (Below.refl w.heap.size w);have H : ((spec_IsLetter.f a0).bind fun t265 => (if t265 = true then (some true) else (if a0 = 95 then (some true) else ((spec_l2Within.f k (([192, 214, 216, 246, 248, 767, 880, 893, 895, 8191, 8204, 8205, 8304, 8591, 11264, 12271, 12289, 55295, 63744, 64975, 65008, 65533, 65536, 983039] : List Int)) a0).bind fun t269 => (some t269))))) = some r := h;clear h;obtain ⟨t265, A2, H⟩ := ob_ H;(try dsimp only at H)
 by_cases c3 : t265 = true
 ·subst c3;rw [if_pos rfl] at H;obtain rfl := sI_ H;go_enter Tryz.func59, Tryz.ntmps59
  go_wp2_with (first | ((with_reducible refine gC_ 112 ?_); refine gL_ 4 Tryz.func112 #[.int .i64 a0] ?_; refine dm_ (spec_IsLetter.calls a0 true _ A2.out) fun nd => ?_))
  go_ret
  exact ⟨e1_, hB_⟩
 ·replace c3 := bF_ c3;subst c3;rw [if_neg nF_] at H;rcases ic_ H with ⟨c4, H⟩ | ⟨c4, H⟩
  ·obtain ⟨c4b0, c4b1⟩ := be_ c4;clear c4;obtain rfl := sI_ H;go_enter Tryz.func59, Tryz.ntmps59
   go_wp2_with (first | ((with_reducible refine gC_ 112 ?_); refine gL_ 4 Tryz.func112 #[.int .i64 a0] ?_; refine dm_ (spec_IsLetter.calls a0 false _ A2.out) fun nd => ?_))
   go_ret
   exact ⟨e1_, hB_⟩
  ·obtain ⟨c4b0, c4b1⟩ := bn_ c4;obtain ⟨y266, hy266⟩ : ∃ y_ : List Int, y_ = (([192, 214, 216, 246, 248, 767, 880, 893, 895, 8191, 8204, 8205, 8304, 8591, 11264, 12271, 12289, 55295, 63744, 64975, 65008, 65533, 65536, 983039] : List Int)) := ⟨_, rfl⟩;replace H : ((spec_l2Within.f k y266 a0).bind fun t269 => (some t269)) = some r := by first | (rw [hy266]; with_reducible exact H) | (have H2_ := (Option.bind_some _ _).symm.trans H; rw [hy266]; with_reducible exact H2_) | (have H2_ := (Option.bind_some _ _).symm.trans H; with_reducible exact H2_) | with_reducible exact H | (rw [hy266]; exact H) | exact H
   have Ny266 := A_ hy266;clear hy266;obtain ⟨t269, A5, H⟩ := ob_ H;obtain rfl := sI_ H;go_enter Tryz.func59, Tryz.ntmps59
   go_wp2_with (first | ((with_reducible refine gC_ 112 ?_); refine gL_ 4 Tryz.func112 #[.int .i64 a0] ?_; refine dm_ (spec_IsLetter.calls a0 false _ A2.out) fun nd => ?_) | ((with_reducible refine gate_dst (N := 10) rfl ?_); (try (refine gate_guard (by rfl) ?_; dsimp only)); refine rl_ (Kd.int .i64) 3 10 [192, 214, 216, 246, 248, 767, 880, 893, 895, 8191, 8204, 8205, 8304, 8591, 11264, 12271, 12289, 55295, 63744, 64975, 65008, 65533, 65536, 983039] [.int .i64 192, .int .i64 214, .int .i64 216, .int .i64 246, .int .i64 248, .int .i64 767, .int .i64 880, .int .i64 893, .int .i64 895, .int .i64 8191, .int .i64 8204, .int .i64 8205, .int .i64 8304, .int .i64 8591, .int .i64 11264, .int .i64 12271, .int .i64 12289, .int .i64 55295, .int .i64 63744, .int .i64 64975, .int .i64 65008, .int .i64 65533, .int .i64 65536, .int .i64 983039] ?_; intro v267 w6 ho7 hb hg_ hnew_; clear hg_ hnew_; (first | rw [← Ny266.out] at ho7 | (simp only [Int.reduceToNat] at ho7; rw [← Ny266.out] at ho7)); have HO268 := A_ (Kd.R_lower ho7 (below_size hB_)); replace HB := bS_ hb; clear hb ho7; obtain ⟨Ao8, co8, eo8⟩ := Kd.R_slice HO268.out; subst eo8) | (go_at_call 113; (with_reducible refine (spec_l2Within.calls k _ _ y266 a0 t269 _ ?side1 ?side2 A5.out).mono ?_); (case side1 => repeat (first | exact (Kd.R_reads' HO268.out).2.2 | (with_reducible refine Kd.C_alloc ?_ _) | (with_reducible refine Kd.C_drewN ?_ _) | (with_reducible refine Kd.C_drew ?_))); (case side2 => exact (Kd.R_reads' HO268.out).2.1); rintro e w' ⟨rfl, ⟨nd, rfl⟩⟩))
   go_ret
   exact ⟨e1_, hB_⟩
end Go.Proofs.YtkmmoheeoblmnaaGreatDoor.A
