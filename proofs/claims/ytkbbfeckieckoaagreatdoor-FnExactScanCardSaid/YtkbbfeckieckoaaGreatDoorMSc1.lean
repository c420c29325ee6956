-- joined by wip/tools/shake.py
import Derived.Test.YtkbbfeckieckoaaGreatDoorVScW9
import Derived.Test.YtkbbfeckieckoaaGreatDoorMSc0
set_option maxHeartbeats 16000000
set_option maxRecDepth 100000
namespace Go.Proofs.YtkbbfeckieckoaaGreatDoor.A
open Go.RowKit Go.Proofs.YtkbbfeckieckoaaGreatDoorW.PrintWords Go.Proofs.YtkbbfeckieckoaaGreatDoorW.PrintLast Go.Proofs.YtkbbfeckieckoaaGreatDoorW.PrintMore
attribute [local go_sem] max2_int min2_int max_two min_two max_three min_three max_four min_four
set_option linter.unusedVariables false
set_option linter.unusedSimpArgs false
structure GT where
 f0 : Int
 f1 : ByteArray
 f2 : List S84
 f3 : ByteArray
 f4 : Bool
 b2 : Value
def zGT : GT := ⟨0, ⟨#[]⟩, [], ⟨#[]⟩, false, .slice none 0 0⟩
def erT (x : GT) : S43 := ⟨x.f0, x.f1, x.f2, x.f3, x.f4⟩
def tbT (x : GT) : List Nat := x.b2.ownBlock.toList
def tbTL : List GT → List Nat
 | [] => []
 | x :: xs => tbT x ++ tbTL xs
theorem tbTL_append : ∀ a b : List GT, tbTL (a ++ b) = tbTL a ++ tbTL b
 | [], b => by rw [List.nil_append, tbTL, List.nil_append]
 | x :: a, b => by rw [List.cons_append, tbTL, tbTL, tbTL_append a b, List.append_assoc]
theorem tbTL_one (x : GT) : tbTL [x] = tbT x := by rw [tbTL, tbTL, List.append_nil]
theorem tbT_mem : ∀ (xs : List GT) (x : GT), x ∈ xs → ∀ b ∈ tbT x, b ∈ tbTL xs
 | [], x, hx, b, hb => by cases hx
 | y :: ys, x, hx, b, hb => by
  rw [tbTL];rcases List.mem_cons.1 hx with e | hx
  ·rw [e] at hb; exact List.mem_append_left _ hb
  ·exact List.mem_append_right _ (tbT_mem ys x hx b hb)
def lab {α β : Type} (d : Kd α) (f : β → α) (p : β → List Value → Prop) : Kd β where
 sz := d.sz
 E := d.E
 K := fun w x cs => d.K w (f x) cs
 M := fun w base ok x cs => d.M w base ok (f x) cs ∧ p x cs
 K_len := d.K_len
 K_one := d.K_one
 K_below := d.K_below
 K_of_M := fun h => d.K_of_M h.1
 M_mono := fun hk h => ⟨d.M_mono hk h.1, h.2⟩
 M_bound := fun h => ⟨d.M_bound h.1, h.2⟩
 M_move := fun hk h => ⟨d.M_move hk h.1, h.2⟩
 M_lower := fun hk h => ⟨d.M_lower hk h.1, h.2⟩
def kGT : Kd GT := lab k43 erT (fun x cs => ∃ u0 u1 u2 u3 u4, cs = [u0, u1, u2, u3, u4] ∧ u2 = x.b2)
theorem kGT_openM {w : World} {base : Nat} {ok : Nat → Prop} {x : GT} {cs : List Value} (h : kGT.M w base ok x cs) : cs = [.int .i64 x.f0, .string x.f1, x.b2, .string x.f3, .bool x.f4] ∧ k84.R 84 w base ok x.b2 x.f2 := by
 obtain ⟨h, u0, u1, u2, u3, u4, e, h2⟩ := h;obtain ⟨v2, rfl, g2⟩ := k43_openM h;obtain ⟨_, _, rfl, _, _⟩ : _ ∧ _ ∧ v2 = u2 ∧ _ ∧ _ := by simpa using e
 subst h2;exact ⟨rfl, g2⟩
theorem kGT_mkM (w : World) (base : Nat) (ok : Nat → Prop) (x : GT) (g2 : k84.R 84 w base ok x.b2 x.f2) : kGT.M w base ok x [.int .i64 x.f0, .string x.f1, x.b2, .string x.f3, .bool x.f4] :=
 ⟨k43_mkM w base ok (erT x) g2, _, _, _, _, _, rfl, rfl⟩
theorem R_map {α β : Type} {d : Kd α} {d' : Kd β} (g : α → β) (hs : d.sz = d'.sz) (h : ∀ w base ok x cs, d.M w base ok x cs → d'.M w base ok (g x) cs) {e : Nat} {w : World} {base : Nat} {ok : Nat → Prop} {v : Value} {xs : List α} (hr : d.R e w base ok v xs) : d'.R e w base ok v (xs.map g) := by
 obtain ⟨h0, inner, ho, h1, h2⟩ := hr;refine ⟨h0, inner, ?_, ?_, ?_⟩
 ·rw [← hs, List.length_map]; exact ho
 ·rw [← hs, List.length_map]; exact h1
 ·intro j p hp;rw [List.getElem?_map] at hp;obtain ⟨q, hq, rfl⟩ := Option.map_eq_some_iff.mp hp;rw [← hs];exact h _ _ _ _ _ (h2 j q hq)
theorem kGT_er {w : World} {base : Nat} {ok : Nat → Prop} {v : Value} {xs : List GT} (h : kGT.R 43 w base ok v xs) : k43.R 43 w base ok v (xs.map erT) := R_map (d := kGT) (d' := k43) erT rfl (fun _ _ _ _ _ h => h.1) h
theorem RA_ok {w : World} {base : Nat} {ok ok' : Nat → Prop} {v : Value} {xs : List S84} (h : k84.R 84 w base ok v xs) (hok : ∀ k, v.ownBlock = some k → ok' k) : k84.R 84 w base ok' v xs := by
 obtain ⟨h0, inner, ho, h1, h2⟩ := h;refine ⟨hok, inner, ho, h1, fun j p hp => ?_⟩;have := h2 j p hp;obtain e := k84_openM this;rw [e];exact k84_mkM _ _ _ p
theorem MT_tb (x : GT) {w : World} {base : Nat} {ok ok' : Nat → Prop} {cs : List Value} (h : kGT.M w base ok x cs) (hok : ∀ b ∈ tbT x, ok b → ok' b) : kGT.M w base ok' x cs := by
 obtain ⟨rfl, g⟩ := kGT_openM h;exact kGT_mkM w base ok' x (RA_ok g (fun k hk => hok k (Option.mem_toList.2 hk) (g.1 k hk)))
theorem tbTL_ok : ∀ (xs : List GT) {ok : Nat → Prop}, (∀ x ∈ xs, ∀ b ∈ tbT x, ok b) → ∀ b ∈ tbTL xs, ok b
 | [], _, _, b, hb => by cases hb
 | x :: xs, ok, h, b, hb => by
  rw [tbTL] at hb;rcases List.mem_append.1 hb with hb | hb
  ·exact h x List.mem_cons_self b hb
  ·exact tbTL_ok xs (fun y hy => h y (List.mem_cons_of_mem _ hy)) b hb
theorem RT_in {w : World} {base : Nat} {ok : Nat → Prop} {v : Value} {xs : List GT} (h : kGT.R 43 w base ok v xs) : ∀ b ∈ tbTL xs, ok b ∧ some b ≠ v.ownBlock := by
 obtain ⟨g0, inner, ho, h1, h2⟩ := h;refine tbTL_ok xs (fun x hx b hb => ?_);obtain ⟨j, hj⟩ := List.getElem?_of_mem hx;obtain ⟨-, g⟩ := kGT_openM (h2 j x hj);exact g.1 b (Option.mem_toList.1 hb)
theorem tbT_apart : ∀ (xs : List GT), (tbTL xs).Nodup → ∀ (i j : Nat) (x y : GT), xs[i]? = some x → xs[j]? = some y → i ≠ j → ∀ b ∈ tbT x, b ∉ tbT y
 | [], _, i, j, x, y, hx, _, _ => by simp at hx
 | z :: zs, h, i, j, x, y, hx, hy, hij => by
  rw [tbTL] at h;obtain ⟨h1, h2, h3⟩ := List.nodup_append.1 h;intro b hb hb2;cases i with
  | zero =>
   cases j with
   | zero => exact hij rfl
   | succ j =>
    rw [List.getElem?_cons_zero] at hx;rw [List.getElem?_cons_succ] at hy;obtain rfl := sI_ hx;exact h3 b hb b (tbT_mem zs y (List.mem_of_getElem? hy) b hb2) rfl
  | succ i =>
   rw [List.getElem?_cons_succ] at hx;cases j with
   | zero =>
    rw [List.getElem?_cons_zero] at hy;obtain rfl := sI_ hy;exact h3 b hb2 b (tbT_mem zs x (List.mem_of_getElem? hx) b hb) rfl
   | succ j =>
    rw [List.getElem?_cons_succ] at hy;exact tbT_apart zs h2 i j x y hx hy (fun e => hij (by rw [e])) b hb hb2
theorem row_tag {α : Type} {d : Kd α} {e : Nat} {w : World} {base : Nat} {ok : Nat → Prop} {v : Value} {xs : List α} (h : d.R e w base ok v xs) (k : Nat) (hk : v.ownBlock = some k) : ∃ cells, w.heap[k]? = some (.cells cells e (0, 0)) := Kd.R_typed h k hk
theorem ndo : ∀ o : Option Nat, o.toList.Nodup
 | none => List.nodup_nil
 | some a => by simp
def ScN (T b n : Nat) (s : BA) (p : Int) (out : List S43) (w : World) : Prop :=
 ∃ (v : Value) (gs : List GT), w.heap[b]? = some (.cells #[.string s, .int .i64 p, v] T (0, 0)) ∧ kGT.R 43 w (b + 1) (fun _ => True) v gs ∧ (tbTL gs).Nodup ∧ (∀ k ∈ tbTL gs, k < n) ∧ gs.map erT = out
theorem ScN.lt {T b n : Nat} {s : BA} {p : Int} {out : List S43} {w : World} (h : ScN T b n s p out w) : b < w.heap.size := by
 obtain ⟨v, gs, h, _⟩ := h;exact blk_lt h
theorem ScN.below {T b n : Nat} {s : BA} {p : Int} {out : List S43} {w w' : World} (h : ScN T b n s p out w) (hb : Below w.heap.size w w') : ScN T b n s p out w' := by
 obtain ⟨v, gs, h, hr, hn⟩ := h;exact ⟨v, gs, (hb.block b (blk_lt h)).trans h, Kd.R_below hr hb, hn⟩
theorem ScN.more {T b n m : Nat} {s : BA} {p : Int} {out : List S43} {w : World} (h : ScN T b n s p out w) (hm : w.heap.size ≤ m) : ScN T b m s p out w := by
 obtain ⟨v, gs, h, hr, hn, hl, e⟩ := h;exact ⟨v, gs, h, hr, hn, fun k hk => Nat.lt_of_lt_of_le (RT_in (Kd.R_bound hr) k hk).1.2.2.1 hm, e⟩
theorem ScN.cells {T b n : Nat} {s : BA} {p : Int} {out : List S43} {w : World} (h : ScN T b n s p out w) : w.cell? ⟨b, 0, none⟩ = some (.string s) ∧ w.cell? ⟨b, 1, none⟩ = some (.int .i64 p) ∧ w.frozen? ⟨b, 1, none⟩ = false := by
 obtain ⟨v, gs, h, _⟩ := h;exact ⟨(blk_cell h 0).trans rfl, (blk_cell h 1).trans rfl, blk_frozen h 1⟩
theorem ScN.at_ {T b n : Nat} {s : BA} {p : Int} {out : List S43} {w : World} (h : ScN T b n s p out w) (q : Int) : ScN T b n s q out (w.setCell ⟨b, 1, none⟩ (.int .i64 q)) := by
 obtain ⟨v, gs, h, hr, hn⟩ := h;exact ⟨v, gs, blk_put h 1 _ rfl, Kd.R_far (p := ⟨b, 1, none⟩) (Kd.R_mono (Kd.R_bound hr) (fun k hk => (show k ≠ b by have := hk.2.1; omega))) (fun k hk => hk) _ |> fun h => Kd.R_mono h (fun _ _ => trivial), hn⟩
def ScX (T b n : Nat) (X : Nat → Prop) (s : BA) (p : Int) (out : List S43) (w : World) : Prop :=
 ∃ (v : Value) (gs : List GT), w.heap[b]? = some (.cells #[.string s, .int .i64 p, v] T (0, 0)) ∧ kGT.R 43 w (b + 1) (fun k => ¬ X k) v gs ∧ (tbTL gs).Nodup ∧ (∀ k ∈ tbTL gs, k < n) ∧ gs.map erT = out
theorem ScN.x {T b n : Nat} {s : BA} {p : Int} {out : List S43} {w : World} (h : ScN T b n s p out w) : ScX T b n (fun _ => False) s p out w := by
 obtain ⟨v, gs, h, hr, hn⟩ := h;exact ⟨v, gs, h, Kd.R_mono hr (fun _ _ h => h), hn⟩
structure St (T b : Nat) (w0 : World) (s : BA) (p : Int) (out : List S43) (w : World) : Prop where
 sc : ScN T b w.heap.size s p out w
 bl : Below b w0 w
section
variable {T b : Nat} {w0 w w' : World} {s : BA} {p : Int} {out : List S43}
theorem St.below (h : St T b w0 s p out w) (hb : Below w.heap.size w w') : St T b w0 s p out w' := ⟨(h.sc.below hb).more (Nat.le_refl _), Below.trans h.bl (Below.mono hb (Nat.le_of_lt h.sc.lt))⟩
theorem St.at_ (h : St T b w0 s p out w) (q : Int) : St T b w0 s q out (w.setCell ⟨b, 1, none⟩ (.int .i64 q)) := ⟨(h.sc.at_ q).more (Nat.le_refl _), Below.setCell h.bl (p := ⟨b, 1, none⟩) (Nat.le_refl b) _⟩
end
section
variable {P : Program} {ops : Array Oper} {o : Oper} {a : Act} {Q : Exit → Act → World → Prop} {Kc : Act → World → Prop}
theorem put_step {W : World} (hw : Region.wanted o (yielded ops a.tmps) = true) (hN : o.dst = none) (t : TypeId) (p x : Operand) (ho : o.op = .store t p x) {g o' : Nat} {u : Value} {seg : List Value} {cur : Array Value} {e : TypeId}
  (haddr : a.eval p = .pointer (some ⟨g, o', none⟩)) (hx : a.eval x = u) (hu : u.cells.toList = seg) (ht : (P.info? t).map (·.size) = some seg.length) (hh : W.heap[g]? = some (.cells cur e (0, 0))) (hl : o' + seg.length ≤ cur.size) (h1 : ∀ q ∈ seg, q.oneCell' = true)
  (h : Kc a (W.setCells g o' seg)) : if Region.wanted o (yielded ops a.tmps) = true then Oper.wp P o a W Kc Q else Kc (a.put none undef) W := by
 rw [if_pos hw];have hrun : (Instr.storeAt t (.pointer (some ⟨g, o', none⟩)) u).run P W = .ok () (W.setCells g o' seg) := run_store_run t u seg hh hu ht hl h1;unfold Oper.wp execOp;simp only [ho, haddr, hx, Sem.run_bind, Sem.run_pure, Result.andThen_ok, hrun];show Kc (a.put o.dst undef) _;rw [hN];exact h
theorem put_step1 {W : World} (hw : Region.wanted o (yielded ops a.tmps) = true) (hN : o.dst = none) (t : TypeId) (p x : Operand) (ho : o.op = .store t p x) {g j : Nat} {u : Value} {cur : Array Value} {e : TypeId}
  (haddr : a.eval p = .pointer (some ⟨g, j, none⟩)) (hx : a.eval x = u) (hu : u.cells.toList = [u]) (ht : (P.info? t).map (·.size) = some 1) (hh : W.heap[g]? = some (.cells cur e (0, 0))) (hj : j + 1 ≤ cur.size) (h1 : u.oneCell' = true)
  (h : Kc a (W.setCell ⟨g, j, none⟩ u)) : if Region.wanted o (yielded ops a.tmps) = true then Oper.wp P o a W Kc Q else Kc (a.put none undef) W :=
 put_step hw hN t p x ho haddr hx (seg := [u]) hu ht hh hj (by intro q hq; simp at hq; rw [hq]; exact h1) h
theorem lit_step {W w1' : World} {v : Value} (hw : Region.wanted o (yielded ops a.tmps) = true) (hrun : (execOp a.eval o).run P W = .ok (.value v) w1') (h : ∀ w1, w1 = w1' → Kc (a.put o.dst v) w1) : if Region.wanted o (yielded ops a.tmps) = true then Oper.wp P o a W Kc Q else Kc (a.put o.dst undef) W := event_step hw hrun (h _ rfl)
theorem tx_step {W : World} {base : Nat} (hw : Region.wanted o (yielded ops a.tmps) = true) (hN : o.dst = none) (t : TypeId) (p x : Operand) (ho : o.op = .store t p x) {g n cap k : Nat} {xs : List GT} {u : BA} {ok : Nat → Prop}
  (haddr : a.eval p = .pointer (some ⟨g, k * 5 + 3, none⟩)) (hx : a.eval x = .string u) (ht : (P.info? t).map (·.size) = some 1) (HO : kGT.R 43 W base ok (.slice (some ⟨g, 0, none⟩) n cap) xs) (hk : k < xs.length)
  (h : ∀ w1, w1 = W.setCell ⟨g, k * 5 + 3, none⟩ (.string u) → Kc a w1) : if Region.wanted o (yielded ops a.tmps) = true then Oper.wp P o a W Kc Q else Kc (a.put none undef) W := by
 obtain ⟨hn, hnc, _⟩ := Kd.R_reads' HO;obtain ⟨_, inner, hown, hr⟩ := HO;rcases hown.2 with ⟨hv, _⟩ | ⟨g', cap', cur, hv, hb, hh, hnc2, hcm, hcs', _⟩
 ·cases hv
 injection hv with ha _ hc
 injection ha with ha
 injection ha with hg'
 subst hg'; subst hc;refine put_step1 hw hN t p x ho haddr hx rfl ht hh ?_ rfl (h _ rfl);have hz : kGT.sz = 5 := rfl;rw [hz] at hcs';omega
end
theorem setW_mid {α : Type} (a : List α) (x y : α) (b : List α) : (a ++ x :: b).set a.length y = a ++ y :: b := by simp [List.set_append]
theorem getW_mid {α : Type} (a : List α) (x z : α) (b : List α) : (a ++ x :: b).getD a.length z = x := by simp [List.getD_eq_getElem?_getD]
theorem RT_last {W : World} {base g n cap : Nat} {ok : Nat → Prop} {gl : List GT} {x : GT} (h : kGT.R 43 W base ok (.slice (some ⟨g, 0, none⟩) n cap) (gl ++ [x])) :
  W.cell? ⟨g, gl.length * 5, none⟩ = some (.int .i64 x.f0) ∧ W.cell? ⟨g, gl.length * 5 + 3, none⟩ = some (.string x.f3) ∧
  ∀ u, kGT.R 43 (W.setCell ⟨g, gl.length * 5 + 3, none⟩ (.string u)) base ok (.slice (some ⟨g, 0, none⟩) n cap) (gl ++ [⟨x.f0, x.f1, x.f2, u, x.f4, x.b2⟩]) := by
 have hn := (Kd.R_reads' h).1;rw [List.length_append, List.length_singleton] at hn;obtain ⟨cs, hcl, hM, hcc, hfr⟩ := Kd.R_elem h zGT (gl.length : Int) om_ om_;rw [Int.toNat_natCast, getW_mid] at hM;rw [Int.toNat_natCast] at hcc hfr;obtain ⟨rfl, g2⟩ := kGT_openM hM;refine ⟨hcc 0 _ rfl, hcc 3 _ rfl, fun u => ?_⟩;have hM' := kGT_mkM W base (fun k => ok k ∧ k ≠ g) ⟨x.f0, x.f1, x.f2, u, x.f4, x.b2⟩ g2;obtain ⟨hR, _⟩ := Kd.R_seg h (gl.length : Int) om_ om_ hcl (by rw [Int.toNat_natCast]; exact hcc) (j := 3) (seg := [.string u]) (by show 3 + 1 ≤ 5; omega) (x' := ⟨x.f0, x.f1, x.f2, u, x.f4, x.b2⟩) hM' (fun k hk => hk);rw [Int.toNat_natCast, setW_mid] at hR;exact hR
theorem snoc_of {α : Type} : ∀ l : List α, l = [] ∨ ∃ a x, l = a ++ [x]
 | [] => .inl rfl
 | y :: ys => by
  rcases snoc_of ys with e | ⟨a, x, e⟩
  ·exact .inr ⟨[], y, by rw [e]; rfl⟩
  ·exact .inr ⟨y :: a, x, by rw [e]; rfl⟩
def lastT (out : List S43) : Option S43 := out.getLast?
def appT (out : List S43) (t : S43) : Option (List S43) := if out.length < 1000000000000 then some (out ++ [t]) else none
def tkPut (out : List S43) (t : S43) : Option (List S43) :=
 if t.f0 = 1 then match lastT out with
  | none => appT out t
  | some l => if l.f0 = 1 then (if l.f3.size + t.f3.size ≤ 140737488355327 then some (out.dropLast ++ [⟨l.f0, l.f1, l.f2, l.f3 ++ t.f3, l.f4⟩]) else none) else appT out t
 else appT out t
structure Pu (T b gt n : Nat) (X : Nat → Prop) (w1 w0 : World) (s : BA) (p : Int) (v : Value) (gs : List GT) (c0 c1 c2 c3 c4 : Value) (at_ : List S84) (W : World) : Prop where
 sb : W.heap[b]? = some (.cells #[.string s, .int .i64 p, v] T (0, 0))
 rr : kGT.R 43 W (b + 1) (fun k => k ≠ gt ∧ ¬ X k) v gs
 nd : (tbTL gs).Nodup
 lt : ∀ k ∈ tbTL gs, k < n
 xt : W.heap[gt]? = some (.cells #[c0, c1, c2, c3, c4] 43 (0, 0))
 ar : k84.R 84 W n (fun k => k ≠ gt ∧ ¬ X k) c2 at_
 bl : Below b w0 W
 bn : b < n
 hn : n ≤ W.heap.size
 bg : b < gt
 xl : ∀ k, X k → k < w1.heap.size
 fx : ∀ k, X k → k < w1.heap.size → W.heap[k]? = w1.heap[k]?
 sz : w1.heap.size ≤ W.heap.size
section
variable {T b gt n g cap m : Nat} {X : Nat → Prop} {w1 w0 w W W' W1 : World} {s : BA} {p : Int} {v v1 : Value} {gs gl : List GT} {x : GT} {c0 c1 c2 c3 c4 : Value} {at_ : List S84}
theorem Pu.start (hb : w.heap[b]? = some (.cells #[.string s, .int .i64 p, v] T (0, 0))) (hr : kGT.R 43 w (b + 1) (fun k => ¬ X k) v gs) (hnd : (tbTL gs).Nodup) (hl : ∀ k ∈ tbTL gs, k < n) (hB : Below b w0 w) (ha : k84.R 84 w n (fun k => ¬ X k) c2 at_) (hX : ∀ k, X k → k < w.heap.size) (hbn : b < n) (hn : n ≤ w.heap.size) (hgt : gt = w.heap.size) (hx : W.heap[gt]? = some (.cells #[c0, c1, c2, c3, c4] 43 (0, 0))) (hbl : Below w.heap.size w W) : Pu T b gt n X w w0 s p v gs c0 c1 c2 c3 c4 at_ W :=
 ⟨blk_below hb hbl, Kd.R_mono (Kd.R_below (Kd.R_bound hr) hbl) (fun k hk => ⟨by have := hk.2.2.1; omega, hk.1⟩), hnd, hl, hx, Kd.R_mono (Kd.R_below (Kd.R_bound ha) hbl) (fun k hk => ⟨by have := hk.2.2.1; omega, hk.1⟩), Below.trans hB (Below.mono hbl om_), hbn, Nat.le_trans hn hbl.size, om_, hX, fun k _ hk => hbl.block k hk, hbl.size⟩
theorem Pu.below (h : Pu T b gt n X w1 w0 s p v gs c0 c1 c2 c3 c4 at_ W) (hb : Below W.heap.size W W') : Pu T b gt n X w1 w0 s p v gs c0 c1 c2 c3 c4 at_ W' :=
 ⟨blk_below h.sb hb, Kd.R_below h.rr hb, h.nd, h.lt, blk_below h.xt hb, Kd.R_below h.ar hb, Below.trans h.bl (Below.mono hb (Nat.le_trans (Nat.le_of_lt h.bn) h.hn)), h.bn, Nat.le_trans h.hn hb.size, h.bg, h.xl, fun k hX hk => (hb.block k (Nat.lt_of_lt_of_le hk h.sz)).trans (h.fx k hX hk), Nat.le_trans h.sz hb.size⟩
theorem Pu.drew (h : Pu T b gt n X w1 w0 s p v gs c0 c1 c2 c3 c4 at_ W) : Pu T b gt n X w1 w0 s p v gs c0 c1 c2 c3 c4 at_ W.drew := h.below (below_drew (Below.refl _ _))
theorem Pu.text (h : Pu T b gt n X w1 w0 s p (.slice (some ⟨g, 0, none⟩) m cap) (gl ++ [x]) c0 c1 c2 c3 c4 at_ W) (u : BA) : St T b w0 s p (gl.map erT ++ [⟨x.f0, x.f1, x.f2, u, x.f4⟩]) (W.setCell ⟨g, gl.length * 5 + 3, none⟩ (.string u)) ∧ ∀ k, X k → k < w1.heap.size → k ≠ b → (W.setCell ⟨g, gl.length * 5 + 3, none⟩ (.string u)).heap[k]? = w1.heap[k]? := by
 have hg := Kd.R_base h.rr g rfl;refine ⟨⟨⟨_, gl ++ [⟨x.f0, x.f1, x.f2, u, x.f4, x.b2⟩], blk_far h.sb (p := ⟨g, gl.length * 5 + 3, none⟩) (Nat.ne_of_lt hg) _, Kd.R_mono ((RT_last h.rr).2.2 u) (fun _ _ => trivial), ?_, ?_, ?_⟩, Below.setCell h.bl (p := ⟨g, gl.length * 5 + 3, none⟩) (Nat.le_of_lt hg) _⟩, fun k hX hk _ => (Below.heap_setCell W ⟨g, gl.length * 5 + 3, none⟩ _ k (fun e => (h.rr.1 g rfl).2 ((show k = g from e) ▸ hX))).trans (h.fx k hX hk)⟩
 ·have := h.nd;rw [tbTL_append, tbTL_one] at this ⊢;exact this
 ·have := h.lt;rw [tbTL_append, tbTL_one] at this ⊢;intro k hk;have h1 := this k hk;have h2 := h.hn;rw [World.size_setCell];omega
 ·rw [List.map_append]; rfl
theorem Pu.app (h : Pu T b gt n X w1 w0 s p v gs c0 c1 x.b2 c3 c4 x.f2 W) (hr : kGT.R 43 W1 (b + 1) (fun k => k ≠ gt ∧ ¬ X k) v1 (gs ++ [x])) (hb : Below (b + 1) W W1) (hg : W.grownBy W1 v.ownBlock) : St T b w0 s p (gs.map erT ++ [erT x]) (W1.setCell ⟨b, 2, none⟩ v1) ∧ ∀ k, X k → k < w1.heap.size → k ≠ b → (W1.setCell ⟨b, 2, none⟩ v1).heap[k]? = w1.heap[k]? := by
 have hsb : W1.heap[b]? = some (.cells #[.string s, .int .i64 p, v] T (0, 0)) := blk_grown h.sb hg (fun e => by have := Kd.R_base h.rr b e.symm; omega);refine ⟨⟨⟨_, gs ++ [x], blk_put hsb 2 v1 rfl, Kd.R_mono (Kd.R_far (p := ⟨b, 2, none⟩) (Kd.R_bound hr) (fun k hk => (show k ≠ b by have := hk.2.1; omega)) v1) (fun _ _ => trivial), ?_, ?_, ?_⟩, Below.setCell (Below.trans h.bl (Below.mono hb (Nat.le_succ b))) (p := ⟨b, 2, none⟩) (Nat.le_refl b) _⟩, fun k hX hk hne => (Below.heap_setCell W1 ⟨b, 2, none⟩ _ k hne).trans ((hg.block k (Nat.lt_of_lt_of_le hk h.sz) (fun e => (h.rr.1 k e.symm).2 hX)).trans (h.fx k hX hk))⟩
 ·rw [tbTL_append, tbTL_one];refine List.nodup_append.2 ⟨h.nd, ndo _, ?_⟩;rintro y hy z hz rfl;have h1 := h.lt y hy;have h2 := Kd.R_base h.ar y (Option.mem_toList.1 hz);omega
 ·rw [tbTL_append, tbTL_one];intro k hk;rw [World.size_setCell];have h3 := hb.size;rcases List.mem_append.1 hk with hk | hk
  ·have h1 := h.lt k hk;have h2 := h.hn;omega
  ·have h1 := Kd.R_lt h.ar k (Option.mem_toList.1 hk);omega
 ·rw [List.map_append]; rfl
theorem Pu.arow (h : Pu T b gt n X w1 w0 s p v gs c0 c1 c2 c3 c4 at_ W) : k84.R 84 W (b + 1) (fun k => (k ≠ gt ∧ ¬ X k) ∧ some k ≠ v.ownBlock) c2 at_ := by
 refine Kd.R_lower ?_ h.bn;cases hv : v.ownBlock with
 | none => exact Kd.R_mono h.ar (fun k hk => ⟨hk, by simp⟩)
 | some g =>
  obtain ⟨cells, hc⟩ := row_tag h.rr g hv;exact Kd.R_mono (Kd.R_types h.ar hc de_) (fun k hk => ⟨hk.1, fun e => hk.2 (sI_ e)⟩)
theorem Pu.scx (h : Pu T b gt n X w1 w0 s p v gs c0 c1 c2 c3 c4 at_ W) : ScX T b n (fun k => k = gt) s p (gs.map erT) W := ⟨v, gs, h.sb, Kd.R_mono h.rr (fun _ hk => hk.1), h.nd, h.lt, rfl⟩
theorem Pu.scn (h : Pu T b gt n X w1 w0 s p v gs c0 c1 c2 c3 c4 at_ W) : ScN T b n s p (gs.map erT) W := ⟨v, gs, h.sb, Kd.R_mono h.rr (fun _ _ => trivial), h.nd, h.lt, rfl⟩
theorem Pu.toAt (h : Pu T b gt n (fun _ => False) w1 w0 s p v gs c0 c1 c2 c3 c4 at_ W) (q : Int) : Pu T b gt n (fun _ => False) w1 w0 s q v gs c0 c1 c2 c3 c4 at_ (W.setCell ⟨b, 1, none⟩ (.int .i64 q)) :=
 ⟨blk_put h.sb 1 _ rfl, Kd.R_mono (Kd.R_far (p := ⟨b, 1, none⟩) (Kd.R_bound h.rr) (fun k hk => (show k ≠ b by have := hk.2.1; omega)) _) (fun k hk => hk.1), h.nd, h.lt, blk_far h.xt (p := ⟨b, 1, none⟩) (Nat.ne_of_gt h.bg) _, Kd.R_mono (Kd.R_far (p := ⟨b, 1, none⟩) (Kd.R_bound h.ar) (fun k hk => (show k ≠ b by have := hk.2.1; have := h.bn; omega)) _) (fun k hk => hk.1), Below.setCell h.bl (p := ⟨b, 1, none⟩) (Nat.le_refl b) _, h.bn, by rw [World.size_setCell]; exact h.hn, h.bg, fun _ hX => hX.elim, fun _ hX => hX.elim, by rw [World.size_setCell]; exact h.sz⟩
theorem Pu.cell (h : Pu T b gt n (fun _ => False) w1 w0 s p v gs c0 c1 c2 c3 c4 at_ W) (i : Nat) (u : Value) {d0 d1 d3 d4 : Value} (e : (#[c0, c1, c2, c3, c4] : Array Value).setIfInBounds i u = #[d0, d1, c2, d3, d4]) : Pu T b gt n (fun _ => False) w1 w0 s p v gs d0 d1 c2 d3 d4 at_ (W.setCell ⟨gt, i, none⟩ u) :=
 ⟨blk_far h.sb (p := ⟨gt, i, none⟩) (Nat.ne_of_lt h.bg) _, Kd.R_far (p := ⟨gt, i, none⟩) h.rr (fun k hk => hk.1) _, h.nd, h.lt, blk_put h.xt i u e, Kd.R_far (p := ⟨gt, i, none⟩) h.ar (fun k hk => hk.1) _, Below.setCell h.bl (p := ⟨gt, i, none⟩) (Nat.le_of_lt h.bg) _, h.bn, by rw [World.size_setCell]; exact h.hn, h.bg, fun _ hX => hX.elim, fun _ hX => hX.elim, by rw [World.size_setCell]; exact h.sz⟩
theorem Pu.attrs (h : Pu T b gt n (fun _ => False) w1 w0 s p v gs c0 c1 c2 c3 c4 at_ W) {u : Value} {a2 : List S84} (hr : k84.R 84 W n (fun k => k ≠ gt) u a2) : Pu T b gt n (fun _ => False) w1 w0 s p v gs c0 c1 u c3 c4 a2 (W.setCell ⟨gt, 2, none⟩ u) :=
 ⟨blk_far h.sb (p := ⟨gt, 2, none⟩) (Nat.ne_of_lt h.bg) _, Kd.R_far (p := ⟨gt, 2, none⟩) h.rr (fun k hk => hk.1) _, h.nd, h.lt, blk_put h.xt 2 u rfl, Kd.R_mono (Kd.R_far (p := ⟨gt, 2, none⟩) hr (fun k hk => hk) _) (fun k hk => ⟨hk, fun h => h⟩), Below.setCell h.bl (p := ⟨gt, 2, none⟩) (Nat.le_of_lt h.bg) _, h.bn, by rw [World.size_setCell]; exact h.hn, h.bg, fun _ hX => hX.elim, fun _ hX => hX.elim, by rw [World.size_setCell]; exact h.sz⟩
theorem Pu.five (h : Pu T b gt n (fun _ => False) w1 w0 s p v gs c0 c1 c2 c3 c4 at_ W) (u0 u1 u3 u4 : Value) : Pu T b gt n (fun _ => False) w1 w0 s p v gs u0 u1 (.slice none 0 0) u3 u4 [] (((((W.setCell ⟨gt, 0, none⟩ u0).setCell ⟨gt, 1, none⟩ u1).setCell ⟨gt, 2, none⟩ (.slice none 0 0)).setCell ⟨gt, 3, none⟩ u3).setCell ⟨gt, 4, none⟩ u4) :=
 ((((h.cell 0 u0 (d0 := u0) (d1 := c1) (d3 := c3) (d4 := c4) rfl).cell 1 u1 (d0 := u0) (d1 := u1) (d3 := c3) (d4 := c4) rfl).attrs (Kd.R_nil _ _ _ _ _)).cell 3 u3 (d0 := u0) (d1 := u1) (d3 := u3) (d4 := c4) rfl).cell 4 u4 (d0 := u0) (d1 := u1) (d3 := u3) (d4 := u4) rfl
end
theorem St.pu {T b gt : Nat} {w0 w W : World} {s : BA} {p : Int} {out : List S43} {c0 c1 c3 c4 : Value} (h : St T b w0 s p out w) (hgt : gt = w.heap.size) (hx : W.heap[gt]? = some (.cells #[c0, c1, .slice none 0 0, c3, c4] 43 (0, 0))) (hbl : Below w.heap.size w W) : ∃ v gs, gs.map erT = out ∧ Pu T b gt w.heap.size (fun _ => False) w w0 s p v gs c0 c1 (.slice none 0 0) c3 c4 [] W := by
 obtain ⟨⟨v, gs, h1, h2, h3, h4, h5⟩, hb⟩ := h;exact ⟨v, gs, h5, Pu.start h1 (Kd.R_mono h2 (fun _ _ h => h)) h3 h4 hb (Kd.R_nil _ _ _ _ _) (fun _ h => h.elim) (blk_lt h1) (Nat.le_refl _) hgt hx hbl⟩
theorem St.app {T b : Nat} {w0 W W1 : World} {s : BA} {p : Int} {v v1 : Value} {gs : List GT} {x : GT} (hsb : W.heap[b]? = some (.cells #[.string s, .int .i64 p, v] T (0, 0))) (hb0 : ∀ k, v.ownBlock = some k → b + 1 ≤ k) (hnd : (tbTL gs).Nodup) (hlt : ∀ k ∈ tbTL gs, k < W.heap.size) (hbl : Below b w0 W) (hr : kGT.R 43 W1 (b + 1) (fun _ => True) v1 (gs ++ [x])) (hb : Below (b + 1) W W1) (hg : W.grownBy W1 v.ownBlock) (hx : tbT x = []) : St T b w0 s p (gs.map erT ++ [erT x]) (W1.setCell ⟨b, 2, none⟩ v1) := by
 have hsb : W1.heap[b]? = some (.cells #[.string s, .int .i64 p, v] T (0, 0)) := blk_grown hsb hg (fun e => by have := hb0 b e.symm; omega);refine ⟨⟨_, gs ++ [x], blk_put hsb 2 v1 rfl, Kd.R_mono (Kd.R_far (p := ⟨b, 2, none⟩) (Kd.R_bound hr) (fun k hk => (show k ≠ b by have := hk.2.1; omega)) v1) (fun _ _ => trivial), ?_, ?_, ?_⟩, Below.setCell (Below.trans hbl (Below.mono hb (Nat.le_succ b))) (p := ⟨b, 2, none⟩) (Nat.le_refl b) _⟩
 ·rw [tbTL_append, tbTL_one, hx, List.append_nil]; exact hnd
 ·rw [tbTL_append, tbTL_one, hx, List.append_nil];intro k hk;rw [World.size_setCell];exact Nat.lt_of_lt_of_le (hlt k hk) hb.size
 ·rw [List.map_append]; rfl
def impl_scanner_put.f (out : List S43) (t : S43) : Option (List S43) := tkPut out t
theorem impl_scanner_put.callsX (X : Nat → Prop) (b n : Nat) (s : BA) (p : Int) (out out' : List S43) (f0 : Int) (f1 : BA) (f2 : List S84) (f3 : BA) (f4 : Bool) (v2 : Value) (w0 w : World) (hS : ScX 39 b n X s p out w) (hB : Below b w0 w) (hA : k84.R 84 w n (fun k => ¬ X k) v2 f2) (hX : ∀ k, X k → k < w.heap.size) (hbn : b < n) (hn : n ≤ w.heap.size) (h : impl_scanner_put.f out ⟨f0, f1, f2, f3, f4⟩ = some out') :
  Calls Tryz.prog 106 #[.pointer (some ⟨b, 0, none⟩), .agg #[.int .i64 f0, .string f1, v2, .string f3, .bool f4]] w fun e w' => e = .returned (.tuple #[]) ∧ St 39 b w0 s p out' w' ∧ ∀ k, X k → k < w.heap.size → k ≠ b → w'.heap[k]? = w.heap[k]? := by
 have hu := Tryz.underlying43;obtain ⟨v, gs, hsb, hrr, hnd, hlt, hout⟩ := hS;obtain ⟨A2, c2, rfl⟩ := Kd.R_slice hA;obtain ⟨A, c, rfl⟩ := Kd.R_slice hrr;have hgl : out.length = gs.length := by rw [← hout, List.length_map]
 have HSB := A_ hsb;have HRR := A_ hrr;have HND := A_ hnd;have HLT := A_ hlt;have HB := A_ hB;have HAR := A_ hA;have HBN := A_ hbn;have HXL := A_ hX;have HN := A_ hn;have HGL := A_ hgl;have HOUT := A_ hout;have H := A_ h;clear hsb hrr hnd hlt hB hA hX hbn hn hout hgl h;go_enter Tryz.func106, Tryz.ntmps106
 by_cases d0 : f0 = 1
 case neg =>
  have q0 : (f0 == 1) = false := bN_ d0;have q1 := eq_false d0;have HQ : As9 (appT out ⟨f0, f1, f2, f3, f4⟩ = some out') := ⟨by have h := H.out; unfold impl_scanner_put.f at h; unfold tkPut at h; rw [if_neg d0] at h; exact h⟩;have HAO : As9 (out.length < 1000000000000 ∧ out ++ [⟨f0, f1, f2, f3, f4⟩] = out') := ⟨by
   have h := HQ.out;unfold appT at h;split at h
   case isTrue hl => exact ⟨hl, sI_ h⟩
   case isFalse => cases h⟩
  have HLN : As9 (gs.length < 1000000000000) := ⟨by rw [← HGL.out]; exact HAO.out.1⟩;go_wp2_with ((with_reducible refine gate_dst (N := 3) rfl ?_); refine bE_ #[.int .i64 f0, .string f1, .slice A2 f2.length c2, .string f3, .bool f4] 43 ?_; intro gt hgt wb hbox hbl; have HP := A_ (Pu.start HSB.out HRR.out HND.out HLT.out HB.out HAR.out HXL.out HBN.out HN.out hgt hbox hbl); clear hgt hbox hbl; have hz0 := (blk_cell HP.out.xt 0).trans rfl; have hz1 := (blk_cell HP.out.xt 1).trans rfl; have hz2 := (blk_cell HP.out.xt 2).trans rfl; have hz3 := (blk_cell HP.out.xt 3).trans rfl; have hz4 := (blk_cell HP.out.xt 4).trans rfl; have hc2 := (blk_cell HP.out.sb 2).trans rfl)
  have HPd := A_ HP.out.drew;clear HP hz0 hz1 hz2 hz3 hz4 hc2;refine start_ (n := 11) (S := fun w' => w'.cell? ⟨b, 2, none⟩ = some (Value.slice A gs.length c) ∧ w'.heap[gt]? = some (.cells #[.int .i64 f0, .string f1, .slice A2 f2.length c2, .string f3, .bool f4] 43 (0, 0))) (ds := [10]) (tS 11 0) (by kernel_rfl) rfl rfl ⟨(blk_cell HPd.out.sb 2).trans rfl, HPd.out.xt⟩ (fun hHeld => ?_);generalize World.drew _ = wr0 at HPd hHeld ⊢;iterate 4 refine pq_ ?_
  refine tq_ rfl (by rintro w' ⟨s0, s1⟩; go_simp; with_reducible rfl) ?_;refine tq_ rfl (by rintro w' ⟨s0, s1⟩; have z0 := (blk_cell s1 0).trans rfl; have z1 := (blk_cell s1 1).trans rfl; have z2 := (blk_cell s1 2).trans rfl; have z3 := (blk_cell s1 3).trans rfl; have z4 := (blk_cell s1 4).trans rfl; go_simp; with_reducible rfl) ?_;refine n1_ 6 (tS 11 7) rfl fun K hK => ?_
  refine lit_step ?hw (v := .slice (some ⟨wr0.heap.size, 0, none⟩) 1 1) (w1' := wr0.alloc (.cells #[.int .i64 f0, .string f1, .slice A2 f2.length c2, .string f3, .bool f4] 43)) ?hr ?_; (case hw => rfl); (case hr => first | (go_simp; done) | (go_simp; rfl));intro wr6 hwr6;refine hK.out _ _ (by rw [hwr6]; exact ⟨(blk_cell (blk_alloc HPd.out.sb _) 2).trans rfl, blk_alloc HPd.out.xt _⟩) (fun hHeld => ?_);clear hK K;refine nm_ ?_;refine n1_ 7 (tS 11 8) rfl fun K hK => ?_
  subst hwr6; refine Kd.R_append_step kGT (w0 := wr0) (b + 1) ?hw (.tmp 46) (.tmp 48) 22 43 (.agg #[.int .i64 0, .string ⟨#[]⟩, .slice none 0 0, .string ⟨#[]⟩, .bool false]) 72 rfl Tryz.underlying22 (by kernel_rfl) rfl de_ om_ (Value.slice A gs.length c) gs (⟨f0, f1, f2, f3, f4, .slice A2 f2.length c2⟩ : GT) [.int .i64 f0, .string f1, .slice A2 f2.length c2, .string f3, .bool f4] (fun k_ => k_ ≠ gt ∧ ¬ X k_) (fun k_ => (k_ ≠ gt ∧ ¬ X k_) ∧ some k_ ≠ (Value.slice A gs.length c).ownBlock) rfl rfl ?aP ?aK ?aF ?aO ?aB ?aS ?aL ?_; (case hw => rfl); (case aP => exact kGT_mkM _ _ _ (⟨f0, f1, f2, f3, f4, .slice A2 f2.length c2⟩ : GT) HPd.out.arow); (case aK => exact fun _ hk_ => hk_); (case aF => intro k_ hk_; have h1_ := blk_lt HPd.out.xt; exact ⟨om_, fun hX_ => by have h2_ := HPd.out.xl k_ hX_; have h3_ := HPd.out.sz; omega⟩); (case aO => exact HPd.out.rr); (case aB => exact Below.refl _ _); (case aS => have := blk_lt HPd.out.sb; omega); (case aL => have := HLN.out; omega);intro v7_ wr7 hr hb hg hat;obtain ⟨A3, c3, rfl⟩ := Kd.R_slice hr;have HSE := A_ (HPd.out.app (x := ⟨f0, f1, f2, f3, f4, .slice A2 f2.length c2⟩) hr hb hg);have HSB7 := A_ (blk_grown HPd.out.sb hg (fun e => by have := Kd.R_base HPd.out.rr b e.symm; omega));refine hK.out _ _ ⟨(blk_cell HSB7.out 2).trans rfl, blk_grown HPd.out.xt hg (fun e => (HPd.out.rr.1 gt e.symm).1 rfl)⟩ (fun hHeld => ?_);clear hK K;refine nm_ ?_;refine pq_ ?_;refine pq_ ?_;refine last_ (i := 10) (N := none) (tS 11 11) rfl rfl (by kernel_rfl) de_ (fun K hK => ?_);refine put_step1 ?hw ?hN 22 (.tmp 51) (.tmp 49) ?ho (g := b) (j := 2) (u := .slice A3 (gs ++ [(⟨f0, f1, f2, f3, f4, .slice A2 f2.length c2⟩ : GT)]).length c3) ?ha ?hx rfl (by kernel_rfl) HSB7.out si_ rfl ?_; (case hw => rfl); (case hN => rfl); (case ho => rfl); (case ha => rfl); (case hx => rfl);refine hK.out _ _ ?_;clear hK K;refine done_ (by kernel_rfl) ?_;go_wp2
  go_end0
  rw [← HAO.out.2, ← HOUT.out];exact ⟨rfl, HSE.out.1, HSE.out.2⟩
 case pos =>
 subst d0;rcases snoc_of gs with rfl | ⟨gl, x, rfl⟩
 ·skip
  obtain rfl : ([] : List S43) = out := HOUT.out;have HQ : As9 (appT [] ⟨1, f1, f2, f3, f4⟩ = some out') := ⟨by have h := H.out; unfold impl_scanner_put.f tkPut at h; rw [if_pos rfl] at h; exact h⟩;have HAO : As9 (([] : List S43).length < 1000000000000 ∧ ([] : List S43) ++ [⟨1, f1, f2, f3, f4⟩] = out') := ⟨by
   have h := HQ.out;unfold appT at h;split at h
   case isTrue hl => exact ⟨hl, sI_ h⟩
   case isFalse => cases h⟩
  have HLN : As9 (([] : List GT).length < 1000000000000) := ⟨by rw [← HGL.out]; exact HAO.out.1⟩;go_wp2_with ((with_reducible refine gate_dst (N := 3) rfl ?_); refine bE_ #[.int .i64 1, .string f1, .slice A2 f2.length c2, .string f3, .bool f4] 43 ?_; intro gt hgt wb hbox hbl; have HP := A_ (Pu.start HSB.out HRR.out HND.out HLT.out HB.out HAR.out HXL.out HBN.out HN.out hgt hbox hbl); clear hgt hbox hbl; have hz0 := (blk_cell HP.out.xt 0).trans rfl; have hz1 := (blk_cell HP.out.xt 1).trans rfl; have hz2 := (blk_cell HP.out.xt 2).trans rfl; have hz3 := (blk_cell HP.out.xt 3).trans rfl; have hz4 := (blk_cell HP.out.xt 4).trans rfl; have hc2 := (blk_cell HP.out.sb 2).trans rfl)
  have HPd := A_ HP.out.drew;clear HP hz0 hz1 hz2 hz3 hz4 hc2;refine start_ (n := 11) (S := fun w' => w'.cell? ⟨b, 2, none⟩ = some (Value.slice A ([] : List GT).length c) ∧ w'.heap[gt]? = some (.cells #[.int .i64 1, .string f1, .slice A2 f2.length c2, .string f3, .bool f4] 43 (0, 0))) (ds := [10]) (tS 11 0) (by kernel_rfl) rfl rfl ⟨(blk_cell HPd.out.sb 2).trans rfl, HPd.out.xt⟩ (fun hHeld => ?_);generalize World.drew _ = wr0 at HPd hHeld ⊢;iterate 4 refine pq_ ?_
  refine tq_ rfl (by rintro w' ⟨s0, s1⟩; go_simp; with_reducible rfl) ?_;refine tq_ rfl (by rintro w' ⟨s0, s1⟩; have z0 := (blk_cell s1 0).trans rfl; have z1 := (blk_cell s1 1).trans rfl; have z2 := (blk_cell s1 2).trans rfl; have z3 := (blk_cell s1 3).trans rfl; have z4 := (blk_cell s1 4).trans rfl; go_simp; with_reducible rfl) ?_;refine n1_ 6 (tS 11 7) rfl fun K hK => ?_
  refine lit_step ?hw (v := .slice (some ⟨wr0.heap.size, 0, none⟩) 1 1) (w1' := wr0.alloc (.cells #[.int .i64 1, .string f1, .slice A2 f2.length c2, .string f3, .bool f4] 43)) ?hr ?_; (case hw => rfl); (case hr => first | (go_simp; done) | (go_simp; rfl));intro wr6 hwr6;refine hK.out _ _ (by rw [hwr6]; exact ⟨(blk_cell (blk_alloc HPd.out.sb _) 2).trans rfl, blk_alloc HPd.out.xt _⟩) (fun hHeld => ?_);clear hK K;refine nm_ ?_;refine n1_ 7 (tS 11 8) rfl fun K hK => ?_
  subst hwr6; refine Kd.R_append_step kGT (w0 := wr0) (b + 1) ?hw (.tmp 46) (.tmp 48) 22 43 (.agg #[.int .i64 0, .string ⟨#[]⟩, .slice none 0 0, .string ⟨#[]⟩, .bool false]) 72 rfl Tryz.underlying22 (by kernel_rfl) rfl de_ om_ (Value.slice A ([] : List GT).length c) ([] : List GT) (⟨1, f1, f2, f3, f4, .slice A2 f2.length c2⟩ : GT) [.int .i64 1, .string f1, .slice A2 f2.length c2, .string f3, .bool f4] (fun k_ => k_ ≠ gt ∧ ¬ X k_) (fun k_ => (k_ ≠ gt ∧ ¬ X k_) ∧ some k_ ≠ (Value.slice A ([] : List GT).length c).ownBlock) rfl rfl ?aP ?aK ?aF ?aO ?aB ?aS ?aL ?_; (case hw => rfl); (case aP => exact kGT_mkM _ _ _ (⟨1, f1, f2, f3, f4, .slice A2 f2.length c2⟩ : GT) HPd.out.arow); (case aK => exact fun _ hk_ => hk_); (case aF => intro k_ hk_; have h1_ := blk_lt HPd.out.xt; exact ⟨om_, fun hX_ => by have h2_ := HPd.out.xl k_ hX_; have h3_ := HPd.out.sz; omega⟩); (case aO => exact HPd.out.rr); (case aB => exact Below.refl _ _); (case aS => have := blk_lt HPd.out.sb; omega); (case aL => have := HLN.out; omega);intro v7_ wr7 hr hb hg hat;obtain ⟨A3, c3, rfl⟩ := Kd.R_slice hr;have HSE := A_ (HPd.out.app (x := ⟨1, f1, f2, f3, f4, .slice A2 f2.length c2⟩) hr hb hg);have HSB7 := A_ (blk_grown HPd.out.sb hg (fun e => by have := Kd.R_base HPd.out.rr b e.symm; omega));refine hK.out _ _ ⟨(blk_cell HSB7.out 2).trans rfl, blk_grown HPd.out.xt hg (fun e => (HPd.out.rr.1 gt e.symm).1 rfl)⟩ (fun hHeld => ?_);clear hK K;refine nm_ ?_;refine pq_ ?_;refine pq_ ?_;refine last_ (i := 10) (N := none) (tS 11 11) rfl rfl (by kernel_rfl) de_ (fun K hK => ?_);refine put_step1 ?hw ?hN 22 (.tmp 51) (.tmp 49) ?ho (g := b) (j := 2) (u := .slice A3 (([] : List GT) ++ [(⟨1, f1, f2, f3, f4, .slice A2 f2.length c2⟩ : GT)]).length c3) ?ha ?hx rfl (by kernel_rfl) HSB7.out si_ rfl ?_; (case hw => rfl); (case hN => rfl); (case ho => rfl); (case ha => rfl); (case hx => rfl);refine hK.out _ _ ?_;clear hK K;refine done_ (by kernel_rfl) ?_;go_wp2
  go_end0
  rw [← HAO.out.2];exact ⟨rfl, HSE.out.1, HSE.out.2⟩
 obtain ⟨g, cg, hv, -, -, -⟩ := Kd.R_form HRR.out si_;injection hv with hv1 hv2 hv3
 subst hv1 hv3;have hlen : (gl ++ [x]).length = gl.length + 1 := by simp
 have hk0 : ((gl.length + 1 : Nat) : Int) = (gl.length : Int) + 1 := rfl;rw [hlen] at HRR HSB;have hk8 := Kd.C_max (Kd.R_reads' HRR.out).2.2;have hk1 : wrap64 ((gl.length : Int) + 1 - 1) = (gl.length : Int) := by unfold wrap64; omega
 have hk2 : wrap64 (gl.length : Int) = (gl.length : Int) := by unfold wrap64; omega
 have hk3 := eq_true (show (0 : Int) ≤ (gl.length : Int) by omega);have hk4 := eq_true (show (gl.length : Int) < (gl.length : Int) + 1 by omega);have hx0 := (RT_last HRR.out).1;have hlo : lastT out = some (erT x) := by rw [← HOUT.out]; unfold lastT; simp
 clear hk8 hv2;by_cases d1 : x.f0 = 1
 case neg =>
  have q0 : (x.f0 == 1) = false := bN_ d1;have q1 := eq_false d1;have HQ : As9 (appT out ⟨1, f1, f2, f3, f4⟩ = some out') := ⟨by have h := H.out; unfold impl_scanner_put.f tkPut at h; rw [if_pos rfl] at h; rw [hlo] at h; dsimp only at h; rw [if_neg (show ¬ (erT x).f0 = 1 from d1)] at h; exact h⟩;have HAO : As9 (out.length < 1000000000000 ∧ out ++ [⟨1, f1, f2, f3, f4⟩] = out') := ⟨by
   have h := HQ.out;unfold appT at h;split at h
   case isTrue hl => exact ⟨hl, sI_ h⟩
   case isFalse => cases h⟩
  have HLN : As9 ((gl ++ [x]).length < 1000000000000) := ⟨by rw [← HGL.out]; exact HAO.out.1⟩;go_wp2_with ((with_reducible refine gate_dst (N := 3) rfl ?_); refine bE_ #[.int .i64 1, .string f1, .slice A2 f2.length c2, .string f3, .bool f4] 43 ?_; intro gt hgt wb hbox hbl; have HP := A_ (Pu.start HSB.out HRR.out HND.out HLT.out HB.out HAR.out HXL.out HBN.out HN.out hgt hbox hbl); clear hgt hbox hbl; have hz0 := (blk_cell HP.out.xt 0).trans rfl; have hz1 := (blk_cell HP.out.xt 1).trans rfl; have hz2 := (blk_cell HP.out.xt 2).trans rfl; have hz3 := (blk_cell HP.out.xt 3).trans rfl; have hz4 := (blk_cell HP.out.xt 4).trans rfl; have hc2 := (blk_cell HP.out.sb 2).trans rfl; have hx0 := (RT_last HP.out.rr).1)
  clear hx0;have HPd := A_ HP.out.drew;clear HP hz0 hz1 hz2 hz3 hz4 hc2;refine start_ (n := 11) (S := fun w' => w'.cell? ⟨b, 2, none⟩ = some (Value.slice (some ⟨g, 0, none⟩) (gl.length + 1) c) ∧ w'.heap[gt]? = some (.cells #[.int .i64 1, .string f1, .slice A2 f2.length c2, .string f3, .bool f4] 43 (0, 0))) (ds := [10]) (tS 11 0) (by kernel_rfl) rfl rfl ⟨(blk_cell HPd.out.sb 2).trans rfl, HPd.out.xt⟩ (fun hHeld => ?_);generalize World.drew _ = wr0 at HPd hHeld ⊢;iterate 4 refine pq_ ?_
  refine tq_ rfl (by rintro w' ⟨s0, s1⟩; go_simp; with_reducible rfl) ?_;refine tq_ rfl (by rintro w' ⟨s0, s1⟩; have z0 := (blk_cell s1 0).trans rfl; have z1 := (blk_cell s1 1).trans rfl; have z2 := (blk_cell s1 2).trans rfl; have z3 := (blk_cell s1 3).trans rfl; have z4 := (blk_cell s1 4).trans rfl; go_simp; with_reducible rfl) ?_;refine n1_ 6 (tS 11 7) rfl fun K hK => ?_
  refine lit_step ?hw (v := .slice (some ⟨wr0.heap.size, 0, none⟩) 1 1) (w1' := wr0.alloc (.cells #[.int .i64 1, .string f1, .slice A2 f2.length c2, .string f3, .bool f4] 43)) ?hr ?_; (case hw => rfl); (case hr => first | (go_simp; done) | (go_simp; rfl));intro wr6 hwr6;refine hK.out _ _ (by rw [hwr6]; exact ⟨(blk_cell (blk_alloc HPd.out.sb _) 2).trans rfl, blk_alloc HPd.out.xt _⟩) (fun hHeld => ?_);clear hK K;refine nm_ ?_;refine n1_ 7 (tS 11 8) rfl fun K hK => ?_
  subst hwr6; refine Kd.R_append_step kGT (w0 := wr0) (b + 1) ?hw (.tmp 46) (.tmp 48) 22 43 (.agg #[.int .i64 0, .string ⟨#[]⟩, .slice none 0 0, .string ⟨#[]⟩, .bool false]) 72 rfl Tryz.underlying22 (by kernel_rfl) rfl de_ om_ (Value.slice (some ⟨g, 0, none⟩) (gl.length + 1) c) (gl ++ [x]) (⟨1, f1, f2, f3, f4, .slice A2 f2.length c2⟩ : GT) [.int .i64 1, .string f1, .slice A2 f2.length c2, .string f3, .bool f4] (fun k_ => k_ ≠ gt ∧ ¬ X k_) (fun k_ => (k_ ≠ gt ∧ ¬ X k_) ∧ some k_ ≠ (Value.slice (some ⟨g, 0, none⟩) (gl.length + 1) c).ownBlock) rfl rfl ?aP ?aK ?aF ?aO ?aB ?aS ?aL ?_; (case hw => rfl); (case aP => exact kGT_mkM _ _ _ (⟨1, f1, f2, f3, f4, .slice A2 f2.length c2⟩ : GT) HPd.out.arow); (case aK => exact fun _ hk_ => hk_); (case aF => intro k_ hk_; have h1_ := blk_lt HPd.out.xt; exact ⟨om_, fun hX_ => by have h2_ := HPd.out.xl k_ hX_; have h3_ := HPd.out.sz; omega⟩); (case aO => exact HPd.out.rr); (case aB => exact Below.refl _ _); (case aS => have := blk_lt HPd.out.sb; omega); (case aL => have := HLN.out; omega);intro v7_ wr7 hr hb hg hat;obtain ⟨A3, c3, rfl⟩ := Kd.R_slice hr;have HSE := A_ (HPd.out.app (x := ⟨1, f1, f2, f3, f4, .slice A2 f2.length c2⟩) hr hb hg);have HSB7 := A_ (blk_grown HPd.out.sb hg (fun e => by have := Kd.R_base HPd.out.rr b e.symm; omega));refine hK.out _ _ ⟨(blk_cell HSB7.out 2).trans rfl, blk_grown HPd.out.xt hg (fun e => (HPd.out.rr.1 gt e.symm).1 rfl)⟩ (fun hHeld => ?_);clear hK K;refine nm_ ?_;refine pq_ ?_;refine pq_ ?_;refine last_ (i := 10) (N := none) (tS 11 11) rfl rfl (by kernel_rfl) de_ (fun K hK => ?_);refine put_step1 ?hw ?hN 22 (.tmp 51) (.tmp 49) ?ho (g := b) (j := 2) (u := .slice A3 ((gl ++ [x]) ++ [(⟨1, f1, f2, f3, f4, .slice A2 f2.length c2⟩ : GT)]).length c3) ?ha ?hx rfl (by kernel_rfl) HSB7.out si_ rfl ?_; (case hw => rfl); (case hN => rfl); (case ho => rfl); (case ha => rfl); (case hx => rfl);refine hK.out _ _ ?_;clear hK K;refine done_ (by kernel_rfl) ?_;go_wp2
  go_end0
  rw [← HAO.out.2, ← HOUT.out];exact ⟨rfl, HSE.out.1, HSE.out.2⟩
 case pos =>
  have hxt : x.f0 = 1 := d1;have HQ : As9 (x.f3.size + f3.size ≤ 140737488355327 ∧ out' = gl.map erT ++ [⟨x.f0, x.f1, x.f2, x.f3 ++ f3, x.f4⟩]) := ⟨by
   have h := H.out;unfold impl_scanner_put.f tkPut at h;rw [if_pos rfl] at h;rw [hlo] at h;dsimp only at h;rw [if_pos (show (erT x).f0 = 1 from d1)] at h;split at h
   case isFalse => cases h
   case isTrue hl =>
   refine ⟨hl, ?_⟩;rw [← HOUT.out, List.map_append, List.map_cons, List.map_nil, List.dropLast_concat] at h;exact (sI_ h).symm⟩
  have q9 : (9223372036854775807 < x.f3.size + f3.size) = False := eq_false (by have := HQ.out.1; omega);go_wp2_with ((with_reducible refine gate_dst (N := 3) rfl ?_); refine bE_ #[.int .i64 1, .string f1, .slice A2 f2.length c2, .string f3, .bool f4] 43 ?_; intro gt hgt wb hbox hbl; have HP := A_ (Pu.start HSB.out HRR.out HND.out HLT.out HB.out HAR.out HXL.out HBN.out HN.out hgt hbox hbl); clear hgt hbox hbl; have hz0 := (blk_cell HP.out.xt 0).trans rfl; have hz1 := (blk_cell HP.out.xt 1).trans rfl; have hz2 := (blk_cell HP.out.xt 2).trans rfl; have hz3 := (blk_cell HP.out.xt 3).trans rfl; have hz4 := (blk_cell HP.out.xt 4).trans rfl; have hc2 := (blk_cell HP.out.sb 2).trans rfl; have hx0 := (RT_last HP.out.rr).1; have hx3 := (RT_last HP.out.rr).2.1)
  have HPd := A_ HP.out.drew;clear HP hz0 hz1 hz2 hz3 hz4 hc2 hx0 hx3;refine start_ (n := 14) (S := fun w' => w'.cell? ⟨b, 2, none⟩ = some (Value.slice (some ⟨g, 0, none⟩) (gl.length + 1) c) ∧ w'.cell? ⟨g, gl.length * 5 + 3, none⟩ = some (.string x.f3) ∧ w'.cell? ⟨gt, 3, none⟩ = some (.string f3)) (ds := [13]) (tS 14 0) (by kernel_rfl) rfl rfl ⟨(blk_cell HPd.out.sb 2).trans rfl, (RT_last HPd.out.rr).2.1, (blk_cell HPd.out.xt 3).trans rfl⟩ (fun hHeld => ?_);generalize World.drew _ = wr0 at HPd hHeld ⊢;iterate 3 refine pq_ ?_
  refine tq_ rfl (by rintro w' ⟨s0, s1, s2⟩; go_simp; with_reducible rfl) ?_;iterate 3 refine pq_ ?_
  refine tq_ rfl (by rintro w' ⟨s0, s1, s2⟩; go_simp; with_reducible rfl) ?_;refine pq_ ?_;refine tq_ rfl (by rintro w' ⟨s0, s1, s2⟩; go_simp; with_reducible rfl) ?_;iterate 3 refine pq_ ?_
  refine last_ (i := 13) (N := none) (tS 14 14) rfl rfl (by kernel_rfl) de_ (fun K hK => ?_);refine tx_step ?hw ?hN 9 (.tmp 41) (.tmp 39) ?ho (k := gl.length) (u := x.f3 ++ f3) ?ha ?hx (by kernel_rfl) HPd.out.rr si_ ?_; (case hw => rfl); (case hN => rfl); (case ho => rfl); (case ha => rfl); (case hx => rfl);intro wr13 hwr13;have HSE := A_ (HPd.out.text (x.f3 ++ f3));rw [← hwr13] at HSE;clear hwr13;refine hK.out _ _ ?_;clear hK K;refine done_ (by kernel_rfl) ?_;go_wp2
  refine bodyPost_ret (results_none rfl _ _ _) rfl ?_;rw [HQ.out.2];exact ⟨rfl, HSE.out.1, HSE.out.2⟩
theorem impl_scanner_put.calls (b n : Nat) (s : BA) (p : Int) (out out' : List S43) (f0 : Int) (f1 : BA) (f2 : List S84) (f3 : BA) (f4 : Bool) (v2 : Value) (w0 w : World) (hS : ScN 39 b n s p out w) (hB : Below b w0 w) (hA : k84.R 84 w n (fun _ => True) v2 f2) (hbn : b < n) (hn : n ≤ w.heap.size) (h : impl_scanner_put.f out ⟨f0, f1, f2, f3, f4⟩ = some out') :
  Calls Tryz.prog 106 #[.pointer (some ⟨b, 0, none⟩), .agg #[.int .i64 f0, .string f1, v2, .string f3, .bool f4]] w fun e w' => e = .returned (.tuple #[]) ∧ St 39 b w0 s p out' w' :=
 (impl_scanner_put.callsX (fun _ => False) b n s p out out' f0 f1 f2 f3 f4 v2 w0 w hS.x hB (Kd.R_mono hA (fun _ _ h => h)) (fun _ h => h.elim) hbn hn h).mono (fun _ _ h => ⟨h.1, h.2.1⟩)
end Go.Proofs.YtkbbfeckieckoaaGreatDoor.A
namespace Go.Proofs.YtkbbfeckieckoaaGreatDoor.A
open Go.RowKit Go.Proofs.YtkbbfeckieckoaaGreatDoorW.PrintWords Go.Proofs.YtkbbfeckieckoaaGreatDoorW.PrintLast Go.Proofs.YtkbbfeckieckoaaGreatDoorW.PrintMore
attribute [local go_sem] max2_int min2_int max_two min_two max_three min_three max_four min_four
set_option linter.unusedVariables false
set_option linter.unusedSimpArgs false
def spec_l5Put.f (out : List S43) (t : S43) : Option (List S43) := if t.f0 = 1 then (if t.f3.toList = [] then some out else tkPut out t) else appT out t
theorem spec_l5Put.callsX (X : Nat → Prop) (b n : Nat) (s : BA) (p : Int) (out out' : List S43) (f0 : Int) (f1 : BA) (f2 : List S84) (f3 : BA) (f4 : Bool) (v2 : Value) (w0 w : World) (hS : ScX 36 b n X s p out w) (hB : Below b w0 w) (hA : k84.R 84 w n (fun k => ¬ X k) v2 f2) (hX : ∀ k, X k → k < w.heap.size) (hbn : b < n) (hn : n ≤ w.heap.size) (h : spec_l5Put.f out ⟨f0, f1, f2, f3, f4⟩ = some out') :
  Calls Tryz.prog 54 #[.pointer (some ⟨b, 0, none⟩), .agg #[.int .i64 f0, .string f1, v2, .string f3, .bool f4]] w fun e w' => e = .returned (.tuple #[]) ∧ St 36 b w0 s p out' w' ∧ ∀ k, X k → k < w.heap.size → k ≠ b → w'.heap[k]? = w.heap[k]? := by
 have hu := Tryz.underlying43;obtain ⟨v, gs, hsb, hrr, hnd, hlt, hout⟩ := hS;obtain ⟨A2, c2, rfl⟩ := Kd.R_slice hA;obtain ⟨A, c, rfl⟩ := Kd.R_slice hrr;have hgl : out.length = gs.length := by rw [← hout, List.length_map]
 have HSB := A_ hsb;have HRR := A_ hrr;have HND := A_ hnd;have HLT := A_ hlt;have HB := A_ hB;have HAR := A_ hA;have HBN := A_ hbn;have HXL := A_ hX;have HN := A_ hn;have HGL := A_ hgl;have HOUT := A_ hout;have H := A_ h;clear hsb hrr hnd hlt hB hA hX hbn hn hout hgl h;go_enter Tryz.func54, Tryz.ntmps54
 by_cases d0 : f0 = 1
 case neg =>
  have q0 : (f0 == 1) = false := bN_ d0;have q1 := eq_false d0;have HQ : As9 (appT out ⟨f0, f1, f2, f3, f4⟩ = some out') := ⟨by have h := H.out; unfold spec_l5Put.f at h; skip; rw [if_neg d0] at h; exact h⟩;have HAO : As9 (out.length < 1000000000000 ∧ out ++ [⟨f0, f1, f2, f3, f4⟩] = out') := ⟨by
   have h := HQ.out;unfold appT at h;split at h
   case isTrue hl => exact ⟨hl, sI_ h⟩
   case isFalse => cases h⟩
  have HLN : As9 (gs.length < 1000000000000) := ⟨by rw [← HGL.out]; exact HAO.out.1⟩;go_wp2_with ((with_reducible refine gate_dst (N := 3) rfl ?_); refine bE_ #[.int .i64 f0, .string f1, .slice A2 f2.length c2, .string f3, .bool f4] 43 ?_; intro gt hgt wb hbox hbl; have HP := A_ (Pu.start HSB.out HRR.out HND.out HLT.out HB.out HAR.out HXL.out HBN.out HN.out hgt hbox hbl); clear hgt hbox hbl; have hz0 := (blk_cell HP.out.xt 0).trans rfl; have hz1 := (blk_cell HP.out.xt 1).trans rfl; have hz2 := (blk_cell HP.out.xt 2).trans rfl; have hz3 := (blk_cell HP.out.xt 3).trans rfl; have hz4 := (blk_cell HP.out.xt 4).trans rfl; have hc2 := (blk_cell HP.out.sb 2).trans rfl)
  have HPd := A_ HP.out.drew;clear HP hz0 hz1 hz2 hz3 hz4 hc2;refine start_ (n := 11) (S := fun w' => w'.cell? ⟨b, 2, none⟩ = some (Value.slice A gs.length c) ∧ w'.heap[gt]? = some (.cells #[.int .i64 f0, .string f1, .slice A2 f2.length c2, .string f3, .bool f4] 43 (0, 0))) (ds := [10]) (tS 11 0) (by kernel_rfl) rfl rfl ⟨(blk_cell HPd.out.sb 2).trans rfl, HPd.out.xt⟩ (fun hHeld => ?_);generalize World.drew _ = wr0 at HPd hHeld ⊢;iterate 4 refine pq_ ?_
  refine tq_ rfl (by rintro w' ⟨s0, s1⟩; go_simp; with_reducible rfl) ?_;refine tq_ rfl (by rintro w' ⟨s0, s1⟩; have z0 := (blk_cell s1 0).trans rfl; have z1 := (blk_cell s1 1).trans rfl; have z2 := (blk_cell s1 2).trans rfl; have z3 := (blk_cell s1 3).trans rfl; have z4 := (blk_cell s1 4).trans rfl; go_simp; with_reducible rfl) ?_;refine n1_ 6 (tS 11 7) rfl fun K hK => ?_
  refine lit_step ?hw (v := .slice (some ⟨wr0.heap.size, 0, none⟩) 1 1) (w1' := wr0.alloc (.cells #[.int .i64 f0, .string f1, .slice A2 f2.length c2, .string f3, .bool f4] 43)) ?hr ?_; (case hw => rfl); (case hr => first | (go_simp; done) | (go_simp; rfl));intro wr6 hwr6;refine hK.out _ _ (by rw [hwr6]; exact ⟨(blk_cell (blk_alloc HPd.out.sb _) 2).trans rfl, blk_alloc HPd.out.xt _⟩) (fun hHeld => ?_);clear hK K;refine nm_ ?_;refine n1_ 7 (tS 11 8) rfl fun K hK => ?_
  subst hwr6; refine Kd.R_append_step kGT (w0 := wr0) (b + 1) ?hw (.tmp 52) (.tmp 54) 22 43 (.agg #[.int .i64 0, .string ⟨#[]⟩, .slice none 0 0, .string ⟨#[]⟩, .bool false]) 72 rfl Tryz.underlying22 (by kernel_rfl) rfl de_ om_ (Value.slice A gs.length c) gs (⟨f0, f1, f2, f3, f4, .slice A2 f2.length c2⟩ : GT) [.int .i64 f0, .string f1, .slice A2 f2.length c2, .string f3, .bool f4] (fun k_ => k_ ≠ gt ∧ ¬ X k_) (fun k_ => (k_ ≠ gt ∧ ¬ X k_) ∧ some k_ ≠ (Value.slice A gs.length c).ownBlock) rfl rfl ?aP ?aK ?aF ?aO ?aB ?aS ?aL ?_; (case hw => rfl); (case aP => exact kGT_mkM _ _ _ (⟨f0, f1, f2, f3, f4, .slice A2 f2.length c2⟩ : GT) HPd.out.arow); (case aK => exact fun _ hk_ => hk_); (case aF => intro k_ hk_; have h1_ := blk_lt HPd.out.xt; exact ⟨om_, fun hX_ => by have h2_ := HPd.out.xl k_ hX_; have h3_ := HPd.out.sz; omega⟩); (case aO => exact HPd.out.rr); (case aB => exact Below.refl _ _); (case aS => have := blk_lt HPd.out.sb; omega); (case aL => have := HLN.out; omega);intro v7_ wr7 hr hb hg hat;obtain ⟨A3, c3, rfl⟩ := Kd.R_slice hr;have HSE := A_ (HPd.out.app (x := ⟨f0, f1, f2, f3, f4, .slice A2 f2.length c2⟩) hr hb hg);have HSB7 := A_ (blk_grown HPd.out.sb hg (fun e => by have := Kd.R_base HPd.out.rr b e.symm; omega));refine hK.out _ _ ⟨(blk_cell HSB7.out 2).trans rfl, blk_grown HPd.out.xt hg (fun e => (HPd.out.rr.1 gt e.symm).1 rfl)⟩ (fun hHeld => ?_);clear hK K;refine nm_ ?_;refine pq_ ?_;refine pq_ ?_;refine last_ (i := 10) (N := none) (tS 11 11) rfl rfl (by kernel_rfl) de_ (fun K hK => ?_);refine put_step1 ?hw ?hN 22 (.tmp 57) (.tmp 55) ?ho (g := b) (j := 2) (u := .slice A3 (gs ++ [(⟨f0, f1, f2, f3, f4, .slice A2 f2.length c2⟩ : GT)]).length c3) ?ha ?hx rfl (by kernel_rfl) HSB7.out si_ rfl ?_; (case hw => rfl); (case hN => rfl); (case ho => rfl); (case ha => rfl); (case hx => rfl);refine hK.out _ _ ?_;clear hK K;refine done_ (by kernel_rfl) ?_;go_wp2
  go_end0
  rw [← HAO.out.2, ← HOUT.out];exact ⟨rfl, HSE.out.1, HSE.out.2⟩
 case pos =>
 subst d0;by_cases de : f3.toList = []
 case pos =>
  have q0 : (f3.toList == []) = true := bQ_ de;have ho : out = out' := by have h := H.out; unfold spec_l5Put.f at h; rw [if_pos rfl, if_pos de] at h; exact sI_ h
  subst ho;go_wp2_with ((with_reducible refine gate_dst (N := 3) rfl ?_); refine bE_ #[.int .i64 1, .string f1, .slice A2 f2.length c2, .string f3, .bool f4] 43 ?_; intro gt hgt wb hbox hbl; have HP := A_ (Pu.start HSB.out HRR.out HND.out HLT.out HB.out HAR.out HXL.out HBN.out HN.out hgt hbox hbl); clear hgt hbox hbl; have hz0 := (blk_cell HP.out.xt 0).trans rfl; have hz1 := (blk_cell HP.out.xt 1).trans rfl; have hz2 := (blk_cell HP.out.xt 2).trans rfl; have hz3 := (blk_cell HP.out.xt 3).trans rfl; have hz4 := (blk_cell HP.out.xt 4).trans rfl; have hc2 := (blk_cell HP.out.sb 2).trans rfl)
  refine bodyPost_ret (results_none rfl _ _ _) rfl ?_;exact ⟨rfl, ⟨⟨_, gs, HP.out.sb, Kd.R_mono HP.out.rr (fun _ _ => trivial), HP.out.nd, fun k hk => Nat.lt_of_lt_of_le (HP.out.lt k hk) HP.out.hn, HOUT.out⟩, HP.out.bl⟩, fun k hX hk _ => HP.out.fx k hX hk⟩
 case neg =>
 have qe : (f3.toList == []) = false := bN_ de;rcases snoc_of gs with rfl | ⟨gl, x, rfl⟩
 ·skip
  obtain rfl : ([] : List S43) = out := HOUT.out;have HQ : As9 (appT [] ⟨1, f1, f2, f3, f4⟩ = some out') := ⟨by have h := H.out; unfold spec_l5Put.f at h; rw [if_pos rfl, if_neg de] at h; unfold tkPut at h; rw [if_pos rfl] at h; exact h⟩;have HAO : As9 (([] : List S43).length < 1000000000000 ∧ ([] : List S43) ++ [⟨1, f1, f2, f3, f4⟩] = out') := ⟨by
   have h := HQ.out;unfold appT at h;split at h
   case isTrue hl => exact ⟨hl, sI_ h⟩
   case isFalse => cases h⟩
  have HLN : As9 (([] : List GT).length < 1000000000000) := ⟨by rw [← HGL.out]; exact HAO.out.1⟩;go_wp2_with ((with_reducible refine gate_dst (N := 3) rfl ?_); refine bE_ #[.int .i64 1, .string f1, .slice A2 f2.length c2, .string f3, .bool f4] 43 ?_; intro gt hgt wb hbox hbl; have HP := A_ (Pu.start HSB.out HRR.out HND.out HLT.out HB.out HAR.out HXL.out HBN.out HN.out hgt hbox hbl); clear hgt hbox hbl; have hz0 := (blk_cell HP.out.xt 0).trans rfl; have hz1 := (blk_cell HP.out.xt 1).trans rfl; have hz2 := (blk_cell HP.out.xt 2).trans rfl; have hz3 := (blk_cell HP.out.xt 3).trans rfl; have hz4 := (blk_cell HP.out.xt 4).trans rfl; have hc2 := (blk_cell HP.out.sb 2).trans rfl)
  have HPd := A_ HP.out.drew;clear HP hz0 hz1 hz2 hz3 hz4 hc2;refine start_ (n := 11) (S := fun w' => w'.cell? ⟨b, 2, none⟩ = some (Value.slice A ([] : List GT).length c) ∧ w'.heap[gt]? = some (.cells #[.int .i64 1, .string f1, .slice A2 f2.length c2, .string f3, .bool f4] 43 (0, 0))) (ds := [10]) (tS 11 0) (by kernel_rfl) rfl rfl ⟨(blk_cell HPd.out.sb 2).trans rfl, HPd.out.xt⟩ (fun hHeld => ?_);generalize World.drew _ = wr0 at HPd hHeld ⊢;iterate 4 refine pq_ ?_
  refine tq_ rfl (by rintro w' ⟨s0, s1⟩; go_simp; with_reducible rfl) ?_;refine tq_ rfl (by rintro w' ⟨s0, s1⟩; have z0 := (blk_cell s1 0).trans rfl; have z1 := (blk_cell s1 1).trans rfl; have z2 := (blk_cell s1 2).trans rfl; have z3 := (blk_cell s1 3).trans rfl; have z4 := (blk_cell s1 4).trans rfl; go_simp; with_reducible rfl) ?_;refine n1_ 6 (tS 11 7) rfl fun K hK => ?_
  refine lit_step ?hw (v := .slice (some ⟨wr0.heap.size, 0, none⟩) 1 1) (w1' := wr0.alloc (.cells #[.int .i64 1, .string f1, .slice A2 f2.length c2, .string f3, .bool f4] 43)) ?hr ?_; (case hw => rfl); (case hr => first | (go_simp; done) | (go_simp; rfl));intro wr6 hwr6;refine hK.out _ _ (by rw [hwr6]; exact ⟨(blk_cell (blk_alloc HPd.out.sb _) 2).trans rfl, blk_alloc HPd.out.xt _⟩) (fun hHeld => ?_);clear hK K;refine nm_ ?_;refine n1_ 7 (tS 11 8) rfl fun K hK => ?_
  subst hwr6; refine Kd.R_append_step kGT (w0 := wr0) (b + 1) ?hw (.tmp 52) (.tmp 54) 22 43 (.agg #[.int .i64 0, .string ⟨#[]⟩, .slice none 0 0, .string ⟨#[]⟩, .bool false]) 72 rfl Tryz.underlying22 (by kernel_rfl) rfl de_ om_ (Value.slice A ([] : List GT).length c) ([] : List GT) (⟨1, f1, f2, f3, f4, .slice A2 f2.length c2⟩ : GT) [.int .i64 1, .string f1, .slice A2 f2.length c2, .string f3, .bool f4] (fun k_ => k_ ≠ gt ∧ ¬ X k_) (fun k_ => (k_ ≠ gt ∧ ¬ X k_) ∧ some k_ ≠ (Value.slice A ([] : List GT).length c).ownBlock) rfl rfl ?aP ?aK ?aF ?aO ?aB ?aS ?aL ?_; (case hw => rfl); (case aP => exact kGT_mkM _ _ _ (⟨1, f1, f2, f3, f4, .slice A2 f2.length c2⟩ : GT) HPd.out.arow); (case aK => exact fun _ hk_ => hk_); (case aF => intro k_ hk_; have h1_ := blk_lt HPd.out.xt; exact ⟨om_, fun hX_ => by have h2_ := HPd.out.xl k_ hX_; have h3_ := HPd.out.sz; omega⟩); (case aO => exact HPd.out.rr); (case aB => exact Below.refl _ _); (case aS => have := blk_lt HPd.out.sb; omega); (case aL => have := HLN.out; omega);intro v7_ wr7 hr hb hg hat;obtain ⟨A3, c3, rfl⟩ := Kd.R_slice hr;have HSE := A_ (HPd.out.app (x := ⟨1, f1, f2, f3, f4, .slice A2 f2.length c2⟩) hr hb hg);have HSB7 := A_ (blk_grown HPd.out.sb hg (fun e => by have := Kd.R_base HPd.out.rr b e.symm; omega));refine hK.out _ _ ⟨(blk_cell HSB7.out 2).trans rfl, blk_grown HPd.out.xt hg (fun e => (HPd.out.rr.1 gt e.symm).1 rfl)⟩ (fun hHeld => ?_);clear hK K;refine nm_ ?_;refine pq_ ?_;refine pq_ ?_;refine last_ (i := 10) (N := none) (tS 11 11) rfl rfl (by kernel_rfl) de_ (fun K hK => ?_);refine put_step1 ?hw ?hN 22 (.tmp 57) (.tmp 55) ?ho (g := b) (j := 2) (u := .slice A3 (([] : List GT) ++ [(⟨1, f1, f2, f3, f4, .slice A2 f2.length c2⟩ : GT)]).length c3) ?ha ?hx rfl (by kernel_rfl) HSB7.out si_ rfl ?_; (case hw => rfl); (case hN => rfl); (case ho => rfl); (case ha => rfl); (case hx => rfl);refine hK.out _ _ ?_;clear hK K;refine done_ (by kernel_rfl) ?_;go_wp2
  go_end0
  rw [← HAO.out.2];exact ⟨rfl, HSE.out.1, HSE.out.2⟩
 obtain ⟨g, cg, hv, -, -, -⟩ := Kd.R_form HRR.out si_;injection hv with hv1 hv2 hv3
 subst hv1 hv3;have hlen : (gl ++ [x]).length = gl.length + 1 := by simp
 have hk0 : ((gl.length + 1 : Nat) : Int) = (gl.length : Int) + 1 := rfl;rw [hlen] at HRR HSB;have hk8 := Kd.C_max (Kd.R_reads' HRR.out).2.2;have hk1 : wrap64 ((gl.length : Int) + 1 - 1) = (gl.length : Int) := by unfold wrap64; omega
 have hk2 : wrap64 (gl.length : Int) = (gl.length : Int) := by unfold wrap64; omega
 have hk3 := eq_true (show (0 : Int) ≤ (gl.length : Int) by omega);have hk4 := eq_true (show (gl.length : Int) < (gl.length : Int) + 1 by omega);have hx0 := (RT_last HRR.out).1;have hlo : lastT out = some (erT x) := by rw [← HOUT.out]; unfold lastT; simp
 clear hk8 hv2;by_cases d1 : x.f0 = 1
 case neg =>
  have q0 : (x.f0 == 1) = false := bN_ d1;have q1 := eq_false d1;have HQ : As9 (appT out ⟨1, f1, f2, f3, f4⟩ = some out') := ⟨by have h := H.out; unfold spec_l5Put.f at h; rw [if_pos rfl, if_neg de] at h; unfold tkPut at h; rw [if_pos rfl] at h; rw [hlo] at h; dsimp only at h; rw [if_neg (show ¬ (erT x).f0 = 1 from d1)] at h; exact h⟩;have HAO : As9 (out.length < 1000000000000 ∧ out ++ [⟨1, f1, f2, f3, f4⟩] = out') := ⟨by
   have h := HQ.out;unfold appT at h;split at h
   case isTrue hl => exact ⟨hl, sI_ h⟩
   case isFalse => cases h⟩
  have HLN : As9 ((gl ++ [x]).length < 1000000000000) := ⟨by rw [← HGL.out]; exact HAO.out.1⟩;go_wp2_with ((with_reducible refine gate_dst (N := 3) rfl ?_); refine bE_ #[.int .i64 1, .string f1, .slice A2 f2.length c2, .string f3, .bool f4] 43 ?_; intro gt hgt wb hbox hbl; have HP := A_ (Pu.start HSB.out HRR.out HND.out HLT.out HB.out HAR.out HXL.out HBN.out HN.out hgt hbox hbl); clear hgt hbox hbl; have hz0 := (blk_cell HP.out.xt 0).trans rfl; have hz1 := (blk_cell HP.out.xt 1).trans rfl; have hz2 := (blk_cell HP.out.xt 2).trans rfl; have hz3 := (blk_cell HP.out.xt 3).trans rfl; have hz4 := (blk_cell HP.out.xt 4).trans rfl; have hc2 := (blk_cell HP.out.sb 2).trans rfl; have hx0 := (RT_last HP.out.rr).1)
  clear hx0;have HPd := A_ HP.out.drew;clear HP hz0 hz1 hz2 hz3 hz4 hc2;refine start_ (n := 11) (S := fun w' => w'.cell? ⟨b, 2, none⟩ = some (Value.slice (some ⟨g, 0, none⟩) (gl.length + 1) c) ∧ w'.heap[gt]? = some (.cells #[.int .i64 1, .string f1, .slice A2 f2.length c2, .string f3, .bool f4] 43 (0, 0))) (ds := [10]) (tS 11 0) (by kernel_rfl) rfl rfl ⟨(blk_cell HPd.out.sb 2).trans rfl, HPd.out.xt⟩ (fun hHeld => ?_);generalize World.drew _ = wr0 at HPd hHeld ⊢;iterate 4 refine pq_ ?_
  refine tq_ rfl (by rintro w' ⟨s0, s1⟩; go_simp; with_reducible rfl) ?_;refine tq_ rfl (by rintro w' ⟨s0, s1⟩; have z0 := (blk_cell s1 0).trans rfl; have z1 := (blk_cell s1 1).trans rfl; have z2 := (blk_cell s1 2).trans rfl; have z3 := (blk_cell s1 3).trans rfl; have z4 := (blk_cell s1 4).trans rfl; go_simp; with_reducible rfl) ?_;refine n1_ 6 (tS 11 7) rfl fun K hK => ?_
  refine lit_step ?hw (v := .slice (some ⟨wr0.heap.size, 0, none⟩) 1 1) (w1' := wr0.alloc (.cells #[.int .i64 1, .string f1, .slice A2 f2.length c2, .string f3, .bool f4] 43)) ?hr ?_; (case hw => rfl); (case hr => first | (go_simp; done) | (go_simp; rfl));intro wr6 hwr6;refine hK.out _ _ (by rw [hwr6]; exact ⟨(blk_cell (blk_alloc HPd.out.sb _) 2).trans rfl, blk_alloc HPd.out.xt _⟩) (fun hHeld => ?_);clear hK K;refine nm_ ?_;refine n1_ 7 (tS 11 8) rfl fun K hK => ?_
  subst hwr6; refine Kd.R_append_step kGT (w0 := wr0) (b + 1) ?hw (.tmp 52) (.tmp 54) 22 43 (.agg #[.int .i64 0, .string ⟨#[]⟩, .slice none 0 0, .string ⟨#[]⟩, .bool false]) 72 rfl Tryz.underlying22 (by kernel_rfl) rfl de_ om_ (Value.slice (some ⟨g, 0, none⟩) (gl.length + 1) c) (gl ++ [x]) (⟨1, f1, f2, f3, f4, .slice A2 f2.length c2⟩ : GT) [.int .i64 1, .string f1, .slice A2 f2.length c2, .string f3, .bool f4] (fun k_ => k_ ≠ gt ∧ ¬ X k_) (fun k_ => (k_ ≠ gt ∧ ¬ X k_) ∧ some k_ ≠ (Value.slice (some ⟨g, 0, none⟩) (gl.length + 1) c).ownBlock) rfl rfl ?aP ?aK ?aF ?aO ?aB ?aS ?aL ?_; (case hw => rfl); (case aP => exact kGT_mkM _ _ _ (⟨1, f1, f2, f3, f4, .slice A2 f2.length c2⟩ : GT) HPd.out.arow); (case aK => exact fun _ hk_ => hk_); (case aF => intro k_ hk_; have h1_ := blk_lt HPd.out.xt; exact ⟨om_, fun hX_ => by have h2_ := HPd.out.xl k_ hX_; have h3_ := HPd.out.sz; omega⟩); (case aO => exact HPd.out.rr); (case aB => exact Below.refl _ _); (case aS => have := blk_lt HPd.out.sb; omega); (case aL => have := HLN.out; omega);intro v7_ wr7 hr hb hg hat;obtain ⟨A3, c3, rfl⟩ := Kd.R_slice hr;have HSE := A_ (HPd.out.app (x := ⟨1, f1, f2, f3, f4, .slice A2 f2.length c2⟩) hr hb hg);have HSB7 := A_ (blk_grown HPd.out.sb hg (fun e => by have := Kd.R_base HPd.out.rr b e.symm; omega));refine hK.out _ _ ⟨(blk_cell HSB7.out 2).trans rfl, blk_grown HPd.out.xt hg (fun e => (HPd.out.rr.1 gt e.symm).1 rfl)⟩ (fun hHeld => ?_);clear hK K;refine nm_ ?_;refine pq_ ?_;refine pq_ ?_;refine last_ (i := 10) (N := none) (tS 11 11) rfl rfl (by kernel_rfl) de_ (fun K hK => ?_);refine put_step1 ?hw ?hN 22 (.tmp 57) (.tmp 55) ?ho (g := b) (j := 2) (u := .slice A3 ((gl ++ [x]) ++ [(⟨1, f1, f2, f3, f4, .slice A2 f2.length c2⟩ : GT)]).length c3) ?ha ?hx rfl (by kernel_rfl) HSB7.out si_ rfl ?_; (case hw => rfl); (case hN => rfl); (case ho => rfl); (case ha => rfl); (case hx => rfl);refine hK.out _ _ ?_;clear hK K;refine done_ (by kernel_rfl) ?_;go_wp2
  go_end0
  rw [← HAO.out.2, ← HOUT.out];exact ⟨rfl, HSE.out.1, HSE.out.2⟩
 case pos =>
  have hxt : x.f0 = 1 := d1;have HQ : As9 (x.f3.size + f3.size ≤ 140737488355327 ∧ out' = gl.map erT ++ [⟨x.f0, x.f1, x.f2, x.f3 ++ f3, x.f4⟩]) := ⟨by
   have h := H.out;unfold spec_l5Put.f at h;rw [if_pos rfl, if_neg de] at h;unfold tkPut at h;rw [if_pos rfl] at h;rw [hlo] at h;dsimp only at h;rw [if_pos (show (erT x).f0 = 1 from d1)] at h;split at h
   case isFalse => cases h
   case isTrue hl =>
   refine ⟨hl, ?_⟩;rw [← HOUT.out, List.map_append, List.map_cons, List.map_nil, List.dropLast_concat] at h;exact (sI_ h).symm⟩
  have q9 : (9223372036854775807 < x.f3.size + f3.size) = False := eq_false (by have := HQ.out.1; omega);go_wp2_with ((with_reducible refine gate_dst (N := 3) rfl ?_); refine bE_ #[.int .i64 1, .string f1, .slice A2 f2.length c2, .string f3, .bool f4] 43 ?_; intro gt hgt wb hbox hbl; have HP := A_ (Pu.start HSB.out HRR.out HND.out HLT.out HB.out HAR.out HXL.out HBN.out HN.out hgt hbox hbl); clear hgt hbox hbl; have hz0 := (blk_cell HP.out.xt 0).trans rfl; have hz1 := (blk_cell HP.out.xt 1).trans rfl; have hz2 := (blk_cell HP.out.xt 2).trans rfl; have hz3 := (blk_cell HP.out.xt 3).trans rfl; have hz4 := (blk_cell HP.out.xt 4).trans rfl; have hc2 := (blk_cell HP.out.sb 2).trans rfl; have hx0 := (RT_last HP.out.rr).1; have hx3 := (RT_last HP.out.rr).2.1)
  have HPd := A_ HP.out.drew;clear HP hz0 hz1 hz2 hz3 hz4 hc2 hx0 hx3;refine start_ (n := 19) (S := fun w' => w'.cell? ⟨b, 2, none⟩ = some (Value.slice (some ⟨g, 0, none⟩) (gl.length + 1) c) ∧ w'.cell? ⟨g, gl.length * 5 + 3, none⟩ = some (.string x.f3) ∧ w'.cell? ⟨gt, 3, none⟩ = some (.string f3)) (ds := [18]) (tS 19 0) (by kernel_rfl) rfl rfl ⟨(blk_cell HPd.out.sb 2).trans rfl, (RT_last HPd.out.rr).2.1, (blk_cell HPd.out.xt 3).trans rfl⟩ (fun hHeld => ?_);generalize World.drew _ = wr0 at HPd hHeld ⊢;iterate 3 refine pq_ ?_
  refine tq_ rfl (by rintro w' ⟨s0, s1, s2⟩; go_simp; with_reducible rfl) ?_;iterate 4 refine pq_ ?_
  refine tq_ rfl (by rintro w' ⟨s0, s1, s2⟩; go_simp; with_reducible rfl) ?_;iterate 3 refine pq_ ?_
  refine tq_ rfl (by rintro w' ⟨s0, s1, s2⟩; go_simp; with_reducible rfl) ?_;refine pq_ ?_;refine tq_ rfl (by rintro w' ⟨s0, s1, s2⟩; go_simp; with_reducible rfl) ?_;iterate 3 refine pq_ ?_
  refine last_ (i := 18) (N := none) (tS 19 19) rfl rfl (by kernel_rfl) de_ (fun K hK => ?_);refine tx_step ?hw ?hN 9 (.tmp 47) (.tmp 45) ?ho (k := gl.length) (u := x.f3 ++ f3) ?ha ?hx (by kernel_rfl) HPd.out.rr si_ ?_; (case hw => rfl); (case hN => rfl); (case ho => rfl); (case ha => rfl); (case hx => rfl);intro wr18 hwr18;have HSE := A_ (HPd.out.text (x.f3 ++ f3));rw [← hwr18] at HSE;clear hwr18;refine hK.out _ _ ?_;clear hK K;refine done_ (by kernel_rfl) ?_;go_wp2
  refine bodyPost_ret (results_none rfl _ _ _) rfl ?_;rw [HQ.out.2];exact ⟨rfl, HSE.out.1, HSE.out.2⟩
theorem spec_l5Put.calls (b n : Nat) (s : BA) (p : Int) (out out' : List S43) (f0 : Int) (f1 : BA) (f2 : List S84) (f3 : BA) (f4 : Bool) (v2 : Value) (w0 w : World) (hS : ScN 36 b n s p out w) (hB : Below b w0 w) (hA : k84.R 84 w n (fun _ => True) v2 f2) (hbn : b < n) (hn : n ≤ w.heap.size) (h : spec_l5Put.f out ⟨f0, f1, f2, f3, f4⟩ = some out') :
  Calls Tryz.prog 54 #[.pointer (some ⟨b, 0, none⟩), .agg #[.int .i64 f0, .string f1, v2, .string f3, .bool f4]] w fun e w' => e = .returned (.tuple #[]) ∧ St 36 b w0 s p out' w' :=
 (spec_l5Put.callsX (fun _ => False) b n s p out out' f0 f1 f2 f3 f4 v2 w0 w hS.x hB (Kd.R_mono hA (fun _ _ h => h)) (fun _ h => h.elim) hbn hn h).mono (fun _ _ h => ⟨h.1, h.2.1⟩)
mutual
def spec_l3Digit.j0 : Nat → Int → Bool → Bool → Option (Int)
 | 0, _, _, _ => none
 | k + 1, x0, x1, x5 => if x5 = true then (some (wrap64 ((wrap64 (x0)) - 48))) else (if x1 = true then (if x0 ≥ 97 then (spec_l3Digit.j1 k x0 x1 (decide (x0 ≤ 102))) else (spec_l3Digit.j1 k x0 x1 false)) else (spec_l3Digit.j1 k x0 x1 false))
def spec_l3Digit.j1 : Nat → Int → Bool → Bool → Option (Int)
 | 0, _, _, _ => none
 | k + 1, x0, x1, x15 => if x15 = true then (some (wrap64 ((wrap64 (x0)) - 87))) else (if x1 = true then (if x0 ≥ 65 then (if x0 ≤ 70 then (some (wrap64 ((wrap64 (x0)) - 55))) else (some (-1))) else (some (-1))) else (some (-1)))
end
def spec_l3Digit.f (k : Nat) (a0 : Int) (a1 : Bool) : Option (Int) := if a0 ≥ 48 then (spec_l3Digit.j0 k a0 a1 (decide (a0 ≤ 57))) else (spec_l3Digit.j0 k a0 a1 false)
theorem spec_l3Digit.mono_l : ∀ k, (∀ y0 y1 y2, LeO (spec_l3Digit.j0 k y0 y1 y2) (spec_l3Digit.j0 (k + 1) y0 y1 y2)) ∧ (∀ y0 y1 y2, LeO (spec_l3Digit.j1 k y0 y1 y2) (spec_l3Digit.j1 (k + 1) y0 y1 y2))
 | 0 => ⟨fun _ _ _ r h => by simp [spec_l3Digit.j0] at h, fun _ _ _ r h => by simp [spec_l3Digit.j1] at h⟩
 | k + 1 => by
  obtain ⟨ih0, ih1⟩ := spec_l3Digit.mono_l k;refine ⟨?_, ?_⟩
  ·intro y0 y1 y2;unfold spec_l3Digit.j0;with_reducible repeat' first | exact ih0 _ _ _ | exact ih1 _ _ _ | apply LeO.refl | apply LeO.none | apply LeO.ite | apply LeO.bind | intro
  ·intro y0 y1 y2;unfold spec_l3Digit.j1;with_reducible repeat' first | exact ih0 _ _ _ | exact ih1 _ _ _ | apply LeO.refl | apply LeO.none | apply LeO.ite | apply LeO.bind | intro
theorem spec_l3Digit.mono : ∀ a0 a1 k, LeO (spec_l3Digit.f k a0 a1) (spec_l3Digit.f (k + 1) a0 a1) := by
 intro a0 a1 k;obtain ⟨ih0, ih1⟩ := spec_l3Digit.mono_l k;unfold spec_l3Digit.f;with_reducible repeat' first | exact ih0 _ _ _ | exact ih1 _ _ _ | apply LeO.refl | apply LeO.none | apply LeO.ite | apply LeO.bind | intro
theorem spec_l3Digit.calls (k : Nat) (a0 : Int) (a1 : Bool) (r : Int) (w : World) (h : spec_l3Digit.f k a0 a1 = some r) :
  Calls Tryz.prog 133 #[.int .u8 a0, .bool a1] w fun e w' => e = .returned (.int .i64 r) ∧ Drawn0 w w' := by
 have H : (if a0 ≥ 48 then (spec_l3Digit.j0 k a0 a1 (decide (a0 ≤ 57))) else (spec_l3Digit.j0 k a0 a1 false)) = some r := h;clear h;have HC3 := A_ H;clear H;go_enter Tryz.func133, Tryz.ntmps133
 go_upto_region 1 with (fail)
 go_cut [5] (fun v5 wc => ∃ (kq : Nat) (x5_2 : Bool), v5 = .bool x5_2 ∧ As9 (spec_l3Digit.j0 kq a0 a1 x5_2 = some r) ∧ As9 (kq ≤ k) ∧ Drawn0 w wc)
 case first =>
  have H := HC3.out;clear HC3;rcases ic_ H with ⟨c4, H⟩ | ⟨c4, H⟩
  ·have c4b0 : decide (48 ≤ a0) = true := dE_ c4;clear c4;(first | rw [c4b0] | (simp only [i64_w, i32_w]; rw [c4b0]) | skip)
   have H' := A_ H;clear H;go_wp2
   go_meet
   case rel => exact ⟨_, (decide (a0 ≤ 57)), e2_, H', ⟨by first | omega | exact Nat.le_refl _⟩, d0_⟩
  ·have c4b0 : decide (48 ≤ a0) = false := dF_ c4;clear c4;(first | rw [c4b0] | (simp only [i64_w, i32_w]; rw [c4b0]) | skip)
   have H' := A_ H;clear H;go_wp2
   go_meet
   case rel => exact ⟨_, (false), e2_, H', ⟨by first | omega | exact Nat.le_refl _⟩, d0_⟩
 case rest =>
  clear HC3;try clear c1
  try clear p2
  try clear c4
  try clear c4b0
  obtain ⟨kq, x5_2, rfl, HA, HJ2, ⟨mc2, rfl⟩⟩ := hcut;cases kq with
  | zero => exact absurd HA.out (by simp [spec_l3Digit.j0])
  | succ kj2 =>
   have H := HA.out;clear HA;simp only [spec_l3Digit.j0] at H;by_cases c5 : x5_2 = true
   ·subst c5;rw [if_pos rfl] at H;obtain rfl := sI_ H;go_wp2
    go_ret
    exact ⟨e2_, d0_⟩
   ·replace c5 := bF_ c5;subst c5;rw [if_neg nF_] at H;have HC6 := A_ H;clear H;go_upto_region 3 with (fail)
    go_cut [15] (fun v15 wc => ∃ (kq : Nat) (x15_5 : Bool), v15 = .bool x15_5 ∧ As9 (spec_l3Digit.j1 kq a0 a1 x15_5 = some r) ∧ As9 (kq ≤ kj2) ∧ Drawn0 w wc)
    case first =>
     have H := HC6.out;clear HC6;by_cases c7 : a1 = true
     ·subst c7;rw [if_pos rfl] at H;rcases ic_ H with ⟨c8, H⟩ | ⟨c8, H⟩
      ·have c8b0 : decide (97 ≤ a0) = true := dE_ c8;clear c8;(first | rw [c8b0] | (simp only [i64_w, i32_w]; rw [c8b0]) | skip)
       have H' := A_ H;clear H;go_wp2
       go_meet
       case rel => exact ⟨_, (decide (a0 ≤ 102)), e2_, H', ⟨by have := HJ2.out; first | omega | exact Nat.le_refl _⟩, d0_⟩
      ·have c8b0 : decide (97 ≤ a0) = false := dF_ c8;clear c8;(first | rw [c8b0] | (simp only [i64_w, i32_w]; rw [c8b0]) | skip)
       have H' := A_ H;clear H;go_wp2
       go_meet
       case rel => exact ⟨_, (false), e2_, H', ⟨by have := HJ2.out; first | omega | exact Nat.le_refl _⟩, d0_⟩
     ·replace c7 := bF_ c7;subst c7;rw [if_neg nF_] at H;have H' := A_ H;clear H;go_wp2
      go_meet
      case rel => exact ⟨_, (false), e2_, H', ⟨by have := HJ2.out; first | omega | exact Nat.le_refl _⟩, d0_⟩
    case rest =>
     clear HC6;try clear c1
     try clear c2
     try clear p2
     try clear c4
     try clear c4b0
     try clear c5
     try clear p6
     try clear c7
     try clear c8
     try clear c8b0
     try clear p2
     obtain ⟨kq, x15_5, rfl, HA, HJ5, ⟨mc5, rfl⟩⟩ := hcut;cases kq with
     | zero => exact absurd HA.out (by simp [spec_l3Digit.j1])
     | succ kj5 =>
      have H := HA.out;clear HA;simp only [spec_l3Digit.j1] at H;by_cases c9 : x15_5 = true
      ·subst c9;rw [if_pos rfl] at H;obtain rfl := sI_ H;go_wp2
       go_ret
       exact ⟨e2_, d0_⟩
      ·replace c9 := bF_ c9;subst c9;rw [if_neg nF_] at H;by_cases c10 : a1 = true
       ·subst c10;rw [if_pos rfl] at H;rcases ic_ H with ⟨c11, H⟩ | ⟨c11, H⟩
        ·have c11b0 : decide (65 ≤ a0) = true := dE_ c11;clear c11;rcases ic_ H with ⟨c12, H⟩ | ⟨c12, H⟩
         ·have c12b0 := dE_ c12;clear c12;obtain rfl := sI_ H;go_wp2
          go_ret
          exact ⟨e2_, d0_⟩
         ·have c12b0 := dF_ c12;clear c12;obtain rfl := sI_ H;go_wp2
          go_ret
          exact ⟨e2_, d0_⟩
        ·have c11b0 : decide (65 ≤ a0) = false := dF_ c11;clear c11;obtain rfl := sI_ H;go_wp2
         go_ret
         exact ⟨e2_, d0_⟩
       ·replace c10 := bF_ c10;subst c10;rw [if_neg nF_] at H;obtain rfl := sI_ H;go_wp2
        go_ret
        exact ⟨e2_, d0_⟩
def spec_l1Min.f (a0 : Int) (a1 : Int) : Option (Int) := if a0 < a1 then (some a0) else (some a1)
theorem spec_l1Min.calls (a0 : Int) (a1 : Int) (r : Int) (w : World) (h : spec_l1Min.f a0 a1 = some r) :
  Calls Tryz.prog 100 #[.int .i64 a0, .int .i64 a1] w fun e w' => e = .returned (.int .i64 r) ∧ Drawn0 w w' := by
 have H : (if a0 < a1 then (some a0) else (some a1)) = some r := h;clear h;rcases ic_ H with ⟨c3, H⟩ | ⟨c3, H⟩
 ·have c3b0 := dE_ c3;clear c3;obtain rfl := sI_ H;go_enter Tryz.func100, Tryz.ntmps100
  go_wp2
  go_ret
  exact ⟨e2_, d0_⟩
 ·have c3b0 := dF_ c3;clear c3;obtain rfl := sI_ H;go_enter Tryz.func100, Tryz.ntmps100
  go_wp2
  go_ret
  exact ⟨e2_, d0_⟩
def spec_Numbered.j0 : Nat → Int → List Int → Bool → Option (Int)
 | 0, _, _, _ => none
 | k + 1, x0, x3, x11 => if x11 = true then (some 65533) else ((spec_l1In.f x0 128 159).bind fun t156 => (if t156 = true then (if 0 ≤ (wrap64 (x0 - 128)) then (if (wrap64 (x0 - 128)) < (x3.length : Int) then (some (rd x3 (wrap64 (x0 - 128)))) else (none)) else (none)) else (some x0)))
def spec_Numbered.f (k : Nat) (a0 : Int) : Option (Int) := (some (([8364, 129, 8218, 402, 8222, 8230, 8224, 8225, 710, 8240, 352, 8249, 338, 141, 381, 143, 144, 8216, 8217, 8220, 8221, 8226, 8211, 8212, 732, 8482, 353, 8250, 339, 157, 382, 376] : List Int) : List Int)).bind fun y152 => (if a0 = 0 then (spec_Numbered.j0 k a0 y152 true) else ((spec_SignOk.f a0).bind fun t155 => (spec_Numbered.j0 k a0 y152 (!t155))))
theorem spec_Numbered.mono_l : ∀ k, (∀ y0 y1 y2, LeO (spec_Numbered.j0 k y0 y1 y2) (spec_Numbered.j0 (k + 1) y0 y1 y2))
 | 0 => fun _ _ _ r h => by simp [spec_Numbered.j0] at h
 | k + 1 => by
  have ih0 := spec_Numbered.mono_l k
  ·intro y0 y1 y2;unfold spec_Numbered.j0;with_reducible repeat' first | exact ih0 _ _ _ | apply LeO.refl | apply LeO.none | apply LeO.ite | apply LeO.bind | intro
theorem spec_Numbered.mono : ∀ a0 k, LeO (spec_Numbered.f k a0) (spec_Numbered.f (k + 1) a0) := by
 intro a0 k;have ih0 := spec_Numbered.mono_l k;unfold spec_Numbered.f;with_reducible repeat' first | exact ih0 _ _ _ | apply LeO.refl | apply LeO.none | apply LeO.ite | apply LeO.bind | intro
theorem spec_Numbered.calls (k : Nat) (a0 : Int) (r : Int) (w : World) (h : spec_Numbered.f k a0 = some r) :
  Calls Tryz.prog 156 #[.int .i64 a0] w fun e w' => e = .returned (.int .i64 r) ∧ Below w.heap.size w w' := by
 have HB := A_ (Below.refl w.heap.size w);have H : ((some (([8364, 129, 8218, 402, 8222, 8230, 8224, 8225, 710, 8240, 352, 8249, 338, 141, 381, 143, 144, 8216, 8217, 8220, 8221, 8226, 8211, 8212, 732, 8482, 353, 8250, 339, 157, 382, 376] : List Int) : List Int)).bind fun y152 => (if a0 = 0 then (spec_Numbered.j0 k a0 y152 true) else ((spec_SignOk.f a0).bind fun t155 => (spec_Numbered.j0 k a0 y152 (!t155))))) = some r := h;clear h;obtain ⟨y152, hy152⟩ : ∃ y_ : List Int, y_ = (([8364, 129, 8218, 402, 8222, 8230, 8224, 8225, 710, 8240, 352, 8249, 338, 141, 381, 143, 144, 8216, 8217, 8220, 8221, 8226, 8211, 8212, 732, 8482, 353, 8250, 339, 157, 382, 376] : List Int)) := ⟨_, rfl⟩;replace H : (if a0 = 0 then (spec_Numbered.j0 k a0 y152 true) else ((spec_SignOk.f a0).bind fun t155 => (spec_Numbered.j0 k a0 y152 (!t155)))) = some r := by first | (rw [hy152]; with_reducible exact H) | (have H2_ := (Option.bind_some _ _).symm.trans H; rw [hy152]; with_reducible exact H2_) | (have H2_ := (Option.bind_some _ _).symm.trans H; with_reducible exact H2_) | with_reducible exact H | (rw [hy152]; exact H) | exact H
 have Ny152 := A_ hy152;clear hy152;have HC2 := A_ H;clear H;go_enter Tryz.func156, Tryz.ntmps156
 go_upto_region 2 with (first | ((with_reducible refine gate_dst (N := 4) rfl ?_); refine rl_ (Kd.int .i64) 3 4 [8364, 129, 8218, 402, 8222, 8230, 8224, 8225, 710, 8240, 352, 8249, 338, 141, 381, 143, 144, 8216, 8217, 8220, 8221, 8226, 8211, 8212, 732, 8482, 353, 8250, 339, 157, 382, 376] [.int .i64 8364, .int .i64 129, .int .i64 8218, .int .i64 402, .int .i64 8222, .int .i64 8230, .int .i64 8224, .int .i64 8225, .int .i64 710, .int .i64 8240, .int .i64 352, .int .i64 8249, .int .i64 338, .int .i64 141, .int .i64 381, .int .i64 143, .int .i64 144, .int .i64 8216, .int .i64 8217, .int .i64 8220, .int .i64 8221, .int .i64 8226, .int .i64 8211, .int .i64 8212, .int .i64 732, .int .i64 8482, .int .i64 353, .int .i64 8250, .int .i64 339, .int .i64 157, .int .i64 382, .int .i64 376] ?_; intro v153 w3 ho4 hb hg_ hnew_; clear hg_ hnew_; (first | rw [← Ny152.out] at ho4 | (simp only [Int.reduceToNat] at ho4; rw [← Ny152.out] at ho4)); have HO154 := A_ (Kd.R_lower ho4 (below_size hB_)); replace HB := bS_ hb; clear hb ho4))
 (try simp only [Act.put, List.setIfInBounds_toArray, List.set_cons_zero, List.set_cons_succ])
 go_cut [11] (fun v11 wc => ∃ (kq : Nat) (x11_1 : Bool), v11 = .bool x11_1 ∧ As9 (spec_Numbered.j0 kq a0 y152 x11_1 = some r) ∧ As9 (kq ≤ k) ∧ As9 (Kd.R (Kd.int .i64) 3 wc w.heap.size (fun _ => True) v153 y152) ∧ As9 (Below w.heap.size w wc))
 case first =>
  have H := HC2.out;clear HC2;rcases ic_ H with ⟨c5, H⟩ | ⟨c5, H⟩
  ·obtain ⟨c5b0, c5b1⟩ := be_ c5;clear c5;(first | rw [c5b0] | (simp only [i64_w, i32_w]; rw [c5b0]) | skip)
   have H' := A_ H;clear H;go_wp2
   go_meet
   case rel => exact ⟨_, (true), e2_, H', ⟨by first | omega | exact Nat.le_refl _⟩, ⟨kQ_ HO154.out⟩, ⟨hB_⟩⟩
  ·obtain ⟨c5b0, c5b1⟩ := bn_ c5;(first | rw [c5b0] | (simp only [i64_w, i32_w]; rw [c5b0]) | skip)
   obtain ⟨t155, A6, H⟩ := ob_ H;(try dsimp only at H)
   have H' := A_ H;clear H;go_wp2_with (first | (go_at_call 127; (with_reducible refine (spec_SignOk.calls a0 t155 _ A6.out).mono ?_); rintro e w' ⟨rfl, ⟨nd, rfl⟩⟩))
   go_meet
   case rel => exact ⟨_, (!t155), e2_, H', ⟨by first | omega | exact Nat.le_refl _⟩, ⟨kQ_ HO154.out⟩, ⟨hB_⟩⟩
 case rest =>
  clear HC2;try clear c1
  try clear p2
  try clear c5
  try clear c5b0
  try clear c5b1
  obtain ⟨kq, x11_1, rfl, HA, HJ1, HO_3, HB⟩ := hcut;cases kq with
  | zero => exact absurd HA.out (by simp [spec_Numbered.j0])
  | succ kj1 =>
   have H := HA.out;clear HA;simp only [spec_Numbered.j0] at H;by_cases c7 : x11_1 = true
   ·subst c7;rw [if_pos rfl] at H;obtain rfl := sI_ H;go_wp2
    go_ret
    exact ⟨e1_, hB_⟩
   ·replace c7 := bF_ c7;subst c7;rw [if_neg nF_] at H;obtain ⟨t156, A8, H⟩ := ob_ H;(try dsimp only at H)
    by_cases c9 : t156 = true
    ·subst c9;rw [if_pos rfl] at H;obtain ⟨ji10, hji10⟩ : ∃ j_ : Int, (wrap64 (a0 - 128)) = j_ := ⟨_, rfl⟩;replace H : (if 0 ≤ (ji10) then (if (ji10) < (y152.length : Int) then (some (rd y152 (ji10))) else (none)) else (none)) = some r := by first | (rw [hji10] at H; exact H) | (simp only [hji10] at H ⊢; exact H)
     (try rw [hji10] at A8)
     have hji10w : (IntKind.i64.wrap (a0 - 128)) = ji10 := (i64_w _).trans hji10;obtain ⟨c11, H⟩ := ifn_ H;have c11b0 := dE_ c11;clear c11;obtain ⟨c12, H⟩ := ifn_ H;have c12b0 := dE_ c12;clear c12;obtain rfl := sI_ H;go_wp2_with (first | ((with_reducible refine gC_ 95 ?_); refine gL_ 13 Tryz.func95 #[.int .i64 a0, .int .i64 128, .int .i64 159] ?_; refine dm_ (spec_l1In.calls a0 128 159 true _ A8.out) fun nd => ?_; obtain ⟨Ao13, co13, eo13⟩ := Kd.R_slice HO_3.out; subst eo13; have p157 : 0 ≤ ((ji10) : Int) := dT_; have q157 : (ji10) < (y152.length : Int) := dT_; obtain ⟨ad157, e157, hx157_0⟩ := Kd.at_int (Kd.R_reads' HO_3.out).2.2 (ji10) p157 q157; cases e157; replace p157 := eq_true p157; replace q157 := eq_true q157))
     go_ret
     exact ⟨by first | rfl | (simp [errW_none, errW_some] <;> rfl) | (simp only [← hji10]; first | rfl | (simp [errW_none, errW_some] <;> rfl)) | (simp [*, errW_none, errW_some] <;> rfl), hB_⟩
    ·replace c9 := bF_ c9;subst c9;rw [if_neg nF_] at H;obtain rfl := sI_ H;go_wp2_with (first | ((with_reducible refine gC_ 95 ?_); refine gL_ 13 Tryz.func95 #[.int .i64 a0, .int .i64 128, .int .i64 159] ?_; refine dm_ (spec_l1In.calls a0 128 159 false _ A8.out) fun nd => ?_))
     go_ret
     exact ⟨e1_, hB_⟩
mutual
def spec_l3Number.j0 : Nat → ByteArray → Int → Int → Bool → Option (ByteArray × Int)
 | 0, _, _, _, _ => none
 | k + 1, x0, x1, x6, x7 => if x7 = true then (spec_l3Number.j1 k x0 x1 (wrap64 (x6 + 1)) x7 16) else (spec_l3Number.j1 k x0 x1 x6 x7 10)
def spec_l3Number.j1 : Nat → ByteArray → Int → Int → Bool → Int → Option (ByteArray × Int)
 | 0, _, _, _, _, _ => none
 | k + 1, x0, x1, x6, x7, x8 => spec_l3Number.l0 k x0 x1 x6 x7 x8 x6 0
def spec_l3Number.l0 : Nat → ByteArray → Int → Int → Bool → Int → Int → Int → Option (ByteArray × Int)
 | 0, _, _, _, _, _, _, _ => none
 | k + 1, x0, x1, x6, x7, x8, x9, x10 => if x6 < (x0.size : Int) then (if 0 ≤ x6 then ((spec_l3Digit.f k (bt x0 x6) x7).bind fun t158 => (spec_l3Number.j3 k x0 x1 x6 x7 x8 x9 x10 (decide (t158 ≥ 0)))) else (none)) else (spec_l3Number.j3 k x0 x1 x6 x7 x8 x9 x10 false)
def spec_l3Number.j3 : Nat → ByteArray → Int → Int → Bool → Int → Int → Int → Bool → Option (ByteArray × Int)
 | 0, _, _, _, _, _, _, _, _ => none
 | k + 1, x0, x1, x6, x7, x8, x9, x10, x44 => if x44 = true then (if 0 ≤ x6 then (if x6 < (x0.size : Int) then ((spec_l3Digit.f k (bt x0 x6) x7).bind fun t159 => ((spec_l1Min.f (wrap64 ((wrap64 (x10 * x8)) + t159)) 1114112).bind fun t160 => (spec_l3Number.l0 k x0 x1 (wrap64 (x6 + 1)) x7 x8 x9 t160))) else (none)) else (none)) else (if x6 = x9 then (some ((⟨#[]⟩ : BA), 0)) else (if x6 < (x0.size : Int) then (if 0 ≤ x6 then (spec_l3Number.j4 k x1 x6 x10 ((bt x0 x6) == 59)) else (none)) else (spec_l3Number.j4 k x1 x6 x10 false)))
def spec_l3Number.j4 : Nat → Int → Int → Int → Bool → Option (ByteArray × Int)
 | 0, _, _, _, _ => none
 | k + 1, x1, x6, x10, x69 => if x69 = true then ((spec_Numbered.f k x10).bind fun t161 => ((spec_PutSign.f k t161).bind fun t162 => (some (t162, wrap64 ((wrap64 (x6 + 1)) - x1))))) else ((spec_Numbered.f k x10).bind fun t163 => ((spec_PutSign.f k t163).bind fun t164 => (some (t164, wrap64 (x6 - x1)))))
end
def spec_l3Number.f (k : Nat) (a0 : BA) (a1 : Int) : Option (ByteArray × Int) := if (wrap64 (a1 + 2)) < (a0.size : Int) then (if 0 ≤ (wrap64 (a1 + 2)) then (if (bt a0 (wrap64 (a1 + 2))) = 120 then (spec_l3Number.j0 k a0 a1 (wrap64 (a1 + 2)) true) else (spec_l3Number.j0 k a0 a1 (wrap64 (a1 + 2)) ((bt a0 (wrap64 (a1 + 2))) == 88))) else (none)) else (spec_l3Number.j0 k a0 a1 (wrap64 (a1 + 2)) false)
theorem spec_l3Number.mono_l : ∀ k, (∀ y0 y1 y2 y3, LeO (spec_l3Number.j0 k y0 y1 y2 y3) (spec_l3Number.j0 (k + 1) y0 y1 y2 y3)) ∧ (∀ y0 y1 y2 y3 y4, LeO (spec_l3Number.j1 k y0 y1 y2 y3 y4) (spec_l3Number.j1 (k + 1) y0 y1 y2 y3 y4)) ∧ (∀ y0 y1 y2 y3 y4 y5 y6, LeO (spec_l3Number.l0 k y0 y1 y2 y3 y4 y5 y6) (spec_l3Number.l0 (k + 1) y0 y1 y2 y3 y4 y5 y6)) ∧ (∀ y0 y1 y2 y3 y4 y5 y6 y7, LeO (spec_l3Number.j3 k y0 y1 y2 y3 y4 y5 y6 y7) (spec_l3Number.j3 (k + 1) y0 y1 y2 y3 y4 y5 y6 y7)) ∧ (∀ y0 y1 y2 y3, LeO (spec_l3Number.j4 k y0 y1 y2 y3) (spec_l3Number.j4 (k + 1) y0 y1 y2 y3))
 | 0 => ⟨fun _ _ _ _ r h => by simp [spec_l3Number.j0] at h, fun _ _ _ _ _ r h => by simp [spec_l3Number.j1] at h, fun _ _ _ _ _ _ _ r h => by simp [spec_l3Number.l0] at h, fun _ _ _ _ _ _ _ _ r h => by simp [spec_l3Number.j3] at h, fun _ _ _ _ r h => by simp [spec_l3Number.j4] at h⟩
 | k + 1 => by
  obtain ⟨ih0, ih1, ih2, ih3, ih4⟩ := spec_l3Number.mono_l k;refine ⟨?_, ?_, ?_, ?_, ?_⟩
  ·intro y0 y1 y2 y3;unfold spec_l3Number.j0;with_reducible repeat' first | exact ih0 _ _ _ _ | exact ih1 _ _ _ _ _ | exact ih2 _ _ _ _ _ _ _ | exact ih3 _ _ _ _ _ _ _ _ | exact ih4 _ _ _ _ | exact spec_Numbered.mono _ _ | exact spec_PutSign.mono _ _ | exact spec_l3Digit.mono _ _ _ | apply LeO.refl | apply LeO.none | apply LeO.ite | apply LeO.bind | intro
  ·intro y0 y1 y2 y3 y4;unfold spec_l3Number.j1;with_reducible repeat' first | exact ih0 _ _ _ _ | exact ih1 _ _ _ _ _ | exact ih2 _ _ _ _ _ _ _ | exact ih3 _ _ _ _ _ _ _ _ | exact ih4 _ _ _ _ | exact spec_Numbered.mono _ _ | exact spec_PutSign.mono _ _ | exact spec_l3Digit.mono _ _ _ | apply LeO.refl | apply LeO.none | apply LeO.ite | apply LeO.bind | intro
  ·intro y0 y1 y2 y3 y4 y5 y6;unfold spec_l3Number.l0;with_reducible repeat' first | exact ih0 _ _ _ _ | exact ih1 _ _ _ _ _ | exact ih2 _ _ _ _ _ _ _ | exact ih3 _ _ _ _ _ _ _ _ | exact ih4 _ _ _ _ | exact spec_Numbered.mono _ _ | exact spec_PutSign.mono _ _ | exact spec_l3Digit.mono _ _ _ | apply LeO.refl | apply LeO.none | apply LeO.ite | apply LeO.bind | intro
  ·intro y0 y1 y2 y3 y4 y5 y6 y7;unfold spec_l3Number.j3;with_reducible repeat' first | exact ih0 _ _ _ _ | exact ih1 _ _ _ _ _ | exact ih2 _ _ _ _ _ _ _ | exact ih3 _ _ _ _ _ _ _ _ | exact ih4 _ _ _ _ | exact spec_Numbered.mono _ _ | exact spec_PutSign.mono _ _ | exact spec_l3Digit.mono _ _ _ | apply LeO.refl | apply LeO.none | apply LeO.ite | apply LeO.bind | intro
  ·intro y0 y1 y2 y3;unfold spec_l3Number.j4;with_reducible repeat' first | exact ih0 _ _ _ _ | exact ih1 _ _ _ _ _ | exact ih2 _ _ _ _ _ _ _ | exact ih3 _ _ _ _ _ _ _ _ | exact ih4 _ _ _ _ | exact spec_Numbered.mono _ _ | exact spec_PutSign.mono _ _ | exact spec_l3Digit.mono _ _ _ | apply LeO.refl | apply LeO.none | apply LeO.ite | apply LeO.bind | intro
theorem spec_l3Number.mono : ∀ a0 a1 k, LeO (spec_l3Number.f k a0 a1) (spec_l3Number.f (k + 1) a0 a1) := by
 intro a0 a1 k;obtain ⟨ih0, ih1, ih2, ih3, ih4⟩ := spec_l3Number.mono_l k;unfold spec_l3Number.f;with_reducible repeat' first | exact ih0 _ _ _ _ | exact ih1 _ _ _ _ _ | exact ih2 _ _ _ _ _ _ _ | exact ih3 _ _ _ _ _ _ _ _ | exact ih4 _ _ _ _ | exact spec_Numbered.mono _ _ | exact spec_PutSign.mono _ _ | exact spec_l3Digit.mono _ _ _ | apply LeO.refl | apply LeO.none | apply LeO.ite | apply LeO.bind | intro
theorem spec_l3Number.calls (k : Nat) (a0 : BA) (a1 : Int) (r1 : BA) (r2 : Int) (w : World) (h : spec_l3Number.f k a0 a1 = some (r1, r2)) :
  Calls Tryz.prog 130 #[.string a0, .int .i64 a1] w fun e w' => e = .returned (.tuple #[.string r1, .int .i64 r2]) ∧ Below w.heap.size w w' := by
 have HB := A_ (Below.refl w.heap.size w);have H : (if (wrap64 (a1 + 2)) < (a0.size : Int) then (if 0 ≤ (wrap64 (a1 + 2)) then (if (bt a0 (wrap64 (a1 + 2))) = 120 then (spec_l3Number.j0 k a0 a1 (wrap64 (a1 + 2)) true) else (spec_l3Number.j0 k a0 a1 (wrap64 (a1 + 2)) ((bt a0 (wrap64 (a1 + 2))) == 88))) else (none)) else (spec_l3Number.j0 k a0 a1 (wrap64 (a1 + 2)) false)) = some (r1, r2) := h;clear h;have HC3 := A_ H;clear H;go_enter Tryz.func130, Tryz.ntmps130
 go_upto_region 2 with (fail)
 go_cut [7] (fun v7 wc => ∃ (kq : Nat) (x7_2 : Bool), v7 = .bool x7_2 ∧ As9 (spec_l3Number.j0 kq a0 a1 (wrap64 (a1 + 2)) x7_2 = some (r1, r2)) ∧ As9 (kq ≤ k) ∧ As9 (Below w.heap.size w wc))
 case first =>
  have H := HC3.out;clear HC3;rcases ic_ H with ⟨c4, H⟩ | ⟨c4, H⟩
  ·have c4b0 := dE_ c4;clear c4;(first | rw [c4b0] | (simp only [i64_w, i32_w]; rw [c4b0]) | skip)
   obtain ⟨c5, H⟩ := ifn_ H;have c5b0 := dE_ c5;clear c5;rcases ic_ H with ⟨c7, H⟩ | ⟨c7, H⟩
   ·obtain ⟨c7b0, c7b1⟩ := be_ c7;clear c7;have H' := A_ H;clear H;have p6 : 0 ≤ ((wrap64 (a1 + 2)) : Int) := dT_;have q6 : (wrap64 (a1 + 2)) < (a0.size : Int) := dT_;have hx6 := bt_at a0 (wrap64 (a1 + 2));replace p6 := eq_true p6;replace q6 := eq_true q6;go_wp2
    go_meet
    case rel => exact ⟨_, (true), e2_, H', ⟨by first | omega | exact Nat.le_refl _⟩, ⟨hB_⟩⟩
   ·obtain ⟨c7b0, c7b1⟩ := bn_ c7;have H' := A_ H;clear H;have p6 : 0 ≤ ((wrap64 (a1 + 2)) : Int) := dT_;have q6 : (wrap64 (a1 + 2)) < (a0.size : Int) := dT_;have hx6 := bt_at a0 (wrap64 (a1 + 2));replace p6 := eq_true p6;replace q6 := eq_true q6;have p8 : 0 ≤ ((wrap64 (a1 + 2)) : Int) := dT_;have q8 : (wrap64 (a1 + 2)) < (a0.size : Int) := dT_;have hx8 := bt_at a0 (wrap64 (a1 + 2));replace p8 := eq_true p8;replace q8 := eq_true q8;go_wp2
    go_meet
    case rel => exact ⟨_, (((bt a0 (wrap64 (a1 + 2))) == 88)), e2_, H', ⟨by first | omega | exact Nat.le_refl _⟩, ⟨hB_⟩⟩
  ·have c4b0 := dF_ c4;clear c4;(first | rw [c4b0] | (simp only [i64_w, i32_w]; rw [c4b0]) | skip)
   have H' := A_ H;clear H;go_wp2
   go_meet
   case rel => exact ⟨_, (false), e2_, H', ⟨by first | omega | exact Nat.le_refl _⟩, ⟨hB_⟩⟩
 case rest =>
  clear HC3;try clear c1
  try clear p2
  try clear c4
  try clear c4b0
  try clear c5
  try clear c5b0
  try clear p6
  try clear q6
  try clear hx6
  try clear c7
  try clear c7b0
  try clear c7b1
  try clear p8
  try clear q8
  try clear hx8
  try clear p6
  try clear p8
  try clear q6
  try clear q8
  obtain ⟨kq, x7_2, rfl, HA, HJ2, HB⟩ := hcut;cases kq with
  | zero => exact absurd HA.out (by simp [spec_l3Number.j0])
  | succ kj2 =>
   have H := HA.out;clear HA;simp only [spec_l3Number.j0] at H;have HC9 := A_ H;clear H;go_upto_if 29 with (fail)
   go_cut [6, 8] (fun v6 v8 wc => ∃ (kq : Nat) (x6_8 : Int) (x8_8 : Int), v6 = .int .i64 x6_8 ∧ v8 = .int .i64 x8_8 ∧ As9 (spec_l3Number.j1 kq a0 a1 x6_8 x7_2 x8_8 = some (r1, r2)) ∧ As9 (kq ≤ kj2) ∧ As9 (Below w.heap.size w wc))
   case first =>
    have H := HC9.out;clear HC9;by_cases c10 : x7_2 = true
    ·subst c10;rw [if_pos rfl] at H;have H' := A_ H;clear H;go_wp2
     go_meet
     case rel => exact ⟨_, (wrap64 ((wrap64 (a1 + 2)) + 1)), (16), e2_, e2_, H', ⟨by have := HJ2.out; first | omega | exact Nat.le_refl _⟩, ⟨hB_⟩⟩
    ·replace c10 := bF_ c10;subst c10;rw [if_neg nF_] at H;have H' := A_ H;clear H;go_wp2
     go_meet
     case rel => exact ⟨_, ((wrap64 (a1 + 2))), (10), e2_, e2_, H', ⟨by have := HJ2.out; first | omega | exact Nat.le_refl _⟩, ⟨hB_⟩⟩
   case rest =>
    clear HC9;try clear c1
    try clear p2
    try clear c4
    try clear c4b0
    try clear c5
    try clear c5b0
    try clear p6
    try clear q6
    try clear hx6
    try clear c7
    try clear c7b0
    try clear c7b1
    try clear p8
    try clear q8
    try clear hx8
    try clear c10
    try clear p2
    try clear p6
    try clear p8
    try clear q6
    try clear q8
    obtain ⟨kq, x6_8, x8_8, rfl, rfl, HA, HJ8, HB⟩ := hcut;cases kq with
    | zero => exact absurd HA.out (by simp [spec_l3Number.j1])
    | succ kj8 =>
     have H := HA.out;clear HA;simp only [spec_l3Number.j1] at H;have H' := A_ H;clear H;go_wp2
     go_loopg [6, 10] kj8 (fun kq v6 v10 w' => ∃ (x6_3 : Int) (x10_3 : Int), v6 = .int .i64 x6_3 ∧ v10 = .int .i64 x10_3 ∧ As9 (spec_l3Number.l0 kq a0 a1 x6_3 x7_2 x8_8 x6_8 x10_3 = some (r1, r2)) ∧ As9 (kq ≤ kj8) ∧ As9 (Below w.heap.size w w'))
     case atStart => exact ⟨(x6_8), (0), e2_, e2_, H', ⟨Nat.le_refl _⟩, ⟨hB_⟩⟩
     case round =>
      clear H';try clear c1
      try clear p2
      try clear c4
      try clear c4b0
      try clear c5
      try clear c5b0
      try clear p6
      try clear q6
      try clear hx6
      try clear c7
      try clear c7b0
      try clear c7b1
      try clear p8
      try clear q8
      try clear hx8
      try clear c10
      try clear p2
      try clear p6
      try clear p8
      try clear q6
      try clear q8
      obtain ⟨x6_3, x10_3, rfl, rfl, HA, HK3, HB⟩ := hrel;cases gk with
      | zero => exact absurd HA.out (by simp [spec_l3Number.l0])
      | succ k3 =>
       have H := HA.out;clear HA;simp only [spec_l3Number.l0] at H;have HC11 := A_ H;clear H;go_upto_region 9 with (fail)
       go_cut [44] (fun v44 wc => ∃ (kq : Nat) (x44_10 : Bool), v44 = .bool x44_10 ∧ As9 (spec_l3Number.j3 kq a0 a1 x6_3 x7_2 x8_8 x6_8 x10_3 x44_10 = some (r1, r2)) ∧ As9 (kq ≤ k3) ∧ As9 (Below w.heap.size w wc))
       case first =>
        have H := HC11.out;clear HC11;rcases ic_ H with ⟨c12, H⟩ | ⟨c12, H⟩
        ·have c12b0 := dE_ c12;clear c12;(first | rw [c12b0] | (simp only [i64_w, i32_w]; rw [c12b0]) | skip)
         obtain ⟨c13, H⟩ := ifn_ H;have c13b0 := dE_ c13;clear c13;obtain ⟨t158, A15, H⟩ := ob_ H;(try dsimp only at H)
         have H' := A_ H;clear H;have p14 : 0 ≤ (x6_3 : Int) := dT_;have q14 : x6_3 < (a0.size : Int) := dT_;have hx14 := bt_at a0 x6_3;replace p14 := eq_true p14;replace q14 := eq_true q14;go_wp2_with (first | (go_at_call 133; (with_reducible refine (spec_l3Digit.calls k3 (bt a0 x6_3) x7_2 t158 _ A15.out).mono ?_); rintro e w' ⟨rfl, ⟨nd, rfl⟩⟩))
         go_meet
         case rel => exact ⟨_, (decide (t158 ≥ 0)), e2_, H', ⟨by have := HJ2.out; have := HJ8.out; have := HK3.out; first | omega | exact Nat.le_refl _⟩, ⟨hB_⟩⟩
        ·have c12b0 := dF_ c12;clear c12;(first | rw [c12b0] | (simp only [i64_w, i32_w]; rw [c12b0]) | skip)
         have H' := A_ H;clear H;go_wp2
         go_meet
         case rel => exact ⟨_, (false), e2_, H', ⟨by have := HJ2.out; have := HJ8.out; have := HK3.out; first | omega | exact Nat.le_refl _⟩, ⟨hB_⟩⟩
       case rest =>
        clear HC11;try clear c1
        try clear p1
        try clear q1
        try clear hx1
        try clear p2
        try clear c4
        try clear c4b0
        try clear c5
        try clear c5b0
        try clear p6
        try clear q6
        try clear hx6
        try clear c7
        try clear c7b0
        try clear c7b1
        try clear p8
        try clear q8
        try clear hx8
        try clear c10
        try clear c12
        try clear c12b0
        try clear c13
        try clear c13b0
        try clear p14
        try clear q14
        try clear hx14
        try clear p14
        try clear p2
        try clear p6
        try clear p8
        try clear q14
        try clear q6
        try clear q8
        obtain ⟨kq, x44_10, rfl, HA, HJ10, HB⟩ := hcut;cases kq with
        | zero => exact absurd HA.out (by simp [spec_l3Number.j3])
        | succ kj10 =>
         have H := HA.out;clear HA;simp only [spec_l3Number.j3] at H;by_cases c16 : x44_10 = true
         ·subst c16;rw [if_pos rfl] at H;obtain ⟨c17, H⟩ := ifn_ H;have c17b0 := dE_ c17;clear c17;obtain ⟨c18, H⟩ := ifn_ H;have c18b0 := dE_ c18;clear c18;obtain ⟨t159, A20, H⟩ := ob_ H;obtain ⟨t160, A21, H⟩ := ob_ H;(try dsimp only at H)
          have H' := A_ H;clear H;have p19 : 0 ≤ (x6_3 : Int) := dT_;have q19 : x6_3 < (a0.size : Int) := dT_;have hx19 := bt_at a0 x6_3;replace p19 := eq_true p19;replace q19 := eq_true q19;go_wp2_with (first | ((with_reducible refine gC_ 133 ?_); refine gL_ 52 Tryz.func133 #[.int .u8 (bt a0 x6_3), .bool x7_2] ?_; refine dm_ (spec_l3Digit.calls kj10 (bt a0 x6_3) x7_2 t159 _ A20.out) fun nd => ?_) | ((with_reducible refine gC_ 100 ?_); refine gL_ 54 Tryz.func100 #[.int .i64 (wrap64 ((wrap64 (x10_3 * x8_8)) + t159)), .int .i64 1114112] ?_; (with_reducible refine (spec_l1Min.calls (wrap64 ((wrap64 (x10_3 * x8_8)) + t159)) 1114112 t160 _ A21.out).mono ?_); rintro e w' ⟨rfl, ⟨nd, rfl⟩⟩; refine ⟨_, rfl, ?_⟩))
          go_roundg kj10
          case measure => have := HJ2.out; have := HJ8.out; have := HK3.out; have := HJ10.out; omega
          case rel => exact ⟨(wrap64 (x6_3 + 1)), (t160), e2_, e2_, H', ⟨by have := HJ2.out; have := HJ8.out; have := HK3.out; have := HJ10.out; omega⟩, ⟨hB_⟩⟩
         ·replace c16 := bF_ c16;subst c16;rw [if_neg nF_] at H;rcases ic_ H with ⟨c22, H⟩ | ⟨c22, H⟩
          ·obtain ⟨c22b0, c22b1⟩ := be_ c22;clear c22;obtain ⟨rfl, rfl⟩ := pi_ H;go_wp2
           go_ret2
           exact ⟨e1_, hB_⟩
          ·obtain ⟨c22b0, c22b1⟩ := bn_ c22;have HC23 := A_ H;clear H;go_upto_region 14 with (fail)
           go_cut [69] (fun v69 wc => ∃ (kq : Nat) (x69_22 : Bool), v69 = .bool x69_22 ∧ As9 (spec_l3Number.j4 kq a1 x6_3 x10_3 x69_22 = some (r1, r2)) ∧ As9 (kq ≤ kj10) ∧ As9 (Below w.heap.size w wc))
           case first =>
            have H := HC23.out;clear HC23;rcases ic_ H with ⟨c24, H⟩ | ⟨c24, H⟩
            ·have c24b0 := dE_ c24;clear c24;(first | rw [c24b0] | (simp only [i64_w, i32_w]; rw [c24b0]) | skip)
             obtain ⟨c25, H⟩ := ifn_ H;have c25b0 := dE_ c25;clear c25;have H' := A_ H;clear H;have p26 : 0 ≤ (x6_3 : Int) := dT_;have q26 : x6_3 < (a0.size : Int) := dT_;have hx26 := bt_at a0 x6_3;replace p26 := eq_true p26;replace q26 := eq_true q26;go_wp2
             go_meet
             case rel => exact ⟨_, (((bt a0 x6_3) == 59)), e2_, H', ⟨by have := HJ2.out; have := HJ8.out; have := HK3.out; have := HJ10.out; first | omega | exact Nat.le_refl _⟩, ⟨hB_⟩⟩
            ·have c24b0 := dF_ c24;clear c24;(first | rw [c24b0] | (simp only [i64_w, i32_w]; rw [c24b0]) | skip)
             have H' := A_ H;clear H;go_wp2
             go_meet
             case rel => exact ⟨_, (false), e2_, H', ⟨by have := HJ2.out; have := HJ8.out; have := HK3.out; have := HJ10.out; first | omega | exact Nat.le_refl _⟩, ⟨hB_⟩⟩
           case rest =>
            clear HC23;try clear c1
            try clear p1
            try clear q1
            try clear hx1
            try clear c2
            try clear p2
            try clear q2
            try clear hx2
            try clear c4
            try clear c4b0
            try clear c5
            try clear c5b0
            try clear p6
            try clear q6
            try clear hx6
            try clear c7
            try clear c7b0
            try clear c7b1
            try clear p8
            try clear q8
            try clear hx8
            try clear c10
            try clear c12
            try clear c12b0
            try clear c13
            try clear c13b0
            try clear p14
            try clear q14
            try clear hx14
            try clear c16
            try clear c17
            try clear c17b0
            try clear c18
            try clear c18b0
            try clear p19
            try clear q19
            try clear hx19
            try clear c22
            try clear c22b0
            try clear c22b1
            try clear c24
            try clear c24b0
            try clear c25
            try clear c25b0
            try clear p26
            try clear q26
            try clear hx26
            try clear p1
            try clear p14
            try clear p19
            try clear p2
            try clear p26
            try clear p6
            try clear p8
            try clear q1
            try clear q14
            try clear q19
            try clear q26
            try clear q6
            try clear q8
            obtain ⟨kq, x69_22, rfl, HA, HJ22, HB⟩ := hcut;cases kq with
            | zero => exact absurd HA.out (by simp [spec_l3Number.j4])
            | succ kj22 =>
             have H := HA.out;clear HA;simp only [spec_l3Number.j4] at H;by_cases c27 : x69_22 = true
             ·subst c27;rw [if_pos rfl] at H;obtain ⟨t161, A28, H⟩ := ob_ H;obtain ⟨t162, A29, H⟩ := ob_ H;(try dsimp only at H)
              obtain ⟨rfl, rfl⟩ := pi_ H;go_wp2_with (first | ((with_reducible refine gC_ 156 ?_); refine gL_ 73 Tryz.func156 #[.int .i64 x10_3] ?_; refine bm_ (spec_Numbered.calls kj22 x10_3 t161 _ A28.out) ?_; clear HB; intro w30 HB) | ((with_reducible refine gC_ 92 ?_); refine gL_ 74 Tryz.func92 #[.int .i64 t161] ?_; refine bm_ (spec_PutSign.calls kj22 t161 t162 _ A29.out) ?_; clear HB; intro w31 HB))
              go_ret2
              exact ⟨e1_, hB_⟩
             ·replace c27 := bF_ c27;subst c27;rw [if_neg nF_] at H;obtain ⟨t163, A32, H⟩ := ob_ H;obtain ⟨t164, A33, H⟩ := ob_ H;(try dsimp only at H)
              obtain ⟨rfl, rfl⟩ := pi_ H;go_wp2_with (first | ((with_reducible refine gC_ 156 ?_); refine gL_ 73 Tryz.func156 #[.int .i64 x10_3] ?_; refine bm_ (spec_Numbered.calls kj22 x10_3 t163 _ A32.out) ?_; clear HB; intro w34 HB) | ((with_reducible refine gC_ 92 ?_); refine gL_ 74 Tryz.func92 #[.int .i64 t163] ?_; refine bm_ (spec_PutSign.calls kj22 t163 t164 _ A33.out) ?_; clear HB; intro w35 HB))
              go_ret2
              exact ⟨e1_, hB_⟩
end Go.Proofs.YtkbbfeckieckoaaGreatDoor.A
