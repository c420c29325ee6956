-- joined by wip/tools/shake.py
import Derived.Test.YtlocaaebgghkbaaVTreeK
import Derived.Test.YtlocaaebgghkbaaMTree0
import Derived.Test.YtlocaaebgghkbaaMTree1
import Derived.Test.YtlocaaebgghkbaaMTree4
import Derived.Test.YtlocaaebgghkbaaMTree2
import Derived.Test.YtlocaaebgghkbaaMTree5
import Derived.Test.YtlocaaebgghkbaaMTree3
import Derived.ChangeArms
import Derived.Deep.Slices
namespace Go.Proofs.Ytlocaaebgghkbaa.A
open Go.RowKit Go.Proofs.YtlocaaebgghkbaaW.PrintWords Go.Proofs.YtlocaaebgghkbaaW.PrintLast Go.Proofs.YtlocaaebgghkbaaW.PrintMore
set_option linter.unusedVariables false
theorem Ev.ifp {α : Type} {c : Prop} [Decidable c] {f g : Nat → Option α} {r : α} (hc : c) (h : Ev f r) : Ev (fun k => if c then f k else g k) r := Ev.congr (fun k => if_pos hc) h
theorem Ev.ifn {α : Type} {c : Prop} [Decidable c] {f g : Nat → Option α} {r : α} (hc : ¬ c) (h : Ev g r) : Ev (fun k => if c then f k else g k) r := Ev.congr (fun k => if_neg hc) h
theorem Ev.bindc {α β : Type} {x : Option α} {a : α} {f : Nat → α → Option β} {r : β} (hx : x = some a) (h : Ev (fun n => f n a) r) : Ev (fun n => x.bind (f n)) r := Ev.congr (fun k => by rw [hx, Option.bind_some]) h
def res (s : Nat) (x : Int) : Int := if (s : Int) ≤ x then x - s else -1
theorem res_neg {s : Nat} {x : Int} (h0 : 0 ≤ x) : res s x < 0 ↔ ¬ (s : Int) ≤ x := by
  unfold res
  split <;> omega
theorem res_add {s t : Nat} {x : Int} (h : (s : Int) ≤ x) : res t (x - s) = res (s + t) x := by
  unfold res
  by_cases h1 : (t : Int) ≤ x - s
  · rw [if_pos h1, if_pos (by omega)]; omega
  · rw [if_neg h1, if_neg (by omega)]
theorem res_less {s t : Nat} {x : Int} (h : ¬ (s : Int) ≤ x) : res (s + t) x = -1 := by
  unfold res
  rw [if_neg (by omega)]
theorem loopRes {α : Type} (L0 : Nat → List α → Int → Int → Option Int) (rdf : List α → Int → α) (s : α → Nat) (g : Nat → α → Int → Option Int)
    (hstep : ∀ k l x j, L0 (k + 1) l x j = if j < (l.length : Int) then (if 0 ≤ j then ((g k (rdf l j) x).bind fun t => if t < 0 then some (-1) else L0 k l t (wrap64 (j + 1))) else none) else some x)
    (hrd : ∀ (l : List α) (j : Int) (h : j.toNat < l.length), rdf l j = l[j.toNat])
    (l : List α) (hlen : l.length ≤ 9223372036854775807) (B : Int) (hg : ∀ e ∈ l, ∀ x, 0 ≤ x → x ≤ B → Ev (fun k => g k e x) (res (s e) x)) :
    ∀ (d : Nat) (j x : Int), 0 ≤ j → l.length - j.toNat = d → j ≤ (l.length : Int) → 0 ≤ x → x ≤ B → Ev (fun k => L0 k l x j) (res ((l.drop j.toNat).map s).sum x) := by
  intro d
  induction d with
  | zero =>
    intro j x h0 hd hj hx hB
    refine Ev.step (fun k => by simp only [hstep]; rfl) (Ev.ifn (show ¬ j < (l.length : Int) by omega) ?_)
    rw [List.drop_eq_nil_of_le (by omega)]
    simp [res, hx]
    exact Ev.now _
  | succ d ih =>
    intro j x h0 hd hj hx hB
    have hlt : j.toNat < l.length := by omega
    have hw : wrap64 (j + 1) = j + 1 := by unfold wrap64; omega
    refine Ev.step (fun k => by simp only [hstep]; rfl) (Ev.ifp (show j < (l.length : Int) by omega) (Ev.ifp h0 ?_))
    rw [hrd l j hlt, List.drop_eq_getElem_cons hlt, List.map_cons, List.sum_cons]
    refine Ev.bind (hg _ (List.getElem_mem hlt) x hx hB) ?_
    by_cases hs : ((s l[j.toNat] : Nat) : Int) ≤ x
    · refine Ev.ifn (by rw [res_neg hx]; omega) ?_
      rw [hw, show res (s l[j.toNat]) x = x - (s l[j.toNat] : Nat) by unfold res; rw [if_pos hs]]
      have := ih (j + 1) (x - (s l[j.toNat] : Nat)) (by omega) (by omega) (by omega) (by omega) (by omega)
      rw [show (j + 1).toNat = j.toNat + 1 by omega, res_add hs] at this
      exact this
    · refine Ev.ifp (by rw [res_neg hx]; exact hs) ?_
      rw [res_less hs]
      exact Ev.now _
theorem loopTo {α β γ : Type} (L0 : Nat → List α → List β → Int → Option (List β)) (rdf : List α → Int → α) (c : α → β) (g : Nat → α → Option γ) (gv : α → γ) (mk : γ → β)
    (hstep : ∀ k l m j, L0 (k + 1) l m j = if j < (l.length : Int) then (if 0 ≤ j then ((g k (rdf l j)).bind fun t => if j < (m.length : Int) then L0 k l (m.set j.toNat (mk t)) (wrap64 (j + 1)) else none) else none) else some m)
    (hrd : ∀ (l : List α) (j : Int) (h : j.toNat < l.length), rdf l j = l[j.toNat])
    (l : List α) (hlen : l.length ≤ 9223372036854775807) (hg : ∀ e ∈ l, Ev (fun k => g k e) (gv e)) (hc : ∀ e ∈ l, mk (gv e) = c e) :
    ∀ (d : Nat) (j : Int) (m : List β), 0 ≤ j → l.length - j.toNat = d → j ≤ (l.length : Int) → m.length = l.length → m.take j.toNat = (l.take j.toNat).map c → Ev (fun k => L0 k l m j) (l.map c) := by
  intro d
  induction d with
  | zero =>
    intro j m h0 hd hj hm ht
    refine Ev.step (fun k => by simp only [hstep]; rfl) (Ev.ifn (show ¬ j < (l.length : Int) by omega) ?_)
    rw [List.take_of_length_le (by omega), List.take_of_length_le (by omega)] at ht
    rw [ht]
    exact Ev.now _
  | succ d ih =>
    intro j m h0 hd hj hm ht
    have hlt : j.toNat < l.length := by omega
    have hw : wrap64 (j + 1) = j + 1 := by unfold wrap64; omega
    refine Ev.step (fun k => by simp only [hstep]; rfl) (Ev.ifp (show j < (l.length : Int) by omega) (Ev.ifp h0 ?_))
    rw [hrd l j hlt]
    refine Ev.bind (hg _ (List.getElem_mem hlt)) (Ev.ifp (show j < (m.length : Int) by omega) ?_)
    rw [hw, hc _ (List.getElem_mem hlt)]
    refine ih (j + 1) _ (by omega) (by omega) (by omega) (by simpa using hm) ?_
    rw [show (j + 1).toNat = j.toNat + 1 by omega, List.take_succ_eq_append_getElem (by simpa [hm] using hlt), List.take_succ_eq_append_getElem hlt, List.map_append, ← ht, List.take_set_of_le (Nat.le_refl _)]
    simp
theorem loopEq {α : Type} (L0 : Nat → List α → List α → Int → Option Bool) (rdf : List α → Int → α) (g : Nat → α → α → Option Bool)
    (hstep : ∀ k l m j, L0 (k + 1) l m j = if j < (l.length : Int) then (if 0 ≤ j then (if j < (m.length : Int) then ((g k (rdf l j) (rdf m j)).bind fun t => if t = true then L0 k l m (wrap64 (j + 1)) else some false) else none) else none) else some true)
    (hrd : ∀ (l : List α) (j : Int) (h : j.toNat < l.length), rdf l j = l[j.toNat])
    (l : List α) (hlen : l.length ≤ 9223372036854775807) (hg : ∀ e ∈ l, Ev (fun k => g k e e) true) :
    ∀ (d : Nat) (j : Int), 0 ≤ j → l.length - j.toNat = d → j ≤ (l.length : Int) → Ev (fun k => L0 k l l j) true := by
  intro d
  induction d with
  | zero =>
    intro j h0 hd hj
    exact Ev.step (fun k => by simp only [hstep]; rfl) (Ev.ifn (show ¬ j < (l.length : Int) by omega) (Ev.now _))
  | succ d ih =>
    intro j h0 hd hj
    have hlt : j.toNat < l.length := by omega
    have hw : wrap64 (j + 1) = j + 1 := by unfold wrap64; omega
    refine Ev.step (fun k => by simp only [hstep]; rfl) (Ev.ifp (show j < (l.length : Int) by omega) (Ev.ifp h0 (Ev.ifp (show j < (l.length : Int) by omega) ?_)))
    rw [hrd l j hlt]
    refine Ev.bind (hg _ (List.getElem_mem hlt)) (Ev.ifp rfl ?_)
    rw [hw]
    exact ih (j + 1) (by omega) (by omega) (by omega)
end Go.Proofs.Ytlocaaebgghkbaa.A
namespace Go.Proofs.Ytlocaaebgghkbaa.A
open Go.RowKit Go.Proofs.YtlocaaebgghkbaaW.PrintWords Go.Proofs.YtlocaaebgghkbaaW.PrintLast Go.Proofs.YtlocaaebgghkbaaW.PrintMore
set_option linter.unusedVariables false
abbrev LAt := S136
abbrev IAt := S53
theorem rdLAt (l : List LAt) (j : Int) (h : j.toNat < l.length) : rd_T136 l j = l[j.toNat] := by
  unfold rd_T136; rw [List.getD_eq_getElem?_getD, List.getElem?_eq_getElem h]; rfl
theorem rdIAt (l : List IAt) (j : Int) (h : j.toNat < l.length) : rd_T53 l j = l[j.toNat] := by
  unfold rd_T53; rw [List.getD_eq_getElem?_getD, List.getElem?_eq_getElem h]; rfl
def cA (a : LAt) : IAt := ⟨a.f0, a.f1⟩
def sA (a : LAt) : Nat := a.f0.size + a.f1.size
def sAL (l : List LAt) : Nat := l.length + (l.map sA).sum
def fitA (l : List LAt) : Prop := l.length ≤ 9223372036854775807 ∧ ∀ a ∈ l, a.f0.size ≤ 9223372036854775807 ∧ a.f1.size ≤ 9223372036854775807
theorem szAttr_f (a : LAt) (h0 : a.f0.size ≤ 9223372036854775807) (h1 : a.f1.size ≤ 9223372036854775807) (x : Int) (hx : 0 ≤ x) (hB : x ≤ 1048576) : laws_szAttr.f a.f0 a.f1 x = some (res (sA a) x) := by
  unfold laws_szAttr.f
  have w1 : wrap64 (x - (a.f0.size : Int)) = x - a.f0.size := by unfold wrap64; omega
  rw [w1]
  by_cases c : x - (a.f0.size : Int) < 0
  · rw [if_pos c]; unfold res sA; rw [if_neg (by omega)]
  · rw [if_neg c]
    have w2 : wrap64 (x - (a.f0.size : Int) - (a.f1.size : Int)) = x - a.f0.size - a.f1.size := by unfold wrap64; omega
    rw [w2]
    by_cases c2 : x - (a.f0.size : Int) - (a.f1.size : Int) < 0
    · rw [if_pos c2]; unfold res sA; rw [if_neg (by omega)]
    · rw [if_neg c2]; unfold res sA; rw [if_pos (by omega)]; congr 1; omega
theorem ev_szAttrS (l : List LAt) (hf : fitA l) (x : Int) (hx : 0 ≤ x) (hB : x ≤ 1048576) : Ev (fun k => laws_szAttrS.f k l x) (res (sAL l) x) := by
  have hl := hf.1
  unfold laws_szAttrS.f
  have w1 : wrap64 (x - (l.length : Int)) = x - l.length := by unfold wrap64; omega
  rw [w1]
  by_cases c : x - (l.length : Int) < 0
  · refine Ev.ifp c ?_
    unfold sAL
    rw [res_less (by omega)]
    exact Ev.now _
  · refine Ev.ifn c ?_
    have := loopRes (fun k l x j => laws_szAttrS.l0 k l x j) rd_T136 sA (fun _ a x => laws_szAttr.f a.f0 a.f1 x) (fun k l x j => by simp only [laws_szAttrS.l0]) rdLAt l hf.1 1048576
      (fun e he x hx hB => Ev.congr (fun _ => szAttr_f e (hf.2 e he).1 (hf.2 e he).2 x hx hB) (Ev.now _)) l.length 0 (x - l.length) (by omega) (by simp) (by omega) (by omega) (by omega)
    rw [Int.toNat_zero, List.drop_zero, res_add (by omega)] at this
    exact this
theorem ev_toAttrS (l : List LAt) (hl : l.length ≤ 1048576) : Ev (fun k => laws_toAttrS.f k l) (l.map cA) := by
  unfold laws_toAttrS.f
  refine Ev.ifp (by omega) (Ev.ifp (by omega) ?_)
  exact loopTo (fun k l m j => laws_toAttrS.l0 k l m j) rd_T136 cA (fun _ a => laws_toAttr.f a.f0 a.f1) (fun a => (a.f0, a.f1)) (fun t => ⟨t.1, t.2⟩) (fun k l m j => by simp only [laws_toAttrS.l0]) rdLAt l (by omega)
    (fun e _ => Ev.congr (fun _ => rfl) (Ev.now _)) (fun e _ => rfl) l.length 0 _ (by omega) (by simp) (by omega) (by simp) (by simp)
theorem ev_eqAttrS' (l : List IAt) (hl : l.length ≤ 9223372036854775807) : Ev (fun k => laws_eqAttrS.f k l l) true := by
  unfold laws_eqAttrS.f
  refine Ev.ifp rfl ?_
  exact loopEq (fun k l m j => laws_eqAttrS.l0 k l m j) rd_T53 (fun _ a b => laws_eqAttr.f a.f0 a.f1 b.f0 b.f1) (fun k l m j => by simp only [laws_eqAttrS.l0]) rdIAt l hl
    (fun e _ => Ev.congr (fun _ => by unfold laws_eqAttr.f; rw [if_pos rfl, if_pos rfl]) (Ev.now _)) l.length 0 (by omega) (by simp) (by omega)
end Go.Proofs.Ytlocaaebgghkbaa.A
namespace Go.Proofs.Ytlocaaebgghkbaa.A
open Go.RowKit Go.Proofs.YtlocaaebgghkbaaW.PrintWords Go.Proofs.YtlocaaebgghkbaaW.PrintLast Go.Proofs.YtlocaaebgghkbaaW.PrintMore
set_option linter.unusedVariables false
abbrev LIt := S86
abbrev IIt := S89
theorem rdLIt (l : List LIt) (j : Int) (h : j.toNat < l.length) : rd_T86 l j = l[j.toNat] := by
  unfold rd_T86; rw [List.getD_eq_getElem?_getD, List.getElem?_eq_getElem h]; rfl
theorem rdIIt (l : List IIt) (j : Int) (h : j.toNat < l.length) : rd_T89 l j = l[j.toNat] := by
  unfold rd_T89; rw [List.getD_eq_getElem?_getD, List.getElem?_eq_getElem h]; rfl
theorem rdInt (l : List Int) (j : Int) (h : j.toNat < l.length) : rd l j = l[j.toNat] := by
  unfold rd; rw [List.getD_eq_getElem?_getD, List.getElem?_eq_getElem h]; rfl
def cI (x : LIt) : IIt := ⟨x.f0, x.f1, x.f2, x.f3.map cA, x.f4, x.f5, x.f6⟩
def sI (x : LIt) : Nat := x.f2.size + (sAL x.f3 + (x.f4.size + x.f6.length))
def sIL (l : List LIt) : Nat := l.length + (l.map sI).sum
def fitI (x : LIt) : Prop := x.f2.size ≤ 9223372036854775807 ∧ fitA x.f3 ∧ x.f4.size ≤ 9223372036854775807 ∧ x.f6.length ≤ 9223372036854775807
theorem wrapLess {x : Int} {n : Nat} (hx : 0 ≤ x) (hB : x ≤ 1048576) (hn : n ≤ 9223372036854775807) : wrap64 (x - (n : Int)) = x - n := by unfold wrap64; omega
theorem ev_szItem (e : LIt) (hf : fitI e) (x : Int) (hx : 0 ≤ x) (hB : x ≤ 1048576) : Ev (fun k => laws_szItem.f k e.f0 e.f1 e.f2 e.f3 e.f4 e.f5 e.f6 x) (res (sI e) x) := by
  obtain ⟨h1, h2, h3, h4⟩ := hf
  unfold laws_szItem.f
  rw [wrapLess hx hB h1, sI]
  by_cases c : x - (e.f2.size : Int) < 0
  · refine Ev.ifp c ?_
    rw [res_less (by omega)]
    exact Ev.now _
  refine Ev.ifn c ?_
  rw [← res_add (by omega : (e.f2.size : Int) ≤ x)]
  generalize hy : x - (e.f2.size : Int) = y at c ⊢
  have hy0 : 0 ≤ y := by omega
  have hyB : y ≤ 1048576 := by omega
  refine Ev.bind (ev_szAttrS e.f3 h2 y hy0 hyB) ?_
  by_cases c2 : ((sAL e.f3 : Nat) : Int) ≤ y
  · refine Ev.ifn (by rw [res_neg hy0]; omega) ?_
    rw [← res_add c2, show res (sAL e.f3) y = y - (sAL e.f3 : Nat) by unfold res; rw [if_pos c2]]
    generalize hz : y - ((sAL e.f3 : Nat) : Int) = z
    have hz0 : 0 ≤ z := by omega
    have hzB : z ≤ 1048576 := by omega
    rw [wrapLess hz0 hzB h3]
    by_cases c3 : z - (e.f4.size : Int) < 0
    · refine Ev.ifp c3 ?_
      rw [res_less (by omega)]
      exact Ev.now _
    refine Ev.ifn c3 ?_
    rw [← res_add (by omega : (e.f4.size : Int) ≤ z)]
    generalize hu : z - (e.f4.size : Int) = u at c3 ⊢
    have hu0 : 0 ≤ u := by omega
    have hI : laws_szIntS.f e.f6 u = some (res e.f6.length u) := by
      unfold laws_szIntS.f
      rw [wrapLess hu0 (by omega) h4]
      unfold res
      by_cases c4 : u - (e.f6.length : Int) < 0
      · rw [if_pos c4, if_neg (by omega)]
      · rw [if_neg c4, if_pos (by omega)]
    refine Ev.bindc hI ?_
    by_cases c4 : res e.f6.length u < 0
    · refine Ev.ifp c4 ?_
      rw [show res e.f6.length u = -1 by have := (res_neg hu0).1 c4; unfold res; rw [if_neg this]]
      exact Ev.now _
    · exact Ev.ifn c4 (Ev.now _)
  · refine Ev.ifp (by rw [res_neg hy0]; exact c2) ?_
    rw [res_less c2]
    exact Ev.now _
theorem ev_szItemS (l : List LIt) (hl : l.length ≤ 9223372036854775807) (hf : ∀ e ∈ l, fitI e) (x : Int) (hx : 0 ≤ x) (hB : x ≤ 1048576) : Ev (fun k => laws_szItemS.f k l x) (res (sIL l) x) := by
  unfold laws_szItemS.f
  rw [wrapLess hx hB hl]
  by_cases c : x - (l.length : Int) < 0
  · refine Ev.ifp c ?_
    unfold sIL
    rw [res_less (by omega)]
    exact Ev.now _
  · refine Ev.ifn c ?_
    have := loopRes (fun k l x j => laws_szItemS.l0 k l x j) rd_T86 sI (fun k e x => laws_szItem.f k e.f0 e.f1 e.f2 e.f3 e.f4 e.f5 e.f6 x) (fun k l x j => by simp only [laws_szItemS.l0]) rdLIt l hl 1048576
      (fun e he x hx hB => ev_szItem e (hf e he) x hx hB) l.length 0 (x - l.length) (by omega) (by simp) (by omega) (by omega) (by omega)
    rw [Int.toNat_zero, List.drop_zero, res_add (by omega)] at this
    exact this
theorem ev_toIntS (l : List Int) (hl : l.length ≤ 1048576) : Ev (fun k => laws_toIntS.f k l) l := by
  unfold laws_toIntS.f
  refine Ev.ifp (by omega) (Ev.ifp (by omega) ?_)
  have := loopTo (fun k l m j => laws_toIntS.l0 k l m j) rd id (fun _ e => some e) id id (fun k l m j => by simp only [laws_toIntS.l0, Option.bind_some, id]) rdInt l (by omega)
    (fun e _ => Ev.now _) (fun e _ => rfl) l.length 0 (List.replicate ((l.length : Int) : Int).toNat 0) (by omega) (by simp) (by omega) (by simp) (by simp)
  rw [List.map_id] at this
  exact this
theorem sum_mem {α : Type} {f : α → Nat} {l : List α} {e : α} (h : e ∈ l) : f e ≤ (l.map f).sum := by
  induction l with
  | nil => simp at h
  | cons y ys ih =>
    rw [List.map_cons, List.sum_cons]
    rcases List.mem_cons.1 h with rfl | h
    · omega
    · have := ih h; omega
theorem ev_toItemS (l : List LIt) (hs : sIL l ≤ 1048576) : Ev (fun k => laws_toItemS.f k l) (l.map cI) := by
  unfold sIL at hs
  unfold laws_toItemS.f
  refine Ev.ifp (by omega) (Ev.ifp (by omega) ?_)
  exact loopTo (fun k l m j => laws_toItemS.l0 k l m j) rd_T86 cI (fun k e => laws_toItem.f k e.f0 e.f1 e.f2 e.f3 e.f4 e.f5 e.f6) (fun e => ((cI e).f0, (cI e).f1, (cI e).f2, (cI e).f3, (cI e).f4, (cI e).f5, (cI e).f6)) (fun t => ⟨t.1, t.2.1, t.2.2.1, t.2.2.2.1, t.2.2.2.2.1, t.2.2.2.2.2.1, t.2.2.2.2.2.2⟩) (fun k l m j => by simp only [laws_toItemS.l0]) rdLIt l (by omega)
    (fun e he => by
      have h1 := sum_mem (f := sI) he
      rw [show sI e = e.f2.size + (sAL e.f3 + (e.f4.size + e.f6.length)) from rfl] at h1
      unfold laws_toItem.f
      exact Ev.bind (ev_toAttrS e.f3 (by unfold sAL at h1; omega)) (Ev.bind (ev_toIntS e.f6 (by omega)) (Ev.now _)))
    (fun e _ => rfl) l.length 0 _ (by omega) (by simp) (by omega) (by simp) (by simp)
theorem ev_eqIntS (l : List Int) (hl : l.length ≤ 1048576) : Ev (fun k => laws_eqIntS.f k l l) true := by
  unfold laws_eqIntS.f
  refine Ev.ifp rfl ?_
  exact loopEq (fun k l m j => laws_eqIntS.l0 k l m j) rd (fun _ a b => some (decide (a = b))) (fun k l m j => by simp only [laws_eqIntS.l0, Option.bind_some, decide_eq_true_eq]) rdInt l (by omega)
    (fun e _ => by simp only [decide_true]; exact Ev.now _) l.length 0 (by omega) (by simp) (by omega)
theorem ev_eqItemS (l : List LIt) (hs : sIL l ≤ 1048576) : Ev (fun k => laws_eqItemS.f k (l.map cI) (l.map cI)) true := by
  unfold sIL at hs
  unfold laws_eqItemS.f
  refine Ev.ifp rfl ?_
  exact loopEq (fun k l m j => laws_eqItemS.l0 k l m j) rd_T89 (fun k a b => laws_eqItem.f k a.f0 a.f1 a.f2 a.f3 a.f4 a.f5 a.f6 b.f0 b.f1 b.f2 b.f3 b.f4 b.f5 b.f6) (fun k l m j => by simp only [laws_eqItemS.l0]) rdIIt (l.map cI) (by rw [List.length_map]; omega)
    (fun e he => by
      obtain ⟨y, hy, rfl⟩ := List.mem_map.1 he
      have h1 := sum_mem (f := sI) hy
      rw [show sI y = y.f2.size + (sAL y.f3 + (y.f4.size + y.f6.length)) from rfl] at h1
      unfold laws_eqItem.f
      exact Ev.ifp rfl (Ev.ifp rfl (Ev.ifp rfl (Ev.bind (ev_eqAttrS' _ (by simp only [cI, List.length_map]; unfold sAL at h1; omega)) (Ev.ifp rfl (Ev.ifp rfl (Ev.ifp rfl (Ev.bind (ev_eqIntS _ (by simp only [cI]; omega)) (Ev.ifp rfl (Ev.now _))))))))))
    (l.map cI).length 0 (by omega) (by simp) (by omega)
end Go.Proofs.Ytlocaaebgghkbaa.A
namespace Go.Proofs.Ytlocaaebgghkbaa.A
open Go.RowKit Go.Proofs.YtlocaaebgghkbaaW.PrintWords Go.Proofs.YtlocaaebgghkbaaW.PrintLast Go.Proofs.YtlocaaebgghkbaaW.PrintMore
set_option linter.unusedVariables false
def Dec (f : Nat → Option Bool) (P : Prop) : Prop := ∃ b, Ev f b ∧ (b = true ↔ P)
theorem Dec.bool (b : Bool) : Dec (fun _ => some b) (b = true) := ⟨b, Ev.now _, Iff.rfl⟩
theorem Dec.yes {f : Nat → Option Bool} {P : Prop} (h : Ev f true) (hp : P) : Dec f P := ⟨true, h, by simp [hp]⟩
theorem Dec.no {f : Nat → Option Bool} {P : Prop} (h : Ev f false) (hp : ¬ P) : Dec f P := ⟨false, h, by simp [hp]⟩
theorem Dec.iff {f : Nat → Option Bool} {P Q : Prop} (h : Dec f P) (hpq : P ↔ Q) : Dec f Q := by
  obtain ⟨b, e, hb⟩ := h
  exact ⟨b, e, hb.trans hpq⟩
theorem Dec.step {f g : Nat → Option Bool} {P : Prop} (h : ∀ k, g (k + 1) = f k) (hf : Dec f P) : Dec g P := by
  obtain ⟨b, e, hb⟩ := hf
  exact ⟨b, Ev.step h e, hb⟩
theorem Dec.ifp {c : Prop} [Decidable c] {f g : Nat → Option Bool} {P : Prop} (hc : c) (h : Dec f P) : Dec (fun k => if c then f k else g k) P := by
  obtain ⟨b, e, hb⟩ := h
  exact ⟨b, Ev.ifp hc e, hb⟩
theorem Dec.ifn {c : Prop} [Decidable c] {f g : Nat → Option Bool} {P : Prop} (hc : ¬ c) (h : Dec g P) : Dec (fun k => if c then f k else g k) P := by
  obtain ⟨b, e, hb⟩ := h
  exact ⟨b, Ev.ifn hc e, hb⟩
theorem Dec.and {g h : Nat → Option Bool} {P Q : Prop} (hg : Dec g P) (hh : P → Dec h Q) : Dec (fun k => (g k).bind fun t => if t = true then h k else some false) (P ∧ Q) := by
  obtain ⟨b, e, hb⟩ := hg
  cases b with
  | true =>
    obtain ⟨c, e2, hc⟩ := hh (hb.1 rfl)
    exact ⟨c, Ev.bind e (Ev.ifp rfl e2), by rw [hc]; exact ⟨fun q => ⟨hb.1 rfl, q⟩, fun x => x.2⟩⟩
  | false => exact ⟨false, Ev.bind e (Ev.ifn (by simp) (Ev.now _)), ⟨fun x => (by cases x), fun x => hb.2 x.1⟩⟩
theorem Dec.ite {c : Prop} [Decidable c] {f : Nat → Option Bool} {P : Prop} (hf : c → Dec f P) : Dec (fun k => if c then f k else some false) (c ∧ P) := by
  by_cases h : c
  · exact Dec.ifp h ((hf h).iff ⟨fun p => ⟨h, p⟩, fun x => x.2⟩)
  · exact Dec.ifn h (Dec.no (Ev.now _) (fun x => h x.1))
theorem Dec.bindc {x : Option Bool} {b : Bool} {f : Nat → Bool → Option Bool} {P : Prop} (hx : x = some b) (h : Dec (fun n => f n b) P) : Dec (fun n => x.bind (f n)) P := by
  obtain ⟨c, e, hc⟩ := h
  exact ⟨c, Ev.bindc hx e, hc⟩
theorem Dec.bind {α : Type} {g : Nat → Option α} {a : α} {f : Nat → α → Option Bool} {P : Prop} (hx : Ev g a) (h : Dec (fun n => f n a) P) : Dec (fun n => (g n).bind (f n)) P := by
  obtain ⟨c, e, hc⟩ := h
  exact ⟨c, Ev.bind hx e, hc⟩
theorem hasR_any (l : List (S53)) (nm : ByteArray) (hl : l.length ≤ 140737488351232) (d : Nat) : ∀ (j : Int), 0 ≤ j → l.length - j.toNat = d → j ≤ l.length → Ev (fun k => spec_l4Has.l0 k l nm j) ((l.drop j.toNat).any fun x => x.f0.toList == nm.toList) := by
  induction d with
  | zero =>
    intro j h0 hd hj
    rw [List.drop_of_length_le (by omega)]
    exact Ev.step (fun k => by simp only [spec_l4Has.l0]; rfl) (Ev.ifn (show ¬ j < (l.length : Int) by omega) (Ev.now _))
  | succ d ih =>
    intro j h0 hd hj
    have hjl : j.toNat < l.length := by omega
    have hw1 : wrap64 (j + 1) = j + 1 := by unfold wrap64; omega
    have hrd : rd_T53 l j = l[j.toNat] := by unfold rd_T53; rw [List.getD_eq_getElem?_getD, List.getElem?_eq_getElem hjl]; rfl
    rw [List.drop_eq_getElem_cons hjl, List.any_cons]
    refine Ev.step (fun k => by simp only [spec_l4Has.l0]; rfl) (Ev.ifp (show j < (l.length : Int) by omega) (Ev.ifp h0 ?_))
    rw [hrd, hw1]
    have ih2 := ih (j + 1) (by omega) (by omega) (by omega)
    rw [show (j + 1).toNat = j.toNat + 1 by omega] at ih2
    by_cases c : (l[j.toNat]).f0.toList = nm.toList
    · rw [show ((l[j.toNat]).f0.toList == nm.toList) = true from beq_iff_eq.mpr c, Bool.true_or]
      exact Ev.ifp c (Ev.now _)
    · rw [show ((l[j.toNat]).f0.toList == nm.toList) = false from beq_eq_false_iff_ne.mpr c, Bool.false_or]
      exact Ev.ifn c ih2
theorem ev_hasR (l : List (S53)) (nm : ByteArray) (hl : l.length ≤ 140737488351232) : Ev (fun k => spec_l4Has.f k l nm) (l.any fun x => x.f0.toList == nm.toList) := by
  have := hasR_any l nm hl l.length 0 (by omega) (by simp) (by omega)
  unfold spec_l4Has.f
  simpa using this
theorem implHasR (l : List IAt) (nm : ByteArray) (hl : l.length ≤ 140737488351232) : impl_hasAttr.f l nm = some (l.any fun x => x.f0.toList == nm.toList) := by unfold impl_hasAttr.f; rw [if_pos (by omega)]
def onceFrom (l : List IAt) (j : Nat) : Prop := ∀ i, j ≤ i → (h : i < l.length) → ((l.take i).any fun x => x.f0.toList == l[i].f0.toList) = false
theorem onceFrom_end {l : List IAt} {j : Nat} (h : l.length ≤ j) : onceFrom l j := fun i hi hl => by omega
theorem onceFrom_iff {l : List IAt} {j : Nat} (h : j < l.length) : onceFrom l j ↔ ((l.take j).any fun x => x.f0.toList == l[j].f0.toList) = false ∧ onceFrom l (j + 1) := by
  constructor
  · intro hh
    exact ⟨hh j (Nat.le_refl _) h, fun i hi => hh i (by omega)⟩
  · intro hh i hi hl
    by_cases e : i = j
    · subst e; exact hh.1
    · exact hh.2 i (by omega) hl
theorem dec_namesOnce (l : List IAt) (hl : l.length ≤ 1048576) : Dec (fun k => impl_namesOnce.f k l) (onceFrom l 0) := by
  unfold impl_namesOnce.f
  have key : ∀ (d : Nat) (j : Int), 0 ≤ j → l.length - j.toNat = d → j ≤ (l.length : Int) → Dec (fun k => impl_namesOnce.l0 k l l (l.length : Int) j) (onceFrom l j.toNat) := by
    intro d
    induction d with
    | zero =>
      intro j h0 hd hj
      exact Dec.step (fun k => by simp only [impl_namesOnce.l0]; rfl) (Dec.ifn (show ¬ j < (l.length : Int) by omega) (Dec.yes (Ev.now _) (onceFrom_end (by omega))))
    | succ d ih =>
      intro j h0 hd hj
      have hlt : j.toNat < l.length := by omega
      have hw : wrap64 (j + 1) = j + 1 := by unfold wrap64; omega
      refine Dec.step (fun k => by simp only [impl_namesOnce.l0]; rfl) (Dec.ifp (show j < (l.length : Int) by omega) (Dec.ifp h0 (Dec.ifp (show j < (l.length : Int) by omega) (Dec.ifp (show j ≤ (l.length : Int) by omega) ?_))))
      refine Dec.bindc (implHasR (l.take j.toNat) _ (by rw [List.length_take]; omega)) ?_
      rw [rdIAt l j hlt, hw]
      cases hb : (l.take j.toNat).any fun x => x.f0.toList == l[j.toNat].f0.toList with
      | true => exact Dec.ifp rfl (Dec.no (Ev.now _) (fun x => by have := ((onceFrom_iff hlt).1 x).1; rw [hb] at this; cases this))
      | false =>
        refine Dec.ifn (by simp) ((ih (j + 1) (by omega) (by omega) (by omega)).iff ?_)
        rw [show (j + 1).toNat = j.toNat + 1 by omega, onceFrom_iff hlt]
        exact ⟨fun x => ⟨hb, x⟩, fun x => x.2⟩
  exact key l.length 0 (by omega) (by simp) (by omega)
def emp (s : ByteArray) : Prop := s.toList = ([] : List UInt8)
instance (s : ByteArray) : Decidable (emp s) := by unfold emp; infer_instance
def plS (x : IIt) : Prop := (if x.f0 = 2 then ¬ emp x.f2 ∧ emp x.f4 ∧ 0 ≤ x.f1 ∧ x.f1 ≤ 2 else emp x.f2 ∧ x.f3.length = 0 ∧ x.f1 = 0) ∧ onceFrom x.f3 0 ∧
  (if x.f0 = 1 then emp x.f4 else if x.f0 = 3 then x.f6.length = 0 else if x.f0 = 4 then x.f6.length = 0 else if x.f0 = 5 then x.f6.length = 0 else x.f0 = 2)
theorem specIn (n a b : Int) : spec_l1In.f n a b = some (decide (a ≤ n ∧ n ≤ b)) := by
  unfold spec_l1In.f
  by_cases h : n ≥ a
  · rw [if_pos h]; congr 1; simp; omega
  · rw [if_neg h]; congr 1; simp; omega
theorem implIn (n a b : Int) : impl_inRange.f n a b = some (decide (a ≤ n ∧ n ≤ b)) := by
  unfold impl_inRange.f
  by_cases h : n ≥ a
  · rw [if_pos h]; congr 1; simp; omega
  · rw [if_neg h]; congr 1; simp; omega
theorem dec_plain_tail (x : IIt) (hl : x.f3.length ≤ 1048576) (b : Bool) (hb : b = (x.f0 == 2)) : Dec (fun k => spec_l6Plain.j0 k b false x.f0 x.f1 x.f2 x.f3 x.f4 x.f5 x.f6) (onceFrom x.f3 0 ∧
  (if x.f0 = 1 then emp x.f4 else if x.f0 = 3 then x.f6.length = 0 else if x.f0 = 4 then x.f6.length = 0 else if x.f0 = 5 then x.f6.length = 0 else x.f0 = 2)) := by
  subst hb
  refine Dec.step (fun k => by simp only [spec_l6Plain.j0]; rfl) (Dec.ifn (by simp) ?_)
  have key : ∀ (d : Nat) (j : Int), 0 ≤ j → x.f3.length - j.toNat = d → j ≤ (x.f3.length : Int) → Dec (fun k => spec_l6Plain.l0 k (x.f0 == 2) j x.f0 x.f1 x.f2 x.f3 x.f4 x.f5 x.f6) (onceFrom x.f3 j.toNat ∧
      (if x.f0 = 1 then emp x.f4 else if x.f0 = 3 then x.f6.length = 0 else if x.f0 = 4 then x.f6.length = 0 else if x.f0 = 5 then x.f6.length = 0 else x.f0 = 2)) := by
    intro d
    induction d with
    | zero =>
      intro j h0 hd hj
      refine Dec.step (fun k => by simp only [spec_l6Plain.l0]; rfl) (Dec.ifn (show ¬ j < (x.f3.length : Int) by omega) ?_)
      have ho : onceFrom x.f3 j.toNat := onceFrom_end (by omega)
      by_cases h1 : x.f0 = 1
      · refine Dec.ifp h1 ((Dec.bool _).iff ?_)
        rw [if_pos h1]; simp [ho, emp]
      refine Dec.ifn h1 ?_
      rw [if_neg h1]
      by_cases h3 : x.f0 = 3
      · refine Dec.ifp h3 ((Dec.bool _).iff ?_)
        rw [if_pos h3]; simp [ho]
      refine Dec.ifn h3 ?_
      rw [if_neg h3]
      by_cases h4 : x.f0 = 4
      · refine Dec.ifp h4 ((Dec.bool _).iff ?_)
        rw [if_pos h4]; simp [ho]
      refine Dec.ifn h4 ?_
      rw [if_neg h4]
      by_cases h5 : x.f0 = 5
      · refine Dec.ifp h5 ((Dec.bool _).iff ?_)
        rw [if_pos h5]; simp [ho]
      refine Dec.ifn h5 ((Dec.bool _).iff ?_)
      rw [if_neg h5]; simp [ho]
    | succ d ih =>
      intro j h0 hd hj
      have hlt : j.toNat < x.f3.length := by omega
      have hw : wrap64 (j + 1) = j + 1 := by unfold wrap64; omega
      refine Dec.step (fun k => by simp only [spec_l6Plain.l0]; rfl) (Dec.ifp (show j < (x.f3.length : Int) by omega) (Dec.ifp h0 (Dec.ifp (show j ≤ (x.f3.length : Int) by omega) ?_)))
      refine Dec.bind (ev_hasR (x.f3.take j.toNat) _ (by rw [List.length_take]; omega)) ?_
      rw [rdIAt x.f3 j hlt, hw]
      cases hb : (x.f3.take j.toNat).any fun y => y.f0.toList == x.f3[j.toNat].f0.toList with
      | true => exact Dec.ifp rfl (Dec.no (Ev.now _) (fun z => by have := ((onceFrom_iff hlt).1 z.1).1; rw [hb] at this; cases this))
      | false =>
        refine Dec.ifn (by simp) ((ih (j + 1) (by omega) (by omega) (by omega)).iff ?_)
        rw [show (j + 1).toNat = j.toNat + 1 by omega, onceFrom_iff hlt]
        exact ⟨fun z => ⟨⟨hb, z.1⟩, z.2⟩, fun z => ⟨z.1.2, z.2⟩⟩
  exact key x.f3.length 0 (by omega) (by simp) (by omega)
theorem plain_bad (x : IIt) (b : Bool) {Q : Prop} (hQ : ¬ Q) : Dec (fun k => spec_l6Plain.j0 k b true x.f0 x.f1 x.f2 x.f3 x.f4 x.f5 x.f6) Q :=
  Dec.step (f := fun _ => some false) (fun k => by simp only [spec_l6Plain.j0]; rfl) (Dec.no (Ev.now _) hQ)
theorem dec_plain (x : IIt) (hl : x.f3.length ≤ 1048576) : Dec (fun k => spec_l6Plain.f k x.f0 x.f1 x.f2 x.f3 x.f4 x.f5 x.f6) (plS x) := by
  unfold spec_l6Plain.f plS
  have tl := dec_plain_tail x hl (x.f0 == 2) rfl
  by_cases h2 : x.f0 = 2
  · refine Dec.ifp h2 ?_
    rw [if_pos h2]
    by_cases e2 : emp x.f2
    · exact Dec.ifp e2 (plain_bad x _ (fun z => z.1.1 e2))
    refine Dec.ifn e2 ?_
    by_cases e4 : emp x.f4
    · refine Dec.ifp e4 (Dec.bindc (specIn _ _ _) ?_)
      by_cases hr : 0 ≤ x.f1 ∧ x.f1 ≤ 2
      · rw [decide_eq_true hr]
        exact tl.iff ⟨fun z => ⟨⟨e2, e4, hr⟩, z⟩, fun z => z.2⟩
      · rw [decide_eq_false hr]
        exact plain_bad x _ (fun z => hr z.1.2.2)
    · exact Dec.ifn e4 (plain_bad x _ (fun z => e4 z.1.2.1))
  · refine Dec.ifn h2 ?_
    rw [if_neg h2]
    by_cases e2 : emp x.f2
    · refine Dec.ifp e2 ?_
      by_cases e3 : (x.f3.length : Int) > 0
      · exact Dec.ifp e3 (plain_bad x _ (fun z => by have := z.1.2.1; omega))
      refine Dec.ifn e3 ?_
      by_cases e1 : x.f1 = 0
      · exact Dec.ifp e1 (tl.iff ⟨fun z => ⟨⟨e2, by omega, e1⟩, z⟩, fun z => z.2⟩)
      · exact Dec.ifn e1 (plain_bad x _ (fun z => e1 z.1.2.2))
    · exact Dec.ifn e2 (plain_bad x _ (fun z => e2 z.1.1))
def itI (x : IIt) : Prop := plS x ∧ x.f0 ≠ 1
theorem onceNil {l : List IAt} (h : l.length = 0) : onceFrom l 0 := onceFrom_end (by omega)
theorem dec_item (x : IIt) (hl : x.f3.length ≤ 1048576) : Dec (fun k => impl_itemOk.f k x.f0 x.f1 x.f2 x.f3 x.f4 x.f5 x.f6) (itI x) := by
  unfold impl_itemOk.f itI plS
  by_cases h2 : x.f0 = 2
  · refine Dec.ifp h2 ?_
    rw [if_pos h2, if_neg (by omega : ¬ x.f0 = 1), if_neg (by omega : ¬ x.f0 = 3), if_neg (by omega : ¬ x.f0 = 4), if_neg (by omega : ¬ x.f0 = 5)]
    by_cases e4 : emp x.f4
    · refine Dec.ifp e4 ?_
      by_cases e2 : emp x.f2
      · exact Dec.ifp e2 (Dec.no (Ev.now _) (fun z => z.1.1.1 e2))
      refine Dec.ifn e2 (Dec.bindc (implIn _ _ _) ?_)
      by_cases hr : 0 ≤ x.f1 ∧ x.f1 ≤ 2
      · rw [decide_eq_true hr]
        refine Dec.ifp rfl ?_
        obtain ⟨b, e, hb⟩ := dec_namesOnce x.f3 hl
        exact Dec.bind e ((Dec.bool b).iff ⟨fun z => ⟨⟨⟨e2, e4, hr⟩, hb.1 z, h2⟩, by omega⟩, fun z => hb.2 z.1.2.1⟩)
      · rw [decide_eq_false hr]
        exact Dec.ifn (by simp) (Dec.no (Ev.now _) (fun z => hr z.1.1.2.2))
    · exact Dec.ifn e4 (Dec.no (Ev.now _) (fun z => e4 z.1.1.2.1))
  refine Dec.ifn h2 ?_
  rw [if_neg h2]
  have one : ∀ (P : Prop), (P ↔ x.f6.length = 0) → x.f0 ≠ 1 → Dec (fun _ => if x.f2.toList = ([] : List UInt8) then (if x.f1 = 0 then (if (x.f3.length : Int) = 0 then (some ((x.f6.length : Int) == 0)) else (some false)) else (some false)) else (some false)) (((emp x.f2 ∧ x.f3.length = 0 ∧ x.f1 = 0) ∧ onceFrom x.f3 0 ∧ P) ∧ x.f0 ≠ 1) := by
    intro P hP hne
    by_cases e2 : emp x.f2
    · refine Dec.ifp e2 ?_
      by_cases e1 : x.f1 = 0
      · refine Dec.ifp e1 ?_
        by_cases e3 : (x.f3.length : Int) = 0
        · refine Dec.ifp e3 ((Dec.bool _).iff ?_)
          have e3' : x.f3.length = 0 := by omega
          constructor
          · intro z
            have z' : (x.f6.length : Int) = 0 := by simpa using z
            exact ⟨⟨⟨e2, e3', e1⟩, onceNil e3', hP.2 (by omega)⟩, hne⟩
          · intro z
            have := hP.1 z.1.2.2
            simp [this]
        · exact Dec.ifn e3 (Dec.no (Ev.now _) (fun z => by have := z.1.1.2.1; omega))
      · exact Dec.ifn e1 (Dec.no (Ev.now _) (fun z => e1 z.1.1.2.2))
    · exact Dec.ifn e2 (Dec.no (Ev.now _) (fun z => e2 z.1.1.1))
  by_cases h3 : x.f0 = 3
  · refine Dec.ifp h3 (one _ ?_ (by omega))
    rw [if_neg (by omega : ¬ x.f0 = 1), if_pos h3]
  refine Dec.ifn h3 ?_
  by_cases h4 : x.f0 = 4
  · refine Dec.ifp h4 (one _ ?_ (by omega))
    rw [if_neg (by omega : ¬ x.f0 = 1), if_neg h3, if_pos h4]
  refine Dec.ifn h4 ?_
  by_cases h5 : x.f0 = 5
  · refine Dec.ifp h5 (one _ ?_ (by omega))
    rw [if_neg (by omega : ¬ x.f0 = 1), if_neg h3, if_neg h4, if_pos h5]
  refine Dec.ifn h5 (Dec.no (Ev.now _) (fun z => ?_))
  have := z.1.2.2
  rw [if_neg z.2, if_neg h3, if_neg h4, if_neg h5] at this
  exact h2 this
theorem dec_page (x : IIt) : Dec (fun _ => impl_pageOk.f x.f0 x.f1 x.f2 x.f3 x.f4 x.f5 x.f6) (plS x ∧ x.f0 = 1 ∧ x.f5 = -1) := by
  unfold impl_pageOk.f plS
  by_cases h1 : x.f0 = 1
  · refine Dec.ifp h1 ?_
    rw [if_neg (by omega : ¬ x.f0 = 2), if_pos h1]
    by_cases h5 : x.f5 = -1
    · refine Dec.ifp h5 ?_
      by_cases e2 : emp x.f2
      · refine Dec.ifp e2 ?_
        by_cases e3 : (x.f3.length : Int) = 0
        · refine Dec.ifp e3 ?_
          have e3' : x.f3.length = 0 := by omega
          by_cases e1 : x.f1 = 0
          · refine Dec.ifp e1 ((Dec.bool _).iff ?_)
            constructor
            · intro z
              exact ⟨⟨⟨e2, e3', e1⟩, onceNil e3', by simpa [emp] using z⟩, h1, h5⟩
            · intro z
              have := z.1.2.2
              simpa [emp] using this
          · exact Dec.ifn e1 (Dec.no (Ev.now _) (fun z => e1 z.1.1.2.2))
        · exact Dec.ifn e3 (Dec.no (Ev.now _) (fun z => by have := z.1.1.2.1; omega))
      · exact Dec.ifn e2 (Dec.no (Ev.now _) (fun z => e2 z.1.1.1))
    · exact Dec.ifn h5 (Dec.no (Ev.now _) (fun z => h5 z.2.2))
  · exact Dec.ifn h1 (Dec.no (Ev.now _) (fun z => h1 z.2.1))
theorem kids_kind {x : IIt} (h : plS x) (hk : x.f6.length ≠ 0) : x.f0 = 1 ∨ x.f0 = 2 := by
  have := h.2.2
  by_cases h1 : x.f0 = 1
  · exact .inl h1
  rw [if_neg h1] at this
  by_cases h3 : x.f0 = 3
  · rw [if_pos h3] at this; exact absurd this hk
  rw [if_neg h3] at this
  by_cases h4 : x.f0 = 4
  · rw [if_pos h4] at this; exact absurd this hk
  rw [if_neg h4] at this
  by_cases h5 : x.f0 = 5
  · rw [if_pos h5] at this; exact absurd this hk
  rw [if_neg h5] at this
  exact .inr this
end Go.Proofs.Ytlocaaebgghkbaa.A
namespace Go.Proofs.Ytlocaaebgghkbaa.A
open Go.RowKit Go.Proofs.YtlocaaebgghkbaaW.PrintWords Go.Proofs.YtlocaaebgghkbaaW.PrintLast Go.Proofs.YtlocaaebgghkbaaW.PrintMore
set_option linter.unusedVariables false
def it (L : List IIt) (i : Int) : IIt := rd_T89 L i
def KidOk (L : List IIt) (i k : Int) : Prop := 1 ≤ k ∧ k < (L.length : Int) ∧ (it L k).f5 = i
def KIDS (L : List IIt) (i : Int) : Prop := ∀ k ∈ (it L i).f6, KidOk L i k
def UPK (L : List IIt) (i : Int) : Prop := 0 ≤ (it L i).f5 ∧ (it L i).f5 < (L.length : Int) ∧ (it L (it L i).f5).f6.count i = 1
def UPS (L : List IIt) (i : Int) : Prop := (i = 0 → (it L i).f5 = -1) ∧ (0 < i → UPK L i)
theorem bit_f (b : Bool) : spec_l1Bit.f b = some (if b = true then 1 else 0) := by
  unfold spec_l1Bit.f
  split <;> rfl
theorem ev_count (l : List Int) (a : Int) (hl : l.length ≤ 1048576) : Ev (fun k => spec_l6Count.f k l a) (l.count a : Int) := by
  unfold spec_l6Count.f
  have key : ∀ (d : Nat) (j c : Int), 0 ≤ j → l.length - j.toNat = d → j ≤ (l.length : Int) → 0 ≤ c → c ≤ j → Ev (fun k => spec_l6Count.l0 k l a c j) (c + ((l.drop j.toNat).count a : Int)) := by
    intro d
    induction d with
    | zero =>
      intro j c h0 hd hj hc hcj
      refine Ev.step (fun k => by simp only [spec_l6Count.l0]; rfl) (Ev.ifn (show ¬ j < (l.length : Int) by omega) ?_)
      rw [List.drop_eq_nil_of_le (by omega)]
      simp
      exact Ev.now _
    | succ d ih =>
      intro j c h0 hd hj hc hcj
      have hlt : j.toNat < l.length := by omega
      have hw : wrap64 (j + 1) = j + 1 := by unfold wrap64; omega
      refine Ev.step (fun k => by simp only [spec_l6Count.l0]; rfl) (Ev.ifp (show j < (l.length : Int) by omega) (Ev.ifp h0 (Ev.bindc (bit_f _) ?_)))
      rw [rdInt l j hlt, hw, List.drop_eq_getElem_cons hlt, List.count_cons]
      by_cases e : l[j.toNat] = a
      · have hw2 : wrap64 (c + 1) = c + 1 := by unfold wrap64; omega
        rw [if_pos (beq_iff_eq.mpr e), hw2, if_pos (beq_iff_eq.mpr e)]
        have := ih (j + 1) (c + 1) (by omega) (by omega) (by omega) (by omega) (by omega)
        rw [show (j + 1).toNat = j.toNat + 1 by omega] at this
        rw [show c + (((l.drop (j.toNat + 1)).count a + 1 : Nat) : Int) = c + 1 + ((l.drop (j.toNat + 1)).count a : Int) by omega]
        exact this
      · have hw2 : wrap64 (c + 0) = c := by unfold wrap64; omega
        have hb : ¬ (l[j.toNat] == a) = true := by simpa using e
        rw [if_neg hb, hw2, if_neg hb]
        have := ih (j + 1) c (by omega) (by omega) (by omega) (by omega) (by omega)
        rw [show (j + 1).toNat = j.toNat + 1 by omega] at this
        exact this
  have := key l.length 0 0 (by omega) (by simp) (by omega) (by omega) (by omega)
  simpa using this
structure Sm (L : List IIt) : Prop where
  len : L.length ≤ 1048576
  kid : ((L.flatMap fun x => x.f6).length) ≤ 1048576
  att : ∀ x ∈ L, x.f3.length ≤ 1048576
theorem it_mem {L : List IIt} {i : Int} (h0 : 0 ≤ i) (h1 : i < (L.length : Int)) : it L i ∈ L := by
  unfold it
  rw [rdIIt L i (by omega)]
  exact List.getElem_mem _
theorem it_kid {L : List IIt} (h : Sm L) {i : Int} (h0 : 0 ≤ i) (h1 : i < (L.length : Int)) : (it L i).f6.length ≤ 1048576 := by
  refine Nat.le_trans ?_ h.kid
  have hm := it_mem h0 h1
  generalize it L i = x at hm
  clear h h0 h1
  induction L with
  | nil => simp at hm
  | cons y ys ih =>
    rw [List.flatMap_cons, List.length_append]
    rcases List.mem_cons.1 hm with rfl | hm
    · omega
    · have := ih hm; omega
def LinksFrom (L : List IIt) (i : Int) : Prop := ∀ x, i ≤ x → x < (L.length : Int) → UPS L x ∧ KIDS L x
theorem LinksFrom_step {L : List IIt} {i : Int} (h : i < (L.length : Int)) : LinksFrom L i ↔ (UPS L i ∧ KIDS L i) ∧ LinksFrom L (i + 1) := by
  constructor
  · intro hh
    exact ⟨hh i (Int.le_refl _) h, fun x hx => hh x (by omega)⟩
  · intro hh x hx hl
    by_cases e : x = i
    · subst e; exact hh.1
    · exact hh.2 x (by omega) hl
theorem dec_links_l1 (L : List IIt) (hS : Sm L) (i : Int) (h0 : 0 ≤ i) (h1 : i < (L.length : Int)) {Q : Prop} (hQ : Dec (fun k => spec_l6Links.l0 k L (i + 1)) Q) :
    ∀ (d : Nat) (j : Int), 0 ≤ j → (it L i).f6.length - j.toNat = d → j ≤ ((it L i).f6.length : Int) → Dec (fun k => spec_l6Links.l1 k L i j) ((∀ k ∈ (it L i).f6.drop j.toNat, KidOk L i k) ∧ Q) := by
  have hb := it_kid hS h0 h1
  have hb2 := hS.len
  have hwi : wrap64 (i + 1) = i + 1 := by unfold wrap64; omega
  have hwn : wrap64 ((L.length : Int) - 1) = (L.length : Int) - 1 := by unfold wrap64; omega
  intro d
  induction d with
  | zero =>
    intro j hj0 hd hj
    refine Dec.step (fun k => by simp only [spec_l6Links.l1]; rfl) (Dec.ifp h0 (Dec.ifp h1 (Dec.ifn (show ¬ j < (((it L i).f6).length : Int) by omega) ?_)))
    rw [hwi]
    exact hQ.iff ⟨fun q => ⟨by rw [List.drop_eq_nil_of_le (by omega)]; simp, q⟩, fun z => z.2⟩
  | succ d ih =>
    intro j hj0 hd hj
    have hlt : j.toNat < (it L i).f6.length := by omega
    have hw : wrap64 (j + 1) = j + 1 := by unfold wrap64; omega
    refine Dec.step (fun k => by simp only [spec_l6Links.l1]; rfl) (Dec.ifp h0 (Dec.ifp h1 (Dec.ifp (show j < (((it L i).f6).length : Int) by omega) (Dec.ifp hj0 (Dec.bindc (specIn _ _ _) ?_)))))
    rw [show rd_T89 L i = it L i from rfl, rdInt _ j hlt, hw, hwn]
    rw [List.drop_eq_getElem_cons hlt]
    generalize (it L i).f6[j.toNat] = x
    by_cases hr : 1 ≤ x ∧ x ≤ (L.length : Int) - 1
    · rw [decide_eq_true hr]
      refine Dec.ifp rfl (Dec.ifp (by omega) (Dec.ifp (by omega) ?_))
      by_cases hu : (it L x).f5 = i
      · refine Dec.ifp hu ((ih (j + 1) (by omega) (by omega) (by omega)).iff ?_)
        rw [show (j + 1).toNat = j.toNat + 1 by omega]
        constructor
        · intro z
          refine ⟨fun y hy => ?_, z.2⟩
          rcases List.mem_cons.1 hy with rfl | hy
          · exact ⟨hr.1, by omega, hu⟩
          · exact z.1 y hy
        · intro z
          exact ⟨fun y hy => z.1 y (List.mem_cons_of_mem _ hy), z.2⟩
      · exact Dec.ifn hu (Dec.no (Ev.now _) (fun z => hu (z.1 x List.mem_cons_self).2.2))
    · rw [decide_eq_false hr]
      exact Dec.ifn (by simp) (Dec.no (Ev.now _) (fun z => by have := z.1 x List.mem_cons_self; exact hr ⟨this.1, by have := this.2.1; omega⟩))
theorem dec_links (L : List IIt) (hS : Sm L) : Dec (fun k => spec_l6Links.f k L) (LinksFrom L 0) := by
  unfold spec_l6Links.f
  have hb2 := hS.len
  have hwn : wrap64 ((L.length : Int) - 1) = (L.length : Int) - 1 := by unfold wrap64; omega
  have key : ∀ (d : Nat) (i : Int), 0 ≤ i → L.length - i.toNat = d → i ≤ (L.length : Int) → Dec (fun k => spec_l6Links.l0 k L i) (LinksFrom L i) := by
    intro d
    induction d with
    | zero =>
      intro i h0 hd hi
      exact Dec.step (fun k => by simp only [spec_l6Links.l0]; rfl) (Dec.ifn (show ¬ i < (L.length : Int) by omega) (Dec.yes (Ev.now _) (fun x hx hl => by omega)))
    | succ d ih =>
      intro i h0 hd hi
      have h1 : i < (L.length : Int) := by omega
      have nx := ih (i + 1) (by omega) (by omega) (by omega)
      have k0 : Dec (fun k => spec_l6Links.l1 k L i 0) (KIDS L i ∧ LinksFrom L (i + 1)) := by
        have := dec_links_l1 L hS i h0 h1 nx _ 0 (by omega) rfl (by omega)
        simpa [KIDS] using this
      have jf : Dec (fun k => spec_l6Links.j1 k L i false) (KIDS L i ∧ LinksFrom L (i + 1)) := Dec.step (f := fun k => spec_l6Links.l1 k L i 0) (fun k => by simp [spec_l6Links.j1]) k0
      have jt : ∀ {Q : Prop}, ¬ Q → Dec (fun k => spec_l6Links.j1 k L i true) Q := fun hq => Dec.step (f := fun _ => some false) (fun k => by simp [spec_l6Links.j1]) (Dec.no (Ev.now _) hq)
      rw [LinksFrom_step h1]
      refine Dec.step (fun k => by simp only [spec_l6Links.l0]; rfl) (Dec.ifp h1 (Dec.ifp h0 ?_))
      rw [show rd_T89 L i = it L i from rfl]
      by_cases e0 : i = 0
      · refine Dec.ifp e0 ?_
        by_cases e5 : (it L i).f5 = -1
        · refine Dec.ifp e5 (Dec.ifn (by omega) (jf.iff ⟨fun z => ⟨⟨⟨fun _ => e5, fun h => by omega⟩, z.1⟩, z.2⟩, fun z => ⟨z.1.2, z.2⟩⟩))
        · exact Dec.ifn e5 (jt (fun z => e5 (z.1.1.1 e0)))
      · refine Dec.ifn e0 (Dec.ifp (show i > 0 by omega) (Dec.bindc (specIn _ _ _) ?_))
        rw [hwn]
        by_cases hr : 0 ≤ (it L i).f5 ∧ (it L i).f5 ≤ (L.length : Int) - 1
        · rw [decide_eq_true hr]
          refine Dec.ifp rfl (Dec.ifp hr.1 (Dec.ifp (by omega) (Dec.bind (ev_count _ i (it_kid hS hr.1 (by omega))) ?_)))
          rw [show rd_T89 L (it L i).f5 = it L (it L i).f5 from rfl]
          by_cases hc : (it L (it L i).f5).f6.count i = 1
          · have hcb : (((it L (it L i).f5).f6.count i : Int) != 1) = false := by rw [hc]; rfl
            rw [hcb]
            exact jf.iff ⟨fun z => ⟨⟨⟨fun h => absurd h e0, fun _ => ⟨hr.1, by omega, hc⟩⟩, z.1⟩, z.2⟩, fun z => ⟨z.1.2, z.2⟩⟩
          · have hcb : (((it L (it L i).f5).f6.count i : Int) != 1) = true := by simp; omega
            rw [hcb]
            exact jt (fun z => hc (z.1.1.2 (by omega)).2.2)
        · rw [decide_eq_false hr]
          exact Dec.ifn (by simp) (jt (fun z => by have := z.1.1.2 (by omega); exact hr ⟨this.1, by have := this.2.1; omega⟩))
  exact key L.length 0 (by omega) (by simp) (by omega)
end Go.Proofs.Ytlocaaebgghkbaa.A
namespace Go.Proofs.Ytlocaaebgghkbaa.A
open Go.RowKit Go.Proofs.YtlocaaebgghkbaaW.PrintWords Go.Proofs.YtlocaaebgghkbaaW.PrintLast Go.Proofs.YtlocaaebgghkbaaW.PrintMore
set_option linter.unusedVariables false
def kidsOf (L : List IIt) (i : Nat) : List Int := (L.drop i).flatMap fun x => x.f6
theorem kidsOf_end {L : List IIt} {i : Nat} (h : L.length ≤ i) : kidsOf L i = [] := by unfold kidsOf; rw [List.drop_eq_nil_of_le h]; rfl
theorem kidsOf_step {L : List IIt} {i : Int} (h0 : 0 ≤ i) (h : i < (L.length : Int)) : kidsOf L i.toNat = (it L i).f6 ++ kidsOf L (i + 1).toNat := by
  unfold kidsOf it
  rw [rdIIt L i (by omega), List.drop_eq_getElem_cons (show i.toNat < L.length by omega), List.flatMap_cons, show (i + 1).toNat = i.toNat + 1 by omega]
theorem rd_set (l : List Int) (a v k : Int) (ha : 0 ≤ a) (hk : 0 ≤ k) (hal : a < (l.length : Int)) : rd (l.set a.toNat v) k = if k = a then v else rd l k := by
  unfold rd
  rw [List.getD_eq_getElem?_getD, List.getD_eq_getElem?_getD, List.getElem?_set]
  by_cases e : k = a
  · subst e
    rw [if_pos rfl, if_pos (by omega), if_pos rfl]
    rfl
  · rw [if_neg (by omega), if_neg e]
theorem dec_kids_l2 (L : List IIt) (hS : Sm L) (seen : List Int) (hl : seen.length = L.length) : ∀ (d : Nat) (j : Int), 0 ≤ j → L.length - j.toNat = d → j ≤ (L.length : Int) → Dec (fun k => impl_kidsOk.l2 k L seen j) (∀ k, j ≤ k → k < (L.length : Int) → rd seen k = 1) := by
  have hb2 := hS.len
  intro d
  induction d with
  | zero =>
    intro j h0 hd hj
    exact Dec.step (fun k => by simp only [impl_kidsOk.l2]; rfl) (Dec.ifn (show ¬ j < (L.length : Int) by omega) (Dec.yes (Ev.now _) (fun k hk hkl => by omega)))
  | succ d ih =>
    intro j h0 hd hj
    have hw : wrap64 (j + 1) = j + 1 := by unfold wrap64; omega
    refine Dec.step (fun k => by simp only [impl_kidsOk.l2]; rfl) (Dec.ifp (show j < (L.length : Int) by omega) (Dec.ifp h0 (Dec.ifp (show j < (seen.length : Int) by omega) ?_)))
    rw [hw]
    by_cases h1 : rd seen j = 1
    · refine Dec.ifp h1 ((ih (j + 1) (by omega) (by omega) (by omega)).iff ?_)
      constructor
      · intro hh k hk hkl
        by_cases e : k = j
        · subst e; exact h1
        · exact hh k (by omega) hkl
      · intro hh k hk hkl
        exact hh k (by omega) hkl
    · exact Dec.ifn h1 (Dec.no (Ev.now _) (fun z => h1 (z j (Int.le_refl _) (by omega))))
def Rest (L : List IIt) (seen : List Int) (i : Int) : Prop := (∀ x, i ≤ x → x < (L.length : Int) → KIDS L x) ∧ ∀ k, 1 ≤ k → k < (L.length : Int) → rd seen k + ((kidsOf L i.toNat).count k : Int) = 1
def SeenOk (L : List IIt) (seen : List Int) (m : Nat) : Prop := seen.length = L.length ∧ ∀ k, 0 ≤ k → k < (L.length : Int) → 0 ≤ rd seen k ∧ rd seen k + (m : Int) ≤ 1048576
theorem dec_kids_l1 (L : List IIt) (hS : Sm L) (i : Int) (h0 : 0 ≤ i) (h1 : i < (L.length : Int)) (nx : ∀ seen, SeenOk L seen (kidsOf L (i + 1).toNat).length → Dec (fun k => impl_kidsOk.l0 k L seen L (L.length : Int) (i + 1)) (Rest L seen (i + 1))) :
    ∀ (d : Nat) (j : Int) (seen : List Int), 0 ≤ j → (it L i).f6.length - j.toNat = d → j ≤ ((it L i).f6.length : Int) → SeenOk L seen (((it L i).f6.drop j.toNat).length + (kidsOf L (i + 1).toNat).length) →
      Dec (fun k => impl_kidsOk.l1 k L seen i L (L.length : Int) i (it L i).f6 ((it L i).f6.length : Int) j)
        ((∀ k ∈ (it L i).f6.drop j.toNat, KidOk L i k) ∧ (∀ x, i + 1 ≤ x → x < (L.length : Int) → KIDS L x) ∧ ∀ k, 1 ≤ k → k < (L.length : Int) → rd seen k + (((it L i).f6.drop j.toNat).count k : Int) + ((kidsOf L (i + 1).toNat).count k : Int) = 1) := by
  have hb := it_kid hS h0 h1
  have hb2 := hS.len
  have hwi : wrap64 (i + 1) = i + 1 := by unfold wrap64; omega
  have hwn : wrap64 ((L.length : Int) - 1) = (L.length : Int) - 1 := by unfold wrap64; omega
  generalize hks : (it L i).f6 = ks at hb ⊢
  intro d
  induction d with
  | zero =>
    intro j seen hj0 hd hj hs
    refine Dec.step (fun k => by simp only [impl_kidsOk.l1]; rfl) (Dec.ifn (show ¬ j < (ks.length : Int) by omega) ?_)
    rw [hwi]
    rw [List.drop_eq_nil_of_le (by omega)] at hs ⊢
    refine (nx seen (by simpa using hs)).iff ?_
    unfold Rest
    simp
  | succ d ih =>
    intro j seen hj0 hd hj hs
    have hlt : j.toNat < ks.length := by omega
    have hw : wrap64 (j + 1) = j + 1 := by unfold wrap64; omega
    refine Dec.step (fun k => by simp only [impl_kidsOk.l1]; rfl) (Dec.ifp (show j < (ks.length : Int) by omega) (Dec.ifp hj0 (Dec.ifp (show j < (ks.length : Int) by omega) (Dec.bindc (implIn _ _ _) ?_))))
    rw [rdInt _ j hlt, hw, hwn]
    rw [List.drop_eq_getElem_cons hlt] at hs ⊢
    generalize ks[j.toNat] = x at hs ⊢
    rw [List.length_cons] at hs
    by_cases hr : 1 ≤ x ∧ x ≤ (L.length : Int) - 1
    · rw [decide_eq_true hr]
      refine Dec.ifp rfl (Dec.ifp (by omega) (Dec.ifp (by omega) ?_))
      by_cases hu : (it L x).f5 = i
      · refine Dec.ifp hu (Dec.ifp (by have := hs.1; omega) ?_)
        have hx := hs.2 x (by omega) (by omega)
        have hw3 : wrap64 (rd seen x + 1) = rd seen x + 1 := by unfold wrap64; omega
        rw [hw3]
        have hs2 : SeenOk L (seen.set x.toNat (rd seen x + 1)) ((ks.drop (j + 1).toNat).length + (kidsOf L (i + 1).toNat).length) := by
          refine ⟨by rw [List.length_set]; exact hs.1, fun k hk hkl => ?_⟩
          rw [rd_set _ _ _ _ (by omega) hk (by have := hs.1; omega), show (j + 1).toNat = j.toNat + 1 by omega]
          have := hs.2 k hk hkl
          split
          · omega
          · omega
        refine (ih (j + 1) _ (by omega) (by omega) (by omega) hs2).iff ?_
        rw [show (j + 1).toNat = j.toNat + 1 by omega]
        have hcnt : ∀ k, 1 ≤ k → rd (seen.set x.toNat (rd seen x + 1)) k + ((ks.drop (j.toNat + 1)).count k : Int) = rd seen k + (((x :: ks.drop (j.toNat + 1)).count k : Nat) : Int) := by
          intro k hk
          rw [rd_set _ _ _ _ (by omega) (by omega) (by have := hs.1; omega), List.count_cons]
          by_cases e : k = x
          · subst e
            rw [if_pos rfl, if_pos (by simp)]
            omega
          · rw [if_neg e, if_neg (by simp; omega)]
            omega
        constructor
        · intro z
          refine ⟨fun y hy => ?_, z.2.1, fun k hk hkl => by rw [← hcnt k hk]; exact z.2.2 k hk hkl⟩
          rcases List.mem_cons.1 hy with rfl | hy
          · exact ⟨hr.1, by omega, hu⟩
          · exact z.1 y hy
        · intro z
          exact ⟨fun y hy => z.1 y (List.mem_cons_of_mem _ hy), z.2.1, fun k hk hkl => by rw [hcnt k hk]; exact z.2.2 k hk hkl⟩
      · exact Dec.ifn hu (Dec.no (Ev.now _) (fun z => hu (z.1 x List.mem_cons_self).2.2))
    · rw [decide_eq_false hr]
      exact Dec.ifn (by simp) (Dec.no (Ev.now _) (fun z => by have := z.1 x List.mem_cons_self; exact hr ⟨this.1, by have := this.2.1; omega⟩))
theorem dec_kids_l0 (L : List IIt) (hS : Sm L) (hp : 0 < L.length) : ∀ (d : Nat) (i : Int) (seen : List Int), 0 ≤ i → L.length - i.toNat = d → i ≤ (L.length : Int) → SeenOk L seen (kidsOf L i.toNat).length → Dec (fun k => impl_kidsOk.l0 k L seen L (L.length : Int) i) (Rest L seen i) := by
  intro d
  induction d with
  | zero =>
    intro i seen h0 hd hi hs
    refine Dec.step (fun k => by simp only [impl_kidsOk.l0]; rfl) (Dec.ifn (show ¬ i < (L.length : Int) by omega) ((dec_kids_l2 L hS seen hs.1 _ 1 (by omega) rfl ?_).iff ?_))
    · omega
    · unfold Rest
      rw [kidsOf_end (by omega)]
      simp
      intro z x hx hl
      omega
  | succ d ih =>
    intro i seen h0 hd hi hs
    have h1 : i < (L.length : Int) := by omega
    refine Dec.step (fun k => by simp only [impl_kidsOk.l0]; rfl) (Dec.ifp h1 (Dec.ifp h0 (Dec.ifp h1 ?_)))
    rw [show rd_T89 L i = it L i from rfl]
    rw [kidsOf_step h0 h1, List.length_append] at hs
    have := dec_kids_l1 L hS i h0 h1 (fun seen hs => ih (i + 1) seen (by omega) (by omega) (by omega) hs) _ 0 seen (by omega) rfl (by omega) (by simpa using hs)
    refine this.iff ?_
    unfold Rest
    rw [kidsOf_step h0 h1]
    simp only [Int.toNat_zero, List.drop_zero, List.count_append]
    constructor
    · intro z
      refine ⟨fun x hx hl => ?_, fun k hk hkl => by have := z.2.2 k hk hkl; omega⟩
      by_cases e : x = i
      · subst e; exact z.1
      · exact z.2.1 x (by omega) hl
    · intro z
      exact ⟨z.1 i (Int.le_refl _) h1, fun x hx => z.1 x (by omega), fun k hk hkl => by have := z.2 k hk hkl; omega⟩
def KidsOk (L : List IIt) : Prop := (∀ x, 0 ≤ x → x < (L.length : Int) → KIDS L x) ∧ ∀ k, 1 ≤ k → k < (L.length : Int) → (kidsOf L 0).count k = 1
theorem dec_kids (L : List IIt) (hS : Sm L) (hp : 0 < L.length) : Dec (fun k => impl_kidsOk.f k L) (KidsOk L) := by
  have hb := hS.len
  unfold impl_kidsOk.f
  refine Dec.ifp (by omega) (Dec.ifp (by omega) ?_)
  have hz : ∀ k, rd (List.replicate ((L.length : Int) : Int).toNat 0) k = 0 := by
    intro k
    unfold rd
    rw [List.getD_eq_getElem?_getD, List.getElem?_replicate]
    split <;> rfl
  refine (dec_kids_l0 L hS hp _ 0 _ (by omega) rfl (by omega) ⟨by simp, fun k _ _ => by rw [hz]; exact ⟨by omega, by have := hS.kid; unfold kidsOf; rw [Int.toNat_zero, List.drop_zero]; omega⟩⟩).iff ?_
  unfold Rest KidsOk
  simp only [hz, Int.toNat_zero]
  constructor
  · intro z
    exact ⟨z.1, fun k hk hkl => by have := z.2 k hk hkl; omega⟩
  · intro z
    exact ⟨z.1, fun k hk hkl => by have := z.2 k hk hkl; omega⟩
theorem count_kids (L : List IIt) (hK : ∀ x, 0 ≤ x → x < (L.length : Int) → KIDS L x) (k : Int) (hk : 1 ≤ k) : ∀ (d : Nat) (i : Int), 0 ≤ i → L.length - i.toNat = d → i ≤ (L.length : Int) →
    (kidsOf L i.toNat).count k = if i ≤ (it L k).f5 ∧ (it L k).f5 < (L.length : Int) then (it L (it L k).f5).f6.count k else 0 := by
  intro d
  induction d with
  | zero =>
    intro i h0 hd hi
    rw [kidsOf_end (by omega), if_neg (by omega)]
    rfl
  | succ d ih =>
    intro i h0 hd hi
    have h1 : i < (L.length : Int) := by omega
    rw [kidsOf_step h0 h1, List.count_append, ih (i + 1) (by omega) (by omega) (by omega)]
    by_cases e : (it L k).f5 = i
    · rw [if_neg (by omega), if_pos (by omega), e]
      omega
    · have hz : (it L i).f6.count k = 0 := by
        rw [List.count_eq_zero]
        intro hm
        exact e (hK i h0 h1 k hm).2.2
      rw [hz]
      by_cases c : i ≤ (it L k).f5 ∧ (it L k).f5 < (L.length : Int)
      · rw [if_pos c, if_pos (by omega)]; omega
      · rw [if_neg c, if_neg (by omega)]
theorem kids_links (L : List IIt) : KidsOk L ↔ (∀ x, 0 ≤ x → x < (L.length : Int) → KIDS L x) ∧ ∀ k, 1 ≤ k → k < (L.length : Int) → UPK L k := by
  unfold KidsOk UPK
  constructor
  · intro z
    refine ⟨z.1, fun k hk hkl => ?_⟩
    have h := z.2 k hk hkl
    have := count_kids L z.1 k hk L.length 0 (by omega) (by simp) (by omega)
    rw [Int.toNat_zero] at this
    rw [this] at h
    by_cases c : 0 ≤ (it L k).f5 ∧ (it L k).f5 < (L.length : Int)
    · rw [if_pos c] at h; exact ⟨c.1, c.2, h⟩
    · rw [if_neg c] at h; cases h
  · intro z
    refine ⟨z.1, fun k hk hkl => ?_⟩
    have := count_kids L z.1 k hk L.length 0 (by omega) (by simp) (by omega)
    rw [Int.toNat_zero] at this
    have h := z.2 k hk hkl
    rw [this, if_pos ⟨h.1, h.2.1⟩]
    exact h.2.2
end Go.Proofs.Ytlocaaebgghkbaa.A
namespace Go.Proofs.Ytlocaaebgghkbaa.A
open Go.RowKit Go.Proofs.YtlocaaebgghkbaaW.PrintWords Go.Proofs.YtlocaaebgghkbaaW.PrintLast Go.Proofs.YtlocaaebgghkbaaW.PrintMore
set_option linter.unusedVariables false
theorem pigeon : ∀ (n : Nat) (l : List Nat), l.Nodup → (∀ x ∈ l, x < n) → l.length ≤ n
  | 0, l, _, h => by
    cases l with
    | nil => simp
    | cons a t => exact absurd (h a List.mem_cons_self) (by omega)
  | n + 1, l, hd, h => by
    by_cases hm : n ∈ l
    · have h1 := pigeon n (l.erase n) (hd.erase n) (fun x hx => by
        have h2 := h x (List.mem_of_mem_erase hx)
        have h3 : x ≠ n := (hd.mem_erase_iff.1 hx).1
        omega)
      rw [List.length_erase_of_mem hm] at h1
      omega
    · have h1 := pigeon n l hd (fun x hx => by
        have h2 := h x hx
        have h3 : x ≠ n := fun e => hm (e ▸ hx)
        omega)
      omega
theorem pigeonI (n : Nat) (l : List Int) (hd : l.Nodup) (h : ∀ x ∈ l, 0 ≤ x ∧ x < (n : Int)) : l.length ≤ n := by
  have h1 : (l.map Int.toNat).Nodup := by
    unfold List.Nodup
    rw [List.pairwise_map]
    refine List.Pairwise.imp_of_mem ?_ hd
    intro a b ha hb hab
    have := h a ha
    have := h b hb
    omega
  have := pigeon n (l.map Int.toNat) h1 (fun x hx => by
    obtain ⟨y, hy, rfl⟩ := List.mem_map.1 hx
    have := h y hy
    omega)
  rwa [List.length_map] at this
theorem nodup_count : ∀ l : List Int, (∀ k ∈ l, l.count k = 1) → l.Nodup
  | [], _ => List.nodup_nil
  | a :: t, h => by
    have h1 := h a List.mem_cons_self
    rw [List.count_cons_self] at h1
    have h2 : a ∉ t := List.count_eq_zero.1 (by omega)
    refine List.nodup_cons.2 ⟨h2, nodup_count t (fun k hk => ?_)⟩
    have h3 := h k (List.mem_cons_of_mem _ hk)
    have hne : a ≠ k := fun e => h2 (by rw [e]; exact hk)
    rwa [List.count_cons_of_ne hne] at h3
def TR (L : List IIt) : Prop := (∀ x, 0 ≤ x → x < (L.length : Int) → KIDS L x) ∧ ∀ k, 1 ≤ k → k < (L.length : Int) → UPK L k
def PB (L : List IIt) (o : List Int) : Prop := ∀ a x b, o = a ++ x :: b → x ≠ 0 → (it L x).f5 ∈ a
def Inv (L : List IIt) (out S : List Int) : Prop := (out ++ S).Nodup ∧ (∀ x ∈ out ++ S, 0 ≤ x ∧ x < (L.length : Int)) ∧ (∀ k ∈ out ++ S, k ≠ 0 → (it L k).f5 ∈ out) ∧ PB L out
theorem Inv_len {L : List IIt} {out S : List Int} (h : Inv L out S) : out.length + S.length ≤ L.length := by
  have := pigeonI L.length (out ++ S) h.1 h.2.1
  rwa [List.length_append] at this
theorem kids_once {L : List IIt} (hT : TR L) {i : Int} (h0 : 0 ≤ i) (h1 : i < (L.length : Int)) : (it L i).f6.Nodup := by
  refine nodup_count _ (fun k hk => ?_)
  have h := hT.1 i h0 h1 k hk
  have := (hT.2 k h.1 h.2.1).2.2
  rwa [h.2.2] at this
theorem Inv_step {L : List IIt} (hT : TR L) {out S : List Int} {i : Int} (h : Inv L out (S ++ [i])) : Inv L (out ++ [i]) (S ++ (it L i).f6.reverse) := by
  obtain ⟨hd, hr, hu, hpb⟩ := h
  have hi := hr i (by simp)
  have hk := kids_once hT hi.1 hi.2
  have hp : (out ++ [i] ++ (S ++ (it L i).f6.reverse)).Perm ((out ++ (S ++ [i])) ++ (it L i).f6.reverse) := by
    rw [← List.append_assoc, List.append_assoc out [i] S]
    exact (List.Perm.append_left out List.perm_append_comm).append_right _
  have hio : i ∉ out := by
    intro hm
    have := (List.nodup_append.1 hd).2.2 i hm i (by simp)
    exact this rfl
  have hnew : ∀ k ∈ (it L i).f6, k ∉ out ++ (S ++ [i]) := by
    intro k hk hm
    have h := hT.1 i hi.1 hi.2 k hk
    have := hu k hm (by have := h.1; omega)
    rw [h.2.2] at this
    exact hio this
  refine ⟨?_, ?_, ?_, ?_⟩
  · rw [hp.nodup_iff, List.nodup_append]
    exact ⟨hd, (List.reverse_perm _).nodup_iff.2 hk, fun a ha b hb e => hnew b (List.mem_reverse.1 hb) (e ▸ ha)⟩
  · intro x hx
    rw [hp.mem_iff, List.mem_append] at hx
    rcases hx with hx | hx
    · exact hr x hx
    · have := hT.1 i hi.1 hi.2 x (List.mem_reverse.1 hx)
      exact ⟨by have := this.1; omega, this.2.1⟩
  · intro k hx h0
    rw [hp.mem_iff, List.mem_append] at hx
    rcases hx with hx | hx
    · exact List.mem_append_left _ (hu k hx h0)
    · rw [(hT.1 i hi.1 hi.2 k (List.mem_reverse.1 hx)).2.2]
      simp
  · intro a x b he h0
    rcases List.append_eq_append_iff.1 he with ⟨c, h1, h2⟩ | ⟨c, h1, h2⟩
    · cases c with
      | nil =>
        simp at h2
        obtain ⟨rfl, _⟩ := h2
        rw [h1, List.append_nil]
        exact hu _ (by simp) h0
      | cons y ys =>
        simp at h2
    · cases c with
      | nil =>
        simp at h2
        rw [h2.1] at h0 ⊢
        have : out = a := by simpa using h1
        rw [← this]
        exact hu _ (by simp) h0
      | cons y ys =>
        simp only [List.cons_append, List.cons.injEq] at h2
        obtain ⟨rfl, _⟩ := h2
        exact hpb a x ys h1 h0
theorem push_l (L : List IIt) (out : List Int) (i : Int) (h0 : 0 ≤ i) (h1 : i < (L.length : Int)) (hk : (it L i).f6.length ≤ 1048576) (r : List Int) : ∀ (d : Nat) (S : List Int), d ≤ (it L i).f6.length → S.length + d ≤ 4194304 →
    Ev (fun k => impl_order.l0 k L out (S ++ ((it L i).f6.take d).reverse)) r → Ev (fun k => impl_order.l1 k L out S i ((d : Int) - 1)) r := by
  intro d
  induction d with
  | zero =>
    intro S hd hs h
    refine Ev.step (fun k => by simp only [impl_order.l1]; rfl) (Ev.ifn (show ¬ ((0 : Nat) : Int) - 1 ≥ 0 by omega) ?_)
    simpa using h
  | succ d ih =>
    intro S hd hs h
    have hw : wrap64 ((d : Int) - 1) = (d : Int) - 1 := by unfold wrap64; omega
    refine Ev.step (fun k => by simp only [impl_order.l1]; rfl) ?_
    rw [show ((d + 1 : Nat) : Int) - 1 = (d : Int) by omega]
    refine Ev.ifp (show (d : Int) ≥ 0 by omega) (Ev.ifp h0 (Ev.ifp h1 (Ev.ifp (show 0 ≤ (d : Int) by omega) (Ev.ifp (show (d : Int) < (((rd_T89 L i).f6).length : Int) by have : (rd_T89 L i).f6.length = (it L i).f6.length := rfl; omega) (Ev.ifp (by omega) ?_)))))
    rw [hw]
    refine ih _ (by omega) (by rw [List.length_append]; simp; omega) ?_
    rw [show rd_T89 L i = it L i from rfl, rdInt _ (d : Int) (by rw [Int.toNat_natCast]; omega)]
    rw [List.take_succ_eq_append_getElem (by omega), List.reverse_append] at h
    simpa using h
theorem pop_l (L : List IIt) (hS : Sm L) (out S : List Int) (i : Int) (hI : Inv L out (S ++ [i])) (r : List Int) (h : Ev (fun k => impl_order.l0 k L (out ++ [i]) (S ++ (it L i).f6.reverse)) r) : Ev (fun k => impl_order.l0 k L out (S ++ [i])) r := by
  have hi := hI.2.1 i (by simp)
  have hn := Inv_len hI
  have hb := hS.len
  have hk := it_kid hS hi.1 hi.2
  rw [List.length_append, List.length_singleton] at hn
  have hl : ((S ++ [i]).length : Int) = (S.length : Int) + 1 := by simp
  have hw : wrap64 (((S ++ [i]).length : Int) - 1) = (S.length : Int) := by rw [hl]; unfold wrap64; omega
  have hr : rd (S ++ [i]) (S.length : Int) = i := by
    rw [rdInt _ _ (by simp)]
    simp
  have hw2 : wrap64 (((it L i).f6.length : Int) - 1) = ((it L i).f6.length : Int) - 1 := by unfold wrap64; omega
  refine Ev.step (fun k => by simp only [impl_order.l0]; rfl) ?_
  rw [hw, hr]
  refine Ev.ifp (by omega) (Ev.ifp (by omega) (Ev.ifp (by omega) (Ev.ifp (by omega) (Ev.ifp (by omega) (Ev.ifp hi.1 (Ev.ifp hi.2 ?_))))))
  rw [show rd_T89 L i = it L i from rfl, hw2]
  have := push_l L (out ++ [i]) i hi.1 hi.2 hk r (it L i).f6.length S (Nat.le_refl _) (by omega) (by rw [List.take_length]; exact h)
  simpa using this
theorem order_go (L : List IIt) (hS : Sm L) (hT : TR L) : ∀ (m : Nat) (out S : List Int) (i : Int), Inv L out (S ++ [i]) → L.length - out.length ≤ m →
    ∃ o : List Int, out.length < o.length ∧ Inv L o S ∧ Ev (fun k => spec_l6Order.f k L i out) o ∧ ∀ r, Ev (fun k => impl_order.l0 k L o S) r → Ev (fun k => impl_order.l0 k L out (S ++ [i])) r := by
  have hb := hS.len
  intro m
  induction m with
  | zero =>
    intro out S i hI hm
    have := Inv_len hI
    rw [List.length_append, List.length_singleton] at this
    omega
  | succ m ih =>
    intro out S i hI hm
    have hn := Inv_len hI
    rw [List.length_append, List.length_singleton] at hn
    have hi := hI.2.1 i (by simp)
    have hk := it_kid hS hi.1 hi.2
    have kids : ∀ (d : Nat) (j : Int) (o2 : List Int), 0 ≤ j → (it L i).f6.length - j.toNat = d → j ≤ ((it L i).f6.length : Int) → out.length < o2.length → Inv L o2 (S ++ ((it L i).f6.drop j.toNat).reverse) →
        ∃ o : List Int, o2.length ≤ o.length ∧ Inv L o S ∧ Ev (fun k => spec_l6Order.l0 k L i o2 j) o ∧ ∀ r, Ev (fun k => impl_order.l0 k L o S) r → Ev (fun k => impl_order.l0 k L o2 (S ++ ((it L i).f6.drop j.toNat).reverse)) r := by
      intro d
      induction d with
      | zero =>
        intro j o2 h0 hd hj ho hI2
        rw [List.drop_eq_nil_of_le (by omega), List.reverse_nil, List.append_nil] at hI2
        refine ⟨o2, Nat.le_refl _, hI2, Ev.step (fun k => by simp only [spec_l6Order.l0]; rfl) (Ev.ifp hi.1 (Ev.ifp hi.2 (Ev.ifn (show ¬ j < (((it L i).f6).length : Int) by omega) (Ev.now _)))), fun r h => ?_⟩
        rw [List.drop_eq_nil_of_le (by omega), List.reverse_nil, List.append_nil]
        exact h
      | succ d ihd =>
        intro j o2 h0 hd hj ho hI2
        have hlt : j.toNat < (it L i).f6.length := by omega
        have hw : wrap64 (j + 1) = j + 1 := by unfold wrap64; omega
        rw [List.drop_eq_getElem_cons hlt, List.reverse_cons, ← List.append_assoc] at hI2
        obtain ⟨o3, h1, h2, h3, h4⟩ := ih o2 _ _ hI2 (by omega)
        rw [show j.toNat + 1 = (j + 1).toNat by omega] at h2 h4
        obtain ⟨o4, g1, g2, g3, g4⟩ := ihd (j + 1) o3 (by omega) (by omega) (by omega) (by omega) h2
        refine ⟨o4, by omega, g2, Ev.step (fun k => by simp only [spec_l6Order.l0]; rfl) (Ev.ifp hi.1 (Ev.ifp hi.2 (Ev.ifp (show j < (((it L i).f6).length : Int) by omega) (Ev.ifp h0 ?_)))), fun r h => ?_⟩
        · rw [show rd_T89 L i = it L i from rfl, rdInt _ j hlt, hw]
          exact Ev.bind h3 g3
        · rw [List.drop_eq_getElem_cons hlt, List.reverse_cons, ← List.append_assoc, show j.toNat + 1 = (j + 1).toNat by omega]
          exact h4 r (g4 r h)
    obtain ⟨o, h1, h2, h3, h4⟩ := kids _ 0 (out ++ [i]) (by omega) rfl (by omega) (by simp) (by simpa using Inv_step hT hI)
    refine ⟨o, by rw [List.length_append] at h1; simp at h1; omega, h2, Ev.step (fun k => by simp only [spec_l6Order.f]; rfl) (Ev.ifn (by omega) (Ev.ifp (by omega) h3)), fun r h => pop_l L hS out S i hI r ?_⟩
    have := h4 r h
    simpa using this
theorem order_both (L : List IIt) (hS : Sm L) (hT : TR L) (hp : 0 < L.length) : ∃ o : List Int, (∀ x ∈ o, 0 ≤ x ∧ x < (L.length : Int)) ∧ o.length ≤ L.length ∧ PB L o ∧ Ev (fun k => spec_l6Order.f k L 0 []) o ∧ Ev (fun k => impl_order.f k L) o := by
  have hI : Inv L [] ([] ++ [0]) := ⟨by simp, by simp; omega, by simp, fun a x b he => by simp at he⟩
  obtain ⟨o, _, h2, h3, h4⟩ := order_go L hS hT L.length [] [] 0 hI (by simp)
  refine ⟨o, fun x hx => h2.2.1 x (by simpa using hx), by have := Inv_len h2; simpa using this, h2.2.2.2, h3, ?_⟩
  unfold impl_order.f
  refine h4 o (Ev.step (fun k => by simp only [impl_order.l0]; rfl) (Ev.ifn (by simp) (Ev.now _)))
end Go.Proofs.Ytlocaaebgghkbaa.A
namespace Go.Proofs.Ytlocaaebgghkbaa.A
open Go.RowKit Go.Proofs.YtlocaaebgghkbaaW.PrintWords Go.Proofs.YtlocaaebgghkbaaW.PrintLast Go.Proofs.YtlocaaebgghkbaaW.PrintMore
set_option linter.unusedVariables false
def OKs (L : List IIt) (j : Int) : Prop := ∀ x, j ≤ x → x < (L.length : Int) → plS (it L x) ∧ (0 < x → (it L x).f0 ≠ 1)
def OKi (L : List IIt) (j : Int) : Prop := ∀ x, j ≤ x → x < (L.length : Int) → itI (it L x) ∧ (0 ≤ (it L x).f5 ∧ (it L x).f5 < (L.length : Int)) ∧ ((it L (it L x).f5).f0 = 1 ∨ (it L (it L x).f5).f0 = 2)
theorem OKs_step {L : List IIt} {j : Int} (h : j < (L.length : Int)) : OKs L j ↔ (plS (it L j) ∧ (0 < j → (it L j).f0 ≠ 1)) ∧ OKs L (j + 1) := by
  constructor
  · intro hh
    exact ⟨hh j (Int.le_refl _) h, fun x hx => hh x (by omega)⟩
  · intro hh x hx hl
    by_cases e : x = j
    · subst e; exact hh.1
    · exact hh.2 x (by omega) hl
theorem OKi_step {L : List IIt} {j : Int} (h : j < (L.length : Int)) : OKi L j ↔ (itI (it L j) ∧ (0 ≤ (it L j).f5 ∧ (it L j).f5 < (L.length : Int)) ∧ ((it L (it L j).f5).f0 = 1 ∨ (it L (it L j).f5).f0 = 2)) ∧ OKi L (j + 1) := by
  constructor
  · intro hh
    exact ⟨hh j (Int.le_refl _) h, fun x hx => hh x (by omega)⟩
  · intro hh x hx hl
    by_cases e : x = j
    · subst e; exact hh.1
    · exact hh.2 x (by omega) hl
theorem dec_specTree (L : List IIt) (hS : Sm L) {X : Prop} (hX : LinksFrom L 0 → Dec (fun k => (spec_l6Order.f k L 0 (([] : List Int))).bind fun t => (some ((t.length : Int) == (L.length : Int)))) X) :
    Dec (fun k => spec_TreeOk.f k L) ((1 ≤ (L.length : Int) ∧ (L.length : Int) ≤ 3000) ∧ (it L 0).f0 = 1 ∧ OKs L 0 ∧ LinksFrom L 0 ∧ X) := by
  have hb := hS.len
  have bad : ∀ {Q : Prop}, ¬ Q → Dec (fun k => spec_TreeOk.j0 k L true) Q := fun hq => Dec.step (f := fun _ => some false) (fun k => by simp [spec_TreeOk.j0]) (Dec.no (Ev.now _) hq)
  have key : ∀ (d : Nat) (j : Int), 0 ≤ j → L.length - j.toNat = d → j ≤ (L.length : Int) → Dec (fun k => spec_TreeOk.l0 k L j) (OKs L j ∧ LinksFrom L 0 ∧ X) := by
    intro d
    induction d with
    | zero =>
      intro j h0 hd hj
      refine Dec.step (fun k => by simp only [spec_TreeOk.l0]; rfl) (Dec.ifn (show ¬ j < (L.length : Int) by omega) ((Dec.and (dec_links L hS) hX).iff ?_))
      exact ⟨fun z => ⟨fun x hx hl => by omega, z⟩, fun z => z.2⟩
    | succ d ih =>
      intro j h0 hd hj
      have h1 : j < (L.length : Int) := by omega
      have hw : wrap64 (j + 1) = j + 1 := by unfold wrap64; omega
      have nx := ih (j + 1) (by omega) (by omega) (by omega)
      rw [OKs_step h1]
      refine Dec.step (fun k => by simp only [spec_TreeOk.l0]; rfl) (Dec.ifp h1 (Dec.ifp h0 ?_))
      rw [show rd_T89 L j = it L j from rfl, hw]
      obtain ⟨b, e, hbp⟩ := dec_plain (it L j) (hS.att _ (it_mem h0 h1))
      refine Dec.bind e ?_
      cases b with
      | false => exact Dec.ifn (by simp) (Dec.no (Ev.now _) (fun z => by have := hbp.2 z.1.1.1; cases this))
      | true =>
        have hpl := hbp.1 rfl
        refine Dec.ifp rfl ?_
        by_cases hj0 : j > 0
        · refine Dec.ifp hj0 ?_
          by_cases hf : (it L j).f0 = 1
          · exact Dec.ifp hf (Dec.no (Ev.now _) (fun z => z.1.1.2 hj0 hf))
          · exact Dec.ifn hf (nx.iff ⟨fun z => ⟨⟨⟨hpl, fun _ => hf⟩, z.1⟩, z.2⟩, fun z => ⟨z.1.2, z.2⟩⟩)
        · exact Dec.ifn hj0 (nx.iff ⟨fun z => ⟨⟨⟨hpl, fun h => absurd h hj0⟩, z.1⟩, z.2⟩, fun z => ⟨z.1.2, z.2⟩⟩)
  unfold spec_TreeOk.f
  refine Dec.bindc (specIn _ _ _) ?_
  by_cases hr : 1 ≤ (L.length : Int) ∧ (L.length : Int) ≤ 3000
  · rw [decide_eq_true hr]
    refine Dec.ifp rfl (Dec.ifp (by omega) ?_)
    rw [show rd_T89 L 0 = it L 0 from rfl]
    by_cases h1 : (it L 0).f0 = 1
    · rw [show ((it L 0).f0 != 1) = false by simp [h1]]
      refine Dec.step (f := fun k => spec_TreeOk.l0 k L 0) (fun k => by simp [spec_TreeOk.j0]) ((key _ 0 (by omega) rfl (by omega)).iff ?_)
      exact ⟨fun z => ⟨hr, h1, z⟩, fun z => z.2.2⟩
    · rw [show ((it L 0).f0 != 1) = true by simp [h1]]
      exact bad (fun z => h1 z.2.1)
  · rw [decide_eq_false hr]
    exact Dec.ifn (by simp) (bad (fun z => hr z.1))
theorem rd_drop1 (L : List IIt) (j : Int) (h0 : 0 ≤ j) (h : j + 1 < (L.length : Int)) : rd_T89 (L.drop 1) j = it L (j + 1) := by
  unfold it
  rw [rdIIt _ j (by rw [List.length_drop]; omega), rdIIt L (j + 1) (by omega), List.getElem_drop]
  congr 1
  omega
theorem dec_implTree (L : List IIt) (hS : Sm L) {X : Prop} (hX : KidsOk L → Dec (fun k => (impl_order.f k L).bind fun t => (some ((t.length : Int) == (L.length : Int)))) X) :
    Dec (fun k => impl_TreeOk.f k L) ((1 ≤ (L.length : Int) ∧ (L.length : Int) ≤ 3000) ∧ (plS (it L 0) ∧ (it L 0).f0 = 1 ∧ (it L 0).f5 = -1) ∧ OKi L 1 ∧ KidsOk L ∧ X) := by
  have hb := hS.len
  have hwn : wrap64 ((L.length : Int) - 1) = (L.length : Int) - 1 := by unfold wrap64; omega
  have bad : ∀ {Q : Prop}, ¬ Q → Dec (fun k => impl_TreeOk.j0 k L true) Q := fun hq => Dec.step (f := fun _ => some false) (fun k => by simp [impl_TreeOk.j0]) (Dec.no (Ev.now _) hq)
  unfold impl_TreeOk.f
  refine Dec.bindc (implIn _ _ _) ?_
  by_cases hr : 1 ≤ (L.length : Int) ∧ (L.length : Int) ≤ 3000
  · have hdl : (L.drop 1).length = L.length - 1 := List.length_drop ..
    have key : ∀ (d : Nat) (j : Int), 0 ≤ j → (L.drop 1).length - j.toNat = d → j ≤ ((L.drop 1).length : Int) → Dec (fun k => impl_TreeOk.l0 k L (L.drop 1) ((L.drop 1).length : Int) j) (OKi L (j + 1) ∧ KidsOk L ∧ X) := by
      intro d
      induction d with
      | zero =>
        intro j h0 hd hj
        refine Dec.step (fun k => by simp only [impl_TreeOk.l0]; rfl) (Dec.ifn (show ¬ j < ((L.drop 1).length : Int) by omega) ((Dec.and (dec_kids L hS (by omega)) hX).iff ?_))
        exact ⟨fun z => ⟨fun x hx hl => by omega, z⟩, fun z => z.2⟩
      | succ d ih =>
        intro j h0 hd hj
        have h1 : j < ((L.drop 1).length : Int) := by omega
        have h2 : j + 1 < (L.length : Int) := by omega
        have hw : wrap64 (j + 1) = j + 1 := by unfold wrap64; omega
        have nx := ih (j + 1) (by omega) (by omega) (by omega)
        rw [OKi_step h2]
        refine Dec.step (fun k => by simp only [impl_TreeOk.l0]; rfl) (Dec.ifp h1 (Dec.ifp h0 (Dec.ifp h1 ?_)))
        rw [rd_drop1 L j h0 h2, hw, hwn]
        obtain ⟨b, e, hbp⟩ := dec_item (it L (j + 1)) (hS.att _ (it_mem (by omega) h2))
        refine Dec.bind e ?_
        cases b with
        | false => exact Dec.ifn (by simp) (Dec.no (Ev.now _) (fun z => by have := hbp.2 z.1.1.1; cases this))
        | true =>
          have hpl := hbp.1 rfl
          refine Dec.ifp rfl (Dec.bindc (implIn _ _ _) ?_)
          by_cases hu : 0 ≤ (it L (j + 1)).f5 ∧ (it L (j + 1)).f5 ≤ (L.length : Int) - 1
          · rw [decide_eq_true hu]
            refine Dec.ifp rfl (Dec.ifp hu.1 (Dec.ifp (by omega) ?_))
            rw [show rd_T89 L (it L (j + 1)).f5 = it L (it L (j + 1)).f5 from rfl]
            have hkf : impl_hasKids.f (it L (it L (j + 1)).f5).f0 = some (decide ((it L (it L (j + 1)).f5).f0 = 1 ∨ (it L (it L (j + 1)).f5).f0 = 2)) := by
              unfold impl_hasKids.f
              by_cases c1 : (it L (it L (j + 1)).f5).f0 = 1
              · rw [if_pos c1, decide_eq_true (Or.inl c1)]
              · rw [if_neg c1]
                by_cases c2 : (it L (it L (j + 1)).f5).f0 = 2
                · rw [decide_eq_true (Or.inr c2), c2]; rfl
                · rw [decide_eq_false (fun z => z.elim c1 c2), beq_eq_false_iff_ne.mpr c2]
            refine Dec.bindc hkf ?_
            by_cases hk : (it L (it L (j + 1)).f5).f0 = 1 ∨ (it L (it L (j + 1)).f5).f0 = 2
            · rw [decide_eq_true hk]
              exact Dec.ifp rfl (nx.iff ⟨fun z => ⟨⟨⟨hpl, ⟨hu.1, by omega⟩, hk⟩, z.1⟩, z.2⟩, fun z => ⟨z.1.2, z.2⟩⟩)
            · rw [decide_eq_false hk]
              exact Dec.ifn (by simp) (Dec.no (Ev.now _) (fun z => hk z.1.1.2.2))
          · rw [decide_eq_false hu]
            exact Dec.ifn (by simp) (Dec.no (Ev.now _) (fun z => hu ⟨z.1.1.2.1.1, by have := z.1.1.2.1.2; omega⟩))
    rw [decide_eq_true hr]
    refine Dec.ifp rfl (Dec.ifp (by omega) ?_)
    rw [show rd_T89 L 0 = it L 0 from rfl]
    obtain ⟨b, e, hbp⟩ := dec_page (it L 0)
    refine Dec.bind e ?_
    cases b with
    | false => exact bad (fun z => by have := hbp.2 z.2.1; cases this)
    | true =>
      have := key _ 0 (by omega) rfl (by omega)
      refine Dec.step (f := fun k => impl_TreeOk.l0 k L (L.drop 1) ((L.drop 1).length : Int) 0) (fun k => by simp only [impl_TreeOk.j0]; rw [if_neg (by simp), if_pos hr.1]; rfl) (this.iff ?_)
      exact ⟨fun z => ⟨hr, hbp.1 rfl, z⟩, fun z => z.2.2⟩
  · rw [decide_eq_false hr]
    exact Dec.ifn (by simp) (bad (fun z => hr z.1))
theorem tree_same (L : List IIt) (hp : 1 ≤ (L.length : Int)) : ((it L 0).f0 = 1 ∧ OKs L 0 ∧ LinksFrom L 0) ↔ ((plS (it L 0) ∧ (it L 0).f0 = 1 ∧ (it L 0).f5 = -1) ∧ OKi L 1 ∧ KidsOk L) := by
  constructor
  · rintro ⟨h1, h2, h3⟩
    refine ⟨⟨(h2 0 (Int.le_refl _) (by omega)).1, h1, (h3 0 (Int.le_refl _) (by omega)).1.1 rfl⟩, fun x hx hl => ?_, (kids_links L).2 ⟨fun x hx hl => (h3 x hx hl).2, fun k hk hl => (h3 k (by omega) hl).1.2 (by omega)⟩⟩
    have g1 := h2 x (by omega) hl
    have g2 := (h3 x (by omega) hl).1.2 (by omega)
    refine ⟨⟨g1.1, g1.2 (by omega)⟩, ⟨g2.1, g2.2.1⟩, kids_kind (h2 _ g2.1 g2.2.1).1 (fun hz => ?_)⟩
    have := g2.2.2
    rw [List.eq_nil_of_length_eq_zero hz] at this
    simp at this
  · rintro ⟨⟨h1, h2, h3⟩, h4, h5⟩
    obtain ⟨k1, k2⟩ := (kids_links L).1 h5
    refine ⟨h2, fun x hx hl => ?_, fun x hx hl => ⟨⟨fun e => by rw [e]; exact h3, fun hx0 => k2 x (by omega) hl⟩, k1 x hx hl⟩⟩
    by_cases e : x = 0
    · subst e
      exact ⟨h1, fun h => by omega⟩
    · have := h4 x (by omega) hl
      exact ⟨this.1.1, fun _ => this.1.2⟩
end Go.Proofs.Ytlocaaebgghkbaa.A
namespace Go.Proofs.Ytlocaaebgghkbaa.A
open Go.RowKit Go.Proofs.YtlocaaebgghkbaaW.PrintWords Go.Proofs.YtlocaaebgghkbaaW.PrintLast Go.Proofs.YtlocaaebgghkbaaW.PrintMore
set_option linter.unusedVariables false
theorem Tree_both (L : List IIt) (hS : Sm L) : (Ev (fun k => spec_TreeOk.f k L) false ∧ Ev (fun k => impl_TreeOk.f k L) false) ∨
    (Ev (fun k => spec_TreeOk.f k L) true ∧ Ev (fun k => impl_TreeOk.f k L) true ∧ L.length ≤ 3000 ∧ (it L 0).f5 = -1 ∧ ∃ o : List Int, (∀ x ∈ o, (0 ≤ x ∧ x < (L.length : Int)) ∧ (x ≠ 0 → 0 ≤ (it L x).f5 ∧ (it L x).f5 < (L.length : Int))) ∧ o.length ≤ L.length ∧ PB L o ∧ Ev (fun k => spec_l6Order.f k L 0 []) o ∧ Ev (fun k => impl_order.f k L) o) := by
  by_cases hT : TR L ∧ 0 < L.length
  · obtain ⟨o, ho, hol, hpb, e1, e2⟩ := order_both L hS hT.1 hT.2
    have d1 := dec_specTree L hS (X := o.length = L.length) (fun _ => Dec.bind e1 ((Dec.bool _).iff (by simp; omega)))
    have d2 := dec_implTree L hS (X := o.length = L.length) (fun _ => Dec.bind e2 ((Dec.bool _).iff (by simp; omega)))
    have hsame := tree_same L (by omega)
    obtain ⟨b, g1, hb1⟩ := d1
    obtain ⟨c, g2, hc1⟩ := d2
    have hbc : b = c := by
      have : (b = true) ↔ (c = true) := by
        rw [hb1, hc1]
        constructor
        · intro z
          have := hsame.1 ⟨z.2.1, z.2.2.1, z.2.2.2.1⟩
          exact ⟨z.1, this.1, this.2.1, this.2.2, z.2.2.2.2⟩
        · intro z
          have := hsame.2 ⟨z.2.1, z.2.2.1, z.2.2.2.1⟩
          exact ⟨z.1, this.1, this.2.1, this.2.2, z.2.2.2.2⟩
      cases b <;> cases c <;> simp_all
    subst hbc
    cases b with
    | true =>
      have z := hb1.1 rfl
      refine .inr ⟨g1, g2, by omega, (z.2.2.2.1 0 (Int.le_refl _) (by omega)).1.1 rfl, o, fun x hx => ⟨ho x hx, fun h0 => ?_⟩, hol, hpb, e1, e2⟩
      have := (z.2.2.2.1 x (ho x hx).1 (ho x hx).2).1.2 (by have := (ho x hx).1; omega)
      exact ⟨this.1, this.2.1⟩
    | false => exact .inl ⟨g1, g2⟩
  · have n1 : ¬ (LinksFrom L 0 ∧ 1 ≤ (L.length : Int)) := fun z => hT ⟨⟨fun x hx hl => (z.1 x hx hl).2, fun k hk hl => (z.1 k (by omega) hl).1.2 (by omega)⟩, by omega⟩
    have n2 : ¬ (KidsOk L ∧ 1 ≤ (L.length : Int)) := fun z => hT ⟨(kids_links L).1 z.1, by omega⟩
    by_cases hp : 0 < L.length
    · have d1 := dec_specTree L hS (X := False) (fun z => absurd ⟨z, by omega⟩ n1)
      have d2 := dec_implTree L hS (X := False) (fun z => absurd ⟨z, by omega⟩ n2)
      obtain ⟨b, g1, hb1⟩ := d1
      obtain ⟨c, g2, hc1⟩ := d2
      have hb : b = false := by cases b with
        | false => rfl
        | true => exact absurd (hb1.1 rfl).2.2.2.2 id
      have hc : c = false := by cases c with
        | false => rfl
        | true => exact absurd (hc1.1 rfl).2.2.2.2 id
      subst hb hc
      exact .inl ⟨g1, g2⟩
    · have hz : (L.length : Int) = 0 := by omega
      refine .inl ⟨?_, ?_⟩
      · unfold spec_TreeOk.f
        refine Ev.bindc (specIn _ _ _) ?_
        rw [decide_eq_false (by omega)]
        exact Ev.ifn (by simp) (Ev.step (f := fun _ => some false) (fun k => by simp [spec_TreeOk.j0]) (Ev.now _))
      · unfold impl_TreeOk.f
        refine Ev.bindc (implIn _ _ _) ?_
        rw [decide_eq_false (by omega)]
        exact Ev.ifn (by simp) (Ev.step (f := fun _ => some false) (fun k => by simp [impl_TreeOk.j0]) (Ev.now _))
inductive Deep (L : List IIt) : Int → Nat → Prop
  | root : Deep L 0 0
  | step {x : Int} {d : Nat} : x ≠ 0 → Deep L (it L x).f5 d → Deep L x (d + 1)
theorem Deep.one {L : List IIt} {x : Int} {d : Nat} (h : Deep L x d) : ∀ {e : Nat}, Deep L x e → d = e := by
  induction h with
  | root =>
    intro e h2
    cases h2 with
    | root => rfl
    | step h0 _ => exact absurd rfl h0
  | step h0 _ ih =>
    intro e h2
    cases h2 with
    | root => exact absurd rfl h0
    | step _ h3 => rw [ih h3]
theorem deep_ex (L : List IIt) (o : List Int) (hpb : PB L o) : ∀ (n : Nat) (a : List Int) (x : Int) (b : List Int), a.length ≤ n → o = a ++ x :: b → ∃ d, Deep L x d ∧ d ≤ n := by
  intro n
  induction n with
  | zero =>
    intro a x b ha he
    by_cases h0 : x = 0
    · subst h0; exact ⟨0, .root, Nat.le_refl _⟩
    · have := hpb a x b he h0
      rw [List.eq_nil_of_length_eq_zero (Nat.le_zero.1 ha)] at this
      simp at this
  | succ n ih =>
    intro a x b ha he
    by_cases h0 : x = 0
    · subst h0; exact ⟨0, .root, Nat.zero_le _⟩
    · have hm := hpb a x b he h0
      obtain ⟨p, q, hpq⟩ := List.append_of_mem hm
      obtain ⟨d, h1, h2⟩ := ih p _ (q ++ x :: b) (by rw [hpq] at ha; simp at ha; omega) (by rw [he, hpq, List.append_assoc, List.cons_append])
      exact ⟨d + 1, .step h0 h1, by omega⟩
theorem depths_step (k : Nat) (L : List IIt) (out o : List Int) (n j : Int) : impl_depths.l0 (k + 1) L out o n j = if j < n then (if 0 ≤ j then (if j < (o.length : Int) then (if 0 ≤ rd o j then (if rd o j < (out.length : Int) then (if rd o j > 0 then (if rd o j < (L.length : Int) then (if 0 ≤ (it L (rd o j)).f5 then (if (it L (rd o j)).f5 < (out.length : Int) then impl_depths.l0 k L ((out.set (rd o j).toNat 1).set (rd o j).toNat (wrap64 (rd (out.set (rd o j).toNat 1) (it L (rd o j)).f5 + 1))) o n (wrap64 (j + 1)) else none) else none) else none) else impl_depths.l0 k L (out.set (rd o j).toNat 1) o n (wrap64 (j + 1))) else none) else none) else none) else none) else some out := by
  rw [impl_depths.l0]
  rfl
theorem depths_l (L : List IIt) (o : List Int) (ho : ∀ x ∈ o, (0 ≤ x ∧ x < (L.length : Int)) ∧ (x ≠ 0 → 0 ≤ (it L x).f5 ∧ (it L x).f5 < (L.length : Int))) (hpb : PB L o) (hol : o.length ≤ 1048576) :
    ∀ (m : Nat) (j : Int) (out : List Int), 0 ≤ j → o.length - j.toNat = m → j ≤ (o.length : Int) → out.length = L.length → (∀ x ∈ o.take j.toNat, ∃ d, Deep L x d ∧ d ≤ o.length ∧ rd out x = (d : Int) + 1) →
      ∃ dp : List Int, dp.length = L.length ∧ (∀ x ∈ o, ∃ d, Deep L x d ∧ d ≤ o.length ∧ rd dp x = (d : Int) + 1) ∧ Ev (fun k => impl_depths.l0 k L out o (o.length : Int) j) dp := by
  intro m
  induction m with
  | zero =>
    intro j out h0 hm hj hl hh
    rw [List.take_of_length_le (by omega)] at hh
    exact ⟨out, hl, hh, Ev.step (fun k => depths_step k L out o _ j) (Ev.ifn (show ¬ j < (o.length : Int) by omega) (Ev.now _))⟩
  | succ m ih =>
    intro j out h0 hm hj hl hh
    have hlt : j.toNat < o.length := by omega
    have hw : wrap64 (j + 1) = j + 1 := by unfold wrap64; omega
    have hjl : j < (o.length : Int) := by omega
    have hrd := rdInt o j hlt
    have hsp : o = o.take j.toNat ++ o[j.toNat] :: o.drop (j.toNat + 1) := by rw [← List.drop_eq_getElem_cons hlt, List.take_append_drop]
    have htk : o.take (j.toNat + 1) = o.take j.toNat ++ [o[j.toNat]] := List.take_succ_eq_append_getElem hlt
    have hx := ho o[j.toNat] (List.getElem_mem hlt)
    obtain ⟨d, hd1, hd2⟩ := deep_ex L o hpb o.length _ _ _ (by rw [List.length_take]; omega) hsp
    generalize o[j.toNat] = x at hrd hsp htk hx hd1
    obtain ⟨⟨x0, x1⟩, xu⟩ := hx
    have hxo : x < (out.length : Int) := by omega
    have nx : ∀ out2 : List Int, out2.length = L.length → rd out2 x = (d : Int) + 1 → (∀ y, 0 ≤ y → y ≠ x → rd out2 y = rd out y) → ∃ dp : List Int, dp.length = L.length ∧ (∀ x ∈ o, ∃ d, Deep L x d ∧ d ≤ o.length ∧ rd dp x = (d : Int) + 1) ∧ Ev (fun k => impl_depths.l0 k L out2 o (o.length : Int) (j + 1)) dp := by
      intro out2 h1 h2 h3
      refine ih (j + 1) out2 (by omega) (by omega) (by omega) h1 (fun y hy => ?_)
      rw [show (j + 1).toNat = j.toNat + 1 by omega, htk, List.mem_append] at hy
      by_cases e : y = x
      · subst e; exact ⟨d, hd1, hd2, h2⟩
      · rcases hy with hy | hy
        · obtain ⟨d', g1, g2, g3⟩ := hh y hy
          exact ⟨d', g1, g2, by rw [h3 y (ho y (List.mem_of_mem_take hy)).1.1 e]; exact g3⟩
        · exact absurd (List.mem_singleton.1 hy) e
    by_cases hx0 : x = 0
    · have hxz : ¬ x > 0 := by omega
      have hd0 : d = 0 := hd1.one (by rw [hx0]; exact .root)
      obtain ⟨dp, g1, g2, g3⟩ := nx (out.set x.toNat 1) (by rw [List.length_set]; exact hl) (by rw [rd_set _ _ _ _ x0 x0 (by omega), if_pos rfl, hd0]; rfl) (fun y hy hyx => by rw [rd_set _ _ _ _ x0 hy (by omega), if_neg hyx])
      refine ⟨dp, g1, g2, Ev.step (fun k => depths_step k L out o _ j) (Ev.ifp hjl (Ev.ifp h0 (Ev.ifp hjl ?_)))⟩
      rw [hrd, hw]
      refine Ev.ifp x0 ?_
      refine Ev.ifp hxo ?_
      exact Ev.ifn hxz g3
    · have hu := xu hx0
      have hxp : x > 0 := by omega
      have huo : (it L x).f5 < (out.length : Int) := by omega
      have hup := hpb _ _ _ hsp hx0
      obtain ⟨d', g1, g2, g3⟩ := hh _ hup
      have hdd : d = d' + 1 := hd1.one (.step hx0 g1)
      have hne : (it L x).f5 ≠ x := by
        intro e
        rw [e] at g1
        have := hd1.one g1
        omega
      have hr1 : rd (out.set x.toNat 1) (it L x).f5 = (d' : Int) + 1 := by rw [rd_set _ _ _ _ x0 hu.1 (by omega), if_neg hne]; exact g3
      have hw2 : wrap64 ((d' : Int) + 1 + 1) = (d' : Int) + 1 + 1 := by unfold wrap64; omega
      obtain ⟨dp, k1, k2, k3⟩ := nx ((out.set x.toNat 1).set x.toNat ((d' : Int) + 1 + 1)) (by rw [List.length_set, List.length_set]; exact hl) (by rw [rd_set _ _ _ _ x0 x0 (by rw [List.length_set]; omega), if_pos rfl, hdd]; omega) (fun y hy hyx => by rw [rd_set _ _ _ _ x0 hy (by rw [List.length_set]; omega), if_neg hyx, rd_set _ _ _ _ x0 hy (by omega), if_neg hyx])
      refine ⟨dp, k1, k2, Ev.step (fun k => depths_step k L out o _ j) (Ev.ifp hjl (Ev.ifp h0 (Ev.ifp hjl ?_)))⟩
      rw [hrd, hw]
      refine Ev.ifp x0 ?_
      refine Ev.ifp hxo ?_
      refine Ev.ifp hxp ?_
      refine Ev.ifp x1 ?_
      refine Ev.ifp hu.1 ?_
      refine Ev.ifp huo ?_
      rw [hr1, hw2]
      exact k3
theorem depths_f (L : List IIt) (o : List Int) (ho : ∀ x ∈ o, (0 ≤ x ∧ x < (L.length : Int)) ∧ (x ≠ 0 → 0 ≤ (it L x).f5 ∧ (it L x).f5 < (L.length : Int))) (hpb : PB L o) (hol : o.length ≤ 1048576) (hL : L.length ≤ 3000) (e : Ev (fun k => impl_order.f k L) o) :
    ∃ dp : List Int, dp.length = L.length ∧ (∀ x ∈ o, ∃ d, Deep L x d ∧ d ≤ o.length ∧ rd dp x = (d : Int) + 1) ∧ Ev (fun k => impl_depths.f k L) dp := by
  obtain ⟨dp, h1, h2, h3⟩ := depths_l L o ho hpb hol o.length 0 (List.replicate ((L.length : Int) : Int).toNat 0) (by omega) (by simp) (by omega) (by simp) (by simp)
  refine ⟨dp, h1, h2, ?_⟩
  unfold impl_depths.f
  exact Ev.ifp (by omega) (Ev.ifp (by omega) (Ev.bind e h3))
theorem up_mem {L : List IIt} {o : List Int} (hpb : PB L o) {x : Int} (hx : x ∈ o) (h0 : x ≠ 0) : (it L x).f5 ∈ o := by
  obtain ⟨p, q, hpq⟩ := List.append_of_mem hx
  rw [hpq]
  exact List.mem_append_left _ (hpb p x q hpq h0)
end Go.Proofs.Ytlocaaebgghkbaa.A
namespace Go.Proofs.Ytlocaaebgghkbaa.A
open Go.RowKit Go.Proofs.YtlocaaebgghkbaaW.PrintWords Go.Proofs.YtlocaaebgghkbaaW.PrintLast Go.Proofs.YtlocaaebgghkbaaW.PrintMore
set_option linter.unusedVariables false
theorem ty_size (a : List UInt8) : (⟨a.toArray⟩ : ByteArray).size = a.length := by simp [ByteArray.size]
theorem Sm_of' (l : List LIt) (hs : sIL l ≤ 1048576) : Sm (l.map cI) := by
  unfold sIL at hs
  refine ⟨by rw [List.length_map]; omega, ?_, ?_⟩
  · have : ∀ l : List LIt, ((l.map cI).flatMap fun x => x.f6).length ≤ (l.map sI).sum := by
      intro l
      induction l with
      | nil => simp
      | cons y ys ih =>
        rw [List.map_cons, List.flatMap_cons, List.length_append, List.map_cons, List.sum_cons]
        have h1 : (cI y).f6.length ≤ sI y := by
          show y.f6.length ≤ y.f2.size + (sAL y.f3 + (y.f4.size + y.f6.length))
          omega
        omega
    have := this l
    omega
  · intro x hx
    obtain ⟨y, hy, rfl⟩ := List.mem_map.1 hx
    have h1 := sum_mem (f := sI) hy
    rw [show sI y = y.f2.size + (sAL y.f3 + (y.f4.size + y.f6.length)) from rfl] at h1
    simp only [cI, List.length_map]
    unfold sAL at h1
    omega
theorem texts_small (l : List LIt) (hs : sIL l ≤ 1048576) {i : Int} (h0 : 0 ≤ i) (h1 : i < ((l.map cI).length : Int)) : (it (l.map cI) i).f2.size + (it (l.map cI) i).f4.size ≤ 1048576 := by
  unfold sIL at hs
  obtain ⟨y, hy, he⟩ := List.mem_map.1 (it_mem h0 h1)
  have h2 := sum_mem (f := sI) hy
  rw [show sI y = y.f2.size + (sAL y.f3 + (y.f4.size + y.f6.length)) from rfl] at h2
  rw [← he]
  show y.f2.size + y.f4.size ≤ _
  omega
theorem wordI_size (k : Int) : (wordI k).size ≤ 5 := by
  unfold wordI
  repeat' split
  all_goals decide
theorem nameB_small (n t : ByteArray) : (nameB n t).size ≤ n.size + t.size := by
  unfold nameB
  split <;> omega
theorem wordI_spec (k : Int) : spec_l22Kind.f k [(⟨#[112, 97, 103, 101]⟩ : ByteArray), (⟨#[116, 97, 103]⟩ : ByteArray), (⟨#[116, 101, 120, 116]⟩ : ByteArray), (⟨#[110, 111, 116, 101]⟩ : ByteArray), (⟨#[107, 105, 110, 100]⟩ : ByteArray)] = some (wordI k) := by
  unfold spec_l22Kind.f
  by_cases h1 : k < 1
  · rw [if_pos h1]; unfold wordI; rw [if_neg (by omega), if_neg (by omega), if_neg (by omega), if_neg (by omega), if_neg (by omega)]
  · rw [if_neg h1]
    by_cases h2 : k > 5
    · rw [if_pos (show k > (([(⟨#[112, 97, 103, 101]⟩ : ByteArray), (⟨#[116, 97, 103]⟩ : ByteArray), (⟨#[116, 101, 120, 116]⟩ : ByteArray), (⟨#[110, 111, 116, 101]⟩ : ByteArray), (⟨#[107, 105, 110, 100]⟩ : ByteArray)].length : Nat) : Int) from h2)]; unfold wordI; rw [if_neg (by omega), if_neg (by omega), if_neg (by omega), if_neg (by omega), if_neg (by omega)]
    · rw [if_neg (show ¬ k > (([(⟨#[112, 97, 103, 101]⟩ : ByteArray), (⟨#[116, 97, 103]⟩ : ByteArray), (⟨#[116, 101, 120, 116]⟩ : ByteArray), (⟨#[110, 111, 116, 101]⟩ : ByteArray), (⟨#[107, 105, 110, 100]⟩ : ByteArray)].length : Nat) : Int) from h2)]
      rcases (show k = 1 ∨ k = 2 ∨ k = 3 ∨ k = 4 ∨ k = 5 by omega) with rfl | rfl | rfl | rfl | rfl
      · rw [show wrap64 (1 - 1) = 0 by unfold wrap64; omega]; rfl
      · rw [show wrap64 (2 - 1) = 1 by unfold wrap64; omega]; rfl
      · rw [show wrap64 (3 - 1) = 2 by unfold wrap64; omega]; rfl
      · rw [show wrap64 (4 - 1) = 3 by unfold wrap64; omega]; rfl
      · rw [show wrap64 (5 - 1) = 4 by unfold wrap64; omega]; rfl
theorem lineI_app (a : List UInt8) (d : Nat) (k : Int) (n t : ByteArray) : ((((((⟨a.toArray⟩ : ByteArray) ++ blanksB d) ++ wordI k) ++ (⟨#[32]⟩ : ByteArray)) ++ nameB n t) ++ (⟨#[10]⟩ : ByteArray)) = ⟨(a ++ (lineI d k n t).data.toList).toArray⟩ := by
  unfold lineI
  refine ByteArray.ext ?_
  refine Array.ext' ?_
  simp [ByteArray.data_append, List.append_assoc]
theorem climb (L : List IIt) (hu0 : (it L 0).f5 = -1) (o : List Int) (hpb : PB L o) (ho : ∀ x ∈ o, (0 ≤ x ∧ x < (L.length : Int)) ∧ (x ≠ 0 → 0 ≤ (it L x).f5 ∧ (it L x).f5 < (L.length : Int))) (out : ByteArray) (j : Int) (f0 f1 : Int) (f2 : ByteArray) (f3 : List IAt) (f4 : ByteArray) (f5 : Int) (f6 : List Int) (t : ByteArray) {x : Int} {d : Nat} (h : Deep L x d) :
    x ∈ o → ∀ c : Nat, c + d ≤ 1048576 → Ev (fun k => spec_TreeText.l1 k L out o j ((c + d : Nat) : Int) (-1) f0 f1 f2 f3 f4 f5 f6) t → Ev (fun k => spec_TreeText.l1 k L out o j (c : Int) (it L x).f5 f0 f1 f2 f3 f4 f5 f6) t := by
  induction h with
  | root =>
    intro hx c hc he
    rw [hu0]
    exact he
  | @step x d h0 hd ih =>
    intro hx c hc he
    have hr := (ho x hx).2 h0
    have hw : wrap64 ((c : Int) + 1) = ((c + 1 : Nat) : Int) := by unfold wrap64; omega
    have ge : (it L x).f5 ≥ 0 := hr.1
    refine Ev.step (fun k => by simp only [spec_TreeText.l1]; rfl) (Ev.ifp ge (Ev.ifp hr.1 (Ev.ifp hr.2 ?_)))
    rw [hw]
    exact ih (up_mem hpb hx h0) (c + 1) (by omega) (by rw [show c + 1 + d = c + (d + 1) by omega]; exact he)
theorem trees_both (L : List IIt) (o dp : List Int) (hu0 : (it L 0).f5 = -1) (hL : L.length ≤ 3000) (hol : o.length ≤ L.length) (hdl : dp.length = L.length) (hpb : PB L o)
    (ho : ∀ x ∈ o, (0 ≤ x ∧ x < (L.length : Int)) ∧ (x ≠ 0 → 0 ≤ (it L x).f5 ∧ (it L x).f5 < (L.length : Int))) (hdp : ∀ x ∈ o, ∃ d, Deep L x d ∧ d ≤ o.length ∧ rd dp x = (d : Int) + 1)
    (ht : ∀ i, 0 ≤ i → i < (L.length : Int) → (it L i).f2.size + (it L i).f4.size ≤ 1048576) :
    ∀ (m : Nat) (j : Int) (out : List UInt8), 0 ≤ j → o.length - j.toNat = m → j ≤ (o.length : Int) → out.length + 1060000 * m ≤ 70368744177664 →
      ∃ t, Ev (fun k => spec_TreeText.l0 k L ⟨out.toArray⟩ o j) t ∧ trF L dp (o.drop j.toNat) out = some t := by
  intro m
  induction m with
  | zero =>
    intro j out h0 hm hj hb
    refine ⟨⟨out.toArray⟩, Ev.step (fun k => by simp only [spec_TreeText.l0]; rfl) (Ev.ifn (show ¬ j < (o.length : Int) by omega) (Ev.now _)), ?_⟩
    rw [List.drop_eq_nil_of_le (by omega), trF]
  | succ m ih =>
    intro j out h0 hm hj hb
    have hlt : j.toNat < o.length := by omega
    have hjl : j < (o.length : Int) := by omega
    have hw : wrap64 (j + 1) = j + 1 := by unfold wrap64; omega
    have hrd := rdInt o j hlt
    have hx := ho o[j.toNat] (List.getElem_mem hlt)
    have hxo : o[j.toNat] ∈ o := List.getElem_mem hlt
    obtain ⟨d, d1, d2, d3⟩ := hdp o[j.toNat] (List.getElem_mem hlt)
    rw [List.drop_eq_getElem_cons hlt]
    generalize o[j.toNat] = x at hrd hx hxo d1 d3
    obtain ⟨⟨x0, x1⟩, xu⟩ := hx
    have hts := ht x x0 x1
    have hwk := wordI_size (it L x).f0
    have hnb := nameB_small (it L x).f2 (it L x).f4
    have hls := lineI_size d (it L x).f0 (it L x).f2 (it L x).f4
    have hbl := blanksB_size d
    have hd3000 : d ≤ 3000 := by omega
    have hlen : (out ++ (lineI d (it L x).f0 (it L x).f2 (it L x).f4).data.toList).length = out.length + (lineI d (it L x).f0 (it L x).f2 (it L x).f4).size := by rw [List.length_append, data_length]
    obtain ⟨t, g1, g2⟩ := ih (j + 1) (out ++ (lineI d (it L x).f0 (it L x).f2 (it L x).f4).data.toList) (by omega) (by omega) (by omega) (by rw [hlen]; omega)
    rw [show (j + 1).toNat = j.toNat + 1 by omega] at g2
    have s1 : (⟨out.toArray⟩ : ByteArray).size + (blanksB d).size ≤ 9223372036854775807 := by rw [ty_size out]; omega
    have s2 : ((⟨out.toArray⟩ : ByteArray) ++ blanksB d).size + (wordI (it L x).f0).size ≤ 9223372036854775807 := by rw [ByteArray.size_append, ty_size out]; omega
    have s3 : (((⟨out.toArray⟩ : ByteArray) ++ blanksB d) ++ wordI (it L x).f0).size + 1 ≤ 9223372036854775807 := by rw [ByteArray.size_append, ByteArray.size_append, ty_size out]; omega
    have e32 : (⟨#[32]⟩ : ByteArray).size = 1 := rfl
    have s4 : ((((⟨out.toArray⟩ : ByteArray) ++ blanksB d) ++ wordI (it L x).f0) ++ (⟨#[32]⟩ : ByteArray)).size + (nameB (it L x).f2 (it L x).f4).size ≤ 9223372036854775807 := by rw [ByteArray.size_append, ByteArray.size_append, ByteArray.size_append, ty_size out, e32]; omega
    have s5 : (((((⟨out.toArray⟩ : ByteArray) ++ blanksB d) ++ wordI (it L x).f0) ++ (⟨#[32]⟩ : ByteArray)) ++ nameB (it L x).f2 (it L x).f4).size + 1 ≤ 9223372036854775807 := by rw [ByteArray.size_append, ByteArray.size_append, ByteArray.size_append, ByteArray.size_append, ty_size out, e32]; omega
    have rest : Ev (fun k => spec_TreeText.l1 k L ⟨out.toArray⟩ o j (((0 + d : Nat)) : Int) (-1) (it L x).f0 (it L x).f1 (it L x).f2 (it L x).f3 (it L x).f4 (it L x).f5 (it L x).f6) t := by
      rw [Nat.zero_add]
      have hneg : ¬ ((-1 : Int) ≥ 0) := by omega
      refine Ev.step (fun k => by simp only [spec_TreeText.l1]; rfl) (Ev.ifn hneg ?_)
      refine Ev.bind (Ev.of (fun k => spec_l22Blanks.mono _ k) (blanks_ex d (by omega))) (Ev.ifp s1 (Ev.bindc (wordI_spec _) (Ev.ifp s2 (Ev.ifp s3 (Ev.bindc (nameB_spec _ _) (Ev.ifp s4 (Ev.ifp s5 ?_)))))))
      rw [lineI_app, hw]
      exact g1
    refine ⟨t, ?_, ?_⟩
    · refine Ev.step (fun k => by simp only [spec_TreeText.l0]; rfl) (Ev.ifp hjl (Ev.ifp h0 ?_))
      rw [hrd]
      refine Ev.ifp x0 (Ev.ifp x1 ?_)
      have := climb L hu0 o hpb ho ⟨out.toArray⟩ j (it L x).f0 (it L x).f1 (it L x).f2 (it L x).f3 (it L x).f4 (it L x).f5 (it L x).f6 t d1 hxo 0 (by omega) rest
      exact this
    · rw [trF, if_pos ⟨⟨⟨x0, x1⟩, by omega⟩, by omega, by omega⟩, d3, show ((d : Int) + 1 - 1).toNat = d by omega, show rd_T89 L x = it L x from rfl, if_pos (by omega)]
      exact g2
theorem TreeText_pure (l : List LIt) (hl : l.length ≤ 9223372036854775807) (hf : ∀ e ∈ l, fitI e) : ∃ k, laws_FnExactTreeText.f k l = some true := by
  refine Ev.rounds ?_
  unfold laws_FnExactTreeText.f
  refine Ev.bind (ev_szItemS l hl hf 1048576 (by omega) (by omega)) ?_
  by_cases hs : ((sIL l : Nat) : Int) ≤ 1048576
  · have hs' : sIL l ≤ 1048576 := by omega
    have t := ev_toItemS l hs'
    have hS := Sm_of' l hs'
    have fin : ∃ r, Ev (fun k => spec_TreeText.f k (l.map cI)) r ∧ Ev (fun k => impl_TreeText.f k (l.map cI)) r := by
      rcases Tree_both (l.map cI) hS with ⟨e1, e2⟩ | ⟨e1, e2, hL, hu0, o, ho, hol, hpb, e3, e4⟩
      · refine ⟨⟨#[]⟩, ?_, ?_⟩
        · unfold spec_TreeText.f spec_Order.f
          refine Ev.bind (a := []) (Ev.bind e1 (Ev.ifn (by simp) (Ev.now _))) ?_
          exact Ev.step (fun k => by simp only [spec_TreeText.l0]; rfl) (Ev.ifn (by simp) (Ev.now _))
        · unfold impl_TreeText.f
          exact Ev.bind e2 (Ev.ifn (by simp) (Ev.now _))
      · obtain ⟨dp, k1, k2, k3⟩ := depths_f (l.map cI) o ho hpb (by omega) hL e4
        obtain ⟨r, g1, g2⟩ := trees_both (l.map cI) o dp hu0 hL hol k1 hpb ho k2 (fun i h0 h1 => texts_small l hs' h0 h1) o.length 0 [] (by omega) (by simp) (by omega) (by simp; omega)
        refine ⟨r, ?_, ?_⟩
        · unfold spec_TreeText.f spec_Order.f
          exact Ev.bind (a := o) (Ev.bind e1 (Ev.ifp rfl (Ev.bind e3 (Ev.now _)))) g1
        · unfold impl_TreeText.f
          refine Ev.bind e2 (Ev.ifp rfl (Ev.bind k3 (Ev.bind e4 ?_)))
          rw [Int.toNat_zero, List.drop_zero] at g2
          rw [g2]
          exact Ev.now _
    obtain ⟨r, g1, g2⟩ := fin
    exact Ev.ifn (by rw [res_neg (by omega)]; omega) (Ev.bind t (Ev.bind g1 (Ev.bind t (Ev.bind g2 (Ev.ifp rfl (Ev.bind t (Ev.bind (ev_eqItemS l hs') (Ev.ifp rfl (Ev.now _)))))))))
  · exact Ev.ifp (by rw [res_neg (by omega)]; exact hs) (Ev.now _)
end Go.Proofs.Ytlocaaebgghkbaa.A
namespace Go.Proofs.Ytlocaaebgghkbaa.A
open Go.RowKit Go.Proofs.YtlocaaebgghkbaaW.PrintWords Go.Proofs.YtlocaaebgghkbaaW.PrintLast Go.Proofs.YtlocaaebgghkbaaW.PrintMore
set_option linter.unusedVariables false
def Opens (P : Program) (n : Nat) (t : TypeId) {α : Type} (d : Kd α) (F : α → Prop) : Prop :=
  ∀ (H : Type) (enc : TypeId × Value → H) (w : World) (base : Nat) (spare : Nat → Bool) (held : Bool) (fuel : Nat) (cs : List Value) (x : DataW H × List MemPlace),
    fuel ≤ n → DataW.trod enc P w base spare held fuel t cs = some x → ∃ y, d.K w y cs ∧ F y
theorem Opens.int {P : Program} {t : TypeId} {k : IntKind} (n : Nat) (ht : P.underlying t = some (.int k)) : Opens P n t (Kd.int k) (fun x => (Lit.int k x).wf = true) := by
  intro H enc w base spare held fuel cs x _ h
  obtain ⟨m, rfl, _, hw⟩ := DataW.trod_int ht h
  exact ⟨m, rfl, hw⟩
theorem Opens.bool {P : Program} {t : TypeId} (n : Nat) (ht : P.underlying t = some .bool) : Opens P n t Kd.bool (fun _ => True) := by
  intro H enc w base spare held fuel cs x _ h
  obtain ⟨m, rfl, _⟩ := DataW.trod_bool ht h
  exact ⟨m, rfl, trivial⟩
theorem Opens.string {P : Program} {t : TypeId} (n : Nat) (ht : P.underlying t = some .string) : Opens P n t Kd.string (fun s => s.size ≤ 9223372036854775807) := by
  intro H enc w base spare held fuel cs x _ h
  obtain ⟨s, rfl, _, hs⟩ := DataW.trod_string ht h
  exact ⟨s, rfl, hs⟩
theorem Opens.slice {P : Program} {t e : TypeId} {α : Type} {d : Kd α} {F : α → Prop} {n : Nat} (e' : Nat) (ht : P.underlying t = some (.slice e)) (hC : P.cellsOf e = d.sz) (h : Opens P n e d F) :
    Opens P n t (Kd.slice e' d) (fun l => l.length ≤ 9223372036854775807 ∧ ∀ y ∈ l, F y) := by
  intro H enc w base spare held fuel cs x hn hx
  rcases DataW.trod_slice ht hx with ⟨rfl, _⟩ | ⟨a, len, cap, elems, rest, m, rfl, rfl, _, _, hl, hm, hel, hi, _, _⟩
  · exact ⟨[], ⟨none, 0, rfl, Nat.le_refl _, Kd.C_nil _ _⟩, by simp, by simp⟩
  · have each : ∀ i : Fin len, ∃ y : α, F y ∧ ∃ c, c.length = d.sz ∧ d.K w y c ∧ ∀ j u, c[j]? = some u → w.cell? (a.add (i.1 * d.sz + j)) = some u := by
      intro i
      have h1 := hi i.1 i.2
      have h2 : elems[i.1]? = some elems[i.1] := List.getElem?_eq_getElem (by omega)
      rw [h2] at h1
      obtain ⟨c, hc, hd⟩ := Option.bind_eq_some_iff.1 h1
      obtain ⟨_, hcl, hat⟩ := World.cells?_some hc
      obtain ⟨y, hK, hF⟩ := h H enc w base spare held m c _ (by omega) hd
      refine ⟨y, hF, c, by rw [hcl, hC], hK, fun j u hu => ?_⟩
      have hj : j < P.cellsOf e := by rw [← hcl]; exact (List.getElem?_eq_some_iff.1 hu).1
      have := hat j hj
      rw [hu, Go.Deep.add_add, hC] at this
      exact this
    have hlen : len ≤ 9223372036854775807 := Nat.le_trans hl hm
    refine ⟨List.ofFn fun i => Classical.choose (each i), ⟨some a, cap, by rw [List.length_ofFn], by rw [List.length_ofFn]; exact hl, ?_⟩, by rw [List.length_ofFn]; exact hlen, ?_⟩
    · refine ⟨rfl, by rw [List.length_ofFn]; exact hlen, fun _ => ⟨a, rfl, fun j p hp => ?_⟩⟩
      obtain ⟨hj, hp⟩ := List.getElem?_eq_some_iff.1 hp
      rw [List.length_ofFn] at hj
      rw [List.getElem_ofFn] at hp
      obtain ⟨_, c, h1, h2, h3⟩ := Classical.choose_spec (each ⟨j, hj⟩)
      rw [hp] at h2
      exact ⟨c, h1, h2, h3⟩
    · intro y hy
      obtain ⟨i, rfl⟩ := List.mem_ofFn.1 hy
      exact (Classical.choose_spec (each i)).1
end Go.Proofs.Ytlocaaebgghkbaa.A
namespace Go.Proofs.Ytlocaaebgghkbaa.A
open Go.RowKit Go.Proofs.YtlocaaebgghkbaaW.PrintWords Go.Proofs.YtlocaaebgghkbaaW.PrintLast Go.Proofs.YtlocaaebgghkbaaW.PrintMore
set_option linter.unusedVariables false
set_option maxRecDepth 100000 in
theorem opensAttr : ∀ n, Opens Try.prog n 136 k136 (fun x => x.f0.size ≤ 9223372036854775807 ∧ x.f1.size ≤ 9223372036854775807)
  | n => fun H enc w base spare held fuel cs x hn hx => by
    obtain ⟨xs, m, rfl, rfl, hcl, hxl, hf⟩ := DataW.trod_struct Try.underlying136 hx
    have hc : cs.length = 2 := hcl.trans (by kernel_rfl)
    have hxl' : xs.length = 2 := hxl
    match cs, hc with
    | [c0, c1], _ =>
    have g0 : DataW.trod enc Try.prog w base spare held m 9 [c0] = xs[0]? := by
      have h_ : DataW.trod enc Try.prog w base spare held m 9 (([c0, c1].drop 0).take (Try.prog.cellsOf 9)) = xs[0]? := hf 0 _ rfl
      rwa [show Try.prog.cellsOf 9 = 1 by kernel_rfl] at h_
    rw [List.getElem?_eq_getElem (by omega)] at g0
    have g1 : DataW.trod enc Try.prog w base spare held m 9 [c1] = xs[1]? := by
      have h_ : DataW.trod enc Try.prog w base spare held m 9 (([c0, c1].drop 1).take (Try.prog.cellsOf 9)) = xs[1]? := hf 1 _ rfl
      rwa [show Try.prog.cellsOf 9 = 1 by kernel_rfl] at h_
    rw [List.getElem?_eq_getElem (by omega)] at g1
    obtain ⟨y0, K0, F0⟩ := (Opens.string m Try.underlying9) H enc w base spare held m _ _ (Nat.le_refl _) g0
    obtain rfl := (List.cons.inj K0).1
    obtain ⟨y1, K1, F1⟩ := (Opens.string m Try.underlying9) H enc w base spare held m _ _ (Nat.le_refl _) g1
    obtain rfl := (List.cons.inj K1).1
    exact ⟨⟨y0, y1⟩, k136_mk w ⟨y0, y1⟩, F0, F1⟩
set_option maxRecDepth 100000 in
theorem opensItem : ∀ n, Opens Try.prog n 86 k86 (fun x => fitI x)
  | n => fun H enc w base spare held fuel cs x hn hx => by
    obtain ⟨xs, m, rfl, rfl, hcl, hxl, hf⟩ := DataW.trod_struct Try.underlying86 hx
    have hc : cs.length = 7 := hcl.trans (by kernel_rfl)
    have hxl' : xs.length = 7 := hxl
    match cs, hc with
    | [c0, c1, c2, c3, c4, c5, c6], _ =>
    have g0 : DataW.trod enc Try.prog w base spare held m 3 [c0] = xs[0]? := by
      have h_ : DataW.trod enc Try.prog w base spare held m 3 (([c0, c1, c2, c3, c4, c5, c6].drop 0).take (Try.prog.cellsOf 3)) = xs[0]? := hf 0 _ rfl
      rwa [show Try.prog.cellsOf 3 = 1 by kernel_rfl] at h_
    rw [List.getElem?_eq_getElem (by omega)] at g0
    have g1 : DataW.trod enc Try.prog w base spare held m 3 [c1] = xs[1]? := by
      have h_ : DataW.trod enc Try.prog w base spare held m 3 (([c0, c1, c2, c3, c4, c5, c6].drop 1).take (Try.prog.cellsOf 3)) = xs[1]? := hf 1 _ rfl
      rwa [show Try.prog.cellsOf 3 = 1 by kernel_rfl] at h_
    rw [List.getElem?_eq_getElem (by omega)] at g1
    have g2 : DataW.trod enc Try.prog w base spare held m 9 [c2] = xs[2]? := by
      have h_ : DataW.trod enc Try.prog w base spare held m 9 (([c0, c1, c2, c3, c4, c5, c6].drop 2).take (Try.prog.cellsOf 9)) = xs[2]? := hf 2 _ rfl
      rwa [show Try.prog.cellsOf 9 = 1 by kernel_rfl] at h_
    rw [List.getElem?_eq_getElem (by omega)] at g2
    have g3 : DataW.trod enc Try.prog w base spare held m 64 [c3] = xs[3]? := by
      have h_ : DataW.trod enc Try.prog w base spare held m 64 (([c0, c1, c2, c3, c4, c5, c6].drop 3).take (Try.prog.cellsOf 64)) = xs[3]? := hf 3 _ rfl
      rwa [show Try.prog.cellsOf 64 = 1 by kernel_rfl] at h_
    rw [List.getElem?_eq_getElem (by omega)] at g3
    have g4 : DataW.trod enc Try.prog w base spare held m 9 [c4] = xs[4]? := by
      have h_ : DataW.trod enc Try.prog w base spare held m 9 (([c0, c1, c2, c3, c4, c5, c6].drop 4).take (Try.prog.cellsOf 9)) = xs[4]? := hf 4 _ rfl
      rwa [show Try.prog.cellsOf 9 = 1 by kernel_rfl] at h_
    rw [List.getElem?_eq_getElem (by omega)] at g4
    have g5 : DataW.trod enc Try.prog w base spare held m 3 [c5] = xs[5]? := by
      have h_ : DataW.trod enc Try.prog w base spare held m 3 (([c0, c1, c2, c3, c4, c5, c6].drop 5).take (Try.prog.cellsOf 3)) = xs[5]? := hf 5 _ rfl
      rwa [show Try.prog.cellsOf 3 = 1 by kernel_rfl] at h_
    rw [List.getElem?_eq_getElem (by omega)] at g5
    have g6 : DataW.trod enc Try.prog w base spare held m 84 [c6] = xs[6]? := by
      have h_ : DataW.trod enc Try.prog w base spare held m 84 (([c0, c1, c2, c3, c4, c5, c6].drop 6).take (Try.prog.cellsOf 84)) = xs[6]? := hf 6 _ rfl
      rwa [show Try.prog.cellsOf 84 = 1 by kernel_rfl] at h_
    rw [List.getElem?_eq_getElem (by omega)] at g6
    obtain ⟨y0, K0, F0⟩ := (Opens.int m Try.underlying3 (k := .i64)) H enc w base spare held m _ _ (Nat.le_refl _) g0
    obtain rfl := (List.cons.inj K0).1
    obtain ⟨y1, K1, F1⟩ := (Opens.int m Try.underlying3 (k := .i64)) H enc w base spare held m _ _ (Nat.le_refl _) g1
    obtain rfl := (List.cons.inj K1).1
    obtain ⟨y2, K2, F2⟩ := (Opens.string m Try.underlying9) H enc w base spare held m _ _ (Nat.le_refl _) g2
    obtain rfl := (List.cons.inj K2).1
    obtain ⟨y3, K3, F3⟩ := (Opens.slice 136 Try.underlying64 (by kernel_rfl) (opensAttr m)) H enc w base spare held m _ _ (Nat.le_refl _) g3
    obtain ⟨A3, b3, K3, l3, r3⟩ := K3
    obtain rfl := (List.cons.inj K3).1
    obtain ⟨y4, K4, F4⟩ := (Opens.string m Try.underlying9) H enc w base spare held m _ _ (Nat.le_refl _) g4
    obtain rfl := (List.cons.inj K4).1
    obtain ⟨y5, K5, F5⟩ := (Opens.int m Try.underlying3 (k := .i64)) H enc w base spare held m _ _ (Nat.le_refl _) g5
    obtain rfl := (List.cons.inj K5).1
    obtain ⟨y6, K6, F6⟩ := (Opens.slice 3 Try.underlying84 (by kernel_rfl) (Opens.int (k := .i64) m Try.underlying3)) H enc w base spare held m _ _ (Nat.le_refl _) g6
    obtain ⟨A6, b6, K6, l6, r6⟩ := K6
    obtain rfl := (List.cons.inj K6).1
    exact ⟨⟨y0, y1, y2, y3, y4, y5, y6⟩, k86_mk w ⟨y0, y1, y2, y3, y4, y5, y6⟩ l3 r3 l6 r6, F2, ⟨F3.1, F3.2⟩, F4, F6.1⟩
end Go.Proofs.Ytlocaaebgghkbaa.A
