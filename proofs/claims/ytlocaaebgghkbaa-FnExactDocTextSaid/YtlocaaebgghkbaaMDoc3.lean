-- joined by wip/tools/merge.py
import Derived.Test.YtlocaaebgghkbaaK
import Derived.Test.YtlocaaebgghkbaaMDoc0
import Derived.Test.YtlocaaebgghkbaaMDoc1
import Derived.Test.YtlocaaebgghkbaaMDoc2
import Derived.ChangeArms
import Derived.Deep.Slices
/- Small laws on what is so from some number of rounds on. -/
namespace Go.Proofs.Ytlocaaebgghkbaa.A
open Go.RowKit Go.Proofs.YtlocaaebgghkbaaW.PrintWords Go.Proofs.YtlocaaebgghkbaaW.PrintLast Go.Proofs.YtlocaaebgghkbaaW.PrintMore
set_option linter.unusedVariables false

theorem Ev.ifp {α : Type} {c : Prop} [Decidable c] {f g : Nat → Option α} {r : α} (hc : c) (h : Ev f r) : Ev (fun k => if c then f k else g k) r := Ev.congr (fun k => if_pos hc) h
theorem Ev.ifn {α : Type} {c : Prop} [Decidable c] {f g : Nat → Option α} {r : α} (hc : ¬ c) (h : Ev g r) : Ev (fun k => if c then f k else g k) r := Ev.congr (fun k => if_neg hc) h
theorem Ev.bindc {α β : Type} {x : Option α} {a : α} {f : Nat → α → Option β} {r : β} (hx : x = some a) (h : Ev (fun n => f n a) r) : Ev (fun n => x.bind (f n)) r := Ev.congr (fun k => by rw [hx, Option.bind_some]) h
theorem Ev.up {α : Type} {f : Nat → Option α} {r : α} (m : Nat) (h : ∀ k, f (k + m) = some r) : Ev f r := ⟨m, fun k hk => by have := h (k - m); rwa [Nat.sub_add_cancel hk] at this⟩

/-- what is left of a room behind so much; -1: there is too little -/
def res (s : Nat) (x : Int) : Int := if (s : Int) ≤ x then x - s else -1
theorem res_neg {s : Nat} {x : Int} (h0 : 0 ≤ x) : res s x < 0 ↔ ¬ (s : Int) ≤ x := by
  unfold res
  split <;> omega
theorem res_add {s t : Nat} {x : Int} (h : (s : Int) ≤ x) : res t (x - s) = res (s + t) x := by
  unfold res
  by_cases h1 : (t : Int) ≤ x - s
  · rw [if_pos h1, if_pos (by omega)]; omega
  · rw [if_neg h1, if_neg (by omega)]
theorem res_less {s t : Nat} {x : Int} (h : ¬ (s : Int) ≤ x) : res (s + t) x = -1 := by
  unfold res
  rw [if_neg (by omega)]
/-- A loop that takes the sizes of a row's elements from a room. -/
theorem loopRes {α : Type} (L0 : Nat → List α → Int → Int → Option Int) (rdf : List α → Int → α) (s : α → Nat) (g : Nat → α → Int → Option Int)
    (hstep : ∀ k l x j, L0 (k + 1) l x j = if j < (l.length : Int) then (if 0 ≤ j then ((g k (rdf l j) x).bind fun t => if t < 0 then some (-1) else L0 k l t (wrap64 (j + 1))) else none) else some x)
    (hrd : ∀ (l : List α) (j : Int) (h : j.toNat < l.length), rdf l j = l[j.toNat])
    (l : List α) (hlen : l.length ≤ 9223372036854775807) (B : Int) (hg : ∀ e ∈ l, ∀ x, 0 ≤ x → x ≤ B → Ev (fun k => g k e x) (res (s e) x)) :
    ∀ (d : Nat) (j x : Int), 0 ≤ j → l.length - j.toNat = d → j ≤ (l.length : Int) → 0 ≤ x → x ≤ B → Ev (fun k => L0 k l x j) (res ((l.drop j.toNat).map s).sum x) := by
  intro d
  induction d with
  | zero =>
    intro j x h0 hd hj hx hB
    refine Ev.step (fun k => by simp only [hstep]; rfl) (Ev.ifn (show ¬ j < (l.length : Int) by omega) ?_)
    rw [List.drop_eq_nil_of_le (by omega)]
    simp [res, hx]
    exact Ev.now _
  | succ d ih =>
    intro j x h0 hd hj hx hB
    have hlt : j.toNat < l.length := by omega
    have hw : wrap64 (j + 1) = j + 1 := by unfold wrap64; omega
    refine Ev.step (fun k => by simp only [hstep]; rfl) (Ev.ifp (show j < (l.length : Int) by omega) (Ev.ifp h0 ?_))
    rw [hrd l j hlt, List.drop_eq_getElem_cons hlt, List.map_cons, List.sum_cons]
    refine Ev.bind (hg _ (List.getElem_mem hlt) x hx hB) ?_
    by_cases hs : ((s l[j.toNat] : Nat) : Int) ≤ x
    · refine Ev.ifn (by rw [res_neg hx]; omega) ?_
      rw [hw, show res (s l[j.toNat]) x = x - (s l[j.toNat] : Nat) by unfold res; rw [if_pos hs]]
      have := ih (j + 1) (x - (s l[j.toNat] : Nat)) (by omega) (by omega) (by omega) (by omega) (by omega)
      rw [show (j + 1).toNat = j.toNat + 1 by omega, res_add hs] at this
      exact this
    · refine Ev.ifp (by rw [res_neg hx]; exact hs) ?_
      rw [res_less hs]
      exact Ev.now _
/-- A loop that copies a row's elements into a row as long. -/
theorem loopTo {α β γ : Type} (L0 : Nat → List α → List β → Int → Option (List β)) (rdf : List α → Int → α) (c : α → β) (g : Nat → α → Option γ) (gv : α → γ) (mk : γ → β)
    (hstep : ∀ k l m j, L0 (k + 1) l m j = if j < (l.length : Int) then (if 0 ≤ j then ((g k (rdf l j)).bind fun t => if j < (m.length : Int) then L0 k l (m.set j.toNat (mk t)) (wrap64 (j + 1)) else none) else none) else some m)
    (hrd : ∀ (l : List α) (j : Int) (h : j.toNat < l.length), rdf l j = l[j.toNat])
    (l : List α) (hlen : l.length ≤ 9223372036854775807) (hg : ∀ e ∈ l, Ev (fun k => g k e) (gv e)) (hc : ∀ e ∈ l, mk (gv e) = c e) :
    ∀ (d : Nat) (j : Int) (m : List β), 0 ≤ j → l.length - j.toNat = d → j ≤ (l.length : Int) → m.length = l.length → m.take j.toNat = (l.take j.toNat).map c → Ev (fun k => L0 k l m j) (l.map c) := by
  intro d
  induction d with
  | zero =>
    intro j m h0 hd hj hm ht
    refine Ev.step (fun k => by simp only [hstep]; rfl) (Ev.ifn (show ¬ j < (l.length : Int) by omega) ?_)
    rw [List.take_of_length_le (by omega), List.take_of_length_le (by omega)] at ht
    rw [ht]
    exact Ev.now _
  | succ d ih =>
    intro j m h0 hd hj hm ht
    have hlt : j.toNat < l.length := by omega
    have hw : wrap64 (j + 1) = j + 1 := by unfold wrap64; omega
    refine Ev.step (fun k => by simp only [hstep]; rfl) (Ev.ifp (show j < (l.length : Int) by omega) (Ev.ifp h0 ?_))
    rw [hrd l j hlt]
    refine Ev.bind (hg _ (List.getElem_mem hlt)) (Ev.ifp (show j < (m.length : Int) by omega) ?_)
    rw [hw, hc _ (List.getElem_mem hlt)]
    refine ih (j + 1) _ (by omega) (by omega) (by omega) (by simpa using hm) ?_
    rw [show (j + 1).toNat = j.toNat + 1 by omega, List.take_succ_eq_append_getElem (by simpa [hm] using hlt), List.take_succ_eq_append_getElem hlt, List.map_append, ← ht, List.take_set_of_le (Nat.le_refl _)]
    simp
/-- A loop that holds a row's elements against their likes. -/
theorem loopEq {α : Type} (L0 : Nat → List α → List α → Int → Option Bool) (rdf : List α → Int → α) (g : Nat → α → α → Option Bool)
    (hstep : ∀ k l m j, L0 (k + 1) l m j = if j < (l.length : Int) then (if 0 ≤ j then (if j < (m.length : Int) then ((g k (rdf l j) (rdf m j)).bind fun t => if t = true then L0 k l m (wrap64 (j + 1)) else some false) else none) else none) else some true)
    (hrd : ∀ (l : List α) (j : Int) (h : j.toNat < l.length), rdf l j = l[j.toNat])
    (l : List α) (hlen : l.length ≤ 9223372036854775807) (hg : ∀ e ∈ l, Ev (fun k => g k e e) true) :
    ∀ (d : Nat) (j : Int), 0 ≤ j → l.length - j.toNat = d → j ≤ (l.length : Int) → Ev (fun k => L0 k l l j) true := by
  intro d
  induction d with
  | zero =>
    intro j h0 hd hj
    exact Ev.step (fun k => by simp only [hstep]; rfl) (Ev.ifn (show ¬ j < (l.length : Int) by omega) (Ev.now _))
  | succ d ih =>
    intro j h0 hd hj
    have hlt : j.toNat < l.length := by omega
    have hw : wrap64 (j + 1) = j + 1 := by unfold wrap64; omega
    refine Ev.step (fun k => by simp only [hstep]; rfl) (Ev.ifp (show j < (l.length : Int) by omega) (Ev.ifp h0 (Ev.ifp (show j < (l.length : Int) by omega) ?_)))
    rw [hrd l j hlt]
    refine Ev.bind (hg _ (List.getElem_mem hlt)) (Ev.ifp rfl ?_)
    rw [hw]
    exact ih (j + 1) (by omega) (by omega) (by omega)
end Go.Proofs.Ytlocaaebgghkbaa.A

/- Rows of attributes: their size, their copy, that they are like themselves. -/
namespace Go.Proofs.Ytlocaaebgghkbaa.A
open Go.RowKit Go.Proofs.YtlocaaebgghkbaaW.PrintWords Go.Proofs.YtlocaaebgghkbaaW.PrintLast Go.Proofs.YtlocaaebgghkbaaW.PrintMore
set_option linter.unusedVariables false

abbrev LAt := S136
abbrev IAt := S53
theorem rdLAt (l : List LAt) (j : Int) (h : j.toNat < l.length) : rd_T136 l j = l[j.toNat] := by
  unfold rd_T136; rw [List.getD_eq_getElem?_getD, List.getElem?_eq_getElem h]; rfl
theorem rdIAt (l : List IAt) (j : Int) (h : j.toNat < l.length) : rd_T53 l j = l[j.toNat] := by
  unfold rd_T53; rw [List.getD_eq_getElem?_getD, List.getElem?_eq_getElem h]; rfl
def cA (a : LAt) : IAt := ⟨a.f0, a.f1⟩
def sA (a : LAt) : Nat := a.f0.size + a.f1.size
def sAL (l : List LAt) : Nat := l.length + (l.map sA).sum
/-- what a row of attributes is by its reading: no length beyond an int's -/
def fitA (l : List LAt) : Prop := l.length ≤ 9223372036854775807 ∧ ∀ a ∈ l, a.f0.size ≤ 9223372036854775807 ∧ a.f1.size ≤ 9223372036854775807
theorem szAttr_f (a : LAt) (h0 : a.f0.size ≤ 9223372036854775807) (h1 : a.f1.size ≤ 9223372036854775807) (x : Int) (hx : 0 ≤ x) (hB : x ≤ 1048576) : laws_szAttr.f a.f0 a.f1 x = some (res (sA a) x) := by
  unfold laws_szAttr.f
  have w1 : wrap64 (x - (a.f0.size : Int)) = x - a.f0.size := by unfold wrap64; omega
  rw [w1]
  by_cases c : x - (a.f0.size : Int) < 0
  · rw [if_pos c]; unfold res sA; rw [if_neg (by omega)]
  · rw [if_neg c]
    have w2 : wrap64 (x - (a.f0.size : Int) - (a.f1.size : Int)) = x - a.f0.size - a.f1.size := by unfold wrap64; omega
    rw [w2]
    by_cases c2 : x - (a.f0.size : Int) - (a.f1.size : Int) < 0
    · rw [if_pos c2]; unfold res sA; rw [if_neg (by omega)]
    · rw [if_neg c2]; unfold res sA; rw [if_pos (by omega)]; congr 1; omega
theorem ev_szAttrS (l : List LAt) (hf : fitA l) (x : Int) (hx : 0 ≤ x) (hB : x ≤ 1048576) : Ev (fun k => laws_szAttrS.f k l x) (res (sAL l) x) := by
  have hl := hf.1
  unfold laws_szAttrS.f
  have w1 : wrap64 (x - (l.length : Int)) = x - l.length := by unfold wrap64; omega
  rw [w1]
  by_cases c : x - (l.length : Int) < 0
  · refine Ev.ifp c ?_
    unfold sAL
    rw [res_less (by omega)]
    exact Ev.now _
  · refine Ev.ifn c ?_
    have := loopRes (fun k l x j => laws_szAttrS.l0 k l x j) rd_T136 sA (fun _ a x => laws_szAttr.f a.f0 a.f1 x) (fun k l x j => by simp only [laws_szAttrS.l0]) rdLAt l hf.1 1048576
      (fun e he x hx hB => Ev.congr (fun _ => szAttr_f e (hf.2 e he).1 (hf.2 e he).2 x hx hB) (Ev.now _)) l.length 0 (x - l.length) (by omega) (by simp) (by omega) (by omega) (by omega)
    rw [Int.toNat_zero, List.drop_zero, res_add (by omega)] at this
    exact this
theorem ev_toAttrS (l : List LAt) (hl : l.length ≤ 1048576) : Ev (fun k => laws_toAttrS.f k l) (l.map cA) := by
  unfold laws_toAttrS.f
  refine Ev.ifp (by omega) (Ev.ifp (by omega) ?_)
  exact loopTo (fun k l m j => laws_toAttrS.l0 k l m j) rd_T136 cA (fun _ a => laws_toAttr.f a.f0 a.f1) (fun a => (a.f0, a.f1)) (fun t => ⟨t.1, t.2⟩) (fun k l m j => by simp only [laws_toAttrS.l0]) rdLAt l (by omega)
    (fun e _ => Ev.congr (fun _ => rfl) (Ev.now _)) (fun e _ => rfl) l.length 0 _ (by omega) (by simp) (by omega) (by simp) (by simp)
theorem ev_eqAttrS' (l : List IAt) (hl : l.length ≤ 9223372036854775807) : Ev (fun k => laws_eqAttrS.f k l l) true := by
  unfold laws_eqAttrS.f
  refine Ev.ifp rfl ?_
  exact loopEq (fun k l m j => laws_eqAttrS.l0 k l m j) rd_T53 (fun _ a b => laws_eqAttr.f a.f0 a.f1 b.f0 b.f1) (fun k l m j => by simp only [laws_eqAttrS.l0]) rdIAt l hl
    (fun e _ => Ev.congr (fun _ => by unfold laws_eqAttr.f; rw [if_pos rfl, if_pos rfl]) (Ev.now _)) l.length 0 (by omega) (by simp) (by omega)
end Go.Proofs.Ytlocaaebgghkbaa.A

/- Elements: their size, their copy, that they are like themselves; their words as the reference tells them. -/
namespace Go.Proofs.Ytlocaaebgghkbaa.A
open Go.RowKit Go.Proofs.YtlocaaebgghkbaaW.PrintWords Go.Proofs.YtlocaaebgghkbaaW.PrintLast Go.Proofs.YtlocaaebgghkbaaW.PrintMore
set_option linter.unusedVariables false

abbrev LEl := S66
abbrev IEl := S68
theorem rdLEl (l : List LEl) (j : Int) (h : j.toNat < l.length) : rd_T66 l j = l[j.toNat] := by
  unfold rd_T66; rw [List.getD_eq_getElem?_getD, List.getElem?_eq_getElem h]; rfl
theorem rdIEl (l : List IEl) (j : Int) (h : j.toNat < l.length) : rd_T68 l j = l[j.toNat] := by
  unfold rd_T68; rw [List.getD_eq_getElem?_getD, List.getElem?_eq_getElem h]; rfl
mutual
def cE : LEl → IEl
  | ⟨a, b, n, at_, t, ks⟩ => ⟨a, b, n, at_.map cA, t, cL ks⟩
def cL : List LEl → List IEl
  | [] => []
  | e :: es => cE e :: cL es
end
theorem cL_map : ∀ l, cL l = l.map cE
  | [] => by simp [cL]
  | e :: es => by simp [cL, cL_map es]
mutual
def sE : LEl → Nat
  | ⟨_, _, n, at_, t, ks⟩ => n.size + (sAL at_ + (t.size + (ks.length + sR ks)))
def sR : List LEl → Nat
  | [] => 0
  | e :: es => sE e + sR es
end
theorem sR_sum : ∀ l, sR l = (l.map sE).sum
  | [] => by simp [sR]
  | e :: es => by simp [sR, sR_sum es]
mutual
/-- what elements are by their reading: no length beyond an int's -/
def fitE : LEl → Prop
  | ⟨_, _, n, at_, t, ks⟩ => n.size ≤ 9223372036854775807 ∧ fitA at_ ∧ t.size ≤ 9223372036854775807 ∧ ks.length ≤ 9223372036854775807 ∧ fitR ks
def fitR : List LEl → Prop
  | [] => True
  | e :: es => fitE e ∧ fitR es
end
theorem fitR_all : ∀ l, fitR l ↔ ∀ e ∈ l, fitE e
  | [] => by simp [fitR]
  | e :: es => by simp [fitR, fitR_all es]
theorem El_less {l : List LEl} {e : LEl} (h : e ∈ l) : SizeOf.sizeOf e < SizeOf.sizeOf l := List.sizeOf_lt_of_mem h
theorem wrap_less {x : Int} {n : Nat} (hx : 0 ≤ x) (hB : x ≤ 1048576) (hn : n ≤ 9223372036854775807) : wrap64 (x - (n : Int)) = x - n := by unfold wrap64; omega
theorem ev_szElS0 (l : List LEl) (hl : l.length ≤ 9223372036854775807) (hE : ∀ e ∈ l, ∀ x, 0 ≤ x → x ≤ 1048576 → Ev (fun k => laws_szEl.f k e.f0 e.f1 e.f2 e.f3 e.f4 e.f5 x) (res (sE e) x)) (x : Int) (hx : 0 ≤ x) (hB : x ≤ 1048576) :
    Ev (fun k => laws_szElS.f k l x) (res (l.length + sR l) x) := by
  refine Ev.step (fun k => by simp only [laws_szElS.f]; rfl) ?_
  rw [wrap_less hx hB hl]
  by_cases c : x - (l.length : Int) < 0
  · refine Ev.ifp c ?_
    rw [res_less (by omega)]
    exact Ev.now _
  · refine Ev.ifn c ?_
    have := loopRes (fun k l x j => laws_szElS.l0 k l x j) rd_T66 sE (fun k e x => laws_szEl.f k e.f0 e.f1 e.f2 e.f3 e.f4 e.f5 x) (fun k l x j => by simp only [laws_szElS.l0]) rdLEl l hl 1048576 hE l.length 0 (x - l.length) (by omega) (by simp) (by omega) (by omega) (by omega)
    rw [Int.toNat_zero, List.drop_zero, res_add (by omega), ← sR_sum] at this
    exact this
theorem ev_szEl : ∀ (n : Nat) (e : LEl), SizeOf.sizeOf e < n → fitE e → ∀ x, 0 ≤ x → x ≤ 1048576 → Ev (fun k => laws_szEl.f k e.f0 e.f1 e.f2 e.f3 e.f4 e.f5 x) (res (sE e) x) := by
  intro n
  induction n with
  | zero => intro e hn; omega
  | succ n ih =>
    intro e hn hf x hx hB
    obtain ⟨a, b, nm, at_, t, ks⟩ := e
    rw [fitE] at hf
    obtain ⟨h1, h2, h3, h4, h5⟩ := hf
    have hks : SizeOf.sizeOf ks < n := by simp at hn; omega
    refine Ev.step (fun k => by simp only [laws_szEl.f]; rfl) ?_
    rw [wrap_less hx hB h1, sE]
    by_cases c : x - (nm.size : Int) < 0
    · refine Ev.ifp c ?_
      rw [res_less (by omega)]
      exact Ev.now _
    refine Ev.ifn c ?_
    rw [← res_add (by omega : (nm.size : Int) ≤ x)]
    generalize hy : x - (nm.size : Int) = y at c ⊢
    have hy0 : 0 ≤ y := by omega
    have hyB : y ≤ 1048576 := by omega
    refine Ev.bind (ev_szAttrS at_ h2 y hy0 hyB) ?_
    by_cases c2 : ((sAL at_ : Nat) : Int) ≤ y
    · refine Ev.ifn (by rw [res_neg hy0]; omega) ?_
      rw [← res_add c2, show res (sAL at_) y = y - (sAL at_ : Nat) by unfold res; rw [if_pos c2]]
      generalize hz : y - ((sAL at_ : Nat) : Int) = z
      have hz0 : 0 ≤ z := by omega
      have hzB : z ≤ 1048576 := by omega
      rw [wrap_less hz0 hzB h3]
      by_cases c3 : z - (t.size : Int) < 0
      · refine Ev.ifp c3 ?_
        rw [res_less (by omega)]
        exact Ev.now _
      refine Ev.ifn c3 ?_
      rw [← res_add (by omega : (t.size : Int) ≤ z)]
      generalize hu : z - (t.size : Int) = u at c3 ⊢
      refine Ev.bind (ev_szElS0 ks h4 (fun e he => ih e (Nat.lt_trans (El_less he) hks) ((fitR_all ks).1 h5 e he)) u (by omega) (by omega)) ?_
      by_cases c4 : res (ks.length + sR ks) u < 0
      · refine Ev.ifp c4 ?_
        rw [show res (ks.length + sR ks) u = -1 by have := (res_neg (by omega : 0 ≤ u)).1 c4; unfold res; rw [if_neg this]]
        exact Ev.now _
      · exact Ev.ifn c4 (Ev.now _)
    · refine Ev.ifp (by rw [res_neg hy0]; exact c2) ?_
      rw [res_less c2]
      exact Ev.now _
theorem ev_szElS (l : List LEl) (hl : l.length ≤ 9223372036854775807) (hf : fitR l) (x : Int) (hx : 0 ≤ x) (hB : x ≤ 1048576) : Ev (fun k => laws_szElS.f k l x) (res (l.length + sR l) x) :=
  ev_szElS0 l hl (fun e he => ev_szEl _ e (Nat.lt_succ_self _) ((fitR_all l).1 hf e he)) x hx hB
theorem sE_mem {l : List LEl} {e : LEl} (h : e ∈ l) : sE e ≤ sR l := by
  induction l with
  | nil => simp at h
  | cons y ys ih =>
    rw [sR]
    rcases List.mem_cons.1 h with rfl | h
    · omega
    · have := ih h; omega
theorem ev_toElS0 (l : List LEl) (hl : l.length ≤ 1048576) (hE : ∀ e ∈ l, Ev (fun k => laws_toEl.f k e.f0 e.f1 e.f2 e.f3 e.f4 e.f5) ((cE e).f0, (cE e).f1, (cE e).f2, (cE e).f3, (cE e).f4, (cE e).f5)) :
    Ev (fun k => laws_toElS.f k l) (cL l) := by
  refine Ev.step (fun k => by simp only [laws_toElS.f]; rfl) ?_
  refine Ev.ifp (by omega) (Ev.ifp (by omega) ?_)
  rw [cL_map]
  exact loopTo (fun k l m j => laws_toElS.l0 k l m j) rd_T66 cE (fun k e => laws_toEl.f k e.f0 e.f1 e.f2 e.f3 e.f4 e.f5) (fun e => ((cE e).f0, (cE e).f1, (cE e).f2, (cE e).f3, (cE e).f4, (cE e).f5)) (fun t => ⟨t.1, t.2.1, t.2.2.1, t.2.2.2.1, t.2.2.2.2.1, t.2.2.2.2.2⟩) (fun k l m j => by simp only [laws_toElS.l0]) rdLEl l (by omega)
    hE (fun e _ => by cases h : cE e; rfl) l.length 0 _ (by omega) (by simp) (by omega) (by simp) (by simp)
theorem ev_toEl : ∀ (n : Nat) (e : LEl), SizeOf.sizeOf e < n → sE e ≤ 1048576 → Ev (fun k => laws_toEl.f k e.f0 e.f1 e.f2 e.f3 e.f4 e.f5) ((cE e).f0, (cE e).f1, (cE e).f2, (cE e).f3, (cE e).f4, (cE e).f5) := by
  intro n
  induction n with
  | zero => intro e hn; omega
  | succ n ih =>
    intro e hn hs
    obtain ⟨a, b, nm, at_, t, ks⟩ := e
    rw [sE] at hs
    have hks : SizeOf.sizeOf ks < n := by simp at hn; omega
    refine Ev.step (fun k => by simp only [laws_toEl.f]; rfl) ?_
    refine Ev.bind (ev_toAttrS at_ (by unfold sAL at hs; omega)) (Ev.bind (ev_toElS0 ks (by omega) (fun e he => ih e (Nat.lt_trans (El_less he) hks) (by have := sE_mem he; omega))) ?_)
    simp only [cE]
    exact Ev.now _
theorem ev_toElS (l : List LEl) (hs : l.length + sR l ≤ 1048576) : Ev (fun k => laws_toElS.f k l) (cL l) :=
  ev_toElS0 l (by omega) (fun e he => ev_toEl _ e (Nat.lt_succ_self _) (by have := sE_mem he; omega))
theorem ev_eqElS0 (l : List IEl) (hl : l.length ≤ 1048576) (hE : ∀ e ∈ l, Ev (fun k => laws_eqEl.f k e.f0 e.f1 e.f2 e.f3 e.f4 e.f5 e.f0 e.f1 e.f2 e.f3 e.f4 e.f5) true) : Ev (fun k => laws_eqElS.f k l l) true := by
  refine Ev.step (fun k => by simp only [laws_eqElS.f]; rfl) (Ev.ifp trivial ?_)
  exact loopEq (fun k l m j => laws_eqElS.l0 k l m j) rd_T68 (fun k a b => laws_eqEl.f k a.f0 a.f1 a.f2 a.f3 a.f4 a.f5 b.f0 b.f1 b.f2 b.f3 b.f4 b.f5) (fun k l m j => by simp only [laws_eqElS.l0]) rdIEl l (by omega) hE l.length 0 (by omega) (by simp) (by omega)
theorem ev_eqEl : ∀ (n : Nat) (e : LEl), SizeOf.sizeOf e < n → sE e ≤ 1048576 → Ev (fun k => laws_eqEl.f k (cE e).f0 (cE e).f1 (cE e).f2 (cE e).f3 (cE e).f4 (cE e).f5 (cE e).f0 (cE e).f1 (cE e).f2 (cE e).f3 (cE e).f4 (cE e).f5) true := by
  intro n
  induction n with
  | zero => intro e hn; omega
  | succ n ih =>
    intro e hn hs
    obtain ⟨a, b, nm, at_, t, ks⟩ := e
    rw [sE] at hs
    have hks : SizeOf.sizeOf ks < n := by simp at hn; omega
    simp only [cE]
    refine Ev.step (fun k => by simp only [laws_eqEl.f]; rfl) ?_
    refine Ev.ifp trivial (Ev.ifp trivial (Ev.ifp trivial (Ev.bind (ev_eqAttrS' _ (by rw [List.length_map]; unfold sAL at hs; omega)) (Ev.ifp rfl (Ev.ifp trivial (Ev.bind (ev_eqElS0 (cL ks) (by rw [cL_map, List.length_map]; omega) ?_) (Ev.ifp rfl (Ev.now _))))))))
    intro e he
    rw [cL_map] at he
    obtain ⟨e', he', rfl⟩ := List.mem_map.1 he
    exact ih e' (Nat.lt_trans (El_less he') hks) (by have := sE_mem he'; omega)
theorem ev_eqElS (l : List LEl) (hs : l.length + sR l ≤ 1048576) : Ev (fun k => laws_eqElS.f k (cL l) (cL l)) true :=
  ev_eqElS0 (cL l) (by rw [cL_map, List.length_map]; omega) (fun e he => by
    rw [cL_map] at he
    obtain ⟨e', he', rfl⟩ := List.mem_map.1 he
    exact ev_eqEl _ e' (Nat.lt_succ_self _) (by have := sE_mem he'; omega))
end Go.Proofs.Ytlocaaebgghkbaa.A

/- FnExactDocText: the reference's text of elements is the program's. -/
namespace Go.Proofs.Ytlocaaebgghkbaa.A
open Go.RowKit Go.Proofs.YtlocaaebgghkbaaW.PrintWords Go.Proofs.YtlocaaebgghkbaaW.PrintLast Go.Proofs.YtlocaaebgghkbaaW.PrintMore
set_option linter.unusedVariables false

theorem wordK_size (k : Int) : (wordK k).size ≤ 5 := by
  unfold wordK
  split
  · decide
  · split
    · decide
    · split <;> decide
theorem nameB_size (n t : ByteArray) : (nameB n t).size ≤ n.size + t.size := by
  unfold nameB
  split <;> omega
mutual
theorem dE_len (D : Nat) : ∀ (e : LEl) (d : Nat), d + (1 + sE e) ≤ D → (dE d (cE e)).length ≤ (1 + sE e) * (D + 10)
  | ⟨a, b, n, at_, t, ks⟩ => fun d h => by
    rw [sE] at h ⊢
    rw [cE, dE, List.length_append, data_length, lineB_size]
    have h1 := dL_len' D ks (d + 1) (by omega)
    have h2 := wordK_size a
    have h3 := nameB_size n t
    have h4 : n.size ≤ n.size * (D + 10) := Nat.le_mul_of_pos_right _ (by omega)
    have h5 : t.size ≤ t.size * (D + 10) := Nat.le_mul_of_pos_right _ (by omega)
    rw [show 1 + (n.size + (sAL at_ + (t.size + (ks.length + sR ks)))) = 1 + n.size + sAL at_ + t.size + (ks.length + sR ks) by omega, Nat.add_mul, Nat.add_mul, Nat.add_mul, Nat.add_mul, Nat.one_mul]
    generalize (ks.length + sR ks) * (D + 10) = p at h1 ⊢
    generalize n.size * (D + 10) = q at h4 ⊢
    generalize t.size * (D + 10) = r at h5 ⊢
    generalize sAL at_ * (D + 10) = s
    omega
theorem dL_len' (D : Nat) : ∀ (l : List LEl) (d : Nat), d + (l.length + sR l) ≤ D → (dL d (cL l)).length ≤ (l.length + sR l) * (D + 10)
  | [] => fun d h => by simp [cL, dL]
  | e :: es => fun d h => by
    rw [sR, List.length_cons] at h ⊢
    rw [cL, dL, List.length_append]
    have h1 := dE_len D e d (by omega)
    have h2 := dL_len' D es d (by omega)
    rw [show es.length + 1 + (sE e + sR es) = (1 + sE e) + (es.length + sR es) by omega, Nat.add_mul]
    omega
end
/-- the law's own statement -/
theorem DocText_pure (l : List LEl) (hl : l.length ≤ 9223372036854775807) (hf : fitR l) : ∃ k, laws_FnExactDocText.f k l = some true := by
  refine Ev.rounds ?_
  unfold laws_FnExactDocText.f
  refine Ev.bind (ev_szElS l hl hf 1048576 (by omega) (by omega)) ?_
  by_cases hs : ((l.length + sR l : Nat) : Int) ≤ 1048576
  · have hs' : l.length + sR l ≤ 1048576 := by omega
    have t := ev_toElS l hs'
    have hw : (dL 0 (cL l)).length ≤ 140737488355328 := by
      have h1 := dL_len' 1048576 l 0 (by omega)
      have h2 : (l.length + sR l) * (1048576 + 10) ≤ 1048576 * (1048576 + 10) := Nat.mul_le_mul_right _ hs'
      omega
    refine Ev.ifn (by rw [res_neg (by omega)]; omega) (Ev.bind t (Ev.bindc (a := ⟨(dL 0 (cL l)).toArray⟩) ?_ (Ev.bind t (Ev.bindc (a := ⟨(dL 0 (cL l)).toArray⟩) ?_ (Ev.ifp rfl (Ev.bind t (Ev.bind (ev_eqElS l hs') (Ev.ifp rfl (Ev.now _)))))))))
    · unfold spec_DocText.f spec_l22Doc.f
      rw [if_pos ⟨by omega, hw⟩]
      rfl
    · unfold impl_DocText.f
      rw [if_pos hw]
  · exact Ev.ifp (by rw [res_neg (by omega)]; exact hs) (Ev.now _)
end Go.Proofs.Ytlocaaebgghkbaa.A

/- What comes in, read by its type, lies in memory as its kind tells: whole numbers, bools, texts, rows. -/
namespace Go.Proofs.Ytlocaaebgghkbaa.A
open Go.RowKit Go.Proofs.YtlocaaebgghkbaaW.PrintWords Go.Proofs.YtlocaaebgghkbaaW.PrintLast Go.Proofs.YtlocaaebgghkbaaW.PrintMore
set_option linter.unusedVariables false

def Opens (P : Program) (n : Nat) (t : TypeId) {α : Type} (d : Kd α) (F : α → Prop) : Prop :=
  ∀ (H : Type) (enc : TypeId × Value → H) (w : World) (base : Nat) (spare : Nat → Bool) (held : Bool) (fuel : Nat) (cs : List Value) (x : DataW H × List MemPlace),
    fuel ≤ n → DataW.trod enc P w base spare held fuel t cs = some x → ∃ y, d.K w y cs ∧ F y
theorem Opens.int {P : Program} {t : TypeId} {k : IntKind} (n : Nat) (ht : P.underlying t = some (.int k)) : Opens P n t (Kd.int k) (fun x => (Lit.int k x).wf = true) := by
  intro H enc w base spare held fuel cs x _ h
  obtain ⟨m, rfl, _, hw⟩ := DataW.trod_int ht h
  exact ⟨m, rfl, hw⟩
theorem Opens.bool {P : Program} {t : TypeId} (n : Nat) (ht : P.underlying t = some .bool) : Opens P n t Kd.bool (fun _ => True) := by
  intro H enc w base spare held fuel cs x _ h
  obtain ⟨m, rfl, _⟩ := DataW.trod_bool ht h
  exact ⟨m, rfl, trivial⟩
theorem Opens.string {P : Program} {t : TypeId} (n : Nat) (ht : P.underlying t = some .string) : Opens P n t Kd.string (fun s => s.size ≤ 9223372036854775807) := by
  intro H enc w base spare held fuel cs x _ h
  obtain ⟨s, rfl, _, hs⟩ := DataW.trod_string ht h
  exact ⟨s, rfl, hs⟩
theorem Opens.slice {P : Program} {t e : TypeId} {α : Type} {d : Kd α} {F : α → Prop} {n : Nat} (e' : Nat) (ht : P.underlying t = some (.slice e)) (hC : P.cellsOf e = d.sz) (h : Opens P n e d F) :
    Opens P n t (Kd.slice e' d) (fun l => l.length ≤ 9223372036854775807 ∧ ∀ y ∈ l, F y) := by
  intro H enc w base spare held fuel cs x hn hx
  rcases DataW.trod_slice ht hx with ⟨rfl, _⟩ | ⟨a, len, cap, elems, rest, m, rfl, rfl, _, _, hl, hm, hel, hi, _, _⟩
  · exact ⟨[], ⟨none, 0, rfl, Nat.le_refl _, Kd.C_nil _ _⟩, by simp, by simp⟩
  · have each : ∀ i : Fin len, ∃ y : α, F y ∧ ∃ c, c.length = d.sz ∧ d.K w y c ∧ ∀ j u, c[j]? = some u → w.cell? (a.add (i.1 * d.sz + j)) = some u := by
      intro i
      have h1 := hi i.1 i.2
      have h2 : elems[i.1]? = some elems[i.1] := List.getElem?_eq_getElem (by omega)
      rw [h2] at h1
      obtain ⟨c, hc, hd⟩ := Option.bind_eq_some_iff.1 h1
      obtain ⟨_, hcl, hat⟩ := World.cells?_some hc
      obtain ⟨y, hK, hF⟩ := h H enc w base spare held m c _ (by omega) hd
      refine ⟨y, hF, c, by rw [hcl, hC], hK, fun j u hu => ?_⟩
      have hj : j < P.cellsOf e := by rw [← hcl]; exact (List.getElem?_eq_some_iff.1 hu).1
      have := hat j hj
      rw [hu, Go.Deep.add_add, hC] at this
      exact this
    have hlen : len ≤ 9223372036854775807 := Nat.le_trans hl hm
    refine ⟨List.ofFn fun i => Classical.choose (each i), ⟨some a, cap, by rw [List.length_ofFn], by rw [List.length_ofFn]; exact hl, ?_⟩, by rw [List.length_ofFn]; exact hlen, ?_⟩
    · refine ⟨rfl, by rw [List.length_ofFn]; exact hlen, fun _ => ⟨a, rfl, fun j p hp => ?_⟩⟩
      obtain ⟨hj, hp⟩ := List.getElem?_eq_some_iff.1 hp
      rw [List.length_ofFn] at hj
      rw [List.getElem_ofFn] at hp
      obtain ⟨_, c, h1, h2, h3⟩ := Classical.choose_spec (each ⟨j, hj⟩)
      rw [hp] at h2
      exact ⟨c, h1, h2, h3⟩
    · intro y hy
      obtain ⟨i, rfl⟩ := List.mem_ofFn.1 hy
      exact (Classical.choose_spec (each i)).1
end Go.Proofs.Ytlocaaebgghkbaa.A

/- Attributes and elements that come in, laid open. -/
namespace Go.Proofs.Ytlocaaebgghkbaa.A
open Go.RowKit Go.Proofs.YtlocaaebgghkbaaW.PrintWords Go.Proofs.YtlocaaebgghkbaaW.PrintLast Go.Proofs.YtlocaaebgghkbaaW.PrintMore
set_option linter.unusedVariables false

set_option maxRecDepth 100000 in
theorem opensAttr : ∀ n, Opens Try.prog n 136 k136 (fun x => x.f0.size ≤ 9223372036854775807 ∧ x.f1.size ≤ 9223372036854775807)
  | n => fun H enc w base spare held fuel cs x hn hx => by
    obtain ⟨xs, m, rfl, rfl, hcl, hxl, hf⟩ := DataW.trod_struct Try.underlying136 hx
    have hc : cs.length = 2 := hcl.trans (by kernel_rfl)
    have hxl' : xs.length = 2 := hxl
    match cs, hc with
    | [c0, c1], _ =>
    have g0 : DataW.trod enc Try.prog w base spare held m 9 [c0] = xs[0]? := by
      have h_ : DataW.trod enc Try.prog w base spare held m 9 (([c0, c1].drop 0).take (Try.prog.cellsOf 9)) = xs[0]? := hf 0 _ rfl
      rwa [show Try.prog.cellsOf 9 = 1 by kernel_rfl] at h_
    rw [List.getElem?_eq_getElem (by omega)] at g0
    have g1 : DataW.trod enc Try.prog w base spare held m 9 [c1] = xs[1]? := by
      have h_ : DataW.trod enc Try.prog w base spare held m 9 (([c0, c1].drop 1).take (Try.prog.cellsOf 9)) = xs[1]? := hf 1 _ rfl
      rwa [show Try.prog.cellsOf 9 = 1 by kernel_rfl] at h_
    rw [List.getElem?_eq_getElem (by omega)] at g1
    obtain ⟨y0, K0, F0⟩ := (Opens.string m Try.underlying9) H enc w base spare held m _ _ (Nat.le_refl _) g0
    obtain rfl := (List.cons.inj K0).1
    obtain ⟨y1, K1, F1⟩ := (Opens.string m Try.underlying9) H enc w base spare held m _ _ (Nat.le_refl _) g1
    obtain rfl := (List.cons.inj K1).1
    exact ⟨⟨y0, y1⟩, k136_mk w ⟨y0, y1⟩, F0, F1⟩
set_option maxRecDepth 100000 in
theorem opensEl : ∀ n, Opens Try.prog n 66 k66 (fun x => fitE x)
  | 0 => fun H enc w base spare held fuel cs x hn hx => by
    obtain ⟨xs, m, hfu, _⟩ := DataW.trod_struct Try.underlying66 hx
    omega
  | n + 1 => fun H enc w base spare held fuel cs x hn hx => by
    have ih := opensEl n
    obtain ⟨xs, m, rfl, rfl, hcl, hxl, hf⟩ := DataW.trod_struct Try.underlying66 hx
    have hc : cs.length = 6 := hcl.trans (by kernel_rfl)
    have hxl' : xs.length = 6 := hxl
    match cs, hc with
    | [c0, c1, c2, c3, c4, c5], _ =>
    have g0 : DataW.trod enc Try.prog w base spare held m 3 [c0] = xs[0]? := by
      have h_ : DataW.trod enc Try.prog w base spare held m 3 (([c0, c1, c2, c3, c4, c5].drop 0).take (Try.prog.cellsOf 3)) = xs[0]? := hf 0 _ rfl
      rwa [show Try.prog.cellsOf 3 = 1 by kernel_rfl] at h_
    rw [List.getElem?_eq_getElem (by omega)] at g0
    have g1 : DataW.trod enc Try.prog w base spare held m 3 [c1] = xs[1]? := by
      have h_ : DataW.trod enc Try.prog w base spare held m 3 (([c0, c1, c2, c3, c4, c5].drop 1).take (Try.prog.cellsOf 3)) = xs[1]? := hf 1 _ rfl
      rwa [show Try.prog.cellsOf 3 = 1 by kernel_rfl] at h_
    rw [List.getElem?_eq_getElem (by omega)] at g1
    have g2 : DataW.trod enc Try.prog w base spare held m 9 [c2] = xs[2]? := by
      have h_ : DataW.trod enc Try.prog w base spare held m 9 (([c0, c1, c2, c3, c4, c5].drop 2).take (Try.prog.cellsOf 9)) = xs[2]? := hf 2 _ rfl
      rwa [show Try.prog.cellsOf 9 = 1 by kernel_rfl] at h_
    rw [List.getElem?_eq_getElem (by omega)] at g2
    have g3 : DataW.trod enc Try.prog w base spare held m 64 [c3] = xs[3]? := by
      have h_ : DataW.trod enc Try.prog w base spare held m 64 (([c0, c1, c2, c3, c4, c5].drop 3).take (Try.prog.cellsOf 64)) = xs[3]? := hf 3 _ rfl
      rwa [show Try.prog.cellsOf 64 = 1 by kernel_rfl] at h_
    rw [List.getElem?_eq_getElem (by omega)] at g3
    have g4 : DataW.trod enc Try.prog w base spare held m 9 [c4] = xs[4]? := by
      have h_ : DataW.trod enc Try.prog w base spare held m 9 (([c0, c1, c2, c3, c4, c5].drop 4).take (Try.prog.cellsOf 9)) = xs[4]? := hf 4 _ rfl
      rwa [show Try.prog.cellsOf 9 = 1 by kernel_rfl] at h_
    rw [List.getElem?_eq_getElem (by omega)] at g4
    have g5 : DataW.trod enc Try.prog w base spare held m 24 [c5] = xs[5]? := by
      have h_ : DataW.trod enc Try.prog w base spare held m 24 (([c0, c1, c2, c3, c4, c5].drop 5).take (Try.prog.cellsOf 24)) = xs[5]? := hf 5 _ rfl
      rwa [show Try.prog.cellsOf 24 = 1 by kernel_rfl] at h_
    rw [List.getElem?_eq_getElem (by omega)] at g5
    obtain ⟨y0, K0, F0⟩ := (Opens.int m Try.underlying3 (k := .i64)) H enc w base spare held m _ _ (Nat.le_refl _) g0
    obtain rfl := (List.cons.inj K0).1
    obtain ⟨y1, K1, F1⟩ := (Opens.int m Try.underlying3 (k := .i64)) H enc w base spare held m _ _ (Nat.le_refl _) g1
    obtain rfl := (List.cons.inj K1).1
    obtain ⟨y2, K2, F2⟩ := (Opens.string m Try.underlying9) H enc w base spare held m _ _ (Nat.le_refl _) g2
    obtain rfl := (List.cons.inj K2).1
    obtain ⟨y3, K3, F3⟩ := (Opens.slice 136 Try.underlying64 (by kernel_rfl) (opensAttr m)) H enc w base spare held m _ _ (Nat.le_refl _) g3
    obtain ⟨A3, b3, K3, l3, r3⟩ := K3
    obtain rfl := (List.cons.inj K3).1
    obtain ⟨y4, K4, F4⟩ := (Opens.string m Try.underlying9) H enc w base spare held m _ _ (Nat.le_refl _) g4
    obtain rfl := (List.cons.inj K4).1
    obtain ⟨y5, K5, F5⟩ := (Opens.slice 66 Try.underlying24 (by kernel_rfl) ih) H enc w base spare held m _ _ (by omega) g5
    obtain ⟨A5, b5, K5, l5, r5⟩ := K5
    obtain rfl := (List.cons.inj K5).1
    exact ⟨⟨y0, y1, y2, y3, y4, y5⟩, k66_mk w ⟨y0, y1, y2, y3, y4, y5⟩ l3 r3 l5 r5, by show fitE ⟨y0, y1, y2, y3, y4, y5⟩; rw [fitE]; exact ⟨F2, ⟨F3.1, F3.2⟩, F4, F5.1, (fitR_all _).2 F5.2⟩⟩
end Go.Proofs.Ytlocaaebgghkbaa.A
