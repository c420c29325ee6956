-- joined by wip/tools/shake.py
import Derived.Test.YtkmmoheeoblmnaaDoorVTksTK
import Derived.Test.YtkmmoheeoblmnaaDoorMTksT0
import Derived.Test.YtkmmoheeoblmnaaDoorMTksT1
import Derived.Test.YtkmmoheeoblmnaaDoorMTksT2
import Derived.ChangeArms
import Derived.Deep.Slices
namespace Go.Proofs.YtkmmoheeoblmnaaDoor.A
open Go.RowKit Go.Proofs.YtkmmoheeoblmnaaDoorW.PrintWords Go.Proofs.YtkmmoheeoblmnaaDoorW.PrintLast Go.Proofs.YtkmmoheeoblmnaaDoorW.PrintMore
set_option linter.unusedVariables false
theorem Ev.ifp {α : Type} {c : Prop} [Decidable c] {f g : Nat → Option α} {r : α} (hc : c) (h : Ev f r) : Ev (fun k => if c then f k else g k) r := Ev.congr (fun k => if_pos hc) h
theorem Ev.ifn {α : Type} {c : Prop} [Decidable c] {f g : Nat → Option α} {r : α} (hc : ¬ c) (h : Ev g r) : Ev (fun k => if c then f k else g k) r := Ev.congr (fun k => if_neg hc) h
theorem Ev.bindc {α β : Type} {x : Option α} {a : α} {f : Nat → α → Option β} {r : β} (hx : x = some a) (h : Ev (fun n => f n a) r) : Ev (fun n => x.bind (f n)) r := Ev.congr (fun k => by rw [hx, Option.bind_some]) h
def res (s : Nat) (x : Int) : Int := if (s : Int) ≤ x then x - s else -1
theorem res_neg {s : Nat} {x : Int} (h0 : 0 ≤ x) : res s x < 0 ↔ ¬ (s : Int) ≤ x := by
  unfold res
  split <;> omega
theorem res_add {s t : Nat} {x : Int} (h : (s : Int) ≤ x) : res t (x - s) = res (s + t) x := by
  unfold res
  by_cases h1 : (t : Int) ≤ x - s
  · rw [if_pos h1, if_pos (by omega)]; omega
  · rw [if_neg h1, if_neg (by omega)]
theorem res_less {s t : Nat} {x : Int} (h : ¬ (s : Int) ≤ x) : res (s + t) x = -1 := by
  unfold res
  rw [if_neg (by omega)]
theorem loopRes {α : Type} (L0 : Nat → List α → Int → Int → Option Int) (rdf : List α → Int → α) (s : α → Nat) (g : Nat → α → Int → Option Int)
    (hstep : ∀ k l x j, L0 (k + 1) l x j = if j < (l.length : Int) then (if 0 ≤ j then ((g k (rdf l j) x).bind fun t => if t < 0 then some (-1) else L0 k l t (wrap64 (j + 1))) else none) else some x)
    (hrd : ∀ (l : List α) (j : Int) (h : j.toNat < l.length), rdf l j = l[j.toNat])
    (l : List α) (hlen : l.length ≤ 9223372036854775807) (B : Int) (hg : ∀ e ∈ l, ∀ x, 0 ≤ x → x ≤ B → Ev (fun k => g k e x) (res (s e) x)) :
    ∀ (d : Nat) (j x : Int), 0 ≤ j → l.length - j.toNat = d → j ≤ (l.length : Int) → 0 ≤ x → x ≤ B → Ev (fun k => L0 k l x j) (res ((l.drop j.toNat).map s).sum x) := by
  intro d
  induction d with
  | zero =>
    intro j x h0 hd hj hx hB
    refine Ev.step (fun k => by simp only [hstep]; rfl) (Ev.ifn (show ¬ j < (l.length : Int) by omega) ?_)
    rw [List.drop_eq_nil_of_le (by omega)]
    simp [res, hx]
    exact Ev.now _
  | succ d ih =>
    intro j x h0 hd hj hx hB
    have hlt : j.toNat < l.length := by omega
    have hw : wrap64 (j + 1) = j + 1 := by unfold wrap64; omega
    refine Ev.step (fun k => by simp only [hstep]; rfl) (Ev.ifp (show j < (l.length : Int) by omega) (Ev.ifp h0 ?_))
    rw [hrd l j hlt, List.drop_eq_getElem_cons hlt, List.map_cons, List.sum_cons]
    refine Ev.bind (hg _ (List.getElem_mem hlt) x hx hB) ?_
    by_cases hs : ((s l[j.toNat] : Nat) : Int) ≤ x
    · refine Ev.ifn (by rw [res_neg hx]; omega) ?_
      rw [hw, show res (s l[j.toNat]) x = x - (s l[j.toNat] : Nat) by unfold res; rw [if_pos hs]]
      have := ih (j + 1) (x - (s l[j.toNat] : Nat)) (by omega) (by omega) (by omega) (by omega) (by omega)
      rw [show (j + 1).toNat = j.toNat + 1 by omega, res_add hs] at this
      exact this
    · refine Ev.ifp (by rw [res_neg hx]; exact hs) ?_
      rw [res_less hs]
      exact Ev.now _
theorem loopTo {α β γ : Type} (L0 : Nat → List α → List β → Int → Option (List β)) (rdf : List α → Int → α) (c : α → β) (g : Nat → α → Option γ) (gv : α → γ) (mk : γ → β)
    (hstep : ∀ k l m j, L0 (k + 1) l m j = if j < (l.length : Int) then (if 0 ≤ j then ((g k (rdf l j)).bind fun t => if j < (m.length : Int) then L0 k l (m.set j.toNat (mk t)) (wrap64 (j + 1)) else none) else none) else some m)
    (hrd : ∀ (l : List α) (j : Int) (h : j.toNat < l.length), rdf l j = l[j.toNat])
    (l : List α) (hlen : l.length ≤ 9223372036854775807) (hg : ∀ e ∈ l, Ev (fun k => g k e) (gv e)) (hc : ∀ e ∈ l, mk (gv e) = c e) :
    ∀ (d : Nat) (j : Int) (m : List β), 0 ≤ j → l.length - j.toNat = d → j ≤ (l.length : Int) → m.length = l.length → m.take j.toNat = (l.take j.toNat).map c → Ev (fun k => L0 k l m j) (l.map c) := by
  intro d
  induction d with
  | zero =>
    intro j m h0 hd hj hm ht
    refine Ev.step (fun k => by simp only [hstep]; rfl) (Ev.ifn (show ¬ j < (l.length : Int) by omega) ?_)
    rw [List.take_of_length_le (by omega), List.take_of_length_le (by omega)] at ht
    rw [ht]
    exact Ev.now _
  | succ d ih =>
    intro j m h0 hd hj hm ht
    have hlt : j.toNat < l.length := by omega
    have hw : wrap64 (j + 1) = j + 1 := by unfold wrap64; omega
    refine Ev.step (fun k => by simp only [hstep]; rfl) (Ev.ifp (show j < (l.length : Int) by omega) (Ev.ifp h0 ?_))
    rw [hrd l j hlt]
    refine Ev.bind (hg _ (List.getElem_mem hlt)) (Ev.ifp (show j < (m.length : Int) by omega) ?_)
    rw [hw, hc _ (List.getElem_mem hlt)]
    refine ih (j + 1) _ (by omega) (by omega) (by omega) (by simpa using hm) ?_
    rw [show (j + 1).toNat = j.toNat + 1 by omega, List.take_succ_eq_append_getElem (by simpa [hm] using hlt), List.take_succ_eq_append_getElem hlt, List.map_append, ← ht, List.take_set_of_le (Nat.le_refl _)]
    simp
theorem loopEq {α : Type} (L0 : Nat → List α → List α → Int → Option Bool) (rdf : List α → Int → α) (g : Nat → α → α → Option Bool)
    (hstep : ∀ k l m j, L0 (k + 1) l m j = if j < (l.length : Int) then (if 0 ≤ j then (if j < (m.length : Int) then ((g k (rdf l j) (rdf m j)).bind fun t => if t = true then L0 k l m (wrap64 (j + 1)) else some false) else none) else none) else some true)
    (hrd : ∀ (l : List α) (j : Int) (h : j.toNat < l.length), rdf l j = l[j.toNat])
    (l : List α) (hlen : l.length ≤ 9223372036854775807) (hg : ∀ e ∈ l, Ev (fun k => g k e e) true) :
    ∀ (d : Nat) (j : Int), 0 ≤ j → l.length - j.toNat = d → j ≤ (l.length : Int) → Ev (fun k => L0 k l l j) true := by
  intro d
  induction d with
  | zero =>
    intro j h0 hd hj
    exact Ev.step (fun k => by simp only [hstep]; rfl) (Ev.ifn (show ¬ j < (l.length : Int) by omega) (Ev.now _))
  | succ d ih =>
    intro j h0 hd hj
    have hlt : j.toNat < l.length := by omega
    have hw : wrap64 (j + 1) = j + 1 := by unfold wrap64; omega
    refine Ev.step (fun k => by simp only [hstep]; rfl) (Ev.ifp (show j < (l.length : Int) by omega) (Ev.ifp h0 (Ev.ifp (show j < (l.length : Int) by omega) ?_)))
    rw [hrd l j hlt]
    refine Ev.bind (hg _ (List.getElem_mem hlt)) (Ev.ifp rfl ?_)
    rw [hw]
    exact ih (j + 1) (by omega) (by omega) (by omega)
end Go.Proofs.YtkmmoheeoblmnaaDoor.A
namespace Go.Proofs.YtkmmoheeoblmnaaDoor.A
open Go.RowKit Go.Proofs.YtkmmoheeoblmnaaDoorW.PrintWords Go.Proofs.YtkmmoheeoblmnaaDoorW.PrintLast Go.Proofs.YtkmmoheeoblmnaaDoorW.PrintMore
set_option linter.unusedVariables false
abbrev LAt := S69
abbrev IAt := S41
theorem rdLAt (l : List LAt) (j : Int) (h : j.toNat < l.length) : rd_T69 l j = l[j.toNat] := by
  unfold rd_T69; rw [List.getD_eq_getElem?_getD, List.getElem?_eq_getElem h]; rfl
theorem rdIAt (l : List IAt) (j : Int) (h : j.toNat < l.length) : rd_T41 l j = l[j.toNat] := by
  unfold rd_T41; rw [List.getD_eq_getElem?_getD, List.getElem?_eq_getElem h]; rfl
def cA (a : LAt) : IAt := ⟨a.f0, a.f1⟩
def sA (a : LAt) : Nat := a.f0.size + a.f1.size
def sAL (l : List LAt) : Nat := l.length + (l.map sA).sum
def fitA (l : List LAt) : Prop := l.length ≤ 9223372036854775807 ∧ ∀ a ∈ l, a.f0.size ≤ 9223372036854775807 ∧ a.f1.size ≤ 9223372036854775807
theorem szAttr_f (a : LAt) (h0 : a.f0.size ≤ 9223372036854775807) (h1 : a.f1.size ≤ 9223372036854775807) (x : Int) (hx : 0 ≤ x) (hB : x ≤ 1048576) : laws_szAttr.f a.f0 a.f1 x = some (res (sA a) x) := by
  unfold laws_szAttr.f
  have w1 : wrap64 (x - (a.f0.size : Int)) = x - a.f0.size := by unfold wrap64; omega
  rw [w1]
  by_cases c : x - (a.f0.size : Int) < 0
  · rw [if_pos c]; unfold res sA; rw [if_neg (by omega)]
  · rw [if_neg c]
    have w2 : wrap64 (x - (a.f0.size : Int) - (a.f1.size : Int)) = x - a.f0.size - a.f1.size := by unfold wrap64; omega
    rw [w2]
    by_cases c2 : x - (a.f0.size : Int) - (a.f1.size : Int) < 0
    · rw [if_pos c2]; unfold res sA; rw [if_neg (by omega)]
    · rw [if_neg c2]; unfold res sA; rw [if_pos (by omega)]; congr 1; omega
theorem ev_szAttrS (l : List LAt) (hf : fitA l) (x : Int) (hx : 0 ≤ x) (hB : x ≤ 1048576) : Ev (fun k => laws_szAttrS.f k l x) (res (sAL l) x) := by
  have hl := hf.1
  unfold laws_szAttrS.f
  have w1 : wrap64 (x - (l.length : Int)) = x - l.length := by unfold wrap64; omega
  rw [w1]
  by_cases c : x - (l.length : Int) < 0
  · refine Ev.ifp c ?_
    unfold sAL
    rw [res_less (by omega)]
    exact Ev.now _
  · refine Ev.ifn c ?_
    have := loopRes (fun k l x j => laws_szAttrS.l0 k l x j) rd_T69 sA (fun _ a x => laws_szAttr.f a.f0 a.f1 x) (fun k l x j => by simp only [laws_szAttrS.l0]) rdLAt l hf.1 1048576
      (fun e he x hx hB => Ev.congr (fun _ => szAttr_f e (hf.2 e he).1 (hf.2 e he).2 x hx hB) (Ev.now _)) l.length 0 (x - l.length) (by omega) (by simp) (by omega) (by omega) (by omega)
    rw [Int.toNat_zero, List.drop_zero, res_add (by omega)] at this
    exact this
theorem ev_toAttrS (l : List LAt) (hl : l.length ≤ 1048576) : Ev (fun k => laws_toAttrS.f k l) (l.map cA) := by
  unfold laws_toAttrS.f
  refine Ev.ifp (by omega) (Ev.ifp (by omega) ?_)
  exact loopTo (fun k l m j => laws_toAttrS.l0 k l m j) rd_T69 cA (fun _ a => laws_toAttr.f a.f0 a.f1) (fun a => (a.f0, a.f1)) (fun t => ⟨t.1, t.2⟩) (fun k l m j => by simp only [laws_toAttrS.l0]) rdLAt l (by omega)
    (fun e _ => Ev.congr (fun _ => rfl) (Ev.now _)) (fun e _ => rfl) l.length 0 _ (by omega) (by simp) (by omega) (by simp) (by simp)
theorem ev_eqAttrS' (l : List IAt) (hl : l.length ≤ 9223372036854775807) : Ev (fun k => laws_eqAttrS.f k l l) true := by
  unfold laws_eqAttrS.f
  refine Ev.ifp rfl ?_
  exact loopEq (fun k l m j => laws_eqAttrS.l0 k l m j) rd_T41 (fun _ a b => laws_eqAttr.f a.f0 a.f1 b.f0 b.f1) (fun k l m j => by simp only [laws_eqAttrS.l0]) rdIAt l hl
    (fun e _ => Ev.congr (fun _ => by unfold laws_eqAttr.f; rw [if_pos rfl, if_pos rfl]) (Ev.now _)) l.length 0 (by omega) (by simp) (by omega)
end Go.Proofs.YtkmmoheeoblmnaaDoor.A
namespace Go.Proofs.YtkmmoheeoblmnaaDoor.A
open Go.RowKit Go.Proofs.YtkmmoheeoblmnaaDoorW.PrintWords Go.Proofs.YtkmmoheeoblmnaaDoorW.PrintLast Go.Proofs.YtkmmoheeoblmnaaDoorW.PrintMore
set_option linter.unusedVariables false
abbrev LTk := S24
abbrev ITk := S29
def cT (x : LTk) : ITk := ⟨x.f0, x.f1, x.f2.map cA, x.f3, x.f4⟩
def sT (x : LTk) : Nat := x.f1.size + (sAL x.f2 + x.f3.size)
def fitT (x : LTk) : Prop := x.f1.size ≤ 9223372036854775807 ∧ fitA x.f2 ∧ x.f3.size ≤ 9223372036854775807
theorem wrapLessT {x : Int} {n : Nat} (hx : 0 ≤ x) (hB : x ≤ 1048576) (hn : n ≤ 9223372036854775807) : wrap64 (x - (n : Int)) = x - n := by unfold wrap64; omega
theorem ev_szToken (e : LTk) (hf : fitT e) (x : Int) (hx : 0 ≤ x) (hB : x ≤ 1048576) : Ev (fun k => laws_szToken.f k e.f0 e.f1 e.f2 e.f3 e.f4 x) (res (sT e) x) := by
  obtain ⟨h1, h2, h3⟩ := hf
  unfold laws_szToken.f
  rw [wrapLessT hx hB h1, sT]
  by_cases c : x - (e.f1.size : Int) < 0
  · refine Ev.ifp c ?_
    rw [res_less (by omega)]
    exact Ev.now _
  refine Ev.ifn c ?_
  rw [← res_add (by omega : (e.f1.size : Int) ≤ x)]
  generalize hy : x - (e.f1.size : Int) = y at c ⊢
  have hy0 : 0 ≤ y := by omega
  have hyB : y ≤ 1048576 := by omega
  refine Ev.bind (ev_szAttrS e.f2 h2 y hy0 hyB) ?_
  by_cases c2 : ((sAL e.f2 : Nat) : Int) ≤ y
  · refine Ev.ifn (by rw [res_neg hy0]; omega) ?_
    rw [← res_add c2, show res (sAL e.f2) y = y - (sAL e.f2 : Nat) by unfold res; rw [if_pos c2]]
    generalize hz : y - ((sAL e.f2 : Nat) : Int) = z
    have hz0 : 0 ≤ z := by omega
    rw [wrapLessT hz0 (by omega) h3]
    by_cases c3 : z - (e.f3.size : Int) < 0
    · refine Ev.ifp c3 ?_
      rw [show res e.f3.size z = -1 by unfold res; rw [if_neg (by omega)]]
      exact Ev.now _
    refine Ev.ifn c3 ?_
    rw [show res e.f3.size z = z - e.f3.size by unfold res; rw [if_pos (by omega)]]
    exact Ev.now _
  · refine Ev.ifp (by rw [res_neg hy0]; exact c2) ?_
    rw [res_less c2]
    exact Ev.now _
theorem ev_toToken (e : LTk) (h : sT e ≤ 1048576) : Ev (fun k => laws_toToken.f k e.f0 e.f1 e.f2 e.f3 e.f4) ((cT e).f0, (cT e).f1, (cT e).f2, (cT e).f3, (cT e).f4) := by
  unfold laws_toToken.f
  exact Ev.bind (ev_toAttrS e.f2 (by unfold sT sAL at h; omega)) (Ev.now _)
theorem ev_eqToken (e : LTk) (h : sT e ≤ 1048576) : Ev (fun k => laws_eqToken.f k (cT e).f0 (cT e).f1 (cT e).f2 (cT e).f3 (cT e).f4 (cT e).f0 (cT e).f1 (cT e).f2 (cT e).f3 (cT e).f4) true := by
  unfold laws_eqToken.f
  refine Ev.ifp rfl (Ev.ifp rfl (Ev.bind (ev_eqAttrS' _ (by simp only [cT, List.length_map]; unfold sT sAL at h; omega)) (Ev.ifp rfl (Ev.ifp rfl (Ev.ifn (by simp) (Ev.now _))))))
def wordT (k : Int) : ByteArray := if k = 1 then ⟨#[116, 101, 120, 116]⟩ else if k = 2 then ⟨#[115, 116, 97, 114, 116]⟩ else if k = 3 then ⟨#[101, 110, 100]⟩ else if k = 4 then ⟨#[110, 111, 116, 101]⟩ else if k = 5 then ⟨#[107, 105, 110, 100]⟩ else ⟨#[110, 111, 110, 101]⟩
def nameT (n t : ByteArray) : ByteArray := if n.toList = [] then t else n
theorem wordT_size (k : Int) : (wordT k).size ≤ 5 := by
  unfold wordT
  repeat' split
  all_goals decide
theorem nameT_small (n t : ByteArray) : (nameT n t).size ≤ n.size + t.size := by
  unfold nameT
  split <;> omega
abbrev wordsT : List ByteArray := [(⟨#[116, 101, 120, 116]⟩ : ByteArray), (⟨#[115, 116, 97, 114, 116]⟩ : ByteArray), (⟨#[101, 110, 100]⟩ : ByteArray), (⟨#[110, 111, 116, 101]⟩ : ByteArray), (⟨#[107, 105, 110, 100]⟩ : ByteArray)]
theorem wordT_none (k : Int) (h : k < 1 ∨ 5 < k) : wordT k = ⟨#[110, 111, 110, 101]⟩ := by
  unfold wordT; rw [if_neg (by omega), if_neg (by omega), if_neg (by omega), if_neg (by omega), if_neg (by omega)]
theorem wordT_in (k : Int) (h1 : 1 ≤ k) (h2 : k ≤ 5) : (if 0 ≤ wrap64 (k - 1) then (if wrap64 (k - 1) < (wordsT.length : Int) then some (rdOf ByteArray.empty wordsT (wrap64 (k - 1))) else none) else none) = some (wordT k) := by
  rcases (show k = 1 ∨ k = 2 ∨ k = 3 ∨ k = 4 ∨ k = 5 by omega) with rfl | rfl | rfl | rfl | rfl
  · rw [show wrap64 (1 - 1) = 0 by unfold wrap64; omega]; rfl
  · rw [show wrap64 (2 - 1) = 1 by unfold wrap64; omega]; rfl
  · rw [show wrap64 (3 - 1) = 2 by unfold wrap64; omega]; rfl
  · rw [show wrap64 (4 - 1) = 3 by unfold wrap64; omega]; rfl
  · rw [show wrap64 (5 - 1) = 4 by unfold wrap64; omega]; rfl
theorem wordT_spec (k : Int) : spec_l22Kind.f k wordsT = some (wordT k) := by
  unfold spec_l22Kind.f
  by_cases h1 : k < 1
  · rw [if_pos h1, wordT_none k (.inl h1)]
  · rw [if_neg h1]
    by_cases h2 : k > 5
    · rw [if_pos (show k > ((wordsT.length : Nat) : Int) from h2), wordT_none k (.inr h2)]
    · rw [if_neg (show ¬ k > ((wordsT.length : Nat) : Int) from h2)]
      exact wordT_in k (by omega) (by omega)
theorem wordT_impl (k : Int) : impl_wordOf.f k wordsT = some (wordT k) := by
  unfold impl_wordOf.f impl_inRange.f
  by_cases h1 : k ≥ 1
  · rw [if_pos h1]
    simp only [Option.bind_some]
    by_cases h2 : k ≤ 5
    · rw [show decide (k ≤ ((wordsT.length : Nat) : Int)) = true from decide_eq_true h2]
      rw [if_pos rfl]
      exact wordT_in k h1 h2
    · rw [show decide (k ≤ ((wordsT.length : Nat) : Int)) = false from decide_eq_false h2]
      rw [if_neg (by simp), wordT_none k (.inr (by omega))]
  · rw [if_neg h1]
    simp only [Option.bind_some]
    rw [if_neg (by simp), wordT_none k (.inl (by omega))]
theorem nameT_spec (n t : ByteArray) : spec_l22Named.f n t = some (nameT n t) := by
  unfold spec_l22Named.f nameT
  split <;> rfl
theorem nameT_impl (n t : ByteArray) : impl_nameOr.f n t = some (nameT n t) := by
  unfold impl_nameOr.f nameT
  split <;> rfl
def digB (n : Nat) : ByteArray := ⟨(Lib.decDigits n).toArray⟩
theorem digits_l (n : Nat) : ∀ x : ByteArray, 0 < n → n + x.size ≤ 4000000 → Ev (fun k => spec_l22Digits.l0 k (n : Int) x) (digB n ++ x) := by
  induction n using Nat.strongRecOn with
  | _ n ih =>
  intro x hn hx
  have ht : Int.tmod (n : Int) 10 = ((n % 10 : Nat) : Int) := by rw [Int.tmod_eq_emod_of_nonneg (by omega)]; omega
  have hd : Int.tdiv (n : Int) 10 = ((n / 10 : Nat) : Int) := by rw [Int.tdiv_eq_ediv_of_nonneg (by omega)]; omega
  have w1 : wrap64 (48 + Int.tmod (n : Int) 10) % 256 = ((48 + n % 10 : Nat) : Int) := by rw [ht]; unfold wrap64; omega
  have w2 : wrap64 (Int.tdiv (n : Int) 10) = ((n / 10 : Nat) : Int) := by rw [hd]; unfold wrap64; omega
  have es : strOfNums [((48 + n % 10 : Nat) : Int)] = ⟨#[UInt8.ofNat (48 + n % 10)]⟩ := rfl
  have hz : ((⟨#[UInt8.ofNat (48 + n % 10)]⟩ : ByteArray) ++ x).size = 1 + x.size := by rw [ByteArray.size_append]; rfl
  refine Ev.step (fun k => by simp only [spec_l22Digits.l0]; rfl) (Ev.ifp (show (n : Int) > 0 by omega) ?_)
  refine Ev.bindc rfl ?_
  rw [w1, w2, es]
  refine Ev.ifp (show (⟨#[UInt8.ofNat (48 + n % 10)]⟩ : ByteArray).size + x.size ≤ _ by show 1 + x.size ≤ _; omega) ?_
  by_cases h10 : n < 10
  · rw [show n / 10 = 0 by omega]
    refine Ev.step (fun k => by simp only [spec_l22Digits.l0]; rfl) (Ev.ifn (by decide) ?_)
    have : digB n ++ x = (⟨#[UInt8.ofNat (48 + n % 10)]⟩ : ByteArray) ++ x := by
      unfold digB
      rw [Lib.decDigits, dif_pos h10, show n % 10 = n by omega]
    rw [this]
    exact Ev.now _
  · have := ih (n / 10) (by omega) ((⟨#[UInt8.ofNat (48 + n % 10)]⟩ : ByteArray) ++ x) (by omega) (by rw [hz]; omega)
    have e : digB n ++ x = digB (n / 10) ++ ((⟨#[UInt8.ofNat (48 + n % 10)]⟩ : ByteArray) ++ x) := by
      have e1 : digB n = digB (n / 10) ++ (⟨#[UInt8.ofNat (48 + n % 10)]⟩ : ByteArray) := by
        unfold digB
        rw [Lib.decDigits, dif_neg h10]
        refine ByteArray.ext ?_
        rw [ByteArray.data_append]
        simp
      rw [e1, ByteArray.append_assoc]
    rw [e]
    exact this
theorem digits_ev (n : Nat) (h : n ≤ 3000000) : Ev (fun k => spec_l22Digits.f k (n : Int)) (digB n) := by
  unfold spec_l22Digits.f
  by_cases c : n = 0
  · subst c
    refine Ev.ifp (by decide) ?_
    rw [show digB 0 = (⟨#[48]⟩ : ByteArray) by unfold digB; rw [Lib.decDigits, dif_pos (by decide)]; rfl]
    exact Ev.now _
  · have := digits_l n (⟨#[]⟩ : ByteArray) (by omega) (by show n + 0 ≤ _; omega)
    rw [show digB n ++ (⟨#[]⟩ : ByteArray) = digB n from ByteArray.append_empty] at this
    exact Ev.ifn (by omega) this
theorem digits_size (n : Nat) : 1 ≤ n → (digB n).size ≤ n := by
  induction n using Nat.strongRecOn with
  | _ n ih =>
  intro hn
  by_cases h10 : n < 10
  · show (digB n).size ≤ n
    have : (digB n).size = 1 := by unfold digB; rw [Lib.decDigits, dif_pos h10]; rfl
    omega
  · have := ih (n / 10) (by omega) (by omega)
    have e : (digB n).size = (digB (n / 10)).size + 1 := by
      unfold digB
      rw [Lib.decDigits, dif_neg h10]
      simp [ByteArray.size]
    omega
theorem itoa_f (n : Nat) (h : n ≤ 3000000) : strconv_Itoa.f (n : Int) = some (digB n) := by
  unfold strconv_Itoa.f
  rw [if_pos (by omega)]
  unfold Lib.itoa digB
  rw [if_neg (by omega), Int.toNat_natCast]
def lineT (k : Int) (n : ByteArray) (m : Nat) (t : ByteArray) (s : Bool) : ByteArray :=
  if s = true then ((((wordT k ++ (⟨#[32]⟩ : ByteArray)) ++ nameT n t) ++ (⟨#[32, 61]⟩ : ByteArray)) ++ digB m) ++ (⟨#[32, 115, 101, 108, 102]⟩ : ByteArray)
  else (((wordT k ++ (⟨#[32]⟩ : ByteArray)) ++ nameT n t) ++ (⟨#[32, 61]⟩ : ByteArray)) ++ digB m
theorem digits_small (n : Nat) : (digB n).size ≤ n + 1 := by
  by_cases c : n = 0
  · subst c
    rw [show digB 0 = (⟨#[48]⟩ : ByteArray) by unfold digB; rw [Lib.decDigits, dif_pos (by decide)]; rfl]
    decide
  · have := digits_size n (by omega); omega
theorem lineT_size (k : Int) (n : ByteArray) (m : Nat) (t : ByteArray) (s : Bool) : (lineT k n m t s).size ≤ n.size + t.size + m + 14 := by
  have h1 := wordT_size k
  have h2 := nameT_small n t
  have h3 := digits_small m
  unfold lineT
  split
  · simp only [ByteArray.size_append, show (⟨#[32]⟩ : ByteArray).size = 1 from rfl, show (⟨#[32, 61]⟩ : ByteArray).size = 2 from rfl, show (⟨#[32, 115, 101, 108, 102]⟩ : ByteArray).size = 5 from rfl]
    omega
  · simp only [ByteArray.size_append, show (⟨#[32]⟩ : ByteArray).size = 1 from rfl, show (⟨#[32, 61]⟩ : ByteArray).size = 2 from rfl]
    omega
theorem TokenText_both (k : Int) (n : ByteArray) (l : List IAt) (t : ByteArray) (s : Bool) (hn : n.size ≤ 1048576) (ht : t.size ≤ 1048576) (hl : l.length ≤ 1048576) :
    impl_TokenText.f k n l t s = some (lineT k n l.length t s) ∧ Ev (fun q => spec_TokenText.f q k n l t s) (lineT k n l.length t s) := by
  have h1 := wordT_size k
  have h2 := nameT_small n t
  have h3 := digits_small l.length
  have z1 : (wordT k ++ (⟨#[32]⟩ : ByteArray)).size = (wordT k).size + 1 := by rw [ByteArray.size_append]; rfl
  have z2 : ((wordT k ++ (⟨#[32]⟩ : ByteArray)) ++ nameT n t).size = (wordT k).size + 1 + (nameT n t).size := by rw [ByteArray.size_append, z1]
  have z3 : (((wordT k ++ (⟨#[32]⟩ : ByteArray)) ++ nameT n t) ++ (⟨#[32, 61]⟩ : ByteArray)).size = (wordT k).size + 1 + (nameT n t).size + 2 := by rw [ByteArray.size_append, z2]; rfl
  have z4 : ((((wordT k ++ (⟨#[32]⟩ : ByteArray)) ++ nameT n t) ++ (⟨#[32, 61]⟩ : ByteArray)) ++ digB l.length).size = (wordT k).size + 1 + (nameT n t).size + 2 + (digB l.length).size := by rw [ByteArray.size_append, z3]
  constructor
  · unfold impl_TokenText.f
    rw [wordT_impl, Option.bind_some, if_pos (by omega), nameT_impl, Option.bind_some, if_pos (by omega), if_pos (by omega), itoa_f _ (by omega), Option.bind_some, if_pos (by omega)]
    unfold lineT
    cases s with
    | true => rw [if_pos rfl, if_pos (by omega), if_pos rfl]
    | false => rw [if_neg (by simp), if_neg (by simp)]
  · unfold spec_TokenText.f
    refine Ev.bindc (wordT_spec k) (Ev.ifp (by omega) (Ev.bindc (nameT_spec n t) (Ev.ifp (by omega) (Ev.ifp (by omega) (Ev.bind (digits_ev _ (by omega)) (Ev.ifp (by omega) ?_))))))
    cases s with
    | true =>
      refine Ev.ifp rfl (Ev.ifp (by omega) ?_)
      unfold lineT
      rw [if_pos rfl]; exact Ev.now _
    | false =>
      refine Ev.ifn (by simp) ?_
      unfold lineT
      rw [if_neg (by simp)]; exact Ev.now _
end Go.Proofs.YtkmmoheeoblmnaaDoor.A
namespace Go.Proofs.YtkmmoheeoblmnaaDoor.A
open Go.RowKit Go.Proofs.YtkmmoheeoblmnaaDoorW.PrintWords Go.Proofs.YtkmmoheeoblmnaaDoorW.PrintLast Go.Proofs.YtkmmoheeoblmnaaDoorW.PrintMore
set_option linter.unusedVariables false
theorem rdLTk (l : List LTk) (j : Int) (h : j.toNat < l.length) : rd_T24 l j = l[j.toNat] := by
  unfold rd_T24; rw [List.getD_eq_getElem?_getD, List.getElem?_eq_getElem h]; rfl
theorem rdITk (l : List ITk) (j : Int) (h : j.toNat < l.length) : rd_T29 l j = l[j.toNat] := by
  unfold rd_T29; rw [List.getD_eq_getElem?_getD, List.getElem?_eq_getElem h]; rfl
def sTL (l : List LTk) : Nat := l.length + (l.map sT).sum
theorem sum_memT {α : Type} {f : α → Nat} {l : List α} {e : α} (h : e ∈ l) : f e ≤ (l.map f).sum := by
  induction l with
  | nil => simp at h
  | cons y ys ih =>
    rw [List.map_cons, List.sum_cons]
    rcases List.mem_cons.1 h with rfl | h
    · omega
    · have := ih h; omega
theorem ev_szTokenS (l : List LTk) (hl : l.length ≤ 9223372036854775807) (hf : ∀ e ∈ l, fitT e) (x : Int) (hx : 0 ≤ x) (hB : x ≤ 1048576) : Ev (fun k => laws_szTokenS.f k l x) (res (sTL l) x) := by
  unfold laws_szTokenS.f
  rw [wrapLessT hx hB hl]
  by_cases c : x - (l.length : Int) < 0
  · refine Ev.ifp c ?_
    unfold sTL
    rw [res_less (by omega)]
    exact Ev.now _
  · refine Ev.ifn c ?_
    have := loopRes (fun k l x j => laws_szTokenS.l0 k l x j) rd_T24 sT (fun k e x => laws_szToken.f k e.f0 e.f1 e.f2 e.f3 e.f4 x) (fun k l x j => by simp only [laws_szTokenS.l0]) rdLTk l hl 1048576
      (fun e he x hx hB => ev_szToken e (hf e he) x hx hB) l.length 0 (x - l.length) (by omega) (by simp) (by omega) (by omega) (by omega)
    rw [Int.toNat_zero, List.drop_zero, res_add (by omega)] at this
    exact this
theorem ev_toTokenS (l : List LTk) (hs : sTL l ≤ 1048576) : Ev (fun k => laws_toTokenS.f k l) (l.map cT) := by
  unfold sTL at hs
  unfold laws_toTokenS.f
  refine Ev.ifp (by omega) (Ev.ifp (by omega) ?_)
  exact loopTo (fun k l m j => laws_toTokenS.l0 k l m j) rd_T24 cT (fun k e => laws_toToken.f k e.f0 e.f1 e.f2 e.f3 e.f4) (fun e => ((cT e).f0, (cT e).f1, (cT e).f2, (cT e).f3, (cT e).f4)) (fun t => ⟨t.1, t.2.1, t.2.2.1, t.2.2.2.1, t.2.2.2.2⟩) (fun k l m j => by simp only [laws_toTokenS.l0]) rdLTk l (by omega)
    (fun e he => ev_toToken e (by have h1 := sum_memT (f := sT) he; omega))
    (fun e _ => rfl) l.length 0 _ (by omega) (by simp) (by omega) (by simp) (by simp)
theorem ev_eqTokenS (l : List LTk) (hs : sTL l ≤ 1048576) : Ev (fun k => laws_eqTokenS.f k (l.map cT) (l.map cT)) true := by
  unfold sTL at hs
  unfold laws_eqTokenS.f
  refine Ev.ifp rfl ?_
  exact loopEq (fun k l m j => laws_eqTokenS.l0 k l m j) rd_T29 (fun k a b => laws_eqToken.f k a.f0 a.f1 a.f2 a.f3 a.f4 b.f0 b.f1 b.f2 b.f3 b.f4) (fun k l m j => by simp only [laws_eqTokenS.l0]) rdITk (l.map cT) (by rw [List.length_map]; omega)
    (fun e he => by
      obtain ⟨y, hy, rfl⟩ := List.mem_map.1 he
      have h1 := sum_memT (f := sT) hy
      exact ev_eqToken y (by omega))
    (l.map cT).length 0 (by omega) (by simp) (by omega)
def linesT : List ITk → List UInt8
  | [] => []
  | t :: r => (lineT t.f0 t.f1 t.f2.length t.f3 t.f4 ++ (⟨#[10]⟩ : ByteArray)).data.toList ++ linesT r
theorem tkapp (a : List UInt8) (t : ByteArray) : (⟨a.toArray⟩ : ByteArray) ++ t = ⟨(a ++ t.data.toList).toArray⟩ := ByteArray.ext (by cases t; simp [ByteArray.data_append])
theorem tksize (a : List UInt8) : (⟨a.toArray⟩ : ByteArray).size = a.length := by simp [ByteArray.size]
def sizesT (l : List ITk) : Nat := (l.map fun t => t.f1.size + t.f2.length + t.f3.size).sum
theorem lines_impl : ∀ (l : List ITk) (o : List UInt8), (∀ t ∈ l, t.f1.size ≤ 1048576 ∧ t.f2.length ≤ 1048576 ∧ t.f3.size ≤ 1048576) → o.length + 20 * l.length + sizesT l ≤ 100000000 → tksF l o = some ⟨(o ++ linesT l).toArray⟩
  | [], o, _, _ => by rw [tksF, linesT, List.append_nil]
  | t :: r, o, h, hs => by
    obtain ⟨h1, h2, h3⟩ := h t (by simp)
    have hz := lineT_size t.f0 t.f1 t.f2.length t.f3 t.f4
    have e := (TokenText_both t.f0 t.f1 t.f2 t.f3 t.f4 h1 h3 h2).1
    have hs' : o.length + 20 * (r.length + 1) + (t.f1.size + t.f2.length + t.f3.size + sizesT r) ≤ 100000000 := hs
    have hl : (lineT t.f0 t.f1 t.f2.length t.f3 t.f4 ++ (⟨#[10]⟩ : ByteArray)).data.toList.length = (lineT t.f0 t.f1 t.f2.length t.f3 t.f4).size + 1 := by rw [data_length, ByteArray.size_append]; rfl
    rw [tksF, e, Option.bind_some, if_pos ⟨by omega, by omega⟩, lines_impl r _ (fun t' ht => h t' (by simp [ht])) (by rw [List.length_append, hl]; omega), linesT, List.append_assoc]
theorem lines_spec (L : List ITk) (hL : L.length ≤ 1048576) (h : ∀ t ∈ L, t.f1.size ≤ 1048576 ∧ t.f2.length ≤ 1048576 ∧ t.f3.size ≤ 1048576) : ∀ (d : Nat) (j : Int) (o : List UInt8), 0 ≤ j → L.length - j.toNat = d → j ≤ (L.length : Int) → o.length + 20 * d + sizesT (L.drop j.toNat) ≤ 100000000 →
    Ev (fun k => spec_TokensText.l0 k L ⟨o.toArray⟩ j) ⟨(o ++ linesT (L.drop j.toNat)).toArray⟩ := by
  intro d
  induction d with
  | zero =>
    intro j o h0 hd hj hs
    refine Ev.step (fun k => by simp only [spec_TokensText.l0]; rfl) (Ev.ifn (show ¬ j < (L.length : Int) by omega) ?_)
    rw [List.drop_eq_nil_of_le (by omega), linesT, List.append_nil]
    exact Ev.now _
  | succ d ih =>
    intro j o h0 hd hj hs
    have hlt : j.toNat < L.length := by omega
    have hw : wrap64 (j + 1) = j + 1 := by unfold wrap64; omega
    have hmem : L[j.toNat] ∈ L := List.getElem_mem hlt
    obtain ⟨h1, h2, h3⟩ := h _ hmem
    have hdrop := List.drop_eq_getElem_cons hlt
    rw [hdrop] at hs ⊢
    refine Ev.step (fun k => by simp only [spec_TokensText.l0]; rfl) (Ev.ifp (show j < (L.length : Int) by omega) (Ev.ifp h0 ?_))
    rw [rdITk L j hlt]
    generalize L[j.toNat] = t at h1 h2 h3 hs ⊢
    have hz := lineT_size t.f0 t.f1 t.f2.length t.f3 t.f4
    have e := (TokenText_both t.f0 t.f1 t.f2 t.f3 t.f4 h1 h3 h2).2
    have hs' : o.length + 20 * (d + 1) + (t.f1.size + t.f2.length + t.f3.size + sizesT (L.drop (j.toNat + 1))) ≤ 100000000 := hs
    have hl : (lineT t.f0 t.f1 t.f2.length t.f3 t.f4 ++ (⟨#[10]⟩ : ByteArray)).data.toList.length = (lineT t.f0 t.f1 t.f2.length t.f3 t.f4).size + 1 := by rw [data_length, ByteArray.size_append]; rfl
    refine Ev.bind e (Ev.ifp (by rw [tksize]; omega) (Ev.ifp (by rw [ByteArray.size_append, tksize]; omega) ?_))
    rw [hw, ByteArray.append_assoc, tkapp]
    have := ih (j + 1) (o ++ (lineT t.f0 t.f1 t.f2.length t.f3 t.f4 ++ (⟨#[10]⟩ : ByteArray)).data.toList) (by omega) (by omega) (by omega) (by rw [List.length_append, hl, show (j + 1).toNat = j.toNat + 1 by omega]; omega)
    rw [show (j + 1).toNat = j.toNat + 1 by omega, List.append_assoc] at this
    rw [linesT]
    exact this
theorem TokensText_pure (l : List LTk) (hl : l.length ≤ 9223372036854775807) (hf : ∀ e ∈ l, fitT e) : ∃ k, laws_FnExactTokensText.f k l = some true := by
  refine Ev.rounds ?_
  unfold laws_FnExactTokensText.f
  refine Ev.bind (ev_szTokenS l hl hf 1048576 (by omega) (by omega)) ?_
  by_cases hs : ((sTL l : Nat) : Int) ≤ 1048576
  · have hs' : sTL l ≤ 1048576 := by omega
    have t := ev_toTokenS l hs'
    have hb : ∀ t ∈ l.map cT, t.f1.size ≤ 1048576 ∧ t.f2.length ≤ 1048576 ∧ t.f3.size ≤ 1048576 := by
      intro t ht
      obtain ⟨y, hy, rfl⟩ := List.mem_map.1 ht
      have h1 := sum_memT (f := sT) hy
      unfold sTL at hs'
      unfold sT sAL at h1
      simp only [cT, List.length_map]
      unfold sT sAL at hs'
      omega
    have hsum : sizesT (l.map cT) ≤ sTL l := by
      have : ∀ l : List LTk, sizesT (l.map cT) ≤ (l.map sT).sum := by
        intro l
        induction l with
        | nil => exact Nat.le_refl _
        | cons y ys ih =>
          show (y.f1.size + (y.f2.map cA).length + y.f3.size) + sizesT (ys.map cT) ≤ sT y + (ys.map sT).sum
          rw [List.length_map]
          unfold sT sAL
          unfold sT sAL at ih
          omega
      have := this l
      unfold sTL
      omega
    have hlen : (l.map cT).length ≤ 1048576 := by rw [List.length_map]; unfold sTL at hs'; omega
    have e1 := lines_impl (l.map cT) [] hb (by simp only [List.length_nil]; omega)
    have e2 := lines_spec (l.map cT) hlen hb _ 0 [] (by omega) rfl (by omega) (by simp only [List.length_nil, Int.toNat_zero, List.drop_zero]; omega)
    rw [Int.toNat_zero, List.drop_zero] at e2
    exact Ev.ifn (by rw [res_neg (by omega)]; omega) (Ev.bind t (Ev.bind e2 (Ev.bind t (Ev.bindc e1 (Ev.ifp rfl (Ev.bind t (Ev.bind (ev_eqTokenS l hs') (Ev.ifp rfl (Ev.now _)))))))))
  · exact Ev.ifp (by rw [res_neg (by omega)]; exact hs) (Ev.now _)
end Go.Proofs.YtkmmoheeoblmnaaDoor.A
namespace Go.Proofs.YtkmmoheeoblmnaaDoor.A
open Go.RowKit Go.Proofs.YtkmmoheeoblmnaaDoorW.PrintWords Go.Proofs.YtkmmoheeoblmnaaDoorW.PrintLast Go.Proofs.YtkmmoheeoblmnaaDoorW.PrintMore
set_option linter.unusedVariables false
def Opens (P : Program) (n : Nat) (t : TypeId) {α : Type} (d : Kd α) (F : α → Prop) : Prop :=
  ∀ (H : Type) (enc : TypeId × Value → H) (w : World) (base : Nat) (spare : Nat → Bool) (held : Bool) (fuel : Nat) (cs : List Value) (x : DataW H × List MemPlace),
    fuel ≤ n → DataW.trod enc P w base spare held fuel t cs = some x → ∃ y, d.K w y cs ∧ F y
theorem Opens.int {P : Program} {t : TypeId} {k : IntKind} (n : Nat) (ht : P.underlying t = some (.int k)) : Opens P n t (Kd.int k) (fun x => (Lit.int k x).wf = true) := by
  intro H enc w base spare held fuel cs x _ h
  obtain ⟨m, rfl, _, hw⟩ := DataW.trod_int ht h
  exact ⟨m, rfl, hw⟩
theorem Opens.bool {P : Program} {t : TypeId} (n : Nat) (ht : P.underlying t = some .bool) : Opens P n t Kd.bool (fun _ => True) := by
  intro H enc w base spare held fuel cs x _ h
  obtain ⟨m, rfl, _⟩ := DataW.trod_bool ht h
  exact ⟨m, rfl, trivial⟩
theorem Opens.string {P : Program} {t : TypeId} (n : Nat) (ht : P.underlying t = some .string) : Opens P n t Kd.string (fun s => s.size ≤ 9223372036854775807) := by
  intro H enc w base spare held fuel cs x _ h
  obtain ⟨s, rfl, _, hs⟩ := DataW.trod_string ht h
  exact ⟨s, rfl, hs⟩
theorem Opens.slice {P : Program} {t e : TypeId} {α : Type} {d : Kd α} {F : α → Prop} {n : Nat} (e' : Nat) (ht : P.underlying t = some (.slice e)) (hC : P.cellsOf e = d.sz) (h : Opens P n e d F) :
    Opens P n t (Kd.slice e' d) (fun l => l.length ≤ 9223372036854775807 ∧ ∀ y ∈ l, F y) := by
  intro H enc w base spare held fuel cs x hn hx
  rcases DataW.trod_slice ht hx with ⟨rfl, _⟩ | ⟨a, len, cap, elems, rest, m, rfl, rfl, _, _, hl, hm, hel, hi, _, _⟩
  · exact ⟨[], ⟨none, 0, rfl, Nat.le_refl _, Kd.C_nil _ _⟩, by simp, by simp⟩
  · have each : ∀ i : Fin len, ∃ y : α, F y ∧ ∃ c, c.length = d.sz ∧ d.K w y c ∧ ∀ j u, c[j]? = some u → w.cell? (a.add (i.1 * d.sz + j)) = some u := by
      intro i
      have h1 := hi i.1 i.2
      have h2 : elems[i.1]? = some elems[i.1] := List.getElem?_eq_getElem (by omega)
      rw [h2] at h1
      obtain ⟨c, hc, hd⟩ := Option.bind_eq_some_iff.1 h1
      obtain ⟨_, hcl, hat⟩ := World.cells?_some hc
      obtain ⟨y, hK, hF⟩ := h H enc w base spare held m c _ (by omega) hd
      refine ⟨y, hF, c, by rw [hcl, hC], hK, fun j u hu => ?_⟩
      have hj : j < P.cellsOf e := by rw [← hcl]; exact (List.getElem?_eq_some_iff.1 hu).1
      have := hat j hj
      rw [hu, Go.Deep.add_add, hC] at this
      exact this
    have hlen : len ≤ 9223372036854775807 := Nat.le_trans hl hm
    refine ⟨List.ofFn fun i => Classical.choose (each i), ⟨some a, cap, by rw [List.length_ofFn], by rw [List.length_ofFn]; exact hl, ?_⟩, by rw [List.length_ofFn]; exact hlen, ?_⟩
    · refine ⟨rfl, by rw [List.length_ofFn]; exact hlen, fun _ => ⟨a, rfl, fun j p hp => ?_⟩⟩
      obtain ⟨hj, hp⟩ := List.getElem?_eq_some_iff.1 hp
      rw [List.length_ofFn] at hj
      rw [List.getElem_ofFn] at hp
      obtain ⟨_, c, h1, h2, h3⟩ := Classical.choose_spec (each ⟨j, hj⟩)
      rw [hp] at h2
      exact ⟨c, h1, h2, h3⟩
    · intro y hy
      obtain ⟨i, rfl⟩ := List.mem_ofFn.1 hy
      exact (Classical.choose_spec (each i)).1
end Go.Proofs.YtkmmoheeoblmnaaDoor.A
namespace Go.Proofs.YtkmmoheeoblmnaaDoor.A
open Go.RowKit Go.Proofs.YtkmmoheeoblmnaaDoorW.PrintWords Go.Proofs.YtkmmoheeoblmnaaDoorW.PrintLast Go.Proofs.YtkmmoheeoblmnaaDoorW.PrintMore
set_option linter.unusedVariables false
set_option maxRecDepth 100000 in
theorem opensAttr : ∀ n, Opens Tryd.prog n 69 k69 (fun x => x.f0.size ≤ 9223372036854775807 ∧ x.f1.size ≤ 9223372036854775807)
  | n => fun H enc w base spare held fuel cs x hn hx => by
    obtain ⟨xs, m, rfl, rfl, hcl, hxl, hf⟩ := DataW.trod_struct Tryd.underlying69 hx
    have hc : cs.length = 2 := hcl.trans (by kernel_rfl)
    have hxl' : xs.length = 2 := hxl
    match cs, hc with
    | [c0, c1], _ =>
    have g0 : DataW.trod enc Tryd.prog w base spare held m 9 [c0] = xs[0]? := by
      have h_ : DataW.trod enc Tryd.prog w base spare held m 9 (([c0, c1].drop 0).take (Tryd.prog.cellsOf 9)) = xs[0]? := hf 0 _ rfl
      rwa [show Tryd.prog.cellsOf 9 = 1 by kernel_rfl] at h_
    rw [List.getElem?_eq_getElem (by omega)] at g0
    have g1 : DataW.trod enc Tryd.prog w base spare held m 9 [c1] = xs[1]? := by
      have h_ : DataW.trod enc Tryd.prog w base spare held m 9 (([c0, c1].drop 1).take (Tryd.prog.cellsOf 9)) = xs[1]? := hf 1 _ rfl
      rwa [show Tryd.prog.cellsOf 9 = 1 by kernel_rfl] at h_
    rw [List.getElem?_eq_getElem (by omega)] at g1
    obtain ⟨y0, K0, F0⟩ := (Opens.string m Tryd.underlying9) H enc w base spare held m _ _ (Nat.le_refl _) g0
    obtain rfl := (List.cons.inj K0).1
    obtain ⟨y1, K1, F1⟩ := (Opens.string m Tryd.underlying9) H enc w base spare held m _ _ (Nat.le_refl _) g1
    obtain rfl := (List.cons.inj K1).1
    exact ⟨⟨y0, y1⟩, k69_mk w ⟨y0, y1⟩, F0, F1⟩
set_option maxRecDepth 100000 in
theorem opensToken : ∀ n, Opens Tryd.prog n 24 k24 (fun x => fitT x)
  | n => fun H enc w base spare held fuel cs x hn hx => by
    obtain ⟨xs, m, rfl, rfl, hcl, hxl, hf⟩ := DataW.trod_struct Tryd.underlying24 hx
    have hc : cs.length = 5 := hcl.trans (by kernel_rfl)
    have hxl' : xs.length = 5 := hxl
    match cs, hc with
    | [c0, c1, c2, c3, c4], _ =>
    have g0 : DataW.trod enc Tryd.prog w base spare held m 3 [c0] = xs[0]? := by
      have h_ : DataW.trod enc Tryd.prog w base spare held m 3 (([c0, c1, c2, c3, c4].drop 0).take (Tryd.prog.cellsOf 3)) = xs[0]? := hf 0 _ rfl
      rwa [show Tryd.prog.cellsOf 3 = 1 by kernel_rfl] at h_
    rw [List.getElem?_eq_getElem (by omega)] at g0
    have g1 : DataW.trod enc Tryd.prog w base spare held m 9 [c1] = xs[1]? := by
      have h_ : DataW.trod enc Tryd.prog w base spare held m 9 (([c0, c1, c2, c3, c4].drop 1).take (Tryd.prog.cellsOf 9)) = xs[1]? := hf 1 _ rfl
      rwa [show Tryd.prog.cellsOf 9 = 1 by kernel_rfl] at h_
    rw [List.getElem?_eq_getElem (by omega)] at g1
    have g2 : DataW.trod enc Tryd.prog w base spare held m 22 [c2] = xs[2]? := by
      have h_ : DataW.trod enc Tryd.prog w base spare held m 22 (([c0, c1, c2, c3, c4].drop 2).take (Tryd.prog.cellsOf 22)) = xs[2]? := hf 2 _ rfl
      rwa [show Tryd.prog.cellsOf 22 = 1 by kernel_rfl] at h_
    rw [List.getElem?_eq_getElem (by omega)] at g2
    have g3 : DataW.trod enc Tryd.prog w base spare held m 9 [c3] = xs[3]? := by
      have h_ : DataW.trod enc Tryd.prog w base spare held m 9 (([c0, c1, c2, c3, c4].drop 3).take (Tryd.prog.cellsOf 9)) = xs[3]? := hf 3 _ rfl
      rwa [show Tryd.prog.cellsOf 9 = 1 by kernel_rfl] at h_
    rw [List.getElem?_eq_getElem (by omega)] at g3
    have g4 : DataW.trod enc Tryd.prog w base spare held m 4 [c4] = xs[4]? := by
      have h_ : DataW.trod enc Tryd.prog w base spare held m 4 (([c0, c1, c2, c3, c4].drop 4).take (Tryd.prog.cellsOf 4)) = xs[4]? := hf 4 _ rfl
      rwa [show Tryd.prog.cellsOf 4 = 1 by kernel_rfl] at h_
    rw [List.getElem?_eq_getElem (by omega)] at g4
    obtain ⟨y0, K0, F0⟩ := (Opens.int m Tryd.underlying3 (k := .i64)) H enc w base spare held m _ _ (Nat.le_refl _) g0
    obtain rfl := (List.cons.inj K0).1
    obtain ⟨y1, K1, F1⟩ := (Opens.string m Tryd.underlying9) H enc w base spare held m _ _ (Nat.le_refl _) g1
    obtain rfl := (List.cons.inj K1).1
    obtain ⟨y2, K2, F2⟩ := (Opens.slice 69 Tryd.underlying22 (by kernel_rfl) (opensAttr m)) H enc w base spare held m _ _ (Nat.le_refl _) g2
    obtain ⟨A2, b2, K2, l2, r2⟩ := K2
    obtain rfl := (List.cons.inj K2).1
    obtain ⟨y3, K3, F3⟩ := (Opens.string m Tryd.underlying9) H enc w base spare held m _ _ (Nat.le_refl _) g3
    obtain rfl := (List.cons.inj K3).1
    obtain ⟨y4, K4, F4⟩ := (Opens.bool m Tryd.underlying4) H enc w base spare held m _ _ (Nat.le_refl _) g4
    obtain rfl := (List.cons.inj K4).1
    exact ⟨⟨y0, y1, y2, y3, y4⟩, k24_mk w ⟨y0, y1, y2, y3, y4⟩ l2 r2, F1, ⟨F2.1, F2.2⟩, F3⟩
end Go.Proofs.YtkmmoheeoblmnaaDoor.A
