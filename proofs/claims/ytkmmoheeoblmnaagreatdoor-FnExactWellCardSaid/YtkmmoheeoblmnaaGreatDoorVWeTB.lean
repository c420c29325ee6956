-- joined by wip/tools/shake.py
import Derived.Test.YtkmmoheeoblmnaaGreatDoorVWeTShelf
import Derived.Test.YtkmmoheeoblmnaaGreatDoorVWeTK
import Derived.Lib.OthersKept
import Derived.Lib.BufferKept
import Derived.Lib.FrozenHead2
import Derived.Lib.AppendStr
import Derived.Laws.Externs
import Derived.Lib.ConvBytes
import Derived.Laws.BytesArg
import Derived.Test.YtkmmoheeoblmnaaGreatDoorVWeTWWords
import Derived.Test.YtkmmoheeoblmnaaGreatDoorVWeTWMore
import Derived.Test.YtkmmoheeoblmnaaGreatDoorVWeTWInv
namespace Go.Proofs.YtkmmoheeoblmnaaGreatDoor.A
open Go.RowKit Go.Proofs.YtkmmoheeoblmnaaGreatDoorW.PrintWords Go.Proofs.YtkmmoheeoblmnaaGreatDoorW.PrintLast Go.Proofs.YtkmmoheeoblmnaaGreatDoorW.PrintMore
set_option linter.unusedVariables false
theorem bldSize : (Tryz.prog.info? 79).map (fun i => i.size) = some 2 := by kernel_rfl
theorem bldLies : liesAt Tryz.prog Tryz.prog.depth 79 (2 / Tryz.prog.cellsOf 79) 0 79 1 = true := by kernel_rfl
theorem bldByte : (Tryz.prog.info? 5).map (fun i => (i.zero, i.size, i.bytes)) = some (some (.int .u8 0), 1, 1) := by kernel_rfl
abbrev BldAt (B b : Nat) (p : Value) (bs : List Value) (w : World) : Prop := Lib.BuilderAtF 79 5 B b p bs w
abbrev Bld (B b : Nat) (bs : List Value) (w : World) : Prop := Lib.IsBuilderF 79 5 B b bs w
abbrev Okp (b : Nat) (w w' : World) : Prop := Lib.OthersKept 5 (some b) w w'
set_option maxHeartbeats 1000000 in
set_option maxRecDepth 100000 in
theorem bld_used (b : Nat) (w : World) (h0 : w.cell? ⟨b, 0, none⟩ = some (.pointer (some ⟨b, 0, none⟩))) :
  Calls Tryz.prog 123 #[.pointer (some ⟨b, 0, none⟩)] w fun e w' => e = .returned (.tuple #[]) ∧ w' = w := by
 obtain ⟨j, hj, _⟩ := Option.map_eq_some_iff.1 bldSize
 go_enter Tryz.func123, Tryz.ntmps123
 go_wp2
 rw [Lib.run_neq_ptr_same w _ Tryz.underlying77 hj]
 go_wp2
 go_end0
 exact ⟨rfl, rfl⟩
set_option maxHeartbeats 1000000 in
set_option maxRecDepth 100000 in
theorem bld_fresh (b : Nat) (w : World) (h0 : w.cell? ⟨b, 0, none⟩ = some (.pointer none)) (hsh : w.shape? b = some (79, 2)) (hfz : w.frozen? ⟨b, 0, none⟩ = false) :
  Calls Tryz.prog 123 #[.pointer (some ⟨b, 0, none⟩)] w fun e w' => e = .returned (.tuple #[]) ∧ w' = w.setCell ⟨b, 0, none⟩ (.pointer (some ⟨b, 0, none⟩)) := by
 obtain ⟨j, hj, hjs⟩ := Option.map_eq_some_iff.1 bldSize
 go_enter Tryz.func123, Tryz.ntmps123
 go_wp2
 rw [Lib.run_to_unsafe w ⟨b, 0, none⟩ Tryz.underlying77 Tryz.underlying145 hj (by rw [hjs]; decide) hsh (Nat.zero_lt_succ 1)]
 simp only [Result.andThen]
 rw [Oper.upon_value]
 go_wp2
 rw [run_callFunc_extern Tryz.func157 (by kernel_rfl) (by kernel_rfl) (by kernel_rfl) (e := Extern.AbiNoEscape.same) (by kernel_rfl)]
 rw [Lib.run_noEscape]
 simp only [Result.andThen]
 rw [Oper.upon_value]
 go_wp2
 rw [Lib.run_from_unsafe w ⟨b, 0, none⟩ Tryz.underlying145 Tryz.underlying77 hj hsh bldLies]
 simp only [Result.andThen]
 rw [Oper.upon_value]
 go_wp2
 go_end0
 exact ⟨rfl, rfl⟩
theorem bld_check (B b : Nat) (bs : List Value) (w : World) (h : Bld B b bs w) :
  Calls Tryz.prog 123 #[.pointer (some ⟨b, 0, none⟩)] w fun e w' => e = .returned (.tuple #[]) ∧ BldAt B b (.pointer (some ⟨b, 0, none⟩)) bs w' ∧ Below B w w' ∧ Okp b w w' := by
 rcases h with h | h
 ·refine (bld_fresh b w h.cell0 h.shape h.frozen0).mono ?_
  rintro e w' ⟨rfl, rfl⟩
  exact ⟨rfl, h.used _, (Below.refl B w).setCell (p := ⟨b, 0, none⟩) h.1 _, (Lib.OthersKept.refl _ _ w).setCell ⟨b, 0, none⟩ rfl _⟩
 ·refine (bld_used b w h.cell0).mono ?_
  rintro e w' ⟨rfl, rfl⟩
  exact ⟨rfl, h, Below.refl B _, Lib.OthersKept.refl _ _ _⟩
set_option maxHeartbeats 2000000 in
set_option maxRecDepth 100000 in
theorem bld_str (B b : Nat) (bs : List Value) (s : ByteArray) (w : World) (h : Bld B b bs w) (hlen : bs.length + s.size ≤ 140737488355328) (hBw : B ≤ w.heap.size) :
  Calls Tryz.prog 71 #[.pointer (some ⟨b, 0, none⟩), .string s] w fun e w' => e = .returned (.tuple #[.int .i64 s.size, .nilIface]) ∧ Bld B b (bs ++ Lib.strCells s) w' ∧ Below B w w' ∧ Okp b w w' := by
 obtain ⟨i0, hi, hz0, hz1, hz2⟩ := info_parts bldByte
 go_enter Tryz.func71, Tryz.ntmps71
 go_wp2_with (go_at_call 123; refine (bld_check B b bs _ h).mono ?_)
 rintro e w1 ⟨rfl, h1, hb1, hk1⟩
 obtain ⟨hB, v, hbk, hown, hne⟩ := h1
 have c0 : w1.cell? ⟨b, 0, none⟩ = some (.pointer (some ⟨b, 0, none⟩)) := by rw [Lib.cell_of_heap hbk]; rfl
 have c1 : w1.cell? ⟨b, 1, none⟩ = some v := by rw [Lib.cell_of_heap hbk]; rfl
 go_wp2_with (at_builtin; refine Lib.wpList_append_own_stringF _ rfl _ _ 22 9 rfl B 5 i0 Tryz.underlying22 Tryz.underlying9 hi hz0 hz1 hz2 _ _ _ rfl hown s rfl ?c3 ?c4 ?c5 ?_)
 case c3 => unfold maxLen; omega
 case c4 => omega
 case c5 => have := hb1.size; omega
 intro v' w2 hown' hgrow _
 have hlt : b < w1.heap.size := (Array.getElem?_eq_some_iff.1 hbk).1
 have hb2 : w2.heap[b]? = some (.cells #[.pointer (some ⟨b, 0, none⟩), v] 79 (0, 0)) := (hgrow.block b hlt (fun e => hne e.symm)).trans hbk
 have d0 : w2.cell? ⟨b, 0, none⟩ = some (.pointer (some ⟨b, 0, none⟩)) := by rw [Lib.cell_of_heap hb2]; rfl
 have d1 : w2.cell? ⟨b, 1, none⟩ = some v := by rw [Lib.cell_of_heap hb2]; rfl
 have f1 : w2.frozen? ⟨b, 1, none⟩ = false := Lib.frozen_of_heap hb2 1
 obtain ⟨ao, n', cap, rfl⟩ : ∃ ao n' cap, v' = .slice ao n' cap := by
  rcases hown'.2 with ⟨hv, _⟩ | ⟨g, cap, cur, fz, hv, _⟩
  ·exact ⟨_, _, _, hv⟩
  ·exact ⟨_, _, _, hv⟩
 go_wp2
 go_ret2
 exact ⟨rfl, .inr (Lib.BuilderAtF.put hB hb2 (bs' := bs ++ Lib.strCells s) (by simpa [Lib.strCells_length] using hown') (by decide)), (hb1.grown hgrow (by have := hb1.size; omega) (fun k hk => (hown.lt k hk).1)).setCell (p := ⟨b, 1, none⟩) hB _, (hk1.grown hgrow (Lib.ownsRowF_kind hown)).setCell ⟨b, 1, none⟩ rfl _⟩
theorem bld_string (B b : Nat) (l : List UInt8) (w : World) (h : Bld B b (Lib.byteCells l) w) (hBw : B ≤ w.heap.size) :
  Calls Tryz.prog 73 #[.pointer (some ⟨b, 0, none⟩)] w fun e w' => e = .returned (.string ⟨l.toArray⟩) ∧ Below B w w' ∧ Okp b w w' :=
 (Tryz.Builder_String_any_k B b l w h hBw).mono fun e w' hh => ⟨hh.1, hh.2.2.1, hh.2.2.2⟩
theorem bld_below {B b : Nat} {bs : List Value} {w w' : World} (h : Bld B b bs w) (hb : Below w.heap.size w w') : Bld B b bs w' := by
 have key : ∀ {p : Value}, BldAt B b p bs w → BldAt B b p bs w' := by
  intro p h
  have hlt := h.lt
  obtain ⟨hB, v, hc, ho, hne⟩ := h
  exact ⟨hB, v, (hb.block b hlt).trans hc, ho.kept (row := none) ⟨hb.os, hb.tape, hb.output, hb.size, fun k hk _ => hb.block k hk⟩ (by cases v.ownBlock <;> simp), hne⟩
 rcases h with h | h
 ·exact .inl (key h)
 ·exact .inr (key h)
theorem bld_new (w : World) : Bld w.heap.size w.heap.size [] (w.alloc (.cells #[.pointer none, .slice none 0 0] 79 (0, 0))) :=
 .inl ⟨Nat.le_refl _, .slice none 0 0, heap_alloc_new w _, World.ownsRowF_nil _ _ _ _, by simp [Value.ownBlock]⟩
theorem strCells_bytes (s : ByteArray) : Lib.strCells s = Lib.byteCells s.data.toList := rfl
theorem byteCells_append (a b : List UInt8) : Lib.byteCells (a ++ b) = Lib.byteCells a ++ Lib.byteCells b := by simp [Lib.byteCells]
theorem byteCells_len (a : List UInt8) : (Lib.byteCells a).length = a.length := by simp [Lib.byteCells]
def TxtRow (w : World) (b : Nat) (L : List Int) : Prop := L.length ≤ 9223372036854775807 ∧ ∃ C : Array Value, w.heap[b]? = some (.cells C 5 (C.size, C.size + 1)) ∧ L.length ≤ C.size ∧ ∀ j, j < L.length → C[j]? = some (.int .u8 (L.getD j 0))
theorem TxtRow.new (w : World) (s : ByteArray) (hs : s.size ≤ 9223372036854775807) : TxtRow (Lib.bytesWorld w 5 s) w.heap.size (bytesOf s) := by
 refine ⟨by rw [bytesOf_length]; exact hs, Lib.bytesCells w 5 s, Lib.bytesWorld_at_new w _ s, ?_, fun j hj => ?_⟩
 ·rw [bytesOf_length]; simp [Lib.bytesCells]
 ·rw [bytesOf_length] at hj
  have h' : j < s.data.toList.length := by rw [data_length]; exact hj
  have h2 : j < s.data.size := hj
  unfold Lib.bytesCells
  rw [Array.getElem?_append_left (by simpa using h2)]
  simp only [bytesOf, List.getD_eq_getElem?_getD, List.getElem?_map, List.getElem?_eq_getElem h', Array.getElem?_map, Array.getElem?_eq_getElem h2, Option.map_some, Option.getD_some, Array.getElem_toList]
theorem TxtRow.cell {w : World} {b : Nat} {L : List Int} (h : TxtRow w b L) (i : Nat) (hi : i < L.length) : w.cell? ⟨b, i, none⟩ = some (.int .u8 (L.getD i 0)) := by
 obtain ⟨_, C, hC, _, h2⟩ := h
 simp [World.cell?, hC, h2 i hi]
theorem TxtRow.set {w : World} {b : Nat} {L : List Int} (h : TxtRow w b L) (i : Nat) (hi : i < L.length) (x : Int) : TxtRow (w.setCell ⟨b, i, none⟩ (.int .u8 x)) b (L.set i x) := by
 obtain ⟨h0, C, hC, h1, h2⟩ := h
 refine ⟨by simpa using h0, C.setIfInBounds i (.int .u8 x), ?_, by simpa using h1, fun j hj => ?_⟩
 ·simp [World.setCell, Array.getElem?_modify, hC]
 ·rw [List.length_set] at hj
  rw [Array.getElem?_setIfInBounds, List.getD_eq_getElem?_getD, List.getElem?_set]
  by_cases hij : i = j
  ·subst hij
   have : i < C.size := by omega
   simp [hi, this]
  ·simp only [hij, if_false]
   rw [h2 j hj, List.getD_eq_getElem?_getD]
theorem TxtRow.reads {w : World} {b : Nat} {L : List Int} (h : TxtRow w b L) : ReadsInt w .u8 (some ⟨b, 0, none⟩) L.length L := by
 refine ⟨rfl, h.1, fun _ => ⟨_, rfl, fun j hj => ?_⟩⟩
 rw [add_plain, h.cell j hj]
theorem TxtRow.drew {w : World} {b : Nat} {L : List Int} (h : TxtRow w b L) (n : Nat) : TxtRow (w.drewN n) b L := h
theorem txt_C {w : World} {b : Nat} {L : List Int} (h : TxtRow w b L) : Kd.C (Kd.int .u8) w (some ⟨b, 0, none⟩) L.length L := by
 refine ⟨rfl, h.1, fun _ => ⟨_, rfl, fun j x hx => ?_⟩⟩
 have hjl : j < L.length := (List.getElem?_eq_some_iff.1 hx).1
 have hc := h.cell j hjl
 rw [List.getD_eq_getElem?_getD, hx, Option.getD_some] at hc
 refine ⟨[.int .u8 x], rfl, rfl, fun i u hu => ?_⟩
 cases i with
 | zero =>
  obtain rfl := Option.some.inj hu
  rw [add_plain]
  simpa [Kd.int, Kd.scalar] using hc
 | succ i => simp at hu
end Go.Proofs.YtkmmoheeoblmnaaGreatDoor.A
