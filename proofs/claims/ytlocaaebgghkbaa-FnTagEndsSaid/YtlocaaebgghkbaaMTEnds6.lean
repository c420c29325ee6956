-- joined by wip/tools/shake.py
import Derived.Test.YtlocaaebgghkbaaMTEnds0
import Derived.Test.YtlocaaebgghkbaaMTEnds1
import Derived.Test.YtlocaaebgghkbaaMTEnds3
import Derived.Test.YtlocaaebgghkbaaMTEnds4
import Derived.Test.YtlocaaebgghkbaaMTEnds5
import Derived.Test.YtlocaaebgghkbaaMTEnds2
namespace Go.Proofs.Ytlocaaebgghkbaa.A
open Go.RowKit Go.Proofs.YtlocaaebgghkbaaW.PrintWords Go.Proofs.YtlocaaebgghkbaaW.PrintLast Go.Proofs.YtlocaaebgghkbaaW.PrintMore
attribute [local go_sem] max2_int min2_int max_two min_two max_three min_three max_four min_four   -- for this text's walks alone
set_option linter.unusedVariables false
set_option linter.unusedSimpArgs false
mutual
def laws_FnTagEnds.j0 : Nat → ByteArray → Int → Int → List (S53) → Bool → Option (Bool)
 | 0, _, _, _, _, _ => none
 | k + 1, x3, x4, x5, x7, x80 => if x80 = true then (some false) else (laws_FnTagEnds.l0 k x3 x4 x5 x7 0)
def laws_FnTagEnds.l0 : Nat → ByteArray → Int → Int → List (S53) → Int → Option (Bool)
 | 0, _, _, _, _, _ => none
 | k + 1, x3, x4, x5, x7, x15 => if x15 < (x7.length : Int) then (laws_FnTagEnds.l1 k x3 x4 x5 x7 x15 0) else (if x5 = (-1) then (some true) else (if x5 > x4 then (if 0 ≤ x5 then (if x5 < (x3.size : Int) then (some ((bt x3 x5) == 62)) else (none)) else (none)) else (some false)))
def laws_FnTagEnds.l1 : Nat → ByteArray → Int → Int → List (S53) → Int → Int → Option (Bool)
 | 0, _, _, _, _, _, _ => none
 | k + 1, x3, x4, x5, x7, x15, x16 => if x16 < x15 then (if 0 ≤ x15 then (if x15 < (x7.length : Int) then (if 0 ≤ x16 then (if x16 < (x7.length : Int) then (if ((rd_T53 x7 x15).f0).toList = ((rd_T53 x7 x16).f0).toList then (some false) else (laws_FnTagEnds.l1 k x3 x4 x5 x7 x15 (wrap64 (x16 + 1)))) else (none)) else (none)) else (none)) else (none)) else (laws_FnTagEnds.l0 k x3 x4 x5 x7 (wrap64 (x15 + 1)))
end
def laws_FnTagEnds.f (k : Nat) (l0 : List Int) : Option (Bool) := (laws_big.f l0).bind fun t795 => (if t795 = true then (some true) else ((spec_DrawTagEnd.f k l0).bind fun bt796 => ((impl_TagEnd.f bt796.1 bt796.2).bind fun t798 => ((spec_DrawAttrs.f k l0).bind fun t799 => ((impl_Attrs.f k t799).bind fun bt800 => ((spec_Attrs.f k t799).bind fun bt804 => ((spec_DrawRaw.f k l0).bind fun t808 => ((spec_DrawRawEnd.f k l0).bind fun bt809 => ((spec_TagEnd.f k bt796.1 bt796.2).bind fun t812 => (if t798 = t812 then (if (bt800.2 != bt804.2) = true then (laws_FnTagEnds.j0 k bt796.1 bt796.2 t798 bt800.1 true) else ((laws_sameAttrs.f k bt800.1 bt804.1).bind fun t813 => (if t813 = true then ((impl_Raw.f t808).bind fun t814 => ((spec_Raw.f t808).bind fun t815 => (if (t814 != t815) = true then (laws_FnTagEnds.j0 k bt796.1 bt796.2 t798 bt800.1 true) else ((impl_RawEnd.f k bt809.1 bt809.2.1 bt809.2.2).bind fun t816 => ((spec_RawEnd.f k bt809.1 bt809.2.1 bt809.2.2).bind fun t817 => (laws_FnTagEnds.j0 k bt796.1 bt796.2 t798 bt800.1 (t816 != t817))))))) else (laws_FnTagEnds.j0 k bt796.1 bt796.2 t798 bt800.1 true)))) else (laws_FnTagEnds.j0 k bt796.1 bt796.2 t798 bt800.1 true)))))))))))
theorem laws_FnTagEnds.mono_l : ∀ k, (∀ y0 y1 y2 y3 y4, LeO (laws_FnTagEnds.j0 k y0 y1 y2 y3 y4) (laws_FnTagEnds.j0 (k + 1) y0 y1 y2 y3 y4)) ∧ (∀ y0 y1 y2 y3 y4, LeO (laws_FnTagEnds.l0 k y0 y1 y2 y3 y4) (laws_FnTagEnds.l0 (k + 1) y0 y1 y2 y3 y4)) ∧ (∀ y0 y1 y2 y3 y4 y5, LeO (laws_FnTagEnds.l1 k y0 y1 y2 y3 y4 y5) (laws_FnTagEnds.l1 (k + 1) y0 y1 y2 y3 y4 y5))
 | 0 => ⟨fun _ _ _ _ _ r h => by simp [laws_FnTagEnds.j0] at h, fun _ _ _ _ _ r h => by simp [laws_FnTagEnds.l0] at h, fun _ _ _ _ _ _ r h => by simp [laws_FnTagEnds.l1] at h⟩
 | k + 1 => by
  obtain ⟨ih0, ih1, ih2⟩ := laws_FnTagEnds.mono_l k
  refine ⟨?_, ?_, ?_⟩
  ·intro y0 y1 y2 y3 y4
   unfold laws_FnTagEnds.j0
   repeat' first
   | (with_reducible exact ih0 _ _ _ _ _)
   | (with_reducible exact ih1 _ _ _ _ _)
   | (with_reducible exact ih2 _ _ _ _ _ _)
   | (with_reducible exact impl_Attrs.mono _ _)
   | (with_reducible exact impl_RawEnd.mono _ _ _ _)
   | (with_reducible exact laws_sameAttrs.mono _ _ _)
   | (with_reducible exact spec_Attrs.mono _ _)
   | (with_reducible exact spec_DrawAttrs.mono _ _)
   | (with_reducible exact spec_DrawRaw.mono _ _)
   | (with_reducible exact spec_DrawRawEnd.mono _ _)
   | (with_reducible exact spec_DrawTagEnd.mono _ _)
   | (with_reducible exact spec_RawEnd.mono _ _ _ _)
   | (with_reducible exact spec_TagEnd.mono _ _ _)
   | (with_reducible exact LeO.refl _)
   | (with_reducible exact LeO.none _)
   | (with_reducible refine LeO.ite ?_ ?_)
   | (with_reducible refine LeO.bind ?_ (fun _ => ?_))
   | exact ih0 _ _ _ _ _
   | exact ih1 _ _ _ _ _
   | exact ih2 _ _ _ _ _ _
   | exact impl_Attrs.mono _ _
   | exact impl_RawEnd.mono _ _ _ _
   | exact laws_sameAttrs.mono _ _ _
   | exact spec_Attrs.mono _ _
   | exact spec_DrawAttrs.mono _ _
   | exact spec_DrawRaw.mono _ _
   | exact spec_DrawRawEnd.mono _ _
   | exact spec_DrawTagEnd.mono _ _
   | exact spec_RawEnd.mono _ _ _ _
   | exact spec_TagEnd.mono _ _ _
   | exact LeO.none _
   | refine LeO.ite ?_ ?_
   | refine LeO.bind ?_ (fun _ => ?_)
  ·intro y0 y1 y2 y3 y4
   unfold laws_FnTagEnds.l0
   repeat' first
   | (with_reducible exact ih0 _ _ _ _ _)
   | (with_reducible exact ih1 _ _ _ _ _)
   | (with_reducible exact ih2 _ _ _ _ _ _)
   | (with_reducible exact impl_Attrs.mono _ _)
   | (with_reducible exact impl_RawEnd.mono _ _ _ _)
   | (with_reducible exact laws_sameAttrs.mono _ _ _)
   | (with_reducible exact spec_Attrs.mono _ _)
   | (with_reducible exact spec_DrawAttrs.mono _ _)
   | (with_reducible exact spec_DrawRaw.mono _ _)
   | (with_reducible exact spec_DrawRawEnd.mono _ _)
   | (with_reducible exact spec_DrawTagEnd.mono _ _)
   | (with_reducible exact spec_RawEnd.mono _ _ _ _)
   | (with_reducible exact spec_TagEnd.mono _ _ _)
   | (with_reducible exact LeO.refl _)
   | (with_reducible exact LeO.none _)
   | (with_reducible refine LeO.ite ?_ ?_)
   | (with_reducible refine LeO.bind ?_ (fun _ => ?_))
   | exact ih0 _ _ _ _ _
   | exact ih1 _ _ _ _ _
   | exact ih2 _ _ _ _ _ _
   | exact impl_Attrs.mono _ _
   | exact impl_RawEnd.mono _ _ _ _
   | exact laws_sameAttrs.mono _ _ _
   | exact spec_Attrs.mono _ _
   | exact spec_DrawAttrs.mono _ _
   | exact spec_DrawRaw.mono _ _
   | exact spec_DrawRawEnd.mono _ _
   | exact spec_DrawTagEnd.mono _ _
   | exact spec_RawEnd.mono _ _ _ _
   | exact spec_TagEnd.mono _ _ _
   | exact LeO.none _
   | refine LeO.ite ?_ ?_
   | refine LeO.bind ?_ (fun _ => ?_)
  ·intro y0 y1 y2 y3 y4 y5
   unfold laws_FnTagEnds.l1
   repeat' first
   | (with_reducible exact ih0 _ _ _ _ _)
   | (with_reducible exact ih1 _ _ _ _ _)
   | (with_reducible exact ih2 _ _ _ _ _ _)
   | (with_reducible exact impl_Attrs.mono _ _)
   | (with_reducible exact impl_RawEnd.mono _ _ _ _)
   | (with_reducible exact laws_sameAttrs.mono _ _ _)
   | (with_reducible exact spec_Attrs.mono _ _)
   | (with_reducible exact spec_DrawAttrs.mono _ _)
   | (with_reducible exact spec_DrawRaw.mono _ _)
   | (with_reducible exact spec_DrawRawEnd.mono _ _)
   | (with_reducible exact spec_DrawTagEnd.mono _ _)
   | (with_reducible exact spec_RawEnd.mono _ _ _ _)
   | (with_reducible exact spec_TagEnd.mono _ _ _)
   | (with_reducible exact LeO.refl _)
   | (with_reducible exact LeO.none _)
   | (with_reducible refine LeO.ite ?_ ?_)
   | (with_reducible refine LeO.bind ?_ (fun _ => ?_))
   | exact ih0 _ _ _ _ _
   | exact ih1 _ _ _ _ _
   | exact ih2 _ _ _ _ _ _
   | exact impl_Attrs.mono _ _
   | exact impl_RawEnd.mono _ _ _ _
   | exact laws_sameAttrs.mono _ _ _
   | exact spec_Attrs.mono _ _
   | exact spec_DrawAttrs.mono _ _
   | exact spec_DrawRaw.mono _ _
   | exact spec_DrawRawEnd.mono _ _
   | exact spec_DrawTagEnd.mono _ _
   | exact spec_RawEnd.mono _ _ _ _
   | exact spec_TagEnd.mono _ _ _
   | exact LeO.none _
   | refine LeO.ite ?_ ?_
   | refine LeO.bind ?_ (fun _ => ?_)
theorem laws_FnTagEnds.mono : ∀ a0 k, LeO (laws_FnTagEnds.f k a0) (laws_FnTagEnds.f (k + 1) a0) := by
 intro a0 k
 obtain ⟨ih0, ih1, ih2⟩ := laws_FnTagEnds.mono_l k
 unfold laws_FnTagEnds.f
 repeat' first
   | (with_reducible exact ih0 _ _ _ _ _)
   | (with_reducible exact ih1 _ _ _ _ _)
   | (with_reducible exact ih2 _ _ _ _ _ _)
   | (with_reducible exact impl_Attrs.mono _ _)
   | (with_reducible exact impl_RawEnd.mono _ _ _ _)
   | (with_reducible exact laws_sameAttrs.mono _ _ _)
   | (with_reducible exact spec_Attrs.mono _ _)
   | (with_reducible exact spec_DrawAttrs.mono _ _)
   | (with_reducible exact spec_DrawRaw.mono _ _)
   | (with_reducible exact spec_DrawRawEnd.mono _ _)
   | (with_reducible exact spec_DrawTagEnd.mono _ _)
   | (with_reducible exact spec_RawEnd.mono _ _ _ _)
   | (with_reducible exact spec_TagEnd.mono _ _ _)
   | (with_reducible exact LeO.refl _)
   | (with_reducible exact LeO.none _)
   | (with_reducible refine LeO.ite ?_ ?_)
   | (with_reducible refine LeO.bind ?_ (fun _ => ?_))
   | exact ih0 _ _ _ _ _
   | exact ih1 _ _ _ _ _
   | exact ih2 _ _ _ _ _ _
   | exact impl_Attrs.mono _ _
   | exact impl_RawEnd.mono _ _ _ _
   | exact laws_sameAttrs.mono _ _ _
   | exact spec_Attrs.mono _ _
   | exact spec_DrawAttrs.mono _ _
   | exact spec_DrawRaw.mono _ _
   | exact spec_DrawRawEnd.mono _ _
   | exact spec_DrawTagEnd.mono _ _
   | exact spec_RawEnd.mono _ _ _ _
   | exact spec_TagEnd.mono _ _ _
   | exact LeO.none _
   | refine LeO.ite ?_ ?_
   | refine LeO.bind ?_ (fun _ => ?_)
set_option maxHeartbeats 8000000 in
set_option maxRecDepth 100000 in
theorem laws_FnTagEnds.calls (k : Nat) (A0 : Option Addr) (c0 : Nat) (l0 : List Int) (r : Bool) (w : World) (hr0 : Kd.C (Kd.int .u8) w A0 l0.length l0) (hc0 : l0.length ≤ c0) (hL : LibOk w) (h : laws_FnTagEnds.f k l0 = some r) :
  Calls Try.prog 9 #[.slice A0 l0.length c0] w fun e w' => e = .returned (.bool r) ∧ Below w.heap.size w w' := by
 have HR0 := Aside0.mk hr0
 have HC0 := Aside0.mk hc0
 clear hr0 hc0
 have HB := Aside0.mk (Below.refl w.heap.size w)
 have H : ((laws_big.f l0).bind fun t795 => (if t795 = true then (some true) else ((spec_DrawTagEnd.f k l0).bind fun bt796 => ((impl_TagEnd.f bt796.1 bt796.2).bind fun t798 => ((spec_DrawAttrs.f k l0).bind fun t799 => ((impl_Attrs.f k t799).bind fun bt800 => ((spec_Attrs.f k t799).bind fun bt804 => ((spec_DrawRaw.f k l0).bind fun t808 => ((spec_DrawRawEnd.f k l0).bind fun bt809 => ((spec_TagEnd.f k bt796.1 bt796.2).bind fun t812 => (if t798 = t812 then (if (bt800.2 != bt804.2) = true then (laws_FnTagEnds.j0 k bt796.1 bt796.2 t798 bt800.1 true) else ((laws_sameAttrs.f k bt800.1 bt804.1).bind fun t813 => (if t813 = true then ((impl_Raw.f t808).bind fun t814 => ((spec_Raw.f t808).bind fun t815 => (if (t814 != t815) = true then (laws_FnTagEnds.j0 k bt796.1 bt796.2 t798 bt800.1 true) else ((impl_RawEnd.f k bt809.1 bt809.2.1 bt809.2.2).bind fun t816 => ((spec_RawEnd.f k bt809.1 bt809.2.1 bt809.2.2).bind fun t817 => (laws_FnTagEnds.j0 k bt796.1 bt796.2 t798 bt800.1 (t816 != t817))))))) else (laws_FnTagEnds.j0 k bt796.1 bt796.2 t798 bt800.1 true)))) else (laws_FnTagEnds.j0 k bt796.1 bt796.2 t798 bt800.1 true)))))))))))) = some r := h
 clear h
 replace H := Option.bind_eq_some_iff.mp H
 obtain ⟨t795, A20, H⟩ := H
 replace H : (if t795 = true then (some true) else ((spec_DrawTagEnd.f k l0).bind fun bt796 => ((impl_TagEnd.f bt796.1 bt796.2).bind fun t798 => ((spec_DrawAttrs.f k l0).bind fun t799 => ((impl_Attrs.f k t799).bind fun bt800 => ((spec_Attrs.f k t799).bind fun bt804 => ((spec_DrawRaw.f k l0).bind fun t808 => ((spec_DrawRawEnd.f k l0).bind fun bt809 => ((spec_TagEnd.f k bt796.1 bt796.2).bind fun t812 => (if t798 = t812 then (if (bt800.2 != bt804.2) = true then (laws_FnTagEnds.j0 k bt796.1 bt796.2 t798 bt800.1 true) else ((laws_sameAttrs.f k bt800.1 bt804.1).bind fun t813 => (if t813 = true then ((impl_Raw.f t808).bind fun t814 => ((spec_Raw.f t808).bind fun t815 => (if (t814 != t815) = true then (laws_FnTagEnds.j0 k bt796.1 bt796.2 t798 bt800.1 true) else ((impl_RawEnd.f k bt809.1 bt809.2.1 bt809.2.2).bind fun t816 => ((spec_RawEnd.f k bt809.1 bt809.2.1 bt809.2.2).bind fun t817 => (laws_FnTagEnds.j0 k bt796.1 bt796.2 t798 bt800.1 (t816 != t817))))))) else (laws_FnTagEnds.j0 k bt796.1 bt796.2 t798 bt800.1 true)))) else (laws_FnTagEnds.j0 k bt796.1 bt796.2 t798 bt800.1 true))))))))))) = some r := H
 have A2 := Aside0.mk A20
 clear A20
 by_cases c3 : t795 = true
 ·subst c3
  have H1 : (some true) = some r := by rw [if_pos rfl] at H; exact H
  clear H
  have H := H1
  clear H1
  obtain rfl := Option.some.inj H
  go_enter Try.func9, Try.ntmps9
  go_wp2_with (first | (go_at_call 31; (with_reducible refine (laws_big.calls _ _ l0 true _ ?side1 ?side2 A2.out).mono ?_); (case side1 => repeat (first | exact HR0.out | (with_reducible refine Kd.C_alloc ?_ _) | (with_reducible refine Kd.C_drewN ?_ _) | (with_reducible refine Kd.C_drew ?_))); (case side2 => exact HC0.out); rintro e w' ⟨rfl, ⟨nd, rfl⟩⟩; (try first | exact ⟨rfl, _, World.drewN_drewN _ _ _⟩ | exact ⟨rfl, _, Eq.trans (World.drewN_drewN _ _ _) (congrArg (World.drewN _) (Nat.add_assoc _ _ _))⟩)))
  repeat (go_quiet (first | (go_at_call 31; (with_reducible refine (laws_big.calls _ _ l0 true _ ?side1 ?side2 A2.out).mono ?_); (case side1 => repeat (first | exact HR0.out | (with_reducible refine Kd.C_alloc ?_ _) | (with_reducible refine Kd.C_drewN ?_ _) | (with_reducible refine Kd.C_drew ?_))); (case side2 => exact HC0.out); rintro e w' ⟨rfl, ⟨nd, rfl⟩⟩; (try first | exact ⟨rfl, _, World.drewN_drewN _ _ _⟩ | exact ⟨rfl, _, Eq.trans (World.drewN_drewN _ _ _) (congrArg (World.drewN _) (Nat.add_assoc _ _ _))⟩))); try go_wp2_with (first | (go_at_call 31; (with_reducible refine (laws_big.calls _ _ l0 true _ ?side1 ?side2 A2.out).mono ?_); (case side1 => repeat (first | exact HR0.out | (with_reducible refine Kd.C_alloc ?_ _) | (with_reducible refine Kd.C_drewN ?_ _) | (with_reducible refine Kd.C_drew ?_))); (case side2 => exact HC0.out); rintro e w' ⟨rfl, ⟨nd, rfl⟩⟩; (try first | exact ⟨rfl, _, World.drewN_drewN _ _ _⟩ | exact ⟨rfl, _, Eq.trans (World.drewN_drewN _ _ _) (congrArg (World.drewN _) (Nat.add_assoc _ _ _))⟩))))
  go_ret
  exact ⟨by first | rfl | (simp [errW_none, errW_some] <;> rfl) | (simp [*, errW_none, errW_some] <;> rfl), by repeat (first | (with_reducible first | exact HB.out | apply below_alloc | apply pw_below_drewN | apply below_drew1) | exact HB.out)⟩
 ·replace c3 := Bool.eq_false_iff.mpr c3
  subst c3
  have H1 : ((spec_DrawTagEnd.f k l0).bind fun bt796 => ((impl_TagEnd.f bt796.1 bt796.2).bind fun t798 => ((spec_DrawAttrs.f k l0).bind fun t799 => ((impl_Attrs.f k t799).bind fun bt800 => ((spec_Attrs.f k t799).bind fun bt804 => ((spec_DrawRaw.f k l0).bind fun t808 => ((spec_DrawRawEnd.f k l0).bind fun bt809 => ((spec_TagEnd.f k bt796.1 bt796.2).bind fun t812 => (if t798 = t812 then (if (bt800.2 != bt804.2) = true then (laws_FnTagEnds.j0 k bt796.1 bt796.2 t798 bt800.1 true) else ((laws_sameAttrs.f k bt800.1 bt804.1).bind fun t813 => (if t813 = true then ((impl_Raw.f t808).bind fun t814 => ((spec_Raw.f t808).bind fun t815 => (if (t814 != t815) = true then (laws_FnTagEnds.j0 k bt796.1 bt796.2 t798 bt800.1 true) else ((impl_RawEnd.f k bt809.1 bt809.2.1 bt809.2.2).bind fun t816 => ((spec_RawEnd.f k bt809.1 bt809.2.1 bt809.2.2).bind fun t817 => (laws_FnTagEnds.j0 k bt796.1 bt796.2 t798 bt800.1 (t816 != t817))))))) else (laws_FnTagEnds.j0 k bt796.1 bt796.2 t798 bt800.1 true)))) else (laws_FnTagEnds.j0 k bt796.1 bt796.2 t798 bt800.1 true)))))))))) = some r := by rw [if_neg (show ¬ (false = true) by decide)] at H; exact H
  clear H
  have H := H1
  clear H1
  replace H := Option.bind_eq_some_iff.mp H
  obtain ⟨⟨t796, t797⟩, A40, H⟩ := H
  replace H : ((impl_TagEnd.f t796 t797).bind fun t798 => ((spec_DrawAttrs.f k l0).bind fun t799 => ((impl_Attrs.f k t799).bind fun bt800 => ((spec_Attrs.f k t799).bind fun bt804 => ((spec_DrawRaw.f k l0).bind fun t808 => ((spec_DrawRawEnd.f k l0).bind fun bt809 => ((spec_TagEnd.f k t796 t797).bind fun t812 => (if t798 = t812 then (if (bt800.2 != bt804.2) = true then (laws_FnTagEnds.j0 k t796 t797 t798 bt800.1 true) else ((laws_sameAttrs.f k bt800.1 bt804.1).bind fun t813 => (if t813 = true then ((impl_Raw.f t808).bind fun t814 => ((spec_Raw.f t808).bind fun t815 => (if (t814 != t815) = true then (laws_FnTagEnds.j0 k t796 t797 t798 bt800.1 true) else ((impl_RawEnd.f k bt809.1 bt809.2.1 bt809.2.2).bind fun t816 => ((spec_RawEnd.f k bt809.1 bt809.2.1 bt809.2.2).bind fun t817 => (laws_FnTagEnds.j0 k t796 t797 t798 bt800.1 (t816 != t817))))))) else (laws_FnTagEnds.j0 k t796 t797 t798 bt800.1 true)))) else (laws_FnTagEnds.j0 k t796 t797 t798 bt800.1 true))))))))) = some r := H
  have A4 := Aside0.mk A40
  clear A40
  replace H := Option.bind_eq_some_iff.mp H
  obtain ⟨t798, A50, H⟩ := H
  replace H : ((spec_DrawAttrs.f k l0).bind fun t799 => ((impl_Attrs.f k t799).bind fun bt800 => ((spec_Attrs.f k t799).bind fun bt804 => ((spec_DrawRaw.f k l0).bind fun t808 => ((spec_DrawRawEnd.f k l0).bind fun bt809 => ((spec_TagEnd.f k t796 t797).bind fun t812 => (if t798 = t812 then (if (bt800.2 != bt804.2) = true then (laws_FnTagEnds.j0 k t796 t797 t798 bt800.1 true) else ((laws_sameAttrs.f k bt800.1 bt804.1).bind fun t813 => (if t813 = true then ((impl_Raw.f t808).bind fun t814 => ((spec_Raw.f t808).bind fun t815 => (if (t814 != t815) = true then (laws_FnTagEnds.j0 k t796 t797 t798 bt800.1 true) else ((impl_RawEnd.f k bt809.1 bt809.2.1 bt809.2.2).bind fun t816 => ((spec_RawEnd.f k bt809.1 bt809.2.1 bt809.2.2).bind fun t817 => (laws_FnTagEnds.j0 k t796 t797 t798 bt800.1 (t816 != t817))))))) else (laws_FnTagEnds.j0 k t796 t797 t798 bt800.1 true)))) else (laws_FnTagEnds.j0 k t796 t797 t798 bt800.1 true)))))))) = some r := H
  have A5 := Aside0.mk A50
  clear A50
  replace H := Option.bind_eq_some_iff.mp H
  obtain ⟨t799, A60, H⟩ := H
  replace H : ((impl_Attrs.f k t799).bind fun bt800 => ((spec_Attrs.f k t799).bind fun bt804 => ((spec_DrawRaw.f k l0).bind fun t808 => ((spec_DrawRawEnd.f k l0).bind fun bt809 => ((spec_TagEnd.f k t796 t797).bind fun t812 => (if t798 = t812 then (if (bt800.2 != bt804.2) = true then (laws_FnTagEnds.j0 k t796 t797 t798 bt800.1 true) else ((laws_sameAttrs.f k bt800.1 bt804.1).bind fun t813 => (if t813 = true then ((impl_Raw.f t808).bind fun t814 => ((spec_Raw.f t808).bind fun t815 => (if (t814 != t815) = true then (laws_FnTagEnds.j0 k t796 t797 t798 bt800.1 true) else ((impl_RawEnd.f k bt809.1 bt809.2.1 bt809.2.2).bind fun t816 => ((spec_RawEnd.f k bt809.1 bt809.2.1 bt809.2.2).bind fun t817 => (laws_FnTagEnds.j0 k t796 t797 t798 bt800.1 (t816 != t817))))))) else (laws_FnTagEnds.j0 k t796 t797 t798 bt800.1 true)))) else (laws_FnTagEnds.j0 k t796 t797 t798 bt800.1 true))))))) = some r := H
  have A6 := Aside0.mk A60
  clear A60
  replace H := Option.bind_eq_some_iff.mp H
  obtain ⟨⟨t800, t801⟩, A70, H⟩ := H
  replace H : ((spec_Attrs.f k t799).bind fun bt804 => ((spec_DrawRaw.f k l0).bind fun t808 => ((spec_DrawRawEnd.f k l0).bind fun bt809 => ((spec_TagEnd.f k t796 t797).bind fun t812 => (if t798 = t812 then (if (t801 != bt804.2) = true then (laws_FnTagEnds.j0 k t796 t797 t798 t800 true) else ((laws_sameAttrs.f k t800 bt804.1).bind fun t813 => (if t813 = true then ((impl_Raw.f t808).bind fun t814 => ((spec_Raw.f t808).bind fun t815 => (if (t814 != t815) = true then (laws_FnTagEnds.j0 k t796 t797 t798 t800 true) else ((impl_RawEnd.f k bt809.1 bt809.2.1 bt809.2.2).bind fun t816 => ((spec_RawEnd.f k bt809.1 bt809.2.1 bt809.2.2).bind fun t817 => (laws_FnTagEnds.j0 k t796 t797 t798 t800 (t816 != t817))))))) else (laws_FnTagEnds.j0 k t796 t797 t798 t800 true)))) else (laws_FnTagEnds.j0 k t796 t797 t798 t800 true)))))) = some r := H
  have A7 := Aside0.mk A70
  clear A70
  replace H := Option.bind_eq_some_iff.mp H
  obtain ⟨⟨t804, t805⟩, A80, H⟩ := H
  replace H : ((spec_DrawRaw.f k l0).bind fun t808 => ((spec_DrawRawEnd.f k l0).bind fun bt809 => ((spec_TagEnd.f k t796 t797).bind fun t812 => (if t798 = t812 then (if (t801 != t805) = true then (laws_FnTagEnds.j0 k t796 t797 t798 t800 true) else ((laws_sameAttrs.f k t800 t804).bind fun t813 => (if t813 = true then ((impl_Raw.f t808).bind fun t814 => ((spec_Raw.f t808).bind fun t815 => (if (t814 != t815) = true then (laws_FnTagEnds.j0 k t796 t797 t798 t800 true) else ((impl_RawEnd.f k bt809.1 bt809.2.1 bt809.2.2).bind fun t816 => ((spec_RawEnd.f k bt809.1 bt809.2.1 bt809.2.2).bind fun t817 => (laws_FnTagEnds.j0 k t796 t797 t798 t800 (t816 != t817))))))) else (laws_FnTagEnds.j0 k t796 t797 t798 t800 true)))) else (laws_FnTagEnds.j0 k t796 t797 t798 t800 true))))) = some r := H
  have A8 := Aside0.mk A80
  clear A80
  replace H := Option.bind_eq_some_iff.mp H
  obtain ⟨t808, A90, H⟩ := H
  replace H : ((spec_DrawRawEnd.f k l0).bind fun bt809 => ((spec_TagEnd.f k t796 t797).bind fun t812 => (if t798 = t812 then (if (t801 != t805) = true then (laws_FnTagEnds.j0 k t796 t797 t798 t800 true) else ((laws_sameAttrs.f k t800 t804).bind fun t813 => (if t813 = true then ((impl_Raw.f t808).bind fun t814 => ((spec_Raw.f t808).bind fun t815 => (if (t814 != t815) = true then (laws_FnTagEnds.j0 k t796 t797 t798 t800 true) else ((impl_RawEnd.f k bt809.1 bt809.2.1 bt809.2.2).bind fun t816 => ((spec_RawEnd.f k bt809.1 bt809.2.1 bt809.2.2).bind fun t817 => (laws_FnTagEnds.j0 k t796 t797 t798 t800 (t816 != t817))))))) else (laws_FnTagEnds.j0 k t796 t797 t798 t800 true)))) else (laws_FnTagEnds.j0 k t796 t797 t798 t800 true)))) = some r := H
  have A9 := Aside0.mk A90
  clear A90
  replace H := Option.bind_eq_some_iff.mp H
  obtain ⟨⟨t809, t810, t811⟩, A100, H⟩ := H
  replace H : ((spec_TagEnd.f k t796 t797).bind fun t812 => (if t798 = t812 then (if (t801 != t805) = true then (laws_FnTagEnds.j0 k t796 t797 t798 t800 true) else ((laws_sameAttrs.f k t800 t804).bind fun t813 => (if t813 = true then ((impl_Raw.f t808).bind fun t814 => ((spec_Raw.f t808).bind fun t815 => (if (t814 != t815) = true then (laws_FnTagEnds.j0 k t796 t797 t798 t800 true) else ((impl_RawEnd.f k t809 t810 t811).bind fun t816 => ((spec_RawEnd.f k t809 t810 t811).bind fun t817 => (laws_FnTagEnds.j0 k t796 t797 t798 t800 (t816 != t817))))))) else (laws_FnTagEnds.j0 k t796 t797 t798 t800 true)))) else (laws_FnTagEnds.j0 k t796 t797 t798 t800 true))) = some r := H
  have A10 := Aside0.mk A100
  clear A100
  have HC11 := Aside0.mk H
  clear H
  go_enter Try.func9, Try.ntmps9
  go_upto_region 10 with (first | (go_at_call 31; (with_reducible refine (laws_big.calls _ _ l0 false _ ?side1 ?side2 A2.out).mono ?_); (case side1 => repeat (first | exact HR0.out | (with_reducible refine Kd.C_alloc ?_ _) | (with_reducible refine Kd.C_drewN ?_ _) | (with_reducible refine Kd.C_drew ?_))); (case side2 => exact HC0.out); rintro e w' ⟨rfl, ⟨nd, rfl⟩⟩; (try first | exact ⟨rfl, _, World.drewN_drewN _ _ _⟩ | exact ⟨rfl, _, Eq.trans (World.drewN_drewN _ _ _) (congrArg (World.drewN _) (Nat.add_assoc _ _ _))⟩)) | (go_at_call 32; (with_reducible refine (spec_DrawTagEnd.calls k _ _ l0 t796 t797 _ ?side1 ?side2 A4.out).mono ?_); (case side1 => repeat (first | exact HR0.out | (with_reducible refine Kd.C_alloc ?_ _) | (with_reducible refine Kd.C_drewN ?_ _) | (with_reducible refine Kd.C_drew ?_))); (case side2 => exact HC0.out); rintro e w12 ⟨rfl, hb⟩; have n0_ := Aside0.mk (below_step (by repeat (first | (with_reducible first | exact HB.out | apply below_alloc | apply pw_below_drewN | apply below_drew1) | exact HB.out)) hb); clear HB; have HB := n0_; clear n0_; (try clear hb); (try clear hb2); (try clear hk); (try clear hi)) | (go_at_call 11; (with_reducible refine (impl_TagEnd.calls t796 t797 t798 _ A5.out).mono ?_); rintro e w13 ⟨rfl, hb⟩; have n0_ := Aside0.mk (below_step (by repeat (first | (with_reducible first | exact HB.out | apply below_alloc | apply pw_below_drewN | apply below_drew1) | exact HB.out)) hb); clear HB; have HB := n0_; clear n0_; (try clear hb); (try clear hb2); (try clear hk); (try clear hi)) | (go_at_call 33; (with_reducible refine (spec_DrawAttrs.calls k _ _ l0 t799 _ ?side1 ?side2 A6.out).mono ?_); (case side1 => repeat (first | exact (Kd.C_below HR0.out HB.out) | (with_reducible refine Kd.C_alloc ?_ _) | (with_reducible refine Kd.C_drewN ?_ _) | (with_reducible refine Kd.C_drew ?_))); (case side2 => exact HC0.out); rintro e w14 ⟨rfl, hb⟩; have n0_ := Aside0.mk (below_step (by repeat (first | (with_reducible first | exact HB.out | apply below_alloc | apply pw_below_drewN | apply below_drew1) | exact HB.out)) hb); clear HB; have HB := n0_; clear n0_; (try clear hb); (try clear hb2); (try clear hk); (try clear hi)) | (go_at_call 20; (with_reducible refine (impl_Attrs.calls k t799 t800 t801 _ A7.out).mono ?_); rintro e w15 ⟨v802, rfl, ho0, hb⟩; have n0_ := Aside0.mk (Kd.R_lower ho0 (below_size (by repeat (first | (with_reducible first | exact HB.out | apply below_alloc | apply pw_below_drewN | apply below_drew1) | exact HB.out)))); have n1_ := Aside0.mk (below_step (by repeat (first | (with_reducible first | exact HB.out | apply below_alloc | apply pw_below_drewN | apply below_drew1) | exact HB.out)) hb); clear HB; have HO803 := n0_; have HB := n1_; clear n0_ n1_; (try clear hb); (try clear hb2); (try clear hk); (try clear hi); (try clear ho0)) | (go_at_call 19; (with_reducible refine (spec_Attrs.calls k t799 t804 t805 _ A8.out).mono ?_); rintro e w16 ⟨v806, rfl, ho0, hb⟩; have n0_ := Aside0.mk (Kd.R_elder' (by (with_reducible repeat (first | apply Kd.R_alloc | apply Kd.R_drewN | apply Kd.R_drew)); exact HO803.out) (Kd.R_base ho0) hb); have n1_ := Aside0.mk (Kd.R_lower (Kd.R_new' ho0 (Kd.R_lt (by (with_reducible repeat (first | apply Kd.R_alloc | apply Kd.R_drewN | apply Kd.R_drew)); exact HO803.out))) (below_size (by repeat (first | (with_reducible first | exact HB.out | apply below_alloc | apply pw_below_drewN | apply below_drew1) | exact HB.out)))); have n2_ := Aside0.mk (below_step (by repeat (first | (with_reducible first | exact HB.out | apply below_alloc | apply pw_below_drewN | apply below_drew1) | exact HB.out)) hb); clear HO803; clear HB; have HO803 := n0_; have HO807 := n1_; have HB := n2_; clear n0_ n1_ n2_; (try clear hb); (try clear hb2); (try clear hk); (try clear hi); (try clear ho0)) | (go_at_call 34; (with_reducible refine (spec_DrawRaw.calls k _ _ l0 t808 _ ?side1 ?side2 A9.out).mono ?_); (case side1 => repeat (first | exact (Kd.C_below HR0.out HB.out) | (with_reducible refine Kd.C_alloc ?_ _) | (with_reducible refine Kd.C_drewN ?_ _) | (with_reducible refine Kd.C_drew ?_))); (case side2 => exact HC0.out); rintro e w17 ⟨rfl, hb⟩; have n0_ := Aside0.mk (Kd.R_below (by (with_reducible repeat (first | apply Kd.R_alloc | apply Kd.R_drewN | apply Kd.R_drew)); exact HO803.out) hb); have n1_ := Aside0.mk (Kd.R_below (by (with_reducible repeat (first | apply Kd.R_alloc | apply Kd.R_drewN | apply Kd.R_drew)); exact HO807.out) hb); have n2_ := Aside0.mk (below_step (by repeat (first | (with_reducible first | exact HB.out | apply below_alloc | apply pw_below_drewN | apply below_drew1) | exact HB.out)) hb); clear HO803; clear HO807; clear HB; have HO803 := n0_; have HO807 := n1_; have HB := n2_; clear n0_ n1_ n2_; (try clear hb); (try clear hb2); (try clear hk); (try clear hi)) | (go_at_call 35; (with_reducible refine (spec_DrawRawEnd.calls k _ _ l0 t809 t810 t811 _ ?side1 ?side2 A10.out).mono ?_); (case side1 => repeat (first | exact (Kd.C_below HR0.out HB.out) | (with_reducible refine Kd.C_alloc ?_ _) | (with_reducible refine Kd.C_drewN ?_ _) | (with_reducible refine Kd.C_drew ?_))); (case side2 => exact HC0.out); rintro e w18 ⟨rfl, hb⟩; have n0_ := Aside0.mk (Kd.R_below (by (with_reducible repeat (first | apply Kd.R_alloc | apply Kd.R_drewN | apply Kd.R_drew)); exact HO803.out) hb); have n1_ := Aside0.mk (Kd.R_below (by (with_reducible repeat (first | apply Kd.R_alloc | apply Kd.R_drewN | apply Kd.R_drew)); exact HO807.out) hb); have n2_ := Aside0.mk (below_step (by repeat (first | (with_reducible first | exact HB.out | apply below_alloc | apply pw_below_drewN | apply below_drew1) | exact HB.out)) hb); clear HO803; clear HO807; clear HB; have HO803 := n0_; have HO807 := n1_; have HB := n2_; clear n0_ n1_ n2_; (try clear hb); (try clear hb2); (try clear hk); (try clear hi)))
  repeat (go_quiet (first | (go_at_call 31; (with_reducible refine (laws_big.calls _ _ l0 false _ ?side1 ?side2 A2.out).mono ?_); (case side1 => repeat (first | exact HR0.out | (with_reducible refine Kd.C_alloc ?_ _) | (with_reducible refine Kd.C_drewN ?_ _) | (with_reducible refine Kd.C_drew ?_))); (case side2 => exact HC0.out); rintro e w' ⟨rfl, ⟨nd, rfl⟩⟩; (try first | exact ⟨rfl, _, World.drewN_drewN _ _ _⟩ | exact ⟨rfl, _, Eq.trans (World.drewN_drewN _ _ _) (congrArg (World.drewN _) (Nat.add_assoc _ _ _))⟩)) | (go_at_call 32; (with_reducible refine (spec_DrawTagEnd.calls k _ _ l0 t796 t797 _ ?side1 ?side2 A4.out).mono ?_); (case side1 => repeat (first | exact HR0.out | (with_reducible refine Kd.C_alloc ?_ _) | (with_reducible refine Kd.C_drewN ?_ _) | (with_reducible refine Kd.C_drew ?_))); (case side2 => exact HC0.out); rintro e w12 ⟨rfl, hb⟩; have n0_ := Aside0.mk (below_step (by repeat (first | (with_reducible first | exact HB.out | apply below_alloc | apply pw_below_drewN | apply below_drew1) | exact HB.out)) hb); clear HB; have HB := n0_; clear n0_; (try clear hb); (try clear hb2); (try clear hk); (try clear hi)) | (go_at_call 11; (with_reducible refine (impl_TagEnd.calls t796 t797 t798 _ A5.out).mono ?_); rintro e w13 ⟨rfl, hb⟩; have n0_ := Aside0.mk (below_step (by repeat (first | (with_reducible first | exact HB.out | apply below_alloc | apply pw_below_drewN | apply below_drew1) | exact HB.out)) hb); clear HB; have HB := n0_; clear n0_; (try clear hb); (try clear hb2); (try clear hk); (try clear hi)) | (go_at_call 33; (with_reducible refine (spec_DrawAttrs.calls k _ _ l0 t799 _ ?side1 ?side2 A6.out).mono ?_); (case side1 => repeat (first | exact (Kd.C_below HR0.out HB.out) | (with_reducible refine Kd.C_alloc ?_ _) | (with_reducible refine Kd.C_drewN ?_ _) | (with_reducible refine Kd.C_drew ?_))); (case side2 => exact HC0.out); rintro e w14 ⟨rfl, hb⟩; have n0_ := Aside0.mk (below_step (by repeat (first | (with_reducible first | exact HB.out | apply below_alloc | apply pw_below_drewN | apply below_drew1) | exact HB.out)) hb); clear HB; have HB := n0_; clear n0_; (try clear hb); (try clear hb2); (try clear hk); (try clear hi)) | (go_at_call 20; (with_reducible refine (impl_Attrs.calls k t799 t800 t801 _ A7.out).mono ?_); rintro e w15 ⟨v802, rfl, ho0, hb⟩; have n0_ := Aside0.mk (Kd.R_lower ho0 (below_size (by repeat (first | (with_reducible first | exact HB.out | apply below_alloc | apply pw_below_drewN | apply below_drew1) | exact HB.out)))); have n1_ := Aside0.mk (below_step (by repeat (first | (with_reducible first | exact HB.out | apply below_alloc | apply pw_below_drewN | apply below_drew1) | exact HB.out)) hb); clear HB; have HO803 := n0_; have HB := n1_; clear n0_ n1_; (try clear hb); (try clear hb2); (try clear hk); (try clear hi); (try clear ho0)) | (go_at_call 19; (with_reducible refine (spec_Attrs.calls k t799 t804 t805 _ A8.out).mono ?_); rintro e w16 ⟨v806, rfl, ho0, hb⟩; have n0_ := Aside0.mk (Kd.R_elder' (by (with_reducible repeat (first | apply Kd.R_alloc | apply Kd.R_drewN | apply Kd.R_drew)); exact HO803.out) (Kd.R_base ho0) hb); have n1_ := Aside0.mk (Kd.R_lower (Kd.R_new' ho0 (Kd.R_lt (by (with_reducible repeat (first | apply Kd.R_alloc | apply Kd.R_drewN | apply Kd.R_drew)); exact HO803.out))) (below_size (by repeat (first | (with_reducible first | exact HB.out | apply below_alloc | apply pw_below_drewN | apply below_drew1) | exact HB.out)))); have n2_ := Aside0.mk (below_step (by repeat (first | (with_reducible first | exact HB.out | apply below_alloc | apply pw_below_drewN | apply below_drew1) | exact HB.out)) hb); clear HO803; clear HB; have HO803 := n0_; have HO807 := n1_; have HB := n2_; clear n0_ n1_ n2_; (try clear hb); (try clear hb2); (try clear hk); (try clear hi); (try clear ho0)) | (go_at_call 34; (with_reducible refine (spec_DrawRaw.calls k _ _ l0 t808 _ ?side1 ?side2 A9.out).mono ?_); (case side1 => repeat (first | exact (Kd.C_below HR0.out HB.out) | (with_reducible refine Kd.C_alloc ?_ _) | (with_reducible refine Kd.C_drewN ?_ _) | (with_reducible refine Kd.C_drew ?_))); (case side2 => exact HC0.out); rintro e w17 ⟨rfl, hb⟩; have n0_ := Aside0.mk (Kd.R_below (by (with_reducible repeat (first | apply Kd.R_alloc | apply Kd.R_drewN | apply Kd.R_drew)); exact HO803.out) hb); have n1_ := Aside0.mk (Kd.R_below (by (with_reducible repeat (first | apply Kd.R_alloc | apply Kd.R_drewN | apply Kd.R_drew)); exact HO807.out) hb); have n2_ := Aside0.mk (below_step (by repeat (first | (with_reducible first | exact HB.out | apply below_alloc | apply pw_below_drewN | apply below_drew1) | exact HB.out)) hb); clear HO803; clear HO807; clear HB; have HO803 := n0_; have HO807 := n1_; have HB := n2_; clear n0_ n1_ n2_; (try clear hb); (try clear hb2); (try clear hk); (try clear hi)) | (go_at_call 35; (with_reducible refine (spec_DrawRawEnd.calls k _ _ l0 t809 t810 t811 _ ?side1 ?side2 A10.out).mono ?_); (case side1 => repeat (first | exact (Kd.C_below HR0.out HB.out) | (with_reducible refine Kd.C_alloc ?_ _) | (with_reducible refine Kd.C_drewN ?_ _) | (with_reducible refine Kd.C_drew ?_))); (case side2 => exact HC0.out); rintro e w18 ⟨rfl, hb⟩; have n0_ := Aside0.mk (Kd.R_below (by (with_reducible repeat (first | apply Kd.R_alloc | apply Kd.R_drewN | apply Kd.R_drew)); exact HO803.out) hb); have n1_ := Aside0.mk (Kd.R_below (by (with_reducible repeat (first | apply Kd.R_alloc | apply Kd.R_drewN | apply Kd.R_drew)); exact HO807.out) hb); have n2_ := Aside0.mk (below_step (by repeat (first | (with_reducible first | exact HB.out | apply below_alloc | apply pw_below_drewN | apply below_drew1) | exact HB.out)) hb); clear HO803; clear HO807; clear HB; have HO803 := n0_; have HO807 := n1_; have HB := n2_; clear n0_ n1_ n2_; (try clear hb); (try clear hb2); (try clear hk); (try clear hi))); go_upto_region 10 with (first | (go_at_call 31; (with_reducible refine (laws_big.calls _ _ l0 false _ ?side1 ?side2 A2.out).mono ?_); (case side1 => repeat (first | exact HR0.out | (with_reducible refine Kd.C_alloc ?_ _) | (with_reducible refine Kd.C_drewN ?_ _) | (with_reducible refine Kd.C_drew ?_))); (case side2 => exact HC0.out); rintro e w' ⟨rfl, ⟨nd, rfl⟩⟩; (try first | exact ⟨rfl, _, World.drewN_drewN _ _ _⟩ | exact ⟨rfl, _, Eq.trans (World.drewN_drewN _ _ _) (congrArg (World.drewN _) (Nat.add_assoc _ _ _))⟩)) | (go_at_call 32; (with_reducible refine (spec_DrawTagEnd.calls k _ _ l0 t796 t797 _ ?side1 ?side2 A4.out).mono ?_); (case side1 => repeat (first | exact HR0.out | (with_reducible refine Kd.C_alloc ?_ _) | (with_reducible refine Kd.C_drewN ?_ _) | (with_reducible refine Kd.C_drew ?_))); (case side2 => exact HC0.out); rintro e w12 ⟨rfl, hb⟩; have n0_ := Aside0.mk (below_step (by repeat (first | (with_reducible first | exact HB.out | apply below_alloc | apply pw_below_drewN | apply below_drew1) | exact HB.out)) hb); clear HB; have HB := n0_; clear n0_; (try clear hb); (try clear hb2); (try clear hk); (try clear hi)) | (go_at_call 11; (with_reducible refine (impl_TagEnd.calls t796 t797 t798 _ A5.out).mono ?_); rintro e w13 ⟨rfl, hb⟩; have n0_ := Aside0.mk (below_step (by repeat (first | (with_reducible first | exact HB.out | apply below_alloc | apply pw_below_drewN | apply below_drew1) | exact HB.out)) hb); clear HB; have HB := n0_; clear n0_; (try clear hb); (try clear hb2); (try clear hk); (try clear hi)) | (go_at_call 33; (with_reducible refine (spec_DrawAttrs.calls k _ _ l0 t799 _ ?side1 ?side2 A6.out).mono ?_); (case side1 => repeat (first | exact (Kd.C_below HR0.out HB.out) | (with_reducible refine Kd.C_alloc ?_ _) | (with_reducible refine Kd.C_drewN ?_ _) | (with_reducible refine Kd.C_drew ?_))); (case side2 => exact HC0.out); rintro e w14 ⟨rfl, hb⟩; have n0_ := Aside0.mk (below_step (by repeat (first | (with_reducible first | exact HB.out | apply below_alloc | apply pw_below_drewN | apply below_drew1) | exact HB.out)) hb); clear HB; have HB := n0_; clear n0_; (try clear hb); (try clear hb2); (try clear hk); (try clear hi)) | (go_at_call 20; (with_reducible refine (impl_Attrs.calls k t799 t800 t801 _ A7.out).mono ?_); rintro e w15 ⟨v802, rfl, ho0, hb⟩; have n0_ := Aside0.mk (Kd.R_lower ho0 (below_size (by repeat (first | (with_reducible first | exact HB.out | apply below_alloc | apply pw_below_drewN | apply below_drew1) | exact HB.out)))); have n1_ := Aside0.mk (below_step (by repeat (first | (with_reducible first | exact HB.out | apply below_alloc | apply pw_below_drewN | apply below_drew1) | exact HB.out)) hb); clear HB; have HO803 := n0_; have HB := n1_; clear n0_ n1_; (try clear hb); (try clear hb2); (try clear hk); (try clear hi); (try clear ho0)) | (go_at_call 19; (with_reducible refine (spec_Attrs.calls k t799 t804 t805 _ A8.out).mono ?_); rintro e w16 ⟨v806, rfl, ho0, hb⟩; have n0_ := Aside0.mk (Kd.R_elder' (by (with_reducible repeat (first | apply Kd.R_alloc | apply Kd.R_drewN | apply Kd.R_drew)); exact HO803.out) (Kd.R_base ho0) hb); have n1_ := Aside0.mk (Kd.R_lower (Kd.R_new' ho0 (Kd.R_lt (by (with_reducible repeat (first | apply Kd.R_alloc | apply Kd.R_drewN | apply Kd.R_drew)); exact HO803.out))) (below_size (by repeat (first | (with_reducible first | exact HB.out | apply below_alloc | apply pw_below_drewN | apply below_drew1) | exact HB.out)))); have n2_ := Aside0.mk (below_step (by repeat (first | (with_reducible first | exact HB.out | apply below_alloc | apply pw_below_drewN | apply below_drew1) | exact HB.out)) hb); clear HO803; clear HB; have HO803 := n0_; have HO807 := n1_; have HB := n2_; clear n0_ n1_ n2_; (try clear hb); (try clear hb2); (try clear hk); (try clear hi); (try clear ho0)) | (go_at_call 34; (with_reducible refine (spec_DrawRaw.calls k _ _ l0 t808 _ ?side1 ?side2 A9.out).mono ?_); (case side1 => repeat (first | exact (Kd.C_below HR0.out HB.out) | (with_reducible refine Kd.C_alloc ?_ _) | (with_reducible refine Kd.C_drewN ?_ _) | (with_reducible refine Kd.C_drew ?_))); (case side2 => exact HC0.out); rintro e w17 ⟨rfl, hb⟩; have n0_ := Aside0.mk (Kd.R_below (by (with_reducible repeat (first | apply Kd.R_alloc | apply Kd.R_drewN | apply Kd.R_drew)); exact HO803.out) hb); have n1_ := Aside0.mk (Kd.R_below (by (with_reducible repeat (first | apply Kd.R_alloc | apply Kd.R_drewN | apply Kd.R_drew)); exact HO807.out) hb); have n2_ := Aside0.mk (below_step (by repeat (first | (with_reducible first | exact HB.out | apply below_alloc | apply pw_below_drewN | apply below_drew1) | exact HB.out)) hb); clear HO803; clear HO807; clear HB; have HO803 := n0_; have HO807 := n1_; have HB := n2_; clear n0_ n1_ n2_; (try clear hb); (try clear hb2); (try clear hk); (try clear hi)) | (go_at_call 35; (with_reducible refine (spec_DrawRawEnd.calls k _ _ l0 t809 t810 t811 _ ?side1 ?side2 A10.out).mono ?_); (case side1 => repeat (first | exact (Kd.C_below HR0.out HB.out) | (with_reducible refine Kd.C_alloc ?_ _) | (with_reducible refine Kd.C_drewN ?_ _) | (with_reducible refine Kd.C_drew ?_))); (case side2 => exact HC0.out); rintro e w18 ⟨rfl, hb⟩; have n0_ := Aside0.mk (Kd.R_below (by (with_reducible repeat (first | apply Kd.R_alloc | apply Kd.R_drewN | apply Kd.R_drew)); exact HO803.out) hb); have n1_ := Aside0.mk (Kd.R_below (by (with_reducible repeat (first | apply Kd.R_alloc | apply Kd.R_drewN | apply Kd.R_drew)); exact HO807.out) hb); have n2_ := Aside0.mk (below_step (by repeat (first | (with_reducible first | exact HB.out | apply below_alloc | apply pw_below_drewN | apply below_drew1) | exact HB.out)) hb); clear HO803; clear HO807; clear HB; have HO803 := n0_; have HO807 := n1_; have HB := n2_; clear n0_ n1_ n2_; (try clear hb); (try clear hb2); (try clear hk); (try clear hi))))
  (try simp only [Act.put, List.setIfInBounds_toArray, List.set_cons_zero, List.set_cons_succ])
  go_cut [80] (fun v80 wc => ∃ (kq : Nat) (x80_10 : Bool), v80 = .bool x80_10 ∧ Aside0 (laws_FnTagEnds.j0 kq t796 t797 t798 t800 x80_10 = some r) ∧ Aside0 (kq ≤ k) ∧ Aside0 (Kd.R k53 53 wc w.heap.size (fun _ => True) v802 t800) ∧ Aside0 (Below w.heap.size w wc))
  case first =>
   have H := HC11.out
   clear HC11
   replace H := Option.bind_eq_some_iff.mp H
   obtain ⟨t812, A190, H⟩ := H
   replace H : (if t798 = t812 then (if (t801 != t805) = true then (laws_FnTagEnds.j0 k t796 t797 t798 t800 true) else ((laws_sameAttrs.f k t800 t804).bind fun t813 => (if t813 = true then ((impl_Raw.f t808).bind fun t814 => ((spec_Raw.f t808).bind fun t815 => (if (t814 != t815) = true then (laws_FnTagEnds.j0 k t796 t797 t798 t800 true) else ((impl_RawEnd.f k t809 t810 t811).bind fun t816 => ((spec_RawEnd.f k t809 t810 t811).bind fun t817 => (laws_FnTagEnds.j0 k t796 t797 t798 t800 (t816 != t817))))))) else (laws_FnTagEnds.j0 k t796 t797 t798 t800 true)))) else (laws_FnTagEnds.j0 k t796 t797 t798 t800 true)) = some r := H
   have A19 := Aside0.mk A190
   clear A190
   by_cases c20 : t798 = t812
   ·rw [if_pos c20] at H
    have c20b0 : (t798 == t812) = true := beq_iff_eq.mpr c20
    have c20b1 : (t798 != t812) = false := bne_eq_false_iff_eq.mpr c20
    clear c20
    (first | rw [c20b0] | (simp only [i64_w, i32_w]; rw [c20b0]) | skip)
    by_cases c21 : (t801 != t805) = true
    ·rw [if_pos c21] at H
     have c21b0 : (t801 != t805) = true := c21
     (try (have c21b1 : decide (t801 = t805) = false := by simpa using c21))
     (try (have c21b2 : (t801 == t805) = false := by simpa using c21))
     (try (have c21b3 : ¬ (t801 = t805) := by simpa using c21))
     clear c21
     have H' := Aside0.mk H
     clear H
     go_wp2_with (first | (go_at_call 10; (with_reducible refine (spec_TagEnd.calls k t796 t797 t812 _ A19.out).mono ?_); rintro e w' ⟨rfl, ⟨nd, rfl⟩⟩; (try first | exact ⟨rfl, _, World.drewN_drewN _ _ _⟩ | exact ⟨rfl, _, Eq.trans (World.drewN_drewN _ _ _) (congrArg (World.drewN _) (Nat.add_assoc _ _ _))⟩)))
     repeat (go_quiet (first | (go_at_call 10; (with_reducible refine (spec_TagEnd.calls k t796 t797 t812 _ A19.out).mono ?_); rintro e w' ⟨rfl, ⟨nd, rfl⟩⟩; (try first | exact ⟨rfl, _, World.drewN_drewN _ _ _⟩ | exact ⟨rfl, _, Eq.trans (World.drewN_drewN _ _ _) (congrArg (World.drewN _) (Nat.add_assoc _ _ _))⟩))); try go_wp2_with (first | (go_at_call 10; (with_reducible refine (spec_TagEnd.calls k t796 t797 t812 _ A19.out).mono ?_); rintro e w' ⟨rfl, ⟨nd, rfl⟩⟩; (try first | exact ⟨rfl, _, World.drewN_drewN _ _ _⟩ | exact ⟨rfl, _, Eq.trans (World.drewN_drewN _ _ _) (congrArg (World.drewN _) (Nat.add_assoc _ _ _))⟩))))
     go_meet
     case rel => exact ⟨_, (true), (by first | rfl | (simp; done) | (simp [*]; done)), H', ⟨by first | omega | exact Nat.le_refl _⟩, ⟨by (with_reducible repeat (first | apply Kd.R_alloc | apply Kd.R_drewN | apply Kd.R_drew)); exact Kd.R_mono HO803.out (fun _ hk => trivial)⟩, ⟨by repeat (first | (with_reducible first | exact HB.out | apply below_alloc | apply pw_below_drewN | apply below_drew1) | exact HB.out)⟩⟩
    ·rw [if_neg c21] at H
     have c21b0 : (t801 != t805) = false := by simpa using c21
     (try (have c21b1 : decide (t801 = t805) = true := by simpa using c21))
     (try (have c21b2 : (t801 == t805) = true := by simpa using c21))
     clear c21
     replace H := Option.bind_eq_some_iff.mp H
     obtain ⟨t813, A220, H⟩ := H
     replace H : (if t813 = true then ((impl_Raw.f t808).bind fun t814 => ((spec_Raw.f t808).bind fun t815 => (if (t814 != t815) = true then (laws_FnTagEnds.j0 k t796 t797 t798 t800 true) else ((impl_RawEnd.f k t809 t810 t811).bind fun t816 => ((spec_RawEnd.f k t809 t810 t811).bind fun t817 => (laws_FnTagEnds.j0 k t796 t797 t798 t800 (t816 != t817))))))) else (laws_FnTagEnds.j0 k t796 t797 t798 t800 true)) = some r := H
     have A22 := Aside0.mk A220
     clear A220
     by_cases c23 : t813 = true
     ·subst c23
      have H1 : ((impl_Raw.f t808).bind fun t814 => ((spec_Raw.f t808).bind fun t815 => (if (t814 != t815) = true then (laws_FnTagEnds.j0 k t796 t797 t798 t800 true) else ((impl_RawEnd.f k t809 t810 t811).bind fun t816 => ((spec_RawEnd.f k t809 t810 t811).bind fun t817 => (laws_FnTagEnds.j0 k t796 t797 t798 t800 (t816 != t817))))))) = some r := by rw [if_pos rfl] at H; exact H
      clear H
      have H := H1
      clear H1
      replace H := Option.bind_eq_some_iff.mp H
      obtain ⟨t814, A240, H⟩ := H
      replace H : ((spec_Raw.f t808).bind fun t815 => (if (t814 != t815) = true then (laws_FnTagEnds.j0 k t796 t797 t798 t800 true) else ((impl_RawEnd.f k t809 t810 t811).bind fun t816 => ((spec_RawEnd.f k t809 t810 t811).bind fun t817 => (laws_FnTagEnds.j0 k t796 t797 t798 t800 (t816 != t817)))))) = some r := H
      have A24 := Aside0.mk A240
      clear A240
      replace H := Option.bind_eq_some_iff.mp H
      obtain ⟨t815, A250, H⟩ := H
      replace H : (if (t814 != t815) = true then (laws_FnTagEnds.j0 k t796 t797 t798 t800 true) else ((impl_RawEnd.f k t809 t810 t811).bind fun t816 => ((spec_RawEnd.f k t809 t810 t811).bind fun t817 => (laws_FnTagEnds.j0 k t796 t797 t798 t800 (t816 != t817))))) = some r := H
      have A25 := Aside0.mk A250
      clear A250
      by_cases c26 : (t814 != t815) = true
      ·rw [if_pos c26] at H
       have c26b0 : (t814 != t815) = true := c26
       (try (have c26b1 : decide (t814 = t815) = false := by simpa using c26))
       (try (have c26b2 : (t814 == t815) = false := by simpa using c26))
       (try (have c26b3 : ¬ (t814 = t815) := by simpa using c26))
       clear c26
       have H' := Aside0.mk H
       clear H
       go_wp2_with (first | (go_at_call 10; (with_reducible refine (spec_TagEnd.calls k t796 t797 t812 _ A19.out).mono ?_); rintro e w' ⟨rfl, ⟨nd, rfl⟩⟩; (try first | exact ⟨rfl, _, World.drewN_drewN _ _ _⟩ | exact ⟨rfl, _, Eq.trans (World.drewN_drewN _ _ _) (congrArg (World.drewN _) (Nat.add_assoc _ _ _))⟩); obtain ⟨Ao27, co27, eo27⟩ := Kd.R_slice HO803.out; subst eo27; obtain ⟨Ao28, co28, eo28⟩ := Kd.R_slice HO807.out; subst eo28) | (go_at_call 36; (with_reducible refine (laws_sameAttrs.calls k _ _ t800 _ _ t804 true _ ?side1 ?side2 ?side3 ?side4 A22.out).mono ?_); (case side1 => repeat (first | exact (Kd.R_reads' HO803.out).2.2 | (with_reducible refine Kd.C_alloc ?_ _) | (with_reducible refine Kd.C_drewN ?_ _) | (with_reducible refine Kd.C_drew ?_))); (case side2 => exact (Kd.R_reads' HO803.out).2.1); (case side3 => repeat (first | exact (Kd.R_reads' HO807.out).2.2 | (with_reducible refine Kd.C_alloc ?_ _) | (with_reducible refine Kd.C_drewN ?_ _) | (with_reducible refine Kd.C_drew ?_))); (case side4 => exact (Kd.R_reads' HO807.out).2.1); rintro e w' ⟨rfl, ⟨nd, rfl⟩⟩; (try first | exact ⟨rfl, _, World.drewN_drewN _ _ _⟩ | exact ⟨rfl, _, Eq.trans (World.drewN_drewN _ _ _) (congrArg (World.drewN _) (Nat.add_assoc _ _ _))⟩)) | (go_at_call 37; (with_reducible refine (impl_Raw.calls t808 t814 _ ?side1 A24.out).mono ?_); (case side1 => first | exact hL | exact LibOk.below hL (by repeat (first | (with_reducible first | exact HB.out | apply below_alloc | apply pw_below_drewN | apply below_drew1) | exact HB.out))); rintro e w' ⟨rfl, ⟨nd, rfl⟩⟩; (try first | exact ⟨rfl, _, World.drewN_drewN _ _ _⟩ | exact ⟨rfl, _, Eq.trans (World.drewN_drewN _ _ _) (congrArg (World.drewN _) (Nat.add_assoc _ _ _))⟩)) | (go_at_call 38; (with_reducible refine (spec_Raw.calls t808 t815 _ A25.out).mono ?_); rintro e w' ⟨rfl, ⟨nd, rfl⟩⟩; (try first | exact ⟨rfl, _, World.drewN_drewN _ _ _⟩ | exact ⟨rfl, _, Eq.trans (World.drewN_drewN _ _ _) (congrArg (World.drewN _) (Nat.add_assoc _ _ _))⟩)))
       repeat (go_quiet (first | (go_at_call 10; (with_reducible refine (spec_TagEnd.calls k t796 t797 t812 _ A19.out).mono ?_); rintro e w' ⟨rfl, ⟨nd, rfl⟩⟩; (try first | exact ⟨rfl, _, World.drewN_drewN _ _ _⟩ | exact ⟨rfl, _, Eq.trans (World.drewN_drewN _ _ _) (congrArg (World.drewN _) (Nat.add_assoc _ _ _))⟩); obtain ⟨Ao27, co27, eo27⟩ := Kd.R_slice HO803.out; subst eo27; obtain ⟨Ao28, co28, eo28⟩ := Kd.R_slice HO807.out; subst eo28) | (go_at_call 36; (with_reducible refine (laws_sameAttrs.calls k _ _ t800 _ _ t804 true _ ?side1 ?side2 ?side3 ?side4 A22.out).mono ?_); (case side1 => repeat (first | exact (Kd.R_reads' HO803.out).2.2 | (with_reducible refine Kd.C_alloc ?_ _) | (with_reducible refine Kd.C_drewN ?_ _) | (with_reducible refine Kd.C_drew ?_))); (case side2 => exact (Kd.R_reads' HO803.out).2.1); (case side3 => repeat (first | exact (Kd.R_reads' HO807.out).2.2 | (with_reducible refine Kd.C_alloc ?_ _) | (with_reducible refine Kd.C_drewN ?_ _) | (with_reducible refine Kd.C_drew ?_))); (case side4 => exact (Kd.R_reads' HO807.out).2.1); rintro e w' ⟨rfl, ⟨nd, rfl⟩⟩; (try first | exact ⟨rfl, _, World.drewN_drewN _ _ _⟩ | exact ⟨rfl, _, Eq.trans (World.drewN_drewN _ _ _) (congrArg (World.drewN _) (Nat.add_assoc _ _ _))⟩)) | (go_at_call 37; (with_reducible refine (impl_Raw.calls t808 t814 _ ?side1 A24.out).mono ?_); (case side1 => first | exact hL | exact LibOk.below hL (by repeat (first | (with_reducible first | exact HB.out | apply below_alloc | apply pw_below_drewN | apply below_drew1) | exact HB.out))); rintro e w' ⟨rfl, ⟨nd, rfl⟩⟩; (try first | exact ⟨rfl, _, World.drewN_drewN _ _ _⟩ | exact ⟨rfl, _, Eq.trans (World.drewN_drewN _ _ _) (congrArg (World.drewN _) (Nat.add_assoc _ _ _))⟩)) | (go_at_call 38; (with_reducible refine (spec_Raw.calls t808 t815 _ A25.out).mono ?_); rintro e w' ⟨rfl, ⟨nd, rfl⟩⟩; (try first | exact ⟨rfl, _, World.drewN_drewN _ _ _⟩ | exact ⟨rfl, _, Eq.trans (World.drewN_drewN _ _ _) (congrArg (World.drewN _) (Nat.add_assoc _ _ _))⟩))); try go_wp2_with (first | (go_at_call 10; (with_reducible refine (spec_TagEnd.calls k t796 t797 t812 _ A19.out).mono ?_); rintro e w' ⟨rfl, ⟨nd, rfl⟩⟩; (try first | exact ⟨rfl, _, World.drewN_drewN _ _ _⟩ | exact ⟨rfl, _, Eq.trans (World.drewN_drewN _ _ _) (congrArg (World.drewN _) (Nat.add_assoc _ _ _))⟩); obtain ⟨Ao27, co27, eo27⟩ := Kd.R_slice HO803.out; subst eo27; obtain ⟨Ao28, co28, eo28⟩ := Kd.R_slice HO807.out; subst eo28) | (go_at_call 36; (with_reducible refine (laws_sameAttrs.calls k _ _ t800 _ _ t804 true _ ?side1 ?side2 ?side3 ?side4 A22.out).mono ?_); (case side1 => repeat (first | exact (Kd.R_reads' HO803.out).2.2 | (with_reducible refine Kd.C_alloc ?_ _) | (with_reducible refine Kd.C_drewN ?_ _) | (with_reducible refine Kd.C_drew ?_))); (case side2 => exact (Kd.R_reads' HO803.out).2.1); (case side3 => repeat (first | exact (Kd.R_reads' HO807.out).2.2 | (with_reducible refine Kd.C_alloc ?_ _) | (with_reducible refine Kd.C_drewN ?_ _) | (with_reducible refine Kd.C_drew ?_))); (case side4 => exact (Kd.R_reads' HO807.out).2.1); rintro e w' ⟨rfl, ⟨nd, rfl⟩⟩; (try first | exact ⟨rfl, _, World.drewN_drewN _ _ _⟩ | exact ⟨rfl, _, Eq.trans (World.drewN_drewN _ _ _) (congrArg (World.drewN _) (Nat.add_assoc _ _ _))⟩)) | (go_at_call 37; (with_reducible refine (impl_Raw.calls t808 t814 _ ?side1 A24.out).mono ?_); (case side1 => first | exact hL | exact LibOk.below hL (by repeat (first | (with_reducible first | exact HB.out | apply below_alloc | apply pw_below_drewN | apply below_drew1) | exact HB.out))); rintro e w' ⟨rfl, ⟨nd, rfl⟩⟩; (try first | exact ⟨rfl, _, World.drewN_drewN _ _ _⟩ | exact ⟨rfl, _, Eq.trans (World.drewN_drewN _ _ _) (congrArg (World.drewN _) (Nat.add_assoc _ _ _))⟩)) | (go_at_call 38; (with_reducible refine (spec_Raw.calls t808 t815 _ A25.out).mono ?_); rintro e w' ⟨rfl, ⟨nd, rfl⟩⟩; (try first | exact ⟨rfl, _, World.drewN_drewN _ _ _⟩ | exact ⟨rfl, _, Eq.trans (World.drewN_drewN _ _ _) (congrArg (World.drewN _) (Nat.add_assoc _ _ _))⟩))))
       go_meet
       case rel => exact ⟨_, (true), (by first | rfl | (simp; done) | (simp [*]; done)), H', ⟨by first | omega | exact Nat.le_refl _⟩, ⟨by (with_reducible repeat (first | apply Kd.R_alloc | apply Kd.R_drewN | apply Kd.R_drew)); exact Kd.R_mono HO803.out (fun _ hk => trivial)⟩, ⟨by repeat (first | (with_reducible first | exact HB.out | apply below_alloc | apply pw_below_drewN | apply below_drew1) | exact HB.out)⟩⟩
      ·rw [if_neg c26] at H
       have c26b0 : (t814 != t815) = false := by simpa using c26
       (try (have c26b1 : decide (t814 = t815) = true := by simpa using c26))
       (try (have c26b2 : (t814 == t815) = true := by simpa using c26))
       clear c26
       replace H := Option.bind_eq_some_iff.mp H
       obtain ⟨t816, A290, H⟩ := H
       replace H : ((spec_RawEnd.f k t809 t810 t811).bind fun t817 => (laws_FnTagEnds.j0 k t796 t797 t798 t800 (t816 != t817))) = some r := H
       have A29 := Aside0.mk A290
       clear A290
       replace H := Option.bind_eq_some_iff.mp H
       obtain ⟨t817, A300, H⟩ := H
       replace H : (laws_FnTagEnds.j0 k t796 t797 t798 t800 (t816 != t817)) = some r := H
       have A30 := Aside0.mk A300
       clear A300
       have H' := Aside0.mk H
       clear H
       go_wp2_with (first | (go_at_call 10; (with_reducible refine (spec_TagEnd.calls k t796 t797 t812 _ A19.out).mono ?_); rintro e w' ⟨rfl, ⟨nd, rfl⟩⟩; (try first | exact ⟨rfl, _, World.drewN_drewN _ _ _⟩ | exact ⟨rfl, _, Eq.trans (World.drewN_drewN _ _ _) (congrArg (World.drewN _) (Nat.add_assoc _ _ _))⟩); obtain ⟨Ao31, co31, eo31⟩ := Kd.R_slice HO803.out; subst eo31; obtain ⟨Ao32, co32, eo32⟩ := Kd.R_slice HO807.out; subst eo32) | (go_at_call 36; (with_reducible refine (laws_sameAttrs.calls k _ _ t800 _ _ t804 true _ ?side1 ?side2 ?side3 ?side4 A22.out).mono ?_); (case side1 => repeat (first | exact (Kd.R_reads' HO803.out).2.2 | (with_reducible refine Kd.C_alloc ?_ _) | (with_reducible refine Kd.C_drewN ?_ _) | (with_reducible refine Kd.C_drew ?_))); (case side2 => exact (Kd.R_reads' HO803.out).2.1); (case side3 => repeat (first | exact (Kd.R_reads' HO807.out).2.2 | (with_reducible refine Kd.C_alloc ?_ _) | (with_reducible refine Kd.C_drewN ?_ _) | (with_reducible refine Kd.C_drew ?_))); (case side4 => exact (Kd.R_reads' HO807.out).2.1); rintro e w' ⟨rfl, ⟨nd, rfl⟩⟩; (try first | exact ⟨rfl, _, World.drewN_drewN _ _ _⟩ | exact ⟨rfl, _, Eq.trans (World.drewN_drewN _ _ _) (congrArg (World.drewN _) (Nat.add_assoc _ _ _))⟩)) | (go_at_call 37; (with_reducible refine (impl_Raw.calls t808 t814 _ ?side1 A24.out).mono ?_); (case side1 => first | exact hL | exact LibOk.below hL (by repeat (first | (with_reducible first | exact HB.out | apply below_alloc | apply pw_below_drewN | apply below_drew1) | exact HB.out))); rintro e w' ⟨rfl, ⟨nd, rfl⟩⟩; (try first | exact ⟨rfl, _, World.drewN_drewN _ _ _⟩ | exact ⟨rfl, _, Eq.trans (World.drewN_drewN _ _ _) (congrArg (World.drewN _) (Nat.add_assoc _ _ _))⟩)) | (go_at_call 38; (with_reducible refine (spec_Raw.calls t808 t815 _ A25.out).mono ?_); rintro e w' ⟨rfl, ⟨nd, rfl⟩⟩; (try first | exact ⟨rfl, _, World.drewN_drewN _ _ _⟩ | exact ⟨rfl, _, Eq.trans (World.drewN_drewN _ _ _) (congrArg (World.drewN _) (Nat.add_assoc _ _ _))⟩)) | (go_at_call 39; (with_reducible refine (impl_RawEnd.calls k t809 t810 t811 t816 _ A29.out).mono ?_); rintro e w33 ⟨rfl, hb⟩; have n0_ := Aside0.mk (Kd.R_below (by (with_reducible repeat (first | apply Kd.R_alloc | apply Kd.R_drewN | apply Kd.R_drew)); exact HO803.out) hb); have n1_ := Aside0.mk (Kd.R_below (by (with_reducible repeat (first | apply Kd.R_alloc | apply Kd.R_drewN | apply Kd.R_drew)); exact HO807.out) hb); have n2_ := Aside0.mk (below_step (by repeat (first | (with_reducible first | exact HB.out | apply below_alloc | apply pw_below_drewN | apply below_drew1) | exact HB.out)) hb); clear HO803; clear HO807; clear HB; have HO803 := n0_; have HO807 := n1_; have HB := n2_; clear n0_ n1_ n2_; (try clear hb); (try clear hb2); (try clear hk); (try clear hi)) | (go_at_call 40; (with_reducible refine (spec_RawEnd.calls k t809 t810 t811 t817 _ A30.out).mono ?_); rintro e w34 ⟨rfl, hb⟩; have n0_ := Aside0.mk (Kd.R_below (by (with_reducible repeat (first | apply Kd.R_alloc | apply Kd.R_drewN | apply Kd.R_drew)); exact HO803.out) hb); have n1_ := Aside0.mk (Kd.R_below (by (with_reducible repeat (first | apply Kd.R_alloc | apply Kd.R_drewN | apply Kd.R_drew)); exact HO807.out) hb); have n2_ := Aside0.mk (below_step (by repeat (first | (with_reducible first | exact HB.out | apply below_alloc | apply pw_below_drewN | apply below_drew1) | exact HB.out)) hb); clear HO803; clear HO807; clear HB; have HO803 := n0_; have HO807 := n1_; have HB := n2_; clear n0_ n1_ n2_; (try clear hb); (try clear hb2); (try clear hk); (try clear hi)))
       repeat (go_quiet (first | (go_at_call 10; (with_reducible refine (spec_TagEnd.calls k t796 t797 t812 _ A19.out).mono ?_); rintro e w' ⟨rfl, ⟨nd, rfl⟩⟩; (try first | exact ⟨rfl, _, World.drewN_drewN _ _ _⟩ | exact ⟨rfl, _, Eq.trans (World.drewN_drewN _ _ _) (congrArg (World.drewN _) (Nat.add_assoc _ _ _))⟩); obtain ⟨Ao31, co31, eo31⟩ := Kd.R_slice HO803.out; subst eo31; obtain ⟨Ao32, co32, eo32⟩ := Kd.R_slice HO807.out; subst eo32) | (go_at_call 36; (with_reducible refine (laws_sameAttrs.calls k _ _ t800 _ _ t804 true _ ?side1 ?side2 ?side3 ?side4 A22.out).mono ?_); (case side1 => repeat (first | exact (Kd.R_reads' HO803.out).2.2 | (with_reducible refine Kd.C_alloc ?_ _) | (with_reducible refine Kd.C_drewN ?_ _) | (with_reducible refine Kd.C_drew ?_))); (case side2 => exact (Kd.R_reads' HO803.out).2.1); (case side3 => repeat (first | exact (Kd.R_reads' HO807.out).2.2 | (with_reducible refine Kd.C_alloc ?_ _) | (with_reducible refine Kd.C_drewN ?_ _) | (with_reducible refine Kd.C_drew ?_))); (case side4 => exact (Kd.R_reads' HO807.out).2.1); rintro e w' ⟨rfl, ⟨nd, rfl⟩⟩; (try first | exact ⟨rfl, _, World.drewN_drewN _ _ _⟩ | exact ⟨rfl, _, Eq.trans (World.drewN_drewN _ _ _) (congrArg (World.drewN _) (Nat.add_assoc _ _ _))⟩)) | (go_at_call 37; (with_reducible refine (impl_Raw.calls t808 t814 _ ?side1 A24.out).mono ?_); (case side1 => first | exact hL | exact LibOk.below hL (by repeat (first | (with_reducible first | exact HB.out | apply below_alloc | apply pw_below_drewN | apply below_drew1) | exact HB.out))); rintro e w' ⟨rfl, ⟨nd, rfl⟩⟩; (try first | exact ⟨rfl, _, World.drewN_drewN _ _ _⟩ | exact ⟨rfl, _, Eq.trans (World.drewN_drewN _ _ _) (congrArg (World.drewN _) (Nat.add_assoc _ _ _))⟩)) | (go_at_call 38; (with_reducible refine (spec_Raw.calls t808 t815 _ A25.out).mono ?_); rintro e w' ⟨rfl, ⟨nd, rfl⟩⟩; (try first | exact ⟨rfl, _, World.drewN_drewN _ _ _⟩ | exact ⟨rfl, _, Eq.trans (World.drewN_drewN _ _ _) (congrArg (World.drewN _) (Nat.add_assoc _ _ _))⟩)) | (go_at_call 39; (with_reducible refine (impl_RawEnd.calls k t809 t810 t811 t816 _ A29.out).mono ?_); rintro e w33 ⟨rfl, hb⟩; have n0_ := Aside0.mk (Kd.R_below (by (with_reducible repeat (first | apply Kd.R_alloc | apply Kd.R_drewN | apply Kd.R_drew)); exact HO803.out) hb); have n1_ := Aside0.mk (Kd.R_below (by (with_reducible repeat (first | apply Kd.R_alloc | apply Kd.R_drewN | apply Kd.R_drew)); exact HO807.out) hb); have n2_ := Aside0.mk (below_step (by repeat (first | (with_reducible first | exact HB.out | apply below_alloc | apply pw_below_drewN | apply below_drew1) | exact HB.out)) hb); clear HO803; clear HO807; clear HB; have HO803 := n0_; have HO807 := n1_; have HB := n2_; clear n0_ n1_ n2_; (try clear hb); (try clear hb2); (try clear hk); (try clear hi)) | (go_at_call 40; (with_reducible refine (spec_RawEnd.calls k t809 t810 t811 t817 _ A30.out).mono ?_); rintro e w34 ⟨rfl, hb⟩; have n0_ := Aside0.mk (Kd.R_below (by (with_reducible repeat (first | apply Kd.R_alloc | apply Kd.R_drewN | apply Kd.R_drew)); exact HO803.out) hb); have n1_ := Aside0.mk (Kd.R_below (by (with_reducible repeat (first | apply Kd.R_alloc | apply Kd.R_drewN | apply Kd.R_drew)); exact HO807.out) hb); have n2_ := Aside0.mk (below_step (by repeat (first | (with_reducible first | exact HB.out | apply below_alloc | apply pw_below_drewN | apply below_drew1) | exact HB.out)) hb); clear HO803; clear HO807; clear HB; have HO803 := n0_; have HO807 := n1_; have HB := n2_; clear n0_ n1_ n2_; (try clear hb); (try clear hb2); (try clear hk); (try clear hi))); try go_wp2_with (first | (go_at_call 10; (with_reducible refine (spec_TagEnd.calls k t796 t797 t812 _ A19.out).mono ?_); rintro e w' ⟨rfl, ⟨nd, rfl⟩⟩; (try first | exact ⟨rfl, _, World.drewN_drewN _ _ _⟩ | exact ⟨rfl, _, Eq.trans (World.drewN_drewN _ _ _) (congrArg (World.drewN _) (Nat.add_assoc _ _ _))⟩); obtain ⟨Ao31, co31, eo31⟩ := Kd.R_slice HO803.out; subst eo31; obtain ⟨Ao32, co32, eo32⟩ := Kd.R_slice HO807.out; subst eo32) | (go_at_call 36; (with_reducible refine (laws_sameAttrs.calls k _ _ t800 _ _ t804 true _ ?side1 ?side2 ?side3 ?side4 A22.out).mono ?_); (case side1 => repeat (first | exact (Kd.R_reads' HO803.out).2.2 | (with_reducible refine Kd.C_alloc ?_ _) | (with_reducible refine Kd.C_drewN ?_ _) | (with_reducible refine Kd.C_drew ?_))); (case side2 => exact (Kd.R_reads' HO803.out).2.1); (case side3 => repeat (first | exact (Kd.R_reads' HO807.out).2.2 | (with_reducible refine Kd.C_alloc ?_ _) | (with_reducible refine Kd.C_drewN ?_ _) | (with_reducible refine Kd.C_drew ?_))); (case side4 => exact (Kd.R_reads' HO807.out).2.1); rintro e w' ⟨rfl, ⟨nd, rfl⟩⟩; (try first | exact ⟨rfl, _, World.drewN_drewN _ _ _⟩ | exact ⟨rfl, _, Eq.trans (World.drewN_drewN _ _ _) (congrArg (World.drewN _) (Nat.add_assoc _ _ _))⟩)) | (go_at_call 37; (with_reducible refine (impl_Raw.calls t808 t814 _ ?side1 A24.out).mono ?_); (case side1 => first | exact hL | exact LibOk.below hL (by repeat (first | (with_reducible first | exact HB.out | apply below_alloc | apply pw_below_drewN | apply below_drew1) | exact HB.out))); rintro e w' ⟨rfl, ⟨nd, rfl⟩⟩; (try first | exact ⟨rfl, _, World.drewN_drewN _ _ _⟩ | exact ⟨rfl, _, Eq.trans (World.drewN_drewN _ _ _) (congrArg (World.drewN _) (Nat.add_assoc _ _ _))⟩)) | (go_at_call 38; (with_reducible refine (spec_Raw.calls t808 t815 _ A25.out).mono ?_); rintro e w' ⟨rfl, ⟨nd, rfl⟩⟩; (try first | exact ⟨rfl, _, World.drewN_drewN _ _ _⟩ | exact ⟨rfl, _, Eq.trans (World.drewN_drewN _ _ _) (congrArg (World.drewN _) (Nat.add_assoc _ _ _))⟩)) | (go_at_call 39; (with_reducible refine (impl_RawEnd.calls k t809 t810 t811 t816 _ A29.out).mono ?_); rintro e w33 ⟨rfl, hb⟩; have n0_ := Aside0.mk (Kd.R_below (by (with_reducible repeat (first | apply Kd.R_alloc | apply Kd.R_drewN | apply Kd.R_drew)); exact HO803.out) hb); have n1_ := Aside0.mk (Kd.R_below (by (with_reducible repeat (first | apply Kd.R_alloc | apply Kd.R_drewN | apply Kd.R_drew)); exact HO807.out) hb); have n2_ := Aside0.mk (below_step (by repeat (first | (with_reducible first | exact HB.out | apply below_alloc | apply pw_below_drewN | apply below_drew1) | exact HB.out)) hb); clear HO803; clear HO807; clear HB; have HO803 := n0_; have HO807 := n1_; have HB := n2_; clear n0_ n1_ n2_; (try clear hb); (try clear hb2); (try clear hk); (try clear hi)) | (go_at_call 40; (with_reducible refine (spec_RawEnd.calls k t809 t810 t811 t817 _ A30.out).mono ?_); rintro e w34 ⟨rfl, hb⟩; have n0_ := Aside0.mk (Kd.R_below (by (with_reducible repeat (first | apply Kd.R_alloc | apply Kd.R_drewN | apply Kd.R_drew)); exact HO803.out) hb); have n1_ := Aside0.mk (Kd.R_below (by (with_reducible repeat (first | apply Kd.R_alloc | apply Kd.R_drewN | apply Kd.R_drew)); exact HO807.out) hb); have n2_ := Aside0.mk (below_step (by repeat (first | (with_reducible first | exact HB.out | apply below_alloc | apply pw_below_drewN | apply below_drew1) | exact HB.out)) hb); clear HO803; clear HO807; clear HB; have HO803 := n0_; have HO807 := n1_; have HB := n2_; clear n0_ n1_ n2_; (try clear hb); (try clear hb2); (try clear hk); (try clear hi))))
       go_meet
       case rel => exact ⟨_, ((t816 != t817)), (by first | rfl | (simp; done) | (simp [*]; done)), H', ⟨by first | omega | exact Nat.le_refl _⟩, ⟨by (with_reducible repeat (first | apply Kd.R_alloc | apply Kd.R_drewN | apply Kd.R_drew)); exact Kd.R_mono HO803.out (fun _ hk => trivial)⟩, ⟨by repeat (first | (with_reducible first | exact HB.out | apply below_alloc | apply pw_below_drewN | apply below_drew1) | exact HB.out)⟩⟩
     ·replace c23 := Bool.eq_false_iff.mpr c23
      subst c23
      have H1 : (laws_FnTagEnds.j0 k t796 t797 t798 t800 true) = some r := by rw [if_neg (show ¬ (false = true) by decide)] at H; exact H
      clear H
      have H := H1
      clear H1
      have H' := Aside0.mk H
      clear H
      go_wp2_with (first | (go_at_call 10; (with_reducible refine (spec_TagEnd.calls k t796 t797 t812 _ A19.out).mono ?_); rintro e w' ⟨rfl, ⟨nd, rfl⟩⟩; (try first | exact ⟨rfl, _, World.drewN_drewN _ _ _⟩ | exact ⟨rfl, _, Eq.trans (World.drewN_drewN _ _ _) (congrArg (World.drewN _) (Nat.add_assoc _ _ _))⟩); obtain ⟨Ao35, co35, eo35⟩ := Kd.R_slice HO803.out; subst eo35; obtain ⟨Ao36, co36, eo36⟩ := Kd.R_slice HO807.out; subst eo36) | (go_at_call 36; (with_reducible refine (laws_sameAttrs.calls k _ _ t800 _ _ t804 false _ ?side1 ?side2 ?side3 ?side4 A22.out).mono ?_); (case side1 => repeat (first | exact (Kd.R_reads' HO803.out).2.2 | (with_reducible refine Kd.C_alloc ?_ _) | (with_reducible refine Kd.C_drewN ?_ _) | (with_reducible refine Kd.C_drew ?_))); (case side2 => exact (Kd.R_reads' HO803.out).2.1); (case side3 => repeat (first | exact (Kd.R_reads' HO807.out).2.2 | (with_reducible refine Kd.C_alloc ?_ _) | (with_reducible refine Kd.C_drewN ?_ _) | (with_reducible refine Kd.C_drew ?_))); (case side4 => exact (Kd.R_reads' HO807.out).2.1); rintro e w' ⟨rfl, ⟨nd, rfl⟩⟩; (try first | exact ⟨rfl, _, World.drewN_drewN _ _ _⟩ | exact ⟨rfl, _, Eq.trans (World.drewN_drewN _ _ _) (congrArg (World.drewN _) (Nat.add_assoc _ _ _))⟩)))
      repeat (go_quiet (first | (go_at_call 10; (with_reducible refine (spec_TagEnd.calls k t796 t797 t812 _ A19.out).mono ?_); rintro e w' ⟨rfl, ⟨nd, rfl⟩⟩; (try first | exact ⟨rfl, _, World.drewN_drewN _ _ _⟩ | exact ⟨rfl, _, Eq.trans (World.drewN_drewN _ _ _) (congrArg (World.drewN _) (Nat.add_assoc _ _ _))⟩); obtain ⟨Ao35, co35, eo35⟩ := Kd.R_slice HO803.out; subst eo35; obtain ⟨Ao36, co36, eo36⟩ := Kd.R_slice HO807.out; subst eo36) | (go_at_call 36; (with_reducible refine (laws_sameAttrs.calls k _ _ t800 _ _ t804 false _ ?side1 ?side2 ?side3 ?side4 A22.out).mono ?_); (case side1 => repeat (first | exact (Kd.R_reads' HO803.out).2.2 | (with_reducible refine Kd.C_alloc ?_ _) | (with_reducible refine Kd.C_drewN ?_ _) | (with_reducible refine Kd.C_drew ?_))); (case side2 => exact (Kd.R_reads' HO803.out).2.1); (case side3 => repeat (first | exact (Kd.R_reads' HO807.out).2.2 | (with_reducible refine Kd.C_alloc ?_ _) | (with_reducible refine Kd.C_drewN ?_ _) | (with_reducible refine Kd.C_drew ?_))); (case side4 => exact (Kd.R_reads' HO807.out).2.1); rintro e w' ⟨rfl, ⟨nd, rfl⟩⟩; (try first | exact ⟨rfl, _, World.drewN_drewN _ _ _⟩ | exact ⟨rfl, _, Eq.trans (World.drewN_drewN _ _ _) (congrArg (World.drewN _) (Nat.add_assoc _ _ _))⟩))); try go_wp2_with (first | (go_at_call 10; (with_reducible refine (spec_TagEnd.calls k t796 t797 t812 _ A19.out).mono ?_); rintro e w' ⟨rfl, ⟨nd, rfl⟩⟩; (try first | exact ⟨rfl, _, World.drewN_drewN _ _ _⟩ | exact ⟨rfl, _, Eq.trans (World.drewN_drewN _ _ _) (congrArg (World.drewN _) (Nat.add_assoc _ _ _))⟩); obtain ⟨Ao35, co35, eo35⟩ := Kd.R_slice HO803.out; subst eo35; obtain ⟨Ao36, co36, eo36⟩ := Kd.R_slice HO807.out; subst eo36) | (go_at_call 36; (with_reducible refine (laws_sameAttrs.calls k _ _ t800 _ _ t804 false _ ?side1 ?side2 ?side3 ?side4 A22.out).mono ?_); (case side1 => repeat (first | exact (Kd.R_reads' HO803.out).2.2 | (with_reducible refine Kd.C_alloc ?_ _) | (with_reducible refine Kd.C_drewN ?_ _) | (with_reducible refine Kd.C_drew ?_))); (case side2 => exact (Kd.R_reads' HO803.out).2.1); (case side3 => repeat (first | exact (Kd.R_reads' HO807.out).2.2 | (with_reducible refine Kd.C_alloc ?_ _) | (with_reducible refine Kd.C_drewN ?_ _) | (with_reducible refine Kd.C_drew ?_))); (case side4 => exact (Kd.R_reads' HO807.out).2.1); rintro e w' ⟨rfl, ⟨nd, rfl⟩⟩; (try first | exact ⟨rfl, _, World.drewN_drewN _ _ _⟩ | exact ⟨rfl, _, Eq.trans (World.drewN_drewN _ _ _) (congrArg (World.drewN _) (Nat.add_assoc _ _ _))⟩))))
      go_meet
      case rel => exact ⟨_, (true), (by first | rfl | (simp; done) | (simp [*]; done)), H', ⟨by first | omega | exact Nat.le_refl _⟩, ⟨by (with_reducible repeat (first | apply Kd.R_alloc | apply Kd.R_drewN | apply Kd.R_drew)); exact Kd.R_mono HO803.out (fun _ hk => trivial)⟩, ⟨by repeat (first | (with_reducible first | exact HB.out | apply below_alloc | apply pw_below_drewN | apply below_drew1) | exact HB.out)⟩⟩
   ·rw [if_neg c20] at H
    have c20b0 : (t798 == t812) = false := beq_eq_false_iff_ne.mpr c20
    have c20b1 : (t798 != t812) = true := bne_iff_ne.mpr c20
    (first | rw [c20b0] | (simp only [i64_w, i32_w]; rw [c20b0]) | skip)
    have H' := Aside0.mk H
    clear H
    go_wp2_with (first | (go_at_call 10; (with_reducible refine (spec_TagEnd.calls k t796 t797 t812 _ A19.out).mono ?_); rintro e w' ⟨rfl, ⟨nd, rfl⟩⟩; (try first | exact ⟨rfl, _, World.drewN_drewN _ _ _⟩ | exact ⟨rfl, _, Eq.trans (World.drewN_drewN _ _ _) (congrArg (World.drewN _) (Nat.add_assoc _ _ _))⟩)))
    repeat (go_quiet (first | (go_at_call 10; (with_reducible refine (spec_TagEnd.calls k t796 t797 t812 _ A19.out).mono ?_); rintro e w' ⟨rfl, ⟨nd, rfl⟩⟩; (try first | exact ⟨rfl, _, World.drewN_drewN _ _ _⟩ | exact ⟨rfl, _, Eq.trans (World.drewN_drewN _ _ _) (congrArg (World.drewN _) (Nat.add_assoc _ _ _))⟩))); try go_wp2_with (first | (go_at_call 10; (with_reducible refine (spec_TagEnd.calls k t796 t797 t812 _ A19.out).mono ?_); rintro e w' ⟨rfl, ⟨nd, rfl⟩⟩; (try first | exact ⟨rfl, _, World.drewN_drewN _ _ _⟩ | exact ⟨rfl, _, Eq.trans (World.drewN_drewN _ _ _) (congrArg (World.drewN _) (Nat.add_assoc _ _ _))⟩))))
    go_meet
    case rel => exact ⟨_, (true), (by first | rfl | (simp; done) | (simp [*]; done)), H', ⟨by first | omega | exact Nat.le_refl _⟩, ⟨by (with_reducible repeat (first | apply Kd.R_alloc | apply Kd.R_drewN | apply Kd.R_drew)); exact Kd.R_mono HO803.out (fun _ hk => trivial)⟩, ⟨by repeat (first | (with_reducible first | exact HB.out | apply below_alloc | apply pw_below_drewN | apply below_drew1) | exact HB.out)⟩⟩
  case rest =>
   clear HC11
   try clear c2
   try clear p2
   try clear c3
   try clear c9
   try clear c20
   try clear c20b0
   try clear c20b1
   try clear c21
   try clear c21b0
   try clear c21b1
   try clear c21b2
   try clear c23
   try clear c26
   try clear c26b0
   try clear c26b1
   try clear c26b2
   obtain ⟨kq, x80_10, rfl, HA, HJ10, HO_7, HB⟩ := hcut
   cases kq with
   | zero => exact absurd HA.out (by simp [laws_FnTagEnds.j0])
   | succ kj10 =>
    have H := HA.out
    clear HA
    simp only [laws_FnTagEnds.j0] at H
    by_cases c37 : x80_10 = true
    ·subst c37
     have H1 : (some false) = some r := by rw [if_pos rfl] at H; exact H
     clear H
     have H := H1
     clear H1
     obtain rfl := Option.some.inj H
     go_wp2
     repeat (go_quiet (fail); try go_wp2)
     go_ret
     exact ⟨by first | rfl | (simp [errW_none, errW_some] <;> rfl) | (simp [*, errW_none, errW_some] <;> rfl), by repeat (first | (with_reducible first | exact HB.out | apply below_alloc | apply pw_below_drewN | apply below_drew1) | exact HB.out)⟩
    ·replace c37 := Bool.eq_false_iff.mpr c37
     subst c37
     have H1 : (laws_FnTagEnds.l0 kj10 t796 t797 t798 t800 0) = some r := by rw [if_neg (show ¬ (false = true) by decide)] at H; exact H
     clear H
     have H := H1
     clear H1
     have H' := Aside0.mk H
     clear H
     go_wp2
     repeat (go_quiet (fail); try go_wp2)
     go_loopg [15] kj10 (fun kq v15 w' => ∃ (x15_2 : Int), v15 = .int .i64 x15_2 ∧ Aside0 (laws_FnTagEnds.l0 kq t796 t797 t798 t800 x15_2 = some r) ∧ Aside0 (kq ≤ kj10) ∧ Aside0 (Kd.R k53 53 w' w.heap.size (fun _ => True) v802 t800) ∧ Aside0 (Below w.heap.size w w'))
     case atStart => exact ⟨(0), (by first | rfl | (simp; done) | (simp [*]; done)), H', ⟨Nat.le_refl _⟩, ⟨by (with_reducible repeat (first | apply Kd.R_alloc | apply Kd.R_drewN | apply Kd.R_drew)); exact HO_7.out⟩, ⟨by repeat (first | (with_reducible first | exact HB.out | apply below_alloc | apply pw_below_drewN | apply below_drew1) | exact HB.out)⟩⟩
     case round =>
      clear H'
      try clear c2
      try clear p2
      try clear c3
      try clear c9
      try clear c20
      try clear c20b0
      try clear c20b1
      try clear c21
      try clear c21b0
      try clear c21b1
      try clear c21b2
      try clear c23
      try clear c26
      try clear c26b0
      try clear c26b1
      try clear c26b2
      try clear c37
      try clear p2
      obtain ⟨x15_2, rfl, HA, HK2, HO_7, HB⟩ := hrel
      cases gk with
      | zero => exact absurd HA.out (by simp [laws_FnTagEnds.l0])
      | succ k2 =>
       have H := HA.out
       clear HA
       simp only [laws_FnTagEnds.l0] at H
       by_cases c38 : x15_2 < (t800.length : Int)
       ·rw [if_pos c38] at H
        have c38b0 : decide (x15_2 < (t800.length : Int)) = true := decide_eq_true c38
        clear c38
        have H' := Aside0.mk H
        clear H
        obtain ⟨Ao39, co39, eo39⟩ := Kd.R_slice HO_7.out
        subst eo39
        go_wp2
        repeat (go_quiet (fail); try go_wp2)
        go_loopg [16] k2 (fun kq v16 w' => ∃ (x16_3 : Int), v16 = .int .i64 x16_3 ∧ Aside0 (laws_FnTagEnds.l1 kq t796 t797 t798 t800 x15_2 x16_3 = some r) ∧ Aside0 (kq ≤ k2) ∧ Aside0 (Kd.R k53 53 w' w.heap.size (fun _ => True) (.slice Ao39 t800.length co39) t800) ∧ Aside0 (Below w.heap.size w w'))
        case atStart => exact ⟨(0), (by first | rfl | (simp; done) | (simp [*]; done)), H', ⟨Nat.le_refl _⟩, ⟨by (with_reducible repeat (first | apply Kd.R_alloc | apply Kd.R_drewN | apply Kd.R_drew)); exact HO_7.out⟩, ⟨by repeat (first | (with_reducible first | exact HB.out | apply below_alloc | apply pw_below_drewN | apply below_drew1) | exact HB.out)⟩⟩
        case round =>
         clear H'
         try clear c2
         try clear p2
         try clear c3
         try clear c9
         try clear c20
         try clear c20b0
         try clear c20b1
         try clear c21
         try clear c21b0
         try clear c21b1
         try clear c21b2
         try clear c23
         try clear c26
         try clear c26b0
         try clear c26b1
         try clear c26b2
         try clear c37
         try clear c38
         try clear c38b0
         try clear p2
         obtain ⟨x16_3, rfl, HA, HK3, HO_7, HB⟩ := hrel
         cases gk with
         | zero => exact absurd HA.out (by simp [laws_FnTagEnds.l1])
         | succ k3 =>
          have H := HA.out
          clear HA
          simp only [laws_FnTagEnds.l1] at H
          by_cases c40 : x16_3 < x15_2
          ·rw [if_pos c40] at H
           have c40b0 : decide (x16_3 < x15_2) = true := decide_eq_true c40
           clear c40
           by_cases c41 : 0 ≤ x15_2
           ·rw [if_pos c41] at H
            have c41b0 : decide (0 ≤ x15_2) = true := decide_eq_true c41
            clear c41
            by_cases c42 : x15_2 < (t800.length : Int)
            ·rw [if_pos c42] at H
             have c42b0 : decide (x15_2 < (t800.length : Int)) = true := decide_eq_true c42
             clear c42
             by_cases c43 : 0 ≤ x16_3
             ·rw [if_pos c43] at H
              have c43b0 : decide (0 ≤ x16_3) = true := decide_eq_true c43
              clear c43
              by_cases c44 : x16_3 < (t800.length : Int)
              ·rw [if_pos c44] at H
               have c44b0 : decide (x16_3 < (t800.length : Int)) = true := decide_eq_true c44
               clear c44
               by_cases c45 : ((rd_T53 t800 x15_2).f0).toList = ((rd_T53 t800 x16_3).f0).toList
               ·rw [if_pos c45] at H
                have c45b0 : (((rd_T53 t800 x15_2).f0).toList == ((rd_T53 t800 x16_3).f0).toList) = true := beq_iff_eq.mpr c45
                have c45b1 : (((rd_T53 t800 x15_2).f0).toList != ((rd_T53 t800 x16_3).f0).toList) = false := bne_eq_false_iff_eq.mpr c45
                clear c45
                obtain rfl := Option.some.inj H
                have p818 : 0 ≤ (x15_2 : Int) := of_decide_eq_true (by first | (with_reducible assumption) | assumption)
                have q818 : x15_2 < (t800.length : Int) := of_decide_eq_true (by first | (with_reducible assumption) | assumption)
                obtain ⟨ad818, e818, hx818_0, hx818_1⟩ := at_T53 (Kd.R_reads' HO_7.out).2.2 x15_2 p818 q818
                cases e818
                replace p818 := eq_true p818
                replace q818 := eq_true q818
                have p819 : 0 ≤ (x16_3 : Int) := of_decide_eq_true (by first | (with_reducible assumption) | assumption)
                have q819 : x16_3 < (t800.length : Int) := of_decide_eq_true (by first | (with_reducible assumption) | assumption)
                obtain ⟨ad819, e819, hx819_0, hx819_1⟩ := at_T53 (Kd.R_reads' HO_7.out).2.2 x16_3 p819 q819
                obtain rfl : ad818 = ad819 := (by injection e819)
                replace p819 := eq_true p819
                replace q819 := eq_true q819
                go_wp2
                repeat (go_quiet (fail); try go_wp2)
                go_ret
                exact ⟨by first | rfl | (simp [errW_none, errW_some] <;> rfl) | (simp [*, errW_none, errW_some] <;> rfl), by repeat (first | (with_reducible first | exact HB.out | apply below_alloc | apply pw_below_drewN | apply below_drew1) | exact HB.out)⟩
               ·rw [if_neg c45] at H
                have c45b0 : (((rd_T53 t800 x15_2).f0).toList == ((rd_T53 t800 x16_3).f0).toList) = false := beq_eq_false_iff_ne.mpr c45
                have c45b1 : (((rd_T53 t800 x15_2).f0).toList != ((rd_T53 t800 x16_3).f0).toList) = true := bne_iff_ne.mpr c45
                have H' := Aside0.mk H
                clear H
                have p818 : 0 ≤ (x15_2 : Int) := of_decide_eq_true (by first | (with_reducible assumption) | assumption)
                have q818 : x15_2 < (t800.length : Int) := of_decide_eq_true (by first | (with_reducible assumption) | assumption)
                obtain ⟨ad818, e818, hx818_0, hx818_1⟩ := at_T53 (Kd.R_reads' HO_7.out).2.2 x15_2 p818 q818
                cases e818
                replace p818 := eq_true p818
                replace q818 := eq_true q818
                have p819 : 0 ≤ (x16_3 : Int) := of_decide_eq_true (by first | (with_reducible assumption) | assumption)
                have q819 : x16_3 < (t800.length : Int) := of_decide_eq_true (by first | (with_reducible assumption) | assumption)
                obtain ⟨ad819, e819, hx819_0, hx819_1⟩ := at_T53 (Kd.R_reads' HO_7.out).2.2 x16_3 p819 q819
                obtain rfl : ad818 = ad819 := (by injection e819)
                replace p819 := eq_true p819
                replace q819 := eq_true q819
                go_wp2
                repeat (go_quiet (fail); try go_wp2)
                go_roundg k3
                case measure => have := HJ10.out; have := HK2.out; have := HK3.out; omega
                case rel => exact ⟨(wrap64 (x16_3 + 1)), (by first | rfl | (simp; done) | (simp [*]; done)), H', ⟨by have := HJ10.out; have := HK2.out; have := HK3.out; omega⟩, ⟨by (with_reducible repeat (first | apply Kd.R_alloc | apply Kd.R_drewN | apply Kd.R_drew)); exact HO_7.out⟩, ⟨by repeat (first | (with_reducible first | exact HB.out | apply below_alloc | apply pw_below_drewN | apply below_drew1) | exact HB.out)⟩⟩
              ·rw [if_neg c44] at H
               exact absurd H (by simp)
             ·rw [if_neg c43] at H
              exact absurd H (by simp)
            ·rw [if_neg c42] at H
             exact absurd H (by simp)
           ·rw [if_neg c41] at H
            exact absurd H (by simp)
          ·rw [if_neg c40] at H
           have c40b0 : decide (x16_3 < x15_2) = false := decide_eq_false c40
           clear c40
           have H' := Aside0.mk H
           clear H
           go_wp2
           repeat (go_quiet (fail); try go_wp2)
           go_roundg k3
           case measure => have := HJ10.out; have := HK2.out; have := HK3.out; omega
           case rel => exact ⟨(wrap64 (x15_2 + 1)), (by first | rfl | (simp; done) | (simp [*]; done)), H', ⟨by have := HJ10.out; have := HK2.out; have := HK3.out; omega⟩, ⟨by (with_reducible repeat (first | apply Kd.R_alloc | apply Kd.R_drewN | apply Kd.R_drew)); exact HO_7.out⟩, ⟨by repeat (first | (with_reducible first | exact HB.out | apply below_alloc | apply pw_below_drewN | apply below_drew1) | exact HB.out)⟩⟩
       ·rw [if_neg c38] at H
        have c38b0 : decide (x15_2 < (t800.length : Int)) = false := decide_eq_false c38
        clear c38
        by_cases c46 : t798 = (-1)
        ·rw [if_pos c46] at H
         have c46b0 : (t798 == (-1)) = true := beq_iff_eq.mpr c46
         have c46b1 : (t798 != (-1)) = false := bne_eq_false_iff_eq.mpr c46
         clear c46
         obtain rfl := Option.some.inj H
         obtain ⟨Ao47, co47, eo47⟩ := Kd.R_slice HO_7.out
         subst eo47
         go_wp2
         repeat (go_quiet (fail); try go_wp2)
         go_ret
         exact ⟨by first | rfl | (simp [errW_none, errW_some] <;> rfl) | (simp [*, errW_none, errW_some] <;> rfl), by repeat (first | (with_reducible first | exact HB.out | apply below_alloc | apply pw_below_drewN | apply below_drew1) | exact HB.out)⟩
        ·rw [if_neg c46] at H
         have c46b0 : (t798 == (-1)) = false := beq_eq_false_iff_ne.mpr c46
         have c46b1 : (t798 != (-1)) = true := bne_iff_ne.mpr c46
         by_cases c48 : t798 > t797
         ·rw [if_pos c48] at H
          have c48b0 : decide (t797 < t798) = true := decide_eq_true c48
          clear c48
          by_cases c49 : 0 ≤ t798
          ·rw [if_pos c49] at H
           have c49b0 : decide (0 ≤ t798) = true := decide_eq_true c49
           clear c49
           by_cases c50 : t798 < (t796.size : Int)
           ·rw [if_pos c50] at H
            have c50b0 : decide (t798 < (t796.size : Int)) = true := decide_eq_true c50
            clear c50
            obtain rfl := Option.some.inj H
            obtain ⟨Ao52, co52, eo52⟩ := Kd.R_slice HO_7.out
            subst eo52
            have p51 : 0 ≤ (t798 : Int) := of_decide_eq_true (by first | (with_reducible assumption) | assumption)
            have q51 : t798 < (t796.size : Int) := of_decide_eq_true (by first | (with_reducible assumption) | assumption)
            have hx51 := bt_at t796 t798
            replace p51 := eq_true p51
            replace q51 := eq_true q51
            go_wp2
            repeat (go_quiet (fail); try go_wp2)
            go_ret
            exact ⟨by first | rfl | (simp [errW_none, errW_some] <;> rfl) | (simp [*, errW_none, errW_some] <;> rfl), by repeat (first | (with_reducible first | exact HB.out | apply below_alloc | apply pw_below_drewN | apply below_drew1) | exact HB.out)⟩
           ·rw [if_neg c50] at H
            exact absurd H (by simp)
          ·rw [if_neg c49] at H
           exact absurd H (by simp)
         ·rw [if_neg c48] at H
          have c48b0 : decide (t797 < t798) = false := decide_eq_false c48
          clear c48
          obtain rfl := Option.some.inj H
          obtain ⟨Ao53, co53, eo53⟩ := Kd.R_slice HO_7.out
          subst eo53
          go_wp2
          repeat (go_quiet (fail); try go_wp2)
          go_ret
          exact ⟨by first | rfl | (simp [errW_none, errW_some] <;> rfl) | (simp [*, errW_none, errW_some] <;> rfl), by repeat (first | (with_reducible first | exact HB.out | apply below_alloc | apply pw_below_drewN | apply below_drew1) | exact HB.out)⟩
def laws_FnTagEnds.Pure : Prop := ∀ (l0 : List Int), l0.length ≤ maxLen → l0.length * 1 ≤ 140737488351232 → (∀ x ∈ l0, (Lit.int .u8 x).wf = true) → ∃ k, laws_FnTagEnds.f k l0 = some true
theorem laws_FnTagEnds.walk (P : laws_FnTagEnds.Pure) (a0 : Option Addr) (len0 cap0 : Nat) (z0 : List Int) (w : World) (w0 : (a0 = none ∧ len0 = 0 ∧ cap0 = 0 ∧ z0 = []) ∨ ∃ x, a0 = some x ∧ len0 ≤ cap0 ∧ cap0 ≤ maxLen ∧ z0.length = cap0 ∧ (∀ i, i < z0.length → w.cell? (x.add i) = some (.int .u8 (z0.getD i 0))) ∧ ∀ n ∈ z0, (Lit.int .u8 n).wf = true) (y0 : len0 * 1 ≤ 140737488351232) (hL : LibOk w) :
  Calls Try.prog 9 #[.slice a0 len0 cap0] w fun e w' => e = .returned (.bool true) ∧ Below w.heap.size w w' := by
 obtain ⟨l0, rfl, hr0, hm0, hw0, hc0⟩ := ReadsInt.ofRowC w0
 obtain ⟨k, h⟩ := P l0 hm0 y0 hw0
 refine (laws_FnTagEnds.calls k _ _ l0 true w (Kd.C_of_reads (d := (0 : Int)) (h1 := fun _ => rfl) hr0) hc0 hL h).mono ?_
 rintro e w' ⟨rfl, hd⟩
 exact ⟨rfl, hd⟩
end Go.Proofs.Ytlocaaebgghkbaa.A
namespace Go.Proofs.Ytlocaaebgghkbaa.A
open Go.RowKit Go.Proofs.YtlocaaebgghkbaaW.PrintWords Go.Proofs.YtlocaaebgghkbaaW.PrintLast Go.Proofs.YtlocaaebgghkbaaW.PrintMore
attribute [local go_sem] max2_int min2_int max_two min_two max_three min_three max_four min_four   -- for this text's walks alone
set_option linter.unusedVariables false
set_option linter.unusedSimpArgs false
end Go.Proofs.Ytlocaaebgghkbaa.A
namespace Go.Proofs.Ytlocaaebgghkbaa.A
open Go.RowKit Go.Proofs.YtlocaaebgghkbaaW.PrintWords Go.Proofs.YtlocaaebgghkbaaW.PrintLast Go.Proofs.YtlocaaebgghkbaaW.PrintMore
attribute [local go_sem] max2_int min2_int max_two min_two max_three min_three max_four min_four   -- for this text's walks alone
set_option linter.unusedVariables false
set_option linter.unusedSimpArgs false
end Go.Proofs.Ytlocaaebgghkbaa.A
namespace Go.Proofs.Ytlocaaebgghkbaa.A
open Go.RowKit Go.Proofs.YtlocaaebgghkbaaW.PrintWords Go.Proofs.YtlocaaebgghkbaaW.PrintLast Go.Proofs.YtlocaaebgghkbaaW.PrintMore
attribute [local go_sem] max2_int min2_int max_two min_two max_three min_three max_four min_four   -- for this text's walks alone
set_option linter.unusedVariables false
set_option linter.unusedSimpArgs false
end Go.Proofs.Ytlocaaebgghkbaa.A
namespace Go.Proofs.Ytlocaaebgghkbaa.A
open Go.RowKit Go.Proofs.YtlocaaebgghkbaaW.PrintWords Go.Proofs.YtlocaaebgghkbaaW.PrintLast Go.Proofs.YtlocaaebgghkbaaW.PrintMore
attribute [local go_sem] max2_int min2_int max_two min_two max_three min_three max_four min_four   -- for this text's walks alone
set_option linter.unusedVariables false
set_option linter.unusedSimpArgs false
end Go.Proofs.Ytlocaaebgghkbaa.A
namespace Go.Proofs.Ytlocaaebgghkbaa.A
open Go.RowKit Go.Proofs.YtlocaaebgghkbaaW.PrintWords Go.Proofs.YtlocaaebgghkbaaW.PrintLast Go.Proofs.YtlocaaebgghkbaaW.PrintMore
attribute [local go_sem] max2_int min2_int max_two min_two max_three min_three max_four min_four   -- for this text's walks alone
set_option linter.unusedVariables false
set_option linter.unusedSimpArgs false
end Go.Proofs.Ytlocaaebgghkbaa.A
namespace Go.Proofs.Ytlocaaebgghkbaa.A
open Go.RowKit Go.Proofs.YtlocaaebgghkbaaW.PrintWords Go.Proofs.YtlocaaebgghkbaaW.PrintLast Go.Proofs.YtlocaaebgghkbaaW.PrintMore
attribute [local go_sem] max2_int min2_int max_two min_two max_three min_three max_four min_four   -- for this text's walks alone
set_option linter.unusedVariables false
set_option linter.unusedSimpArgs false
end Go.Proofs.Ytlocaaebgghkbaa.A
namespace Go.Proofs.Ytlocaaebgghkbaa.A
open Go.RowKit Go.Proofs.YtlocaaebgghkbaaW.PrintWords Go.Proofs.YtlocaaebgghkbaaW.PrintLast Go.Proofs.YtlocaaebgghkbaaW.PrintMore
attribute [local go_sem] max2_int min2_int max_two min_two max_three min_three max_four min_four   -- for this text's walks alone
set_option linter.unusedVariables false
set_option linter.unusedSimpArgs false
end Go.Proofs.Ytlocaaebgghkbaa.A
namespace Go.Proofs.Ytlocaaebgghkbaa.A
open Go.RowKit Go.Proofs.YtlocaaebgghkbaaW.PrintWords Go.Proofs.YtlocaaebgghkbaaW.PrintLast Go.Proofs.YtlocaaebgghkbaaW.PrintMore
attribute [local go_sem] max2_int min2_int max_two min_two max_three min_three max_four min_four   -- for this text's walks alone
set_option linter.unusedVariables false
set_option linter.unusedSimpArgs false
end Go.Proofs.Ytlocaaebgghkbaa.A
namespace Go.Proofs.Ytlocaaebgghkbaa.A
open Go.RowKit Go.Proofs.YtlocaaebgghkbaaW.PrintWords Go.Proofs.YtlocaaebgghkbaaW.PrintLast Go.Proofs.YtlocaaebgghkbaaW.PrintMore
attribute [local go_sem] max2_int min2_int max_two min_two max_three min_three max_four min_four   -- for this text's walks alone
set_option linter.unusedVariables false
set_option linter.unusedSimpArgs false
end Go.Proofs.Ytlocaaebgghkbaa.A
namespace Go.Proofs.Ytlocaaebgghkbaa.A
open Go.RowKit Go.Proofs.YtlocaaebgghkbaaW.PrintWords Go.Proofs.YtlocaaebgghkbaaW.PrintLast Go.Proofs.YtlocaaebgghkbaaW.PrintMore
attribute [local go_sem] max2_int min2_int max_two min_two max_three min_three max_four min_four   -- for this text's walks alone
set_option linter.unusedVariables false
set_option linter.unusedSimpArgs false
end Go.Proofs.Ytlocaaebgghkbaa.A
namespace Go.Proofs.Ytlocaaebgghkbaa.A
open Go.RowKit Go.Proofs.YtlocaaebgghkbaaW.PrintWords Go.Proofs.YtlocaaebgghkbaaW.PrintLast Go.Proofs.YtlocaaebgghkbaaW.PrintMore
attribute [local go_sem] max2_int min2_int max_two min_two max_three min_three max_four min_four   -- for this text's walks alone
set_option linter.unusedVariables false
set_option linter.unusedSimpArgs false
end Go.Proofs.Ytlocaaebgghkbaa.A
namespace Go.Proofs.Ytlocaaebgghkbaa.A
open Go.RowKit Go.Proofs.YtlocaaebgghkbaaW.PrintWords Go.Proofs.YtlocaaebgghkbaaW.PrintLast Go.Proofs.YtlocaaebgghkbaaW.PrintMore
attribute [local go_sem] max2_int min2_int max_two min_two max_three min_three max_four min_four   -- for this text's walks alone
set_option linter.unusedVariables false
set_option linter.unusedSimpArgs false
end Go.Proofs.Ytlocaaebgghkbaa.A
namespace Go.Proofs.Ytlocaaebgghkbaa.A
open Go.RowKit Go.Proofs.YtlocaaebgghkbaaW.PrintWords Go.Proofs.YtlocaaebgghkbaaW.PrintLast Go.Proofs.YtlocaaebgghkbaaW.PrintMore
attribute [local go_sem] max2_int min2_int max_two min_two max_three min_three max_four min_four   -- for this text's walks alone
set_option linter.unusedVariables false
set_option linter.unusedSimpArgs false
end Go.Proofs.Ytlocaaebgghkbaa.A
namespace Go.Proofs.Ytlocaaebgghkbaa.A
open Go.RowKit Go.Proofs.YtlocaaebgghkbaaW.PrintWords Go.Proofs.YtlocaaebgghkbaaW.PrintLast Go.Proofs.YtlocaaebgghkbaaW.PrintMore
attribute [local go_sem] max2_int min2_int max_two min_two max_three min_three max_four min_four   -- for this text's walks alone
set_option linter.unusedVariables false
set_option linter.unusedSimpArgs false
end Go.Proofs.Ytlocaaebgghkbaa.A
namespace Go.Proofs.Ytlocaaebgghkbaa.A
open Go.RowKit Go.Proofs.YtlocaaebgghkbaaW.PrintWords Go.Proofs.YtlocaaebgghkbaaW.PrintLast Go.Proofs.YtlocaaebgghkbaaW.PrintMore
attribute [local go_sem] max2_int min2_int max_two min_two max_three min_three max_four min_four   -- for this text's walks alone
set_option linter.unusedVariables false
set_option linter.unusedSimpArgs false
end Go.Proofs.Ytlocaaebgghkbaa.A
namespace Go.Proofs.Ytlocaaebgghkbaa.A
open Go.RowKit Go.Proofs.YtlocaaebgghkbaaW.PrintWords Go.Proofs.YtlocaaebgghkbaaW.PrintLast Go.Proofs.YtlocaaebgghkbaaW.PrintMore
attribute [local go_sem] max2_int min2_int max_two min_two max_three min_three max_four min_four   -- for this text's walks alone
set_option linter.unusedVariables false
set_option linter.unusedSimpArgs false
end Go.Proofs.Ytlocaaebgghkbaa.A
namespace Go.Proofs.Ytlocaaebgghkbaa.A
open Go.RowKit Go.Proofs.YtlocaaebgghkbaaW.PrintWords Go.Proofs.YtlocaaebgghkbaaW.PrintLast Go.Proofs.YtlocaaebgghkbaaW.PrintMore
attribute [local go_sem] max2_int min2_int max_two min_two max_three min_three max_four min_four   -- for this text's walks alone
set_option linter.unusedVariables false
set_option linter.unusedSimpArgs false
end Go.Proofs.Ytlocaaebgghkbaa.A
namespace Go.Proofs.Ytlocaaebgghkbaa.A
open Go.RowKit Go.Proofs.YtlocaaebgghkbaaW.PrintWords Go.Proofs.YtlocaaebgghkbaaW.PrintLast Go.Proofs.YtlocaaebgghkbaaW.PrintMore
attribute [local go_sem] max2_int min2_int max_two min_two max_three min_three max_four min_four   -- for this text's walks alone
set_option linter.unusedVariables false
set_option linter.unusedSimpArgs false
end Go.Proofs.Ytlocaaebgghkbaa.A
namespace Go.Proofs.Ytlocaaebgghkbaa.A
open Go.RowKit Go.Proofs.YtlocaaebgghkbaaW.PrintWords Go.Proofs.YtlocaaebgghkbaaW.PrintLast Go.Proofs.YtlocaaebgghkbaaW.PrintMore
attribute [local go_sem] max2_int min2_int max_two min_two max_three min_three max_four min_four   -- for this text's walks alone
set_option linter.unusedVariables false
set_option linter.unusedSimpArgs false
end Go.Proofs.Ytlocaaebgghkbaa.A
namespace Go.Proofs.Ytlocaaebgghkbaa.A
open Go.RowKit Go.Proofs.YtlocaaebgghkbaaW.PrintWords Go.Proofs.YtlocaaebgghkbaaW.PrintLast Go.Proofs.YtlocaaebgghkbaaW.PrintMore
attribute [local go_sem] max2_int min2_int max_two min_two max_three min_three max_four min_four   -- for this text's walks alone
set_option linter.unusedVariables false
set_option linter.unusedSimpArgs false
end Go.Proofs.Ytlocaaebgghkbaa.A
namespace Go.Proofs.Ytlocaaebgghkbaa.A
open Go.RowKit Go.Proofs.YtlocaaebgghkbaaW.PrintWords Go.Proofs.YtlocaaebgghkbaaW.PrintLast Go.Proofs.YtlocaaebgghkbaaW.PrintMore
attribute [local go_sem] max2_int min2_int max_two min_two max_three min_three max_four min_four   -- for this text's walks alone
set_option linter.unusedVariables false
set_option linter.unusedSimpArgs false
end Go.Proofs.Ytlocaaebgghkbaa.A
namespace Go.Proofs.Ytlocaaebgghkbaa.A
open Go.RowKit Go.Proofs.YtlocaaebgghkbaaW.PrintWords Go.Proofs.YtlocaaebgghkbaaW.PrintLast Go.Proofs.YtlocaaebgghkbaaW.PrintMore
attribute [local go_sem] max2_int min2_int max_two min_two max_three min_three max_four min_four   -- for this text's walks alone
set_option linter.unusedVariables false
set_option linter.unusedSimpArgs false
end Go.Proofs.Ytlocaaebgghkbaa.A
namespace Go.Proofs.Ytlocaaebgghkbaa.A
open Go.RowKit Go.Proofs.YtlocaaebgghkbaaW.PrintWords Go.Proofs.YtlocaaebgghkbaaW.PrintLast Go.Proofs.YtlocaaebgghkbaaW.PrintMore
attribute [local go_sem] max2_int min2_int max_two min_two max_three min_three max_four min_four   -- for this text's walks alone
set_option linter.unusedVariables false
set_option linter.unusedSimpArgs false
end Go.Proofs.Ytlocaaebgghkbaa.A
