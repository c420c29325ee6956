/- The program's TagEnd and the reference's find the same place, for every text (no condition). -/
import Derived.Test.YtlocaaebgghkbaaAx27
import Derived.Test.YtlocaaebgghkbaaPf
namespace Go.Proofs.Ytlocaaebgghkbaa.Pure
open Go.RowKit Go.Proofs.Ytlocaaebgghkbaa.A Go.Proofs.YtlocaaebgghkbaaW.PrintWords Go.Proofs.YtlocaaebgghkbaaW.PrintLast

theorem FnExactTagEnd : laws_FnExactTagEnd.Pure := by
  intro s k hs hk
  obtain ⟨r, h1, h2⟩ := TagEnd_both s k hs hk
  obtain ⟨n, hn⟩ := h2.rounds
  refine ⟨n, ?_⟩
  unfold laws_FnExactTagEnd.f
  by_cases hb : (s.size : Int) > 1048576
  · rw [if_pos hb]
  · rw [if_neg hb, hn, Option.bind_some, h1, Option.bind_some, if_pos rfl]

end Go.Proofs.Ytlocaaebgghkbaa.Pure
