/-
  NARROWER THAN 'FOR EVERY INPUT', by the rows' own cells (each row's printed sentence says how): FnExactWordsOf: loops · FnExactDocText: loops.
  DERIVED. THE GIVEN ROWS OF THIS SEAT. 7 by the template 'for every input the law returns true; each argument reads behind the call as it read before'; 0 by the template 'total and deterministic' (their statements: YtlocaaebgghkbaaTotals.lean).
  GIVEN WITH THE SEED: the statements are not yours to turn. If you find one false, say at which input.
  Laid BY PROGRAM, IN A SANDBOX (cutbox-rows.mjs): the forced cells as the released guide's own fill.sh prints them over the translation 9dcc28d8c63de8de… (all of the seat's roots in one cut). By AI agents, Wed Nov 11 2026. No macro, syntax, notation, axiom, sorry.
-/
import Derived.Test.YtlocaaebgghkbaaChecked
import GoSem.Claim
import GoSem.ClaimJoined
import GoSem.ClaimMapViews
import Derived.JoinedTies
import Derived.KernelRfl
namespace Go.Proofs.Ytlocaaebgghkbaa
/- THE CELL 'sum', in the pinned program and in every row, IS THE sha256 OF THE DUMP (.gsa) THAT YtlocaaebgghkbaaProg.lean LOADS. Nothing in Lean hashes anything: it is a label: what it is worth is what the hold of that sum in a sandbox is worth. -/
noncomputable def Try.pinned : Pinned := { name := "ytlocaaebgghkbaa", sum := "9dcc28d8c63de8de7892c34ce190dc832fa69b804ca88a7801d95b2ae1ea9d3a", checked := Try.checked }
namespace Rows
def none {H : Type} : Left H := { results := [], args := [] }

/-- 'laws.FnExactTagEnd': WHATEVER THE INPUT: true; the input reads as it did. -/
def fnExactTagEndSpec : ChangeSpec := { name := "fnExactTagEnd", fn := fun _ => fun
  | [d1, d2] => { results := [.lit (.bool true)], args := [d1, d2] }
  | _ => none }
def fnExactTagEndRow : OpenClaim := { program := "ytlocaaebgghkbaa", sum := "9dcc28d8c63de8de7892c34ce190dc832fa69b804ca88a7801d95b2ae1ea9d3a", func := "loop.example/g00325/laws.FnExactTagEnd", spec := "fnExactTagEnd", inPlace := ["internal/bytealg.IndexByteString"], apart := false }
def FnExactTagEndSaid : Prop := fnExactTagEndRow.holds Try.pinned (OpenSpec.ofChange fnExactTagEndSpec)

/-- ITS FALSE NEIGHBOUR: 'it returns false'. Refute it at one input. -/
def fnExactTagEndWrong : ChangeSpec := { name := "fnExactTagEnd", fn := fun _ => fun
  | [d1, d2] => { results := [.lit (.bool false)], args := [d1, d2] }
  | _ => none }
def FnExactTagEndWrongFalsely : Prop := fnExactTagEndRow.holds Try.pinned (OpenSpec.ofChange fnExactTagEndWrong)

/-- 'laws.FnExactWordsOf': WHATEVER THE INPUT: true; the input reads as it did. -/
def fnExactWordsOfSpec : ChangeSpec := { name := "fnExactWordsOf", fn := fun _ => fun
  | [d] => { results := [.lit (.bool true)], args := [d] }
  | _ => none }
def fnExactWordsOfRow : OpenClaim := { program := "ytlocaaebgghkbaa", sum := "9dcc28d8c63de8de7892c34ce190dc832fa69b804ca88a7801d95b2ae1ea9d3a", func := "loop.example/g00325/laws.FnExactWordsOf", spec := "fnExactWordsOf", inPlace := ["internal/abi.NoEscape"], recurses := true, loops := true, apart := false }
def FnExactWordsOfSaid : Prop := fnExactWordsOfRow.holds Try.pinned (OpenSpec.ofChange fnExactWordsOfSpec)

/-- ITS FALSE NEIGHBOUR: 'it returns false'. Refute it at one input. -/
def fnExactWordsOfWrong : ChangeSpec := { name := "fnExactWordsOf", fn := fun _ => fun
  | [d] => { results := [.lit (.bool false)], args := [d] }
  | _ => none }
def FnExactWordsOfWrongFalsely : Prop := fnExactWordsOfRow.holds Try.pinned (OpenSpec.ofChange fnExactWordsOfWrong)

/-- 'laws.FnExactDocText': WHATEVER THE INPUT: true; the input reads as it did. -/
def fnExactDocTextSpec : ChangeSpec := { name := "fnExactDocText", fn := fun _ => fun
  | [d] => { results := [.lit (.bool true)], args := [d] }
  | _ => none }
def fnExactDocTextRow : OpenClaim := { program := "ytlocaaebgghkbaa", sum := "9dcc28d8c63de8de7892c34ce190dc832fa69b804ca88a7801d95b2ae1ea9d3a", func := "loop.example/g00325/laws.FnExactDocText", spec := "fnExactDocText", inPlace := ["internal/abi.NoEscape", "internal/bytealg.MakeNoZero"], recurses := true, loops := true, apart := false }
def FnExactDocTextSaid : Prop := fnExactDocTextRow.holds Try.pinned (OpenSpec.ofChange fnExactDocTextSpec)

/-- ITS FALSE NEIGHBOUR: 'it returns false'. Refute it at one input. -/
def fnExactDocTextWrong : ChangeSpec := { name := "fnExactDocText", fn := fun _ => fun
  | [d] => { results := [.lit (.bool false)], args := [d] }
  | _ => none }
def FnExactDocTextWrongFalsely : Prop := fnExactDocTextRow.holds Try.pinned (OpenSpec.ofChange fnExactDocTextWrong)

/-- 'laws.FnExactAttrs': WHATEVER THE INPUT: true; the input reads as it did. -/
def fnExactAttrsSpec : ChangeSpec := { name := "fnExactAttrs", fn := fun _ => fun
  | [d] => { results := [.lit (.bool true)], args := [d] }
  | _ => none }
def fnExactAttrsRow : OpenClaim := { program := "ytlocaaebgghkbaa", sum := "9dcc28d8c63de8de7892c34ce190dc832fa69b804ca88a7801d95b2ae1ea9d3a", func := "loop.example/g00325/laws.FnExactAttrs", spec := "fnExactAttrs", inPlace := ["internal/bytealg.IndexByteString", "internal/abi.NoEscape"], unfollowed := true, recurses := true, apart := false }
def FnExactAttrsSaid : Prop := fnExactAttrsRow.holds Try.pinned (OpenSpec.ofChange fnExactAttrsSpec)

/-- ITS FALSE NEIGHBOUR: 'it returns false'. Refute it at one input. -/
def fnExactAttrsWrong : ChangeSpec := { name := "fnExactAttrs", fn := fun _ => fun
  | [d] => { results := [.lit (.bool false)], args := [d] }
  | _ => none }
def FnExactAttrsWrongFalsely : Prop := fnExactAttrsRow.holds Try.pinned (OpenSpec.ofChange fnExactAttrsWrong)

/-- 'laws.FnExactTreeText': WHATEVER THE INPUT: true; the input reads as it did. -/
def fnExactTreeTextSpec : ChangeSpec := { name := "fnExactTreeText", fn := fun _ => fun
  | [d] => { results := [.lit (.bool true)], args := [d] }
  | _ => none }
def fnExactTreeTextRow : OpenClaim := { program := "ytlocaaebgghkbaa", sum := "9dcc28d8c63de8de7892c34ce190dc832fa69b804ca88a7801d95b2ae1ea9d3a", func := "loop.example/g00325/laws.FnExactTreeText", spec := "fnExactTreeText", inPlace := ["internal/abi.NoEscape", "internal/bytealg.MakeNoZero"], unfollowed := true, recurses := true, apart := false }
def FnExactTreeTextSaid : Prop := fnExactTreeTextRow.holds Try.pinned (OpenSpec.ofChange fnExactTreeTextSpec)

/-- ITS FALSE NEIGHBOUR: 'it returns false'. Refute it at one input. -/
def fnExactTreeTextWrong : ChangeSpec := { name := "fnExactTreeText", fn := fun _ => fun
  | [d] => { results := [.lit (.bool false)], args := [d] }
  | _ => none }
def FnExactTreeTextWrongFalsely : Prop := fnExactTreeTextRow.holds Try.pinned (OpenSpec.ofChange fnExactTreeTextWrong)

/-- 'laws.FnExactTextsOf': WHATEVER THE INPUT: true; the input reads as it did. -/
def fnExactTextsOfSpec : ChangeSpec := { name := "fnExactTextsOf", fn := fun _ => fun
  | [d] => { results := [.lit (.bool true)], args := [d] }
  | _ => none }
def fnExactTextsOfRow : OpenClaim := { program := "ytlocaaebgghkbaa", sum := "9dcc28d8c63de8de7892c34ce190dc832fa69b804ca88a7801d95b2ae1ea9d3a", func := "loop.example/g00325/laws.FnExactTextsOf", spec := "fnExactTextsOf", inPlace := ["internal/abi.NoEscape"], unfollowed := true, recurses := true, apart := false }
def FnExactTextsOfSaid : Prop := fnExactTextsOfRow.holds Try.pinned (OpenSpec.ofChange fnExactTextsOfSpec)

/-- ITS FALSE NEIGHBOUR: 'it returns false'. Refute it at one input. -/
def fnExactTextsOfWrong : ChangeSpec := { name := "fnExactTextsOf", fn := fun _ => fun
  | [d] => { results := [.lit (.bool false)], args := [d] }
  | _ => none }
def FnExactTextsOfWrongFalsely : Prop := fnExactTextsOfRow.holds Try.pinned (OpenSpec.ofChange fnExactTextsOfWrong)

/-- 'laws.FnTagEnds': WHATEVER THE INPUT: true; the input reads as it did. -/
def fnTagEndsSpec : ChangeSpec := { name := "fnTagEnds", fn := fun _ => fun
  | [d] => { results := [.lit (.bool true)], args := [d] }
  | _ => none }
def fnTagEndsRow : OpenClaim := { program := "ytlocaaebgghkbaa", sum := "9dcc28d8c63de8de7892c34ce190dc832fa69b804ca88a7801d95b2ae1ea9d3a", func := "loop.example/g00325/laws.FnTagEnds", spec := "fnTagEnds", inPlace := ["internal/bytealg.IndexByteString", "internal/abi.NoEscape", "internal/bytealg.IndexString"], unfollowed := true, recurses := true, named := ["internal/bytealg.MaxLen"], apart := false }
def FnTagEndsSaid : Prop := fnTagEndsRow.holds Try.pinned (OpenSpec.ofChange fnTagEndsSpec)

/-- ITS FALSE NEIGHBOUR: 'it returns false'. Refute it at one input. -/
def fnTagEndsWrong : ChangeSpec := { name := "fnTagEnds", fn := fun _ => fun
  | [d] => { results := [.lit (.bool false)], args := [d] }
  | _ => none }
def FnTagEndsWrongFalsely : Prop := fnTagEndsRow.holds Try.pinned (OpenSpec.ofChange fnTagEndsWrong)

/- THE SECOND FORM. 'bulk': how many values and letters a reading holds, each counted each time it is reached (what is shared counts as often as it is met; a slice's spare places count too). A statement '..UptoSaid' is the law's where the arguments, and the package variables that the reading takes, are together of bulk at most 1048576: NARROWER than '..Said'. Prove '..Said' where nothing that the law and all that it calls make is longer than what came in: it says more and counts as full. Else prove '..UptoSaid'. A law counts once. -/
mutual
def uptoBulk {H : Type} : DataW H → Nat
  | .lit (.string bytes) => bytes.length + 1
  | .lit _ => 1
  | .nil => 1
  | .ptr d => uptoBulk d + 1
  | .slice elems spare => uptoBulkAll elems + uptoBulkAll spare + 1
  | .agg parts => uptoBulkAll parts + 1
  | .iface _ d => uptoBulk d + 1
  | .map entries => uptoBulkEntries entries + 1
  | .held _ => 1
def uptoBulkAll {H : Type} : List (DataW H) → Nat
  | [] => 0
  | d :: r => uptoBulk d + uptoBulkAll r
def uptoBulkEntries {H : Type} : List (Lit × DataW H) → Nat
  | [] => 0
  | x :: r => uptoBulkEntry x + uptoBulkEntries r
def uptoBulkEntry {H : Type} : Lit × DataW H → Nat
  | (.string bytes, d) => bytes.length + uptoBulk d + 1
  | (_, d) => uptoBulk d + 1
 end
def uptoSmall : (H : Type) → List (DataW H) → Bool := fun _ ds => decide (uptoBulkAll ds ≤ 1048576)
def OpenSpec.upto (s : _root_.Go.ChangeSpec) : _root_.Go.OpenSpec := { _root_.Go.OpenSpec.ofChange s with cond := some uptoSmall }

/-- 'laws.FnExactTagEnd', WHERE WHAT IT READS IS OF BULK AT MOST 1048576: true; the input reads as it did. -/
def fnExactTagEndUptoRow : OpenClaim := { program := "ytlocaaebgghkbaa", sum := "9dcc28d8c63de8de7892c34ce190dc832fa69b804ca88a7801d95b2ae1ea9d3a", func := "loop.example/g00325/laws.FnExactTagEnd", spec := "fnExactTagEnd", inPlace := ["internal/bytealg.IndexByteString"], apart := false, narrowed := true }
def FnExactTagEndUptoSaid : Prop := fnExactTagEndUptoRow.holds Try.pinned (OpenSpec.upto fnExactTagEndSpec)

/-- 'laws.FnExactWordsOf', WHERE WHAT IT READS IS OF BULK AT MOST 1048576: true; the input reads as it did. -/
def fnExactWordsOfUptoRow : OpenClaim := { program := "ytlocaaebgghkbaa", sum := "9dcc28d8c63de8de7892c34ce190dc832fa69b804ca88a7801d95b2ae1ea9d3a", func := "loop.example/g00325/laws.FnExactWordsOf", spec := "fnExactWordsOf", inPlace := ["internal/abi.NoEscape"], recurses := true, loops := true, apart := false, narrowed := true }
def FnExactWordsOfUptoSaid : Prop := fnExactWordsOfUptoRow.holds Try.pinned (OpenSpec.upto fnExactWordsOfSpec)

/-- 'laws.FnExactDocText', WHERE WHAT IT READS IS OF BULK AT MOST 1048576: true; the input reads as it did. -/
def fnExactDocTextUptoRow : OpenClaim := { program := "ytlocaaebgghkbaa", sum := "9dcc28d8c63de8de7892c34ce190dc832fa69b804ca88a7801d95b2ae1ea9d3a", func := "loop.example/g00325/laws.FnExactDocText", spec := "fnExactDocText", inPlace := ["internal/abi.NoEscape", "internal/bytealg.MakeNoZero"], recurses := true, loops := true, apart := false, narrowed := true }
def FnExactDocTextUptoSaid : Prop := fnExactDocTextUptoRow.holds Try.pinned (OpenSpec.upto fnExactDocTextSpec)

/-- 'laws.FnExactAttrs', WHERE WHAT IT READS IS OF BULK AT MOST 1048576: true; the input reads as it did. -/
def fnExactAttrsUptoRow : OpenClaim := { program := "ytlocaaebgghkbaa", sum := "9dcc28d8c63de8de7892c34ce190dc832fa69b804ca88a7801d95b2ae1ea9d3a", func := "loop.example/g00325/laws.FnExactAttrs", spec := "fnExactAttrs", inPlace := ["internal/bytealg.IndexByteString", "internal/abi.NoEscape"], unfollowed := true, recurses := true, apart := false, narrowed := true }
def FnExactAttrsUptoSaid : Prop := fnExactAttrsUptoRow.holds Try.pinned (OpenSpec.upto fnExactAttrsSpec)

/-- 'laws.FnExactTreeText', WHERE WHAT IT READS IS OF BULK AT MOST 1048576: true; the input reads as it did. -/
def fnExactTreeTextUptoRow : OpenClaim := { program := "ytlocaaebgghkbaa", sum := "9dcc28d8c63de8de7892c34ce190dc832fa69b804ca88a7801d95b2ae1ea9d3a", func := "loop.example/g00325/laws.FnExactTreeText", spec := "fnExactTreeText", inPlace := ["internal/abi.NoEscape", "internal/bytealg.MakeNoZero"], unfollowed := true, recurses := true, apart := false, narrowed := true }
def FnExactTreeTextUptoSaid : Prop := fnExactTreeTextUptoRow.holds Try.pinned (OpenSpec.upto fnExactTreeTextSpec)

/-- 'laws.FnExactTextsOf', WHERE WHAT IT READS IS OF BULK AT MOST 1048576: true; the input reads as it did. -/
def fnExactTextsOfUptoRow : OpenClaim := { program := "ytlocaaebgghkbaa", sum := "9dcc28d8c63de8de7892c34ce190dc832fa69b804ca88a7801d95b2ae1ea9d3a", func := "loop.example/g00325/laws.FnExactTextsOf", spec := "fnExactTextsOf", inPlace := ["internal/abi.NoEscape"], unfollowed := true, recurses := true, apart := false, narrowed := true }
def FnExactTextsOfUptoSaid : Prop := fnExactTextsOfUptoRow.holds Try.pinned (OpenSpec.upto fnExactTextsOfSpec)

/-- 'laws.FnTagEnds', WHERE WHAT IT READS IS OF BULK AT MOST 1048576: true; the input reads as it did. -/
def fnTagEndsUptoRow : OpenClaim := { program := "ytlocaaebgghkbaa", sum := "9dcc28d8c63de8de7892c34ce190dc832fa69b804ca88a7801d95b2ae1ea9d3a", func := "loop.example/g00325/laws.FnTagEnds", spec := "fnTagEnds", inPlace := ["internal/bytealg.IndexByteString", "internal/abi.NoEscape", "internal/bytealg.IndexString"], unfollowed := true, recurses := true, named := ["internal/bytealg.MaxLen"], apart := false, narrowed := true }
def FnTagEndsUptoSaid : Prop := fnTagEndsUptoRow.holds Try.pinned (OpenSpec.upto fnTagEndsSpec)

end Rows
end Go.Proofs.Ytlocaaebgghkbaa
