/- Short names for what the walks over regions say often. -/
namespace Go.Proofs.YtkmmoheeoblmnaaGreatDoor.A
def tB (n m : Nat) : Array Bool := ((List.range n).map fun i => m.testBit i).toArray
theorem pA {α : Type _} {l : List α} {i : Nat} {a : α} : l.toArray.setIfInBounds i a = (l.set i a).toArray := by simp
theorem pB {α : Type _} {x : α} {xs : List α} {a : α} : (x :: xs).set 0 a = a :: xs := rfl
theorem pC {α : Type _} {x : α} {xs : List α} {n : Nat} {a : α} : (x :: xs).set (n + 1) a = x :: xs.set n a := rfl
end Go.Proofs.YtkmmoheeoblmnaaGreatDoor.A
