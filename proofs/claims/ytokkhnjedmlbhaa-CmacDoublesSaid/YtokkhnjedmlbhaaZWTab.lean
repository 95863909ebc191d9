-- cut by the session's program shake.py out of the words that the kit's print laid for this claim
import Derived.Test.YtokkhnjedmlbhaaZWLast
import Derived.Test.YtokkhnjedmlbhaaZWWords
namespace Go.Proofs.YtokkhnjedmlbhaaW.PrintLast
open Go.Proofs.YtokkhnjedmlbhaaW.PrintWords (Aside0)
def reachT (T : List (List Nat × List Nat)) (i : Nat) : Nat → Nat → Bool
  | 0, _ => false
  | fuel + 1, d => match T[d]? with
    | some r => r.1.any fun j => j == i || reachT T i fuel j
    | none => false
def lastT (T : List (List Nat × List Nat)) (l : List Bool) (ds : List Nat) (i : Nat) : Bool := ds.all fun d => l.getD d true || reachT T i T.length d
section
variable {md : Region.Mode} {ops : Array Oper} {T : Bool × List (List Nat × List Nat)} {l l' li lj lk : Array Bool} {ds : List Nat} {i j k : Nat}
end
end Go.Proofs.YtokkhnjedmlbhaaW.PrintLast
