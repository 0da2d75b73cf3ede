/-
  No cell of these rows narrows 'for every input' (looked for: loops, veiled, ifaces, maps, wideKeys, modest, calm, conditions, laid).
  DERIVED. THE GIVEN ROWS OF THIS SEAT. 3 by the template 'for every input the law returns true; each argument reads behind the call as it read before'; 0 by the template 'total and deterministic' (their statements: YtbnjbjcokkcfcaaTotals.lean).
  GIVEN WITH THE SEED: the statements are not yours to turn. If you find one false, say at which input.
  Laid BY PROGRAM, IN A SANDBOX (cutbox-rows.mjs): the forced cells as the released guide's own fill.sh prints them over the translation 35a7e79e63f67e0f… (all of the seat's roots in one cut). By AI agents, Wed Nov 11 2026. No macro, syntax, notation, axiom, sorry.
-/
import Derived.Test.YtbnjbjcokkcfcaaChecked
import GoSem.Claim
import GoSem.ClaimJoined
import GoSem.ClaimMapViews
import Derived.JoinedTies
import Derived.KernelRfl
namespace Go.Proofs.Ytbnjbjcokkcfcaa
/- THE CELL 'sum', in the pinned program and in every row, IS THE sha256 OF THE DUMP (.gsa) THAT YtbnjbjcokkcfcaaProg.lean LOADS. Nothing in Lean hashes anything: it is a label: what it is worth is what the hold of that sum in a sandbox is worth. -/
noncomputable def Try.pinned : Pinned := { name := "ytbnjbjcokkcfcaa", sum := "35a7e79e63f67e0fa8591a31043e7caac5fcb55ee8dbfd9d7328f99fac651d73", checked := Try.checked }
namespace Rows
def none {H : Type} : Left H := { results := [], args := [] }

/-- 'censuslaw14.SearchOwn': WHATEVER THE INPUT: true; the input reads as it did. -/
def searchOwnSpec : ChangeSpec := { name := "searchOwn", fn := fun _ => fun
  | [d1, d2] => { results := [.lit (.bool true)], args := [d1, d2] }
  | _ => none }
def searchOwnRow : OpenClaim := { program := "ytbnjbjcokkcfcaa", sum := "35a7e79e63f67e0fa8591a31043e7caac5fcb55ee8dbfd9d7328f99fac651d73", func := "census/censuslaw14.SearchOwn", spec := "searchOwn", unfollowed := true, recurses := true, apart := false }
def SearchOwnSaid : Prop := searchOwnRow.holds Try.pinned (OpenSpec.ofChange searchOwnSpec)

/-- ITS FALSE NEIGHBOUR: 'it returns false'. Refute it at one input. -/
def searchOwnWrong : ChangeSpec := { name := "searchOwn", fn := fun _ => fun
  | [d1, d2] => { results := [.lit (.bool false)], args := [d1, d2] }
  | _ => none }
def SearchOwnWrongFalsely : Prop := searchOwnRow.holds Try.pinned (OpenSpec.ofChange searchOwnWrong)

/-- 'censuslaw16.PartsSplit': WHATEVER THE INPUT: true; the input reads as it did. -/
def partsSplitSpec : ChangeSpec := { name := "partsSplit", fn := fun _ => fun
  | [d1, d2] => { results := [.lit (.bool true)], args := [d1, d2] }
  | _ => none }
def partsSplitRow : OpenClaim := { program := "ytbnjbjcokkcfcaa", sum := "35a7e79e63f67e0fa8591a31043e7caac5fcb55ee8dbfd9d7328f99fac651d73", func := "census/censuslaw16.PartsSplit", spec := "partsSplit", unfollowed := true, recurses := true, apart := false }
def PartsSplitSaid : Prop := partsSplitRow.holds Try.pinned (OpenSpec.ofChange partsSplitSpec)

/-- ITS FALSE NEIGHBOUR: 'it returns false'. Refute it at one input. -/
def partsSplitWrong : ChangeSpec := { name := "partsSplit", fn := fun _ => fun
  | [d1, d2] => { results := [.lit (.bool false)], args := [d1, d2] }
  | _ => none }
def PartsSplitWrongFalsely : Prop := partsSplitRow.holds Try.pinned (OpenSpec.ofChange partsSplitWrong)

/-- 'censuslaw15.ProbeBones': WHATEVER THE INPUT: true; the input reads as it did. -/
def probeBonesSpec : ChangeSpec := { name := "probeBones", fn := fun _ => fun
  | [d1, d2] => { results := [.lit (.bool true)], args := [d1, d2] }
  | _ => none }
def probeBonesRow : OpenClaim := { program := "ytbnjbjcokkcfcaa", sum := "35a7e79e63f67e0fa8591a31043e7caac5fcb55ee8dbfd9d7328f99fac651d73", func := "census/censuslaw15.ProbeBones", spec := "probeBones", unfollowed := true, recurses := true, apart := false }
def ProbeBonesSaid : Prop := probeBonesRow.holds Try.pinned (OpenSpec.ofChange probeBonesSpec)

/-- ITS FALSE NEIGHBOUR: 'it returns false'. Refute it at one input. -/
def probeBonesWrong : ChangeSpec := { name := "probeBones", fn := fun _ => fun
  | [d1, d2] => { results := [.lit (.bool false)], args := [d1, d2] }
  | _ => none }
def ProbeBonesWrongFalsely : Prop := probeBonesRow.holds Try.pinned (OpenSpec.ofChange probeBonesWrong)

/- THE SECOND FORM. 'bulk': how many values and letters a reading holds, each counted each time it is reached (what is shared counts as often as it is met; a slice's spare places count too). A statement '..UptoSaid' is the law's where the arguments, and the package variables that the reading takes, are together of bulk at most 1048576: NARROWER than '..Said'. Prove '..Said' where nothing that the law and all that it calls make is longer than what came in: it says more and counts as full. Else prove '..UptoSaid'. A law counts once. -/
mutual
def uptoBulk {H : Type} : DataW H → Nat
  | .lit (.string bytes) => bytes.length + 1
  | .lit _ => 1
  | .nil => 1
  | .ptr d => uptoBulk d + 1
  | .slice elems spare => uptoBulkAll elems + uptoBulkAll spare + 1
  | .agg parts => uptoBulkAll parts + 1
  | .iface _ d => uptoBulk d + 1
  | .map entries => uptoBulkEntries entries + 1
  | .held _ => 1
def uptoBulkAll {H : Type} : List (DataW H) → Nat
  | [] => 0
  | d :: r => uptoBulk d + uptoBulkAll r
def uptoBulkEntries {H : Type} : List (Lit × DataW H) → Nat
  | [] => 0
  | x :: r => uptoBulkEntry x + uptoBulkEntries r
def uptoBulkEntry {H : Type} : Lit × DataW H → Nat
  | (.string bytes, d) => bytes.length + uptoBulk d + 1
  | (_, d) => uptoBulk d + 1
 end
def uptoSmall : (H : Type) → List (DataW H) → Bool := fun _ ds => decide (uptoBulkAll ds ≤ 1048576)
def OpenSpec.upto (s : _root_.Go.ChangeSpec) : _root_.Go.OpenSpec := { _root_.Go.OpenSpec.ofChange s with cond := some uptoSmall }

/-- 'censuslaw14.SearchOwn', WHERE WHAT IT READS IS OF BULK AT MOST 1048576: true; the input reads as it did. -/
def searchOwnUptoRow : OpenClaim := { program := "ytbnjbjcokkcfcaa", sum := "35a7e79e63f67e0fa8591a31043e7caac5fcb55ee8dbfd9d7328f99fac651d73", func := "census/censuslaw14.SearchOwn", spec := "searchOwn", unfollowed := true, recurses := true, apart := false, narrowed := true }
def SearchOwnUptoSaid : Prop := searchOwnUptoRow.holds Try.pinned (OpenSpec.upto searchOwnSpec)

/-- 'censuslaw16.PartsSplit', WHERE WHAT IT READS IS OF BULK AT MOST 1048576: true; the input reads as it did. -/
def partsSplitUptoRow : OpenClaim := { program := "ytbnjbjcokkcfcaa", sum := "35a7e79e63f67e0fa8591a31043e7caac5fcb55ee8dbfd9d7328f99fac651d73", func := "census/censuslaw16.PartsSplit", spec := "partsSplit", unfollowed := true, recurses := true, apart := false, narrowed := true }
def PartsSplitUptoSaid : Prop := partsSplitUptoRow.holds Try.pinned (OpenSpec.upto partsSplitSpec)

/-- 'censuslaw15.ProbeBones', WHERE WHAT IT READS IS OF BULK AT MOST 1048576: true; the input reads as it did. -/
def probeBonesUptoRow : OpenClaim := { program := "ytbnjbjcokkcfcaa", sum := "35a7e79e63f67e0fa8591a31043e7caac5fcb55ee8dbfd9d7328f99fac651d73", func := "census/censuslaw15.ProbeBones", spec := "probeBones", unfollowed := true, recurses := true, apart := false, narrowed := true }
def ProbeBonesUptoSaid : Prop := probeBonesUptoRow.holds Try.pinned (OpenSpec.upto probeBonesSpec)

end Rows
end Go.Proofs.Ytbnjbjcokkcfcaa
