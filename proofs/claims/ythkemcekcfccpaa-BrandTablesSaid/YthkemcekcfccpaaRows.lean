/-
  NARROWER THAN 'FOR EVERY INPUT', by the rows' own cells (each row's printed sentence says how): BrandCompares: loops · BrandLists: loops · BrandTables: loops · BrandNone: loops.
  DERIVED. THE GIVEN ROWS OF THIS SEAT. 5 by the template 'for every input the law returns true; each argument reads behind the call as it read before'; 0 by the template 'total and deterministic' (their statements: YthkemcekcfccpaaTotals.lean).
  GIVEN WITH THE SEED: the statements are not yours to turn. If you find one false, say at which input.
  Laid BY PROGRAM, IN A SANDBOX (cutbox-rows.mjs): the forced cells as the released guide's own fill.sh prints them over the translation 1c35ebc4705db443… (all of the seat's roots in one cut). By AI agents, Wed Nov 11 2026. No macro, syntax, notation, axiom, sorry.
-/
import Derived.Test.YthkemcekcfccpaaChecked
import GoSem.Claim
import GoSem.ClaimJoined
import GoSem.ClaimMapViews
import Derived.JoinedTies
import Derived.KernelRfl
namespace Go.Proofs.Ythkemcekcfccpaa
/- THE CELL 'sum', in the pinned program and in every row, IS THE sha256 OF THE DUMP (.gsa) THAT YthkemcekcfccpaaProg.lean LOADS. Nothing in Lean hashes anything: it is a label: what it is worth is what the hold of that sum in a sandbox is worth. -/
noncomputable def Try.pinned : Pinned := { name := "ythkemcekcfccpaa", sum := "1c35ebc4705db443cf348f22a933a5133396bbb131ed803df93a6e0dc8228a0b", checked := Try.checked }
namespace Rows
def none {H : Type} : Left H := { results := [], args := [] }

/-- 'posternlaw04.BrandNames': WHATEVER THE INPUT: true; the input reads as it did. -/
def brandNamesSpec : ChangeSpec := { name := "brandNames", fn := fun _ => fun
  | [] => { results := [.lit (.bool true)], args := [] }
  | _ => none }
def brandNamesRow : OpenClaim := { program := "ythkemcekcfccpaa", sum := "1c35ebc4705db443cf348f22a933a5133396bbb131ed803df93a6e0dc8228a0b", func := "postern/posternlaw04.BrandNames", spec := "brandNames", unfollowed := true, recurses := true, apart := false }
def BrandNamesSaid : Prop := brandNamesRow.holds Try.pinned (OpenSpec.ofChange brandNamesSpec)

/-- ITS FALSE NEIGHBOUR: 'it returns false'. Refute it at one input. -/
def brandNamesWrong : ChangeSpec := { name := "brandNames", fn := fun _ => fun
  | [] => { results := [.lit (.bool false)], args := [] }
  | _ => none }
def BrandNamesWrongFalsely : Prop := brandNamesRow.holds Try.pinned (OpenSpec.ofChange brandNamesWrong)

/-- 'posternlaw04.BrandCompares': WHATEVER THE INPUT: true; the input reads as it did. -/
def brandComparesSpec : ChangeSpec := { name := "brandCompares", fn := fun _ => fun
  | [d1, d2] => { results := [.lit (.bool true)], args := [d1, d2] }
  | _ => none }
def brandComparesRow : OpenClaim := { program := "ythkemcekcfccpaa", sum := "1c35ebc4705db443cf348f22a933a5133396bbb131ed803df93a6e0dc8228a0b", func := "postern/posternlaw04.BrandCompares", spec := "brandCompares", unfollowed := true, recurses := true, loops := true, apart := false }
def BrandComparesSaid : Prop := brandComparesRow.holds Try.pinned (OpenSpec.ofChange brandComparesSpec)

/-- ITS FALSE NEIGHBOUR: 'it returns false'. Refute it at one input. -/
def brandComparesWrong : ChangeSpec := { name := "brandCompares", fn := fun _ => fun
  | [d1, d2] => { results := [.lit (.bool false)], args := [d1, d2] }
  | _ => none }
def BrandComparesWrongFalsely : Prop := brandComparesRow.holds Try.pinned (OpenSpec.ofChange brandComparesWrong)

/-- 'posternlaw04.BrandLists': WHATEVER THE INPUT: true; the input reads as it did. -/
def brandListsSpec : ChangeSpec := { name := "brandLists", fn := fun _ => fun
  | [d1, d2] => { results := [.lit (.bool true)], args := [d1, d2] }
  | _ => none }
def brandListsRow : OpenClaim := { program := "ythkemcekcfccpaa", sum := "1c35ebc4705db443cf348f22a933a5133396bbb131ed803df93a6e0dc8228a0b", func := "postern/posternlaw04.BrandLists", spec := "brandLists", unfollowed := true, recurses := true, loops := true, apart := false }
def BrandListsSaid : Prop := brandListsRow.holds Try.pinned (OpenSpec.ofChange brandListsSpec)

/-- ITS FALSE NEIGHBOUR: 'it returns false'. Refute it at one input. -/
def brandListsWrong : ChangeSpec := { name := "brandLists", fn := fun _ => fun
  | [d1, d2] => { results := [.lit (.bool false)], args := [d1, d2] }
  | _ => none }
def BrandListsWrongFalsely : Prop := brandListsRow.holds Try.pinned (OpenSpec.ofChange brandListsWrong)

/-- 'posternlaw04.BrandTables': WHATEVER THE INPUT: true; the input reads as it did. -/
def brandTablesSpec : ChangeSpec := { name := "brandTables", fn := fun _ => fun
  | [d] => { results := [.lit (.bool true)], args := [d] }
  | _ => none }
def brandTablesRow : OpenClaim := { program := "ythkemcekcfccpaa", sum := "1c35ebc4705db443cf348f22a933a5133396bbb131ed803df93a6e0dc8228a0b", func := "postern/posternlaw04.BrandTables", spec := "brandTables", unfollowed := true, recurses := true, loops := true, apart := false }
def BrandTablesSaid : Prop := brandTablesRow.holds Try.pinned (OpenSpec.ofChange brandTablesSpec)

/-- ITS FALSE NEIGHBOUR: 'it returns false'. Refute it at one input. -/
def brandTablesWrong : ChangeSpec := { name := "brandTables", fn := fun _ => fun
  | [d] => { results := [.lit (.bool false)], args := [d] }
  | _ => none }
def BrandTablesWrongFalsely : Prop := brandTablesRow.holds Try.pinned (OpenSpec.ofChange brandTablesWrong)

/-- 'posternlaw04.BrandNone': WHATEVER THE INPUT: true; the input reads as it did. -/
def brandNoneSpec : ChangeSpec := { name := "brandNone", fn := fun _ => fun
  | [d1, d2] => { results := [.lit (.bool true)], args := [d1, d2] }
  | _ => none }
def brandNoneRow : OpenClaim := { program := "ythkemcekcfccpaa", sum := "1c35ebc4705db443cf348f22a933a5133396bbb131ed803df93a6e0dc8228a0b", func := "postern/posternlaw04.BrandNone", spec := "brandNone", unfollowed := true, recurses := true, loops := true, apart := false }
def BrandNoneSaid : Prop := brandNoneRow.holds Try.pinned (OpenSpec.ofChange brandNoneSpec)

/-- ITS FALSE NEIGHBOUR: 'it returns false'. Refute it at one input. -/
def brandNoneWrong : ChangeSpec := { name := "brandNone", fn := fun _ => fun
  | [d1, d2] => { results := [.lit (.bool false)], args := [d1, d2] }
  | _ => none }
def BrandNoneWrongFalsely : Prop := brandNoneRow.holds Try.pinned (OpenSpec.ofChange brandNoneWrong)

/- THE SECOND FORM. 'bulk': how many values and letters a reading holds, each counted each time it is reached (what is shared counts as often as it is met; a slice's spare places count too). A statement '..UptoSaid' is the law's where the arguments, and the package variables that the reading takes, are together of bulk at most 1048576: NARROWER than '..Said'. Prove '..Said' where nothing that the law and all that it calls make is longer than what came in: it says more and counts as full. Else prove '..UptoSaid'. A law counts once. -/
mutual
def uptoBulk {H : Type} : DataW H → Nat
  | .lit (.string bytes) => bytes.length + 1
  | .lit _ => 1
  | .nil => 1
  | .ptr d => uptoBulk d + 1
  | .slice elems spare => uptoBulkAll elems + uptoBulkAll spare + 1
  | .agg parts => uptoBulkAll parts + 1
  | .iface _ d => uptoBulk d + 1
  | .map entries => uptoBulkEntries entries + 1
  | .held _ => 1
def uptoBulkAll {H : Type} : List (DataW H) → Nat
  | [] => 0
  | d :: r => uptoBulk d + uptoBulkAll r
def uptoBulkEntries {H : Type} : List (Lit × DataW H) → Nat
  | [] => 0
  | x :: r => uptoBulkEntry x + uptoBulkEntries r
def uptoBulkEntry {H : Type} : Lit × DataW H → Nat
  | (.string bytes, d) => bytes.length + uptoBulk d + 1
  | (_, d) => uptoBulk d + 1
 end
def uptoSmall : (H : Type) → List (DataW H) → Bool := fun _ ds => decide (uptoBulkAll ds ≤ 1048576)
def OpenSpec.upto (s : _root_.Go.ChangeSpec) : _root_.Go.OpenSpec := { _root_.Go.OpenSpec.ofChange s with cond := some uptoSmall }

/-- 'posternlaw04.BrandNames', WHERE WHAT IT READS IS OF BULK AT MOST 1048576: true; the input reads as it did. -/
def brandNamesUptoRow : OpenClaim := { program := "ythkemcekcfccpaa", sum := "1c35ebc4705db443cf348f22a933a5133396bbb131ed803df93a6e0dc8228a0b", func := "postern/posternlaw04.BrandNames", spec := "brandNames", unfollowed := true, recurses := true, apart := false, narrowed := true }
def BrandNamesUptoSaid : Prop := brandNamesUptoRow.holds Try.pinned (OpenSpec.upto brandNamesSpec)

/-- 'posternlaw04.BrandCompares', WHERE WHAT IT READS IS OF BULK AT MOST 1048576: true; the input reads as it did. -/
def brandComparesUptoRow : OpenClaim := { program := "ythkemcekcfccpaa", sum := "1c35ebc4705db443cf348f22a933a5133396bbb131ed803df93a6e0dc8228a0b", func := "postern/posternlaw04.BrandCompares", spec := "brandCompares", unfollowed := true, recurses := true, loops := true, apart := false, narrowed := true }
def BrandComparesUptoSaid : Prop := brandComparesUptoRow.holds Try.pinned (OpenSpec.upto brandComparesSpec)

/-- 'posternlaw04.BrandLists', WHERE WHAT IT READS IS OF BULK AT MOST 1048576: true; the input reads as it did. -/
def brandListsUptoRow : OpenClaim := { program := "ythkemcekcfccpaa", sum := "1c35ebc4705db443cf348f22a933a5133396bbb131ed803df93a6e0dc8228a0b", func := "postern/posternlaw04.BrandLists", spec := "brandLists", unfollowed := true, recurses := true, loops := true, apart := false, narrowed := true }
def BrandListsUptoSaid : Prop := brandListsUptoRow.holds Try.pinned (OpenSpec.upto brandListsSpec)

/-- 'posternlaw04.BrandTables', WHERE WHAT IT READS IS OF BULK AT MOST 1048576: true; the input reads as it did. -/
def brandTablesUptoRow : OpenClaim := { program := "ythkemcekcfccpaa", sum := "1c35ebc4705db443cf348f22a933a5133396bbb131ed803df93a6e0dc8228a0b", func := "postern/posternlaw04.BrandTables", spec := "brandTables", unfollowed := true, recurses := true, loops := true, apart := false, narrowed := true }
def BrandTablesUptoSaid : Prop := brandTablesUptoRow.holds Try.pinned (OpenSpec.upto brandTablesSpec)

/-- 'posternlaw04.BrandNone', WHERE WHAT IT READS IS OF BULK AT MOST 1048576: true; the input reads as it did. -/
def brandNoneUptoRow : OpenClaim := { program := "ythkemcekcfccpaa", sum := "1c35ebc4705db443cf348f22a933a5133396bbb131ed803df93a6e0dc8228a0b", func := "postern/posternlaw04.BrandNone", spec := "brandNone", unfollowed := true, recurses := true, loops := true, apart := false, narrowed := true }
def BrandNoneUptoSaid : Prop := brandNoneUptoRow.holds Try.pinned (OpenSpec.upto brandNoneSpec)

end Rows
end Go.Proofs.Ythkemcekcfccpaa
