/-
  NARROWER THAN 'FOR EVERY INPUT', by the rows' own cells (each row's printed sentence says how): ChunkLooks: laid · ChunkTimes: laid · ChunkSplits: laid · RecordSorts: laid · RecordOrdered: laid · ChunkBytes: laid · ChunkBack: laid · ChunkGroups: laid · ChunkAll: laid.
  DERIVED. THE GIVEN ROWS OF THIS SEAT. 9 by the template 'for every input the law returns true; each argument reads behind the call as it read before'; 0 by the template 'total and deterministic' (their statements: YtkbmmgpdnienfaaDoorTotals.lean).
  GIVEN WITH THE SEED: the statements are not yours to turn. If you find one false, say at which input.
  Laid BY PROGRAM, IN A SANDBOX (cutbox-rows.mjs): the forced cells as the released guide's own fill.sh prints them over the translation 5e98dba4fcf081ac… (all of the seat's roots in one cut). By AI agents, Wed Nov 11 2026. No macro, syntax, notation, axiom, sorry.
-/
import Derived.Test.YtkbmmgpdnienfaaDoorChecked
import GoSem.PinnedTables
import GoSem.Claim
import GoSem.ClaimJoined
import GoSem.ClaimMapViews
import Derived.JoinedTies
import Derived.KernelRfl
namespace Go.Proofs.YtkbmmgpdnienfaaDoor
/- THE CELL 'sum', in the pinned program and in every row, IS THE sha256 OF THE DUMP (.gsa) THAT YtkbmmgpdnienfaaDoorProg.lean LOADS. Nothing in Lean hashes anything: it is a label: what it is worth is what the hold of that sum in a sandbox is worth. -/
noncomputable def Tryd.pinned : Pinned := { name := "ytkbmmgpdnienfaadoor", sum := "5e98dba4fcf081ac38d0bd1ec447aec9d82cf492541631e72728063c70811830", checked := Tryd.checked }
namespace Rows
def none {H : Type} : Left H := { results := [], args := [] }

/- WHAT THE LISTED PACKAGE-LEVEL VARIABLES READ AS WHEN THE CALL BEGINS. Each datum BY PROGRAM (the guide's laid-datum.mjs) off the statement by which the dump's own 'gosem.cut.vars' lays the variable. In a bare row this is a premise. The card (YtkbmmgpdnienfaaDoorCards.lean) ties it to the program's text. -/
def laid_unicode_utf8_acceptRanges {H : Type} : DataW H := .agg [.agg [.lit (.int .u8 128), .lit (.int .u8 191)], .agg [.lit (.int .u8 160), .lit (.int .u8 191)], .agg [.lit (.int .u8 128), .lit (.int .u8 159)], .agg [.lit (.int .u8 144), .lit (.int .u8 191)], .agg [.lit (.int .u8 128), .lit (.int .u8 143)], .agg [.lit (.int .u8 0), .lit (.int .u8 0)], .agg [.lit (.int .u8 0), .lit (.int .u8 0)], .agg [.lit (.int .u8 0), .lit (.int .u8 0)], .agg [.lit (.int .u8 0), .lit (.int .u8 0)], .agg [.lit (.int .u8 0), .lit (.int .u8 0)], .agg [.lit (.int .u8 0), .lit (.int .u8 0)], .agg [.lit (.int .u8 0), .lit (.int .u8 0)], .agg [.lit (.int .u8 0), .lit (.int .u8 0)], .agg [.lit (.int .u8 0), .lit (.int .u8 0)], .agg [.lit (.int .u8 0), .lit (.int .u8 0)], .agg [.lit (.int .u8 0), .lit (.int .u8 0)]]
/-- One of Go's own tables, pinned by name: the form's constant. -/
def laid_unicode_utf8_first : DataW Unit := Go.Pinned.utf8First

/-- 'icehouselaw04.ChunkLooks': WHATEVER THE INPUT: true; the input reads as it did. -/
def chunkLooksSpec : ChangeSpec := { name := "chunkLooks", fn := fun _ => fun
  | [d1, d2, d3] => { results := [.lit (.bool true)], args := [d1, d2, d3] }
  | _ => none }
def chunkLooksRow : OpenClaim := { program := "ytkbmmgpdnienfaadoor", sum := "5e98dba4fcf081ac38d0bd1ec447aec9d82cf492541631e72728063c70811830", func := "icehouse/icehouselaw04.ChunkLooks", spec := "chunkLooks", unfollowed := true, recurses := true, named := ["unicode/utf8.first", "unicode/utf8.acceptRanges"], apart := false, laid := [("unicode/utf8.acceptRanges", laid_unicode_utf8_acceptRanges), ("unicode/utf8.first", laid_unicode_utf8_first)] }
def ChunkLooksSaid : Prop := chunkLooksRow.holds Tryd.pinned (OpenSpec.ofChange chunkLooksSpec)

/-- ITS FALSE NEIGHBOUR: 'it returns false'. Refute it at one input. -/
def chunkLooksWrong : ChangeSpec := { name := "chunkLooks", fn := fun _ => fun
  | [d1, d2, d3] => { results := [.lit (.bool false)], args := [d1, d2, d3] }
  | _ => none }
def ChunkLooksWrongFalsely : Prop := chunkLooksRow.holds Tryd.pinned (OpenSpec.ofChange chunkLooksWrong)

/-- 'icehouselaw04.ChunkTimes': WHATEVER THE INPUT: true; the input reads as it did. -/
def chunkTimesSpec : ChangeSpec := { name := "chunkTimes", fn := fun _ => fun
  | [d1, d2, d3, d4] => { results := [.lit (.bool true)], args := [d1, d2, d3, d4] }
  | _ => none }
def chunkTimesRow : OpenClaim := { program := "ytkbmmgpdnienfaadoor", sum := "5e98dba4fcf081ac38d0bd1ec447aec9d82cf492541631e72728063c70811830", func := "icehouse/icehouselaw04.ChunkTimes", spec := "chunkTimes", unfollowed := true, recurses := true, named := ["unicode/utf8.first", "unicode/utf8.acceptRanges"], apart := false, laid := [("unicode/utf8.acceptRanges", laid_unicode_utf8_acceptRanges), ("unicode/utf8.first", laid_unicode_utf8_first)] }
def ChunkTimesSaid : Prop := chunkTimesRow.holds Tryd.pinned (OpenSpec.ofChange chunkTimesSpec)

/-- ITS FALSE NEIGHBOUR: 'it returns false'. Refute it at one input. -/
def chunkTimesWrong : ChangeSpec := { name := "chunkTimes", fn := fun _ => fun
  | [d1, d2, d3, d4] => { results := [.lit (.bool false)], args := [d1, d2, d3, d4] }
  | _ => none }
def ChunkTimesWrongFalsely : Prop := chunkTimesRow.holds Tryd.pinned (OpenSpec.ofChange chunkTimesWrong)

/-- 'icehouselaw04.ChunkSplits': WHATEVER THE INPUT: true; the input reads as it did. -/
def chunkSplitsSpec : ChangeSpec := { name := "chunkSplits", fn := fun _ => fun
  | [d1, d2] => { results := [.lit (.bool true)], args := [d1, d2] }
  | _ => none }
def chunkSplitsRow : OpenClaim := { program := "ytkbmmgpdnienfaadoor", sum := "5e98dba4fcf081ac38d0bd1ec447aec9d82cf492541631e72728063c70811830", func := "icehouse/icehouselaw04.ChunkSplits", spec := "chunkSplits", unfollowed := true, recurses := true, named := ["unicode/utf8.first", "unicode/utf8.acceptRanges"], apart := false, laid := [("unicode/utf8.acceptRanges", laid_unicode_utf8_acceptRanges), ("unicode/utf8.first", laid_unicode_utf8_first)] }
def ChunkSplitsSaid : Prop := chunkSplitsRow.holds Tryd.pinned (OpenSpec.ofChange chunkSplitsSpec)

/-- ITS FALSE NEIGHBOUR: 'it returns false'. Refute it at one input. -/
def chunkSplitsWrong : ChangeSpec := { name := "chunkSplits", fn := fun _ => fun
  | [d1, d2] => { results := [.lit (.bool false)], args := [d1, d2] }
  | _ => none }
def ChunkSplitsWrongFalsely : Prop := chunkSplitsRow.holds Tryd.pinned (OpenSpec.ofChange chunkSplitsWrong)

/-- 'icehouselaw03.RecordSorts': WHATEVER THE INPUT: true; the input reads as it did. -/
def recordSortsSpec : ChangeSpec := { name := "recordSorts", fn := fun _ => fun
  | [d] => { results := [.lit (.bool true)], args := [d] }
  | _ => none }
def recordSortsRow : OpenClaim := { program := "ytkbmmgpdnienfaadoor", sum := "5e98dba4fcf081ac38d0bd1ec447aec9d82cf492541631e72728063c70811830", func := "icehouse/icehouselaw03.RecordSorts", spec := "recordSorts", unfollowed := true, recurses := true, named := ["unicode/utf8.first", "unicode/utf8.acceptRanges"], apart := false, laid := [("unicode/utf8.acceptRanges", laid_unicode_utf8_acceptRanges), ("unicode/utf8.first", laid_unicode_utf8_first)] }
def RecordSortsSaid : Prop := recordSortsRow.holds Tryd.pinned (OpenSpec.ofChange recordSortsSpec)

/-- ITS FALSE NEIGHBOUR: 'it returns false'. Refute it at one input. -/
def recordSortsWrong : ChangeSpec := { name := "recordSorts", fn := fun _ => fun
  | [d] => { results := [.lit (.bool false)], args := [d] }
  | _ => none }
def RecordSortsWrongFalsely : Prop := recordSortsRow.holds Tryd.pinned (OpenSpec.ofChange recordSortsWrong)

/-- 'icehouselaw03.RecordOrdered': WHATEVER THE INPUT: true; the input reads as it did. -/
def recordOrderedSpec : ChangeSpec := { name := "recordOrdered", fn := fun _ => fun
  | [d1, d2] => { results := [.lit (.bool true)], args := [d1, d2] }
  | _ => none }
def recordOrderedRow : OpenClaim := { program := "ytkbmmgpdnienfaadoor", sum := "5e98dba4fcf081ac38d0bd1ec447aec9d82cf492541631e72728063c70811830", func := "icehouse/icehouselaw03.RecordOrdered", spec := "recordOrdered", unfollowed := true, recurses := true, named := ["unicode/utf8.first", "unicode/utf8.acceptRanges"], apart := false, laid := [("unicode/utf8.acceptRanges", laid_unicode_utf8_acceptRanges), ("unicode/utf8.first", laid_unicode_utf8_first)] }
def RecordOrderedSaid : Prop := recordOrderedRow.holds Tryd.pinned (OpenSpec.ofChange recordOrderedSpec)

/-- ITS FALSE NEIGHBOUR: 'it returns false'. Refute it at one input. -/
def recordOrderedWrong : ChangeSpec := { name := "recordOrdered", fn := fun _ => fun
  | [d1, d2] => { results := [.lit (.bool false)], args := [d1, d2] }
  | _ => none }
def RecordOrderedWrongFalsely : Prop := recordOrderedRow.holds Tryd.pinned (OpenSpec.ofChange recordOrderedWrong)

/-- 'icehouselaw04.ChunkBytes': WHATEVER THE INPUT: true; the input reads as it did. -/
def chunkBytesSpec : ChangeSpec := { name := "chunkBytes", fn := fun _ => fun
  | [d1, d2] => { results := [.lit (.bool true)], args := [d1, d2] }
  | _ => none }
def chunkBytesRow : OpenClaim := { program := "ytkbmmgpdnienfaadoor", sum := "5e98dba4fcf081ac38d0bd1ec447aec9d82cf492541631e72728063c70811830", func := "icehouse/icehouselaw04.ChunkBytes", spec := "chunkBytes", unfollowed := true, recurses := true, named := ["unicode/utf8.first", "unicode/utf8.acceptRanges"], apart := false, laid := [("unicode/utf8.acceptRanges", laid_unicode_utf8_acceptRanges), ("unicode/utf8.first", laid_unicode_utf8_first)] }
def ChunkBytesSaid : Prop := chunkBytesRow.holds Tryd.pinned (OpenSpec.ofChange chunkBytesSpec)

/-- ITS FALSE NEIGHBOUR: 'it returns false'. Refute it at one input. -/
def chunkBytesWrong : ChangeSpec := { name := "chunkBytes", fn := fun _ => fun
  | [d1, d2] => { results := [.lit (.bool false)], args := [d1, d2] }
  | _ => none }
def ChunkBytesWrongFalsely : Prop := chunkBytesRow.holds Tryd.pinned (OpenSpec.ofChange chunkBytesWrong)

/-- 'icehouselaw04.ChunkBack': WHATEVER THE INPUT: true; the input reads as it did. -/
def chunkBackSpec : ChangeSpec := { name := "chunkBack", fn := fun _ => fun
  | [d] => { results := [.lit (.bool true)], args := [d] }
  | _ => none }
def chunkBackRow : OpenClaim := { program := "ytkbmmgpdnienfaadoor", sum := "5e98dba4fcf081ac38d0bd1ec447aec9d82cf492541631e72728063c70811830", func := "icehouse/icehouselaw04.ChunkBack", spec := "chunkBack", unfollowed := true, recurses := true, named := ["unicode/utf8.first", "unicode/utf8.acceptRanges"], apart := false, laid := [("unicode/utf8.acceptRanges", laid_unicode_utf8_acceptRanges), ("unicode/utf8.first", laid_unicode_utf8_first)] }
def ChunkBackSaid : Prop := chunkBackRow.holds Tryd.pinned (OpenSpec.ofChange chunkBackSpec)

/-- ITS FALSE NEIGHBOUR: 'it returns false'. Refute it at one input. -/
def chunkBackWrong : ChangeSpec := { name := "chunkBack", fn := fun _ => fun
  | [d] => { results := [.lit (.bool false)], args := [d] }
  | _ => none }
def ChunkBackWrongFalsely : Prop := chunkBackRow.holds Tryd.pinned (OpenSpec.ofChange chunkBackWrong)

/-- 'icehouselaw04.ChunkGroups': WHATEVER THE INPUT: true; the input reads as it did. -/
def chunkGroupsSpec : ChangeSpec := { name := "chunkGroups", fn := fun _ => fun
  | [d] => { results := [.lit (.bool true)], args := [d] }
  | _ => none }
def chunkGroupsRow : OpenClaim := { program := "ytkbmmgpdnienfaadoor", sum := "5e98dba4fcf081ac38d0bd1ec447aec9d82cf492541631e72728063c70811830", func := "icehouse/icehouselaw04.ChunkGroups", spec := "chunkGroups", inPlace := ["internal/bytealg.abigen_runtime_cmpstring"], unfollowed := true, recurses := true, named := ["unicode/utf8.first", "unicode/utf8.acceptRanges"], apart := false, laid := [("unicode/utf8.acceptRanges", laid_unicode_utf8_acceptRanges), ("unicode/utf8.first", laid_unicode_utf8_first)] }
def ChunkGroupsSaid : Prop := chunkGroupsRow.holds Tryd.pinned (OpenSpec.ofChange chunkGroupsSpec)

/-- ITS FALSE NEIGHBOUR: 'it returns false'. Refute it at one input. -/
def chunkGroupsWrong : ChangeSpec := { name := "chunkGroups", fn := fun _ => fun
  | [d] => { results := [.lit (.bool false)], args := [d] }
  | _ => none }
def ChunkGroupsWrongFalsely : Prop := chunkGroupsRow.holds Tryd.pinned (OpenSpec.ofChange chunkGroupsWrong)

/-- 'icehouselaw04.ChunkAll': WHATEVER THE INPUT: true; the input reads as it did. -/
def chunkAllSpec : ChangeSpec := { name := "chunkAll", fn := fun _ => fun
  | [d1, d2, d3] => { results := [.lit (.bool true)], args := [d1, d2, d3] }
  | _ => none }
def chunkAllRow : OpenClaim := { program := "ytkbmmgpdnienfaadoor", sum := "5e98dba4fcf081ac38d0bd1ec447aec9d82cf492541631e72728063c70811830", func := "icehouse/icehouselaw04.ChunkAll", spec := "chunkAll", inPlace := ["internal/bytealg.abigen_runtime_cmpstring"], unfollowed := true, recurses := true, named := ["unicode/utf8.first", "unicode/utf8.acceptRanges"], apart := false, laid := [("unicode/utf8.acceptRanges", laid_unicode_utf8_acceptRanges), ("unicode/utf8.first", laid_unicode_utf8_first)] }
def ChunkAllSaid : Prop := chunkAllRow.holds Tryd.pinned (OpenSpec.ofChange chunkAllSpec)

/-- ITS FALSE NEIGHBOUR: 'it returns false'. Refute it at one input. -/
def chunkAllWrong : ChangeSpec := { name := "chunkAll", fn := fun _ => fun
  | [d1, d2, d3] => { results := [.lit (.bool false)], args := [d1, d2, d3] }
  | _ => none }
def ChunkAllWrongFalsely : Prop := chunkAllRow.holds Tryd.pinned (OpenSpec.ofChange chunkAllWrong)

/- THE SECOND FORM. 'bulk': how many values and letters a reading holds, each counted each time it is reached (what is shared counts as often as it is met; a slice's spare places count too). A statement '..UptoSaid' is the law's where the arguments, and the package variables that the reading takes, are together of bulk at most 1048576: NARROWER than '..Said'. Prove '..Said' where nothing that the law and all that it calls make is longer than what came in: it says more and counts as full. Else prove '..UptoSaid'. A law counts once. -/
mutual
def uptoBulk {H : Type} : DataW H → Nat
  | .lit (.string bytes) => bytes.length + 1
  | .lit _ => 1
  | .nil => 1
  | .ptr d => uptoBulk d + 1
  | .slice elems spare => uptoBulkAll elems + uptoBulkAll spare + 1
  | .agg parts => uptoBulkAll parts + 1
  | .iface _ d => uptoBulk d + 1
  | .map entries => uptoBulkEntries entries + 1
  | .held _ => 1
def uptoBulkAll {H : Type} : List (DataW H) → Nat
  | [] => 0
  | d :: r => uptoBulk d + uptoBulkAll r
def uptoBulkEntries {H : Type} : List (Lit × DataW H) → Nat
  | [] => 0
  | x :: r => uptoBulkEntry x + uptoBulkEntries r
def uptoBulkEntry {H : Type} : Lit × DataW H → Nat
  | (.string bytes, d) => bytes.length + uptoBulk d + 1
  | (_, d) => uptoBulk d + 1
 end
def uptoSmall : (H : Type) → List (DataW H) → Bool := fun _ ds => decide (uptoBulkAll ds ≤ 1048576)
def OpenSpec.upto (s : _root_.Go.ChangeSpec) : _root_.Go.OpenSpec := { _root_.Go.OpenSpec.ofChange s with cond := some uptoSmall }

/-- 'icehouselaw04.ChunkLooks', WHERE WHAT IT READS IS OF BULK AT MOST 1048576: true; the input reads as it did. -/
def chunkLooksUptoRow : OpenClaim := { program := "ytkbmmgpdnienfaadoor", sum := "5e98dba4fcf081ac38d0bd1ec447aec9d82cf492541631e72728063c70811830", func := "icehouse/icehouselaw04.ChunkLooks", spec := "chunkLooks", unfollowed := true, recurses := true, named := ["unicode/utf8.first", "unicode/utf8.acceptRanges"], apart := false, laid := [("unicode/utf8.acceptRanges", laid_unicode_utf8_acceptRanges), ("unicode/utf8.first", laid_unicode_utf8_first)], narrowed := true }
def ChunkLooksUptoSaid : Prop := chunkLooksUptoRow.holds Tryd.pinned (OpenSpec.upto chunkLooksSpec)

/-- 'icehouselaw04.ChunkTimes', WHERE WHAT IT READS IS OF BULK AT MOST 1048576: true; the input reads as it did. -/
def chunkTimesUptoRow : OpenClaim := { program := "ytkbmmgpdnienfaadoor", sum := "5e98dba4fcf081ac38d0bd1ec447aec9d82cf492541631e72728063c70811830", func := "icehouse/icehouselaw04.ChunkTimes", spec := "chunkTimes", unfollowed := true, recurses := true, named := ["unicode/utf8.first", "unicode/utf8.acceptRanges"], apart := false, laid := [("unicode/utf8.acceptRanges", laid_unicode_utf8_acceptRanges), ("unicode/utf8.first", laid_unicode_utf8_first)], narrowed := true }
def ChunkTimesUptoSaid : Prop := chunkTimesUptoRow.holds Tryd.pinned (OpenSpec.upto chunkTimesSpec)

/-- 'icehouselaw04.ChunkSplits', WHERE WHAT IT READS IS OF BULK AT MOST 1048576: true; the input reads as it did. -/
def chunkSplitsUptoRow : OpenClaim := { program := "ytkbmmgpdnienfaadoor", sum := "5e98dba4fcf081ac38d0bd1ec447aec9d82cf492541631e72728063c70811830", func := "icehouse/icehouselaw04.ChunkSplits", spec := "chunkSplits", unfollowed := true, recurses := true, named := ["unicode/utf8.first", "unicode/utf8.acceptRanges"], apart := false, laid := [("unicode/utf8.acceptRanges", laid_unicode_utf8_acceptRanges), ("unicode/utf8.first", laid_unicode_utf8_first)], narrowed := true }
def ChunkSplitsUptoSaid : Prop := chunkSplitsUptoRow.holds Tryd.pinned (OpenSpec.upto chunkSplitsSpec)

/-- 'icehouselaw03.RecordSorts', WHERE WHAT IT READS IS OF BULK AT MOST 1048576: true; the input reads as it did. -/
def recordSortsUptoRow : OpenClaim := { program := "ytkbmmgpdnienfaadoor", sum := "5e98dba4fcf081ac38d0bd1ec447aec9d82cf492541631e72728063c70811830", func := "icehouse/icehouselaw03.RecordSorts", spec := "recordSorts", unfollowed := true, recurses := true, named := ["unicode/utf8.first", "unicode/utf8.acceptRanges"], apart := false, laid := [("unicode/utf8.acceptRanges", laid_unicode_utf8_acceptRanges), ("unicode/utf8.first", laid_unicode_utf8_first)], narrowed := true }
def RecordSortsUptoSaid : Prop := recordSortsUptoRow.holds Tryd.pinned (OpenSpec.upto recordSortsSpec)

/-- 'icehouselaw03.RecordOrdered', WHERE WHAT IT READS IS OF BULK AT MOST 1048576: true; the input reads as it did. -/
def recordOrderedUptoRow : OpenClaim := { program := "ytkbmmgpdnienfaadoor", sum := "5e98dba4fcf081ac38d0bd1ec447aec9d82cf492541631e72728063c70811830", func := "icehouse/icehouselaw03.RecordOrdered", spec := "recordOrdered", unfollowed := true, recurses := true, named := ["unicode/utf8.first", "unicode/utf8.acceptRanges"], apart := false, laid := [("unicode/utf8.acceptRanges", laid_unicode_utf8_acceptRanges), ("unicode/utf8.first", laid_unicode_utf8_first)], narrowed := true }
def RecordOrderedUptoSaid : Prop := recordOrderedUptoRow.holds Tryd.pinned (OpenSpec.upto recordOrderedSpec)

/-- 'icehouselaw04.ChunkBytes', WHERE WHAT IT READS IS OF BULK AT MOST 1048576: true; the input reads as it did. -/
def chunkBytesUptoRow : OpenClaim := { program := "ytkbmmgpdnienfaadoor", sum := "5e98dba4fcf081ac38d0bd1ec447aec9d82cf492541631e72728063c70811830", func := "icehouse/icehouselaw04.ChunkBytes", spec := "chunkBytes", unfollowed := true, recurses := true, named := ["unicode/utf8.first", "unicode/utf8.acceptRanges"], apart := false, laid := [("unicode/utf8.acceptRanges", laid_unicode_utf8_acceptRanges), ("unicode/utf8.first", laid_unicode_utf8_first)], narrowed := true }
def ChunkBytesUptoSaid : Prop := chunkBytesUptoRow.holds Tryd.pinned (OpenSpec.upto chunkBytesSpec)

/-- 'icehouselaw04.ChunkBack', WHERE WHAT IT READS IS OF BULK AT MOST 1048576: true; the input reads as it did. -/
def chunkBackUptoRow : OpenClaim := { program := "ytkbmmgpdnienfaadoor", sum := "5e98dba4fcf081ac38d0bd1ec447aec9d82cf492541631e72728063c70811830", func := "icehouse/icehouselaw04.ChunkBack", spec := "chunkBack", unfollowed := true, recurses := true, named := ["unicode/utf8.first", "unicode/utf8.acceptRanges"], apart := false, laid := [("unicode/utf8.acceptRanges", laid_unicode_utf8_acceptRanges), ("unicode/utf8.first", laid_unicode_utf8_first)], narrowed := true }
def ChunkBackUptoSaid : Prop := chunkBackUptoRow.holds Tryd.pinned (OpenSpec.upto chunkBackSpec)

/-- 'icehouselaw04.ChunkGroups', WHERE WHAT IT READS IS OF BULK AT MOST 1048576: true; the input reads as it did. -/
def chunkGroupsUptoRow : OpenClaim := { program := "ytkbmmgpdnienfaadoor", sum := "5e98dba4fcf081ac38d0bd1ec447aec9d82cf492541631e72728063c70811830", func := "icehouse/icehouselaw04.ChunkGroups", spec := "chunkGroups", inPlace := ["internal/bytealg.abigen_runtime_cmpstring"], unfollowed := true, recurses := true, named := ["unicode/utf8.first", "unicode/utf8.acceptRanges"], apart := false, laid := [("unicode/utf8.acceptRanges", laid_unicode_utf8_acceptRanges), ("unicode/utf8.first", laid_unicode_utf8_first)], narrowed := true }
def ChunkGroupsUptoSaid : Prop := chunkGroupsUptoRow.holds Tryd.pinned (OpenSpec.upto chunkGroupsSpec)

/-- 'icehouselaw04.ChunkAll', WHERE WHAT IT READS IS OF BULK AT MOST 1048576: true; the input reads as it did. -/
def chunkAllUptoRow : OpenClaim := { program := "ytkbmmgpdnienfaadoor", sum := "5e98dba4fcf081ac38d0bd1ec447aec9d82cf492541631e72728063c70811830", func := "icehouse/icehouselaw04.ChunkAll", spec := "chunkAll", inPlace := ["internal/bytealg.abigen_runtime_cmpstring"], unfollowed := true, recurses := true, named := ["unicode/utf8.first", "unicode/utf8.acceptRanges"], apart := false, laid := [("unicode/utf8.acceptRanges", laid_unicode_utf8_acceptRanges), ("unicode/utf8.first", laid_unicode_utf8_first)], narrowed := true }
def ChunkAllUptoSaid : Prop := chunkAllUptoRow.holds Tryd.pinned (OpenSpec.upto chunkAllSpec)

end Rows
end Go.Proofs.YtkbmmgpdnienfaaDoor
