/-
  DERIVED. GIVEN WITH THE SEED: THE CARDS: each row of YtkbmmgpdnienfaaDoorRows.lean that lists a variable, with what it lists TIED to the program's text (the seventh form; the later family's looks); each row that meets fmt, with fmt's text TOLD by the authors' own Lean function (tested against real Go, not proved from fmt's source: count such statements apart). THE CARD IS WHAT COUNTS. Prove the row's statement (the work); the ties are given (YtkbmmgpdnienfaaDoorTie.lean); close each card by the builder's one call (the guide's Derived/Test/ToyasCard.lean, 'card_holds'). Laid BY PROGRAM, IN A SANDBOX (cutbox-door.mjs). By AI agents, Wed Nov 11 2026. No macro, syntax, notation, axiom, sorry.
-/
import Derived.Test.YtkbmmgpdnienfaaDoorRows
import GoSem.ClaimSeven
namespace Go.Proofs.YtkbmmgpdnienfaaDoor
namespace Rows

/-- THE TIED CARD OF 'icehouselaw04.ChunkLooks'. -/
def chunkLooksCard : Claim7 := { stood := { row := chunkLooksRow, standIns := [], harness := (true, "4aa38189f3e33891e3991defb05b3ec9682ea28e543fb6a05605eb976363d729"), looks := false }, kinds := [], alts := [], laidByText := true, laidKinds := [.data, .pinned], laidTests := true, laidLooks := .later }
def ChunkLooksCardSaid : Prop := Claim7.holds Tryd.pinned (.plain (OpenSpec.ofChange chunkLooksSpec)) chunkLooksCard

/-- THE TIED CARD OF 'icehouselaw04.ChunkTimes'. -/
def chunkTimesCard : Claim7 := { stood := { row := chunkTimesRow, standIns := [], harness := (true, "4aa38189f3e33891e3991defb05b3ec9682ea28e543fb6a05605eb976363d729"), looks := false }, kinds := [], alts := [], laidByText := true, laidKinds := [.data, .pinned], laidTests := true, laidLooks := .later }
def ChunkTimesCardSaid : Prop := Claim7.holds Tryd.pinned (.plain (OpenSpec.ofChange chunkTimesSpec)) chunkTimesCard

/-- THE TIED CARD OF 'icehouselaw04.ChunkSplits'. -/
def chunkSplitsCard : Claim7 := { stood := { row := chunkSplitsRow, standIns := [], harness := (true, "4aa38189f3e33891e3991defb05b3ec9682ea28e543fb6a05605eb976363d729"), looks := false }, kinds := [], alts := [], laidByText := true, laidKinds := [.data, .pinned], laidTests := true, laidLooks := .later }
def ChunkSplitsCardSaid : Prop := Claim7.holds Tryd.pinned (.plain (OpenSpec.ofChange chunkSplitsSpec)) chunkSplitsCard

/-- THE TIED CARD OF 'icehouselaw03.RecordSorts'. -/
def recordSortsCard : Claim7 := { stood := { row := recordSortsRow, standIns := [], harness := (true, "4aa38189f3e33891e3991defb05b3ec9682ea28e543fb6a05605eb976363d729"), looks := false }, kinds := [], alts := [], laidByText := true, laidKinds := [.data, .pinned], laidTests := true, laidLooks := .later }
def RecordSortsCardSaid : Prop := Claim7.holds Tryd.pinned (.plain (OpenSpec.ofChange recordSortsSpec)) recordSortsCard

/-- THE TIED CARD OF 'icehouselaw03.RecordOrdered'. -/
def recordOrderedCard : Claim7 := { stood := { row := recordOrderedRow, standIns := [], harness := (true, "4aa38189f3e33891e3991defb05b3ec9682ea28e543fb6a05605eb976363d729"), looks := false }, kinds := [], alts := [], laidByText := true, laidKinds := [.data, .pinned], laidTests := true, laidLooks := .later }
def RecordOrderedCardSaid : Prop := Claim7.holds Tryd.pinned (.plain (OpenSpec.ofChange recordOrderedSpec)) recordOrderedCard

/-- THE TIED CARD OF 'icehouselaw04.ChunkBytes'. -/
def chunkBytesCard : Claim7 := { stood := { row := chunkBytesRow, standIns := [], harness := (true, "4aa38189f3e33891e3991defb05b3ec9682ea28e543fb6a05605eb976363d729"), looks := false }, kinds := [], alts := [], laidByText := true, laidKinds := [.data, .pinned], laidTests := true, laidLooks := .later }
def ChunkBytesCardSaid : Prop := Claim7.holds Tryd.pinned (.plain (OpenSpec.ofChange chunkBytesSpec)) chunkBytesCard

/-- THE TIED CARD OF 'icehouselaw04.ChunkBack'. -/
def chunkBackCard : Claim7 := { stood := { row := chunkBackRow, standIns := [], harness := (true, "4aa38189f3e33891e3991defb05b3ec9682ea28e543fb6a05605eb976363d729"), looks := false }, kinds := [], alts := [], laidByText := true, laidKinds := [.data, .pinned], laidTests := true, laidLooks := .later }
def ChunkBackCardSaid : Prop := Claim7.holds Tryd.pinned (.plain (OpenSpec.ofChange chunkBackSpec)) chunkBackCard

/-- THE TIED CARD OF 'icehouselaw04.ChunkGroups'. -/
def chunkGroupsCard : Claim7 := { stood := { row := chunkGroupsRow, standIns := [], harness := (true, "4aa38189f3e33891e3991defb05b3ec9682ea28e543fb6a05605eb976363d729"), looks := false }, kinds := [], alts := [], laidByText := true, laidKinds := [.data, .pinned], laidTests := true, laidLooks := .later }
def ChunkGroupsCardSaid : Prop := Claim7.holds Tryd.pinned (.plain (OpenSpec.ofChange chunkGroupsSpec)) chunkGroupsCard

/-- THE TIED CARD OF 'icehouselaw04.ChunkAll'. -/
def chunkAllCard : Claim7 := { stood := { row := chunkAllRow, standIns := [], harness := (true, "4aa38189f3e33891e3991defb05b3ec9682ea28e543fb6a05605eb976363d729"), looks := false }, kinds := [], alts := [], laidByText := true, laidKinds := [.data, .pinned], laidTests := true, laidLooks := .later }
def ChunkAllCardSaid : Prop := Claim7.holds Tryd.pinned (.plain (OpenSpec.ofChange chunkAllSpec)) chunkAllCard

/-- THE SECOND FORM's CARD OF 'icehouselaw04.ChunkLooks'. -/
def chunkLooksUptoCard : Claim7 := { stood := { row := chunkLooksUptoRow, standIns := [], harness := (true, "4aa38189f3e33891e3991defb05b3ec9682ea28e543fb6a05605eb976363d729"), looks := false }, kinds := [], alts := [], laidByText := true, laidKinds := [.data, .pinned], laidTests := true, laidLooks := .later }
def ChunkLooksUptoCardSaid : Prop := Claim7.holds Tryd.pinned (.plain (OpenSpec.upto chunkLooksSpec)) chunkLooksUptoCard

/-- THE SECOND FORM's CARD OF 'icehouselaw04.ChunkTimes'. -/
def chunkTimesUptoCard : Claim7 := { stood := { row := chunkTimesUptoRow, standIns := [], harness := (true, "4aa38189f3e33891e3991defb05b3ec9682ea28e543fb6a05605eb976363d729"), looks := false }, kinds := [], alts := [], laidByText := true, laidKinds := [.data, .pinned], laidTests := true, laidLooks := .later }
def ChunkTimesUptoCardSaid : Prop := Claim7.holds Tryd.pinned (.plain (OpenSpec.upto chunkTimesSpec)) chunkTimesUptoCard

/-- THE SECOND FORM's CARD OF 'icehouselaw04.ChunkSplits'. -/
def chunkSplitsUptoCard : Claim7 := { stood := { row := chunkSplitsUptoRow, standIns := [], harness := (true, "4aa38189f3e33891e3991defb05b3ec9682ea28e543fb6a05605eb976363d729"), looks := false }, kinds := [], alts := [], laidByText := true, laidKinds := [.data, .pinned], laidTests := true, laidLooks := .later }
def ChunkSplitsUptoCardSaid : Prop := Claim7.holds Tryd.pinned (.plain (OpenSpec.upto chunkSplitsSpec)) chunkSplitsUptoCard

/-- THE SECOND FORM's CARD OF 'icehouselaw03.RecordSorts'. -/
def recordSortsUptoCard : Claim7 := { stood := { row := recordSortsUptoRow, standIns := [], harness := (true, "4aa38189f3e33891e3991defb05b3ec9682ea28e543fb6a05605eb976363d729"), looks := false }, kinds := [], alts := [], laidByText := true, laidKinds := [.data, .pinned], laidTests := true, laidLooks := .later }
def RecordSortsUptoCardSaid : Prop := Claim7.holds Tryd.pinned (.plain (OpenSpec.upto recordSortsSpec)) recordSortsUptoCard

/-- THE SECOND FORM's CARD OF 'icehouselaw03.RecordOrdered'. -/
def recordOrderedUptoCard : Claim7 := { stood := { row := recordOrderedUptoRow, standIns := [], harness := (true, "4aa38189f3e33891e3991defb05b3ec9682ea28e543fb6a05605eb976363d729"), looks := false }, kinds := [], alts := [], laidByText := true, laidKinds := [.data, .pinned], laidTests := true, laidLooks := .later }
def RecordOrderedUptoCardSaid : Prop := Claim7.holds Tryd.pinned (.plain (OpenSpec.upto recordOrderedSpec)) recordOrderedUptoCard

/-- THE SECOND FORM's CARD OF 'icehouselaw04.ChunkBytes'. -/
def chunkBytesUptoCard : Claim7 := { stood := { row := chunkBytesUptoRow, standIns := [], harness := (true, "4aa38189f3e33891e3991defb05b3ec9682ea28e543fb6a05605eb976363d729"), looks := false }, kinds := [], alts := [], laidByText := true, laidKinds := [.data, .pinned], laidTests := true, laidLooks := .later }
def ChunkBytesUptoCardSaid : Prop := Claim7.holds Tryd.pinned (.plain (OpenSpec.upto chunkBytesSpec)) chunkBytesUptoCard

/-- THE SECOND FORM's CARD OF 'icehouselaw04.ChunkBack'. -/
def chunkBackUptoCard : Claim7 := { stood := { row := chunkBackUptoRow, standIns := [], harness := (true, "4aa38189f3e33891e3991defb05b3ec9682ea28e543fb6a05605eb976363d729"), looks := false }, kinds := [], alts := [], laidByText := true, laidKinds := [.data, .pinned], laidTests := true, laidLooks := .later }
def ChunkBackUptoCardSaid : Prop := Claim7.holds Tryd.pinned (.plain (OpenSpec.upto chunkBackSpec)) chunkBackUptoCard

/-- THE SECOND FORM's CARD OF 'icehouselaw04.ChunkGroups'. -/
def chunkGroupsUptoCard : Claim7 := { stood := { row := chunkGroupsUptoRow, standIns := [], harness := (true, "4aa38189f3e33891e3991defb05b3ec9682ea28e543fb6a05605eb976363d729"), looks := false }, kinds := [], alts := [], laidByText := true, laidKinds := [.data, .pinned], laidTests := true, laidLooks := .later }
def ChunkGroupsUptoCardSaid : Prop := Claim7.holds Tryd.pinned (.plain (OpenSpec.upto chunkGroupsSpec)) chunkGroupsUptoCard

/-- THE SECOND FORM's CARD OF 'icehouselaw04.ChunkAll'. -/
def chunkAllUptoCard : Claim7 := { stood := { row := chunkAllUptoRow, standIns := [], harness := (true, "4aa38189f3e33891e3991defb05b3ec9682ea28e543fb6a05605eb976363d729"), looks := false }, kinds := [], alts := [], laidByText := true, laidKinds := [.data, .pinned], laidTests := true, laidLooks := .later }
def ChunkAllUptoCardSaid : Prop := Claim7.holds Tryd.pinned (.plain (OpenSpec.upto chunkAllSpec)) chunkAllUptoCard
end Rows
end Go.Proofs.YtkbmmgpdnienfaaDoor
