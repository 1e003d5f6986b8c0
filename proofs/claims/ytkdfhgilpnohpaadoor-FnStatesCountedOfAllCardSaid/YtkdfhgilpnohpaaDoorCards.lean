/-
  DERIVED. GIVEN WITH THE SEED: THE CARDS: each row of YtkdfhgilpnohpaaDoorRows.lean that lists a variable, with what it lists TIED to the program's text (the seventh form; the later family's looks); each row that meets fmt, with fmt's text TOLD by the authors' own Lean function (tested against real Go, not proved from fmt's source: count such statements apart). THE CARD IS WHAT COUNTS. Prove the row's statement (the work); the ties are given (YtkdfhgilpnohpaaDoorTie.lean); close each card by the builder's one call (the guide's Derived/Test/ToyasCard.lean, 'card_holds'). Laid BY PROGRAM, IN A SANDBOX (cutbox-door.mjs). By AI agents, Wed Nov 11 2026. No macro, syntax, notation, axiom, sorry.
-/
import Derived.Test.YtkdfhgilpnohpaaDoorRows
import GoSem.ClaimSeven
namespace Go.Proofs.YtkdfhgilpnohpaaDoor
namespace Rows

/-- THE TIED CARD OF 'laws.FnExactCyclesOfLamps'. -/
def fnExactCyclesOfLampsCard : Claim7 := { stood := { row := fnExactCyclesOfLampsRow, standIns := [], harness := (true, "c1c859cbbfbfb0a5fdb2784b6f9d56582333b44915a409c3190ac1842cfeec44"), looks := false }, kinds := [], alts := [], laidByText := true, laidKinds := [.data, .pinned], laidTests := true, laidLooks := .later }
def FnExactCyclesOfLampsCardSaid : Prop := Claim7.holds Tryd.pinned (.plain (OpenSpec.ofChange fnExactCyclesOfLampsSpec)) fnExactCyclesOfLampsCard

/-- THE TIED CARD OF 'laws.FnWalksMeanOfAll'. -/
def fnWalksMeanOfAllCard : Claim7 := { stood := { row := fnWalksMeanOfAllRow, standIns := [], harness := (true, "c1c859cbbfbfb0a5fdb2784b6f9d56582333b44915a409c3190ac1842cfeec44"), looks := false }, kinds := [], alts := [], laidByText := true, laidKinds := [.data, .pinned], laidTests := true, laidLooks := .later }
def FnWalksMeanOfAllCardSaid : Prop := Claim7.holds Tryd.pinned (.plain (OpenSpec.ofChange fnWalksMeanOfAllSpec)) fnWalksMeanOfAllCard

/-- THE TIED CARD OF 'laws.FnLampsTickOfAll'. -/
def fnLampsTickOfAllCard : Claim7 := { stood := { row := fnLampsTickOfAllRow, standIns := [], harness := (true, "c1c859cbbfbfb0a5fdb2784b6f9d56582333b44915a409c3190ac1842cfeec44"), looks := false }, kinds := [], alts := [], laidByText := true, laidKinds := [.data, .pinned], laidTests := true, laidLooks := .later }
def FnLampsTickOfAllCardSaid : Prop := Claim7.holds Tryd.pinned (.plain (OpenSpec.ofChange fnLampsTickOfAllSpec)) fnLampsTickOfAllCard

/-- THE TIED CARD OF 'laws.FnWalksMean'. -/
def fnWalksMeanCard : Claim7 := { stood := { row := fnWalksMeanRow, standIns := [], harness := (true, "c1c859cbbfbfb0a5fdb2784b6f9d56582333b44915a409c3190ac1842cfeec44"), looks := false }, kinds := [], alts := [], laidByText := true, laidKinds := [.data, .pinned], laidTests := true, laidLooks := .later }
def FnWalksMeanCardSaid : Prop := Claim7.holds Tryd.pinned (.plain (OpenSpec.ofChange fnWalksMeanSpec)) fnWalksMeanCard

/-- THE TIED CARD OF 'laws.FnStatesCountedOfAll'. -/
def fnStatesCountedOfAllCard : Claim7 := { stood := { row := fnStatesCountedOfAllRow, standIns := [], harness := (true, "c1c859cbbfbfb0a5fdb2784b6f9d56582333b44915a409c3190ac1842cfeec44"), looks := false }, kinds := [], alts := [], laidByText := true, laidKinds := [.data, .pinned], laidTests := true, laidLooks := .later }
def FnStatesCountedOfAllCardSaid : Prop := Claim7.holds Tryd.pinned (.plain (OpenSpec.ofChange fnStatesCountedOfAllSpec)) fnStatesCountedOfAllCard

/-- THE TIED CARD OF 'laws.FnLampsTick'. -/
def fnLampsTickCard : Claim7 := { stood := { row := fnLampsTickRow, standIns := [], harness := (true, "c1c859cbbfbfb0a5fdb2784b6f9d56582333b44915a409c3190ac1842cfeec44"), looks := false }, kinds := [], alts := [], laidByText := true, laidKinds := [.data, .pinned], laidTests := true, laidLooks := .later }
def FnLampsTickCardSaid : Prop := Claim7.holds Tryd.pinned (.plain (OpenSpec.ofChange fnLampsTickSpec)) fnLampsTickCard

/-- THE TIED CARD OF 'laws.FnStatesCounted'. -/
def fnStatesCountedCard : Claim7 := { stood := { row := fnStatesCountedRow, standIns := [], harness := (true, "c1c859cbbfbfb0a5fdb2784b6f9d56582333b44915a409c3190ac1842cfeec44"), looks := false }, kinds := [], alts := [], laidByText := true, laidKinds := [.data, .pinned], laidTests := true, laidLooks := .later }
def FnStatesCountedCardSaid : Prop := Claim7.holds Tryd.pinned (.plain (OpenSpec.ofChange fnStatesCountedSpec)) fnStatesCountedCard

/-- THE TIED CARD OF 'laws.FnBoltsBlockOfAll'. -/
def fnBoltsBlockOfAllCard : Claim7 := { stood := { row := fnBoltsBlockOfAllRow, standIns := [], harness := (true, "c1c859cbbfbfb0a5fdb2784b6f9d56582333b44915a409c3190ac1842cfeec44"), looks := false }, kinds := [], alts := [], laidByText := true, laidKinds := [.data, .pinned], laidTests := true, laidLooks := .later }
def FnBoltsBlockOfAllCardSaid : Prop := Claim7.holds Tryd.pinned (.plain (OpenSpec.ofChange fnBoltsBlockOfAllSpec)) fnBoltsBlockOfAllCard

/-- THE SECOND FORM's CARD OF 'laws.FnExactCyclesOfLamps'. -/
def fnExactCyclesOfLampsUptoCard : Claim7 := { stood := { row := fnExactCyclesOfLampsUptoRow, standIns := [], harness := (true, "c1c859cbbfbfb0a5fdb2784b6f9d56582333b44915a409c3190ac1842cfeec44"), looks := false }, kinds := [], alts := [], laidByText := true, laidKinds := [.data, .pinned], laidTests := true, laidLooks := .later }
def FnExactCyclesOfLampsUptoCardSaid : Prop := Claim7.holds Tryd.pinned (.plain (OpenSpec.upto fnExactCyclesOfLampsSpec)) fnExactCyclesOfLampsUptoCard

/-- THE SECOND FORM's CARD OF 'laws.FnWalksMeanOfAll'. -/
def fnWalksMeanOfAllUptoCard : Claim7 := { stood := { row := fnWalksMeanOfAllUptoRow, standIns := [], harness := (true, "c1c859cbbfbfb0a5fdb2784b6f9d56582333b44915a409c3190ac1842cfeec44"), looks := false }, kinds := [], alts := [], laidByText := true, laidKinds := [.data, .pinned], laidTests := true, laidLooks := .later }
def FnWalksMeanOfAllUptoCardSaid : Prop := Claim7.holds Tryd.pinned (.plain (OpenSpec.upto fnWalksMeanOfAllSpec)) fnWalksMeanOfAllUptoCard

/-- THE SECOND FORM's CARD OF 'laws.FnLampsTickOfAll'. -/
def fnLampsTickOfAllUptoCard : Claim7 := { stood := { row := fnLampsTickOfAllUptoRow, standIns := [], harness := (true, "c1c859cbbfbfb0a5fdb2784b6f9d56582333b44915a409c3190ac1842cfeec44"), looks := false }, kinds := [], alts := [], laidByText := true, laidKinds := [.data, .pinned], laidTests := true, laidLooks := .later }
def FnLampsTickOfAllUptoCardSaid : Prop := Claim7.holds Tryd.pinned (.plain (OpenSpec.upto fnLampsTickOfAllSpec)) fnLampsTickOfAllUptoCard

/-- THE SECOND FORM's CARD OF 'laws.FnWalksMean'. -/
def fnWalksMeanUptoCard : Claim7 := { stood := { row := fnWalksMeanUptoRow, standIns := [], harness := (true, "c1c859cbbfbfb0a5fdb2784b6f9d56582333b44915a409c3190ac1842cfeec44"), looks := false }, kinds := [], alts := [], laidByText := true, laidKinds := [.data, .pinned], laidTests := true, laidLooks := .later }
def FnWalksMeanUptoCardSaid : Prop := Claim7.holds Tryd.pinned (.plain (OpenSpec.upto fnWalksMeanSpec)) fnWalksMeanUptoCard

/-- THE SECOND FORM's CARD OF 'laws.FnStatesCountedOfAll'. -/
def fnStatesCountedOfAllUptoCard : Claim7 := { stood := { row := fnStatesCountedOfAllUptoRow, standIns := [], harness := (true, "c1c859cbbfbfb0a5fdb2784b6f9d56582333b44915a409c3190ac1842cfeec44"), looks := false }, kinds := [], alts := [], laidByText := true, laidKinds := [.data, .pinned], laidTests := true, laidLooks := .later }
def FnStatesCountedOfAllUptoCardSaid : Prop := Claim7.holds Tryd.pinned (.plain (OpenSpec.upto fnStatesCountedOfAllSpec)) fnStatesCountedOfAllUptoCard

/-- THE SECOND FORM's CARD OF 'laws.FnLampsTick'. -/
def fnLampsTickUptoCard : Claim7 := { stood := { row := fnLampsTickUptoRow, standIns := [], harness := (true, "c1c859cbbfbfb0a5fdb2784b6f9d56582333b44915a409c3190ac1842cfeec44"), looks := false }, kinds := [], alts := [], laidByText := true, laidKinds := [.data, .pinned], laidTests := true, laidLooks := .later }
def FnLampsTickUptoCardSaid : Prop := Claim7.holds Tryd.pinned (.plain (OpenSpec.upto fnLampsTickSpec)) fnLampsTickUptoCard

/-- THE SECOND FORM's CARD OF 'laws.FnStatesCounted'. -/
def fnStatesCountedUptoCard : Claim7 := { stood := { row := fnStatesCountedUptoRow, standIns := [], harness := (true, "c1c859cbbfbfb0a5fdb2784b6f9d56582333b44915a409c3190ac1842cfeec44"), looks := false }, kinds := [], alts := [], laidByText := true, laidKinds := [.data, .pinned], laidTests := true, laidLooks := .later }
def FnStatesCountedUptoCardSaid : Prop := Claim7.holds Tryd.pinned (.plain (OpenSpec.upto fnStatesCountedSpec)) fnStatesCountedUptoCard

/-- THE SECOND FORM's CARD OF 'laws.FnBoltsBlockOfAll'. -/
def fnBoltsBlockOfAllUptoCard : Claim7 := { stood := { row := fnBoltsBlockOfAllUptoRow, standIns := [], harness := (true, "c1c859cbbfbfb0a5fdb2784b6f9d56582333b44915a409c3190ac1842cfeec44"), looks := false }, kinds := [], alts := [], laidByText := true, laidKinds := [.data, .pinned], laidTests := true, laidLooks := .later }
def FnBoltsBlockOfAllUptoCardSaid : Prop := Claim7.holds Tryd.pinned (.plain (OpenSpec.upto fnBoltsBlockOfAllSpec)) fnBoltsBlockOfAllUptoCard
end Rows
end Go.Proofs.YtkdfhgilpnohpaaDoor
