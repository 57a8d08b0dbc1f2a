/-
  DERIVED. GIVEN WITH THE SEED: THE CARDS: each row of YtddagflhafkbnaaGreatDoorRows.lean that lists a variable, with what it lists TIED to the program's text (the seventh form; the later family's looks); each row that meets fmt, with fmt's text TOLD by the authors' own Lean function (tested against real Go, not proved from fmt's source: count such statements apart). THE CARD IS WHAT COUNTS. Prove the row's statement (the work); the ties are given (YtddagflhafkbnaaGreatDoorTie.lean); close each card by the builder's one call (the guide's Derived/Test/ToyasCard.lean, 'card_holds'). Laid BY PROGRAM, IN A SANDBOX (cutbox-door.mjs). By AI agents, Wed Nov 11 2026. No macro, syntax, notation, axiom, sorry.
-/
import Derived.Test.YtddagflhafkbnaaGreatDoorRows
import GoSem.ClaimSeven
namespace Go.Proofs.YtddagflhafkbnaaGreatDoor
namespace Rows

/-- THE TIED CARD OF 'pergolalaw21.CacheBounds'. -/
def cacheBoundsCard : Claim7 := { stood := { row := cacheBoundsRow, standIns := [], harness := (true, "c4fcc982b84900a701c8b8ab52ad04a475a5fe8991e60efaf48b065a37f69d3e"), looks := false }, kinds := [], alts := [], laidByText := true, laidKinds := [.data, .pinned], laidTests := true, laidLooks := .later }
def CacheBoundsCardSaid : Prop := Claim7.holds Tryz.pinned (.plain (OpenSpec.ofChange cacheBoundsSpec)) cacheBoundsCard

/-- THE TIED CARD OF 'pergolalaw21.CacheNever'. -/
def cacheNeverCard : Claim7 := { stood := { row := cacheNeverRow, standIns := [], harness := (true, "c4fcc982b84900a701c8b8ab52ad04a475a5fe8991e60efaf48b065a37f69d3e"), looks := false }, kinds := [], alts := [], laidByText := true, laidKinds := [.data, .pinned], laidTests := true, laidLooks := .later }
def CacheNeverCardSaid : Prop := Claim7.holds Tryz.pinned (.plain (OpenSpec.ofChange cacheNeverSpec)) cacheNeverCard

/-- THE TIED CARD OF 'pergolalaw21.CacheDoes'. -/
def cacheDoesCard : Claim7 := { stood := { row := cacheDoesRow, standIns := [], harness := (true, "c4fcc982b84900a701c8b8ab52ad04a475a5fe8991e60efaf48b065a37f69d3e"), looks := false }, kinds := [], alts := [], laidByText := true, laidKinds := [.data, .pinned], laidTests := true, laidLooks := .later }
def CacheDoesCardSaid : Prop := Claim7.holds Tryz.pinned (.plain (OpenSpec.ofChange cacheDoesSpec)) cacheDoesCard

/-- THE TIED CARD OF 'pergolalaw21.CacheOwn'. -/
def cacheOwnCard : Claim7 := { stood := { row := cacheOwnRow, standIns := [], harness := (true, "c4fcc982b84900a701c8b8ab52ad04a475a5fe8991e60efaf48b065a37f69d3e"), looks := false }, kinds := [], alts := [], laidByText := true, laidKinds := [.data, .pinned], laidTests := true, laidLooks := .later }
def CacheOwnCardSaid : Prop := Claim7.holds Tryz.pinned (.plain (OpenSpec.ofChange cacheOwnSpec)) cacheOwnCard

/-- THE TIED CARD OF 'pergolalaw05.HostNumbers'. -/
def hostNumbersCard : Claim7 := { stood := { row := hostNumbersRow, standIns := [], harness := (true, "c4fcc982b84900a701c8b8ab52ad04a475a5fe8991e60efaf48b065a37f69d3e"), looks := false }, kinds := [], alts := [], laidByText := true, laidKinds := [.data, .data, .data, .data, .pinned], laidTests := true, laidLooks := .later }
def HostNumbersCardSaid : Prop := Claim7.holds Tryz.pinned (.plain (OpenSpec.ofChange hostNumbersSpec)) hostNumbersCard

/-- THE TIED CARD OF 'pergolalaw05.HostFixpoint'. -/
def hostFixpointCard : Claim7 := { stood := { row := hostFixpointRow, standIns := [], harness := (true, "c4fcc982b84900a701c8b8ab52ad04a475a5fe8991e60efaf48b065a37f69d3e"), looks := false }, kinds := [], alts := [], laidByText := true, laidKinds := [.data, .data, .data, .data, .pinned], laidTests := true, laidLooks := .later }
def HostFixpointCardSaid : Prop := Claim7.holds Tryz.pinned (.plain (OpenSpec.ofChange hostFixpointSpec)) hostFixpointCard

/-- THE TIED CARD OF 'pergolalaw05.HostAddresses'. -/
def hostAddressesCard : Claim7 := { stood := { row := hostAddressesRow, standIns := [], harness := (true, "c4fcc982b84900a701c8b8ab52ad04a475a5fe8991e60efaf48b065a37f69d3e"), looks := false }, kinds := [], alts := [], laidByText := true, laidKinds := [.data, .data, .data, .data, .pinned], laidTests := true, laidLooks := .later }
def HostAddressesCardSaid : Prop := Claim7.holds Tryz.pinned (.plain (OpenSpec.ofChange hostAddressesSpec)) hostAddressesCard

/-- THE TIED CARD OF 'pergolalaw05.HostSpelt'. -/
def hostSpeltCard : Claim7 := { stood := { row := hostSpeltRow, standIns := [], harness := (true, "c4fcc982b84900a701c8b8ab52ad04a475a5fe8991e60efaf48b065a37f69d3e"), looks := false }, kinds := [], alts := [], laidByText := true, laidKinds := [.data, .data, .data, .data, .pinned], laidTests := true, laidLooks := .later }
def HostSpeltCardSaid : Prop := Claim7.holds Tryz.pinned (.plain (OpenSpec.ofChange hostSpeltSpec)) hostSpeltCard

/-- THE TIED CARD OF 'pergolalaw05.HostParses'. -/
def hostParsesCard : Claim7 := { stood := { row := hostParsesRow, standIns := [], harness := (true, "c4fcc982b84900a701c8b8ab52ad04a475a5fe8991e60efaf48b065a37f69d3e"), looks := false }, kinds := [], alts := [], laidByText := true, laidKinds := [.data, .data, .data, .data, .pinned], laidTests := true, laidLooks := .later }
def HostParsesCardSaid : Prop := Claim7.holds Tryz.pinned (.plain (OpenSpec.ofChange hostParsesSpec)) hostParsesCard

/-- THE TIED CARD OF 'pergolalaw05.HostTwice'. -/
def hostTwiceCard : Claim7 := { stood := { row := hostTwiceRow, standIns := [], harness := (true, "c4fcc982b84900a701c8b8ab52ad04a475a5fe8991e60efaf48b065a37f69d3e"), looks := false }, kinds := [], alts := [], laidByText := true, laidKinds := [.data, .data, .data, .data, .pinned], laidTests := true, laidLooks := .later }
def HostTwiceCardSaid : Prop := Claim7.holds Tryz.pinned (.plain (OpenSpec.ofChange hostTwiceSpec)) hostTwiceCard

/-- THE TIED CARD OF 'pergolalaw05.HostPrints'. -/
def hostPrintsCard : Claim7 := { stood := { row := hostPrintsRow, standIns := [], harness := (true, "c4fcc982b84900a701c8b8ab52ad04a475a5fe8991e60efaf48b065a37f69d3e"), looks := false }, kinds := [], alts := [], laidByText := true, laidKinds := [.data, .data, .data, .data, .pinned], laidTests := true, laidLooks := .later }
def HostPrintsCardSaid : Prop := Claim7.holds Tryz.pinned (.plain (OpenSpec.ofChange hostPrintsSpec)) hostPrintsCard

/-- THE TIED CARD OF 'pergolalaw05.HostOwn'. -/
def hostOwnCard : Claim7 := { stood := { row := hostOwnRow, standIns := [], harness := (true, "c4fcc982b84900a701c8b8ab52ad04a475a5fe8991e60efaf48b065a37f69d3e"), looks := false }, kinds := [], alts := [], laidByText := true, laidKinds := [.data, .data, .data, .data, .pinned], laidTests := true, laidLooks := .later }
def HostOwnCardSaid : Prop := Claim7.holds Tryz.pinned (.plain (OpenSpec.ofChange hostOwnSpec)) hostOwnCard

/-- THE SECOND FORM's CARD OF 'pergolalaw21.CacheBounds'. -/
def cacheBoundsUptoCard : Claim7 := { stood := { row := cacheBoundsUptoRow, standIns := [], harness := (true, "c4fcc982b84900a701c8b8ab52ad04a475a5fe8991e60efaf48b065a37f69d3e"), looks := false }, kinds := [], alts := [], laidByText := true, laidKinds := [.data, .pinned], laidTests := true, laidLooks := .later }
def CacheBoundsUptoCardSaid : Prop := Claim7.holds Tryz.pinned (.plain (OpenSpec.upto cacheBoundsSpec)) cacheBoundsUptoCard

/-- THE SECOND FORM's CARD OF 'pergolalaw21.CacheNever'. -/
def cacheNeverUptoCard : Claim7 := { stood := { row := cacheNeverUptoRow, standIns := [], harness := (true, "c4fcc982b84900a701c8b8ab52ad04a475a5fe8991e60efaf48b065a37f69d3e"), looks := false }, kinds := [], alts := [], laidByText := true, laidKinds := [.data, .pinned], laidTests := true, laidLooks := .later }
def CacheNeverUptoCardSaid : Prop := Claim7.holds Tryz.pinned (.plain (OpenSpec.upto cacheNeverSpec)) cacheNeverUptoCard

/-- THE SECOND FORM's CARD OF 'pergolalaw21.CacheDoes'. -/
def cacheDoesUptoCard : Claim7 := { stood := { row := cacheDoesUptoRow, standIns := [], harness := (true, "c4fcc982b84900a701c8b8ab52ad04a475a5fe8991e60efaf48b065a37f69d3e"), looks := false }, kinds := [], alts := [], laidByText := true, laidKinds := [.data, .pinned], laidTests := true, laidLooks := .later }
def CacheDoesUptoCardSaid : Prop := Claim7.holds Tryz.pinned (.plain (OpenSpec.upto cacheDoesSpec)) cacheDoesUptoCard

/-- THE SECOND FORM's CARD OF 'pergolalaw21.CacheOwn'. -/
def cacheOwnUptoCard : Claim7 := { stood := { row := cacheOwnUptoRow, standIns := [], harness := (true, "c4fcc982b84900a701c8b8ab52ad04a475a5fe8991e60efaf48b065a37f69d3e"), looks := false }, kinds := [], alts := [], laidByText := true, laidKinds := [.data, .pinned], laidTests := true, laidLooks := .later }
def CacheOwnUptoCardSaid : Prop := Claim7.holds Tryz.pinned (.plain (OpenSpec.upto cacheOwnSpec)) cacheOwnUptoCard

/-- THE SECOND FORM's CARD OF 'pergolalaw05.HostNumbers'. -/
def hostNumbersUptoCard : Claim7 := { stood := { row := hostNumbersUptoRow, standIns := [], harness := (true, "c4fcc982b84900a701c8b8ab52ad04a475a5fe8991e60efaf48b065a37f69d3e"), looks := false }, kinds := [], alts := [], laidByText := true, laidKinds := [.data, .data, .data, .data, .pinned], laidTests := true, laidLooks := .later }
def HostNumbersUptoCardSaid : Prop := Claim7.holds Tryz.pinned (.plain (OpenSpec.upto hostNumbersSpec)) hostNumbersUptoCard

/-- THE SECOND FORM's CARD OF 'pergolalaw05.HostFixpoint'. -/
def hostFixpointUptoCard : Claim7 := { stood := { row := hostFixpointUptoRow, standIns := [], harness := (true, "c4fcc982b84900a701c8b8ab52ad04a475a5fe8991e60efaf48b065a37f69d3e"), looks := false }, kinds := [], alts := [], laidByText := true, laidKinds := [.data, .data, .data, .data, .pinned], laidTests := true, laidLooks := .later }
def HostFixpointUptoCardSaid : Prop := Claim7.holds Tryz.pinned (.plain (OpenSpec.upto hostFixpointSpec)) hostFixpointUptoCard

/-- THE SECOND FORM's CARD OF 'pergolalaw05.HostAddresses'. -/
def hostAddressesUptoCard : Claim7 := { stood := { row := hostAddressesUptoRow, standIns := [], harness := (true, "c4fcc982b84900a701c8b8ab52ad04a475a5fe8991e60efaf48b065a37f69d3e"), looks := false }, kinds := [], alts := [], laidByText := true, laidKinds := [.data, .data, .data, .data, .pinned], laidTests := true, laidLooks := .later }
def HostAddressesUptoCardSaid : Prop := Claim7.holds Tryz.pinned (.plain (OpenSpec.upto hostAddressesSpec)) hostAddressesUptoCard

/-- THE SECOND FORM's CARD OF 'pergolalaw05.HostSpelt'. -/
def hostSpeltUptoCard : Claim7 := { stood := { row := hostSpeltUptoRow, standIns := [], harness := (true, "c4fcc982b84900a701c8b8ab52ad04a475a5fe8991e60efaf48b065a37f69d3e"), looks := false }, kinds := [], alts := [], laidByText := true, laidKinds := [.data, .data, .data, .data, .pinned], laidTests := true, laidLooks := .later }
def HostSpeltUptoCardSaid : Prop := Claim7.holds Tryz.pinned (.plain (OpenSpec.upto hostSpeltSpec)) hostSpeltUptoCard

/-- THE SECOND FORM's CARD OF 'pergolalaw05.HostParses'. -/
def hostParsesUptoCard : Claim7 := { stood := { row := hostParsesUptoRow, standIns := [], harness := (true, "c4fcc982b84900a701c8b8ab52ad04a475a5fe8991e60efaf48b065a37f69d3e"), looks := false }, kinds := [], alts := [], laidByText := true, laidKinds := [.data, .data, .data, .data, .pinned], laidTests := true, laidLooks := .later }
def HostParsesUptoCardSaid : Prop := Claim7.holds Tryz.pinned (.plain (OpenSpec.upto hostParsesSpec)) hostParsesUptoCard

/-- THE SECOND FORM's CARD OF 'pergolalaw05.HostTwice'. -/
def hostTwiceUptoCard : Claim7 := { stood := { row := hostTwiceUptoRow, standIns := [], harness := (true, "c4fcc982b84900a701c8b8ab52ad04a475a5fe8991e60efaf48b065a37f69d3e"), looks := false }, kinds := [], alts := [], laidByText := true, laidKinds := [.data, .data, .data, .data, .pinned], laidTests := true, laidLooks := .later }
def HostTwiceUptoCardSaid : Prop := Claim7.holds Tryz.pinned (.plain (OpenSpec.upto hostTwiceSpec)) hostTwiceUptoCard

/-- THE SECOND FORM's CARD OF 'pergolalaw05.HostPrints'. -/
def hostPrintsUptoCard : Claim7 := { stood := { row := hostPrintsUptoRow, standIns := [], harness := (true, "c4fcc982b84900a701c8b8ab52ad04a475a5fe8991e60efaf48b065a37f69d3e"), looks := false }, kinds := [], alts := [], laidByText := true, laidKinds := [.data, .data, .data, .data, .pinned], laidTests := true, laidLooks := .later }
def HostPrintsUptoCardSaid : Prop := Claim7.holds Tryz.pinned (.plain (OpenSpec.upto hostPrintsSpec)) hostPrintsUptoCard

/-- THE SECOND FORM's CARD OF 'pergolalaw05.HostOwn'. -/
def hostOwnUptoCard : Claim7 := { stood := { row := hostOwnUptoRow, standIns := [], harness := (true, "c4fcc982b84900a701c8b8ab52ad04a475a5fe8991e60efaf48b065a37f69d3e"), looks := false }, kinds := [], alts := [], laidByText := true, laidKinds := [.data, .data, .data, .data, .pinned], laidTests := true, laidLooks := .later }
def HostOwnUptoCardSaid : Prop := Claim7.holds Tryz.pinned (.plain (OpenSpec.upto hostOwnSpec)) hostOwnUptoCard
end Rows
end Go.Proofs.YtddagflhafkbnaaGreatDoor
