/-
  DERIVED. GIVEN WITH THE SEED: THE CARDS: each row of YtjdknnlhhenpnaaGreatDoorRows.lean that lists a variable, with what it lists TIED to the program's text (the seventh form; the later family's looks); each row that meets fmt, with fmt's text TOLD by the authors' own Lean function (tested against real Go, not proved from fmt's source: count such statements apart). THE CARD IS WHAT COUNTS. Prove the row's statement (the work); the ties are given (YtjdknnlhhenpnaaGreatDoorTie.lean); close each card by the builder's one call (the guide's Derived/Test/ToyasCard.lean, 'card_holds'). Laid BY PROGRAM, IN A SANDBOX (cutbox-door.mjs). By AI agents, Wed Nov 11 2026. No macro, syntax, notation, axiom, sorry.
-/
import Derived.Test.YtjdknnlhhenpnaaGreatDoorRows
import GoSem.ClaimSeven
namespace Go.Proofs.YtjdknnlhhenpnaaGreatDoor
namespace Rows

/-- THE TIED CARD OF 'virgationlaw14.JudgeCheck'. -/
def judgeCheckCard : Claim7 := { stood := { row := judgeCheckRow, standIns := [], harness := (true, "e36ac7f551e0b2ce084b66169f9be8b5af4a2afc395321a2fd9ca460c9657683"), looks := false }, kinds := [], alts := [], laidByText := true, laidKinds := [.data, .data, .data], laidTests := true, laidLooks := .later }
def JudgeCheckCardSaid : Prop := Claim7.holds Tryz.pinned (.plain (OpenSpec.ofChange judgeCheckSpec)) judgeCheckCard

/-- THE TIED CARD OF 'virgationlaw14.JudgeHas'. -/
def judgeHasCard : Claim7 := { stood := { row := judgeHasRow, standIns := [], harness := (true, "e36ac7f551e0b2ce084b66169f9be8b5af4a2afc395321a2fd9ca460c9657683"), looks := false }, kinds := [], alts := [], laidByText := true, laidKinds := [.data, .data, .data], laidTests := true, laidLooks := .later }
def JudgeHasCardSaid : Prop := Claim7.holds Tryz.pinned (.plain (OpenSpec.ofChange judgeHasSpec)) judgeHasCard

/-- THE TIED CARD OF 'virgationlaw14.JudgeStates'. -/
def judgeStatesCard : Claim7 := { stood := { row := judgeStatesRow, standIns := [], harness := (true, "e36ac7f551e0b2ce084b66169f9be8b5af4a2afc395321a2fd9ca460c9657683"), looks := false }, kinds := [], alts := [], laidByText := true, laidKinds := [.data, .data, .data], laidTests := true, laidLooks := .later }
def JudgeStatesCardSaid : Prop := Claim7.holds Tryz.pinned (.plain (OpenSpec.ofChange judgeStatesSpec)) judgeStatesCard

/-- THE TIED CARD OF 'virgationlaw14.JudgeBody'. -/
def judgeBodyCard : Claim7 := { stood := { row := judgeBodyRow, standIns := [], harness := (true, "e36ac7f551e0b2ce084b66169f9be8b5af4a2afc395321a2fd9ca460c9657683"), looks := false }, kinds := [], alts := [], laidByText := true, laidKinds := [.data, .data, .data], laidTests := true, laidLooks := .later }
def JudgeBodyCardSaid : Prop := Claim7.holds Tryz.pinned (.plain (OpenSpec.ofChange judgeBodySpec)) judgeBodyCard

/-- THE TIED CARD OF 'virgationlaw14.JudgeTrees'. -/
def judgeTreesCard : Claim7 := { stood := { row := judgeTreesRow, standIns := [], harness := (true, "e36ac7f551e0b2ce084b66169f9be8b5af4a2afc395321a2fd9ca460c9657683"), looks := false }, kinds := [], alts := [], laidByText := true, laidKinds := [.data, .data, .data], laidTests := true, laidLooks := .later }
def JudgeTreesCardSaid : Prop := Claim7.holds Tryz.pinned (.plain (OpenSpec.ofChange judgeTreesSpec)) judgeTreesCard

/-- THE TIED CARD OF 'virgationlaw14.JudgeOwn'. -/
def judgeOwnCard : Claim7 := { stood := { row := judgeOwnRow, standIns := [], harness := (true, "e36ac7f551e0b2ce084b66169f9be8b5af4a2afc395321a2fd9ca460c9657683"), looks := false }, kinds := [], alts := [], laidByText := true, laidKinds := [.data, .data, .data], laidTests := true, laidLooks := .later }
def JudgeOwnCardSaid : Prop := Claim7.holds Tryz.pinned (.plain (OpenSpec.ofChange judgeOwnSpec)) judgeOwnCard

/-- THE TIED CARD OF 'virgationlaw14.JudgeWeaker'. -/
def judgeWeakerCard : Claim7 := { stood := { row := judgeWeakerRow, standIns := [], harness := (true, "e36ac7f551e0b2ce084b66169f9be8b5af4a2afc395321a2fd9ca460c9657683"), looks := false }, kinds := [], alts := [], laidByText := true, laidKinds := [.data, .data, .data], laidTests := true, laidLooks := .later }
def JudgeWeakerCardSaid : Prop := Claim7.holds Tryz.pinned (.plain (OpenSpec.ofChange judgeWeakerSpec)) judgeWeakerCard

/-- THE TIED CARD OF 'virgationlaw14.JudgeSubst'. -/
def judgeSubstCard : Claim7 := { stood := { row := judgeSubstRow, standIns := [], harness := (true, "e36ac7f551e0b2ce084b66169f9be8b5af4a2afc395321a2fd9ca460c9657683"), looks := false }, kinds := [], alts := [], laidByText := true, laidKinds := [.data, .data, .data], laidTests := true, laidLooks := .later }
def JudgeSubstCardSaid : Prop := Claim7.holds Tryz.pinned (.plain (OpenSpec.ofChange judgeSubstSpec)) judgeSubstCard

/-- THE TIED CARD OF 'virgationlaw14.JudgeMore'. -/
def judgeMoreCard : Claim7 := { stood := { row := judgeMoreRow, standIns := [], harness := (true, "e36ac7f551e0b2ce084b66169f9be8b5af4a2afc395321a2fd9ca460c9657683"), looks := false }, kinds := [], alts := [], laidByText := true, laidKinds := [.data, .data, .data], laidTests := true, laidLooks := .later }
def JudgeMoreCardSaid : Prop := Claim7.holds Tryz.pinned (.plain (OpenSpec.ofChange judgeMoreSpec)) judgeMoreCard

/-- THE SECOND FORM's CARD OF 'virgationlaw14.JudgeCheck'. -/
def judgeCheckUptoCard : Claim7 := { stood := { row := judgeCheckUptoRow, standIns := [], harness := (true, "e36ac7f551e0b2ce084b66169f9be8b5af4a2afc395321a2fd9ca460c9657683"), looks := false }, kinds := [], alts := [], laidByText := true, laidKinds := [.data, .data, .data], laidTests := true, laidLooks := .later }
def JudgeCheckUptoCardSaid : Prop := Claim7.holds Tryz.pinned (.plain (OpenSpec.upto judgeCheckSpec)) judgeCheckUptoCard

/-- THE SECOND FORM's CARD OF 'virgationlaw14.JudgeHas'. -/
def judgeHasUptoCard : Claim7 := { stood := { row := judgeHasUptoRow, standIns := [], harness := (true, "e36ac7f551e0b2ce084b66169f9be8b5af4a2afc395321a2fd9ca460c9657683"), looks := false }, kinds := [], alts := [], laidByText := true, laidKinds := [.data, .data, .data], laidTests := true, laidLooks := .later }
def JudgeHasUptoCardSaid : Prop := Claim7.holds Tryz.pinned (.plain (OpenSpec.upto judgeHasSpec)) judgeHasUptoCard

/-- THE SECOND FORM's CARD OF 'virgationlaw14.JudgeStates'. -/
def judgeStatesUptoCard : Claim7 := { stood := { row := judgeStatesUptoRow, standIns := [], harness := (true, "e36ac7f551e0b2ce084b66169f9be8b5af4a2afc395321a2fd9ca460c9657683"), looks := false }, kinds := [], alts := [], laidByText := true, laidKinds := [.data, .data, .data], laidTests := true, laidLooks := .later }
def JudgeStatesUptoCardSaid : Prop := Claim7.holds Tryz.pinned (.plain (OpenSpec.upto judgeStatesSpec)) judgeStatesUptoCard

/-- THE SECOND FORM's CARD OF 'virgationlaw14.JudgeBody'. -/
def judgeBodyUptoCard : Claim7 := { stood := { row := judgeBodyUptoRow, standIns := [], harness := (true, "e36ac7f551e0b2ce084b66169f9be8b5af4a2afc395321a2fd9ca460c9657683"), looks := false }, kinds := [], alts := [], laidByText := true, laidKinds := [.data, .data, .data], laidTests := true, laidLooks := .later }
def JudgeBodyUptoCardSaid : Prop := Claim7.holds Tryz.pinned (.plain (OpenSpec.upto judgeBodySpec)) judgeBodyUptoCard

/-- THE SECOND FORM's CARD OF 'virgationlaw14.JudgeTrees'. -/
def judgeTreesUptoCard : Claim7 := { stood := { row := judgeTreesUptoRow, standIns := [], harness := (true, "e36ac7f551e0b2ce084b66169f9be8b5af4a2afc395321a2fd9ca460c9657683"), looks := false }, kinds := [], alts := [], laidByText := true, laidKinds := [.data, .data, .data], laidTests := true, laidLooks := .later }
def JudgeTreesUptoCardSaid : Prop := Claim7.holds Tryz.pinned (.plain (OpenSpec.upto judgeTreesSpec)) judgeTreesUptoCard

/-- THE SECOND FORM's CARD OF 'virgationlaw14.JudgeOwn'. -/
def judgeOwnUptoCard : Claim7 := { stood := { row := judgeOwnUptoRow, standIns := [], harness := (true, "e36ac7f551e0b2ce084b66169f9be8b5af4a2afc395321a2fd9ca460c9657683"), looks := false }, kinds := [], alts := [], laidByText := true, laidKinds := [.data, .data, .data], laidTests := true, laidLooks := .later }
def JudgeOwnUptoCardSaid : Prop := Claim7.holds Tryz.pinned (.plain (OpenSpec.upto judgeOwnSpec)) judgeOwnUptoCard

/-- THE SECOND FORM's CARD OF 'virgationlaw14.JudgeWeaker'. -/
def judgeWeakerUptoCard : Claim7 := { stood := { row := judgeWeakerUptoRow, standIns := [], harness := (true, "e36ac7f551e0b2ce084b66169f9be8b5af4a2afc395321a2fd9ca460c9657683"), looks := false }, kinds := [], alts := [], laidByText := true, laidKinds := [.data, .data, .data], laidTests := true, laidLooks := .later }
def JudgeWeakerUptoCardSaid : Prop := Claim7.holds Tryz.pinned (.plain (OpenSpec.upto judgeWeakerSpec)) judgeWeakerUptoCard

/-- THE SECOND FORM's CARD OF 'virgationlaw14.JudgeSubst'. -/
def judgeSubstUptoCard : Claim7 := { stood := { row := judgeSubstUptoRow, standIns := [], harness := (true, "e36ac7f551e0b2ce084b66169f9be8b5af4a2afc395321a2fd9ca460c9657683"), looks := false }, kinds := [], alts := [], laidByText := true, laidKinds := [.data, .data, .data], laidTests := true, laidLooks := .later }
def JudgeSubstUptoCardSaid : Prop := Claim7.holds Tryz.pinned (.plain (OpenSpec.upto judgeSubstSpec)) judgeSubstUptoCard

/-- THE SECOND FORM's CARD OF 'virgationlaw14.JudgeMore'. -/
def judgeMoreUptoCard : Claim7 := { stood := { row := judgeMoreUptoRow, standIns := [], harness := (true, "e36ac7f551e0b2ce084b66169f9be8b5af4a2afc395321a2fd9ca460c9657683"), looks := false }, kinds := [], alts := [], laidByText := true, laidKinds := [.data, .data, .data], laidTests := true, laidLooks := .later }
def JudgeMoreUptoCardSaid : Prop := Claim7.holds Tryz.pinned (.plain (OpenSpec.upto judgeMoreSpec)) judgeMoreUptoCard
end Rows
end Go.Proofs.YtjdknnlhhenpnaaGreatDoor
