/-
  NARROWER THAN 'FOR EVERY INPUT', by the rows' own cells (each row's printed sentence says how): WatchTells: loops · WatchLong: loops · WatchSure: loops.
  DERIVED. THE GIVEN ROWS OF THIS SEAT. 20 by the template 'for every input the law returns true; each argument reads behind the call as it read before'; 0 by the template 'total and deterministic' (their statements: YteiiodlgdbiimaaTotals.lean).
  GIVEN WITH THE SEED: the statements are not yours to turn. If you find one false, say at which input.
  Laid BY PROGRAM, IN A SANDBOX (cutbox-rows.mjs): the forced cells as the released guide's own fill.sh prints them over the translation a4b7e74e74bb1ce9… (all of the seat's roots in one cut). By AI agents, Wed Nov 11 2026. No macro, syntax, notation, axiom, sorry.
-/
import Derived.Test.YteiiodlgdbiimaaChecked
import GoSem.Claim
import GoSem.ClaimJoined
import GoSem.ClaimMapViews
import Derived.JoinedTies
import Derived.KernelRfl
namespace Go.Proofs.Yteiiodlgdbiimaa
/- THE CELL 'sum', in the pinned program and in every row, IS THE sha256 OF THE DUMP (.gsa) THAT YteiiodlgdbiimaaProg.lean LOADS. Nothing in Lean hashes anything: it is a label: what it is worth is what the hold of that sum in a sandbox is worth. -/
noncomputable def Try.pinned : Pinned := { name := "yteiiodlgdbiimaa", sum := "a4b7e74e74bb1ce9ef58296e0b8397aff8c8ecdb1b934e33b1fd6a6eef6f0bca", checked := Try.checked }
namespace Rows
def none {H : Type} : Left H := { results := [], args := [] }

/-- 'inquestlaw09.ConeGrows': WHATEVER THE INPUT: true; the input reads as it did. -/
def coneGrowsSpec : ChangeSpec := { name := "coneGrows", fn := fun _ => fun
  | [d1, d2, d3, d4, d5] => { results := [.lit (.bool true)], args := [d1, d2, d3, d4, d5] }
  | _ => none }
def coneGrowsRow : OpenClaim := { program := "yteiiodlgdbiimaa", sum := "a4b7e74e74bb1ce9ef58296e0b8397aff8c8ecdb1b934e33b1fd6a6eef6f0bca", func := "inquest/inquestlaw09.ConeGrows", spec := "coneGrows", unfollowed := true, recurses := true, plainKeys := false, apart := false }
def ConeGrowsSaid : Prop := coneGrowsRow.holds Try.pinned (OpenSpec.ofChange coneGrowsSpec)

/-- ITS FALSE NEIGHBOUR: 'it returns false'. Refute it at one input. -/
def coneGrowsWrong : ChangeSpec := { name := "coneGrows", fn := fun _ => fun
  | [d1, d2, d3, d4, d5] => { results := [.lit (.bool false)], args := [d1, d2, d3, d4, d5] }
  | _ => none }
def ConeGrowsWrongFalsely : Prop := coneGrowsRow.holds Try.pinned (OpenSpec.ofChange coneGrowsWrong)

/-- 'inquestlaw25.ExtractKeeps': WHATEVER THE INPUT: true; the input reads as it did. -/
def extractKeepsSpec : ChangeSpec := { name := "extractKeeps", fn := fun _ => fun
  | [d1, d2] => { results := [.lit (.bool true)], args := [d1, d2] }
  | _ => none }
def extractKeepsRow : OpenClaim := { program := "yteiiodlgdbiimaa", sum := "a4b7e74e74bb1ce9ef58296e0b8397aff8c8ecdb1b934e33b1fd6a6eef6f0bca", func := "inquest/inquestlaw25.ExtractKeeps", spec := "extractKeeps", unfollowed := true, recurses := true, plainKeys := false, apart := false }
def ExtractKeepsSaid : Prop := extractKeepsRow.holds Try.pinned (OpenSpec.ofChange extractKeepsSpec)

/-- ITS FALSE NEIGHBOUR: 'it returns false'. Refute it at one input. -/
def extractKeepsWrong : ChangeSpec := { name := "extractKeeps", fn := fun _ => fun
  | [d1, d2] => { results := [.lit (.bool false)], args := [d1, d2] }
  | _ => none }
def ExtractKeepsWrongFalsely : Prop := extractKeepsRow.holds Try.pinned (OpenSpec.ofChange extractKeepsWrong)

/-- 'inquestlaw24.StrashTells': WHATEVER THE INPUT: true; the input reads as it did. -/
def strashTellsSpec : ChangeSpec := { name := "strashTells", fn := fun _ => fun
  | [d1, d2, d3, d4] => { results := [.lit (.bool true)], args := [d1, d2, d3, d4] }
  | _ => none }
def strashTellsRow : OpenClaim := { program := "yteiiodlgdbiimaa", sum := "a4b7e74e74bb1ce9ef58296e0b8397aff8c8ecdb1b934e33b1fd6a6eef6f0bca", func := "inquest/inquestlaw24.StrashTells", spec := "strashTells", unfollowed := true, recurses := true, plainKeys := false, apart := false }
def StrashTellsSaid : Prop := strashTellsRow.holds Try.pinned (OpenSpec.ofChange strashTellsSpec)

/-- ITS FALSE NEIGHBOUR: 'it returns false'. Refute it at one input. -/
def strashTellsWrong : ChangeSpec := { name := "strashTells", fn := fun _ => fun
  | [d1, d2, d3, d4] => { results := [.lit (.bool false)], args := [d1, d2, d3, d4] }
  | _ => none }
def StrashTellsWrongFalsely : Prop := strashTellsRow.holds Try.pinned (OpenSpec.ofChange strashTellsWrong)

/-- 'inquestlaw24.StrashRuns': WHATEVER THE INPUT: true; the input reads as it did. -/
def strashRunsSpec : ChangeSpec := { name := "strashRuns", fn := fun _ => fun
  | [d1, d2] => { results := [.lit (.bool true)], args := [d1, d2] }
  | _ => none }
def strashRunsRow : OpenClaim := { program := "yteiiodlgdbiimaa", sum := "a4b7e74e74bb1ce9ef58296e0b8397aff8c8ecdb1b934e33b1fd6a6eef6f0bca", func := "inquest/inquestlaw24.StrashRuns", spec := "strashRuns", unfollowed := true, recurses := true, plainKeys := false, apart := false }
def StrashRunsSaid : Prop := strashRunsRow.holds Try.pinned (OpenSpec.ofChange strashRunsSpec)

/-- ITS FALSE NEIGHBOUR: 'it returns false'. Refute it at one input. -/
def strashRunsWrong : ChangeSpec := { name := "strashRuns", fn := fun _ => fun
  | [d1, d2] => { results := [.lit (.bool false)], args := [d1, d2] }
  | _ => none }
def StrashRunsWrongFalsely : Prop := strashRunsRow.holds Try.pinned (OpenSpec.ofChange strashRunsWrong)

/-- 'inquestlaw24.StrashSmall': WHATEVER THE INPUT: true; the input reads as it did. -/
def strashSmallSpec : ChangeSpec := { name := "strashSmall", fn := fun _ => fun
  | [d] => { results := [.lit (.bool true)], args := [d] }
  | _ => none }
def strashSmallRow : OpenClaim := { program := "yteiiodlgdbiimaa", sum := "a4b7e74e74bb1ce9ef58296e0b8397aff8c8ecdb1b934e33b1fd6a6eef6f0bca", func := "inquest/inquestlaw24.StrashSmall", spec := "strashSmall", unfollowed := true, recurses := true, plainKeys := false, apart := false }
def StrashSmallSaid : Prop := strashSmallRow.holds Try.pinned (OpenSpec.ofChange strashSmallSpec)

/-- ITS FALSE NEIGHBOUR: 'it returns false'. Refute it at one input. -/
def strashSmallWrong : ChangeSpec := { name := "strashSmall", fn := fun _ => fun
  | [d] => { results := [.lit (.bool false)], args := [d] }
  | _ => none }
def StrashSmallWrongFalsely : Prop := strashSmallRow.holds Try.pinned (OpenSpec.ofChange strashSmallWrong)

/-- 'inquestlaw26.StuckFolds': WHATEVER THE INPUT: true; the input reads as it did. -/
def stuckFoldsSpec : ChangeSpec := { name := "stuckFolds", fn := fun _ => fun
  | [d1, d2] => { results := [.lit (.bool true)], args := [d1, d2] }
  | _ => none }
def stuckFoldsRow : OpenClaim := { program := "yteiiodlgdbiimaa", sum := "a4b7e74e74bb1ce9ef58296e0b8397aff8c8ecdb1b934e33b1fd6a6eef6f0bca", func := "inquest/inquestlaw26.StuckFolds", spec := "stuckFolds", unfollowed := true, recurses := true, plainKeys := false, apart := false }
def StuckFoldsSaid : Prop := stuckFoldsRow.holds Try.pinned (OpenSpec.ofChange stuckFoldsSpec)

/-- ITS FALSE NEIGHBOUR: 'it returns false'. Refute it at one input. -/
def stuckFoldsWrong : ChangeSpec := { name := "stuckFolds", fn := fun _ => fun
  | [d1, d2] => { results := [.lit (.bool false)], args := [d1, d2] }
  | _ => none }
def StuckFoldsWrongFalsely : Prop := stuckFoldsRow.holds Try.pinned (OpenSpec.ofChange stuckFoldsWrong)

/-- 'inquestlaw24.StrashWith': WHATEVER THE INPUT: true; the input reads as it did. -/
def strashWithSpec : ChangeSpec := { name := "strashWith", fn := fun _ => fun
  | [d1, d2, d3, d4] => { results := [.lit (.bool true)], args := [d1, d2, d3, d4] }
  | _ => none }
def strashWithRow : OpenClaim := { program := "yteiiodlgdbiimaa", sum := "a4b7e74e74bb1ce9ef58296e0b8397aff8c8ecdb1b934e33b1fd6a6eef6f0bca", func := "inquest/inquestlaw24.StrashWith", spec := "strashWith", unfollowed := true, recurses := true, plainKeys := false, apart := false }
def StrashWithSaid : Prop := strashWithRow.holds Try.pinned (OpenSpec.ofChange strashWithSpec)

/-- ITS FALSE NEIGHBOUR: 'it returns false'. Refute it at one input. -/
def strashWithWrong : ChangeSpec := { name := "strashWith", fn := fun _ => fun
  | [d1, d2, d3, d4] => { results := [.lit (.bool false)], args := [d1, d2, d3, d4] }
  | _ => none }
def StrashWithWrongFalsely : Prop := strashWithRow.holds Try.pinned (OpenSpec.ofChange strashWithWrong)

/-- 'inquestlaw24.StrashLits': WHATEVER THE INPUT: true; the input reads as it did. -/
def strashLitsSpec : ChangeSpec := { name := "strashLits", fn := fun _ => fun
  | [d1, d2] => { results := [.lit (.bool true)], args := [d1, d2] }
  | _ => none }
def strashLitsRow : OpenClaim := { program := "yteiiodlgdbiimaa", sum := "a4b7e74e74bb1ce9ef58296e0b8397aff8c8ecdb1b934e33b1fd6a6eef6f0bca", func := "inquest/inquestlaw24.StrashLits", spec := "strashLits", unfollowed := true, recurses := true, plainKeys := false, apart := false }
def StrashLitsSaid : Prop := strashLitsRow.holds Try.pinned (OpenSpec.ofChange strashLitsSpec)

/-- ITS FALSE NEIGHBOUR: 'it returns false'. Refute it at one input. -/
def strashLitsWrong : ChangeSpec := { name := "strashLits", fn := fun _ => fun
  | [d1, d2] => { results := [.lit (.bool false)], args := [d1, d2] }
  | _ => none }
def StrashLitsWrongFalsely : Prop := strashLitsRow.holds Try.pinned (OpenSpec.ofChange strashLitsWrong)

/-- 'inquestlaw09.ConeTells': WHATEVER THE INPUT: true; the input reads as it did. -/
def coneTellsSpec : ChangeSpec := { name := "coneTells", fn := fun _ => fun
  | [d1, d2, d3, d4, d5] => { results := [.lit (.bool true)], args := [d1, d2, d3, d4, d5] }
  | _ => none }
def coneTellsRow : OpenClaim := { program := "yteiiodlgdbiimaa", sum := "a4b7e74e74bb1ce9ef58296e0b8397aff8c8ecdb1b934e33b1fd6a6eef6f0bca", func := "inquest/inquestlaw09.ConeTells", spec := "coneTells", unfollowed := true, recurses := true, plainKeys := false, apart := false }
def ConeTellsSaid : Prop := coneTellsRow.holds Try.pinned (OpenSpec.ofChange coneTellsSpec)

/-- ITS FALSE NEIGHBOUR: 'it returns false'. Refute it at one input. -/
def coneTellsWrong : ChangeSpec := { name := "coneTells", fn := fun _ => fun
  | [d1, d2, d3, d4, d5] => { results := [.lit (.bool false)], args := [d1, d2, d3, d4, d5] }
  | _ => none }
def ConeTellsWrongFalsely : Prop := coneTellsRow.holds Try.pinned (OpenSpec.ofChange coneTellsWrong)

/-- 'inquestlaw09.ConeCounts': WHATEVER THE INPUT: true; the input reads as it did. -/
def coneCountsSpec : ChangeSpec := { name := "coneCounts", fn := fun _ => fun
  | [d1, d2, d3] => { results := [.lit (.bool true)], args := [d1, d2, d3] }
  | _ => none }
def coneCountsRow : OpenClaim := { program := "yteiiodlgdbiimaa", sum := "a4b7e74e74bb1ce9ef58296e0b8397aff8c8ecdb1b934e33b1fd6a6eef6f0bca", func := "inquest/inquestlaw09.ConeCounts", spec := "coneCounts", unfollowed := true, recurses := true, plainKeys := false, apart := false }
def ConeCountsSaid : Prop := coneCountsRow.holds Try.pinned (OpenSpec.ofChange coneCountsSpec)

/-- ITS FALSE NEIGHBOUR: 'it returns false'. Refute it at one input. -/
def coneCountsWrong : ChangeSpec := { name := "coneCounts", fn := fun _ => fun
  | [d1, d2, d3] => { results := [.lit (.bool false)], args := [d1, d2, d3] }
  | _ => none }
def ConeCountsWrongFalsely : Prop := coneCountsRow.holds Try.pinned (OpenSpec.ofChange coneCountsWrong)

/-- 'inquestlaw23.WatchTells': WHATEVER THE INPUT: true; the input reads as it did. -/
def watchTellsSpec : ChangeSpec := { name := "watchTells", fn := fun _ => fun
  | [d1, d2, d3, d4] => { results := [.lit (.bool true)], args := [d1, d2, d3, d4] }
  | _ => none }
def watchTellsRow : OpenClaim := { program := "yteiiodlgdbiimaa", sum := "a4b7e74e74bb1ce9ef58296e0b8397aff8c8ecdb1b934e33b1fd6a6eef6f0bca", func := "inquest/inquestlaw23.WatchTells", spec := "watchTells", unfollowed := true, recurses := true, loops := true, plainKeys := false, apart := false }
def WatchTellsSaid : Prop := watchTellsRow.holds Try.pinned (OpenSpec.ofChange watchTellsSpec)

/-- ITS FALSE NEIGHBOUR: 'it returns false'. Refute it at one input. -/
def watchTellsWrong : ChangeSpec := { name := "watchTells", fn := fun _ => fun
  | [d1, d2, d3, d4] => { results := [.lit (.bool false)], args := [d1, d2, d3, d4] }
  | _ => none }
def WatchTellsWrongFalsely : Prop := watchTellsRow.holds Try.pinned (OpenSpec.ofChange watchTellsWrong)

/-- 'inquestlaw23.WatchLong': WHATEVER THE INPUT: true; the input reads as it did. -/
def watchLongSpec : ChangeSpec := { name := "watchLong", fn := fun _ => fun
  | [d1, d2, d3] => { results := [.lit (.bool true)], args := [d1, d2, d3] }
  | _ => none }
def watchLongRow : OpenClaim := { program := "yteiiodlgdbiimaa", sum := "a4b7e74e74bb1ce9ef58296e0b8397aff8c8ecdb1b934e33b1fd6a6eef6f0bca", func := "inquest/inquestlaw23.WatchLong", spec := "watchLong", unfollowed := true, recurses := true, loops := true, plainKeys := false, apart := false }
def WatchLongSaid : Prop := watchLongRow.holds Try.pinned (OpenSpec.ofChange watchLongSpec)

/-- ITS FALSE NEIGHBOUR: 'it returns false'. Refute it at one input. -/
def watchLongWrong : ChangeSpec := { name := "watchLong", fn := fun _ => fun
  | [d1, d2, d3] => { results := [.lit (.bool false)], args := [d1, d2, d3] }
  | _ => none }
def WatchLongWrongFalsely : Prop := watchLongRow.holds Try.pinned (OpenSpec.ofChange watchLongWrong)

/-- 'inquestlaw23.WatchSure': WHATEVER THE INPUT: true; the input reads as it did. -/
def watchSureSpec : ChangeSpec := { name := "watchSure", fn := fun _ => fun
  | [d1, d2, d3] => { results := [.lit (.bool true)], args := [d1, d2, d3] }
  | _ => none }
def watchSureRow : OpenClaim := { program := "yteiiodlgdbiimaa", sum := "a4b7e74e74bb1ce9ef58296e0b8397aff8c8ecdb1b934e33b1fd6a6eef6f0bca", func := "inquest/inquestlaw23.WatchSure", spec := "watchSure", unfollowed := true, recurses := true, loops := true, plainKeys := false, apart := false }
def WatchSureSaid : Prop := watchSureRow.holds Try.pinned (OpenSpec.ofChange watchSureSpec)

/-- ITS FALSE NEIGHBOUR: 'it returns false'. Refute it at one input. -/
def watchSureWrong : ChangeSpec := { name := "watchSure", fn := fun _ => fun
  | [d1, d2, d3] => { results := [.lit (.bool false)], args := [d1, d2, d3] }
  | _ => none }
def WatchSureWrongFalsely : Prop := watchSureRow.holds Try.pinned (OpenSpec.ofChange watchSureWrong)

/-- 'inquestlaw25.ExtractTells': WHATEVER THE INPUT: true; the input reads as it did. -/
def extractTellsSpec : ChangeSpec := { name := "extractTells", fn := fun _ => fun
  | [d1, d2, d3, d4] => { results := [.lit (.bool true)], args := [d1, d2, d3, d4] }
  | _ => none }
def extractTellsRow : OpenClaim := { program := "yteiiodlgdbiimaa", sum := "a4b7e74e74bb1ce9ef58296e0b8397aff8c8ecdb1b934e33b1fd6a6eef6f0bca", func := "inquest/inquestlaw25.ExtractTells", spec := "extractTells", unfollowed := true, recurses := true, plainKeys := false, apart := false }
def ExtractTellsSaid : Prop := extractTellsRow.holds Try.pinned (OpenSpec.ofChange extractTellsSpec)

/-- ITS FALSE NEIGHBOUR: 'it returns false'. Refute it at one input. -/
def extractTellsWrong : ChangeSpec := { name := "extractTells", fn := fun _ => fun
  | [d1, d2, d3, d4] => { results := [.lit (.bool false)], args := [d1, d2, d3, d4] }
  | _ => none }
def ExtractTellsWrongFalsely : Prop := extractTellsRow.holds Try.pinned (OpenSpec.ofChange extractTellsWrong)

/-- 'inquestlaw25.ExtractFails': WHATEVER THE INPUT: true; the input reads as it did. -/
def extractFailsSpec : ChangeSpec := { name := "extractFails", fn := fun _ => fun
  | [d1, d2] => { results := [.lit (.bool true)], args := [d1, d2] }
  | _ => none }
def extractFailsRow : OpenClaim := { program := "yteiiodlgdbiimaa", sum := "a4b7e74e74bb1ce9ef58296e0b8397aff8c8ecdb1b934e33b1fd6a6eef6f0bca", func := "inquest/inquestlaw25.ExtractFails", spec := "extractFails", unfollowed := true, recurses := true, plainKeys := false, apart := false }
def ExtractFailsSaid : Prop := extractFailsRow.holds Try.pinned (OpenSpec.ofChange extractFailsSpec)

/-- ITS FALSE NEIGHBOUR: 'it returns false'. Refute it at one input. -/
def extractFailsWrong : ChangeSpec := { name := "extractFails", fn := fun _ => fun
  | [d1, d2] => { results := [.lit (.bool false)], args := [d1, d2] }
  | _ => none }
def ExtractFailsWrongFalsely : Prop := extractFailsRow.holds Try.pinned (OpenSpec.ofChange extractFailsWrong)

/-- 'inquestlaw25.ExtractParts': WHATEVER THE INPUT: true; the input reads as it did. -/
def extractPartsSpec : ChangeSpec := { name := "extractParts", fn := fun _ => fun
  | [d1, d2, d3] => { results := [.lit (.bool true)], args := [d1, d2, d3] }
  | _ => none }
def extractPartsRow : OpenClaim := { program := "yteiiodlgdbiimaa", sum := "a4b7e74e74bb1ce9ef58296e0b8397aff8c8ecdb1b934e33b1fd6a6eef6f0bca", func := "inquest/inquestlaw25.ExtractParts", spec := "extractParts", unfollowed := true, recurses := true, plainKeys := false, apart := false }
def ExtractPartsSaid : Prop := extractPartsRow.holds Try.pinned (OpenSpec.ofChange extractPartsSpec)

/-- ITS FALSE NEIGHBOUR: 'it returns false'. Refute it at one input. -/
def extractPartsWrong : ChangeSpec := { name := "extractParts", fn := fun _ => fun
  | [d1, d2, d3] => { results := [.lit (.bool false)], args := [d1, d2, d3] }
  | _ => none }
def ExtractPartsWrongFalsely : Prop := extractPartsRow.holds Try.pinned (OpenSpec.ofChange extractPartsWrong)

/-- 'inquestlaw26.StuckEver': WHATEVER THE INPUT: true; the input reads as it did. -/
def stuckEverSpec : ChangeSpec := { name := "stuckEver", fn := fun _ => fun
  | [d1, d2] => { results := [.lit (.bool true)], args := [d1, d2] }
  | _ => none }
def stuckEverRow : OpenClaim := { program := "yteiiodlgdbiimaa", sum := "a4b7e74e74bb1ce9ef58296e0b8397aff8c8ecdb1b934e33b1fd6a6eef6f0bca", func := "inquest/inquestlaw26.StuckEver", spec := "stuckEver", unfollowed := true, recurses := true, plainKeys := false, apart := false }
def StuckEverSaid : Prop := stuckEverRow.holds Try.pinned (OpenSpec.ofChange stuckEverSpec)

/-- ITS FALSE NEIGHBOUR: 'it returns false'. Refute it at one input. -/
def stuckEverWrong : ChangeSpec := { name := "stuckEver", fn := fun _ => fun
  | [d1, d2] => { results := [.lit (.bool false)], args := [d1, d2] }
  | _ => none }
def StuckEverWrongFalsely : Prop := stuckEverRow.holds Try.pinned (OpenSpec.ofChange stuckEverWrong)

/-- 'inquestlaw26.StuckAgain': WHATEVER THE INPUT: true; the input reads as it did. -/
def stuckAgainSpec : ChangeSpec := { name := "stuckAgain", fn := fun _ => fun
  | [d] => { results := [.lit (.bool true)], args := [d] }
  | _ => none }
def stuckAgainRow : OpenClaim := { program := "yteiiodlgdbiimaa", sum := "a4b7e74e74bb1ce9ef58296e0b8397aff8c8ecdb1b934e33b1fd6a6eef6f0bca", func := "inquest/inquestlaw26.StuckAgain", spec := "stuckAgain", unfollowed := true, recurses := true, plainKeys := false, apart := false }
def StuckAgainSaid : Prop := stuckAgainRow.holds Try.pinned (OpenSpec.ofChange stuckAgainSpec)

/-- ITS FALSE NEIGHBOUR: 'it returns false'. Refute it at one input. -/
def stuckAgainWrong : ChangeSpec := { name := "stuckAgain", fn := fun _ => fun
  | [d] => { results := [.lit (.bool false)], args := [d] }
  | _ => none }
def StuckAgainWrongFalsely : Prop := stuckAgainRow.holds Try.pinned (OpenSpec.ofChange stuckAgainWrong)

/-- 'inquestlaw23.WatchExtends': WHATEVER THE INPUT: true; the input reads as it did. -/
def watchExtendsSpec : ChangeSpec := { name := "watchExtends", fn := fun _ => fun
  | [d1, d2, d3] => { results := [.lit (.bool true)], args := [d1, d2, d3] }
  | _ => none }
def watchExtendsRow : OpenClaim := { program := "yteiiodlgdbiimaa", sum := "a4b7e74e74bb1ce9ef58296e0b8397aff8c8ecdb1b934e33b1fd6a6eef6f0bca", func := "inquest/inquestlaw23.WatchExtends", spec := "watchExtends", unfollowed := true, recurses := true, plainKeys := false, apart := false }
def WatchExtendsSaid : Prop := watchExtendsRow.holds Try.pinned (OpenSpec.ofChange watchExtendsSpec)

/-- ITS FALSE NEIGHBOUR: 'it returns false'. Refute it at one input. -/
def watchExtendsWrong : ChangeSpec := { name := "watchExtends", fn := fun _ => fun
  | [d1, d2, d3] => { results := [.lit (.bool false)], args := [d1, d2, d3] }
  | _ => none }
def WatchExtendsWrongFalsely : Prop := watchExtendsRow.holds Try.pinned (OpenSpec.ofChange watchExtendsWrong)

/-- 'inquestlaw26.StuckTells': WHATEVER THE INPUT: true; the input reads as it did. -/
def stuckTellsSpec : ChangeSpec := { name := "stuckTells", fn := fun _ => fun
  | [d1, d2, d3] => { results := [.lit (.bool true)], args := [d1, d2, d3] }
  | _ => none }
def stuckTellsRow : OpenClaim := { program := "yteiiodlgdbiimaa", sum := "a4b7e74e74bb1ce9ef58296e0b8397aff8c8ecdb1b934e33b1fd6a6eef6f0bca", func := "inquest/inquestlaw26.StuckTells", spec := "stuckTells", unfollowed := true, recurses := true, plainKeys := false, apart := false }
def StuckTellsSaid : Prop := stuckTellsRow.holds Try.pinned (OpenSpec.ofChange stuckTellsSpec)

/-- ITS FALSE NEIGHBOUR: 'it returns false'. Refute it at one input. -/
def stuckTellsWrong : ChangeSpec := { name := "stuckTells", fn := fun _ => fun
  | [d1, d2, d3] => { results := [.lit (.bool false)], args := [d1, d2, d3] }
  | _ => none }
def StuckTellsWrongFalsely : Prop := stuckTellsRow.holds Try.pinned (OpenSpec.ofChange stuckTellsWrong)

/- THE SECOND FORM. 'bulk': how many values and letters a reading holds, each counted each time it is reached (what is shared counts as often as it is met; a slice's spare places count too). A statement '..UptoSaid' is the law's where the arguments, and the package variables that the reading takes, are together of bulk at most 1048576: NARROWER than '..Said'. Prove '..Said' where nothing that the law and all that it calls make is longer than what came in: it says more and counts as full. Else prove '..UptoSaid'. A law counts once. -/
mutual
def uptoBulk {H : Type} : DataW H → Nat
  | .lit (.string bytes) => bytes.length + 1
  | .lit _ => 1
  | .nil => 1
  | .ptr d => uptoBulk d + 1
  | .slice elems spare => uptoBulkAll elems + uptoBulkAll spare + 1
  | .agg parts => uptoBulkAll parts + 1
  | .iface _ d => uptoBulk d + 1
  | .map entries => uptoBulkEntries entries + 1
  | .held _ => 1
def uptoBulkAll {H : Type} : List (DataW H) → Nat
  | [] => 0
  | d :: r => uptoBulk d + uptoBulkAll r
def uptoBulkEntries {H : Type} : List (Lit × DataW H) → Nat
  | [] => 0
  | x :: r => uptoBulkEntry x + uptoBulkEntries r
def uptoBulkEntry {H : Type} : Lit × DataW H → Nat
  | (.string bytes, d) => bytes.length + uptoBulk d + 1
  | (_, d) => uptoBulk d + 1
 end
def uptoSmall : (H : Type) → List (DataW H) → Bool := fun _ ds => decide (uptoBulkAll ds ≤ 1048576)
def OpenSpec.upto (s : _root_.Go.ChangeSpec) : _root_.Go.OpenSpec := { _root_.Go.OpenSpec.ofChange s with cond := some uptoSmall }

/-- 'inquestlaw09.ConeGrows', WHERE WHAT IT READS IS OF BULK AT MOST 1048576: true; the input reads as it did. -/
def coneGrowsUptoRow : OpenClaim := { program := "yteiiodlgdbiimaa", sum := "a4b7e74e74bb1ce9ef58296e0b8397aff8c8ecdb1b934e33b1fd6a6eef6f0bca", func := "inquest/inquestlaw09.ConeGrows", spec := "coneGrows", unfollowed := true, recurses := true, plainKeys := false, apart := false, narrowed := true }
def ConeGrowsUptoSaid : Prop := coneGrowsUptoRow.holds Try.pinned (OpenSpec.upto coneGrowsSpec)

/-- 'inquestlaw25.ExtractKeeps', WHERE WHAT IT READS IS OF BULK AT MOST 1048576: true; the input reads as it did. -/
def extractKeepsUptoRow : OpenClaim := { program := "yteiiodlgdbiimaa", sum := "a4b7e74e74bb1ce9ef58296e0b8397aff8c8ecdb1b934e33b1fd6a6eef6f0bca", func := "inquest/inquestlaw25.ExtractKeeps", spec := "extractKeeps", unfollowed := true, recurses := true, plainKeys := false, apart := false, narrowed := true }
def ExtractKeepsUptoSaid : Prop := extractKeepsUptoRow.holds Try.pinned (OpenSpec.upto extractKeepsSpec)

/-- 'inquestlaw24.StrashTells', WHERE WHAT IT READS IS OF BULK AT MOST 1048576: true; the input reads as it did. -/
def strashTellsUptoRow : OpenClaim := { program := "yteiiodlgdbiimaa", sum := "a4b7e74e74bb1ce9ef58296e0b8397aff8c8ecdb1b934e33b1fd6a6eef6f0bca", func := "inquest/inquestlaw24.StrashTells", spec := "strashTells", unfollowed := true, recurses := true, plainKeys := false, apart := false, narrowed := true }
def StrashTellsUptoSaid : Prop := strashTellsUptoRow.holds Try.pinned (OpenSpec.upto strashTellsSpec)

/-- 'inquestlaw24.StrashRuns', WHERE WHAT IT READS IS OF BULK AT MOST 1048576: true; the input reads as it did. -/
def strashRunsUptoRow : OpenClaim := { program := "yteiiodlgdbiimaa", sum := "a4b7e74e74bb1ce9ef58296e0b8397aff8c8ecdb1b934e33b1fd6a6eef6f0bca", func := "inquest/inquestlaw24.StrashRuns", spec := "strashRuns", unfollowed := true, recurses := true, plainKeys := false, apart := false, narrowed := true }
def StrashRunsUptoSaid : Prop := strashRunsUptoRow.holds Try.pinned (OpenSpec.upto strashRunsSpec)

/-- 'inquestlaw24.StrashSmall', WHERE WHAT IT READS IS OF BULK AT MOST 1048576: true; the input reads as it did. -/
def strashSmallUptoRow : OpenClaim := { program := "yteiiodlgdbiimaa", sum := "a4b7e74e74bb1ce9ef58296e0b8397aff8c8ecdb1b934e33b1fd6a6eef6f0bca", func := "inquest/inquestlaw24.StrashSmall", spec := "strashSmall", unfollowed := true, recurses := true, plainKeys := false, apart := false, narrowed := true }
def StrashSmallUptoSaid : Prop := strashSmallUptoRow.holds Try.pinned (OpenSpec.upto strashSmallSpec)

/-- 'inquestlaw26.StuckFolds', WHERE WHAT IT READS IS OF BULK AT MOST 1048576: true; the input reads as it did. -/
def stuckFoldsUptoRow : OpenClaim := { program := "yteiiodlgdbiimaa", sum := "a4b7e74e74bb1ce9ef58296e0b8397aff8c8ecdb1b934e33b1fd6a6eef6f0bca", func := "inquest/inquestlaw26.StuckFolds", spec := "stuckFolds", unfollowed := true, recurses := true, plainKeys := false, apart := false, narrowed := true }
def StuckFoldsUptoSaid : Prop := stuckFoldsUptoRow.holds Try.pinned (OpenSpec.upto stuckFoldsSpec)

/-- 'inquestlaw24.StrashWith', WHERE WHAT IT READS IS OF BULK AT MOST 1048576: true; the input reads as it did. -/
def strashWithUptoRow : OpenClaim := { program := "yteiiodlgdbiimaa", sum := "a4b7e74e74bb1ce9ef58296e0b8397aff8c8ecdb1b934e33b1fd6a6eef6f0bca", func := "inquest/inquestlaw24.StrashWith", spec := "strashWith", unfollowed := true, recurses := true, plainKeys := false, apart := false, narrowed := true }
def StrashWithUptoSaid : Prop := strashWithUptoRow.holds Try.pinned (OpenSpec.upto strashWithSpec)

/-- 'inquestlaw24.StrashLits', WHERE WHAT IT READS IS OF BULK AT MOST 1048576: true; the input reads as it did. -/
def strashLitsUptoRow : OpenClaim := { program := "yteiiodlgdbiimaa", sum := "a4b7e74e74bb1ce9ef58296e0b8397aff8c8ecdb1b934e33b1fd6a6eef6f0bca", func := "inquest/inquestlaw24.StrashLits", spec := "strashLits", unfollowed := true, recurses := true, plainKeys := false, apart := false, narrowed := true }
def StrashLitsUptoSaid : Prop := strashLitsUptoRow.holds Try.pinned (OpenSpec.upto strashLitsSpec)

/-- 'inquestlaw09.ConeTells', WHERE WHAT IT READS IS OF BULK AT MOST 1048576: true; the input reads as it did. -/
def coneTellsUptoRow : OpenClaim := { program := "yteiiodlgdbiimaa", sum := "a4b7e74e74bb1ce9ef58296e0b8397aff8c8ecdb1b934e33b1fd6a6eef6f0bca", func := "inquest/inquestlaw09.ConeTells", spec := "coneTells", unfollowed := true, recurses := true, plainKeys := false, apart := false, narrowed := true }
def ConeTellsUptoSaid : Prop := coneTellsUptoRow.holds Try.pinned (OpenSpec.upto coneTellsSpec)

/-- 'inquestlaw09.ConeCounts', WHERE WHAT IT READS IS OF BULK AT MOST 1048576: true; the input reads as it did. -/
def coneCountsUptoRow : OpenClaim := { program := "yteiiodlgdbiimaa", sum := "a4b7e74e74bb1ce9ef58296e0b8397aff8c8ecdb1b934e33b1fd6a6eef6f0bca", func := "inquest/inquestlaw09.ConeCounts", spec := "coneCounts", unfollowed := true, recurses := true, plainKeys := false, apart := false, narrowed := true }
def ConeCountsUptoSaid : Prop := coneCountsUptoRow.holds Try.pinned (OpenSpec.upto coneCountsSpec)

/-- 'inquestlaw23.WatchTells', WHERE WHAT IT READS IS OF BULK AT MOST 1048576: true; the input reads as it did. -/
def watchTellsUptoRow : OpenClaim := { program := "yteiiodlgdbiimaa", sum := "a4b7e74e74bb1ce9ef58296e0b8397aff8c8ecdb1b934e33b1fd6a6eef6f0bca", func := "inquest/inquestlaw23.WatchTells", spec := "watchTells", unfollowed := true, recurses := true, loops := true, plainKeys := false, apart := false, narrowed := true }
def WatchTellsUptoSaid : Prop := watchTellsUptoRow.holds Try.pinned (OpenSpec.upto watchTellsSpec)

/-- 'inquestlaw23.WatchLong', WHERE WHAT IT READS IS OF BULK AT MOST 1048576: true; the input reads as it did. -/
def watchLongUptoRow : OpenClaim := { program := "yteiiodlgdbiimaa", sum := "a4b7e74e74bb1ce9ef58296e0b8397aff8c8ecdb1b934e33b1fd6a6eef6f0bca", func := "inquest/inquestlaw23.WatchLong", spec := "watchLong", unfollowed := true, recurses := true, loops := true, plainKeys := false, apart := false, narrowed := true }
def WatchLongUptoSaid : Prop := watchLongUptoRow.holds Try.pinned (OpenSpec.upto watchLongSpec)

/-- 'inquestlaw23.WatchSure', WHERE WHAT IT READS IS OF BULK AT MOST 1048576: true; the input reads as it did. -/
def watchSureUptoRow : OpenClaim := { program := "yteiiodlgdbiimaa", sum := "a4b7e74e74bb1ce9ef58296e0b8397aff8c8ecdb1b934e33b1fd6a6eef6f0bca", func := "inquest/inquestlaw23.WatchSure", spec := "watchSure", unfollowed := true, recurses := true, loops := true, plainKeys := false, apart := false, narrowed := true }
def WatchSureUptoSaid : Prop := watchSureUptoRow.holds Try.pinned (OpenSpec.upto watchSureSpec)

/-- 'inquestlaw25.ExtractTells', WHERE WHAT IT READS IS OF BULK AT MOST 1048576: true; the input reads as it did. -/
def extractTellsUptoRow : OpenClaim := { program := "yteiiodlgdbiimaa", sum := "a4b7e74e74bb1ce9ef58296e0b8397aff8c8ecdb1b934e33b1fd6a6eef6f0bca", func := "inquest/inquestlaw25.ExtractTells", spec := "extractTells", unfollowed := true, recurses := true, plainKeys := false, apart := false, narrowed := true }
def ExtractTellsUptoSaid : Prop := extractTellsUptoRow.holds Try.pinned (OpenSpec.upto extractTellsSpec)

/-- 'inquestlaw25.ExtractFails', WHERE WHAT IT READS IS OF BULK AT MOST 1048576: true; the input reads as it did. -/
def extractFailsUptoRow : OpenClaim := { program := "yteiiodlgdbiimaa", sum := "a4b7e74e74bb1ce9ef58296e0b8397aff8c8ecdb1b934e33b1fd6a6eef6f0bca", func := "inquest/inquestlaw25.ExtractFails", spec := "extractFails", unfollowed := true, recurses := true, plainKeys := false, apart := false, narrowed := true }
def ExtractFailsUptoSaid : Prop := extractFailsUptoRow.holds Try.pinned (OpenSpec.upto extractFailsSpec)

/-- 'inquestlaw25.ExtractParts', WHERE WHAT IT READS IS OF BULK AT MOST 1048576: true; the input reads as it did. -/
def extractPartsUptoRow : OpenClaim := { program := "yteiiodlgdbiimaa", sum := "a4b7e74e74bb1ce9ef58296e0b8397aff8c8ecdb1b934e33b1fd6a6eef6f0bca", func := "inquest/inquestlaw25.ExtractParts", spec := "extractParts", unfollowed := true, recurses := true, plainKeys := false, apart := false, narrowed := true }
def ExtractPartsUptoSaid : Prop := extractPartsUptoRow.holds Try.pinned (OpenSpec.upto extractPartsSpec)

/-- 'inquestlaw26.StuckEver', WHERE WHAT IT READS IS OF BULK AT MOST 1048576: true; the input reads as it did. -/
def stuckEverUptoRow : OpenClaim := { program := "yteiiodlgdbiimaa", sum := "a4b7e74e74bb1ce9ef58296e0b8397aff8c8ecdb1b934e33b1fd6a6eef6f0bca", func := "inquest/inquestlaw26.StuckEver", spec := "stuckEver", unfollowed := true, recurses := true, plainKeys := false, apart := false, narrowed := true }
def StuckEverUptoSaid : Prop := stuckEverUptoRow.holds Try.pinned (OpenSpec.upto stuckEverSpec)

/-- 'inquestlaw26.StuckAgain', WHERE WHAT IT READS IS OF BULK AT MOST 1048576: true; the input reads as it did. -/
def stuckAgainUptoRow : OpenClaim := { program := "yteiiodlgdbiimaa", sum := "a4b7e74e74bb1ce9ef58296e0b8397aff8c8ecdb1b934e33b1fd6a6eef6f0bca", func := "inquest/inquestlaw26.StuckAgain", spec := "stuckAgain", unfollowed := true, recurses := true, plainKeys := false, apart := false, narrowed := true }
def StuckAgainUptoSaid : Prop := stuckAgainUptoRow.holds Try.pinned (OpenSpec.upto stuckAgainSpec)

/-- 'inquestlaw23.WatchExtends', WHERE WHAT IT READS IS OF BULK AT MOST 1048576: true; the input reads as it did. -/
def watchExtendsUptoRow : OpenClaim := { program := "yteiiodlgdbiimaa", sum := "a4b7e74e74bb1ce9ef58296e0b8397aff8c8ecdb1b934e33b1fd6a6eef6f0bca", func := "inquest/inquestlaw23.WatchExtends", spec := "watchExtends", unfollowed := true, recurses := true, plainKeys := false, apart := false, narrowed := true }
def WatchExtendsUptoSaid : Prop := watchExtendsUptoRow.holds Try.pinned (OpenSpec.upto watchExtendsSpec)

/-- 'inquestlaw26.StuckTells', WHERE WHAT IT READS IS OF BULK AT MOST 1048576: true; the input reads as it did. -/
def stuckTellsUptoRow : OpenClaim := { program := "yteiiodlgdbiimaa", sum := "a4b7e74e74bb1ce9ef58296e0b8397aff8c8ecdb1b934e33b1fd6a6eef6f0bca", func := "inquest/inquestlaw26.StuckTells", spec := "stuckTells", unfollowed := true, recurses := true, plainKeys := false, apart := false, narrowed := true }
def StuckTellsUptoSaid : Prop := stuckTellsUptoRow.holds Try.pinned (OpenSpec.upto stuckTellsSpec)

end Rows
end Go.Proofs.Yteiiodlgdbiimaa
