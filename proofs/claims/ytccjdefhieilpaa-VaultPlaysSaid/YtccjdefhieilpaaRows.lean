/-
  No cell of these rows narrows 'for every input' (looked for: loops, veiled, ifaces, maps, wideKeys, modest, calm, conditions, laid).
  DERIVED. THE GIVEN ROWS OF THIS SEAT. 28 by the template 'for every input the law returns true; each argument reads behind the call as it read before'; 0 by the template 'total and deterministic' (their statements: YtccjdefhieilpaaTotals.lean).
  GIVEN WITH THE SEED: the statements are not yours to turn. If you find one false, say at which input.
  Laid BY PROGRAM, IN A SANDBOX (cutbox-rows.mjs): the forced cells as the released guide's own fill.sh prints them over the translation 5b0970c275b63f01… (all of the seat's roots in one cut). By AI agents, Wed Nov 11 2026. No macro, syntax, notation, axiom, sorry.
-/
import Derived.Test.YtccjdefhieilpaaChecked
import GoSem.Claim
import GoSem.ClaimJoined
import GoSem.ClaimMapViews
import Derived.JoinedTies
import Derived.KernelRfl
namespace Go.Proofs.Ytccjdefhieilpaa
/- THE CELL 'sum', in the pinned program and in every row, IS THE sha256 OF THE DUMP (.gsa) THAT YtccjdefhieilpaaProg.lean LOADS. Nothing in Lean hashes anything: it is a label: what it is worth is what the hold of that sum in a sandbox is worth. -/
noncomputable def Try.pinned : Pinned := { name := "ytccjdefhieilpaa", sum := "5b0970c275b63f01f8638f7a613d760ecb1475d284180f37d9e0e3dd5f351672", checked := Try.checked }
namespace Rows
def none {H : Type} : Left H := { results := [], args := [] }

/-- 'horariumlaw08.DiceTells': WHATEVER THE INPUT: true; the input reads as it did. -/
def diceTellsSpec : ChangeSpec := { name := "diceTells", fn := fun _ => fun
  | [d1, d2, d3] => { results := [.lit (.bool true)], args := [d1, d2, d3] }
  | _ => none }
def diceTellsRow : OpenClaim := { program := "ytccjdefhieilpaa", sum := "5b0970c275b63f01f8638f7a613d760ecb1475d284180f37d9e0e3dd5f351672", func := "horarium/horariumlaw08.DiceTells", spec := "diceTells", apart := false }
def DiceTellsSaid : Prop := diceTellsRow.holds Try.pinned (OpenSpec.ofChange diceTellsSpec)

/-- ITS FALSE NEIGHBOUR: 'it returns false'. Refute it at one input. -/
def diceTellsWrong : ChangeSpec := { name := "diceTells", fn := fun _ => fun
  | [d1, d2, d3] => { results := [.lit (.bool false)], args := [d1, d2, d3] }
  | _ => none }
def DiceTellsWrongFalsely : Prop := diceTellsRow.holds Try.pinned (OpenSpec.ofChange diceTellsWrong)

/-- 'horariumlaw08.DiceBounds': WHATEVER THE INPUT: true; the input reads as it did. -/
def diceBoundsSpec : ChangeSpec := { name := "diceBounds", fn := fun _ => fun
  | [d1, d2, d3] => { results := [.lit (.bool true)], args := [d1, d2, d3] }
  | _ => none }
def diceBoundsRow : OpenClaim := { program := "ytccjdefhieilpaa", sum := "5b0970c275b63f01f8638f7a613d760ecb1475d284180f37d9e0e3dd5f351672", func := "horarium/horariumlaw08.DiceBounds", spec := "diceBounds", apart := false }
def DiceBoundsSaid : Prop := diceBoundsRow.holds Try.pinned (OpenSpec.ofChange diceBoundsSpec)

/-- ITS FALSE NEIGHBOUR: 'it returns false'. Refute it at one input. -/
def diceBoundsWrong : ChangeSpec := { name := "diceBounds", fn := fun _ => fun
  | [d1, d2, d3] => { results := [.lit (.bool false)], args := [d1, d2, d3] }
  | _ => none }
def DiceBoundsWrongFalsely : Prop := diceBoundsRow.holds Try.pinned (OpenSpec.ofChange diceBoundsWrong)

/-- 'horariumlaw08.DiceAgain': WHATEVER THE INPUT: true; the input reads as it did. -/
def diceAgainSpec : ChangeSpec := { name := "diceAgain", fn := fun _ => fun
  | [d1, d2] => { results := [.lit (.bool true)], args := [d1, d2] }
  | _ => none }
def diceAgainRow : OpenClaim := { program := "ytccjdefhieilpaa", sum := "5b0970c275b63f01f8638f7a613d760ecb1475d284180f37d9e0e3dd5f351672", func := "horarium/horariumlaw08.DiceAgain", spec := "diceAgain", apart := false }
def DiceAgainSaid : Prop := diceAgainRow.holds Try.pinned (OpenSpec.ofChange diceAgainSpec)

/-- ITS FALSE NEIGHBOUR: 'it returns false'. Refute it at one input. -/
def diceAgainWrong : ChangeSpec := { name := "diceAgain", fn := fun _ => fun
  | [d1, d2] => { results := [.lit (.bool false)], args := [d1, d2] }
  | _ => none }
def DiceAgainWrongFalsely : Prop := diceAgainRow.holds Try.pinned (OpenSpec.ofChange diceAgainWrong)

/-- 'horariumlaw08.DiceSkips': WHATEVER THE INPUT: true; the input reads as it did. -/
def diceSkipsSpec : ChangeSpec := { name := "diceSkips", fn := fun _ => fun
  | [d1, d2, d3] => { results := [.lit (.bool true)], args := [d1, d2, d3] }
  | _ => none }
def diceSkipsRow : OpenClaim := { program := "ytccjdefhieilpaa", sum := "5b0970c275b63f01f8638f7a613d760ecb1475d284180f37d9e0e3dd5f351672", func := "horarium/horariumlaw08.DiceSkips", spec := "diceSkips", apart := false }
def DiceSkipsSaid : Prop := diceSkipsRow.holds Try.pinned (OpenSpec.ofChange diceSkipsSpec)

/-- ITS FALSE NEIGHBOUR: 'it returns false'. Refute it at one input. -/
def diceSkipsWrong : ChangeSpec := { name := "diceSkips", fn := fun _ => fun
  | [d1, d2, d3] => { results := [.lit (.bool false)], args := [d1, d2, d3] }
  | _ => none }
def DiceSkipsWrongFalsely : Prop := diceSkipsRow.holds Try.pinned (OpenSpec.ofChange diceSkipsWrong)

/-- 'horariumlaw08.DiceShuffles': WHATEVER THE INPUT: true; the input reads as it did. -/
def diceShufflesSpec : ChangeSpec := { name := "diceShuffles", fn := fun _ => fun
  | [d1, d2] => { results := [.lit (.bool true)], args := [d1, d2] }
  | _ => none }
def diceShufflesRow : OpenClaim := { program := "ytccjdefhieilpaa", sum := "5b0970c275b63f01f8638f7a613d760ecb1475d284180f37d9e0e3dd5f351672", func := "horarium/horariumlaw08.DiceShuffles", spec := "diceShuffles", unfollowed := true, recurses := true, apart := false }
def DiceShufflesSaid : Prop := diceShufflesRow.holds Try.pinned (OpenSpec.ofChange diceShufflesSpec)

/-- ITS FALSE NEIGHBOUR: 'it returns false'. Refute it at one input. -/
def diceShufflesWrong : ChangeSpec := { name := "diceShuffles", fn := fun _ => fun
  | [d1, d2] => { results := [.lit (.bool false)], args := [d1, d2] }
  | _ => none }
def DiceShufflesWrongFalsely : Prop := diceShufflesRow.holds Try.pinned (OpenSpec.ofChange diceShufflesWrong)

/-- 'horariumlaw03.OctetPuts': WHATEVER THE INPUT: true; the input reads as it did. -/
def octetPutsSpec : ChangeSpec := { name := "octetPuts", fn := fun _ => fun
  | [d1, d2, d3, d4] => { results := [.lit (.bool true)], args := [d1, d2, d3, d4] }
  | _ => none }
def octetPutsRow : OpenClaim := { program := "ytccjdefhieilpaa", sum := "5b0970c275b63f01f8638f7a613d760ecb1475d284180f37d9e0e3dd5f351672", func := "horarium/horariumlaw03.OctetPuts", spec := "octetPuts", apart := false }
def OctetPutsSaid : Prop := octetPutsRow.holds Try.pinned (OpenSpec.ofChange octetPutsSpec)

/-- ITS FALSE NEIGHBOUR: 'it returns false'. Refute it at one input. -/
def octetPutsWrong : ChangeSpec := { name := "octetPuts", fn := fun _ => fun
  | [d1, d2, d3, d4] => { results := [.lit (.bool false)], args := [d1, d2, d3, d4] }
  | _ => none }
def OctetPutsWrongFalsely : Prop := octetPutsRow.holds Try.pinned (OpenSpec.ofChange octetPutsWrong)

/-- 'horariumlaw03.OctetTakes': WHATEVER THE INPUT: true; the input reads as it did. -/
def octetTakesSpec : ChangeSpec := { name := "octetTakes", fn := fun _ => fun
  | [d1, d2] => { results := [.lit (.bool true)], args := [d1, d2] }
  | _ => none }
def octetTakesRow : OpenClaim := { program := "ytccjdefhieilpaa", sum := "5b0970c275b63f01f8638f7a613d760ecb1475d284180f37d9e0e3dd5f351672", func := "horarium/horariumlaw03.OctetTakes", spec := "octetTakes", apart := false }
def OctetTakesSaid : Prop := octetTakesRow.holds Try.pinned (OpenSpec.ofChange octetTakesSpec)

/-- ITS FALSE NEIGHBOUR: 'it returns false'. Refute it at one input. -/
def octetTakesWrong : ChangeSpec := { name := "octetTakes", fn := fun _ => fun
  | [d1, d2] => { results := [.lit (.bool false)], args := [d1, d2] }
  | _ => none }
def OctetTakesWrongFalsely : Prop := octetTakesRow.holds Try.pinned (OpenSpec.ofChange octetTakesWrong)

/-- 'horariumlaw48.VaultPrefix': WHATEVER THE INPUT: true; the input reads as it did. -/
def vaultPrefixSpec : ChangeSpec := { name := "vaultPrefix", fn := fun _ => fun
  | [d1, d2] => { results := [.lit (.bool true)], args := [d1, d2] }
  | _ => none }
def vaultPrefixRow : OpenClaim := { program := "ytccjdefhieilpaa", sum := "5b0970c275b63f01f8638f7a613d760ecb1475d284180f37d9e0e3dd5f351672", func := "horarium/horariumlaw48.VaultPrefix", spec := "vaultPrefix", apart := false }
def VaultPrefixSaid : Prop := vaultPrefixRow.holds Try.pinned (OpenSpec.ofChange vaultPrefixSpec)

/-- ITS FALSE NEIGHBOUR: 'it returns false'. Refute it at one input. -/
def vaultPrefixWrong : ChangeSpec := { name := "vaultPrefix", fn := fun _ => fun
  | [d1, d2] => { results := [.lit (.bool false)], args := [d1, d2] }
  | _ => none }
def VaultPrefixWrongFalsely : Prop := vaultPrefixRow.holds Try.pinned (OpenSpec.ofChange vaultPrefixWrong)

/-- 'horariumlaw03.OctetOnce': WHATEVER THE INPUT: true; the input reads as it did. -/
def octetOnceSpec : ChangeSpec := { name := "octetOnce", fn := fun _ => fun
  | [d1, d2] => { results := [.lit (.bool true)], args := [d1, d2] }
  | _ => none }
def octetOnceRow : OpenClaim := { program := "ytccjdefhieilpaa", sum := "5b0970c275b63f01f8638f7a613d760ecb1475d284180f37d9e0e3dd5f351672", func := "horarium/horariumlaw03.OctetOnce", spec := "octetOnce", apart := false }
def OctetOnceSaid : Prop := octetOnceRow.holds Try.pinned (OpenSpec.ofChange octetOnceSpec)

/-- ITS FALSE NEIGHBOUR: 'it returns false'. Refute it at one input. -/
def octetOnceWrong : ChangeSpec := { name := "octetOnce", fn := fun _ => fun
  | [d1, d2] => { results := [.lit (.bool false)], args := [d1, d2] }
  | _ => none }
def OctetOnceWrongFalsely : Prop := octetOnceRow.holds Try.pinned (OpenSpec.ofChange octetOnceWrong)

/-- 'horariumlaw04.SumBack': WHATEVER THE INPUT: true; the input reads as it did. -/
def sumBackSpec : ChangeSpec := { name := "sumBack", fn := fun _ => fun
  | [d1, d2] => { results := [.lit (.bool true)], args := [d1, d2] }
  | _ => none }
def sumBackRow : OpenClaim := { program := "ytccjdefhieilpaa", sum := "5b0970c275b63f01f8638f7a613d760ecb1475d284180f37d9e0e3dd5f351672", func := "horarium/horariumlaw04.SumBack", spec := "sumBack", apart := false }
def SumBackSaid : Prop := sumBackRow.holds Try.pinned (OpenSpec.ofChange sumBackSpec)

/-- ITS FALSE NEIGHBOUR: 'it returns false'. Refute it at one input. -/
def sumBackWrong : ChangeSpec := { name := "sumBack", fn := fun _ => fun
  | [d1, d2] => { results := [.lit (.bool false)], args := [d1, d2] }
  | _ => none }
def SumBackWrongFalsely : Prop := sumBackRow.holds Try.pinned (OpenSpec.ofChange sumBackWrong)

/-- 'horariumlaw48.VaultDevice': WHATEVER THE INPUT: true; the input reads as it did. -/
def vaultDeviceSpec : ChangeSpec := { name := "vaultDevice", fn := fun _ => fun
  | [d1, d2] => { results := [.lit (.bool true)], args := [d1, d2] }
  | _ => none }
def vaultDeviceRow : OpenClaim := { program := "ytccjdefhieilpaa", sum := "5b0970c275b63f01f8638f7a613d760ecb1475d284180f37d9e0e3dd5f351672", func := "horarium/horariumlaw48.VaultDevice", spec := "vaultDevice", apart := false }
def VaultDeviceSaid : Prop := vaultDeviceRow.holds Try.pinned (OpenSpec.ofChange vaultDeviceSpec)

/-- ITS FALSE NEIGHBOUR: 'it returns false'. Refute it at one input. -/
def vaultDeviceWrong : ChangeSpec := { name := "vaultDevice", fn := fun _ => fun
  | [d1, d2] => { results := [.lit (.bool false)], args := [d1, d2] }
  | _ => none }
def VaultDeviceWrongFalsely : Prop := vaultDeviceRow.holds Try.pinned (OpenSpec.ofChange vaultDeviceWrong)

/-- 'horariumlaw04.SumCrcs': WHATEVER THE INPUT: true; the input reads as it did. -/
def sumCrcsSpec : ChangeSpec := { name := "sumCrcs", fn := fun _ => fun
  | [d1, d2] => { results := [.lit (.bool true)], args := [d1, d2] }
  | _ => none }
def sumCrcsRow : OpenClaim := { program := "ytccjdefhieilpaa", sum := "5b0970c275b63f01f8638f7a613d760ecb1475d284180f37d9e0e3dd5f351672", func := "horarium/horariumlaw04.SumCrcs", spec := "sumCrcs", apart := false }
def SumCrcsSaid : Prop := sumCrcsRow.holds Try.pinned (OpenSpec.ofChange sumCrcsSpec)

/-- ITS FALSE NEIGHBOUR: 'it returns false'. Refute it at one input. -/
def sumCrcsWrong : ChangeSpec := { name := "sumCrcs", fn := fun _ => fun
  | [d1, d2] => { results := [.lit (.bool false)], args := [d1, d2] }
  | _ => none }
def SumCrcsWrongFalsely : Prop := sumCrcsRow.holds Try.pinned (OpenSpec.ofChange sumCrcsWrong)

/-- 'horariumlaw04.SumSeals': WHATEVER THE INPUT: true; the input reads as it did. -/
def sumSealsSpec : ChangeSpec := { name := "sumSeals", fn := fun _ => fun
  | [d] => { results := [.lit (.bool true)], args := [d] }
  | _ => none }
def sumSealsRow : OpenClaim := { program := "ytccjdefhieilpaa", sum := "5b0970c275b63f01f8638f7a613d760ecb1475d284180f37d9e0e3dd5f351672", func := "horarium/horariumlaw04.SumSeals", spec := "sumSeals", apart := false }
def SumSealsSaid : Prop := sumSealsRow.holds Try.pinned (OpenSpec.ofChange sumSealsSpec)

/-- ITS FALSE NEIGHBOUR: 'it returns false'. Refute it at one input. -/
def sumSealsWrong : ChangeSpec := { name := "sumSeals", fn := fun _ => fun
  | [d] => { results := [.lit (.bool false)], args := [d] }
  | _ => none }
def SumSealsWrongFalsely : Prop := sumSealsRow.holds Try.pinned (OpenSpec.ofChange sumSealsWrong)

/-- 'horariumlaw04.SumStirs': WHATEVER THE INPUT: true; the input reads as it did. -/
def sumStirsSpec : ChangeSpec := { name := "sumStirs", fn := fun _ => fun
  | [d1, d2] => { results := [.lit (.bool true)], args := [d1, d2] }
  | _ => none }
def sumStirsRow : OpenClaim := { program := "ytccjdefhieilpaa", sum := "5b0970c275b63f01f8638f7a613d760ecb1475d284180f37d9e0e3dd5f351672", func := "horarium/horariumlaw04.SumStirs", spec := "sumStirs", apart := false }
def SumStirsSaid : Prop := sumStirsRow.holds Try.pinned (OpenSpec.ofChange sumStirsSpec)

/-- ITS FALSE NEIGHBOUR: 'it returns false'. Refute it at one input. -/
def sumStirsWrong : ChangeSpec := { name := "sumStirs", fn := fun _ => fun
  | [d1, d2] => { results := [.lit (.bool false)], args := [d1, d2] }
  | _ => none }
def SumStirsWrongFalsely : Prop := sumStirsRow.holds Try.pinned (OpenSpec.ofChange sumStirsWrong)

/-- 'horariumlaw04.SumBurst': WHATEVER THE INPUT: true; the input reads as it did. -/
def sumBurstSpec : ChangeSpec := { name := "sumBurst", fn := fun _ => fun
  | [d1, d2, d3] => { results := [.lit (.bool true)], args := [d1, d2, d3] }
  | _ => none }
def sumBurstRow : OpenClaim := { program := "ytccjdefhieilpaa", sum := "5b0970c275b63f01f8638f7a613d760ecb1475d284180f37d9e0e3dd5f351672", func := "horarium/horariumlaw04.SumBurst", spec := "sumBurst", apart := false }
def SumBurstSaid : Prop := sumBurstRow.holds Try.pinned (OpenSpec.ofChange sumBurstSpec)

/-- ITS FALSE NEIGHBOUR: 'it returns false'. Refute it at one input. -/
def sumBurstWrong : ChangeSpec := { name := "sumBurst", fn := fun _ => fun
  | [d1, d2, d3] => { results := [.lit (.bool false)], args := [d1, d2, d3] }
  | _ => none }
def SumBurstWrongFalsely : Prop := sumBurstRow.holds Try.pinned (OpenSpec.ofChange sumBurstWrong)

/-- 'horariumlaw04.SumCuts': WHATEVER THE INPUT: true; the input reads as it did. -/
def sumCutsSpec : ChangeSpec := { name := "sumCuts", fn := fun _ => fun
  | [d1, d2] => { results := [.lit (.bool true)], args := [d1, d2] }
  | _ => none }
def sumCutsRow : OpenClaim := { program := "ytccjdefhieilpaa", sum := "5b0970c275b63f01f8638f7a613d760ecb1475d284180f37d9e0e3dd5f351672", func := "horarium/horariumlaw04.SumCuts", spec := "sumCuts", apart := false }
def SumCutsSaid : Prop := sumCutsRow.holds Try.pinned (OpenSpec.ofChange sumCutsSpec)

/-- ITS FALSE NEIGHBOUR: 'it returns false'. Refute it at one input. -/
def sumCutsWrong : ChangeSpec := { name := "sumCuts", fn := fun _ => fun
  | [d1, d2] => { results := [.lit (.bool false)], args := [d1, d2] }
  | _ => none }
def SumCutsWrongFalsely : Prop := sumCutsRow.holds Try.pinned (OpenSpec.ofChange sumCutsWrong)

/-- 'horariumlaw03.OctetBack': WHATEVER THE INPUT: true; the input reads as it did. -/
def octetBackSpec : ChangeSpec := { name := "octetBack", fn := fun _ => fun
  | [d1, d2, d3, d4, d5] => { results := [.lit (.bool true)], args := [d1, d2, d3, d4, d5] }
  | _ => none }
def octetBackRow : OpenClaim := { program := "ytccjdefhieilpaa", sum := "5b0970c275b63f01f8638f7a613d760ecb1475d284180f37d9e0e3dd5f351672", func := "horarium/horariumlaw03.OctetBack", spec := "octetBack", unfollowed := true, recurses := true, apart := false }
def OctetBackSaid : Prop := octetBackRow.holds Try.pinned (OpenSpec.ofChange octetBackSpec)

/-- ITS FALSE NEIGHBOUR: 'it returns false'. Refute it at one input. -/
def octetBackWrong : ChangeSpec := { name := "octetBack", fn := fun _ => fun
  | [d1, d2, d3, d4, d5] => { results := [.lit (.bool false)], args := [d1, d2, d3, d4, d5] }
  | _ => none }
def OctetBackWrongFalsely : Prop := octetBackRow.holds Try.pinned (OpenSpec.ofChange octetBackWrong)

/-- 'horariumlaw03.OctetReads': WHATEVER THE INPUT: true; the input reads as it did. -/
def octetReadsSpec : ChangeSpec := { name := "octetReads", fn := fun _ => fun
  | [d1, d2, d3] => { results := [.lit (.bool true)], args := [d1, d2, d3] }
  | _ => none }
def octetReadsRow : OpenClaim := { program := "ytccjdefhieilpaa", sum := "5b0970c275b63f01f8638f7a613d760ecb1475d284180f37d9e0e3dd5f351672", func := "horarium/horariumlaw03.OctetReads", spec := "octetReads", apart := false }
def OctetReadsSaid : Prop := octetReadsRow.holds Try.pinned (OpenSpec.ofChange octetReadsSpec)

/-- ITS FALSE NEIGHBOUR: 'it returns false'. Refute it at one input. -/
def octetReadsWrong : ChangeSpec := { name := "octetReads", fn := fun _ => fun
  | [d1, d2, d3] => { results := [.lit (.bool false)], args := [d1, d2, d3] }
  | _ => none }
def OctetReadsWrongFalsely : Prop := octetReadsRow.holds Try.pinned (OpenSpec.ofChange octetReadsWrong)

/-- 'horariumlaw03.OctetCut': WHATEVER THE INPUT: true; the input reads as it did. -/
def octetCutSpec : ChangeSpec := { name := "octetCut", fn := fun _ => fun
  | [d1, d2, d3] => { results := [.lit (.bool true)], args := [d1, d2, d3] }
  | _ => none }
def octetCutRow : OpenClaim := { program := "ytccjdefhieilpaa", sum := "5b0970c275b63f01f8638f7a613d760ecb1475d284180f37d9e0e3dd5f351672", func := "horarium/horariumlaw03.OctetCut", spec := "octetCut", apart := false }
def OctetCutSaid : Prop := octetCutRow.holds Try.pinned (OpenSpec.ofChange octetCutSpec)

/-- ITS FALSE NEIGHBOUR: 'it returns false'. Refute it at one input. -/
def octetCutWrong : ChangeSpec := { name := "octetCut", fn := fun _ => fun
  | [d1, d2, d3] => { results := [.lit (.bool false)], args := [d1, d2, d3] }
  | _ => none }
def OctetCutWrongFalsely : Prop := octetCutRow.holds Try.pinned (OpenSpec.ofChange octetCutWrong)

/-- 'horariumlaw47.LogPrefix': WHATEVER THE INPUT: true; the input reads as it did. -/
def logPrefixSpec : ChangeSpec := { name := "logPrefix", fn := fun _ => fun
  | [d1, d2, d3] => { results := [.lit (.bool true)], args := [d1, d2, d3] }
  | _ => none }
def logPrefixRow : OpenClaim := { program := "ytccjdefhieilpaa", sum := "5b0970c275b63f01f8638f7a613d760ecb1475d284180f37d9e0e3dd5f351672", func := "horarium/horariumlaw47.LogPrefix", spec := "logPrefix", apart := false }
def LogPrefixSaid : Prop := logPrefixRow.holds Try.pinned (OpenSpec.ofChange logPrefixSpec)

/-- ITS FALSE NEIGHBOUR: 'it returns false'. Refute it at one input. -/
def logPrefixWrong : ChangeSpec := { name := "logPrefix", fn := fun _ => fun
  | [d1, d2, d3] => { results := [.lit (.bool false)], args := [d1, d2, d3] }
  | _ => none }
def LogPrefixWrongFalsely : Prop := logPrefixRow.holds Try.pinned (OpenSpec.ofChange logPrefixWrong)

/-- 'horariumlaw47.LogNext': WHATEVER THE INPUT: true; the input reads as it did. -/
def logNextSpec : ChangeSpec := { name := "logNext", fn := fun _ => fun
  | [d1, d2] => { results := [.lit (.bool true)], args := [d1, d2] }
  | _ => none }
def logNextRow : OpenClaim := { program := "ytccjdefhieilpaa", sum := "5b0970c275b63f01f8638f7a613d760ecb1475d284180f37d9e0e3dd5f351672", func := "horarium/horariumlaw47.LogNext", spec := "logNext", apart := false }
def LogNextSaid : Prop := logNextRow.holds Try.pinned (OpenSpec.ofChange logNextSpec)

/-- ITS FALSE NEIGHBOUR: 'it returns false'. Refute it at one input. -/
def logNextWrong : ChangeSpec := { name := "logNext", fn := fun _ => fun
  | [d1, d2] => { results := [.lit (.bool false)], args := [d1, d2] }
  | _ => none }
def LogNextWrongFalsely : Prop := logNextRow.holds Try.pinned (OpenSpec.ofChange logNextWrong)

/-- 'horariumlaw47.LogReads': WHATEVER THE INPUT: true; the input reads as it did. -/
def logReadsSpec : ChangeSpec := { name := "logReads", fn := fun _ => fun
  | [d] => { results := [.lit (.bool true)], args := [d] }
  | _ => none }
def logReadsRow : OpenClaim := { program := "ytccjdefhieilpaa", sum := "5b0970c275b63f01f8638f7a613d760ecb1475d284180f37d9e0e3dd5f351672", func := "horarium/horariumlaw47.LogReads", spec := "logReads", apart := false }
def LogReadsSaid : Prop := logReadsRow.holds Try.pinned (OpenSpec.ofChange logReadsSpec)

/-- ITS FALSE NEIGHBOUR: 'it returns false'. Refute it at one input. -/
def logReadsWrong : ChangeSpec := { name := "logReads", fn := fun _ => fun
  | [d] => { results := [.lit (.bool false)], args := [d] }
  | _ => none }
def LogReadsWrongFalsely : Prop := logReadsRow.holds Try.pinned (OpenSpec.ofChange logReadsWrong)

/-- 'horariumlaw47.LogTurned': WHATEVER THE INPUT: true; the input reads as it did. -/
def logTurnedSpec : ChangeSpec := { name := "logTurned", fn := fun _ => fun
  | [d1, d2, d3] => { results := [.lit (.bool true)], args := [d1, d2, d3] }
  | _ => none }
def logTurnedRow : OpenClaim := { program := "ytccjdefhieilpaa", sum := "5b0970c275b63f01f8638f7a613d760ecb1475d284180f37d9e0e3dd5f351672", func := "horarium/horariumlaw47.LogTurned", spec := "logTurned", apart := false }
def LogTurnedSaid : Prop := logTurnedRow.holds Try.pinned (OpenSpec.ofChange logTurnedSpec)

/-- ITS FALSE NEIGHBOUR: 'it returns false'. Refute it at one input. -/
def logTurnedWrong : ChangeSpec := { name := "logTurned", fn := fun _ => fun
  | [d1, d2, d3] => { results := [.lit (.bool false)], args := [d1, d2, d3] }
  | _ => none }
def LogTurnedWrongFalsely : Prop := logTurnedRow.holds Try.pinned (OpenSpec.ofChange logTurnedWrong)

/-- 'horariumlaw47.LogJoins': WHATEVER THE INPUT: true; the input reads as it did. -/
def logJoinsSpec : ChangeSpec := { name := "logJoins", fn := fun _ => fun
  | [d1, d2] => { results := [.lit (.bool true)], args := [d1, d2] }
  | _ => none }
def logJoinsRow : OpenClaim := { program := "ytccjdefhieilpaa", sum := "5b0970c275b63f01f8638f7a613d760ecb1475d284180f37d9e0e3dd5f351672", func := "horarium/horariumlaw47.LogJoins", spec := "logJoins", apart := false }
def LogJoinsSaid : Prop := logJoinsRow.holds Try.pinned (OpenSpec.ofChange logJoinsSpec)

/-- ITS FALSE NEIGHBOUR: 'it returns false'. Refute it at one input. -/
def logJoinsWrong : ChangeSpec := { name := "logJoins", fn := fun _ => fun
  | [d1, d2] => { results := [.lit (.bool false)], args := [d1, d2] }
  | _ => none }
def LogJoinsWrongFalsely : Prop := logJoinsRow.holds Try.pinned (OpenSpec.ofChange logJoinsWrong)

/-- 'horariumlaw47.LogFrames': WHATEVER THE INPUT: true; the input reads as it did. -/
def logFramesSpec : ChangeSpec := { name := "logFrames", fn := fun _ => fun
  | [d1, d2] => { results := [.lit (.bool true)], args := [d1, d2] }
  | _ => none }
def logFramesRow : OpenClaim := { program := "ytccjdefhieilpaa", sum := "5b0970c275b63f01f8638f7a613d760ecb1475d284180f37d9e0e3dd5f351672", func := "horarium/horariumlaw47.LogFrames", spec := "logFrames", unfollowed := true, recurses := true, apart := false }
def LogFramesSaid : Prop := logFramesRow.holds Try.pinned (OpenSpec.ofChange logFramesSpec)

/-- ITS FALSE NEIGHBOUR: 'it returns false'. Refute it at one input. -/
def logFramesWrong : ChangeSpec := { name := "logFrames", fn := fun _ => fun
  | [d1, d2] => { results := [.lit (.bool false)], args := [d1, d2] }
  | _ => none }
def LogFramesWrongFalsely : Prop := logFramesRow.holds Try.pinned (OpenSpec.ofChange logFramesWrong)

/-- 'horariumlaw48.VaultOpens': WHATEVER THE INPUT: true; the input reads as it did. -/
def vaultOpensSpec : ChangeSpec := { name := "vaultOpens", fn := fun _ => fun
  | [d1, d2] => { results := [.lit (.bool true)], args := [d1, d2] }
  | _ => none }
def vaultOpensRow : OpenClaim := { program := "ytccjdefhieilpaa", sum := "5b0970c275b63f01f8638f7a613d760ecb1475d284180f37d9e0e3dd5f351672", func := "horarium/horariumlaw48.VaultOpens", spec := "vaultOpens", apart := false }
def VaultOpensSaid : Prop := vaultOpensRow.holds Try.pinned (OpenSpec.ofChange vaultOpensSpec)

/-- ITS FALSE NEIGHBOUR: 'it returns false'. Refute it at one input. -/
def vaultOpensWrong : ChangeSpec := { name := "vaultOpens", fn := fun _ => fun
  | [d1, d2] => { results := [.lit (.bool false)], args := [d1, d2] }
  | _ => none }
def VaultOpensWrongFalsely : Prop := vaultOpensRow.holds Try.pinned (OpenSpec.ofChange vaultOpensWrong)

/-- 'horariumlaw48.VaultAgain': WHATEVER THE INPUT: true; the input reads as it did. -/
def vaultAgainSpec : ChangeSpec := { name := "vaultAgain", fn := fun _ => fun
  | [d1, d2, d3] => { results := [.lit (.bool true)], args := [d1, d2, d3] }
  | _ => none }
def vaultAgainRow : OpenClaim := { program := "ytccjdefhieilpaa", sum := "5b0970c275b63f01f8638f7a613d760ecb1475d284180f37d9e0e3dd5f351672", func := "horarium/horariumlaw48.VaultAgain", spec := "vaultAgain", apart := false }
def VaultAgainSaid : Prop := vaultAgainRow.holds Try.pinned (OpenSpec.ofChange vaultAgainSpec)

/-- ITS FALSE NEIGHBOUR: 'it returns false'. Refute it at one input. -/
def vaultAgainWrong : ChangeSpec := { name := "vaultAgain", fn := fun _ => fun
  | [d1, d2, d3] => { results := [.lit (.bool false)], args := [d1, d2, d3] }
  | _ => none }
def VaultAgainWrongFalsely : Prop := vaultAgainRow.holds Try.pinned (OpenSpec.ofChange vaultAgainWrong)

/-- 'horariumlaw48.VaultPlays': WHATEVER THE INPUT: true; the input reads as it did. -/
def vaultPlaysSpec : ChangeSpec := { name := "vaultPlays", fn := fun _ => fun
  | [d1, d2] => { results := [.lit (.bool true)], args := [d1, d2] }
  | _ => none }
def vaultPlaysRow : OpenClaim := { program := "ytccjdefhieilpaa", sum := "5b0970c275b63f01f8638f7a613d760ecb1475d284180f37d9e0e3dd5f351672", func := "horarium/horariumlaw48.VaultPlays", spec := "vaultPlays", apart := false }
def VaultPlaysSaid : Prop := vaultPlaysRow.holds Try.pinned (OpenSpec.ofChange vaultPlaysSpec)

/-- ITS FALSE NEIGHBOUR: 'it returns false'. Refute it at one input. -/
def vaultPlaysWrong : ChangeSpec := { name := "vaultPlays", fn := fun _ => fun
  | [d1, d2] => { results := [.lit (.bool false)], args := [d1, d2] }
  | _ => none }
def VaultPlaysWrongFalsely : Prop := vaultPlaysRow.holds Try.pinned (OpenSpec.ofChange vaultPlaysWrong)

/- THE SECOND FORM. 'bulk': how many values and letters a reading holds, each counted each time it is reached (what is shared counts as often as it is met; a slice's spare places count too). A statement '..UptoSaid' is the law's where the arguments, and the package variables that the reading takes, are together of bulk at most 1048576: NARROWER than '..Said'. Prove '..Said' where nothing that the law and all that it calls make is longer than what came in: it says more and counts as full. Else prove '..UptoSaid'. A law counts once. -/
mutual
def uptoBulk {H : Type} : DataW H → Nat
  | .lit (.string bytes) => bytes.length + 1
  | .lit _ => 1
  | .nil => 1
  | .ptr d => uptoBulk d + 1
  | .slice elems spare => uptoBulkAll elems + uptoBulkAll spare + 1
  | .agg parts => uptoBulkAll parts + 1
  | .iface _ d => uptoBulk d + 1
  | .map entries => uptoBulkEntries entries + 1
  | .held _ => 1
def uptoBulkAll {H : Type} : List (DataW H) → Nat
  | [] => 0
  | d :: r => uptoBulk d + uptoBulkAll r
def uptoBulkEntries {H : Type} : List (Lit × DataW H) → Nat
  | [] => 0
  | x :: r => uptoBulkEntry x + uptoBulkEntries r
def uptoBulkEntry {H : Type} : Lit × DataW H → Nat
  | (.string bytes, d) => bytes.length + uptoBulk d + 1
  | (_, d) => uptoBulk d + 1
 end
def uptoSmall : (H : Type) → List (DataW H) → Bool := fun _ ds => decide (uptoBulkAll ds ≤ 1048576)
def OpenSpec.upto (s : _root_.Go.ChangeSpec) : _root_.Go.OpenSpec := { _root_.Go.OpenSpec.ofChange s with cond := some uptoSmall }

/-- 'horariumlaw08.DiceTells', WHERE WHAT IT READS IS OF BULK AT MOST 1048576: true; the input reads as it did. -/
def diceTellsUptoRow : OpenClaim := { program := "ytccjdefhieilpaa", sum := "5b0970c275b63f01f8638f7a613d760ecb1475d284180f37d9e0e3dd5f351672", func := "horarium/horariumlaw08.DiceTells", spec := "diceTells", apart := false, narrowed := true }
def DiceTellsUptoSaid : Prop := diceTellsUptoRow.holds Try.pinned (OpenSpec.upto diceTellsSpec)

/-- 'horariumlaw08.DiceBounds', WHERE WHAT IT READS IS OF BULK AT MOST 1048576: true; the input reads as it did. -/
def diceBoundsUptoRow : OpenClaim := { program := "ytccjdefhieilpaa", sum := "5b0970c275b63f01f8638f7a613d760ecb1475d284180f37d9e0e3dd5f351672", func := "horarium/horariumlaw08.DiceBounds", spec := "diceBounds", apart := false, narrowed := true }
def DiceBoundsUptoSaid : Prop := diceBoundsUptoRow.holds Try.pinned (OpenSpec.upto diceBoundsSpec)

/-- 'horariumlaw08.DiceAgain', WHERE WHAT IT READS IS OF BULK AT MOST 1048576: true; the input reads as it did. -/
def diceAgainUptoRow : OpenClaim := { program := "ytccjdefhieilpaa", sum := "5b0970c275b63f01f8638f7a613d760ecb1475d284180f37d9e0e3dd5f351672", func := "horarium/horariumlaw08.DiceAgain", spec := "diceAgain", apart := false, narrowed := true }
def DiceAgainUptoSaid : Prop := diceAgainUptoRow.holds Try.pinned (OpenSpec.upto diceAgainSpec)

/-- 'horariumlaw08.DiceSkips', WHERE WHAT IT READS IS OF BULK AT MOST 1048576: true; the input reads as it did. -/
def diceSkipsUptoRow : OpenClaim := { program := "ytccjdefhieilpaa", sum := "5b0970c275b63f01f8638f7a613d760ecb1475d284180f37d9e0e3dd5f351672", func := "horarium/horariumlaw08.DiceSkips", spec := "diceSkips", apart := false, narrowed := true }
def DiceSkipsUptoSaid : Prop := diceSkipsUptoRow.holds Try.pinned (OpenSpec.upto diceSkipsSpec)

/-- 'horariumlaw08.DiceShuffles', WHERE WHAT IT READS IS OF BULK AT MOST 1048576: true; the input reads as it did. -/
def diceShufflesUptoRow : OpenClaim := { program := "ytccjdefhieilpaa", sum := "5b0970c275b63f01f8638f7a613d760ecb1475d284180f37d9e0e3dd5f351672", func := "horarium/horariumlaw08.DiceShuffles", spec := "diceShuffles", unfollowed := true, recurses := true, apart := false, narrowed := true }
def DiceShufflesUptoSaid : Prop := diceShufflesUptoRow.holds Try.pinned (OpenSpec.upto diceShufflesSpec)

/-- 'horariumlaw03.OctetPuts', WHERE WHAT IT READS IS OF BULK AT MOST 1048576: true; the input reads as it did. -/
def octetPutsUptoRow : OpenClaim := { program := "ytccjdefhieilpaa", sum := "5b0970c275b63f01f8638f7a613d760ecb1475d284180f37d9e0e3dd5f351672", func := "horarium/horariumlaw03.OctetPuts", spec := "octetPuts", apart := false, narrowed := true }
def OctetPutsUptoSaid : Prop := octetPutsUptoRow.holds Try.pinned (OpenSpec.upto octetPutsSpec)

/-- 'horariumlaw03.OctetTakes', WHERE WHAT IT READS IS OF BULK AT MOST 1048576: true; the input reads as it did. -/
def octetTakesUptoRow : OpenClaim := { program := "ytccjdefhieilpaa", sum := "5b0970c275b63f01f8638f7a613d760ecb1475d284180f37d9e0e3dd5f351672", func := "horarium/horariumlaw03.OctetTakes", spec := "octetTakes", apart := false, narrowed := true }
def OctetTakesUptoSaid : Prop := octetTakesUptoRow.holds Try.pinned (OpenSpec.upto octetTakesSpec)

/-- 'horariumlaw48.VaultPrefix', WHERE WHAT IT READS IS OF BULK AT MOST 1048576: true; the input reads as it did. -/
def vaultPrefixUptoRow : OpenClaim := { program := "ytccjdefhieilpaa", sum := "5b0970c275b63f01f8638f7a613d760ecb1475d284180f37d9e0e3dd5f351672", func := "horarium/horariumlaw48.VaultPrefix", spec := "vaultPrefix", apart := false, narrowed := true }
def VaultPrefixUptoSaid : Prop := vaultPrefixUptoRow.holds Try.pinned (OpenSpec.upto vaultPrefixSpec)

/-- 'horariumlaw03.OctetOnce', WHERE WHAT IT READS IS OF BULK AT MOST 1048576: true; the input reads as it did. -/
def octetOnceUptoRow : OpenClaim := { program := "ytccjdefhieilpaa", sum := "5b0970c275b63f01f8638f7a613d760ecb1475d284180f37d9e0e3dd5f351672", func := "horarium/horariumlaw03.OctetOnce", spec := "octetOnce", apart := false, narrowed := true }
def OctetOnceUptoSaid : Prop := octetOnceUptoRow.holds Try.pinned (OpenSpec.upto octetOnceSpec)

/-- 'horariumlaw04.SumBack', WHERE WHAT IT READS IS OF BULK AT MOST 1048576: true; the input reads as it did. -/
def sumBackUptoRow : OpenClaim := { program := "ytccjdefhieilpaa", sum := "5b0970c275b63f01f8638f7a613d760ecb1475d284180f37d9e0e3dd5f351672", func := "horarium/horariumlaw04.SumBack", spec := "sumBack", apart := false, narrowed := true }
def SumBackUptoSaid : Prop := sumBackUptoRow.holds Try.pinned (OpenSpec.upto sumBackSpec)

/-- 'horariumlaw48.VaultDevice', WHERE WHAT IT READS IS OF BULK AT MOST 1048576: true; the input reads as it did. -/
def vaultDeviceUptoRow : OpenClaim := { program := "ytccjdefhieilpaa", sum := "5b0970c275b63f01f8638f7a613d760ecb1475d284180f37d9e0e3dd5f351672", func := "horarium/horariumlaw48.VaultDevice", spec := "vaultDevice", apart := false, narrowed := true }
def VaultDeviceUptoSaid : Prop := vaultDeviceUptoRow.holds Try.pinned (OpenSpec.upto vaultDeviceSpec)

/-- 'horariumlaw04.SumCrcs', WHERE WHAT IT READS IS OF BULK AT MOST 1048576: true; the input reads as it did. -/
def sumCrcsUptoRow : OpenClaim := { program := "ytccjdefhieilpaa", sum := "5b0970c275b63f01f8638f7a613d760ecb1475d284180f37d9e0e3dd5f351672", func := "horarium/horariumlaw04.SumCrcs", spec := "sumCrcs", apart := false, narrowed := true }
def SumCrcsUptoSaid : Prop := sumCrcsUptoRow.holds Try.pinned (OpenSpec.upto sumCrcsSpec)

/-- 'horariumlaw04.SumSeals', WHERE WHAT IT READS IS OF BULK AT MOST 1048576: true; the input reads as it did. -/
def sumSealsUptoRow : OpenClaim := { program := "ytccjdefhieilpaa", sum := "5b0970c275b63f01f8638f7a613d760ecb1475d284180f37d9e0e3dd5f351672", func := "horarium/horariumlaw04.SumSeals", spec := "sumSeals", apart := false, narrowed := true }
def SumSealsUptoSaid : Prop := sumSealsUptoRow.holds Try.pinned (OpenSpec.upto sumSealsSpec)

/-- 'horariumlaw04.SumStirs', WHERE WHAT IT READS IS OF BULK AT MOST 1048576: true; the input reads as it did. -/
def sumStirsUptoRow : OpenClaim := { program := "ytccjdefhieilpaa", sum := "5b0970c275b63f01f8638f7a613d760ecb1475d284180f37d9e0e3dd5f351672", func := "horarium/horariumlaw04.SumStirs", spec := "sumStirs", apart := false, narrowed := true }
def SumStirsUptoSaid : Prop := sumStirsUptoRow.holds Try.pinned (OpenSpec.upto sumStirsSpec)

/-- 'horariumlaw04.SumBurst', WHERE WHAT IT READS IS OF BULK AT MOST 1048576: true; the input reads as it did. -/
def sumBurstUptoRow : OpenClaim := { program := "ytccjdefhieilpaa", sum := "5b0970c275b63f01f8638f7a613d760ecb1475d284180f37d9e0e3dd5f351672", func := "horarium/horariumlaw04.SumBurst", spec := "sumBurst", apart := false, narrowed := true }
def SumBurstUptoSaid : Prop := sumBurstUptoRow.holds Try.pinned (OpenSpec.upto sumBurstSpec)

/-- 'horariumlaw04.SumCuts', WHERE WHAT IT READS IS OF BULK AT MOST 1048576: true; the input reads as it did. -/
def sumCutsUptoRow : OpenClaim := { program := "ytccjdefhieilpaa", sum := "5b0970c275b63f01f8638f7a613d760ecb1475d284180f37d9e0e3dd5f351672", func := "horarium/horariumlaw04.SumCuts", spec := "sumCuts", apart := false, narrowed := true }
def SumCutsUptoSaid : Prop := sumCutsUptoRow.holds Try.pinned (OpenSpec.upto sumCutsSpec)

/-- 'horariumlaw03.OctetBack', WHERE WHAT IT READS IS OF BULK AT MOST 1048576: true; the input reads as it did. -/
def octetBackUptoRow : OpenClaim := { program := "ytccjdefhieilpaa", sum := "5b0970c275b63f01f8638f7a613d760ecb1475d284180f37d9e0e3dd5f351672", func := "horarium/horariumlaw03.OctetBack", spec := "octetBack", unfollowed := true, recurses := true, apart := false, narrowed := true }
def OctetBackUptoSaid : Prop := octetBackUptoRow.holds Try.pinned (OpenSpec.upto octetBackSpec)

/-- 'horariumlaw03.OctetReads', WHERE WHAT IT READS IS OF BULK AT MOST 1048576: true; the input reads as it did. -/
def octetReadsUptoRow : OpenClaim := { program := "ytccjdefhieilpaa", sum := "5b0970c275b63f01f8638f7a613d760ecb1475d284180f37d9e0e3dd5f351672", func := "horarium/horariumlaw03.OctetReads", spec := "octetReads", apart := false, narrowed := true }
def OctetReadsUptoSaid : Prop := octetReadsUptoRow.holds Try.pinned (OpenSpec.upto octetReadsSpec)

/-- 'horariumlaw03.OctetCut', WHERE WHAT IT READS IS OF BULK AT MOST 1048576: true; the input reads as it did. -/
def octetCutUptoRow : OpenClaim := { program := "ytccjdefhieilpaa", sum := "5b0970c275b63f01f8638f7a613d760ecb1475d284180f37d9e0e3dd5f351672", func := "horarium/horariumlaw03.OctetCut", spec := "octetCut", apart := false, narrowed := true }
def OctetCutUptoSaid : Prop := octetCutUptoRow.holds Try.pinned (OpenSpec.upto octetCutSpec)

/-- 'horariumlaw47.LogPrefix', WHERE WHAT IT READS IS OF BULK AT MOST 1048576: true; the input reads as it did. -/
def logPrefixUptoRow : OpenClaim := { program := "ytccjdefhieilpaa", sum := "5b0970c275b63f01f8638f7a613d760ecb1475d284180f37d9e0e3dd5f351672", func := "horarium/horariumlaw47.LogPrefix", spec := "logPrefix", apart := false, narrowed := true }
def LogPrefixUptoSaid : Prop := logPrefixUptoRow.holds Try.pinned (OpenSpec.upto logPrefixSpec)

/-- 'horariumlaw47.LogNext', WHERE WHAT IT READS IS OF BULK AT MOST 1048576: true; the input reads as it did. -/
def logNextUptoRow : OpenClaim := { program := "ytccjdefhieilpaa", sum := "5b0970c275b63f01f8638f7a613d760ecb1475d284180f37d9e0e3dd5f351672", func := "horarium/horariumlaw47.LogNext", spec := "logNext", apart := false, narrowed := true }
def LogNextUptoSaid : Prop := logNextUptoRow.holds Try.pinned (OpenSpec.upto logNextSpec)

/-- 'horariumlaw47.LogReads', WHERE WHAT IT READS IS OF BULK AT MOST 1048576: true; the input reads as it did. -/
def logReadsUptoRow : OpenClaim := { program := "ytccjdefhieilpaa", sum := "5b0970c275b63f01f8638f7a613d760ecb1475d284180f37d9e0e3dd5f351672", func := "horarium/horariumlaw47.LogReads", spec := "logReads", apart := false, narrowed := true }
def LogReadsUptoSaid : Prop := logReadsUptoRow.holds Try.pinned (OpenSpec.upto logReadsSpec)

/-- 'horariumlaw47.LogTurned', WHERE WHAT IT READS IS OF BULK AT MOST 1048576: true; the input reads as it did. -/
def logTurnedUptoRow : OpenClaim := { program := "ytccjdefhieilpaa", sum := "5b0970c275b63f01f8638f7a613d760ecb1475d284180f37d9e0e3dd5f351672", func := "horarium/horariumlaw47.LogTurned", spec := "logTurned", apart := false, narrowed := true }
def LogTurnedUptoSaid : Prop := logTurnedUptoRow.holds Try.pinned (OpenSpec.upto logTurnedSpec)

/-- 'horariumlaw47.LogJoins', WHERE WHAT IT READS IS OF BULK AT MOST 1048576: true; the input reads as it did. -/
def logJoinsUptoRow : OpenClaim := { program := "ytccjdefhieilpaa", sum := "5b0970c275b63f01f8638f7a613d760ecb1475d284180f37d9e0e3dd5f351672", func := "horarium/horariumlaw47.LogJoins", spec := "logJoins", apart := false, narrowed := true }
def LogJoinsUptoSaid : Prop := logJoinsUptoRow.holds Try.pinned (OpenSpec.upto logJoinsSpec)

/-- 'horariumlaw47.LogFrames', WHERE WHAT IT READS IS OF BULK AT MOST 1048576: true; the input reads as it did. -/
def logFramesUptoRow : OpenClaim := { program := "ytccjdefhieilpaa", sum := "5b0970c275b63f01f8638f7a613d760ecb1475d284180f37d9e0e3dd5f351672", func := "horarium/horariumlaw47.LogFrames", spec := "logFrames", unfollowed := true, recurses := true, apart := false, narrowed := true }
def LogFramesUptoSaid : Prop := logFramesUptoRow.holds Try.pinned (OpenSpec.upto logFramesSpec)

/-- 'horariumlaw48.VaultOpens', WHERE WHAT IT READS IS OF BULK AT MOST 1048576: true; the input reads as it did. -/
def vaultOpensUptoRow : OpenClaim := { program := "ytccjdefhieilpaa", sum := "5b0970c275b63f01f8638f7a613d760ecb1475d284180f37d9e0e3dd5f351672", func := "horarium/horariumlaw48.VaultOpens", spec := "vaultOpens", apart := false, narrowed := true }
def VaultOpensUptoSaid : Prop := vaultOpensUptoRow.holds Try.pinned (OpenSpec.upto vaultOpensSpec)

/-- 'horariumlaw48.VaultAgain', WHERE WHAT IT READS IS OF BULK AT MOST 1048576: true; the input reads as it did. -/
def vaultAgainUptoRow : OpenClaim := { program := "ytccjdefhieilpaa", sum := "5b0970c275b63f01f8638f7a613d760ecb1475d284180f37d9e0e3dd5f351672", func := "horarium/horariumlaw48.VaultAgain", spec := "vaultAgain", apart := false, narrowed := true }
def VaultAgainUptoSaid : Prop := vaultAgainUptoRow.holds Try.pinned (OpenSpec.upto vaultAgainSpec)

/-- 'horariumlaw48.VaultPlays', WHERE WHAT IT READS IS OF BULK AT MOST 1048576: true; the input reads as it did. -/
def vaultPlaysUptoRow : OpenClaim := { program := "ytccjdefhieilpaa", sum := "5b0970c275b63f01f8638f7a613d760ecb1475d284180f37d9e0e3dd5f351672", func := "horarium/horariumlaw48.VaultPlays", spec := "vaultPlays", apart := false, narrowed := true }
def VaultPlaysUptoSaid : Prop := vaultPlaysUptoRow.holds Try.pinned (OpenSpec.upto vaultPlaysSpec)

end Rows
end Go.Proofs.Ytccjdefhieilpaa
