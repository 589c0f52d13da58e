/-
  No cell of these rows narrows 'for every input' (looked for: loops, veiled, ifaces, maps, wideKeys, modest, calm, conditions, laid).
  DERIVED. THE GIVEN ROWS OF THIS SEAT. 6 by the template 'for every input the law returns true; each argument reads behind the call as it read before'; 0 by the template 'total and deterministic' (their statements: YtjhejpeklppmbaaTotals.lean).
  GIVEN WITH THE SEED: the statements are not yours to turn. If you find one false, say at which input.
  Laid BY PROGRAM, IN A SANDBOX (cutbox-rows.mjs): the forced cells as the released guide's own fill.sh prints them over the translation 301a420c49b0871d… (all of the seat's roots in one cut). By AI agents, Wed Nov 11 2026. No macro, syntax, notation, axiom, sorry.
-/
import Derived.Test.YtjhejpeklppmbaaChecked
import GoSem.Claim
import GoSem.ClaimJoined
import GoSem.ClaimMapViews
import Derived.JoinedTies
import Derived.KernelRfl
namespace Go.Proofs.Ytjhejpeklppmbaa
/- THE CELL 'sum', in the pinned program and in every row, IS THE sha256 OF THE DUMP (.gsa) THAT YtjhejpeklppmbaaProg.lean LOADS. Nothing in Lean hashes anything: it is a label: what it is worth is what the hold of that sum in a sandbox is worth. -/
noncomputable def Try.pinned : Pinned := { name := "ytjhejpeklppmbaa", sum := "301a420c49b0871d7ab54d52cfa809efd2bbc1ab589d180951b0f412cd66505e", checked := Try.checked }
namespace Rows
def none {H : Type} : Left H := { results := [], args := [] }

/-- 'ratchetlaw33.CkptSums': WHATEVER THE INPUT: true; the input reads as it did. -/
def ckptSumsSpec : ChangeSpec := { name := "ckptSums", fn := fun _ => fun
  | [d] => { results := [.lit (.bool true)], args := [d] }
  | _ => none }
def ckptSumsRow : OpenClaim := { program := "ytjhejpeklppmbaa", sum := "301a420c49b0871d7ab54d52cfa809efd2bbc1ab589d180951b0f412cd66505e", func := "ratchet/ratchetlaw33.CkptSums", spec := "ckptSums", unfollowed := true, recurses := true, apart := false }
def CkptSumsSaid : Prop := ckptSumsRow.holds Try.pinned (OpenSpec.ofChange ckptSumsSpec)

/-- ITS FALSE NEIGHBOUR: 'it returns false'. Refute it at one input. -/
def ckptSumsWrong : ChangeSpec := { name := "ckptSums", fn := fun _ => fun
  | [d] => { results := [.lit (.bool false)], args := [d] }
  | _ => none }
def CkptSumsWrongFalsely : Prop := ckptSumsRow.holds Try.pinned (OpenSpec.ofChange ckptSumsWrong)

/-- 'ratchetlaw30.DataAll': WHATEVER THE INPUT: true; the input reads as it did. -/
def dataAllSpec : ChangeSpec := { name := "dataAll", fn := fun _ => fun
  | [d] => { results := [.lit (.bool true)], args := [d] }
  | _ => none }
def dataAllRow : OpenClaim := { program := "ytjhejpeklppmbaa", sum := "301a420c49b0871d7ab54d52cfa809efd2bbc1ab589d180951b0f412cd66505e", func := "ratchet/ratchetlaw30.DataAll", spec := "dataAll", unfollowed := true, recurses := true, apart := false }
def DataAllSaid : Prop := dataAllRow.holds Try.pinned (OpenSpec.ofChange dataAllSpec)

/-- ITS FALSE NEIGHBOUR: 'it returns false'. Refute it at one input. -/
def dataAllWrong : ChangeSpec := { name := "dataAll", fn := fun _ => fun
  | [d] => { results := [.lit (.bool false)], args := [d] }
  | _ => none }
def DataAllWrongFalsely : Prop := dataAllRow.holds Try.pinned (OpenSpec.ofChange dataAllWrong)

/-- 'ratchetlaw30.DataBatches': WHATEVER THE INPUT: true; the input reads as it did. -/
def dataBatchesSpec : ChangeSpec := { name := "dataBatches", fn := fun _ => fun
  | [d] => { results := [.lit (.bool true)], args := [d] }
  | _ => none }
def dataBatchesRow : OpenClaim := { program := "ytjhejpeklppmbaa", sum := "301a420c49b0871d7ab54d52cfa809efd2bbc1ab589d180951b0f412cd66505e", func := "ratchet/ratchetlaw30.DataBatches", spec := "dataBatches", unfollowed := true, recurses := true, apart := false }
def DataBatchesSaid : Prop := dataBatchesRow.holds Try.pinned (OpenSpec.ofChange dataBatchesSpec)

/-- ITS FALSE NEIGHBOUR: 'it returns false'. Refute it at one input. -/
def dataBatchesWrong : ChangeSpec := { name := "dataBatches", fn := fun _ => fun
  | [d] => { results := [.lit (.bool false)], args := [d] }
  | _ => none }
def DataBatchesWrongFalsely : Prop := dataBatchesRow.holds Try.pinned (OpenSpec.ofChange dataBatchesWrong)

/-- 'ratchetlaw30.DataDecodes': WHATEVER THE INPUT: true; the input reads as it did. -/
def dataDecodesSpec : ChangeSpec := { name := "dataDecodes", fn := fun _ => fun
  | [d] => { results := [.lit (.bool true)], args := [d] }
  | _ => none }
def dataDecodesRow : OpenClaim := { program := "ytjhejpeklppmbaa", sum := "301a420c49b0871d7ab54d52cfa809efd2bbc1ab589d180951b0f412cd66505e", func := "ratchet/ratchetlaw30.DataDecodes", spec := "dataDecodes", unfollowed := true, recurses := true, apart := false }
def DataDecodesSaid : Prop := dataDecodesRow.holds Try.pinned (OpenSpec.ofChange dataDecodesSpec)

/-- ITS FALSE NEIGHBOUR: 'it returns false'. Refute it at one input. -/
def dataDecodesWrong : ChangeSpec := { name := "dataDecodes", fn := fun _ => fun
  | [d] => { results := [.lit (.bool false)], args := [d] }
  | _ => none }
def DataDecodesWrongFalsely : Prop := dataDecodesRow.holds Try.pinned (OpenSpec.ofChange dataDecodesWrong)

/-- 'ratchetlaw30.DataCuts': WHATEVER THE INPUT: true; the input reads as it did. -/
def dataCutsSpec : ChangeSpec := { name := "dataCuts", fn := fun _ => fun
  | [d] => { results := [.lit (.bool true)], args := [d] }
  | _ => none }
def dataCutsRow : OpenClaim := { program := "ytjhejpeklppmbaa", sum := "301a420c49b0871d7ab54d52cfa809efd2bbc1ab589d180951b0f412cd66505e", func := "ratchet/ratchetlaw30.DataCuts", spec := "dataCuts", unfollowed := true, recurses := true, apart := false }
def DataCutsSaid : Prop := dataCutsRow.holds Try.pinned (OpenSpec.ofChange dataCutsSpec)

/-- ITS FALSE NEIGHBOUR: 'it returns false'. Refute it at one input. -/
def dataCutsWrong : ChangeSpec := { name := "dataCuts", fn := fun _ => fun
  | [d] => { results := [.lit (.bool false)], args := [d] }
  | _ => none }
def DataCutsWrongFalsely : Prop := dataCutsRow.holds Try.pinned (OpenSpec.ofChange dataCutsWrong)

/-- 'ratchetlaw30.DataEncodes': WHATEVER THE INPUT: true; the input reads as it did. -/
def dataEncodesSpec : ChangeSpec := { name := "dataEncodes", fn := fun _ => fun
  | [d] => { results := [.lit (.bool true)], args := [d] }
  | _ => none }
def dataEncodesRow : OpenClaim := { program := "ytjhejpeklppmbaa", sum := "301a420c49b0871d7ab54d52cfa809efd2bbc1ab589d180951b0f412cd66505e", func := "ratchet/ratchetlaw30.DataEncodes", spec := "dataEncodes", unfollowed := true, recurses := true, apart := false }
def DataEncodesSaid : Prop := dataEncodesRow.holds Try.pinned (OpenSpec.ofChange dataEncodesSpec)

/-- ITS FALSE NEIGHBOUR: 'it returns false'. Refute it at one input. -/
def dataEncodesWrong : ChangeSpec := { name := "dataEncodes", fn := fun _ => fun
  | [d] => { results := [.lit (.bool false)], args := [d] }
  | _ => none }
def DataEncodesWrongFalsely : Prop := dataEncodesRow.holds Try.pinned (OpenSpec.ofChange dataEncodesWrong)

/- THE SECOND FORM. 'bulk': how many values and letters a reading holds, each counted each time it is reached (what is shared counts as often as it is met; a slice's spare places count too). A statement '..UptoSaid' is the law's where the arguments, and the package variables that the reading takes, are together of bulk at most 1048576: NARROWER than '..Said'. Prove '..Said' where nothing that the law and all that it calls make is longer than what came in: it says more and counts as full. Else prove '..UptoSaid'. A law counts once. -/
mutual
def uptoBulk {H : Type} : DataW H → Nat
  | .lit (.string bytes) => bytes.length + 1
  | .lit _ => 1
  | .nil => 1
  | .ptr d => uptoBulk d + 1
  | .slice elems spare => uptoBulkAll elems + uptoBulkAll spare + 1
  | .agg parts => uptoBulkAll parts + 1
  | .iface _ d => uptoBulk d + 1
  | .map entries => uptoBulkEntries entries + 1
  | .held _ => 1
def uptoBulkAll {H : Type} : List (DataW H) → Nat
  | [] => 0
  | d :: r => uptoBulk d + uptoBulkAll r
def uptoBulkEntries {H : Type} : List (Lit × DataW H) → Nat
  | [] => 0
  | x :: r => uptoBulkEntry x + uptoBulkEntries r
def uptoBulkEntry {H : Type} : Lit × DataW H → Nat
  | (.string bytes, d) => bytes.length + uptoBulk d + 1
  | (_, d) => uptoBulk d + 1
 end
def uptoSmall : (H : Type) → List (DataW H) → Bool := fun _ ds => decide (uptoBulkAll ds ≤ 1048576)
def OpenSpec.upto (s : _root_.Go.ChangeSpec) : _root_.Go.OpenSpec := { _root_.Go.OpenSpec.ofChange s with cond := some uptoSmall }

/-- 'ratchetlaw33.CkptSums', WHERE WHAT IT READS IS OF BULK AT MOST 1048576: true; the input reads as it did. -/
def ckptSumsUptoRow : OpenClaim := { program := "ytjhejpeklppmbaa", sum := "301a420c49b0871d7ab54d52cfa809efd2bbc1ab589d180951b0f412cd66505e", func := "ratchet/ratchetlaw33.CkptSums", spec := "ckptSums", unfollowed := true, recurses := true, apart := false, narrowed := true }
def CkptSumsUptoSaid : Prop := ckptSumsUptoRow.holds Try.pinned (OpenSpec.upto ckptSumsSpec)

/-- 'ratchetlaw30.DataAll', WHERE WHAT IT READS IS OF BULK AT MOST 1048576: true; the input reads as it did. -/
def dataAllUptoRow : OpenClaim := { program := "ytjhejpeklppmbaa", sum := "301a420c49b0871d7ab54d52cfa809efd2bbc1ab589d180951b0f412cd66505e", func := "ratchet/ratchetlaw30.DataAll", spec := "dataAll", unfollowed := true, recurses := true, apart := false, narrowed := true }
def DataAllUptoSaid : Prop := dataAllUptoRow.holds Try.pinned (OpenSpec.upto dataAllSpec)

/-- 'ratchetlaw30.DataBatches', WHERE WHAT IT READS IS OF BULK AT MOST 1048576: true; the input reads as it did. -/
def dataBatchesUptoRow : OpenClaim := { program := "ytjhejpeklppmbaa", sum := "301a420c49b0871d7ab54d52cfa809efd2bbc1ab589d180951b0f412cd66505e", func := "ratchet/ratchetlaw30.DataBatches", spec := "dataBatches", unfollowed := true, recurses := true, apart := false, narrowed := true }
def DataBatchesUptoSaid : Prop := dataBatchesUptoRow.holds Try.pinned (OpenSpec.upto dataBatchesSpec)

/-- 'ratchetlaw30.DataDecodes', WHERE WHAT IT READS IS OF BULK AT MOST 1048576: true; the input reads as it did. -/
def dataDecodesUptoRow : OpenClaim := { program := "ytjhejpeklppmbaa", sum := "301a420c49b0871d7ab54d52cfa809efd2bbc1ab589d180951b0f412cd66505e", func := "ratchet/ratchetlaw30.DataDecodes", spec := "dataDecodes", unfollowed := true, recurses := true, apart := false, narrowed := true }
def DataDecodesUptoSaid : Prop := dataDecodesUptoRow.holds Try.pinned (OpenSpec.upto dataDecodesSpec)

/-- 'ratchetlaw30.DataCuts', WHERE WHAT IT READS IS OF BULK AT MOST 1048576: true; the input reads as it did. -/
def dataCutsUptoRow : OpenClaim := { program := "ytjhejpeklppmbaa", sum := "301a420c49b0871d7ab54d52cfa809efd2bbc1ab589d180951b0f412cd66505e", func := "ratchet/ratchetlaw30.DataCuts", spec := "dataCuts", unfollowed := true, recurses := true, apart := false, narrowed := true }
def DataCutsUptoSaid : Prop := dataCutsUptoRow.holds Try.pinned (OpenSpec.upto dataCutsSpec)

/-- 'ratchetlaw30.DataEncodes', WHERE WHAT IT READS IS OF BULK AT MOST 1048576: true; the input reads as it did. -/
def dataEncodesUptoRow : OpenClaim := { program := "ytjhejpeklppmbaa", sum := "301a420c49b0871d7ab54d52cfa809efd2bbc1ab589d180951b0f412cd66505e", func := "ratchet/ratchetlaw30.DataEncodes", spec := "dataEncodes", unfollowed := true, recurses := true, apart := false, narrowed := true }
def DataEncodesUptoSaid : Prop := dataEncodesUptoRow.holds Try.pinned (OpenSpec.upto dataEncodesSpec)

end Rows
end Go.Proofs.Ytjhejpeklppmbaa
