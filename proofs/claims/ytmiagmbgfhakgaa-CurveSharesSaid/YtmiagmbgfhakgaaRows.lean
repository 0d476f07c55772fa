/-
  No cell of these rows narrows 'for every input' (looked for: loops, veiled, ifaces, maps, wideKeys, modest, calm, conditions, laid).
  DERIVED. THE GIVEN ROWS OF THIS SEAT. 5 by the template 'for every input the law returns true; each argument reads behind the call as it read before'; 0 by the template 'total and deterministic' (their statements: YtmiagmbgfhakgaaTotals.lean).
  GIVEN WITH THE SEED: the statements are not yours to turn. If you find one false, say at which input.
  Laid BY PROGRAM, IN A SANDBOX (cutbox-rows.mjs): the forced cells as the released guide's own fill.sh prints them over the translation 42c46607f2a3e359… (all of the seat's roots in one cut). By AI agents, Wed Nov 11 2026. No macro, syntax, notation, axiom, sorry.
-/
import Derived.Test.YtmiagmbgfhakgaaChecked
import GoSem.Claim
import GoSem.ClaimJoined
import GoSem.ClaimMapViews
import Derived.JoinedTies
import Derived.KernelRfl
namespace Go.Proofs.Ytmiagmbgfhakgaa
/- THE CELL 'sum', in the pinned program and in every row, IS THE sha256 OF THE DUMP (.gsa) THAT YtmiagmbgfhakgaaProg.lean LOADS. Nothing in Lean hashes anything: it is a label: what it is worth is what the hold of that sum in a sandbox is worth. -/
noncomputable def Try.pinned : Pinned := { name := "ytmiagmbgfhakgaa", sum := "42c46607f2a3e3593ac73af7fc9f30666ca0c0286011fdd31ab0a8fcaee227ef", checked := Try.checked }
namespace Rows
def none {H : Type} : Left H := { results := [], args := [] }

/-- 'despatchlaw18.BundleCodes': WHATEVER THE INPUT: true; the input reads as it did. -/
def bundleCodesSpec : ChangeSpec := { name := "bundleCodes", fn := fun _ => fun
  | [d1, d2] => { results := [.lit (.bool true)], args := [d1, d2] }
  | _ => none }
def bundleCodesRow : OpenClaim := { program := "ytmiagmbgfhakgaa", sum := "42c46607f2a3e3593ac73af7fc9f30666ca0c0286011fdd31ab0a8fcaee227ef", func := "despatch/despatchlaw18.BundleCodes", spec := "bundleCodes", inPlace := ["internal/bytealg.MakeNoZero"], apart := false }
def BundleCodesSaid : Prop := bundleCodesRow.holds Try.pinned (OpenSpec.ofChange bundleCodesSpec)

/-- ITS FALSE NEIGHBOUR: 'it returns false'. Refute it at one input. -/
def bundleCodesWrong : ChangeSpec := { name := "bundleCodes", fn := fun _ => fun
  | [d1, d2] => { results := [.lit (.bool false)], args := [d1, d2] }
  | _ => none }
def BundleCodesWrongFalsely : Prop := bundleCodesRow.holds Try.pinned (OpenSpec.ofChange bundleCodesWrong)

/-- 'despatchlaw05.CurveMults': WHATEVER THE INPUT: true; the input reads as it did. -/
def curveMultsSpec : ChangeSpec := { name := "curveMults", fn := fun _ => fun
  | [d1, d2] => { results := [.lit (.bool true)], args := [d1, d2] }
  | _ => none }
def curveMultsRow : OpenClaim := { program := "ytmiagmbgfhakgaa", sum := "42c46607f2a3e3593ac73af7fc9f30666ca0c0286011fdd31ab0a8fcaee227ef", func := "despatch/despatchlaw05.CurveMults", spec := "curveMults", inPlace := ["math/bits.Add64"], apart := false }
def CurveMultsSaid : Prop := curveMultsRow.holds Try.pinned (OpenSpec.ofChange curveMultsSpec)

/-- ITS FALSE NEIGHBOUR: 'it returns false'. Refute it at one input. -/
def curveMultsWrong : ChangeSpec := { name := "curveMults", fn := fun _ => fun
  | [d1, d2] => { results := [.lit (.bool false)], args := [d1, d2] }
  | _ => none }
def CurveMultsWrongFalsely : Prop := curveMultsRow.holds Try.pinned (OpenSpec.ofChange curveMultsWrong)

/-- 'despatchlaw05.CurveSame': WHATEVER THE INPUT: true; the input reads as it did. -/
def curveSameSpec : ChangeSpec := { name := "curveSame", fn := fun _ => fun
  | [d1, d2, d3] => { results := [.lit (.bool true)], args := [d1, d2, d3] }
  | _ => none }
def curveSameRow : OpenClaim := { program := "ytmiagmbgfhakgaa", sum := "42c46607f2a3e3593ac73af7fc9f30666ca0c0286011fdd31ab0a8fcaee227ef", func := "despatch/despatchlaw05.CurveSame", spec := "curveSame", inPlace := ["math/bits.Add64"], apart := false }
def CurveSameSaid : Prop := curveSameRow.holds Try.pinned (OpenSpec.ofChange curveSameSpec)

/-- ITS FALSE NEIGHBOUR: 'it returns false'. Refute it at one input. -/
def curveSameWrong : ChangeSpec := { name := "curveSame", fn := fun _ => fun
  | [d1, d2, d3] => { results := [.lit (.bool false)], args := [d1, d2, d3] }
  | _ => none }
def CurveSameWrongFalsely : Prop := curveSameRow.holds Try.pinned (OpenSpec.ofChange curveSameWrong)

/-- 'despatchlaw05.CurveOrder': WHATEVER THE INPUT: true; the input reads as it did. -/
def curveOrderSpec : ChangeSpec := { name := "curveOrder", fn := fun _ => fun
  | [d1, d2, d3] => { results := [.lit (.bool true)], args := [d1, d2, d3] }
  | _ => none }
def curveOrderRow : OpenClaim := { program := "ytmiagmbgfhakgaa", sum := "42c46607f2a3e3593ac73af7fc9f30666ca0c0286011fdd31ab0a8fcaee227ef", func := "despatch/despatchlaw05.CurveOrder", spec := "curveOrder", inPlace := ["math/bits.Add64"], apart := false }
def CurveOrderSaid : Prop := curveOrderRow.holds Try.pinned (OpenSpec.ofChange curveOrderSpec)

/-- ITS FALSE NEIGHBOUR: 'it returns false'. Refute it at one input. -/
def curveOrderWrong : ChangeSpec := { name := "curveOrder", fn := fun _ => fun
  | [d1, d2, d3] => { results := [.lit (.bool false)], args := [d1, d2, d3] }
  | _ => none }
def CurveOrderWrongFalsely : Prop := curveOrderRow.holds Try.pinned (OpenSpec.ofChange curveOrderWrong)

/-- 'despatchlaw05.CurveShares': WHATEVER THE INPUT: true; the input reads as it did. -/
def curveSharesSpec : ChangeSpec := { name := "curveShares", fn := fun _ => fun
  | [d1, d2] => { results := [.lit (.bool true)], args := [d1, d2] }
  | _ => none }
def curveSharesRow : OpenClaim := { program := "ytmiagmbgfhakgaa", sum := "42c46607f2a3e3593ac73af7fc9f30666ca0c0286011fdd31ab0a8fcaee227ef", func := "despatch/despatchlaw05.CurveShares", spec := "curveShares", inPlace := ["math/bits.Add64"], apart := false }
def CurveSharesSaid : Prop := curveSharesRow.holds Try.pinned (OpenSpec.ofChange curveSharesSpec)

/-- ITS FALSE NEIGHBOUR: 'it returns false'. Refute it at one input. -/
def curveSharesWrong : ChangeSpec := { name := "curveShares", fn := fun _ => fun
  | [d1, d2] => { results := [.lit (.bool false)], args := [d1, d2] }
  | _ => none }
def CurveSharesWrongFalsely : Prop := curveSharesRow.holds Try.pinned (OpenSpec.ofChange curveSharesWrong)

/- THE SECOND FORM. 'bulk': how many values and letters a reading holds, each counted each time it is reached (what is shared counts as often as it is met; a slice's spare places count too). A statement '..UptoSaid' is the law's where the arguments, and the package variables that the reading takes, are together of bulk at most 1048576: NARROWER than '..Said'. Prove '..Said' where nothing that the law and all that it calls make is longer than what came in: it says more and counts as full. Else prove '..UptoSaid'. A law counts once. -/
mutual
def uptoBulk {H : Type} : DataW H → Nat
  | .lit (.string bytes) => bytes.length + 1
  | .lit _ => 1
  | .nil => 1
  | .ptr d => uptoBulk d + 1
  | .slice elems spare => uptoBulkAll elems + uptoBulkAll spare + 1
  | .agg parts => uptoBulkAll parts + 1
  | .iface _ d => uptoBulk d + 1
  | .map entries => uptoBulkEntries entries + 1
  | .held _ => 1
def uptoBulkAll {H : Type} : List (DataW H) → Nat
  | [] => 0
  | d :: r => uptoBulk d + uptoBulkAll r
def uptoBulkEntries {H : Type} : List (Lit × DataW H) → Nat
  | [] => 0
  | x :: r => uptoBulkEntry x + uptoBulkEntries r
def uptoBulkEntry {H : Type} : Lit × DataW H → Nat
  | (.string bytes, d) => bytes.length + uptoBulk d + 1
  | (_, d) => uptoBulk d + 1
 end
def uptoSmall : (H : Type) → List (DataW H) → Bool := fun _ ds => decide (uptoBulkAll ds ≤ 1048576)
def OpenSpec.upto (s : _root_.Go.ChangeSpec) : _root_.Go.OpenSpec := { _root_.Go.OpenSpec.ofChange s with cond := some uptoSmall }

/-- 'despatchlaw18.BundleCodes', WHERE WHAT IT READS IS OF BULK AT MOST 1048576: true; the input reads as it did. -/
def bundleCodesUptoRow : OpenClaim := { program := "ytmiagmbgfhakgaa", sum := "42c46607f2a3e3593ac73af7fc9f30666ca0c0286011fdd31ab0a8fcaee227ef", func := "despatch/despatchlaw18.BundleCodes", spec := "bundleCodes", inPlace := ["internal/bytealg.MakeNoZero"], apart := false, narrowed := true }
def BundleCodesUptoSaid : Prop := bundleCodesUptoRow.holds Try.pinned (OpenSpec.upto bundleCodesSpec)

/-- 'despatchlaw05.CurveMults', WHERE WHAT IT READS IS OF BULK AT MOST 1048576: true; the input reads as it did. -/
def curveMultsUptoRow : OpenClaim := { program := "ytmiagmbgfhakgaa", sum := "42c46607f2a3e3593ac73af7fc9f30666ca0c0286011fdd31ab0a8fcaee227ef", func := "despatch/despatchlaw05.CurveMults", spec := "curveMults", inPlace := ["math/bits.Add64"], apart := false, narrowed := true }
def CurveMultsUptoSaid : Prop := curveMultsUptoRow.holds Try.pinned (OpenSpec.upto curveMultsSpec)

/-- 'despatchlaw05.CurveSame', WHERE WHAT IT READS IS OF BULK AT MOST 1048576: true; the input reads as it did. -/
def curveSameUptoRow : OpenClaim := { program := "ytmiagmbgfhakgaa", sum := "42c46607f2a3e3593ac73af7fc9f30666ca0c0286011fdd31ab0a8fcaee227ef", func := "despatch/despatchlaw05.CurveSame", spec := "curveSame", inPlace := ["math/bits.Add64"], apart := false, narrowed := true }
def CurveSameUptoSaid : Prop := curveSameUptoRow.holds Try.pinned (OpenSpec.upto curveSameSpec)

/-- 'despatchlaw05.CurveOrder', WHERE WHAT IT READS IS OF BULK AT MOST 1048576: true; the input reads as it did. -/
def curveOrderUptoRow : OpenClaim := { program := "ytmiagmbgfhakgaa", sum := "42c46607f2a3e3593ac73af7fc9f30666ca0c0286011fdd31ab0a8fcaee227ef", func := "despatch/despatchlaw05.CurveOrder", spec := "curveOrder", inPlace := ["math/bits.Add64"], apart := false, narrowed := true }
def CurveOrderUptoSaid : Prop := curveOrderUptoRow.holds Try.pinned (OpenSpec.upto curveOrderSpec)

/-- 'despatchlaw05.CurveShares', WHERE WHAT IT READS IS OF BULK AT MOST 1048576: true; the input reads as it did. -/
def curveSharesUptoRow : OpenClaim := { program := "ytmiagmbgfhakgaa", sum := "42c46607f2a3e3593ac73af7fc9f30666ca0c0286011fdd31ab0a8fcaee227ef", func := "despatch/despatchlaw05.CurveShares", spec := "curveShares", inPlace := ["math/bits.Add64"], apart := false, narrowed := true }
def CurveSharesUptoSaid : Prop := curveSharesUptoRow.holds Try.pinned (OpenSpec.upto curveSharesSpec)

end Rows
end Go.Proofs.Ytmiagmbgfhakgaa
