/-
  No cell of these rows narrows 'for every input' (looked for: loops, veiled, ifaces, maps, wideKeys, modest, calm, conditions, laid).
  DERIVED. THE GIVEN ROWS OF THIS SEAT. 11 by the template 'for every input the law returns true; each argument reads behind the call as it read before'; 0 by the template 'total and deterministic' (their statements: YtfmjfojhcmmgcaaTotals.lean).
  GIVEN WITH THE SEED: the statements are not yours to turn. If you find one false, say at which input.
  Laid BY PROGRAM, IN A SANDBOX (cutbox-rows.mjs): the forced cells as the released guide's own fill.sh prints them over the translation 7561055399074cd0… (all of the seat's roots in one cut). By AI agents, Wed Nov 11 2026. No macro, syntax, notation, axiom, sorry.
-/
import Derived.Test.YtfmjfojhcmmgcaaChecked
import GoSem.Claim
import GoSem.ClaimJoined
import GoSem.ClaimMapViews
import Derived.JoinedTies
import Derived.KernelRfl
namespace Go.Proofs.Ytfmjfojhcmmgcaa
/- THE CELL 'sum', in the pinned program and in every row, IS THE sha256 OF THE DUMP (.gsa) THAT YtfmjfojhcmmgcaaProg.lean LOADS. Nothing in Lean hashes anything: it is a label: what it is worth is what the hold of that sum in a sandbox is worth. -/
noncomputable def Try.pinned : Pinned := { name := "ytfmjfojhcmmgcaa", sum := "7561055399074cd041a65808ecb3658da26c034e2bf6b089e20e8b80aa3a135e", checked := Try.checked }
namespace Rows
def none {H : Type} : Left H := { results := [], args := [] }

/-- 'despatchlaw24.ModelJudges': WHATEVER THE INPUT: true; the input reads as it did. -/
def modelJudgesSpec : ChangeSpec := { name := "modelJudges", fn := fun _ => fun
  | [d1, d2, d3, d4] => { results := [.lit (.bool true)], args := [d1, d2, d3, d4] }
  | _ => none }
def modelJudgesRow : OpenClaim := { program := "ytfmjfojhcmmgcaa", sum := "7561055399074cd041a65808ecb3658da26c034e2bf6b089e20e8b80aa3a135e", func := "despatch/despatchlaw24.ModelJudges", spec := "modelJudges", unfollowed := true, recurses := true, plainKeys := false, apart := false }
def ModelJudgesSaid : Prop := modelJudgesRow.holds Try.pinned (OpenSpec.ofChange modelJudgesSpec)

/-- ITS FALSE NEIGHBOUR: 'it returns false'. Refute it at one input. -/
def modelJudgesWrong : ChangeSpec := { name := "modelJudges", fn := fun _ => fun
  | [d1, d2, d3, d4] => { results := [.lit (.bool false)], args := [d1, d2, d3, d4] }
  | _ => none }
def ModelJudgesWrongFalsely : Prop := modelJudgesRow.holds Try.pinned (OpenSpec.ofChange modelJudgesWrong)

/-- 'despatchlaw24.ModelWhole': WHATEVER THE INPUT: true; the input reads as it did. -/
def modelWholeSpec : ChangeSpec := { name := "modelWhole", fn := fun _ => fun
  | [d1, d2, d3] => { results := [.lit (.bool true)], args := [d1, d2, d3] }
  | _ => none }
def modelWholeRow : OpenClaim := { program := "ytfmjfojhcmmgcaa", sum := "7561055399074cd041a65808ecb3658da26c034e2bf6b089e20e8b80aa3a135e", func := "despatch/despatchlaw24.ModelWhole", spec := "modelWhole", unfollowed := true, recurses := true, plainKeys := false, apart := false }
def ModelWholeSaid : Prop := modelWholeRow.holds Try.pinned (OpenSpec.ofChange modelWholeSpec)

/-- ITS FALSE NEIGHBOUR: 'it returns false'. Refute it at one input. -/
def modelWholeWrong : ChangeSpec := { name := "modelWhole", fn := fun _ => fun
  | [d1, d2, d3] => { results := [.lit (.bool false)], args := [d1, d2, d3] }
  | _ => none }
def ModelWholeWrongFalsely : Prop := modelWholeRow.holds Try.pinned (OpenSpec.ofChange modelWholeWrong)

/-- 'despatchlaw24.ModelOrder': WHATEVER THE INPUT: true; the input reads as it did. -/
def modelOrderSpec : ChangeSpec := { name := "modelOrder", fn := fun _ => fun
  | [d1, d2, d3, d4] => { results := [.lit (.bool true)], args := [d1, d2, d3, d4] }
  | _ => none }
def modelOrderRow : OpenClaim := { program := "ytfmjfojhcmmgcaa", sum := "7561055399074cd041a65808ecb3658da26c034e2bf6b089e20e8b80aa3a135e", func := "despatch/despatchlaw24.ModelOrder", spec := "modelOrder", unfollowed := true, recurses := true, plainKeys := false, apart := false }
def ModelOrderSaid : Prop := modelOrderRow.holds Try.pinned (OpenSpec.ofChange modelOrderSpec)

/-- ITS FALSE NEIGHBOUR: 'it returns false'. Refute it at one input. -/
def modelOrderWrong : ChangeSpec := { name := "modelOrder", fn := fun _ => fun
  | [d1, d2, d3, d4] => { results := [.lit (.bool false)], args := [d1, d2, d3, d4] }
  | _ => none }
def ModelOrderWrongFalsely : Prop := modelOrderRow.holds Try.pinned (OpenSpec.ofChange modelOrderWrong)

/-- 'despatchlaw14.DiskTorn': WHATEVER THE INPUT: true; the input reads as it did. -/
def diskTornSpec : ChangeSpec := { name := "diskTorn", fn := fun _ => fun
  | [d1, d2, d3] => { results := [.lit (.bool true)], args := [d1, d2, d3] }
  | _ => none }
def diskTornRow : OpenClaim := { program := "ytfmjfojhcmmgcaa", sum := "7561055399074cd041a65808ecb3658da26c034e2bf6b089e20e8b80aa3a135e", func := "despatch/despatchlaw14.DiskTorn", spec := "diskTorn", unfollowed := true, recurses := true, plainKeys := false, apart := false }
def DiskTornSaid : Prop := diskTornRow.holds Try.pinned (OpenSpec.ofChange diskTornSpec)

/-- ITS FALSE NEIGHBOUR: 'it returns false'. Refute it at one input. -/
def diskTornWrong : ChangeSpec := { name := "diskTorn", fn := fun _ => fun
  | [d1, d2, d3] => { results := [.lit (.bool false)], args := [d1, d2, d3] }
  | _ => none }
def DiskTornWrongFalsely : Prop := diskTornRow.holds Try.pinned (OpenSpec.ofChange diskTornWrong)

/-- 'despatchlaw14.DiskLasts': WHATEVER THE INPUT: true; the input reads as it did. -/
def diskLastsSpec : ChangeSpec := { name := "diskLasts", fn := fun _ => fun
  | [d1, d2, d3] => { results := [.lit (.bool true)], args := [d1, d2, d3] }
  | _ => none }
def diskLastsRow : OpenClaim := { program := "ytfmjfojhcmmgcaa", sum := "7561055399074cd041a65808ecb3658da26c034e2bf6b089e20e8b80aa3a135e", func := "despatch/despatchlaw14.DiskLasts", spec := "diskLasts", unfollowed := true, recurses := true, plainKeys := false, apart := false }
def DiskLastsSaid : Prop := diskLastsRow.holds Try.pinned (OpenSpec.ofChange diskLastsSpec)

/-- ITS FALSE NEIGHBOUR: 'it returns false'. Refute it at one input. -/
def diskLastsWrong : ChangeSpec := { name := "diskLasts", fn := fun _ => fun
  | [d1, d2, d3] => { results := [.lit (.bool false)], args := [d1, d2, d3] }
  | _ => none }
def DiskLastsWrongFalsely : Prop := diskLastsRow.holds Try.pinned (OpenSpec.ofChange diskLastsWrong)

/-- 'despatchlaw14.DiskCalls': WHATEVER THE INPUT: true; the input reads as it did. -/
def diskCallsSpec : ChangeSpec := { name := "diskCalls", fn := fun _ => fun
  | [d1, d2] => { results := [.lit (.bool true)], args := [d1, d2] }
  | _ => none }
def diskCallsRow : OpenClaim := { program := "ytfmjfojhcmmgcaa", sum := "7561055399074cd041a65808ecb3658da26c034e2bf6b089e20e8b80aa3a135e", func := "despatch/despatchlaw14.DiskCalls", spec := "diskCalls", unfollowed := true, recurses := true, plainKeys := false, apart := false }
def DiskCallsSaid : Prop := diskCallsRow.holds Try.pinned (OpenSpec.ofChange diskCallsSpec)

/-- ITS FALSE NEIGHBOUR: 'it returns false'. Refute it at one input. -/
def diskCallsWrong : ChangeSpec := { name := "diskCalls", fn := fun _ => fun
  | [d1, d2] => { results := [.lit (.bool false)], args := [d1, d2] }
  | _ => none }
def DiskCallsWrongFalsely : Prop := diskCallsRow.holds Try.pinned (OpenSpec.ofChange diskCallsWrong)

/-- 'despatchlaw08.LinesWhole': WHATEVER THE INPUT: true; the input reads as it did. -/
def linesWholeSpec : ChangeSpec := { name := "linesWhole", fn := fun _ => fun
  | [d] => { results := [.lit (.bool true)], args := [d] }
  | _ => none }
def linesWholeRow : OpenClaim := { program := "ytfmjfojhcmmgcaa", sum := "7561055399074cd041a65808ecb3658da26c034e2bf6b089e20e8b80aa3a135e", func := "despatch/despatchlaw08.LinesWhole", spec := "linesWhole", inPlace := ["internal/bytealg.IndexByte", "internal/bytealg.Index"], named := ["internal/bytealg.MaxLen"], plainKeys := false, apart := false }
def LinesWholeSaid : Prop := linesWholeRow.holds Try.pinned (OpenSpec.ofChange linesWholeSpec)

/-- ITS FALSE NEIGHBOUR: 'it returns false'. Refute it at one input. -/
def linesWholeWrong : ChangeSpec := { name := "linesWhole", fn := fun _ => fun
  | [d] => { results := [.lit (.bool false)], args := [d] }
  | _ => none }
def LinesWholeWrongFalsely : Prop := linesWholeRow.holds Try.pinned (OpenSpec.ofChange linesWholeWrong)

/-- 'despatchlaw08.LinesTold': WHATEVER THE INPUT: true; the input reads as it did. -/
def linesToldSpec : ChangeSpec := { name := "linesTold", fn := fun _ => fun
  | [d1, d2] => { results := [.lit (.bool true)], args := [d1, d2] }
  | _ => none }
def linesToldRow : OpenClaim := { program := "ytfmjfojhcmmgcaa", sum := "7561055399074cd041a65808ecb3658da26c034e2bf6b089e20e8b80aa3a135e", func := "despatch/despatchlaw08.LinesTold", spec := "linesTold", inPlace := ["internal/bytealg.IndexByte", "internal/bytealg.Index"], named := ["internal/bytealg.MaxLen"], plainKeys := false, apart := false }
def LinesToldSaid : Prop := linesToldRow.holds Try.pinned (OpenSpec.ofChange linesToldSpec)

/-- ITS FALSE NEIGHBOUR: 'it returns false'. Refute it at one input. -/
def linesToldWrong : ChangeSpec := { name := "linesTold", fn := fun _ => fun
  | [d1, d2] => { results := [.lit (.bool false)], args := [d1, d2] }
  | _ => none }
def LinesToldWrongFalsely : Prop := linesToldRow.holds Try.pinned (OpenSpec.ofChange linesToldWrong)

/-- 'despatchlaw08.LinesJoins': WHATEVER THE INPUT: true; the input reads as it did. -/
def linesJoinsSpec : ChangeSpec := { name := "linesJoins", fn := fun _ => fun
  | [d1, d2] => { results := [.lit (.bool true)], args := [d1, d2] }
  | _ => none }
def linesJoinsRow : OpenClaim := { program := "ytfmjfojhcmmgcaa", sum := "7561055399074cd041a65808ecb3658da26c034e2bf6b089e20e8b80aa3a135e", func := "despatch/despatchlaw08.LinesJoins", spec := "linesJoins", inPlace := ["internal/bytealg.IndexByte", "internal/bytealg.Index"], named := ["internal/bytealg.MaxLen"], plainKeys := false, apart := false }
def LinesJoinsSaid : Prop := linesJoinsRow.holds Try.pinned (OpenSpec.ofChange linesJoinsSpec)

/-- ITS FALSE NEIGHBOUR: 'it returns false'. Refute it at one input. -/
def linesJoinsWrong : ChangeSpec := { name := "linesJoins", fn := fun _ => fun
  | [d1, d2] => { results := [.lit (.bool false)], args := [d1, d2] }
  | _ => none }
def LinesJoinsWrongFalsely : Prop := linesJoinsRow.holds Try.pinned (OpenSpec.ofChange linesJoinsWrong)

/-- 'despatchlaw08.LinesStuff': WHATEVER THE INPUT: true; the input reads as it did. -/
def linesStuffSpec : ChangeSpec := { name := "linesStuff", fn := fun _ => fun
  | [d] => { results := [.lit (.bool true)], args := [d] }
  | _ => none }
def linesStuffRow : OpenClaim := { program := "ytfmjfojhcmmgcaa", sum := "7561055399074cd041a65808ecb3658da26c034e2bf6b089e20e8b80aa3a135e", func := "despatch/despatchlaw08.LinesStuff", spec := "linesStuff", inPlace := ["internal/bytealg.IndexByte", "internal/bytealg.Index"], named := ["internal/bytealg.MaxLen"], plainKeys := false, apart := false }
def LinesStuffSaid : Prop := linesStuffRow.holds Try.pinned (OpenSpec.ofChange linesStuffSpec)

/-- ITS FALSE NEIGHBOUR: 'it returns false'. Refute it at one input. -/
def linesStuffWrong : ChangeSpec := { name := "linesStuff", fn := fun _ => fun
  | [d] => { results := [.lit (.bool false)], args := [d] }
  | _ => none }
def LinesStuffWrongFalsely : Prop := linesStuffRow.holds Try.pinned (OpenSpec.ofChange linesStuffWrong)

/-- 'despatchlaw08.LinesBack': WHATEVER THE INPUT: true; the input reads as it did. -/
def linesBackSpec : ChangeSpec := { name := "linesBack", fn := fun _ => fun
  | [d1, d2, d3] => { results := [.lit (.bool true)], args := [d1, d2, d3] }
  | _ => none }
def linesBackRow : OpenClaim := { program := "ytfmjfojhcmmgcaa", sum := "7561055399074cd041a65808ecb3658da26c034e2bf6b089e20e8b80aa3a135e", func := "despatch/despatchlaw08.LinesBack", spec := "linesBack", inPlace := ["internal/bytealg.IndexByte", "internal/bytealg.Index"], named := ["internal/bytealg.MaxLen"], plainKeys := false, apart := false }
def LinesBackSaid : Prop := linesBackRow.holds Try.pinned (OpenSpec.ofChange linesBackSpec)

/-- ITS FALSE NEIGHBOUR: 'it returns false'. Refute it at one input. -/
def linesBackWrong : ChangeSpec := { name := "linesBack", fn := fun _ => fun
  | [d1, d2, d3] => { results := [.lit (.bool false)], args := [d1, d2, d3] }
  | _ => none }
def LinesBackWrongFalsely : Prop := linesBackRow.holds Try.pinned (OpenSpec.ofChange linesBackWrong)

/- THE SECOND FORM. 'bulk': how many values and letters a reading holds, each counted each time it is reached (what is shared counts as often as it is met; a slice's spare places count too). A statement '..UptoSaid' is the law's where the arguments, and the package variables that the reading takes, are together of bulk at most 1048576: NARROWER than '..Said'. Prove '..Said' where nothing that the law and all that it calls make is longer than what came in: it says more and counts as full. Else prove '..UptoSaid'. A law counts once. -/
mutual
def uptoBulk {H : Type} : DataW H → Nat
  | .lit (.string bytes) => bytes.length + 1
  | .lit _ => 1
  | .nil => 1
  | .ptr d => uptoBulk d + 1
  | .slice elems spare => uptoBulkAll elems + uptoBulkAll spare + 1
  | .agg parts => uptoBulkAll parts + 1
  | .iface _ d => uptoBulk d + 1
  | .map entries => uptoBulkEntries entries + 1
  | .held _ => 1
def uptoBulkAll {H : Type} : List (DataW H) → Nat
  | [] => 0
  | d :: r => uptoBulk d + uptoBulkAll r
def uptoBulkEntries {H : Type} : List (Lit × DataW H) → Nat
  | [] => 0
  | x :: r => uptoBulkEntry x + uptoBulkEntries r
def uptoBulkEntry {H : Type} : Lit × DataW H → Nat
  | (.string bytes, d) => bytes.length + uptoBulk d + 1
  | (_, d) => uptoBulk d + 1
 end
def uptoSmall : (H : Type) → List (DataW H) → Bool := fun _ ds => decide (uptoBulkAll ds ≤ 1048576)
def OpenSpec.upto (s : _root_.Go.ChangeSpec) : _root_.Go.OpenSpec := { _root_.Go.OpenSpec.ofChange s with cond := some uptoSmall }

/-- 'despatchlaw24.ModelJudges', WHERE WHAT IT READS IS OF BULK AT MOST 1048576: true; the input reads as it did. -/
def modelJudgesUptoRow : OpenClaim := { program := "ytfmjfojhcmmgcaa", sum := "7561055399074cd041a65808ecb3658da26c034e2bf6b089e20e8b80aa3a135e", func := "despatch/despatchlaw24.ModelJudges", spec := "modelJudges", unfollowed := true, recurses := true, plainKeys := false, apart := false, narrowed := true }
def ModelJudgesUptoSaid : Prop := modelJudgesUptoRow.holds Try.pinned (OpenSpec.upto modelJudgesSpec)

/-- 'despatchlaw24.ModelWhole', WHERE WHAT IT READS IS OF BULK AT MOST 1048576: true; the input reads as it did. -/
def modelWholeUptoRow : OpenClaim := { program := "ytfmjfojhcmmgcaa", sum := "7561055399074cd041a65808ecb3658da26c034e2bf6b089e20e8b80aa3a135e", func := "despatch/despatchlaw24.ModelWhole", spec := "modelWhole", unfollowed := true, recurses := true, plainKeys := false, apart := false, narrowed := true }
def ModelWholeUptoSaid : Prop := modelWholeUptoRow.holds Try.pinned (OpenSpec.upto modelWholeSpec)

/-- 'despatchlaw24.ModelOrder', WHERE WHAT IT READS IS OF BULK AT MOST 1048576: true; the input reads as it did. -/
def modelOrderUptoRow : OpenClaim := { program := "ytfmjfojhcmmgcaa", sum := "7561055399074cd041a65808ecb3658da26c034e2bf6b089e20e8b80aa3a135e", func := "despatch/despatchlaw24.ModelOrder", spec := "modelOrder", unfollowed := true, recurses := true, plainKeys := false, apart := false, narrowed := true }
def ModelOrderUptoSaid : Prop := modelOrderUptoRow.holds Try.pinned (OpenSpec.upto modelOrderSpec)

/-- 'despatchlaw14.DiskTorn', WHERE WHAT IT READS IS OF BULK AT MOST 1048576: true; the input reads as it did. -/
def diskTornUptoRow : OpenClaim := { program := "ytfmjfojhcmmgcaa", sum := "7561055399074cd041a65808ecb3658da26c034e2bf6b089e20e8b80aa3a135e", func := "despatch/despatchlaw14.DiskTorn", spec := "diskTorn", unfollowed := true, recurses := true, plainKeys := false, apart := false, narrowed := true }
def DiskTornUptoSaid : Prop := diskTornUptoRow.holds Try.pinned (OpenSpec.upto diskTornSpec)

/-- 'despatchlaw14.DiskLasts', WHERE WHAT IT READS IS OF BULK AT MOST 1048576: true; the input reads as it did. -/
def diskLastsUptoRow : OpenClaim := { program := "ytfmjfojhcmmgcaa", sum := "7561055399074cd041a65808ecb3658da26c034e2bf6b089e20e8b80aa3a135e", func := "despatch/despatchlaw14.DiskLasts", spec := "diskLasts", unfollowed := true, recurses := true, plainKeys := false, apart := false, narrowed := true }
def DiskLastsUptoSaid : Prop := diskLastsUptoRow.holds Try.pinned (OpenSpec.upto diskLastsSpec)

/-- 'despatchlaw14.DiskCalls', WHERE WHAT IT READS IS OF BULK AT MOST 1048576: true; the input reads as it did. -/
def diskCallsUptoRow : OpenClaim := { program := "ytfmjfojhcmmgcaa", sum := "7561055399074cd041a65808ecb3658da26c034e2bf6b089e20e8b80aa3a135e", func := "despatch/despatchlaw14.DiskCalls", spec := "diskCalls", unfollowed := true, recurses := true, plainKeys := false, apart := false, narrowed := true }
def DiskCallsUptoSaid : Prop := diskCallsUptoRow.holds Try.pinned (OpenSpec.upto diskCallsSpec)

/-- 'despatchlaw08.LinesWhole', WHERE WHAT IT READS IS OF BULK AT MOST 1048576: true; the input reads as it did. -/
def linesWholeUptoRow : OpenClaim := { program := "ytfmjfojhcmmgcaa", sum := "7561055399074cd041a65808ecb3658da26c034e2bf6b089e20e8b80aa3a135e", func := "despatch/despatchlaw08.LinesWhole", spec := "linesWhole", inPlace := ["internal/bytealg.IndexByte", "internal/bytealg.Index"], named := ["internal/bytealg.MaxLen"], plainKeys := false, apart := false, narrowed := true }
def LinesWholeUptoSaid : Prop := linesWholeUptoRow.holds Try.pinned (OpenSpec.upto linesWholeSpec)

/-- 'despatchlaw08.LinesTold', WHERE WHAT IT READS IS OF BULK AT MOST 1048576: true; the input reads as it did. -/
def linesToldUptoRow : OpenClaim := { program := "ytfmjfojhcmmgcaa", sum := "7561055399074cd041a65808ecb3658da26c034e2bf6b089e20e8b80aa3a135e", func := "despatch/despatchlaw08.LinesTold", spec := "linesTold", inPlace := ["internal/bytealg.IndexByte", "internal/bytealg.Index"], named := ["internal/bytealg.MaxLen"], plainKeys := false, apart := false, narrowed := true }
def LinesToldUptoSaid : Prop := linesToldUptoRow.holds Try.pinned (OpenSpec.upto linesToldSpec)

/-- 'despatchlaw08.LinesJoins', WHERE WHAT IT READS IS OF BULK AT MOST 1048576: true; the input reads as it did. -/
def linesJoinsUptoRow : OpenClaim := { program := "ytfmjfojhcmmgcaa", sum := "7561055399074cd041a65808ecb3658da26c034e2bf6b089e20e8b80aa3a135e", func := "despatch/despatchlaw08.LinesJoins", spec := "linesJoins", inPlace := ["internal/bytealg.IndexByte", "internal/bytealg.Index"], named := ["internal/bytealg.MaxLen"], plainKeys := false, apart := false, narrowed := true }
def LinesJoinsUptoSaid : Prop := linesJoinsUptoRow.holds Try.pinned (OpenSpec.upto linesJoinsSpec)

/-- 'despatchlaw08.LinesStuff', WHERE WHAT IT READS IS OF BULK AT MOST 1048576: true; the input reads as it did. -/
def linesStuffUptoRow : OpenClaim := { program := "ytfmjfojhcmmgcaa", sum := "7561055399074cd041a65808ecb3658da26c034e2bf6b089e20e8b80aa3a135e", func := "despatch/despatchlaw08.LinesStuff", spec := "linesStuff", inPlace := ["internal/bytealg.IndexByte", "internal/bytealg.Index"], named := ["internal/bytealg.MaxLen"], plainKeys := false, apart := false, narrowed := true }
def LinesStuffUptoSaid : Prop := linesStuffUptoRow.holds Try.pinned (OpenSpec.upto linesStuffSpec)

/-- 'despatchlaw08.LinesBack', WHERE WHAT IT READS IS OF BULK AT MOST 1048576: true; the input reads as it did. -/
def linesBackUptoRow : OpenClaim := { program := "ytfmjfojhcmmgcaa", sum := "7561055399074cd041a65808ecb3658da26c034e2bf6b089e20e8b80aa3a135e", func := "despatch/despatchlaw08.LinesBack", spec := "linesBack", inPlace := ["internal/bytealg.IndexByte", "internal/bytealg.Index"], named := ["internal/bytealg.MaxLen"], plainKeys := false, apart := false, narrowed := true }
def LinesBackUptoSaid : Prop := linesBackUptoRow.holds Try.pinned (OpenSpec.upto linesBackSpec)

end Rows
end Go.Proofs.Ytfmjfojhcmmgcaa
