/-
  No cell of these rows narrows 'for every input' (looked for: loops, veiled, ifaces, maps, wideKeys, modest, calm, conditions, laid).
  DERIVED. THE GIVEN ROWS OF THIS SEAT. 7 by the template 'for every input the law returns true; each argument reads behind the call as it read before'; 0 by the template 'total and deterministic' (their statements: YthknnpojfhohbaaGreatTotals.lean).
  GIVEN WITH THE SEED: the statements are not yours to turn. If you find one false, say at which input.
  Laid BY PROGRAM, IN A SANDBOX (cutbox-rows.mjs): the forced cells as the released guide's own fill.sh prints them over the translation 80c20a9140ad0e10… (all of the seat's roots in one cut). By AI agents, Wed Nov 11 2026. No macro, syntax, notation, axiom, sorry.
-/
import Derived.Test.YthknnpojfhohbaaGreatChecked
import GoSem.Claim
import GoSem.ClaimJoined
import GoSem.ClaimMapViews
import Derived.JoinedTies
import Derived.KernelRfl
namespace Go.Proofs.YthknnpojfhohbaaGreat
/- THE CELL 'sum', in the pinned program and in every row, IS THE sha256 OF THE DUMP (.gsa) THAT YthknnpojfhohbaaGreatProg.lean LOADS. Nothing in Lean hashes anything: it is a label: what it is worth is what the hold of that sum in a sandbox is worth. -/
noncomputable def Tryz.pinned : Pinned := { name := "ythknnpojfhohbaagreat", sum := "80c20a9140ad0e105b934b4e3d4472c120e349f06ca0eb8b5783ae518627ac02", checked := Tryz.checked }
namespace Rows
def none {H : Type} : Left H := { results := [], args := [] }

/-- 'emulsionlaw16.BinderOnce': WHATEVER THE INPUT: true; the input reads as it did. -/
def binderOnceSpec : ChangeSpec := { name := "binderOnce", fn := fun _ => fun
  | [d] => { results := [.lit (.bool true)], args := [d] }
  | _ => none }
def binderOnceRow : OpenClaim := { program := "ythknnpojfhohbaagreat", sum := "80c20a9140ad0e105b934b4e3d4472c120e349f06ca0eb8b5783ae518627ac02", func := "emulsion/emulsionlaw16.BinderOnce", spec := "binderOnce", inPlace := ["internal/abi.NoEscape", "internal/bytealg.MakeNoZero", "maps.clone"], unfollowed := true, recurses := true, apart := false }
def BinderOnceSaid : Prop := binderOnceRow.holds Tryz.pinned (OpenSpec.ofChange binderOnceSpec)

/-- ITS FALSE NEIGHBOUR: 'it returns false'. Refute it at one input. -/
def binderOnceWrong : ChangeSpec := { name := "binderOnce", fn := fun _ => fun
  | [d] => { results := [.lit (.bool false)], args := [d] }
  | _ => none }
def BinderOnceWrongFalsely : Prop := binderOnceRow.holds Tryz.pinned (OpenSpec.ofChange binderOnceWrong)

/-- 'emulsionlaw16.BinderOpens': WHATEVER THE INPUT: true; the input reads as it did. -/
def binderOpensSpec : ChangeSpec := { name := "binderOpens", fn := fun _ => fun
  | [d] => { results := [.lit (.bool true)], args := [d] }
  | _ => none }
def binderOpensRow : OpenClaim := { program := "ythknnpojfhohbaagreat", sum := "80c20a9140ad0e105b934b4e3d4472c120e349f06ca0eb8b5783ae518627ac02", func := "emulsion/emulsionlaw16.BinderOpens", spec := "binderOpens", inPlace := ["internal/abi.NoEscape", "internal/bytealg.MakeNoZero", "maps.clone"], unfollowed := true, recurses := true, apart := false }
def BinderOpensSaid : Prop := binderOpensRow.holds Tryz.pinned (OpenSpec.ofChange binderOpensSpec)

/-- ITS FALSE NEIGHBOUR: 'it returns false'. Refute it at one input. -/
def binderOpensWrong : ChangeSpec := { name := "binderOpens", fn := fun _ => fun
  | [d] => { results := [.lit (.bool false)], args := [d] }
  | _ => none }
def BinderOpensWrongFalsely : Prop := binderOpensRow.holds Tryz.pinned (OpenSpec.ofChange binderOpensWrong)

/-- 'emulsionlaw16.BinderPages': WHATEVER THE INPUT: true; the input reads as it did. -/
def binderPagesSpec : ChangeSpec := { name := "binderPages", fn := fun _ => fun
  | [d] => { results := [.lit (.bool true)], args := [d] }
  | _ => none }
def binderPagesRow : OpenClaim := { program := "ythknnpojfhohbaagreat", sum := "80c20a9140ad0e105b934b4e3d4472c120e349f06ca0eb8b5783ae518627ac02", func := "emulsion/emulsionlaw16.BinderPages", spec := "binderPages", inPlace := ["internal/abi.NoEscape", "internal/bytealg.MakeNoZero", "maps.clone"], unfollowed := true, recurses := true, apart := false }
def BinderPagesSaid : Prop := binderPagesRow.holds Tryz.pinned (OpenSpec.ofChange binderPagesSpec)

/-- ITS FALSE NEIGHBOUR: 'it returns false'. Refute it at one input. -/
def binderPagesWrong : ChangeSpec := { name := "binderPages", fn := fun _ => fun
  | [d] => { results := [.lit (.bool false)], args := [d] }
  | _ => none }
def BinderPagesWrongFalsely : Prop := binderPagesRow.holds Tryz.pinned (OpenSpec.ofChange binderPagesWrong)

/-- 'emulsionlaw16.BinderFull': WHATEVER THE INPUT: true; the input reads as it did. -/
def binderFullSpec : ChangeSpec := { name := "binderFull", fn := fun _ => fun
  | [d1, d2] => { results := [.lit (.bool true)], args := [d1, d2] }
  | _ => none }
def binderFullRow : OpenClaim := { program := "ythknnpojfhohbaagreat", sum := "80c20a9140ad0e105b934b4e3d4472c120e349f06ca0eb8b5783ae518627ac02", func := "emulsion/emulsionlaw16.BinderFull", spec := "binderFull", inPlace := ["internal/abi.NoEscape", "internal/bytealg.MakeNoZero", "maps.clone"], unfollowed := true, recurses := true, apart := false }
def BinderFullSaid : Prop := binderFullRow.holds Tryz.pinned (OpenSpec.ofChange binderFullSpec)

/-- ITS FALSE NEIGHBOUR: 'it returns false'. Refute it at one input. -/
def binderFullWrong : ChangeSpec := { name := "binderFull", fn := fun _ => fun
  | [d1, d2] => { results := [.lit (.bool false)], args := [d1, d2] }
  | _ => none }
def BinderFullWrongFalsely : Prop := binderFullRow.holds Tryz.pinned (OpenSpec.ofChange binderFullWrong)

/-- 'emulsionlaw16.BinderLasts': WHATEVER THE INPUT: true; the input reads as it did. -/
def binderLastsSpec : ChangeSpec := { name := "binderLasts", fn := fun _ => fun
  | [d1, d2, d3, d4] => { results := [.lit (.bool true)], args := [d1, d2, d3, d4] }
  | _ => none }
def binderLastsRow : OpenClaim := { program := "ythknnpojfhohbaagreat", sum := "80c20a9140ad0e105b934b4e3d4472c120e349f06ca0eb8b5783ae518627ac02", func := "emulsion/emulsionlaw16.BinderLasts", spec := "binderLasts", inPlace := ["internal/abi.NoEscape", "internal/bytealg.MakeNoZero", "maps.clone"], unfollowed := true, recurses := true, apart := false }
def BinderLastsSaid : Prop := binderLastsRow.holds Tryz.pinned (OpenSpec.ofChange binderLastsSpec)

/-- ITS FALSE NEIGHBOUR: 'it returns false'. Refute it at one input. -/
def binderLastsWrong : ChangeSpec := { name := "binderLasts", fn := fun _ => fun
  | [d1, d2, d3, d4] => { results := [.lit (.bool false)], args := [d1, d2, d3, d4] }
  | _ => none }
def BinderLastsWrongFalsely : Prop := binderLastsRow.holds Tryz.pinned (OpenSpec.ofChange binderLastsWrong)

/-- 'emulsionlaw16.BinderRots': WHATEVER THE INPUT: true; the input reads as it did. -/
def binderRotsSpec : ChangeSpec := { name := "binderRots", fn := fun _ => fun
  | [d1, d2, d3, d4] => { results := [.lit (.bool true)], args := [d1, d2, d3, d4] }
  | _ => none }
def binderRotsRow : OpenClaim := { program := "ythknnpojfhohbaagreat", sum := "80c20a9140ad0e105b934b4e3d4472c120e349f06ca0eb8b5783ae518627ac02", func := "emulsion/emulsionlaw16.BinderRots", spec := "binderRots", inPlace := ["internal/abi.NoEscape", "internal/bytealg.MakeNoZero", "maps.clone"], unfollowed := true, recurses := true, apart := false }
def BinderRotsSaid : Prop := binderRotsRow.holds Tryz.pinned (OpenSpec.ofChange binderRotsSpec)

/-- ITS FALSE NEIGHBOUR: 'it returns false'. Refute it at one input. -/
def binderRotsWrong : ChangeSpec := { name := "binderRots", fn := fun _ => fun
  | [d1, d2, d3, d4] => { results := [.lit (.bool false)], args := [d1, d2, d3, d4] }
  | _ => none }
def BinderRotsWrongFalsely : Prop := binderRotsRow.holds Tryz.pinned (OpenSpec.ofChange binderRotsWrong)

/-- 'emulsionlaw16.BinderPlays': WHATEVER THE INPUT: true; the input reads as it did. -/
def binderPlaysSpec : ChangeSpec := { name := "binderPlays", fn := fun _ => fun
  | [d1, d2, d3] => { results := [.lit (.bool true)], args := [d1, d2, d3] }
  | _ => none }
def binderPlaysRow : OpenClaim := { program := "ythknnpojfhohbaagreat", sum := "80c20a9140ad0e105b934b4e3d4472c120e349f06ca0eb8b5783ae518627ac02", func := "emulsion/emulsionlaw16.BinderPlays", spec := "binderPlays", inPlace := ["internal/abi.NoEscape", "internal/bytealg.MakeNoZero", "maps.clone"], unfollowed := true, recurses := true, apart := false }
def BinderPlaysSaid : Prop := binderPlaysRow.holds Tryz.pinned (OpenSpec.ofChange binderPlaysSpec)

/-- ITS FALSE NEIGHBOUR: 'it returns false'. Refute it at one input. -/
def binderPlaysWrong : ChangeSpec := { name := "binderPlays", fn := fun _ => fun
  | [d1, d2, d3] => { results := [.lit (.bool false)], args := [d1, d2, d3] }
  | _ => none }
def BinderPlaysWrongFalsely : Prop := binderPlaysRow.holds Tryz.pinned (OpenSpec.ofChange binderPlaysWrong)

/- THE SECOND FORM. 'bulk': how many values and letters a reading holds, each counted each time it is reached (what is shared counts as often as it is met; a slice's spare places count too). A statement '..UptoSaid' is the law's where the arguments, and the package variables that the reading takes, are together of bulk at most 1048576: NARROWER than '..Said'. Prove '..Said' where nothing that the law and all that it calls make is longer than what came in: it says more and counts as full. Else prove '..UptoSaid'. A law counts once. -/
mutual
def uptoBulk {H : Type} : DataW H → Nat
  | .lit (.string bytes) => bytes.length + 1
  | .lit _ => 1
  | .nil => 1
  | .ptr d => uptoBulk d + 1
  | .slice elems spare => uptoBulkAll elems + uptoBulkAll spare + 1
  | .agg parts => uptoBulkAll parts + 1
  | .iface _ d => uptoBulk d + 1
  | .map entries => uptoBulkEntries entries + 1
  | .held _ => 1
def uptoBulkAll {H : Type} : List (DataW H) → Nat
  | [] => 0
  | d :: r => uptoBulk d + uptoBulkAll r
def uptoBulkEntries {H : Type} : List (Lit × DataW H) → Nat
  | [] => 0
  | x :: r => uptoBulkEntry x + uptoBulkEntries r
def uptoBulkEntry {H : Type} : Lit × DataW H → Nat
  | (.string bytes, d) => bytes.length + uptoBulk d + 1
  | (_, d) => uptoBulk d + 1
 end
def uptoSmall : (H : Type) → List (DataW H) → Bool := fun _ ds => decide (uptoBulkAll ds ≤ 1048576)
def OpenSpec.upto (s : _root_.Go.ChangeSpec) : _root_.Go.OpenSpec := { _root_.Go.OpenSpec.ofChange s with cond := some uptoSmall }

/-- 'emulsionlaw16.BinderOnce', WHERE WHAT IT READS IS OF BULK AT MOST 1048576: true; the input reads as it did. -/
def binderOnceUptoRow : OpenClaim := { program := "ythknnpojfhohbaagreat", sum := "80c20a9140ad0e105b934b4e3d4472c120e349f06ca0eb8b5783ae518627ac02", func := "emulsion/emulsionlaw16.BinderOnce", spec := "binderOnce", inPlace := ["internal/abi.NoEscape", "internal/bytealg.MakeNoZero", "maps.clone"], unfollowed := true, recurses := true, apart := false, narrowed := true }
def BinderOnceUptoSaid : Prop := binderOnceUptoRow.holds Tryz.pinned (OpenSpec.upto binderOnceSpec)

/-- 'emulsionlaw16.BinderOpens', WHERE WHAT IT READS IS OF BULK AT MOST 1048576: true; the input reads as it did. -/
def binderOpensUptoRow : OpenClaim := { program := "ythknnpojfhohbaagreat", sum := "80c20a9140ad0e105b934b4e3d4472c120e349f06ca0eb8b5783ae518627ac02", func := "emulsion/emulsionlaw16.BinderOpens", spec := "binderOpens", inPlace := ["internal/abi.NoEscape", "internal/bytealg.MakeNoZero", "maps.clone"], unfollowed := true, recurses := true, apart := false, narrowed := true }
def BinderOpensUptoSaid : Prop := binderOpensUptoRow.holds Tryz.pinned (OpenSpec.upto binderOpensSpec)

/-- 'emulsionlaw16.BinderPages', WHERE WHAT IT READS IS OF BULK AT MOST 1048576: true; the input reads as it did. -/
def binderPagesUptoRow : OpenClaim := { program := "ythknnpojfhohbaagreat", sum := "80c20a9140ad0e105b934b4e3d4472c120e349f06ca0eb8b5783ae518627ac02", func := "emulsion/emulsionlaw16.BinderPages", spec := "binderPages", inPlace := ["internal/abi.NoEscape", "internal/bytealg.MakeNoZero", "maps.clone"], unfollowed := true, recurses := true, apart := false, narrowed := true }
def BinderPagesUptoSaid : Prop := binderPagesUptoRow.holds Tryz.pinned (OpenSpec.upto binderPagesSpec)

/-- 'emulsionlaw16.BinderFull', WHERE WHAT IT READS IS OF BULK AT MOST 1048576: true; the input reads as it did. -/
def binderFullUptoRow : OpenClaim := { program := "ythknnpojfhohbaagreat", sum := "80c20a9140ad0e105b934b4e3d4472c120e349f06ca0eb8b5783ae518627ac02", func := "emulsion/emulsionlaw16.BinderFull", spec := "binderFull", inPlace := ["internal/abi.NoEscape", "internal/bytealg.MakeNoZero", "maps.clone"], unfollowed := true, recurses := true, apart := false, narrowed := true }
def BinderFullUptoSaid : Prop := binderFullUptoRow.holds Tryz.pinned (OpenSpec.upto binderFullSpec)

/-- 'emulsionlaw16.BinderLasts', WHERE WHAT IT READS IS OF BULK AT MOST 1048576: true; the input reads as it did. -/
def binderLastsUptoRow : OpenClaim := { program := "ythknnpojfhohbaagreat", sum := "80c20a9140ad0e105b934b4e3d4472c120e349f06ca0eb8b5783ae518627ac02", func := "emulsion/emulsionlaw16.BinderLasts", spec := "binderLasts", inPlace := ["internal/abi.NoEscape", "internal/bytealg.MakeNoZero", "maps.clone"], unfollowed := true, recurses := true, apart := false, narrowed := true }
def BinderLastsUptoSaid : Prop := binderLastsUptoRow.holds Tryz.pinned (OpenSpec.upto binderLastsSpec)

/-- 'emulsionlaw16.BinderRots', WHERE WHAT IT READS IS OF BULK AT MOST 1048576: true; the input reads as it did. -/
def binderRotsUptoRow : OpenClaim := { program := "ythknnpojfhohbaagreat", sum := "80c20a9140ad0e105b934b4e3d4472c120e349f06ca0eb8b5783ae518627ac02", func := "emulsion/emulsionlaw16.BinderRots", spec := "binderRots", inPlace := ["internal/abi.NoEscape", "internal/bytealg.MakeNoZero", "maps.clone"], unfollowed := true, recurses := true, apart := false, narrowed := true }
def BinderRotsUptoSaid : Prop := binderRotsUptoRow.holds Tryz.pinned (OpenSpec.upto binderRotsSpec)

/-- 'emulsionlaw16.BinderPlays', WHERE WHAT IT READS IS OF BULK AT MOST 1048576: true; the input reads as it did. -/
def binderPlaysUptoRow : OpenClaim := { program := "ythknnpojfhohbaagreat", sum := "80c20a9140ad0e105b934b4e3d4472c120e349f06ca0eb8b5783ae518627ac02", func := "emulsion/emulsionlaw16.BinderPlays", spec := "binderPlays", inPlace := ["internal/abi.NoEscape", "internal/bytealg.MakeNoZero", "maps.clone"], unfollowed := true, recurses := true, apart := false, narrowed := true }
def BinderPlaysUptoSaid : Prop := binderPlaysUptoRow.holds Tryz.pinned (OpenSpec.upto binderPlaysSpec)

end Rows
end Go.Proofs.YthknnpojfhohbaaGreat
