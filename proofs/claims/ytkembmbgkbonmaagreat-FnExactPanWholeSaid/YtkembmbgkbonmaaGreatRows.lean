/-
  No cell of these rows narrows 'for every input' (looked for: loops, veiled, ifaces, maps, wideKeys, modest, calm, conditions, laid).
  DERIVED. THE GIVEN ROWS OF THIS SEAT. 5 by the template 'for every input the law returns true; each argument reads behind the call as it read before'; 0 by the template 'total and deterministic' (their statements: YtkembmbgkbonmaaGreatTotals.lean).
  GIVEN WITH THE SEED: the statements are not yours to turn. If you find one false, say at which input.
  Laid BY PROGRAM, IN A SANDBOX (cutbox-rows.mjs): the forced cells as the released guide's own fill.sh prints them over the translation 26de99f783796eda… (all of the seat's roots in one cut). By AI agents, Wed Nov 11 2026. No macro, syntax, notation, axiom, sorry.
-/
import Derived.Test.YtkembmbgkbonmaaGreatChecked
import GoSem.Claim
import GoSem.ClaimJoined
import GoSem.ClaimMapViews
import Derived.JoinedTies
import Derived.KernelRfl
namespace Go.Proofs.YtkembmbgkbonmaaGreat
/- THE CELL 'sum', in the pinned program and in every row, IS THE sha256 OF THE DUMP (.gsa) THAT YtkembmbgkbonmaaGreatProg.lean LOADS. Nothing in Lean hashes anything: it is a label: what it is worth is what the hold of that sum in a sandbox is worth. -/
noncomputable def Tryz.pinned : Pinned := { name := "ytkembmbgkbonmaagreat", sum := "26de99f783796edaa5fa7e081c99a552b69648181ca2b4959f2d3524ef8454ca", checked := Tryz.checked }
namespace Rows
def none {H : Type} : Left H := { results := [], args := [] }

/-- 'laws.FnExactPanSafe': WHATEVER THE INPUT: true; the input reads as it did. -/
def fnExactPanSafeSpec : ChangeSpec := { name := "fnExactPanSafe", fn := fun _ => fun
  | [d] => { results := [.lit (.bool true)], args := [d] }
  | _ => none }
def fnExactPanSafeRow : OpenClaim := { program := "ytkembmbgkbonmaagreat", sum := "26de99f783796edaa5fa7e081c99a552b69648181ca2b4959f2d3524ef8454ca", func := "loop.example/pannier/laws.FnExactPanSafe", spec := "fnExactPanSafe", apart := false }
def FnExactPanSafeSaid : Prop := fnExactPanSafeRow.holds Tryz.pinned (OpenSpec.ofChange fnExactPanSafeSpec)

/-- ITS FALSE NEIGHBOUR: 'it returns false'. Refute it at one input. -/
def fnExactPanSafeWrong : ChangeSpec := { name := "fnExactPanSafe", fn := fun _ => fun
  | [d] => { results := [.lit (.bool false)], args := [d] }
  | _ => none }
def FnExactPanSafeWrongFalsely : Prop := fnExactPanSafeRow.holds Tryz.pinned (OpenSpec.ofChange fnExactPanSafeWrong)

/-- 'laws.FnExactPanWhole': WHATEVER THE INPUT: true; the input reads as it did. -/
def fnExactPanWholeSpec : ChangeSpec := { name := "fnExactPanWhole", fn := fun _ => fun
  | [d] => { results := [.lit (.bool true)], args := [d] }
  | _ => none }
def fnExactPanWholeRow : OpenClaim := { program := "ytkembmbgkbonmaagreat", sum := "26de99f783796edaa5fa7e081c99a552b69648181ca2b4959f2d3524ef8454ca", func := "loop.example/pannier/laws.FnExactPanWhole", spec := "fnExactPanWhole", apart := false }
def FnExactPanWholeSaid : Prop := fnExactPanWholeRow.holds Tryz.pinned (OpenSpec.ofChange fnExactPanWholeSpec)

/-- ITS FALSE NEIGHBOUR: 'it returns false'. Refute it at one input. -/
def fnExactPanWholeWrong : ChangeSpec := { name := "fnExactPanWhole", fn := fun _ => fun
  | [d] => { results := [.lit (.bool false)], args := [d] }
  | _ => none }
def FnExactPanWholeWrongFalsely : Prop := fnExactPanWholeRow.holds Tryz.pinned (OpenSpec.ofChange fnExactPanWholeWrong)

/-- 'laws.FnSrvSeek': WHATEVER THE INPUT: true; the input reads as it did. -/
def fnSrvSeekSpec : ChangeSpec := { name := "fnSrvSeek", fn := fun _ => fun
  | [d] => { results := [.lit (.bool true)], args := [d] }
  | _ => none }
def fnSrvSeekRow : OpenClaim := { program := "ytkembmbgkbonmaagreat", sum := "26de99f783796edaa5fa7e081c99a552b69648181ca2b4959f2d3524ef8454ca", func := "loop.example/pannier/laws.FnSrvSeek", spec := "fnSrvSeek", apart := false }
def FnSrvSeekSaid : Prop := fnSrvSeekRow.holds Tryz.pinned (OpenSpec.ofChange fnSrvSeekSpec)

/-- ITS FALSE NEIGHBOUR: 'it returns false'. Refute it at one input. -/
def fnSrvSeekWrong : ChangeSpec := { name := "fnSrvSeek", fn := fun _ => fun
  | [d] => { results := [.lit (.bool false)], args := [d] }
  | _ => none }
def FnSrvSeekWrongFalsely : Prop := fnSrvSeekRow.holds Tryz.pinned (OpenSpec.ofChange fnSrvSeekWrong)

/-- 'laws.FnSrvOne': WHATEVER THE INPUT: true; the input reads as it did. -/
def fnSrvOneSpec : ChangeSpec := { name := "fnSrvOne", fn := fun _ => fun
  | [d1, d2] => { results := [.lit (.bool true)], args := [d1, d2] }
  | _ => none }
def fnSrvOneRow : OpenClaim := { program := "ytkembmbgkbonmaagreat", sum := "26de99f783796edaa5fa7e081c99a552b69648181ca2b4959f2d3524ef8454ca", func := "loop.example/pannier/laws.FnSrvOne", spec := "fnSrvOne", apart := false }
def FnSrvOneSaid : Prop := fnSrvOneRow.holds Tryz.pinned (OpenSpec.ofChange fnSrvOneSpec)

/-- ITS FALSE NEIGHBOUR: 'it returns false'. Refute it at one input. -/
def fnSrvOneWrong : ChangeSpec := { name := "fnSrvOne", fn := fun _ => fun
  | [d1, d2] => { results := [.lit (.bool false)], args := [d1, d2] }
  | _ => none }
def FnSrvOneWrongFalsely : Prop := fnSrvOneRow.holds Tryz.pinned (OpenSpec.ofChange fnSrvOneWrong)

/-- 'laws.FnSrvFall': WHATEVER THE INPUT: true; the input reads as it did. -/
def fnSrvFallSpec : ChangeSpec := { name := "fnSrvFall", fn := fun _ => fun
  | [d] => { results := [.lit (.bool true)], args := [d] }
  | _ => none }
def fnSrvFallRow : OpenClaim := { program := "ytkembmbgkbonmaagreat", sum := "26de99f783796edaa5fa7e081c99a552b69648181ca2b4959f2d3524ef8454ca", func := "loop.example/pannier/laws.FnSrvFall", spec := "fnSrvFall", apart := false }
def FnSrvFallSaid : Prop := fnSrvFallRow.holds Tryz.pinned (OpenSpec.ofChange fnSrvFallSpec)

/-- ITS FALSE NEIGHBOUR: 'it returns false'. Refute it at one input. -/
def fnSrvFallWrong : ChangeSpec := { name := "fnSrvFall", fn := fun _ => fun
  | [d] => { results := [.lit (.bool false)], args := [d] }
  | _ => none }
def FnSrvFallWrongFalsely : Prop := fnSrvFallRow.holds Tryz.pinned (OpenSpec.ofChange fnSrvFallWrong)

/- THE SECOND FORM. 'bulk': how many values and letters a reading holds, each counted each time it is reached (what is shared counts as often as it is met; a slice's spare places count too). A statement '..UptoSaid' is the law's where the arguments, and the package variables that the reading takes, are together of bulk at most 1048576: NARROWER than '..Said'. Prove '..Said' where nothing that the law and all that it calls make is longer than what came in: it says more and counts as full. Else prove '..UptoSaid'. A law counts once. -/
mutual
def uptoBulk {H : Type} : DataW H → Nat
  | .lit (.string bytes) => bytes.length + 1
  | .lit _ => 1
  | .nil => 1
  | .ptr d => uptoBulk d + 1
  | .slice elems spare => uptoBulkAll elems + uptoBulkAll spare + 1
  | .agg parts => uptoBulkAll parts + 1
  | .iface _ d => uptoBulk d + 1
  | .map entries => uptoBulkEntries entries + 1
  | .held _ => 1
def uptoBulkAll {H : Type} : List (DataW H) → Nat
  | [] => 0
  | d :: r => uptoBulk d + uptoBulkAll r
def uptoBulkEntries {H : Type} : List (Lit × DataW H) → Nat
  | [] => 0
  | x :: r => uptoBulkEntry x + uptoBulkEntries r
def uptoBulkEntry {H : Type} : Lit × DataW H → Nat
  | (.string bytes, d) => bytes.length + uptoBulk d + 1
  | (_, d) => uptoBulk d + 1
 end
def uptoSmall : (H : Type) → List (DataW H) → Bool := fun _ ds => decide (uptoBulkAll ds ≤ 1048576)
def OpenSpec.upto (s : _root_.Go.ChangeSpec) : _root_.Go.OpenSpec := { _root_.Go.OpenSpec.ofChange s with cond := some uptoSmall }

/-- 'laws.FnExactPanSafe', WHERE WHAT IT READS IS OF BULK AT MOST 1048576: true; the input reads as it did. -/
def fnExactPanSafeUptoRow : OpenClaim := { program := "ytkembmbgkbonmaagreat", sum := "26de99f783796edaa5fa7e081c99a552b69648181ca2b4959f2d3524ef8454ca", func := "loop.example/pannier/laws.FnExactPanSafe", spec := "fnExactPanSafe", apart := false, narrowed := true }
def FnExactPanSafeUptoSaid : Prop := fnExactPanSafeUptoRow.holds Tryz.pinned (OpenSpec.upto fnExactPanSafeSpec)

/-- 'laws.FnExactPanWhole', WHERE WHAT IT READS IS OF BULK AT MOST 1048576: true; the input reads as it did. -/
def fnExactPanWholeUptoRow : OpenClaim := { program := "ytkembmbgkbonmaagreat", sum := "26de99f783796edaa5fa7e081c99a552b69648181ca2b4959f2d3524ef8454ca", func := "loop.example/pannier/laws.FnExactPanWhole", spec := "fnExactPanWhole", apart := false, narrowed := true }
def FnExactPanWholeUptoSaid : Prop := fnExactPanWholeUptoRow.holds Tryz.pinned (OpenSpec.upto fnExactPanWholeSpec)

/-- 'laws.FnSrvSeek', WHERE WHAT IT READS IS OF BULK AT MOST 1048576: true; the input reads as it did. -/
def fnSrvSeekUptoRow : OpenClaim := { program := "ytkembmbgkbonmaagreat", sum := "26de99f783796edaa5fa7e081c99a552b69648181ca2b4959f2d3524ef8454ca", func := "loop.example/pannier/laws.FnSrvSeek", spec := "fnSrvSeek", apart := false, narrowed := true }
def FnSrvSeekUptoSaid : Prop := fnSrvSeekUptoRow.holds Tryz.pinned (OpenSpec.upto fnSrvSeekSpec)

/-- 'laws.FnSrvOne', WHERE WHAT IT READS IS OF BULK AT MOST 1048576: true; the input reads as it did. -/
def fnSrvOneUptoRow : OpenClaim := { program := "ytkembmbgkbonmaagreat", sum := "26de99f783796edaa5fa7e081c99a552b69648181ca2b4959f2d3524ef8454ca", func := "loop.example/pannier/laws.FnSrvOne", spec := "fnSrvOne", apart := false, narrowed := true }
def FnSrvOneUptoSaid : Prop := fnSrvOneUptoRow.holds Tryz.pinned (OpenSpec.upto fnSrvOneSpec)

/-- 'laws.FnSrvFall', WHERE WHAT IT READS IS OF BULK AT MOST 1048576: true; the input reads as it did. -/
def fnSrvFallUptoRow : OpenClaim := { program := "ytkembmbgkbonmaagreat", sum := "26de99f783796edaa5fa7e081c99a552b69648181ca2b4959f2d3524ef8454ca", func := "loop.example/pannier/laws.FnSrvFall", spec := "fnSrvFall", apart := false, narrowed := true }
def FnSrvFallUptoSaid : Prop := fnSrvFallUptoRow.holds Tryz.pinned (OpenSpec.upto fnSrvFallSpec)

end Rows
end Go.Proofs.YtkembmbgkbonmaaGreat
