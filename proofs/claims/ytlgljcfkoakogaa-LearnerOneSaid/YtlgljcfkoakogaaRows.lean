/-
  No cell of these rows narrows 'for every input' (looked for: loops, veiled, ifaces, maps, wideKeys, modest, calm, conditions, laid).
  DERIVED. THE GIVEN ROWS OF THIS SEAT. 14 by the template 'for every input the law returns true; each argument reads behind the call as it read before'; 0 by the template 'total and deterministic' (their statements: YtlgljcfkoakogaaTotals.lean).
  GIVEN WITH THE SEED: the statements are not yours to turn. If you find one false, say at which input.
  Laid BY PROGRAM, IN A SANDBOX (cutbox-rows.mjs): the forced cells as the released guide's own fill.sh prints them over the translation f9db05c14febbe16… (all of the seat's roots in one cut). By AI agents, Wed Nov 11 2026. No macro, syntax, notation, axiom, sorry.
-/
import Derived.Test.YtlgljcfkoakogaaChecked
import GoSem.Claim
import GoSem.ClaimJoined
import GoSem.ClaimMapViews
import Derived.JoinedTies
import Derived.KernelRfl
namespace Go.Proofs.Ytlgljcfkoakogaa
/- THE CELL 'sum', in the pinned program and in every row, IS THE sha256 OF THE DUMP (.gsa) THAT YtlgljcfkoakogaaProg.lean LOADS. Nothing in Lean hashes anything: it is a label: what it is worth is what the hold of that sum in a sandbox is worth. -/
noncomputable def Try.pinned : Pinned := { name := "ytlgljcfkoakogaa", sum := "f9db05c14febbe1616abeae4acc90e58c4d42d1f10ea34d958d5310168a9e5e1", checked := Try.checked }
namespace Rows
def none {H : Type} : Left H := { results := [], args := [] }

/-- 'reevelaw11.BallotTells': WHATEVER THE INPUT: true; the input reads as it did. -/
def ballotTellsSpec : ChangeSpec := { name := "ballotTells", fn := fun _ => fun
  | [d1, d2, d3, d4, d5] => { results := [.lit (.bool true)], args := [d1, d2, d3, d4, d5] }
  | _ => none }
def ballotTellsRow : OpenClaim := { program := "ytlgljcfkoakogaa", sum := "f9db05c14febbe1616abeae4acc90e58c4d42d1f10ea34d958d5310168a9e5e1", func := "reeve/reevelaw11.BallotTells", spec := "ballotTells", unfollowed := true, recurses := true, plainKeys := false, apart := false }
def BallotTellsSaid : Prop := ballotTellsRow.holds Try.pinned (OpenSpec.ofChange ballotTellsSpec)

/-- ITS FALSE NEIGHBOUR: 'it returns false'. Refute it at one input. -/
def ballotTellsWrong : ChangeSpec := { name := "ballotTells", fn := fun _ => fun
  | [d1, d2, d3, d4, d5] => { results := [.lit (.bool false)], args := [d1, d2, d3, d4, d5] }
  | _ => none }
def BallotTellsWrongFalsely : Prop := ballotTellsRow.holds Try.pinned (OpenSpec.ofChange ballotTellsWrong)

/-- 'reevelaw11.BallotRow': WHATEVER THE INPUT: true; the input reads as it did. -/
def ballotRowSpec : ChangeSpec := { name := "ballotRow", fn := fun _ => fun
  | [d1, d2, d3, d4] => { results := [.lit (.bool true)], args := [d1, d2, d3, d4] }
  | _ => none }
def ballotRowRow : OpenClaim := { program := "ytlgljcfkoakogaa", sum := "f9db05c14febbe1616abeae4acc90e58c4d42d1f10ea34d958d5310168a9e5e1", func := "reeve/reevelaw11.BallotRow", spec := "ballotRow", unfollowed := true, recurses := true, plainKeys := false, apart := false }
def BallotRowSaid : Prop := ballotRowRow.holds Try.pinned (OpenSpec.ofChange ballotRowSpec)

/-- ITS FALSE NEIGHBOUR: 'it returns false'. Refute it at one input. -/
def ballotRowWrong : ChangeSpec := { name := "ballotRow", fn := fun _ => fun
  | [d1, d2, d3, d4] => { results := [.lit (.bool false)], args := [d1, d2, d3, d4] }
  | _ => none }
def BallotRowWrongFalsely : Prop := ballotRowRow.holds Try.pinned (OpenSpec.ofChange ballotRowWrong)

/-- 'reevelaw11.BallotMeet': WHATEVER THE INPUT: true; the input reads as it did. -/
def ballotMeetSpec : ChangeSpec := { name := "ballotMeet", fn := fun _ => fun
  | [d1, d2, d3] => { results := [.lit (.bool true)], args := [d1, d2, d3] }
  | _ => none }
def ballotMeetRow : OpenClaim := { program := "ytlgljcfkoakogaa", sum := "f9db05c14febbe1616abeae4acc90e58c4d42d1f10ea34d958d5310168a9e5e1", func := "reeve/reevelaw11.BallotMeet", spec := "ballotMeet", unfollowed := true, recurses := true, plainKeys := false, apart := false }
def BallotMeetSaid : Prop := ballotMeetRow.holds Try.pinned (OpenSpec.ofChange ballotMeetSpec)

/-- ITS FALSE NEIGHBOUR: 'it returns false'. Refute it at one input. -/
def ballotMeetWrong : ChangeSpec := { name := "ballotMeet", fn := fun _ => fun
  | [d1, d2, d3] => { results := [.lit (.bool false)], args := [d1, d2, d3] }
  | _ => none }
def BallotMeetWrongFalsely : Prop := ballotMeetRow.holds Try.pinned (OpenSpec.ofChange ballotMeetWrong)

/-- 'reevelaw11.BallotChain': WHATEVER THE INPUT: true; the input reads as it did. -/
def ballotChainSpec : ChangeSpec := { name := "ballotChain", fn := fun _ => fun
  | [d1, d2] => { results := [.lit (.bool true)], args := [d1, d2] }
  | _ => none }
def ballotChainRow : OpenClaim := { program := "ytlgljcfkoakogaa", sum := "f9db05c14febbe1616abeae4acc90e58c4d42d1f10ea34d958d5310168a9e5e1", func := "reeve/reevelaw11.BallotChain", spec := "ballotChain", unfollowed := true, recurses := true, plainKeys := false, apart := false }
def BallotChainSaid : Prop := ballotChainRow.holds Try.pinned (OpenSpec.ofChange ballotChainSpec)

/-- ITS FALSE NEIGHBOUR: 'it returns false'. Refute it at one input. -/
def ballotChainWrong : ChangeSpec := { name := "ballotChain", fn := fun _ => fun
  | [d1, d2] => { results := [.lit (.bool false)], args := [d1, d2] }
  | _ => none }
def BallotChainWrongFalsely : Prop := ballotChainRow.holds Try.pinned (OpenSpec.ofChange ballotChainWrong)

/-- 'reevelaw12.AcceptorNone': WHATEVER THE INPUT: true; the input reads as it did. -/
def acceptorNoneSpec : ChangeSpec := { name := "acceptorNone", fn := fun _ => fun
  | [d1, d2] => { results := [.lit (.bool true)], args := [d1, d2] }
  | _ => none }
def acceptorNoneRow : OpenClaim := { program := "ytlgljcfkoakogaa", sum := "f9db05c14febbe1616abeae4acc90e58c4d42d1f10ea34d958d5310168a9e5e1", func := "reeve/reevelaw12.AcceptorNone", spec := "acceptorNone", unfollowed := true, recurses := true, plainKeys := false, apart := false }
def AcceptorNoneSaid : Prop := acceptorNoneRow.holds Try.pinned (OpenSpec.ofChange acceptorNoneSpec)

/-- ITS FALSE NEIGHBOUR: 'it returns false'. Refute it at one input. -/
def acceptorNoneWrong : ChangeSpec := { name := "acceptorNone", fn := fun _ => fun
  | [d1, d2] => { results := [.lit (.bool false)], args := [d1, d2] }
  | _ => none }
def AcceptorNoneWrongFalsely : Prop := acceptorNoneRow.holds Try.pinned (OpenSpec.ofChange acceptorNoneWrong)

/-- 'reevelaw12.AcceptorLast': WHATEVER THE INPUT: true; the input reads as it did. -/
def acceptorLastSpec : ChangeSpec := { name := "acceptorLast", fn := fun _ => fun
  | [d] => { results := [.lit (.bool true)], args := [d] }
  | _ => none }
def acceptorLastRow : OpenClaim := { program := "ytlgljcfkoakogaa", sum := "f9db05c14febbe1616abeae4acc90e58c4d42d1f10ea34d958d5310168a9e5e1", func := "reeve/reevelaw12.AcceptorLast", spec := "acceptorLast", unfollowed := true, recurses := true, plainKeys := false, apart := false }
def AcceptorLastSaid : Prop := acceptorLastRow.holds Try.pinned (OpenSpec.ofChange acceptorLastSpec)

/-- ITS FALSE NEIGHBOUR: 'it returns false'. Refute it at one input. -/
def acceptorLastWrong : ChangeSpec := { name := "acceptorLast", fn := fun _ => fun
  | [d] => { results := [.lit (.bool false)], args := [d] }
  | _ => none }
def AcceptorLastWrongFalsely : Prop := acceptorLastRow.holds Try.pinned (OpenSpec.ofChange acceptorLastWrong)

/-- 'reevelaw12.AcceptorPlays': WHATEVER THE INPUT: true; the input reads as it did. -/
def acceptorPlaysSpec : ChangeSpec := { name := "acceptorPlays", fn := fun _ => fun
  | [d1, d2, d3] => { results := [.lit (.bool true)], args := [d1, d2, d3] }
  | _ => none }
def acceptorPlaysRow : OpenClaim := { program := "ytlgljcfkoakogaa", sum := "f9db05c14febbe1616abeae4acc90e58c4d42d1f10ea34d958d5310168a9e5e1", func := "reeve/reevelaw12.AcceptorPlays", spec := "acceptorPlays", unfollowed := true, recurses := true, plainKeys := false, apart := false }
def AcceptorPlaysSaid : Prop := acceptorPlaysRow.holds Try.pinned (OpenSpec.ofChange acceptorPlaysSpec)

/-- ITS FALSE NEIGHBOUR: 'it returns false'. Refute it at one input. -/
def acceptorPlaysWrong : ChangeSpec := { name := "acceptorPlays", fn := fun _ => fun
  | [d1, d2, d3] => { results := [.lit (.bool false)], args := [d1, d2, d3] }
  | _ => none }
def AcceptorPlaysWrongFalsely : Prop := acceptorPlaysRow.holds Try.pinned (OpenSpec.ofChange acceptorPlaysWrong)

/-- 'reevelaw12.AcceptorKeeps': WHATEVER THE INPUT: true; the input reads as it did. -/
def acceptorKeepsSpec : ChangeSpec := { name := "acceptorKeeps", fn := fun _ => fun
  | [d] => { results := [.lit (.bool true)], args := [d] }
  | _ => none }
def acceptorKeepsRow : OpenClaim := { program := "ytlgljcfkoakogaa", sum := "f9db05c14febbe1616abeae4acc90e58c4d42d1f10ea34d958d5310168a9e5e1", func := "reeve/reevelaw12.AcceptorKeeps", spec := "acceptorKeeps", unfollowed := true, recurses := true, plainKeys := false, apart := false }
def AcceptorKeepsSaid : Prop := acceptorKeepsRow.holds Try.pinned (OpenSpec.ofChange acceptorKeepsSpec)

/-- ITS FALSE NEIGHBOUR: 'it returns false'. Refute it at one input. -/
def acceptorKeepsWrong : ChangeSpec := { name := "acceptorKeeps", fn := fun _ => fun
  | [d] => { results := [.lit (.bool false)], args := [d] }
  | _ => none }
def AcceptorKeepsWrongFalsely : Prop := acceptorKeepsRow.holds Try.pinned (OpenSpec.ofChange acceptorKeepsWrong)

/-- 'reevelaw14.LearnerPlays': WHATEVER THE INPUT: true; the input reads as it did. -/
def learnerPlaysSpec : ChangeSpec := { name := "learnerPlays", fn := fun _ => fun
  | [d1, d2] => { results := [.lit (.bool true)], args := [d1, d2] }
  | _ => none }
def learnerPlaysRow : OpenClaim := { program := "ytlgljcfkoakogaa", sum := "f9db05c14febbe1616abeae4acc90e58c4d42d1f10ea34d958d5310168a9e5e1", func := "reeve/reevelaw14.LearnerPlays", spec := "learnerPlays", unfollowed := true, recurses := true, plainKeys := false, apart := false }
def LearnerPlaysSaid : Prop := learnerPlaysRow.holds Try.pinned (OpenSpec.ofChange learnerPlaysSpec)

/-- ITS FALSE NEIGHBOUR: 'it returns false'. Refute it at one input. -/
def learnerPlaysWrong : ChangeSpec := { name := "learnerPlays", fn := fun _ => fun
  | [d1, d2] => { results := [.lit (.bool false)], args := [d1, d2] }
  | _ => none }
def LearnerPlaysWrongFalsely : Prop := learnerPlaysRow.holds Try.pinned (OpenSpec.ofChange learnerPlaysWrong)

/-- 'reevelaw14.LearnerNone': WHATEVER THE INPUT: true; the input reads as it did. -/
def learnerNoneSpec : ChangeSpec := { name := "learnerNone", fn := fun _ => fun
  | [d1, d2, d3] => { results := [.lit (.bool true)], args := [d1, d2, d3] }
  | _ => none }
def learnerNoneRow : OpenClaim := { program := "ytlgljcfkoakogaa", sum := "f9db05c14febbe1616abeae4acc90e58c4d42d1f10ea34d958d5310168a9e5e1", func := "reeve/reevelaw14.LearnerNone", spec := "learnerNone", unfollowed := true, recurses := true, plainKeys := false, apart := false }
def LearnerNoneSaid : Prop := learnerNoneRow.holds Try.pinned (OpenSpec.ofChange learnerNoneSpec)

/-- ITS FALSE NEIGHBOUR: 'it returns false'. Refute it at one input. -/
def learnerNoneWrong : ChangeSpec := { name := "learnerNone", fn := fun _ => fun
  | [d1, d2, d3] => { results := [.lit (.bool false)], args := [d1, d2, d3] }
  | _ => none }
def LearnerNoneWrongFalsely : Prop := learnerNoneRow.holds Try.pinned (OpenSpec.ofChange learnerNoneWrong)

/-- 'reevelaw14.LearnerOrder': WHATEVER THE INPUT: true; the input reads as it did. -/
def learnerOrderSpec : ChangeSpec := { name := "learnerOrder", fn := fun _ => fun
  | [d1, d2, d3, d4] => { results := [.lit (.bool true)], args := [d1, d2, d3, d4] }
  | _ => none }
def learnerOrderRow : OpenClaim := { program := "ytlgljcfkoakogaa", sum := "f9db05c14febbe1616abeae4acc90e58c4d42d1f10ea34d958d5310168a9e5e1", func := "reeve/reevelaw14.LearnerOrder", spec := "learnerOrder", unfollowed := true, recurses := true, plainKeys := false, apart := false }
def LearnerOrderSaid : Prop := learnerOrderRow.holds Try.pinned (OpenSpec.ofChange learnerOrderSpec)

/-- ITS FALSE NEIGHBOUR: 'it returns false'. Refute it at one input. -/
def learnerOrderWrong : ChangeSpec := { name := "learnerOrder", fn := fun _ => fun
  | [d1, d2, d3, d4] => { results := [.lit (.bool false)], args := [d1, d2, d3, d4] }
  | _ => none }
def LearnerOrderWrongFalsely : Prop := learnerOrderRow.holds Try.pinned (OpenSpec.ofChange learnerOrderWrong)

/-- 'reevelaw13.ProposerNone': WHATEVER THE INPUT: true; the input reads as it did. -/
def proposerNoneSpec : ChangeSpec := { name := "proposerNone", fn := fun _ => fun
  | [d1, d2] => { results := [.lit (.bool true)], args := [d1, d2] }
  | _ => none }
def proposerNoneRow : OpenClaim := { program := "ytlgljcfkoakogaa", sum := "f9db05c14febbe1616abeae4acc90e58c4d42d1f10ea34d958d5310168a9e5e1", func := "reeve/reevelaw13.ProposerNone", spec := "proposerNone", unfollowed := true, recurses := true, plainKeys := false, apart := false }
def ProposerNoneSaid : Prop := proposerNoneRow.holds Try.pinned (OpenSpec.ofChange proposerNoneSpec)

/-- ITS FALSE NEIGHBOUR: 'it returns false'. Refute it at one input. -/
def proposerNoneWrong : ChangeSpec := { name := "proposerNone", fn := fun _ => fun
  | [d1, d2] => { results := [.lit (.bool false)], args := [d1, d2] }
  | _ => none }
def ProposerNoneWrongFalsely : Prop := proposerNoneRow.holds Try.pinned (OpenSpec.ofChange proposerNoneWrong)

/-- 'reevelaw13.ProposerOne': WHATEVER THE INPUT: true; the input reads as it did. -/
def proposerOneSpec : ChangeSpec := { name := "proposerOne", fn := fun _ => fun
  | [d1, d2, d3] => { results := [.lit (.bool true)], args := [d1, d2, d3] }
  | _ => none }
def proposerOneRow : OpenClaim := { program := "ytlgljcfkoakogaa", sum := "f9db05c14febbe1616abeae4acc90e58c4d42d1f10ea34d958d5310168a9e5e1", func := "reeve/reevelaw13.ProposerOne", spec := "proposerOne", unfollowed := true, recurses := true, plainKeys := false, apart := false }
def ProposerOneSaid : Prop := proposerOneRow.holds Try.pinned (OpenSpec.ofChange proposerOneSpec)

/-- ITS FALSE NEIGHBOUR: 'it returns false'. Refute it at one input. -/
def proposerOneWrong : ChangeSpec := { name := "proposerOne", fn := fun _ => fun
  | [d1, d2, d3] => { results := [.lit (.bool false)], args := [d1, d2, d3] }
  | _ => none }
def ProposerOneWrongFalsely : Prop := proposerOneRow.holds Try.pinned (OpenSpec.ofChange proposerOneWrong)

/-- 'reevelaw14.LearnerOne': WHATEVER THE INPUT: true; the input reads as it did. -/
def learnerOneSpec : ChangeSpec := { name := "learnerOne", fn := fun _ => fun
  | [d1, d2] => { results := [.lit (.bool true)], args := [d1, d2] }
  | _ => none }
def learnerOneRow : OpenClaim := { program := "ytlgljcfkoakogaa", sum := "f9db05c14febbe1616abeae4acc90e58c4d42d1f10ea34d958d5310168a9e5e1", func := "reeve/reevelaw14.LearnerOne", spec := "learnerOne", unfollowed := true, recurses := true, plainKeys := false, apart := false }
def LearnerOneSaid : Prop := learnerOneRow.holds Try.pinned (OpenSpec.ofChange learnerOneSpec)

/-- ITS FALSE NEIGHBOUR: 'it returns false'. Refute it at one input. -/
def learnerOneWrong : ChangeSpec := { name := "learnerOne", fn := fun _ => fun
  | [d1, d2] => { results := [.lit (.bool false)], args := [d1, d2] }
  | _ => none }
def LearnerOneWrongFalsely : Prop := learnerOneRow.holds Try.pinned (OpenSpec.ofChange learnerOneWrong)

/- THE SECOND FORM. 'bulk': how many values and letters a reading holds, each counted each time it is reached (what is shared counts as often as it is met; a slice's spare places count too). A statement '..UptoSaid' is the law's where the arguments, and the package variables that the reading takes, are together of bulk at most 1048576: NARROWER than '..Said'. Prove '..Said' where nothing that the law and all that it calls make is longer than what came in: it says more and counts as full. Else prove '..UptoSaid'. A law counts once. -/
mutual
def uptoBulk {H : Type} : DataW H → Nat
  | .lit (.string bytes) => bytes.length + 1
  | .lit _ => 1
  | .nil => 1
  | .ptr d => uptoBulk d + 1
  | .slice elems spare => uptoBulkAll elems + uptoBulkAll spare + 1
  | .agg parts => uptoBulkAll parts + 1
  | .iface _ d => uptoBulk d + 1
  | .map entries => uptoBulkEntries entries + 1
  | .held _ => 1
def uptoBulkAll {H : Type} : List (DataW H) → Nat
  | [] => 0
  | d :: r => uptoBulk d + uptoBulkAll r
def uptoBulkEntries {H : Type} : List (Lit × DataW H) → Nat
  | [] => 0
  | x :: r => uptoBulkEntry x + uptoBulkEntries r
def uptoBulkEntry {H : Type} : Lit × DataW H → Nat
  | (.string bytes, d) => bytes.length + uptoBulk d + 1
  | (_, d) => uptoBulk d + 1
 end
def uptoSmall : (H : Type) → List (DataW H) → Bool := fun _ ds => decide (uptoBulkAll ds ≤ 1048576)
def OpenSpec.upto (s : _root_.Go.ChangeSpec) : _root_.Go.OpenSpec := { _root_.Go.OpenSpec.ofChange s with cond := some uptoSmall }

/-- 'reevelaw11.BallotTells', WHERE WHAT IT READS IS OF BULK AT MOST 1048576: true; the input reads as it did. -/
def ballotTellsUptoRow : OpenClaim := { program := "ytlgljcfkoakogaa", sum := "f9db05c14febbe1616abeae4acc90e58c4d42d1f10ea34d958d5310168a9e5e1", func := "reeve/reevelaw11.BallotTells", spec := "ballotTells", unfollowed := true, recurses := true, plainKeys := false, apart := false, narrowed := true }
def BallotTellsUptoSaid : Prop := ballotTellsUptoRow.holds Try.pinned (OpenSpec.upto ballotTellsSpec)

/-- 'reevelaw11.BallotRow', WHERE WHAT IT READS IS OF BULK AT MOST 1048576: true; the input reads as it did. -/
def ballotRowUptoRow : OpenClaim := { program := "ytlgljcfkoakogaa", sum := "f9db05c14febbe1616abeae4acc90e58c4d42d1f10ea34d958d5310168a9e5e1", func := "reeve/reevelaw11.BallotRow", spec := "ballotRow", unfollowed := true, recurses := true, plainKeys := false, apart := false, narrowed := true }
def BallotRowUptoSaid : Prop := ballotRowUptoRow.holds Try.pinned (OpenSpec.upto ballotRowSpec)

/-- 'reevelaw11.BallotMeet', WHERE WHAT IT READS IS OF BULK AT MOST 1048576: true; the input reads as it did. -/
def ballotMeetUptoRow : OpenClaim := { program := "ytlgljcfkoakogaa", sum := "f9db05c14febbe1616abeae4acc90e58c4d42d1f10ea34d958d5310168a9e5e1", func := "reeve/reevelaw11.BallotMeet", spec := "ballotMeet", unfollowed := true, recurses := true, plainKeys := false, apart := false, narrowed := true }
def BallotMeetUptoSaid : Prop := ballotMeetUptoRow.holds Try.pinned (OpenSpec.upto ballotMeetSpec)

/-- 'reevelaw11.BallotChain', WHERE WHAT IT READS IS OF BULK AT MOST 1048576: true; the input reads as it did. -/
def ballotChainUptoRow : OpenClaim := { program := "ytlgljcfkoakogaa", sum := "f9db05c14febbe1616abeae4acc90e58c4d42d1f10ea34d958d5310168a9e5e1", func := "reeve/reevelaw11.BallotChain", spec := "ballotChain", unfollowed := true, recurses := true, plainKeys := false, apart := false, narrowed := true }
def BallotChainUptoSaid : Prop := ballotChainUptoRow.holds Try.pinned (OpenSpec.upto ballotChainSpec)

/-- 'reevelaw12.AcceptorNone', WHERE WHAT IT READS IS OF BULK AT MOST 1048576: true; the input reads as it did. -/
def acceptorNoneUptoRow : OpenClaim := { program := "ytlgljcfkoakogaa", sum := "f9db05c14febbe1616abeae4acc90e58c4d42d1f10ea34d958d5310168a9e5e1", func := "reeve/reevelaw12.AcceptorNone", spec := "acceptorNone", unfollowed := true, recurses := true, plainKeys := false, apart := false, narrowed := true }
def AcceptorNoneUptoSaid : Prop := acceptorNoneUptoRow.holds Try.pinned (OpenSpec.upto acceptorNoneSpec)

/-- 'reevelaw12.AcceptorLast', WHERE WHAT IT READS IS OF BULK AT MOST 1048576: true; the input reads as it did. -/
def acceptorLastUptoRow : OpenClaim := { program := "ytlgljcfkoakogaa", sum := "f9db05c14febbe1616abeae4acc90e58c4d42d1f10ea34d958d5310168a9e5e1", func := "reeve/reevelaw12.AcceptorLast", spec := "acceptorLast", unfollowed := true, recurses := true, plainKeys := false, apart := false, narrowed := true }
def AcceptorLastUptoSaid : Prop := acceptorLastUptoRow.holds Try.pinned (OpenSpec.upto acceptorLastSpec)

/-- 'reevelaw12.AcceptorPlays', WHERE WHAT IT READS IS OF BULK AT MOST 1048576: true; the input reads as it did. -/
def acceptorPlaysUptoRow : OpenClaim := { program := "ytlgljcfkoakogaa", sum := "f9db05c14febbe1616abeae4acc90e58c4d42d1f10ea34d958d5310168a9e5e1", func := "reeve/reevelaw12.AcceptorPlays", spec := "acceptorPlays", unfollowed := true, recurses := true, plainKeys := false, apart := false, narrowed := true }
def AcceptorPlaysUptoSaid : Prop := acceptorPlaysUptoRow.holds Try.pinned (OpenSpec.upto acceptorPlaysSpec)

/-- 'reevelaw12.AcceptorKeeps', WHERE WHAT IT READS IS OF BULK AT MOST 1048576: true; the input reads as it did. -/
def acceptorKeepsUptoRow : OpenClaim := { program := "ytlgljcfkoakogaa", sum := "f9db05c14febbe1616abeae4acc90e58c4d42d1f10ea34d958d5310168a9e5e1", func := "reeve/reevelaw12.AcceptorKeeps", spec := "acceptorKeeps", unfollowed := true, recurses := true, plainKeys := false, apart := false, narrowed := true }
def AcceptorKeepsUptoSaid : Prop := acceptorKeepsUptoRow.holds Try.pinned (OpenSpec.upto acceptorKeepsSpec)

/-- 'reevelaw14.LearnerPlays', WHERE WHAT IT READS IS OF BULK AT MOST 1048576: true; the input reads as it did. -/
def learnerPlaysUptoRow : OpenClaim := { program := "ytlgljcfkoakogaa", sum := "f9db05c14febbe1616abeae4acc90e58c4d42d1f10ea34d958d5310168a9e5e1", func := "reeve/reevelaw14.LearnerPlays", spec := "learnerPlays", unfollowed := true, recurses := true, plainKeys := false, apart := false, narrowed := true }
def LearnerPlaysUptoSaid : Prop := learnerPlaysUptoRow.holds Try.pinned (OpenSpec.upto learnerPlaysSpec)

/-- 'reevelaw14.LearnerNone', WHERE WHAT IT READS IS OF BULK AT MOST 1048576: true; the input reads as it did. -/
def learnerNoneUptoRow : OpenClaim := { program := "ytlgljcfkoakogaa", sum := "f9db05c14febbe1616abeae4acc90e58c4d42d1f10ea34d958d5310168a9e5e1", func := "reeve/reevelaw14.LearnerNone", spec := "learnerNone", unfollowed := true, recurses := true, plainKeys := false, apart := false, narrowed := true }
def LearnerNoneUptoSaid : Prop := learnerNoneUptoRow.holds Try.pinned (OpenSpec.upto learnerNoneSpec)

/-- 'reevelaw14.LearnerOrder', WHERE WHAT IT READS IS OF BULK AT MOST 1048576: true; the input reads as it did. -/
def learnerOrderUptoRow : OpenClaim := { program := "ytlgljcfkoakogaa", sum := "f9db05c14febbe1616abeae4acc90e58c4d42d1f10ea34d958d5310168a9e5e1", func := "reeve/reevelaw14.LearnerOrder", spec := "learnerOrder", unfollowed := true, recurses := true, plainKeys := false, apart := false, narrowed := true }
def LearnerOrderUptoSaid : Prop := learnerOrderUptoRow.holds Try.pinned (OpenSpec.upto learnerOrderSpec)

/-- 'reevelaw13.ProposerNone', WHERE WHAT IT READS IS OF BULK AT MOST 1048576: true; the input reads as it did. -/
def proposerNoneUptoRow : OpenClaim := { program := "ytlgljcfkoakogaa", sum := "f9db05c14febbe1616abeae4acc90e58c4d42d1f10ea34d958d5310168a9e5e1", func := "reeve/reevelaw13.ProposerNone", spec := "proposerNone", unfollowed := true, recurses := true, plainKeys := false, apart := false, narrowed := true }
def ProposerNoneUptoSaid : Prop := proposerNoneUptoRow.holds Try.pinned (OpenSpec.upto proposerNoneSpec)

/-- 'reevelaw13.ProposerOne', WHERE WHAT IT READS IS OF BULK AT MOST 1048576: true; the input reads as it did. -/
def proposerOneUptoRow : OpenClaim := { program := "ytlgljcfkoakogaa", sum := "f9db05c14febbe1616abeae4acc90e58c4d42d1f10ea34d958d5310168a9e5e1", func := "reeve/reevelaw13.ProposerOne", spec := "proposerOne", unfollowed := true, recurses := true, plainKeys := false, apart := false, narrowed := true }
def ProposerOneUptoSaid : Prop := proposerOneUptoRow.holds Try.pinned (OpenSpec.upto proposerOneSpec)

/-- 'reevelaw14.LearnerOne', WHERE WHAT IT READS IS OF BULK AT MOST 1048576: true; the input reads as it did. -/
def learnerOneUptoRow : OpenClaim := { program := "ytlgljcfkoakogaa", sum := "f9db05c14febbe1616abeae4acc90e58c4d42d1f10ea34d958d5310168a9e5e1", func := "reeve/reevelaw14.LearnerOne", spec := "learnerOne", unfollowed := true, recurses := true, plainKeys := false, apart := false, narrowed := true }
def LearnerOneUptoSaid : Prop := learnerOneUptoRow.holds Try.pinned (OpenSpec.upto learnerOneSpec)

end Rows
end Go.Proofs.Ytlgljcfkoakogaa
