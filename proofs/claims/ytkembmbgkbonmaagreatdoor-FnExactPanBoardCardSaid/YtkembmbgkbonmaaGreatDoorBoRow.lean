/- The law FnExactPanBoard returns true for every input: the program's PanBoard returns what the reference's PanBoard returns. No condition beyond the statement's own. -/
import Derived.Test.YtkembmbgkbonmaaGreatDoorBoF
import Derived.Test.YtkembmbgkbonmaaGreatDoorCards
import Derived.Test.YtkembmbgkbonmaaGreatDoorTie
import Derived.Deep.DeepHandedRow
import Derived.Lib.LaidTab
import Derived.Stop.LaidErr
set_option linter.unusedVariables false
set_option linter.unusedSimpArgs false
set_option linter.unusedSectionVars false
namespace Go.Proofs.YtkembmbgkbonmaaGreatDoor.fnExactPanBoard
open Go.Vs Go.Proofs.PanB
open Go.ChangeShapes Go.WideShapes Go.ChangeAt Go.RowKit
set_option linter.unusedVariables false
theorem rd_3 : Rd Tryz.prog 3 cInt 1 okI := rd_int Tryz.underlying3
theorem rd_4 : Rd Tryz.prog 4 cBool 1 okT := rd_bool Tryz.underlying4
structure Cmd.ok (x : Cmd) : Prop where
 Kind : okI x.Kind
 Client : okI x.Client
 Call : okI x.Call
 Disk : okI x.Disk
 Arg : okI x.Arg
 Epoch : okI x.Epoch
 Range : okI x.Range
 Num : okI x.Num
 A : okI x.A
 B : okI x.B
theorem rd_91 : Rd Tryz.prog 91 Cmd.c 10 Cmd.ok := by
 intro H enc w fuel cs x h hw0
 obtain ⟨hl, hf⟩ := struct_us Tryz.underlying91 h hw0
 obtain ⟨_, _, h0, w0⟩ := hf 0 _ rfl
 obtain ⟨a0, k0, _, r0⟩ := rd_3 h0 w0
 obtain ⟨_, _, h1, w1⟩ := hf 1 _ rfl
 obtain ⟨a1, k1, _, r1⟩ := rd_3 h1 w1
 obtain ⟨_, _, h2, w2⟩ := hf 2 _ rfl
 obtain ⟨a2, k2, _, r2⟩ := rd_3 h2 w2
 obtain ⟨_, _, h3, w3⟩ := hf 3 _ rfl
 obtain ⟨a3, k3, _, r3⟩ := rd_3 h3 w3
 obtain ⟨_, _, h4, w4⟩ := hf 4 _ rfl
 obtain ⟨a4, k4, _, r4⟩ := rd_3 h4 w4
 obtain ⟨_, _, h5, w5⟩ := hf 5 _ rfl
 obtain ⟨a5, k5, _, r5⟩ := rd_3 h5 w5
 obtain ⟨_, _, h6, w6⟩ := hf 6 _ rfl
 obtain ⟨a6, k6, _, r6⟩ := rd_3 h6 w6
 obtain ⟨_, _, h7, w7⟩ := hf 7 _ rfl
 obtain ⟨a7, k7, _, r7⟩ := rd_3 h7 w7
 obtain ⟨_, _, h8, w8⟩ := hf 8 _ rfl
 obtain ⟨a8, k8, _, r8⟩ := rd_3 h8 w8
 obtain ⟨_, _, h9, w9⟩ := hf 9 _ rfl
 obtain ⟨a9, k9, _, r9⟩ := rd_3 h9 w9
 refine ⟨⟨a0, a1, a2, a3, a4, a5, a6, a7, a8, a9⟩, ⟨k0, k1, k2, k3, k4, k5, k6, k7, k8, k9⟩, hl.trans (by kernel_rfl), fun j hj => ?_⟩
 match j, hj with
 | 0, _ => exact rdf (o := 0) (r0 0 (by decide))
 | 1, _ => exact rdf (o := 1) (r1 0 (by decide))
 | 2, _ => exact rdf (o := 2) (r2 0 (by decide))
 | 3, _ => exact rdf (o := 3) (r3 0 (by decide))
 | 4, _ => exact rdf (o := 4) (r4 0 (by decide))
 | 5, _ => exact rdf (o := 5) (r5 0 (by decide))
 | 6, _ => exact rdf (o := 6) (r6 0 (by decide))
 | 7, _ => exact rdf (o := 7) (r7 0 (by decide))
 | 8, _ => exact rdf (o := 8) (r8 0 (by decide))
 | 9, _ => exact rdf (o := 9) (r9 0 (by decide))
structure SynPaper.ok (x : SynPaper) : Prop where
 Slot : okI x.Slot
 Ballot : okI x.Ballot
 Cmd : Cmd.ok x.Cmd
theorem rd_93 : Rd Tryz.prog 93 SynPaper.c 12 SynPaper.ok := by
 intro H enc w fuel cs x h hw0
 obtain ⟨hl, hf⟩ := struct_us Tryz.underlying93 h hw0
 obtain ⟨_, _, h0, w0⟩ := hf 0 _ rfl
 obtain ⟨a0, k0, _, r0⟩ := rd_3 h0 w0
 obtain ⟨_, _, h1, w1⟩ := hf 1 _ rfl
 obtain ⟨a1, k1, _, r1⟩ := rd_3 h1 w1
 obtain ⟨_, _, h2, w2⟩ := hf 2 _ rfl
 obtain ⟨a2, k2, _, r2⟩ := rd_91 h2 w2
 refine ⟨⟨a0, a1, a2⟩, ⟨k0, k1, k2⟩, hl.trans (by kernel_rfl), fun j hj => ?_⟩
 match j, hj with
 | 0, _ => exact rdf (o := 0) (r0 0 (by decide))
 | 1, _ => exact rdf (o := 1) (r1 0 (by decide))
 | 2, _ => exact rdf (o := 2) (r2 0 (by decide))
 | 3, _ => exact rdf (o := 2) (r2 1 (by decide))
 | 4, _ => exact rdf (o := 2) (r2 2 (by decide))
 | 5, _ => exact rdf (o := 2) (r2 3 (by decide))
 | 6, _ => exact rdf (o := 2) (r2 4 (by decide))
 | 7, _ => exact rdf (o := 2) (r2 5 (by decide))
 | 8, _ => exact rdf (o := 2) (r2 6 (by decide))
 | 9, _ => exact rdf (o := 2) (r2 7 (by decide))
 | 10, _ => exact rdf (o := 2) (r2 8 (by decide))
 | 11, _ => exact rdf (o := 2) (r2 9 (by decide))
theorem rd_86 : Rd Tryz.prog 86 (fun (L : List SynPaper) _ => ul SynPaper.c 12 false L) 1 (okL 96 SynPaper.ok) := rd_slice (e := 93) Tryz.underlying86 (by kernel_rfl) (by decide) (by kernel_rfl) (by decide) rd_93
structure SynVoter.ok (x : SynVoter) : Prop where
 Promised : okI x.Promised
 Papers : (okL 96 SynPaper.ok) x.Papers
theorem rd_88 : Rd Tryz.prog 88 SynVoter.c 2 SynVoter.ok := by
 intro H enc w fuel cs x h hw0
 obtain ⟨hl, hf⟩ := struct_us Tryz.underlying88 h hw0
 obtain ⟨_, _, h0, w0⟩ := hf 0 _ rfl
 obtain ⟨a0, k0, _, r0⟩ := rd_3 h0 w0
 obtain ⟨_, _, h1, w1⟩ := hf 1 _ rfl
 obtain ⟨a1, k1, _, r1⟩ := rd_86 h1 w1
 refine ⟨⟨a0, a1⟩, ⟨k0, k1⟩, hl.trans (by kernel_rfl), fun j hj => ?_⟩
 match j, hj with
 | 0, _ => exact rdf (o := 0) (r0 0 (by decide))
 | 1, _ => exact rdf (o := 1) (r1 0 (by decide))
theorem rd_89 : Rd Tryz.prog 89 (fun (L : List Cmd) _ => ul Cmd.c 10 false L) 1 (okL 80 Cmd.ok) := rd_slice (e := 91) Tryz.underlying89 (by kernel_rfl) (by decide) (by kernel_rfl) (by decide) rd_91
structure BlkPiece.ok (x : BlkPiece) : Prop where
 Disk : okI x.Disk
 Block : okI x.Block
 Epoch : okI x.Epoch
 Data : okI x.Data
theorem rd_194 : Rd Tryz.prog 194 BlkPiece.c 4 BlkPiece.ok := by
 intro H enc w fuel cs x h hw0
 obtain ⟨hl, hf⟩ := struct_us Tryz.underlying194 h hw0
 obtain ⟨_, _, h0, w0⟩ := hf 0 _ rfl
 obtain ⟨a0, k0, _, r0⟩ := rd_3 h0 w0
 obtain ⟨_, _, h1, w1⟩ := hf 1 _ rfl
 obtain ⟨a1, k1, _, r1⟩ := rd_3 h1 w1
 obtain ⟨_, _, h2, w2⟩ := hf 2 _ rfl
 obtain ⟨a2, k2, _, r2⟩ := rd_3 h2 w2
 obtain ⟨_, _, h3, w3⟩ := hf 3 _ rfl
 obtain ⟨a3, k3, _, r3⟩ := rd_3 h3 w3
 refine ⟨⟨a0, a1, a2, a3⟩, ⟨k0, k1, k2, k3⟩, hl.trans (by kernel_rfl), fun j hj => ?_⟩
 match j, hj with
 | 0, _ => exact rdf (o := 0) (r0 0 (by decide))
 | 1, _ => exact rdf (o := 1) (r1 0 (by decide))
 | 2, _ => exact rdf (o := 2) (r2 0 (by decide))
 | 3, _ => exact rdf (o := 3) (r3 0 (by decide))
theorem rd_100 : Rd Tryz.prog 100 (fun (L : List BlkPiece) _ => ul BlkPiece.c 4 false L) 1 (okL 32 BlkPiece.ok) := rd_slice (e := 194) Tryz.underlying100 (by kernel_rfl) (by decide) (by kernel_rfl) (by decide) rd_194
structure BlkLast.ok (x : BlkLast) : Prop where
 Client : okI x.Client
 Call : okI x.Call
theorem rd_196 : Rd Tryz.prog 196 BlkLast.c 2 BlkLast.ok := by
 intro H enc w fuel cs x h hw0
 obtain ⟨hl, hf⟩ := struct_us Tryz.underlying196 h hw0
 obtain ⟨_, _, h0, w0⟩ := hf 0 _ rfl
 obtain ⟨a0, k0, _, r0⟩ := rd_3 h0 w0
 obtain ⟨_, _, h1, w1⟩ := hf 1 _ rfl
 obtain ⟨a1, k1, _, r1⟩ := rd_3 h1 w1
 refine ⟨⟨a0, a1⟩, ⟨k0, k1⟩, hl.trans (by kernel_rfl), fun j hj => ?_⟩
 match j, hj with
 | 0, _ => exact rdf (o := 0) (r0 0 (by decide))
 | 1, _ => exact rdf (o := 1) (r1 0 (by decide))
theorem rd_101 : Rd Tryz.prog 101 (fun (L : List BlkLast) _ => ul BlkLast.c 2 false L) 1 (okL 16 BlkLast.ok) := rd_slice (e := 196) Tryz.underlying101 (by kernel_rfl) (by decide) (by kernel_rfl) (by decide) rd_196
structure SrvBusy.ok (x : SrvBusy) : Prop where
 Client : okI x.Client
 Call : okI x.Call
 Disk : okI x.Disk
 Block : okI x.Block
 Epoch : okI x.Epoch
 Data : okI x.Data
theorem rd_245 : Rd Tryz.prog 245 SrvBusy.c 6 SrvBusy.ok := by
 intro H enc w fuel cs x h hw0
 obtain ⟨hl, hf⟩ := struct_us Tryz.underlying245 h hw0
 obtain ⟨_, _, h0, w0⟩ := hf 0 _ rfl
 obtain ⟨a0, k0, _, r0⟩ := rd_3 h0 w0
 obtain ⟨_, _, h1, w1⟩ := hf 1 _ rfl
 obtain ⟨a1, k1, _, r1⟩ := rd_3 h1 w1
 obtain ⟨_, _, h2, w2⟩ := hf 2 _ rfl
 obtain ⟨a2, k2, _, r2⟩ := rd_3 h2 w2
 obtain ⟨_, _, h3, w3⟩ := hf 3 _ rfl
 obtain ⟨a3, k3, _, r3⟩ := rd_3 h3 w3
 obtain ⟨_, _, h4, w4⟩ := hf 4 _ rfl
 obtain ⟨a4, k4, _, r4⟩ := rd_3 h4 w4
 obtain ⟨_, _, h5, w5⟩ := hf 5 _ rfl
 obtain ⟨a5, k5, _, r5⟩ := rd_3 h5 w5
 refine ⟨⟨a0, a1, a2, a3, a4, a5⟩, ⟨k0, k1, k2, k3, k4, k5⟩, hl.trans (by kernel_rfl), fun j hj => ?_⟩
 match j, hj with
 | 0, _ => exact rdf (o := 0) (r0 0 (by decide))
 | 1, _ => exact rdf (o := 1) (r1 0 (by decide))
 | 2, _ => exact rdf (o := 2) (r2 0 (by decide))
 | 3, _ => exact rdf (o := 3) (r3 0 (by decide))
 | 4, _ => exact rdf (o := 4) (r4 0 (by decide))
 | 5, _ => exact rdf (o := 5) (r5 0 (by decide))
theorem rd_176 : Rd Tryz.prog 176 (fun (L : List SrvBusy) _ => ul SrvBusy.c 6 false L) 1 (okL 48 SrvBusy.ok) := rd_slice (e := 245) Tryz.underlying176 (by kernel_rfl) (by decide) (by kernel_rfl) (by decide) rd_245
structure SrvCopy.ok (x : SrvCopy) : Prop where
 Range : okI x.Range
 Valid : okI x.Valid
 Asked : okI x.Asked
 Pieces : (okL 32 BlkPiece.ok) x.Pieces
 Last : (okL 16 BlkLast.ok) x.Last
 Busy : (okL 48 SrvBusy.ok) x.Busy
theorem rd_178 : Rd Tryz.prog 178 SrvCopy.c 6 SrvCopy.ok := by
 intro H enc w fuel cs x h hw0
 obtain ⟨hl, hf⟩ := struct_us Tryz.underlying178 h hw0
 obtain ⟨_, _, h0, w0⟩ := hf 0 _ rfl
 obtain ⟨a0, k0, _, r0⟩ := rd_3 h0 w0
 obtain ⟨_, _, h1, w1⟩ := hf 1 _ rfl
 obtain ⟨a1, k1, _, r1⟩ := rd_3 h1 w1
 obtain ⟨_, _, h2, w2⟩ := hf 2 _ rfl
 obtain ⟨a2, k2, _, r2⟩ := rd_3 h2 w2
 obtain ⟨_, _, h3, w3⟩ := hf 3 _ rfl
 obtain ⟨a3, k3, _, r3⟩ := rd_100 h3 w3
 obtain ⟨_, _, h4, w4⟩ := hf 4 _ rfl
 obtain ⟨a4, k4, _, r4⟩ := rd_101 h4 w4
 obtain ⟨_, _, h5, w5⟩ := hf 5 _ rfl
 obtain ⟨a5, k5, _, r5⟩ := rd_176 h5 w5
 refine ⟨⟨a0, a1, a2, a3, a4, a5⟩, ⟨k0, k1, k2, k3, k4, k5⟩, hl.trans (by kernel_rfl), fun j hj => ?_⟩
 match j, hj with
 | 0, _ => exact rdf (o := 0) (r0 0 (by decide))
 | 1, _ => exact rdf (o := 1) (r1 0 (by decide))
 | 2, _ => exact rdf (o := 2) (r2 0 (by decide))
 | 3, _ => exact rdf (o := 3) (r3 0 (by decide))
 | 4, _ => exact rdf (o := 4) (r4 0 (by decide))
 | 5, _ => exact rdf (o := 5) (r5 0 (by decide))
theorem rd_90 : Rd Tryz.prog 90 (fun (L : List SrvCopy) _ => ul SrvCopy.c 6 false L) 1 (okL 96 SrvCopy.ok) := rd_slice (e := 178) Tryz.underlying90 (by kernel_rfl) (by decide) (by kernel_rfl) (by decide) rd_178
theorem rd_58 : Rd Tryz.prog 58 (fun (L : List Int) _ => ul cInt 1 false L) 1 (okL 8 okI) := rd_slice (e := 3) Tryz.underlying58 (by kernel_rfl) (by decide) (by kernel_rfl) (by decide) rd_3
structure SynSeeker.ok (x : SynSeeker) : Prop where
 Slot : okI x.Slot
 Ballot : okI x.Ballot
 Phase : okI x.Phase
 Mine : Cmd.ok x.Mine
 Best : SynPaper.ok x.Best
 Yes : (okL 8 okI) x.Yes
theorem rd_95 : Rd Tryz.prog 95 SynSeeker.c 26 SynSeeker.ok := by
 intro H enc w fuel cs x h hw0
 obtain ⟨hl, hf⟩ := struct_us Tryz.underlying95 h hw0
 obtain ⟨_, _, h0, w0⟩ := hf 0 _ rfl
 obtain ⟨a0, k0, _, r0⟩ := rd_3 h0 w0
 obtain ⟨_, _, h1, w1⟩ := hf 1 _ rfl
 obtain ⟨a1, k1, _, r1⟩ := rd_3 h1 w1
 obtain ⟨_, _, h2, w2⟩ := hf 2 _ rfl
 obtain ⟨a2, k2, _, r2⟩ := rd_3 h2 w2
 obtain ⟨_, _, h3, w3⟩ := hf 3 _ rfl
 obtain ⟨a3, k3, _, r3⟩ := rd_91 h3 w3
 obtain ⟨_, _, h4, w4⟩ := hf 4 _ rfl
 obtain ⟨a4, k4, _, r4⟩ := rd_93 h4 w4
 obtain ⟨_, _, h5, w5⟩ := hf 5 _ rfl
 obtain ⟨a5, k5, _, r5⟩ := rd_58 h5 w5
 refine ⟨⟨a0, a1, a2, a3, a4, a5⟩, ⟨k0, k1, k2, k3, k4, k5⟩, hl.trans (by kernel_rfl), fun j hj => ?_⟩
 match j, hj with
 | 0, _ => exact rdf (o := 0) (r0 0 (by decide))
 | 1, _ => exact rdf (o := 1) (r1 0 (by decide))
 | 2, _ => exact rdf (o := 2) (r2 0 (by decide))
 | 3, _ => exact rdf (o := 3) (r3 0 (by decide))
 | 4, _ => exact rdf (o := 3) (r3 1 (by decide))
 | 5, _ => exact rdf (o := 3) (r3 2 (by decide))
 | 6, _ => exact rdf (o := 3) (r3 3 (by decide))
 | 7, _ => exact rdf (o := 3) (r3 4 (by decide))
 | 8, _ => exact rdf (o := 3) (r3 5 (by decide))
 | 9, _ => exact rdf (o := 3) (r3 6 (by decide))
 | 10, _ => exact rdf (o := 3) (r3 7 (by decide))
 | 11, _ => exact rdf (o := 3) (r3 8 (by decide))
 | 12, _ => exact rdf (o := 3) (r3 9 (by decide))
 | 13, _ => exact rdf (o := 13) (r4 0 (by decide))
 | 14, _ => exact rdf (o := 13) (r4 1 (by decide))
 | 15, _ => exact rdf (o := 13) (r4 2 (by decide))
 | 16, _ => exact rdf (o := 13) (r4 3 (by decide))
 | 17, _ => exact rdf (o := 13) (r4 4 (by decide))
 | 18, _ => exact rdf (o := 13) (r4 5 (by decide))
 | 19, _ => exact rdf (o := 13) (r4 6 (by decide))
 | 20, _ => exact rdf (o := 13) (r4 7 (by decide))
 | 21, _ => exact rdf (o := 13) (r4 8 (by decide))
 | 22, _ => exact rdf (o := 13) (r4 9 (by decide))
 | 23, _ => exact rdf (o := 13) (r4 10 (by decide))
 | 24, _ => exact rdf (o := 13) (r4 11 (by decide))
 | 25, _ => exact rdf (o := 25) (r5 0 (by decide))
 | _ + 26, h => exact absurd h (by omega)
structure SrvDoing.ok (x : SrvDoing) : Prop where
 Range : okI x.Range
 View : okI x.View
 Write : okT x.Write
 Client : okI x.Client
 Call : okI x.Call
 Disk : okI x.Disk
 Block : okI x.Block
 Epoch : okI x.Epoch
theorem rd_192 : Rd Tryz.prog 192 SrvDoing.c 8 SrvDoing.ok := by
 intro H enc w fuel cs x h hw0
 obtain ⟨hl, hf⟩ := struct_us Tryz.underlying192 h hw0
 obtain ⟨_, _, h0, w0⟩ := hf 0 _ rfl
 obtain ⟨a0, k0, _, r0⟩ := rd_3 h0 w0
 obtain ⟨_, _, h1, w1⟩ := hf 1 _ rfl
 obtain ⟨a1, k1, _, r1⟩ := rd_3 h1 w1
 obtain ⟨_, _, h2, w2⟩ := hf 2 _ rfl
 obtain ⟨a2, k2, _, r2⟩ := rd_4 h2 w2
 obtain ⟨_, _, h3, w3⟩ := hf 3 _ rfl
 obtain ⟨a3, k3, _, r3⟩ := rd_3 h3 w3
 obtain ⟨_, _, h4, w4⟩ := hf 4 _ rfl
 obtain ⟨a4, k4, _, r4⟩ := rd_3 h4 w4
 obtain ⟨_, _, h5, w5⟩ := hf 5 _ rfl
 obtain ⟨a5, k5, _, r5⟩ := rd_3 h5 w5
 obtain ⟨_, _, h6, w6⟩ := hf 6 _ rfl
 obtain ⟨a6, k6, _, r6⟩ := rd_3 h6 w6
 obtain ⟨_, _, h7, w7⟩ := hf 7 _ rfl
 obtain ⟨a7, k7, _, r7⟩ := rd_3 h7 w7
 refine ⟨⟨a0, a1, a2, a3, a4, a5, a6, a7⟩, ⟨k0, k1, k2, k3, k4, k5, k6, k7⟩, hl.trans (by kernel_rfl), fun j hj => ?_⟩
 match j, hj with
 | 0, _ => exact rdf (o := 0) (r0 0 (by decide))
 | 1, _ => exact rdf (o := 1) (r1 0 (by decide))
 | 2, _ => exact rdf (o := 2) (r2 0 (by decide))
 | 3, _ => exact rdf (o := 3) (r3 0 (by decide))
 | 4, _ => exact rdf (o := 4) (r4 0 (by decide))
 | 5, _ => exact rdf (o := 5) (r5 0 (by decide))
 | 6, _ => exact rdf (o := 6) (r6 0 (by decide))
 | 7, _ => exact rdf (o := 7) (r7 0 (by decide))
theorem rd_96 : Rd Tryz.prog 96 (fun (L : List SrvDoing) _ => ul SrvDoing.c 8 false L) 1 (okL 64 SrvDoing.ok) := rd_slice (e := 192) Tryz.underlying96 (by kernel_rfl) (by decide) (by kernel_rfl) (by decide) rd_192
structure Server.ok (x : Server) : Prop where
 Id : okI x.Id
 Up : okT x.Up
 Gone : okT x.Gone
 Round : okI x.Round
 Voter : SynVoter.ok x.Voter
 Log : (okL 80 Cmd.ok) x.Log
 Copies : (okL 96 SrvCopy.ok) x.Copies
 Seek : SynSeeker.ok x.Seek
 Wants : (okL 80 Cmd.ok) x.Wants
 Doing : (okL 64 SrvDoing.ok) x.Doing
theorem rd_98 : Rd Tryz.prog 98 Server.c 36 Server.ok := by
 intro H enc w fuel cs x h hw0
 obtain ⟨hl, hf⟩ := struct_us Tryz.underlying98 h hw0
 obtain ⟨_, _, h0, w0⟩ := hf 0 _ rfl
 obtain ⟨a0, k0, _, r0⟩ := rd_3 h0 w0
 obtain ⟨_, _, h1, w1⟩ := hf 1 _ rfl
 obtain ⟨a1, k1, _, r1⟩ := rd_4 h1 w1
 obtain ⟨_, _, h2, w2⟩ := hf 2 _ rfl
 obtain ⟨a2, k2, _, r2⟩ := rd_4 h2 w2
 obtain ⟨_, _, h3, w3⟩ := hf 3 _ rfl
 obtain ⟨a3, k3, _, r3⟩ := rd_3 h3 w3
 obtain ⟨_, _, h4, w4⟩ := hf 4 _ rfl
 obtain ⟨a4, k4, _, r4⟩ := rd_88 h4 w4
 obtain ⟨_, _, h5, w5⟩ := hf 5 _ rfl
 obtain ⟨a5, k5, _, r5⟩ := rd_89 h5 w5
 obtain ⟨_, _, h6, w6⟩ := hf 6 _ rfl
 obtain ⟨a6, k6, _, r6⟩ := rd_90 h6 w6
 obtain ⟨_, _, h7, w7⟩ := hf 7 _ rfl
 obtain ⟨a7, k7, _, r7⟩ := rd_95 h7 w7
 obtain ⟨_, _, h8, w8⟩ := hf 8 _ rfl
 obtain ⟨a8, k8, _, r8⟩ := rd_89 h8 w8
 obtain ⟨_, _, h9, w9⟩ := hf 9 _ rfl
 obtain ⟨a9, k9, _, r9⟩ := rd_96 h9 w9
 refine ⟨⟨a0, a1, a2, a3, a4, a5, a6, a7, a8, a9⟩, ⟨k0, k1, k2, k3, k4, k5, k6, k7, k8, k9⟩, hl.trans (by kernel_rfl), fun j hj => ?_⟩
 match j, hj with
 | 0, _ => exact rdf (o := 0) (r0 0 (by decide))
 | 1, _ => exact rdf (o := 1) (r1 0 (by decide))
 | 2, _ => exact rdf (o := 2) (r2 0 (by decide))
 | 3, _ => exact rdf (o := 3) (r3 0 (by decide))
 | 4, _ => exact rdf (o := 4) (r4 0 (by decide))
 | 5, _ => exact rdf (o := 4) (r4 1 (by decide))
 | 6, _ => exact rdf (o := 6) (r5 0 (by decide))
 | 7, _ => exact rdf (o := 7) (r6 0 (by decide))
 | 8, _ => exact rdf (o := 8) (r7 0 (by decide))
 | 9, _ => exact rdf (o := 8) (r7 1 (by decide))
 | 10, _ => exact rdf (o := 8) (r7 2 (by decide))
 | 11, _ => exact rdf (o := 8) (r7 3 (by decide))
 | 12, _ => exact rdf (o := 8) (r7 4 (by decide))
 | 13, _ => exact rdf (o := 8) (r7 5 (by decide))
 | 14, _ => exact rdf (o := 8) (r7 6 (by decide))
 | 15, _ => exact rdf (o := 8) (r7 7 (by decide))
 | 16, _ => exact rdf (o := 8) (r7 8 (by decide))
 | 17, _ => exact rdf (o := 8) (r7 9 (by decide))
 | 18, _ => exact rdf (o := 8) (r7 10 (by decide))
 | 19, _ => exact rdf (o := 8) (r7 11 (by decide))
 | 20, _ => exact rdf (o := 8) (r7 12 (by decide))
 | 21, _ => exact rdf (o := 8) (r7 13 (by decide))
 | 22, _ => exact rdf (o := 8) (r7 14 (by decide))
 | 23, _ => exact rdf (o := 8) (r7 15 (by decide))
 | 24, _ => exact rdf (o := 8) (r7 16 (by decide))
 | 25, _ => exact rdf (o := 8) (r7 17 (by decide))
 | 26, _ => exact rdf (o := 8) (r7 18 (by decide))
 | 27, _ => exact rdf (o := 8) (r7 19 (by decide))
 | 28, _ => exact rdf (o := 8) (r7 20 (by decide))
 | 29, _ => exact rdf (o := 8) (r7 21 (by decide))
 | 30, _ => exact rdf (o := 8) (r7 22 (by decide))
 | 31, _ => exact rdf (o := 8) (r7 23 (by decide))
 | 32, _ => exact rdf (o := 8) (r7 24 (by decide))
 | 33, _ => exact rdf (o := 8) (r7 25 (by decide))
 | 34, _ => exact rdf (o := 34) (r8 0 (by decide))
 | 35, _ => exact rdf (o := 35) (r9 0 (by decide))
 | _ + 36, h => exact absurd h (by omega)
theorem rd_22 : Rd Tryz.prog 22 (fun (L : List Server) _ => ul Server.c 36 false L) 1 (okL 376 Server.ok) := rd_slice (e := 98) Tryz.underlying22 (by kernel_rfl) (by decide) (by kernel_rfl) (by decide) rd_98
structure Word.ok (x : Word) : Prop where
 Kind : okI x.Kind
 From : okI x.From
 To : okI x.To
 Ballot : okI x.Ballot
 Slot : okI x.Slot
 Was : okI x.Was
 Cmd : Cmd.ok x.Cmd
 Range : okI x.Range
 View : okI x.View
 Client : okI x.Client
 Call : okI x.Call
 Disk : okI x.Disk
 Block : okI x.Block
 Epoch : okI x.Epoch
 Data : okI x.Data
 Pieces : (okL 32 BlkPiece.ok) x.Pieces
 Last : (okL 16 BlkLast.ok) x.Last
theorem rd_103 : Rd Tryz.prog 103 Word.c 26 Word.ok := by
 intro H enc w fuel cs x h hw0
 obtain ⟨hl, hf⟩ := struct_us Tryz.underlying103 h hw0
 obtain ⟨_, _, h0, w0⟩ := hf 0 _ rfl
 obtain ⟨a0, k0, _, r0⟩ := rd_3 h0 w0
 obtain ⟨_, _, h1, w1⟩ := hf 1 _ rfl
 obtain ⟨a1, k1, _, r1⟩ := rd_3 h1 w1
 obtain ⟨_, _, h2, w2⟩ := hf 2 _ rfl
 obtain ⟨a2, k2, _, r2⟩ := rd_3 h2 w2
 obtain ⟨_, _, h3, w3⟩ := hf 3 _ rfl
 obtain ⟨a3, k3, _, r3⟩ := rd_3 h3 w3
 obtain ⟨_, _, h4, w4⟩ := hf 4 _ rfl
 obtain ⟨a4, k4, _, r4⟩ := rd_3 h4 w4
 obtain ⟨_, _, h5, w5⟩ := hf 5 _ rfl
 obtain ⟨a5, k5, _, r5⟩ := rd_3 h5 w5
 obtain ⟨_, _, h6, w6⟩ := hf 6 _ rfl
 obtain ⟨a6, k6, _, r6⟩ := rd_91 h6 w6
 obtain ⟨_, _, h7, w7⟩ := hf 7 _ rfl
 obtain ⟨a7, k7, _, r7⟩ := rd_3 h7 w7
 obtain ⟨_, _, h8, w8⟩ := hf 8 _ rfl
 obtain ⟨a8, k8, _, r8⟩ := rd_3 h8 w8
 obtain ⟨_, _, h9, w9⟩ := hf 9 _ rfl
 obtain ⟨a9, k9, _, r9⟩ := rd_3 h9 w9
 obtain ⟨_, _, h10, w10⟩ := hf 10 _ rfl
 obtain ⟨a10, k10, _, r10⟩ := rd_3 h10 w10
 obtain ⟨_, _, h11, w11⟩ := hf 11 _ rfl
 obtain ⟨a11, k11, _, r11⟩ := rd_3 h11 w11
 obtain ⟨_, _, h12, w12⟩ := hf 12 _ rfl
 obtain ⟨a12, k12, _, r12⟩ := rd_3 h12 w12
 obtain ⟨_, _, h13, w13⟩ := hf 13 _ rfl
 obtain ⟨a13, k13, _, r13⟩ := rd_3 h13 w13
 obtain ⟨_, _, h14, w14⟩ := hf 14 _ rfl
 obtain ⟨a14, k14, _, r14⟩ := rd_3 h14 w14
 obtain ⟨_, _, h15, w15⟩ := hf 15 _ rfl
 obtain ⟨a15, k15, _, r15⟩ := rd_100 h15 w15
 obtain ⟨_, _, h16, w16⟩ := hf 16 _ rfl
 obtain ⟨a16, k16, _, r16⟩ := rd_101 h16 w16
 refine ⟨⟨a0, a1, a2, a3, a4, a5, a6, a7, a8, a9, a10, a11, a12, a13, a14, a15, a16⟩, ⟨k0, k1, k2, k3, k4, k5, k6, k7, k8, k9, k10, k11, k12, k13, k14, k15, k16⟩, hl.trans (by kernel_rfl), fun j hj => ?_⟩
 match j, hj with
 | 0, _ => exact rdf (o := 0) (r0 0 (by decide))
 | 1, _ => exact rdf (o := 1) (r1 0 (by decide))
 | 2, _ => exact rdf (o := 2) (r2 0 (by decide))
 | 3, _ => exact rdf (o := 3) (r3 0 (by decide))
 | 4, _ => exact rdf (o := 4) (r4 0 (by decide))
 | 5, _ => exact rdf (o := 5) (r5 0 (by decide))
 | 6, _ => exact rdf (o := 6) (r6 0 (by decide))
 | 7, _ => exact rdf (o := 6) (r6 1 (by decide))
 | 8, _ => exact rdf (o := 6) (r6 2 (by decide))
 | 9, _ => exact rdf (o := 6) (r6 3 (by decide))
 | 10, _ => exact rdf (o := 6) (r6 4 (by decide))
 | 11, _ => exact rdf (o := 6) (r6 5 (by decide))
 | 12, _ => exact rdf (o := 6) (r6 6 (by decide))
 | 13, _ => exact rdf (o := 6) (r6 7 (by decide))
 | 14, _ => exact rdf (o := 6) (r6 8 (by decide))
 | 15, _ => exact rdf (o := 6) (r6 9 (by decide))
 | 16, _ => exact rdf (o := 16) (r7 0 (by decide))
 | 17, _ => exact rdf (o := 17) (r8 0 (by decide))
 | 18, _ => exact rdf (o := 18) (r9 0 (by decide))
 | 19, _ => exact rdf (o := 19) (r10 0 (by decide))
 | 20, _ => exact rdf (o := 20) (r11 0 (by decide))
 | 21, _ => exact rdf (o := 21) (r12 0 (by decide))
 | 22, _ => exact rdf (o := 22) (r13 0 (by decide))
 | 23, _ => exact rdf (o := 23) (r14 0 (by decide))
 | 24, _ => exact rdf (o := 24) (r15 0 (by decide))
 | 25, _ => exact rdf (o := 25) (r16 0 (by decide))
 | _ + 26, h => exact absurd h (by omega)
theorem rd_23 : Rd Tryz.prog 23 (fun (L : List Word) _ => ul Word.c 26 false L) 1 (okL 240 Word.ok) := rd_slice (e := 103) Tryz.underlying23 (by kernel_rfl) (by decide) (by kernel_rfl) (by decide) rd_103
structure PanCall.ok (x : PanCall) : Prop where
 Client : okI x.Client
 Call : okI x.Call
 Op : okI x.Op
 Disk : okI x.Disk
 Block : okI x.Block
 Epoch : okI x.Epoch
 Data : okI x.Data
 Begin : okI x.Begin
 End : okI x.End
 Over : okT x.Over
 Code : okI x.Code
 Value : okI x.Value
theorem rd_125 : Rd Tryz.prog 125 PanCall.c 12 PanCall.ok := by
 intro H enc w fuel cs x h hw0
 obtain ⟨hl, hf⟩ := struct_us Tryz.underlying125 h hw0
 obtain ⟨_, _, h0, w0⟩ := hf 0 _ rfl
 obtain ⟨a0, k0, _, r0⟩ := rd_3 h0 w0
 obtain ⟨_, _, h1, w1⟩ := hf 1 _ rfl
 obtain ⟨a1, k1, _, r1⟩ := rd_3 h1 w1
 obtain ⟨_, _, h2, w2⟩ := hf 2 _ rfl
 obtain ⟨a2, k2, _, r2⟩ := rd_3 h2 w2
 obtain ⟨_, _, h3, w3⟩ := hf 3 _ rfl
 obtain ⟨a3, k3, _, r3⟩ := rd_3 h3 w3
 obtain ⟨_, _, h4, w4⟩ := hf 4 _ rfl
 obtain ⟨a4, k4, _, r4⟩ := rd_3 h4 w4
 obtain ⟨_, _, h5, w5⟩ := hf 5 _ rfl
 obtain ⟨a5, k5, _, r5⟩ := rd_3 h5 w5
 obtain ⟨_, _, h6, w6⟩ := hf 6 _ rfl
 obtain ⟨a6, k6, _, r6⟩ := rd_3 h6 w6
 obtain ⟨_, _, h7, w7⟩ := hf 7 _ rfl
 obtain ⟨a7, k7, _, r7⟩ := rd_3 h7 w7
 obtain ⟨_, _, h8, w8⟩ := hf 8 _ rfl
 obtain ⟨a8, k8, _, r8⟩ := rd_3 h8 w8
 obtain ⟨_, _, h9, w9⟩ := hf 9 _ rfl
 obtain ⟨a9, k9, _, r9⟩ := rd_4 h9 w9
 obtain ⟨_, _, h10, w10⟩ := hf 10 _ rfl
 obtain ⟨a10, k10, _, r10⟩ := rd_3 h10 w10
 obtain ⟨_, _, h11, w11⟩ := hf 11 _ rfl
 obtain ⟨a11, k11, _, r11⟩ := rd_3 h11 w11
 refine ⟨⟨a0, a1, a2, a3, a4, a5, a6, a7, a8, a9, a10, a11⟩, ⟨k0, k1, k2, k3, k4, k5, k6, k7, k8, k9, k10, k11⟩, hl.trans (by kernel_rfl), fun j hj => ?_⟩
 match j, hj with
 | 0, _ => exact rdf (o := 0) (r0 0 (by decide))
 | 1, _ => exact rdf (o := 1) (r1 0 (by decide))
 | 2, _ => exact rdf (o := 2) (r2 0 (by decide))
 | 3, _ => exact rdf (o := 3) (r3 0 (by decide))
 | 4, _ => exact rdf (o := 4) (r4 0 (by decide))
 | 5, _ => exact rdf (o := 5) (r5 0 (by decide))
 | 6, _ => exact rdf (o := 6) (r6 0 (by decide))
 | 7, _ => exact rdf (o := 7) (r7 0 (by decide))
 | 8, _ => exact rdf (o := 8) (r8 0 (by decide))
 | 9, _ => exact rdf (o := 9) (r9 0 (by decide))
 | 10, _ => exact rdf (o := 10) (r10 0 (by decide))
 | 11, _ => exact rdf (o := 11) (r11 0 (by decide))
theorem rd_24 : Rd Tryz.prog 24 (fun (L : List PanCall) _ => ul PanCall.c 12 false L) 1 (okL 96 PanCall.ok) := rd_slice (e := 125) Tryz.underlying24 (by kernel_rfl) (by decide) (by kernel_rfl) (by decide) rd_125
structure PanWorld.ok (x : PanWorld) : Prop where
 Time : okI x.Time
 Servers : (okL 376 Server.ok) x.Servers
 Radio : (okL 240 Word.ok) x.Radio
 Calls : (okL 96 PanCall.ok) x.Calls
theorem rd_26 : Rd Tryz.prog 26 PanWorld.c 4 PanWorld.ok := by
 intro H enc w fuel cs x h hw0
 obtain ⟨hl, hf⟩ := struct_us Tryz.underlying26 h hw0
 obtain ⟨_, _, h0, w0⟩ := hf 0 _ rfl
 obtain ⟨a0, k0, _, r0⟩ := rd_3 h0 w0
 obtain ⟨_, _, h1, w1⟩ := hf 1 _ rfl
 obtain ⟨a1, k1, _, r1⟩ := rd_22 h1 w1
 obtain ⟨_, _, h2, w2⟩ := hf 2 _ rfl
 obtain ⟨a2, k2, _, r2⟩ := rd_23 h2 w2
 obtain ⟨_, _, h3, w3⟩ := hf 3 _ rfl
 obtain ⟨a3, k3, _, r3⟩ := rd_24 h3 w3
 refine ⟨⟨a0, a1, a2, a3⟩, ⟨k0, k1, k2, k3⟩, hl.trans (by kernel_rfl), fun j hj => ?_⟩
 match j, hj with
 | 0, _ => exact rdf (o := 0) (r0 0 (by decide))
 | 1, _ => exact rdf (o := 1) (r1 0 (by decide))
 | 2, _ => exact rdf (o := 2) (r2 0 (by decide))
 | 3, _ => exact rdf (o := 3) (r3 0 (by decide))
theorem big_of {w : PanWorld} (k : PanWorld.ok w) : PanBig B47 w ∧ ∀ x ∈ w.Radio, i64B x.From ∧ i64B x.To := by
 refine ⟨⟨⟨okL_len (by decide) k.Servers, fun s hs => ?_⟩, ⟨okL_len (by decide) k.Radio, fun x hx => ?_⟩, okL_len (by decide) k.Calls⟩, fun x hx => ?_⟩
 ·have h := k.Servers.2 s hs
  exact ⟨okL_len (by decide) h.Voter.Papers, okL_len (by decide) h.Log, ⟨okL_len (by decide) h.Copies, fun c hc => ⟨okL_len (by decide) (h.Copies.2 c hc).Pieces, okL_len (by decide) (h.Copies.2 c hc).Last, okL_len (by decide) (h.Copies.2 c hc).Busy⟩⟩, okL_len (by decide) h.Seek.Yes, okL_len (by decide) h.Wants, okL_len (by decide) h.Doing⟩
 ·have h := k.Radio.2 x hx
  exact ⟨okL_len (by decide) h.Pieces, okL_len (by decide) h.Last⟩
 ·have h := k.Radio.2 x hx
  have h1 := h.From
  have h2 := h.To
  unfold okI at h1 h2
  unfold i64B
  omega
theorem own : ownKnob Tryz.prog.godebug = none := by kernel_rfl
theorem laidOut : laidOutB Tryz.prog = true := by kernel_rfl
theorem gTab : Tryz.prog.globalNamed "internal/strconv.uint64pow10" = some 0 := by kernel_rfl
theorem gTabType : (Tryz.prog.globals[0]?).map (·.type) = some 238 := by kernel_rfl
theorem cellsT : Tryz.prog.cellsOf 238 = 20 := by kernel_rfl
theorem cellsE : Tryz.prog.cellsOf 215 = 1 := by kernel_rfl
theorem table {W : World} (h : laidMetH Tryz.prog Rows.fnExactPanBoardRow.laid W) : Lib.TabIs Tryz.prog W "internal/strconv.uint64pow10" .u64 Lib.pow10Tab := by
 have h0 : laidMet Tryz.prog [("math/bits.deBruijn32tab", Rows.laid_math_bits_deBruijn32tab), ("math/bits.deBruijn64tab", Rows.laid_math_bits_deBruijn64tab), ("internal/strconv.uint64pow10", Rows.laid_internal_strconv_uint64pow10)] W := h
 have h1 := laidMet.tail h0
 have h2 := laidMet.tail h1
 exact Lib.tabIs_of_head (rest := []) gTab gTabType Tryz.underlying238 Tryz.underlying215 cellsE cellsT h2
set_option maxRecDepth 100000 in
theorem contract (H : Type) (enc : TypeId × Value → H) (W : World) (base : Nat) (args : Array Value) (ds gs : List (DataW H)) (before : List MemPlace)
  (hval : ∀ (j : Nat) t v, Tryz.f3.params[j]? = some t → args[j]? = some v → Value.okWide Tryz.prog W .any base t v)
  (hW : DataW.Whole enc Tryz.prog Tryz.f3.params.toList Rows.fnExactPanBoardSpec.vars false W args.toList ds gs before)
  (hsz : (DataW.weightsEach Tryz.prog (Tryz.f3.params.toList ++ Rows.fnExactPanBoardSpec.plain.varTypes Tryz.prog) (ds ++ gs)).all (· ≤ reachBytes) = true) (hL : laidMetH Tryz.prog Rows.fnExactPanBoardRow.laid W) (hsh : W.ShapedOpen Tryz.prog) :
  Calls Tryz.prog 3 args W fun e W' => ∃ v, e = .returned v ∧ Rows.fnExactPanBoardSpec.post enc Tryz.prog Tryz.f3 false true false false W args v W' := by
 have hW' := hW
 obtain ⟨p, q, hA0, hV, rfl, hfz, hnd⟩ := hW
 have hA : DataW.TrodAll enc Tryz.prog W 0 (fun _ => true) true Tryz.f3.params.toList args.toList ds p := hA0
 have hkeep := hA
 rw [Tryz.params3] at hA hval
 obtain ⟨v0, vs0, d0, ds0, p0, q0, hargs0, hds0, rfl, h0, r0⟩ := trodAll_cons hA
 obtain ⟨e1, e2, rfl⟩ := trodAll_nil r0
 subst e1; subst e2; subst hds0
 obtain rfl : args = #[v0] := by cases args; simp_all
 obtain ⟨rfl, rfl⟩ := trodVars_none hV
 have w0 : ∀ n ∈ DataW.weights Tryz.prog 26 d0, n ≤ reachBytes := fun n hn => by have := List.all_eq_true.1 hsz n (DataW.weights_mem_each (j := 0) (t := 26) (d := d0) rfl rfl n hn); simpa using this
 obtain ⟨a0, k0, s0⟩ := rs_agg rd_26 h0 w0 (okWide_agg Tryz.underlying26 (hval 0 26 v0 rfl rfl))
 simp only [List.append_nil] at hW'
 have hpure := law_PanBoard a0 (big_of k0).1 (big_of k0).2
 refine ((Con.run (vals := [v0]) (l_FnExactPanBoard_c hpure) (Lib.tabBelow_of_tabIs (table hL)) ⟨s0, trivial⟩)).mono fun e W' ⟨he, hb⟩ => ?_
 subst he
 have ht : ∀ t ∈ Tryz.f3.params.toList, Tryz.prog.readableRec t = true ∧ t < Tryz.prog.types.size := by rw [Tryz.params3]; intro t ht; simp at ht; rcases ht with rfl <;> exact ⟨by kernel_rfl, of_decide_eq_true (by kernel_rfl)⟩
 exact ⟨_, rfl, law_post laidOut ht hW' rfl hb (fun _ _ _ => trodAll_cons_mk (shut_bool Tryz.underlying4 _) trodAll_mk0) rfl rfl (ok_one (by kernel_rfl) rfl (okWide_bool_mk Tryz.underlying4 _))⟩
def tabCells (cs : Array Value) : Obj → Obj
 | .cells _ t frozen => .cells cs t frozen
 | o => o
noncomputable def laidWorld (os : Os) : World := { World.holding Tryz.prog os ⟨#[], #[], []⟩ with heap := ((((World.holding Tryz.prog os ⟨#[], #[], []⟩).heap.modify 1 (tabCells #[.int .u8 0, .int .u8 1, .int .u8 28, .int .u8 2, .int .u8 29, .int .u8 14, .int .u8 24, .int .u8 3, .int .u8 30, .int .u8 22, .int .u8 20, .int .u8 15, .int .u8 25, .int .u8 17, .int .u8 4, .int .u8 8, .int .u8 31, .int .u8 27, .int .u8 13, .int .u8 23, .int .u8 21, .int .u8 19, .int .u8 16, .int .u8 7, .int .u8 26, .int .u8 12, .int .u8 18, .int .u8 6, .int .u8 11, .int .u8 5, .int .u8 10, .int .u8 9])).modify 2 (tabCells #[.int .u8 0, .int .u8 1, .int .u8 56, .int .u8 2, .int .u8 57, .int .u8 49, .int .u8 28, .int .u8 3, .int .u8 61, .int .u8 58, .int .u8 42, .int .u8 50, .int .u8 38, .int .u8 29, .int .u8 17, .int .u8 4, .int .u8 62, .int .u8 47, .int .u8 59, .int .u8 36, .int .u8 45, .int .u8 43, .int .u8 51, .int .u8 22, .int .u8 53, .int .u8 39, .int .u8 33, .int .u8 30, .int .u8 24, .int .u8 18, .int .u8 12, .int .u8 5, .int .u8 63, .int .u8 55, .int .u8 48, .int .u8 27, .int .u8 60, .int .u8 41, .int .u8 37, .int .u8 16, .int .u8 46, .int .u8 35, .int .u8 44, .int .u8 21, .int .u8 52, .int .u8 32, .int .u8 23, .int .u8 11, .int .u8 54, .int .u8 26, .int .u8 40, .int .u8 15, .int .u8 34, .int .u8 20, .int .u8 31, .int .u8 10, .int .u8 25, .int .u8 14, .int .u8 19, .int .u8 9, .int .u8 13, .int .u8 8, .int .u8 7, .int .u8 6])).modify 0 (tabCells #[.int .u64 1, .int .u64 10, .int .u64 100, .int .u64 1000, .int .u64 10000, .int .u64 100000, .int .u64 1000000, .int .u64 10000000, .int .u64 100000000, .int .u64 1000000000, .int .u64 10000000000, .int .u64 100000000000, .int .u64 1000000000000, .int .u64 10000000000000, .int .u64 100000000000000, .int .u64 1000000000000000, .int .u64 10000000000000000, .int .u64 100000000000000000, .int .u64 1000000000000000000, .int .u64 10000000000000000000])) }
theorem laid_met (os : Os) : laidMet Tryz.prog Rows.fnExactPanBoardRow.laid ((laidWorld os).forCall (fun _ _ => 0) ⟨#[], #[.agg #[.int .i64 0, .slice none 0 0, .slice none 0 0, .slice none 0 0]], []⟩).memory :=
 laidMet_of_run' 8 (by kernel_rfl) (by kernel_rfl)
theorem reads (os : Os) {H : Type} (enc : TypeId × Value → H) : ∃ places, DataW.whole enc Tryz.prog ((laidWorld os).forCall (fun _ _ => 0) ⟨#[], #[.agg #[.int .i64 0, .slice none 0 0, .slice none 0 0, .slice none 0 0]], []⟩).memory Tryz.f3.params.toList Rows.fnExactPanBoardSpec.vars false #[.agg #[.int .i64 0, .slice none 0 0, .slice none 0 0, .slice none 0 0]].toList 8 = some ([.agg [.lit (.int .i64 0), .nil, .nil, .nil]], [], places) :=
 ⟨[], by kernel_rfl⟩
set_option maxRecDepth 100000 in
theorem lifted (os : Os) (started : os.Started) (H : Type) (enc : TypeId × Value → H) (F : Stop.Interp) :
  ReturnsInHanded {} Tryz.checked os 3 .any ((OpenSpec.ofChange Rows.fnExactPanBoardSpec).preRow enc Tryz.prog Tryz.f3 Rows.fnExactPanBoardRow.domain false Rows.fnExactPanBoardRow.laid) (((OpenSpec.ofChange Rows.fnExactPanBoardSpec).at F).post enc Tryz.prog Tryz.f3 false true false false) := by
 obtain ⟨places, hx⟩ := reads os enc
 refine returnsInHanded_of_row (C := Tryz.checked) (s := OpenSpec.ofChange Rows.fnExactPanBoardSpec) own started (by kernel_rfl) Tryz.func3
  (witness_row_at (enc := enc) (C := Tryz.checked) false (laidWorld os) #[.agg #[.int .i64 0, .slice none 0 0, .slice none 0 0, .slice none 0 0]] rfl (by kernel_rfl) (by kernel_rfl) (by kernel_rfl)
   (OpenSpec.preRow_of_cond 8 hx (by kernel_rfl) (fun k hk => by cases hk) (by kernel_rfl) (laid_met os))) ?_
 intro W base args ds gs before hval hW _ _ hsz hL hsh _
 exact contract H enc W base args ds gs before hval hW hsz hL hsh
theorem andT {a b : Bool} (h : a = true) (k : b = true) : (a && b) = true := by rw [h, k]; rfl
theorem tj0 : (Rows.fnExactPanBoardRow.wf (OpenSpec.ofChange Rows.fnExactPanBoardSpec)) = true := by kernel_rfl
theorem tj1 : (laidOutB Tryz.pinned.checked.prog) = true := by kernel_rfl
theorem tj2 : (mapsRowed Tryz.pinned.checked.prog) = true := by kernel_rfl
theorem tj3 : (Tryz.f3.params.all (Tryz.pinned.checked.prog.readableRec ·)) = true := by kernel_rfl
theorem tj4 : (namedTie Tryz.pinned.checked.prog Rows.fnExactPanBoardRow.named Rows.fnExactPanBoardSpec.vars) = true := by kernel_rfl
theorem tj5 : ((Rows.fnExactPanBoardRow.stops == [])) = true := by kernel_rfl
theorem tj6 : ((Tryz.pinned.checked.prog.stops == [])) = true := by kernel_rfl
theorem tj7 : ((Rows.fnExactPanBoardRow.knobs == [])) = true := by kernel_rfl
theorem tj8 : ((Tryz.pinned.checked.prog.stopKnobs == [])) = true := by kernel_rfl
theorem tj9 : ((Rows.fnExactPanBoardRow.inPlace == Tryz.pinned.checked.prog.inPlace 3)) = true := by kernel_rfl
theorem tj10 : ((Rows.fnExactPanBoardRow.unfollowed == Tryz.pinned.checked.prog.unfollowed 3)) = true := by kernel_rfl
theorem tj11 : ((Rows.fnExactPanBoardRow.recurses == Tryz.pinned.checked.prog.recurses 3)) = true := by kernel_rfl
theorem tj12 : ((Rows.fnExactPanBoardRow.named == Tryz.pinned.checked.prog.varsNamed 3)) = true := by kernel_rfl
theorem tj13 : ((Rows.fnExactPanBoardRow.maps == (Tryz.f3.params.toList ++ Rows.fnExactPanBoardSpec.plain.varTypes Tryz.pinned.checked.prog).any (Tryz.pinned.checked.prog.mapsRec ·))) = true := by kernel_rfl
theorem tj14 : ((Rows.fnExactPanBoardRow.ifaces == (Tryz.f3.params.toList ++ Rows.fnExactPanBoardSpec.plain.varTypes Tryz.pinned.checked.prog).any (Tryz.pinned.checked.prog.ifacesRec ·))) = true := by kernel_rfl
theorem tj15 : ((Rows.fnExactPanBoardRow.mapsOut == Tryz.pinned.checked.prog.mapsAmong Tryz.f3.resultTypes.toList)) = true := by kernel_rfl
theorem tj16 : ((Rows.fnExactPanBoardRow.loops == (Tryz.f3.params.toList ++ Rows.fnExactPanBoardSpec.plain.varTypes Tryz.pinned.checked.prog).any (Tryz.pinned.checked.prog.loopsFrom ·))) = true := by kernel_rfl
theorem tj17 : ((Rows.fnExactPanBoardRow.wideKeys == (Tryz.f3.params.toList ++ Rows.fnExactPanBoardSpec.plain.varTypes Tryz.pinned.checked.prog ++ Tryz.f3.resultTypes.toList).any (Tryz.pinned.checked.prog.wideKeysFrom ·))) = true := by kernel_rfl
theorem tj18 : (Rows.fnExactPanBoardSpec.vars.all (Tryz.pinned.checked.prog.varReadable ·)) = true := by kernel_rfl
theorem tj19 : (Tryz.f3.resultTypes.all (fun t => Tryz.pinned.checked.prog.readableRec t && decide (t < Tryz.pinned.checked.prog.types.size))) = true := by kernel_rfl
theorem tj20 : ((Rows.fnExactPanBoardRow.ifacesOut == Tryz.f3.resultTypes.toList.any (Tryz.pinned.checked.prog.ifacesRec ·))) = true := by kernel_rfl
theorem tj21 : ((Rows.fnExactPanBoardRow.loopsOut == Tryz.f3.resultTypes.toList.any (Tryz.pinned.checked.prog.loopsFrom ·))) = true := by kernel_rfl
theorem tj22 : ((Rows.fnExactPanBoardRow.plainKeys == Tryz.pinned.checked.prog.plainKeys)) = true := by kernel_rfl
theorem tj23 : (Rows.fnExactPanBoardRow.shortTexts.isNone) = true := by kernel_rfl
theorem tj24 : (Tryz.pinned.checked.prog.stopsHeard) = true := by kernel_rfl
theorem tj25 : (Tryz.pinned.checked.prog.mayEnter) = true := by kernel_rfl
theorem tj26 : ((Rows.fnExactPanBoardRow.lifted == Tryz.pinned.checked.prog.liftsFinal)) = true := by kernel_rfl
theorem tj27 : ((Tryz.pinned.checked.prog.make == some Rows.fnExactPanBoardRow.make)) = true := by kernel_rfl
theorem tj28 : ((Rows.fnExactPanBoardRow.kinds == (if Rows.fnExactPanBoardRow.domain.isEmpty then [] else Tryz.f3.params.toList.map fun t => match Tryz.pinned.checked.prog.underlying t with | some (.int k) => some k | _ => none))) = true := by kernel_rfl
theorem tj29 : ((Rows.fnExactPanBoardRow.pinned == Rows.fnExactPanBoardRow.pinnedBy)) = true := by kernel_rfl
theorem tj30 : ((Rows.fnExactPanBoardRow.veiled == (Tryz.f3.params.toList ++ Rows.fnExactPanBoardSpec.plain.varTypes Tryz.pinned.checked.prog ++ Tryz.f3.resultTypes.toList).any (Tryz.pinned.checked.prog.veiledRec ·))) = true := by kernel_rfl
theorem tj31 : (Rows.fnExactPanBoardRow.veiledFits Tryz.pinned.checked.prog Tryz.f3.params.toList (Tryz.f3.params.toList ++ Rows.fnExactPanBoardSpec.plain.varTypes Tryz.pinned.checked.prog ++ Tryz.f3.resultTypes.toList)) = true := by kernel_rfl
set_option maxRecDepth 100000 in
theorem closed : joinedFacts Tryz.pinned.checked.prog 3 Tryz.f3 Rows.fnExactPanBoardSpec Rows.fnExactPanBoardRow = true := by
 unfold joinedFacts
 exact (andT (andT (andT (andT (andT (andT (andT (andT (andT (andT (andT (andT (andT (andT (andT (andT (andT (andT (andT (andT (andT (andT (andT (andT (andT (andT (andT (andT (andT (andT (andT tj0 tj1) tj2) tj3) tj4) tj5) tj6) tj7) tj8) tj9) tj10) tj11) tj12) tj13) tj14) tj15) tj16) tj17) tj18) tj19) tj20) tj21) tj22) tj23) tj24) tj25) tj26) tj27) tj28) tj29) tj30) tj31)
theorem said : Rows.FnExactPanBoardSaid :=
 OpenClaim.holds_of_cond 3 Tryz.f3 rfl rfl rfl rfl rfl rfl rfl ⟨rfl, rfl, rfl, rfl, rfl⟩ rfl rfl rfl rfl rfl (by kernel_rfl) Tryz.func3 closed
  (of_decide_eq_true (by kernel_rfl)) (by unfold Func.isWrapper; first | (rw [if_pos (by decide +kernel)]; kernel_rfl) | (rw [if_neg (by decide +kernel)]; exact ⟨rfl, rfl⟩))
  (fun os started H enc _ F => by rw [OpenClaim.pre_eq_preRow]; exact lifted os started H enc F)
theorem plain (f : FuncId) (fn : Func) (hf : Tryz.pinned.checked.prog.funcNamed "loop.example/pannier/laws.FnExactPanBoard" = some f) (hfn : Tryz.pinned.checked.prog.funcs[f]? = some fn) :
  false = Tryz.pinned.checked.prog.looks [] ∧ ∀ (j : Nat) t, fn.params[j]? = some t → Tryz.pinned.checked.prog.wantsStandIn t = false := by
 obtain rfl : f = 3 := Option.some.inj ((show Tryz.prog.funcNamed "loop.example/pannier/laws.FnExactPanBoard" = some 3 by kernel_rfl).symm.trans hf) |>.symm
 obtain rfl : fn = Tryz.f3 := (Option.some.inj (Tryz.func3.symm.trans hfn)).symm
 refine ⟨by kernel_rfl, fun j t ht => ?_⟩
 rw [Tryz.params3] at ht
 have hm := Array.mem_of_getElem? ht
 simp at hm
 rcases hm with rfl
 ·exact (show Tryz.prog.wantsStandIn 26 = false by kernel_rfl)
theorem proved : Rows.FnExactPanBoardCardSaid :=
 Claim7.holds_tied_plain_at .later [] _ _ _ _ said (fun _ h => by cases h) (by kernel_rfl) (fun _ h => by cases h) fnExactPanBoard_row_tie rfl ⟨rfl, rfl⟩ (by kernel_rfl) rfl plain (by kernel_rfl)
end Go.Proofs.YtkembmbgkbonmaaGreatDoor.fnExactPanBoard
