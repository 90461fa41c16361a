/- Words and walks for the proof. -/
import Derived.Test.YtkembmbgkbonmaaGreatDoorBoC
import Derived.Shelf.Strconv.AppendIntPublic10
import Derived.Maps.AppendAt
import Derived.Lib.ItoaLen
set_option linter.unusedVariables false
set_option linter.unusedSimpArgs false
set_option linter.unusedSectionVars false
namespace Go.Proofs.PanB
open Go.Vs
set_option maxRecDepth 8000
def s_l64Lines (a0 : Server) : Option (ByteArray) :=
 (s_l6Dec (a0.Id.natAbs + 2) a0.Id).bind (fun y1 => ck ((⟨#[115, 101, 114, 118, 101, 114, 32]⟩ : ByteArray).size + y1.size ≤ 9223372036854775807) (jn (fun (v3 : ByteArray) => ck (v3.size + (⟨#[44, 32, 108, 111, 103, 32]⟩ : ByteArray).size ≤ 9223372036854775807) ((s_l6Dec (((a0.Log.length : Nat) : Int).natAbs + 2) ((a0.Log.length : Nat) : Int)).bind (fun y4 => ck ((v3 ++ (⟨#[44, 32, 108, 111, 103, 32]⟩ : ByteArray)).size + y4.size ≤ 9223372036854775807) (ck (((v3 ++ (⟨#[44, 32, 108, 111, 103, 32]⟩ : ByteArray)) ++ y4).size + (⟨#[44, 32, 119, 97, 110, 116, 115, 32]⟩ : ByteArray).size ≤ 9223372036854775807) ((s_l6Dec (((a0.Wants.length : Nat) : Int).natAbs + 2) ((a0.Wants.length : Nat) : Int)).bind (fun y5 => ck ((((v3 ++ (⟨#[44, 32, 108, 111, 103, 32]⟩ : ByteArray)) ++ y4) ++ (⟨#[44, 32, 119, 97, 110, 116, 115, 32]⟩ : ByteArray)).size + y5.size ≤ 9223372036854775807) (ck (((((v3 ++ (⟨#[44, 32, 108, 111, 103, 32]⟩ : ByteArray)) ++ y4) ++ (⟨#[44, 32, 119, 97, 110, 116, 115, 32]⟩ : ByteArray)) ++ y5).size + (⟨#[44, 32]⟩ : ByteArray).size ≤ 9223372036854775807) ((s_l6Dec (((a0.Doing.length : Nat) : Int).natAbs + 2) ((a0.Doing.length : Nat) : Int)).bind (fun y6 => ck ((((((v3 ++ (⟨#[44, 32, 108, 111, 103, 32]⟩ : ByteArray)) ++ y4) ++ (⟨#[44, 32, 119, 97, 110, 116, 115, 32]⟩ : ByteArray)) ++ y5) ++ (⟨#[44, 32]⟩ : ByteArray)).size + y6.size ≤ 9223372036854775807) (ck (((((((v3 ++ (⟨#[44, 32, 108, 111, 103, 32]⟩ : ByteArray)) ++ y4) ++ (⟨#[44, 32, 119, 97, 110, 116, 115, 32]⟩ : ByteArray)) ++ y5) ++ (⟨#[44, 32]⟩ : ByteArray)) ++ y6).size + (⟨#[32, 119, 97, 105, 116, 105, 110, 103, 10]⟩ : ByteArray).size ≤ 9223372036854775807) (loopN (fun i7 (v70 : ByteArray) κ71 => lt (a0.Copies.getD i7 default) (fun x73 => ck (v70.size + (⟨#[32, 32, 114, 97, 110, 103, 101, 32]⟩ : ByteArray).size ≤ 9223372036854775807) ((s_l6Dec (x73.Range.natAbs + 2) x73.Range).bind (fun y74 => ck ((v70 ++ (⟨#[32, 32, 114, 97, 110, 103, 101, 32]⟩ : ByteArray)).size + y74.size ≤ 9223372036854775807) (ck (((v70 ++ (⟨#[32, 32, 114, 97, 110, 103, 101, 32]⟩ : ByteArray)) ++ y74).size + (⟨#[32, 119, 104, 111, 108, 101, 32]⟩ : ByteArray).size ≤ 9223372036854775807) ((s_l6Dec (x73.Valid.natAbs + 2) x73.Valid).bind (fun y75 => ck ((((v70 ++ (⟨#[32, 32, 114, 97, 110, 103, 101, 32]⟩ : ByteArray)) ++ y74) ++ (⟨#[32, 119, 104, 111, 108, 101, 32]⟩ : ByteArray)).size + y75.size ≤ 9223372036854775807) (ck (((((v70 ++ (⟨#[32, 32, 114, 97, 110, 103, 101, 32]⟩ : ByteArray)) ++ y74) ++ (⟨#[32, 119, 104, 111, 108, 101, 32]⟩ : ByteArray)) ++ y75).size + (⟨#[44, 32, 97, 115, 107, 101, 100, 32]⟩ : ByteArray).size ≤ 9223372036854775807) ((s_l6Dec (x73.Asked.natAbs + 2) x73.Asked).bind (fun y76 => ck ((((((v70 ++ (⟨#[32, 32, 114, 97, 110, 103, 101, 32]⟩ : ByteArray)) ++ y74) ++ (⟨#[32, 119, 104, 111, 108, 101, 32]⟩ : ByteArray)) ++ y75) ++ (⟨#[44, 32, 97, 115, 107, 101, 100, 32]⟩ : ByteArray)).size + y76.size ≤ 9223372036854775807) (ck (((((((v70 ++ (⟨#[32, 32, 114, 97, 110, 103, 101, 32]⟩ : ByteArray)) ++ y74) ++ (⟨#[32, 119, 104, 111, 108, 101, 32]⟩ : ByteArray)) ++ y75) ++ (⟨#[44, 32, 97, 115, 107, 101, 100, 32]⟩ : ByteArray)) ++ y76).size + (⟨#[44, 32]⟩ : ByteArray).size ≤ 9223372036854775807) ((s_l6Dec (((x73.Busy.length : Nat) : Int).natAbs + 2) ((x73.Busy.length : Nat) : Int)).bind (fun y77 => ck ((((((((v70 ++ (⟨#[32, 32, 114, 97, 110, 103, 101, 32]⟩ : ByteArray)) ++ y74) ++ (⟨#[32, 119, 104, 111, 108, 101, 32]⟩ : ByteArray)) ++ y75) ++ (⟨#[44, 32, 97, 115, 107, 101, 100, 32]⟩ : ByteArray)) ++ y76) ++ (⟨#[44, 32]⟩ : ByteArray)).size + y77.size ≤ 9223372036854775807) (ck (((((((((v70 ++ (⟨#[32, 32, 114, 97, 110, 103, 101, 32]⟩ : ByteArray)) ++ y74) ++ (⟨#[32, 119, 104, 111, 108, 101, 32]⟩ : ByteArray)) ++ y75) ++ (⟨#[44, 32, 97, 115, 107, 101, 100, 32]⟩ : ByteArray)) ++ y76) ++ (⟨#[44, 32]⟩ : ByteArray)) ++ y77).size + (⟨#[32, 98, 117, 115, 121, 58]⟩ : ByteArray).size ≤ 9223372036854775807) (loopN (fun i78 (v93 : ByteArray) κ94 => lt (x73.Pieces.getD i78 default) (fun x96 => ck (v93.size + (⟨#[32]⟩ : ByteArray).size ≤ 9223372036854775807) ((s_l6Dec (x96.Disk.natAbs + 2) x96.Disk).bind (fun y97 => ck ((v93 ++ (⟨#[32]⟩ : ByteArray)).size + y97.size ≤ 9223372036854775807) (ck (((v93 ++ (⟨#[32]⟩ : ByteArray)) ++ y97).size + (⟨#[46]⟩ : ByteArray).size ≤ 9223372036854775807) ((s_l6Dec (x96.Block.natAbs + 2) x96.Block).bind (fun y98 => ck ((((v93 ++ (⟨#[32]⟩ : ByteArray)) ++ y97) ++ (⟨#[46]⟩ : ByteArray)).size + y98.size ≤ 9223372036854775807) (ck (((((v93 ++ (⟨#[32]⟩ : ByteArray)) ++ y97) ++ (⟨#[46]⟩ : ByteArray)) ++ y98).size + (⟨#[46]⟩ : ByteArray).size ≤ 9223372036854775807) ((s_l6Dec (x96.Epoch.natAbs + 2) x96.Epoch).bind (fun y99 => ck ((((((v93 ++ (⟨#[32]⟩ : ByteArray)) ++ y97) ++ (⟨#[46]⟩ : ByteArray)) ++ y98) ++ (⟨#[46]⟩ : ByteArray)).size + y99.size ≤ 9223372036854775807) (ck (((((((v93 ++ (⟨#[32]⟩ : ByteArray)) ++ y97) ++ (⟨#[46]⟩ : ByteArray)) ++ y98) ++ (⟨#[46]⟩ : ByteArray)) ++ y99).size + (⟨#[61]⟩ : ByteArray).size ≤ 9223372036854775807) ((s_l6Dec (x96.Data.natAbs + 2) x96.Data).bind (fun y100 => ck ((((((((v93 ++ (⟨#[32]⟩ : ByteArray)) ++ y97) ++ (⟨#[46]⟩ : ByteArray)) ++ y98) ++ (⟨#[46]⟩ : ByteArray)) ++ y99) ++ (⟨#[61]⟩ : ByteArray)).size + y100.size ≤ 9223372036854775807) (κ94 ((((((((v93 ++ (⟨#[32]⟩ : ByteArray)) ++ y97) ++ (⟨#[46]⟩ : ByteArray)) ++ y98) ++ (⟨#[46]⟩ : ByteArray)) ++ y99) ++ (⟨#[61]⟩ : ByteArray)) ++ y100))))))))))))))) (fun (v93 : ByteArray) => ck (v93.size + (⟨#[10]⟩ : ByteArray).size ≤ 9223372036854775807) (κ71 (v93 ++ (⟨#[10]⟩ : ByteArray)))) x73.Pieces.length 0 (((((((((v70 ++ (⟨#[32, 32, 114, 97, 110, 103, 101, 32]⟩ : ByteArray)) ++ y74) ++ (⟨#[32, 119, 104, 111, 108, 101, 32]⟩ : ByteArray)) ++ y75) ++ (⟨#[44, 32, 97, 115, 107, 101, 100, 32]⟩ : ByteArray)) ++ y76) ++ (⟨#[44, 32]⟩ : ByteArray)) ++ y77) ++ (⟨#[32, 98, 117, 115, 121, 58]⟩ : ByteArray))))))))))))))))) (fun (v70 : ByteArray) => some v70) a0.Copies.length 0 (((((((v3 ++ (⟨#[44, 32, 108, 111, 103, 32]⟩ : ByteArray)) ++ y4) ++ (⟨#[44, 32, 119, 97, 110, 116, 115, 32]⟩ : ByteArray)) ++ y5) ++ (⟨#[44, 32]⟩ : ByteArray)) ++ y6) ++ (⟨#[32, 119, 97, 105, 116, 105, 110, 103, 10]⟩ : ByteArray))))))))))))) (fun j103 => cond a0.Gone (ck (((⟨#[115, 101, 114, 118, 101, 114, 32]⟩ : ByteArray) ++ y1).size + (⟨#[32, 103, 111, 110, 101]⟩ : ByteArray).size ≤ 9223372036854775807) (j103 (((⟨#[115, 101, 114, 118, 101, 114, 32]⟩ : ByteArray) ++ y1) ++ (⟨#[32, 103, 111, 110, 101]⟩ : ByteArray)))) (cond a0.Up (ck (((⟨#[115, 101, 114, 118, 101, 114, 32]⟩ : ByteArray) ++ y1).size + (⟨#[32, 117, 112]⟩ : ByteArray).size ≤ 9223372036854775807) (j103 (((⟨#[115, 101, 114, 118, 101, 114, 32]⟩ : ByteArray) ++ y1) ++ (⟨#[32, 117, 112]⟩ : ByteArray)))) (ck (((⟨#[115, 101, 114, 118, 101, 114, 32]⟩ : ByteArray) ++ y1).size + (⟨#[32, 100, 111, 119, 110]⟩ : ByteArray).size ≤ 9223372036854775807) (j103 (((⟨#[115, 101, 114, 118, 101, 114, 32]⟩ : ByteArray) ++ y1) ++ (⟨#[32, 100, 111, 119, 110]⟩ : ByteArray))))))))
theorem s_l64Lines_c {t0_33 t0_34 t0_35 t0_5 t0_6 t0_7 : Bool} {a0 : Server} {r : ByteArray} (hF : s_l64Lines a0 = some r) : Con Tryz.prog 15 [.val true (.u (cI a0.Id) :: .u (.bool a0.Up) :: .u (.bool a0.Gone) :: .u (cI a0.Round) :: .u (cI a0.Voter.Promised) :: .u (ul SynPaper.c 12 t0_5 a0.Voter.Papers) :: .u (ul Cmd.c 10 t0_6 a0.Log) :: .u (ul SrvCopy.c 6 t0_7 a0.Copies) :: .u (cI a0.Seek.Slot) :: .u (cI a0.Seek.Ballot) :: .u (cI a0.Seek.Phase) :: .u (cI a0.Seek.Mine.Kind) :: .u (cI a0.Seek.Mine.Client) :: .u (cI a0.Seek.Mine.Call) :: .u (cI a0.Seek.Mine.Disk) :: .u (cI a0.Seek.Mine.Arg) :: .u (cI a0.Seek.Mine.Epoch) :: .u (cI a0.Seek.Mine.Range) :: .u (cI a0.Seek.Mine.Num) :: .u (cI a0.Seek.Mine.A) :: .u (cI a0.Seek.Mine.B) :: .u (cI a0.Seek.Best.Slot) :: .u (cI a0.Seek.Best.Ballot) :: .u (cI a0.Seek.Best.Cmd.Kind) :: .u (cI a0.Seek.Best.Cmd.Client) :: .u (cI a0.Seek.Best.Cmd.Call) :: .u (cI a0.Seek.Best.Cmd.Disk) :: .u (cI a0.Seek.Best.Cmd.Arg) :: .u (cI a0.Seek.Best.Cmd.Epoch) :: .u (cI a0.Seek.Best.Cmd.Range) :: .u (cI a0.Seek.Best.Cmd.Num) :: .u (cI a0.Seek.Best.Cmd.A) :: .u (cI a0.Seek.Best.Cmd.B) :: .u (ul cInt 1 t0_33 a0.Seek.Yes) :: .u (ul Cmd.c 10 t0_34 a0.Wants) :: .u (ul SrvDoing.c 8 t0_35 a0.Doing) :: [])] [] (vstr r) [] := by
 refine Con.of_Dz tabOk Tryz.func15 rfl rfl rfl ?_
 delta s_l64Lines at hF
 refine Dz.seq (Dz.reg (Dz.seq (Dz.reg ?_)))
 refine bdE hF (fun y1 hy1 hF => ?_)
 refine callG [] (s_l6Dec_c hy1) ⟨mv rfl, tv⟩ tv rfl ?_
 refine vck hF id (fun _ hF => ?_)
 refine Dz.jn hF (fun v3 => ([(1, .ptr 0 0), (3, vstr v3)], [.box 63 (.u (cI a0.Id) :: .u (.bool a0.Up) :: .u (.bool a0.Gone) :: .u (cI a0.Round) :: .u (cI a0.Voter.Promised) :: .u (ul SynPaper.c 12 t0_5 a0.Voter.Papers) :: .u (ul Cmd.c 10 t0_6 a0.Log) :: .u (ul SrvCopy.c 6 t0_7 a0.Copies) :: .u (cI a0.Seek.Slot) :: .u (cI a0.Seek.Ballot) :: .u (cI a0.Seek.Phase) :: .u (cI a0.Seek.Mine.Kind) :: .u (cI a0.Seek.Mine.Client) :: .u (cI a0.Seek.Mine.Call) :: .u (cI a0.Seek.Mine.Disk) :: .u (cI a0.Seek.Mine.Arg) :: .u (cI a0.Seek.Mine.Epoch) :: .u (cI a0.Seek.Mine.Range) :: .u (cI a0.Seek.Mine.Num) :: .u (cI a0.Seek.Mine.A) :: .u (cI a0.Seek.Mine.B) :: .u (cI a0.Seek.Best.Slot) :: .u (cI a0.Seek.Best.Ballot) :: .u (cI a0.Seek.Best.Cmd.Kind) :: .u (cI a0.Seek.Best.Cmd.Client) :: .u (cI a0.Seek.Best.Cmd.Call) :: .u (cI a0.Seek.Best.Cmd.Disk) :: .u (cI a0.Seek.Best.Cmd.Arg) :: .u (cI a0.Seek.Best.Cmd.Epoch) :: .u (cI a0.Seek.Best.Cmd.Range) :: .u (cI a0.Seek.Best.Cmd.Num) :: .u (cI a0.Seek.Best.Cmd.A) :: .u (cI a0.Seek.Best.Cmd.B) :: .u (ul cInt 1 t0_33 a0.Seek.Yes) :: .u (ul Cmd.c 10 t0_34 a0.Wants) :: .u (ul SrvDoing.c 8 t0_35 a0.Doing) :: [])])) (fun v3 hF => ?_) (fun hF => ?_)
 ·refine Dz.seq ?_
  refine Dz.drw 1 [⟨[26,27,28,29,32,33,34,35,38,39,40,41], [], 1, 1⟩, ⟨[26,27,28,29,32,33,34,35,38,39,40,41], [], 1, 1⟩, ⟨[24,25,32,33,34,38,39,40], [], 1, 1⟩, ⟨[24,25,32,33,34,38,39,40], [0], 1, 1⟩, ⟨[24,25,32,33,34,38,39,40], [], 1, 1⟩, ⟨[24,25,32,33,34,38,39,40], [], 1, 1⟩, ⟨[32,33,34,35,38,39,40,41], [], 1, 1⟩, ⟨[32,33,34,35,38,39,40,41], [], 1, 1⟩, ⟨[24,25,26,27,28,29,30,31,38,39,40], [], 1, 1⟩, ⟨[24,25,26,27,28,29,30,31,38,39,40], [0], 1, 1⟩, ⟨[24,25,26,27,28,29,30,31,38,39,40], [], 1, 1⟩, ⟨[24,25,30,31,38,39,40], [], 1, 1⟩, ⟨[38,39,40,41], [], 1, 1⟩, ⟨[38,39,40,41], [], 1, 1⟩, ⟨[24,25,26,27,28,29,30,31,32,33,34,35,36,37], [], 1, 1⟩, ⟨[24,25,26,27,28,29,30,31,32,33,34,35,36,37], [0], 1, 1⟩, ⟨[24,25,26,27,28,29,30,31,32,33,34,35,36,37], [], 1, 1⟩, ⟨[24,25,30,31,36,37], [], 1, 1⟩, ⟨[], [], 1, 1⟩, ⟨[], [], 1, 1⟩, ⟨[], [], 1, 1⟩] ⟨by kernel_rfl, by kernel_rfl, rfl⟩ ?_
  refine vck hF id (fun _ hF => ?_)
  refine bdE hF (fun y4 hy4 hF => ?_)
  refine callG [] (s_l6Dec_c hy4) ⟨mv rfl, tv⟩ tv rfl ?_
  refine vck hF id (fun _ hF => ?_)
  refine vck hF id (fun _ hF => ?_)
  refine bdE hF (fun y5 hy5 hF => ?_)
  refine callG [] (s_l6Dec_c hy5) ⟨mv rfl, tv⟩ tv rfl ?_
  refine vck hF id (fun _ hF => ?_)
  refine vck hF id (fun _ hF => ?_)
  refine bdE hF (fun y6 hy6 hF => ?_)
  refine callG [] (s_l6Dec_c hy6) ⟨mv rfl, tv⟩ tv rfl ?_
  refine vck hF id (fun _ hF => ?_)
  refine vck hF id (fun _ hF => ?_)
  refine Dz.seq (Dz.seq (Dz.reg (Dz.blk ?_)))
  refine Dz.cnt hF (fun i7 v70 => ([(1, .ptr 0 0), (3, vstr v70), (4, vint .i64 ((i7 : Nat) : Int))], [.box 63 (.u (cI a0.Id) :: .u (.bool a0.Up) :: .u (.bool a0.Gone) :: .u (cI a0.Round) :: .u (cI a0.Voter.Promised) :: .u (ul SynPaper.c 12 t0_5 a0.Voter.Papers) :: .u (ul Cmd.c 10 t0_6 a0.Log) :: .u (ul SrvCopy.c 6 t0_7 a0.Copies) :: .u (cI a0.Seek.Slot) :: .u (cI a0.Seek.Ballot) :: .u (cI a0.Seek.Phase) :: .u (cI a0.Seek.Mine.Kind) :: .u (cI a0.Seek.Mine.Client) :: .u (cI a0.Seek.Mine.Call) :: .u (cI a0.Seek.Mine.Disk) :: .u (cI a0.Seek.Mine.Arg) :: .u (cI a0.Seek.Mine.Epoch) :: .u (cI a0.Seek.Mine.Range) :: .u (cI a0.Seek.Mine.Num) :: .u (cI a0.Seek.Mine.A) :: .u (cI a0.Seek.Mine.B) :: .u (cI a0.Seek.Best.Slot) :: .u (cI a0.Seek.Best.Ballot) :: .u (cI a0.Seek.Best.Cmd.Kind) :: .u (cI a0.Seek.Best.Cmd.Client) :: .u (cI a0.Seek.Best.Cmd.Call) :: .u (cI a0.Seek.Best.Cmd.Disk) :: .u (cI a0.Seek.Best.Cmd.Arg) :: .u (cI a0.Seek.Best.Cmd.Epoch) :: .u (cI a0.Seek.Best.Cmd.Range) :: .u (cI a0.Seek.Best.Cmd.Num) :: .u (cI a0.Seek.Best.Cmd.A) :: .u (cI a0.Seek.Best.Cmd.B) :: .u (ul cInt 1 t0_33 a0.Seek.Yes) :: .u (ul Cmd.c 10 t0_34 a0.Wants) :: .u (ul SrvDoing.c 8 t0_35 a0.Doing) :: [])])) (entG [0] ⟨mp rfl, mv rfl, mv rfl, tv⟩ ⟨⟨rfl, o_box rfl⟩, tv⟩ rfl) (fun v70 hF => ?_) (fun i7 v70 κ71 hi0i7 hi1i7 hF => ?_)
  ·refine Dz.seq (Dz.seq (Dz.reg ?_))
   intro hb102; replace hb102 : a0.Copies.length ≤ 140737488355328 := hb102
   refine Dz.ff (b := decide (((0 + a0.Copies.length : Nat) : Int) < ((a0.Copies.length : Nat) : Int))) rfl (decide_eq_false (by omega)) ?_
   refine Dz.exit (Dz.seq (Dz.reg (Dz.ret ?_)))
   cases hF
   exact finG [] [] rfl rfl (mv rfl) tv rfl
  ·refine Dz.seq (Dz.seq (Dz.reg ?_))
   intro hb72; replace hb72 : a0.Copies.length ≤ 140737488355328 := hb72
   refine Dz.tt (b := decide (((i7 : Nat) : Int) < ((a0.Copies.length : Nat) : Int))) rfl (decide_eq_true (by omega)) ?_
   refine Dz.skip (Dz.seq (Dz.blk (Dz.seq (Dz.reg ?_))))
   refine vge (n := ((i7 : Nat) : Int)) (hi := (a0.Copies.length : Int)) (by omega) (by omega) ?_
   have hF := ltE hF
   refine Dz.seq ?_
   refine Dz.drw 2 [⟨[58,59,60,63,64,65,68,69,70,73,74,75,76], [], 2, 2⟩, ⟨[58,59,60,63,64,65,68,69,70,73,74,75,76], [], 2, 2⟩, ⟨[56,57,63,64,68,69,73,74,75], [], 2, 2⟩, ⟨[56,57,63,64,68,69,73,74,75], [1], 2, 2⟩, ⟨[56,57,63,64,68,69,73,74,75], [], 2, 2⟩, ⟨[63,64,65,68,69,70,73,74,75,76], [], 2, 2⟩, ⟨[63,64,65,68,69,70,73,74,75,76], [], 2, 2⟩, ⟨[56,57,58,59,60,61,62,68,69,73,74,75], [], 2, 2⟩, ⟨[56,57,58,59,60,61,62,68,69,73,74,75], [1], 2, 2⟩, ⟨[56,57,61,62,68,69,73,74,75], [], 2, 2⟩, ⟨[68,69,70,73,74,75,76], [], 2, 2⟩, ⟨[68,69,70,73,74,75,76], [], 2, 2⟩, ⟨[56,57,58,59,60,61,62,63,64,65,66,67,73,74,75], [], 2, 2⟩, ⟨[56,57,58,59,60,61,62,63,64,65,66,67,73,74,75], [1], 2, 2⟩, ⟨[56,57,61,62,66,67,73,74,75], [], 2, 2⟩, ⟨[73,74,75,76], [], 2, 2⟩, ⟨[73,74,75,76], [], 2, 2⟩, ⟨[56,57,58,59,60,61,62,63,64,65,66,67,68,69,70,71,72], [], 2, 2⟩, ⟨[56,57,58,59,60,61,62,63,64,65,66,67,68,69,70,71,72], [1], 2, 2⟩, ⟨[56,57,58,59,60,61,62,63,64,65,66,67,68,69,70,71,72], [], 2, 2⟩, ⟨[56,57,61,62,66,67,71,72], [], 2, 2⟩, ⟨[], [], 2, 2⟩, ⟨[], [], 2, 2⟩, ⟨[], [], 2, 2⟩] ⟨by kernel_rfl, by kernel_rfl, rfl⟩ ?_
   refine vck hF id (fun _ hF => ?_)
   refine bdE hF (fun y74 hy74 hF => ?_)
   refine callG [] (s_l6Dec_c hy74) ⟨mv rfl, tv⟩ tv rfl ?_
   refine vck hF id (fun _ hF => ?_)
   refine vck hF id (fun _ hF => ?_)
   refine bdE hF (fun y75 hy75 hF => ?_)
   refine callG [] (s_l6Dec_c hy75) ⟨mv rfl, tv⟩ tv rfl ?_
   refine vck hF id (fun _ hF => ?_)
   refine vck hF id (fun _ hF => ?_)
   refine bdE hF (fun y76 hy76 hF => ?_)
   refine callG [] (s_l6Dec_c hy76) ⟨mv rfl, tv⟩ tv rfl ?_
   refine vck hF id (fun _ hF => ?_)
   refine vck hF id (fun _ hF => ?_)
   refine bdE hF (fun y77 hy77 hF => ?_)
   refine callG [] (s_l6Dec_c hy77) ⟨mv rfl, tv⟩ tv rfl ?_
   refine vck hF id (fun _ hF => ?_)
   refine vck hF id (fun _ hF => ?_)
   refine Dz.seq (Dz.seq (Dz.reg (Dz.blk ?_)))
   refine Dz.cnt hF (fun i78 v93 => ([(1, .ptr 0 0), (3, vstr v93), (4, vint .i64 ((i7 : Nat) : Int)), (5, .ptr 1 0), (6, vint .i64 ((i78 : Nat) : Int))], [.box 63 (.u (cI a0.Id) :: .u (.bool a0.Up) :: .u (.bool a0.Gone) :: .u (cI a0.Round) :: .u (cI a0.Voter.Promised) :: .u (ul SynPaper.c 12 t0_5 a0.Voter.Papers) :: .u (ul Cmd.c 10 t0_6 a0.Log) :: .u (ul SrvCopy.c 6 t0_7 a0.Copies) :: .u (cI a0.Seek.Slot) :: .u (cI a0.Seek.Ballot) :: .u (cI a0.Seek.Phase) :: .u (cI a0.Seek.Mine.Kind) :: .u (cI a0.Seek.Mine.Client) :: .u (cI a0.Seek.Mine.Call) :: .u (cI a0.Seek.Mine.Disk) :: .u (cI a0.Seek.Mine.Arg) :: .u (cI a0.Seek.Mine.Epoch) :: .u (cI a0.Seek.Mine.Range) :: .u (cI a0.Seek.Mine.Num) :: .u (cI a0.Seek.Mine.A) :: .u (cI a0.Seek.Mine.B) :: .u (cI a0.Seek.Best.Slot) :: .u (cI a0.Seek.Best.Ballot) :: .u (cI a0.Seek.Best.Cmd.Kind) :: .u (cI a0.Seek.Best.Cmd.Client) :: .u (cI a0.Seek.Best.Cmd.Call) :: .u (cI a0.Seek.Best.Cmd.Disk) :: .u (cI a0.Seek.Best.Cmd.Arg) :: .u (cI a0.Seek.Best.Cmd.Epoch) :: .u (cI a0.Seek.Best.Cmd.Range) :: .u (cI a0.Seek.Best.Cmd.Num) :: .u (cI a0.Seek.Best.Cmd.A) :: .u (cI a0.Seek.Best.Cmd.B) :: .u (ul cInt 1 t0_33 a0.Seek.Yes) :: .u (ul Cmd.c 10 t0_34 a0.Wants) :: .u (ul SrvDoing.c 8 t0_35 a0.Doing) :: []), .box 119 (SrvCopy.L (a0.Copies.getD i7 default))])) (entG [0, 1] ⟨mp rfl, mv rfl, mv rfl, mp rfl, mv rfl, tv⟩ ⟨⟨rfl, o_box rfl⟩, ⟨rfl, o_box rfl⟩, tv⟩ rfl) (fun v93 hF => ?_) (fun i78 v93 κ94 hi0i78 hi1i78 hF => ?_)
   ·refine Dz.seq (Dz.seq (Dz.reg ?_))
    intro hb101; replace hb101 : (a0.Copies.getD i7 default).Pieces.length ≤ 140737488355328 := hb101
    refine Dz.ff (b := decide (((0 + (a0.Copies.getD i7 default).Pieces.length : Nat) : Int) < (((a0.Copies.getD i7 default).Pieces.length : Nat) : Int))) rfl (decide_eq_false (by omega)) ?_
    refine Dz.exit (Dz.reg ?_)
    refine vck hF id (fun _ hF => ?_)
    refine Dz.reg ?_
    refine vsucc (by omega) ?_
    exact ⟨(v93 ++ (⟨#[10]⟩ : ByteArray)), entG [0] ⟨mp rfl, mv rfl, mv rfl, tv⟩ ⟨⟨rfl, o_box rfl⟩, tv⟩ rfl, hF⟩
   ·refine Dz.seq (Dz.seq (Dz.reg ?_))
    intro hb95; replace hb95 : (a0.Copies.getD i7 default).Pieces.length ≤ 140737488355328 := hb95
    refine Dz.tt (b := decide (((i78 : Nat) : Int) < (((a0.Copies.getD i7 default).Pieces.length : Nat) : Int))) rfl (decide_eq_true (by omega)) ?_
    refine Dz.skip (Dz.seq (Dz.blk (Dz.seq (Dz.reg ?_))))
    refine vge (n := ((i78 : Nat) : Int)) (hi := (((a0.Copies.getD i7 default).Pieces).length : Int)) (by omega) (by omega) ?_
    have hF := ltE hF
    refine Dz.drw 3 [⟨[93,94,95,98,99,100,103,104,105,108,109,110], [], 3, 3⟩, ⟨[93,94,95,98,99,100,103,104,105,108,109,110], [], 3, 3⟩, ⟨[91,92,98,99,103,104,108,109], [], 3, 3⟩, ⟨[91,92,98,99,103,104,108,109], [2], 3, 3⟩, ⟨[91,92,98,99,103,104,108,109], [], 3, 3⟩, ⟨[98,99,100,103,104,105,108,109,110], [], 3, 3⟩, ⟨[98,99,100,103,104,105,108,109,110], [], 3, 3⟩, ⟨[91,92,93,94,95,96,97,103,104,108,109], [], 3, 3⟩, ⟨[91,92,93,94,95,96,97,103,104,108,109], [2], 3, 3⟩, ⟨[91,92,96,97,103,104,108,109], [], 3, 3⟩, ⟨[103,104,105,108,109,110], [], 3, 3⟩, ⟨[103,104,105,108,109,110], [], 3, 3⟩, ⟨[91,92,93,94,95,96,97,98,99,100,101,102,108,109], [], 3, 3⟩, ⟨[91,92,93,94,95,96,97,98,99,100,101,102,108,109], [2], 3, 3⟩, ⟨[91,92,96,97,101,102,108,109], [], 3, 3⟩, ⟨[108,109,110], [], 3, 3⟩, ⟨[108,109,110], [], 3, 3⟩, ⟨[91,92,93,94,95,96,97,98,99,100,101,102,103,104,105,106,107], [], 3, 3⟩, ⟨[91,92,93,94,95,96,97,98,99,100,101,102,103,104,105,106,107], [2], 3, 3⟩, ⟨[91,92,96,97,101,102,106,107], [], 3, 3⟩, ⟨[], [], 3, 3⟩, ⟨[], [], 3, 3⟩] ⟨by kernel_rfl, by kernel_rfl, rfl⟩ ?_
    refine vck hF id (fun _ hF => ?_)
    refine bdE hF (fun y97 hy97 hF => ?_)
    refine callG [] (s_l6Dec_c hy97) ⟨mv rfl, tv⟩ tv rfl ?_
    refine vck hF id (fun _ hF => ?_)
    refine vck hF id (fun _ hF => ?_)
    refine bdE hF (fun y98 hy98 hF => ?_)
    refine callG [] (s_l6Dec_c hy98) ⟨mv rfl, tv⟩ tv rfl ?_
    refine vck hF id (fun _ hF => ?_)
    refine vck hF id (fun _ hF => ?_)
    refine bdE hF (fun y99 hy99 hF => ?_)
    refine callG [] (s_l6Dec_c hy99) ⟨mv rfl, tv⟩ tv rfl ?_
    refine vck hF id (fun _ hF => ?_)
    refine vck hF id (fun _ hF => ?_)
    refine bdE hF (fun y100 hy100 hF => ?_)
    refine callG [] (s_l6Dec_c hy100) ⟨mv rfl, tv⟩ tv rfl ?_
    refine vck hF id (fun _ hF => ?_)
    refine Dz.reg ?_
    refine vsucc (by omega) ?_
    exact ⟨((((((((v93 ++ (⟨#[32]⟩ : ByteArray)) ++ y97) ++ (⟨#[46]⟩ : ByteArray)) ++ y98) ++ (⟨#[46]⟩ : ByteArray)) ++ y99) ++ (⟨#[61]⟩ : ByteArray)) ++ y100), entG [0, 1] ⟨mp rfl, mv rfl, mv rfl, mp rfl, mv rfl, tv⟩ ⟨⟨rfl, o_box rfl⟩, ⟨rfl, o_box rfl⟩, tv⟩ rfl, hF⟩
 ·refine Dz.blk (Dz.seq (Dz.reg ?_))
  refine Dz.ite rfl hF (fun _ hF => ?_) (fun _ hF => ?_)
  ·refine Dz.reg ?_
   refine vck hF id (fun _ hF => ?_)
   exact ⟨(((⟨#[115, 101, 114, 118, 101, 114, 32]⟩ : ByteArray) ++ y1) ++ (⟨#[32, 103, 111, 110, 101]⟩ : ByteArray)), entG [0] ⟨mp rfl, mv rfl, tv⟩ ⟨⟨rfl, o_box rfl⟩, tv⟩ rfl, hF⟩
  ·refine Dz.seq (Dz.reg ?_)
   refine Dz.ite rfl hF (fun _ hF => ?_) (fun _ hF => ?_)
   ·refine Dz.reg ?_
    refine vck hF id (fun _ hF => ?_)
    exact ⟨(((⟨#[115, 101, 114, 118, 101, 114, 32]⟩ : ByteArray) ++ y1) ++ (⟨#[32, 117, 112]⟩ : ByteArray)), entG [0] ⟨mp rfl, mv rfl, tv⟩ ⟨⟨rfl, o_box rfl⟩, tv⟩ rfl, hF⟩
   ·refine Dz.reg ?_
    refine vck hF id (fun _ hF => ?_)
    exact ⟨(((⟨#[115, 101, 114, 118, 101, 114, 32]⟩ : ByteArray) ++ y1) ++ (⟨#[32, 100, 111, 119, 110]⟩ : ByteArray)), entG [0] ⟨mp rfl, mv rfl, tv⟩ ⟨⟨rfl, o_box rfl⟩, tv⟩ rfl, hF⟩
def s_l64Call (a0 : PanCall) : Option (ByteArray) :=
 (s_l6Dec (a0.Client.natAbs + 2) a0.Client).bind (fun y1 => ck (y1.size + (⟨#[46]⟩ : ByteArray).size ≤ 9223372036854775807) ((s_l6Dec (a0.Call.natAbs + 2) a0.Call).bind (fun y2 => ck ((y1 ++ (⟨#[46]⟩ : ByteArray)).size + y2.size ≤ 9223372036854775807) (ck (((y1 ++ (⟨#[46]⟩ : ByteArray)) ++ y2).size + (⟨#[32]⟩ : ByteArray).size ≤ 9223372036854775807) (ix ([(⟨#[]⟩ : ByteArray), (⟨#[114, 101, 97, 100]⟩ : ByteArray), (⟨#[119, 114, 105, 116, 101]⟩ : ByteArray), (⟨#[99, 114, 101, 97, 116, 101]⟩ : ByteArray), (⟨#[115, 110, 97, 112]⟩ : ByteArray), (⟨#[100, 101, 108, 101, 116, 101]⟩ : ByteArray), (⟨#[103, 114, 111, 119]⟩ : ByteArray)] : List ByteArray) a0.Op (fun _ => ck ((((y1 ++ (⟨#[46]⟩ : ByteArray)) ++ y2) ++ (⟨#[32]⟩ : ByteArray)).size + (([(⟨#[]⟩ : ByteArray), (⟨#[114, 101, 97, 100]⟩ : ByteArray), (⟨#[119, 114, 105, 116, 101]⟩ : ByteArray), (⟨#[99, 114, 101, 97, 116, 101]⟩ : ByteArray), (⟨#[115, 110, 97, 112]⟩ : ByteArray), (⟨#[100, 101, 108, 101, 116, 101]⟩ : ByteArray), (⟨#[103, 114, 111, 119]⟩ : ByteArray)] : List ByteArray).getD a0.Op.toNat default).size ≤ 9223372036854775807) (ck (((((y1 ++ (⟨#[46]⟩ : ByteArray)) ++ y2) ++ (⟨#[32]⟩ : ByteArray)) ++ (([(⟨#[]⟩ : ByteArray), (⟨#[114, 101, 97, 100]⟩ : ByteArray), (⟨#[119, 114, 105, 116, 101]⟩ : ByteArray), (⟨#[99, 114, 101, 97, 116, 101]⟩ : ByteArray), (⟨#[115, 110, 97, 112]⟩ : ByteArray), (⟨#[100, 101, 108, 101, 116, 101]⟩ : ByteArray), (⟨#[103, 114, 111, 119]⟩ : ByteArray)] : List ByteArray).getD a0.Op.toNat default)).size + (⟨#[32]⟩ : ByteArray).size ≤ 9223372036854775807) ((s_l6Dec (a0.Disk.natAbs + 2) a0.Disk).bind (fun y5 => ck ((((((y1 ++ (⟨#[46]⟩ : ByteArray)) ++ y2) ++ (⟨#[32]⟩ : ByteArray)) ++ (([(⟨#[]⟩ : ByteArray), (⟨#[114, 101, 97, 100]⟩ : ByteArray), (⟨#[119, 114, 105, 116, 101]⟩ : ByteArray), (⟨#[99, 114, 101, 97, 116, 101]⟩ : ByteArray), (⟨#[115, 110, 97, 112]⟩ : ByteArray), (⟨#[100, 101, 108, 101, 116, 101]⟩ : ByteArray), (⟨#[103, 114, 111, 119]⟩ : ByteArray)] : List ByteArray).getD a0.Op.toNat default)) ++ (⟨#[32]⟩ : ByteArray)).size + y5.size ≤ 9223372036854775807) (ck (((((((y1 ++ (⟨#[46]⟩ : ByteArray)) ++ y2) ++ (⟨#[32]⟩ : ByteArray)) ++ (([(⟨#[]⟩ : ByteArray), (⟨#[114, 101, 97, 100]⟩ : ByteArray), (⟨#[119, 114, 105, 116, 101]⟩ : ByteArray), (⟨#[99, 114, 101, 97, 116, 101]⟩ : ByteArray), (⟨#[115, 110, 97, 112]⟩ : ByteArray), (⟨#[100, 101, 108, 101, 116, 101]⟩ : ByteArray), (⟨#[103, 114, 111, 119]⟩ : ByteArray)] : List ByteArray).getD a0.Op.toNat default)) ++ (⟨#[32]⟩ : ByteArray)) ++ y5).size + (⟨#[32]⟩ : ByteArray).size ≤ 9223372036854775807) ((s_l6Dec (a0.Block.natAbs + 2) a0.Block).bind (fun y6 => ck ((((((((y1 ++ (⟨#[46]⟩ : ByteArray)) ++ y2) ++ (⟨#[32]⟩ : ByteArray)) ++ (([(⟨#[]⟩ : ByteArray), (⟨#[114, 101, 97, 100]⟩ : ByteArray), (⟨#[119, 114, 105, 116, 101]⟩ : ByteArray), (⟨#[99, 114, 101, 97, 116, 101]⟩ : ByteArray), (⟨#[115, 110, 97, 112]⟩ : ByteArray), (⟨#[100, 101, 108, 101, 116, 101]⟩ : ByteArray), (⟨#[103, 114, 111, 119]⟩ : ByteArray)] : List ByteArray).getD a0.Op.toNat default)) ++ (⟨#[32]⟩ : ByteArray)) ++ y5) ++ (⟨#[32]⟩ : ByteArray)).size + y6.size ≤ 9223372036854775807) (ck (((((((((y1 ++ (⟨#[46]⟩ : ByteArray)) ++ y2) ++ (⟨#[32]⟩ : ByteArray)) ++ (([(⟨#[]⟩ : ByteArray), (⟨#[114, 101, 97, 100]⟩ : ByteArray), (⟨#[119, 114, 105, 116, 101]⟩ : ByteArray), (⟨#[99, 114, 101, 97, 116, 101]⟩ : ByteArray), (⟨#[115, 110, 97, 112]⟩ : ByteArray), (⟨#[100, 101, 108, 101, 116, 101]⟩ : ByteArray), (⟨#[103, 114, 111, 119]⟩ : ByteArray)] : List ByteArray).getD a0.Op.toNat default)) ++ (⟨#[32]⟩ : ByteArray)) ++ y5) ++ (⟨#[32]⟩ : ByteArray)) ++ y6).size + (⟨#[32]⟩ : ByteArray).size ≤ 9223372036854775807) ((s_l6Dec (a0.Epoch.natAbs + 2) a0.Epoch).bind (fun y7 => ck ((((((((((y1 ++ (⟨#[46]⟩ : ByteArray)) ++ y2) ++ (⟨#[32]⟩ : ByteArray)) ++ (([(⟨#[]⟩ : ByteArray), (⟨#[114, 101, 97, 100]⟩ : ByteArray), (⟨#[119, 114, 105, 116, 101]⟩ : ByteArray), (⟨#[99, 114, 101, 97, 116, 101]⟩ : ByteArray), (⟨#[115, 110, 97, 112]⟩ : ByteArray), (⟨#[100, 101, 108, 101, 116, 101]⟩ : ByteArray), (⟨#[103, 114, 111, 119]⟩ : ByteArray)] : List ByteArray).getD a0.Op.toNat default)) ++ (⟨#[32]⟩ : ByteArray)) ++ y5) ++ (⟨#[32]⟩ : ByteArray)) ++ y6) ++ (⟨#[32]⟩ : ByteArray)).size + y7.size ≤ 9223372036854775807) (ck (((((((((((y1 ++ (⟨#[46]⟩ : ByteArray)) ++ y2) ++ (⟨#[32]⟩ : ByteArray)) ++ (([(⟨#[]⟩ : ByteArray), (⟨#[114, 101, 97, 100]⟩ : ByteArray), (⟨#[119, 114, 105, 116, 101]⟩ : ByteArray), (⟨#[99, 114, 101, 97, 116, 101]⟩ : ByteArray), (⟨#[115, 110, 97, 112]⟩ : ByteArray), (⟨#[100, 101, 108, 101, 116, 101]⟩ : ByteArray), (⟨#[103, 114, 111, 119]⟩ : ByteArray)] : List ByteArray).getD a0.Op.toNat default)) ++ (⟨#[32]⟩ : ByteArray)) ++ y5) ++ (⟨#[32]⟩ : ByteArray)) ++ y6) ++ (⟨#[32]⟩ : ByteArray)) ++ y7).size + (⟨#[32]⟩ : ByteArray).size ≤ 9223372036854775807) ((s_l6Dec (a0.Data.natAbs + 2) a0.Data).bind (fun y8 => ck ((((((((((((y1 ++ (⟨#[46]⟩ : ByteArray)) ++ y2) ++ (⟨#[32]⟩ : ByteArray)) ++ (([(⟨#[]⟩ : ByteArray), (⟨#[114, 101, 97, 100]⟩ : ByteArray), (⟨#[119, 114, 105, 116, 101]⟩ : ByteArray), (⟨#[99, 114, 101, 97, 116, 101]⟩ : ByteArray), (⟨#[115, 110, 97, 112]⟩ : ByteArray), (⟨#[100, 101, 108, 101, 116, 101]⟩ : ByteArray), (⟨#[103, 114, 111, 119]⟩ : ByteArray)] : List ByteArray).getD a0.Op.toNat default)) ++ (⟨#[32]⟩ : ByteArray)) ++ y5) ++ (⟨#[32]⟩ : ByteArray)) ++ y6) ++ (⟨#[32]⟩ : ByteArray)) ++ y7) ++ (⟨#[32]⟩ : ByteArray)).size + y8.size ≤ 9223372036854775807) (ck (((((((((((((y1 ++ (⟨#[46]⟩ : ByteArray)) ++ y2) ++ (⟨#[32]⟩ : ByteArray)) ++ (([(⟨#[]⟩ : ByteArray), (⟨#[114, 101, 97, 100]⟩ : ByteArray), (⟨#[119, 114, 105, 116, 101]⟩ : ByteArray), (⟨#[99, 114, 101, 97, 116, 101]⟩ : ByteArray), (⟨#[115, 110, 97, 112]⟩ : ByteArray), (⟨#[100, 101, 108, 101, 116, 101]⟩ : ByteArray), (⟨#[103, 114, 111, 119]⟩ : ByteArray)] : List ByteArray).getD a0.Op.toNat default)) ++ (⟨#[32]⟩ : ByteArray)) ++ y5) ++ (⟨#[32]⟩ : ByteArray)) ++ y6) ++ (⟨#[32]⟩ : ByteArray)) ++ y7) ++ (⟨#[32]⟩ : ByteArray)) ++ y8).size + (⟨#[58, 32]⟩ : ByteArray).size ≤ 9223372036854775807) (cond (decide ((0 : Int) < a0.End)) ((s_l6Dec (a0.Code.natAbs + 2) a0.Code).bind (fun y9 => ck ((((((((((((((y1 ++ (⟨#[46]⟩ : ByteArray)) ++ y2) ++ (⟨#[32]⟩ : ByteArray)) ++ (([(⟨#[]⟩ : ByteArray), (⟨#[114, 101, 97, 100]⟩ : ByteArray), (⟨#[119, 114, 105, 116, 101]⟩ : ByteArray), (⟨#[99, 114, 101, 97, 116, 101]⟩ : ByteArray), (⟨#[115, 110, 97, 112]⟩ : ByteArray), (⟨#[100, 101, 108, 101, 116, 101]⟩ : ByteArray), (⟨#[103, 114, 111, 119]⟩ : ByteArray)] : List ByteArray).getD a0.Op.toNat default)) ++ (⟨#[32]⟩ : ByteArray)) ++ y5) ++ (⟨#[32]⟩ : ByteArray)) ++ y6) ++ (⟨#[32]⟩ : ByteArray)) ++ y7) ++ (⟨#[32]⟩ : ByteArray)) ++ y8) ++ (⟨#[58, 32]⟩ : ByteArray)).size + y9.size ≤ 9223372036854775807) (ck (((((((((((((((y1 ++ (⟨#[46]⟩ : ByteArray)) ++ y2) ++ (⟨#[32]⟩ : ByteArray)) ++ (([(⟨#[]⟩ : ByteArray), (⟨#[114, 101, 97, 100]⟩ : ByteArray), (⟨#[119, 114, 105, 116, 101]⟩ : ByteArray), (⟨#[99, 114, 101, 97, 116, 101]⟩ : ByteArray), (⟨#[115, 110, 97, 112]⟩ : ByteArray), (⟨#[100, 101, 108, 101, 116, 101]⟩ : ByteArray), (⟨#[103, 114, 111, 119]⟩ : ByteArray)] : List ByteArray).getD a0.Op.toNat default)) ++ (⟨#[32]⟩ : ByteArray)) ++ y5) ++ (⟨#[32]⟩ : ByteArray)) ++ y6) ++ (⟨#[32]⟩ : ByteArray)) ++ y7) ++ (⟨#[32]⟩ : ByteArray)) ++ y8) ++ (⟨#[58, 32]⟩ : ByteArray)) ++ y9).size + (⟨#[32]⟩ : ByteArray).size ≤ 9223372036854775807) ((s_l6Dec (a0.Value.natAbs + 2) a0.Value).bind (fun y10 => ck ((((((((((((((((y1 ++ (⟨#[46]⟩ : ByteArray)) ++ y2) ++ (⟨#[32]⟩ : ByteArray)) ++ (([(⟨#[]⟩ : ByteArray), (⟨#[114, 101, 97, 100]⟩ : ByteArray), (⟨#[119, 114, 105, 116, 101]⟩ : ByteArray), (⟨#[99, 114, 101, 97, 116, 101]⟩ : ByteArray), (⟨#[115, 110, 97, 112]⟩ : ByteArray), (⟨#[100, 101, 108, 101, 116, 101]⟩ : ByteArray), (⟨#[103, 114, 111, 119]⟩ : ByteArray)] : List ByteArray).getD a0.Op.toNat default)) ++ (⟨#[32]⟩ : ByteArray)) ++ y5) ++ (⟨#[32]⟩ : ByteArray)) ++ y6) ++ (⟨#[32]⟩ : ByteArray)) ++ y7) ++ (⟨#[32]⟩ : ByteArray)) ++ y8) ++ (⟨#[58, 32]⟩ : ByteArray)) ++ y9) ++ (⟨#[32]⟩ : ByteArray)).size + y10.size ≤ 9223372036854775807) (ck (((((((((((((((((y1 ++ (⟨#[46]⟩ : ByteArray)) ++ y2) ++ (⟨#[32]⟩ : ByteArray)) ++ (([(⟨#[]⟩ : ByteArray), (⟨#[114, 101, 97, 100]⟩ : ByteArray), (⟨#[119, 114, 105, 116, 101]⟩ : ByteArray), (⟨#[99, 114, 101, 97, 116, 101]⟩ : ByteArray), (⟨#[115, 110, 97, 112]⟩ : ByteArray), (⟨#[100, 101, 108, 101, 116, 101]⟩ : ByteArray), (⟨#[103, 114, 111, 119]⟩ : ByteArray)] : List ByteArray).getD a0.Op.toNat default)) ++ (⟨#[32]⟩ : ByteArray)) ++ y5) ++ (⟨#[32]⟩ : ByteArray)) ++ y6) ++ (⟨#[32]⟩ : ByteArray)) ++ y7) ++ (⟨#[32]⟩ : ByteArray)) ++ y8) ++ (⟨#[58, 32]⟩ : ByteArray)) ++ y9) ++ (⟨#[32]⟩ : ByteArray)) ++ y10).size + (⟨#[10]⟩ : ByteArray).size ≤ 9223372036854775807) (some (((((((((((((((((y1 ++ (⟨#[46]⟩ : ByteArray)) ++ y2) ++ (⟨#[32]⟩ : ByteArray)) ++ (([(⟨#[]⟩ : ByteArray), (⟨#[114, 101, 97, 100]⟩ : ByteArray), (⟨#[119, 114, 105, 116, 101]⟩ : ByteArray), (⟨#[99, 114, 101, 97, 116, 101]⟩ : ByteArray), (⟨#[115, 110, 97, 112]⟩ : ByteArray), (⟨#[100, 101, 108, 101, 116, 101]⟩ : ByteArray), (⟨#[103, 114, 111, 119]⟩ : ByteArray)] : List ByteArray).getD a0.Op.toNat default)) ++ (⟨#[32]⟩ : ByteArray)) ++ y5) ++ (⟨#[32]⟩ : ByteArray)) ++ y6) ++ (⟨#[32]⟩ : ByteArray)) ++ y7) ++ (⟨#[32]⟩ : ByteArray)) ++ y8) ++ (⟨#[58, 32]⟩ : ByteArray)) ++ y9) ++ (⟨#[32]⟩ : ByteArray)) ++ y10) ++ (⟨#[10]⟩ : ByteArray))))))))) (cond a0.Over (ck ((((((((((((((y1 ++ (⟨#[46]⟩ : ByteArray)) ++ y2) ++ (⟨#[32]⟩ : ByteArray)) ++ (([(⟨#[]⟩ : ByteArray), (⟨#[114, 101, 97, 100]⟩ : ByteArray), (⟨#[119, 114, 105, 116, 101]⟩ : ByteArray), (⟨#[99, 114, 101, 97, 116, 101]⟩ : ByteArray), (⟨#[115, 110, 97, 112]⟩ : ByteArray), (⟨#[100, 101, 108, 101, 116, 101]⟩ : ByteArray), (⟨#[103, 114, 111, 119]⟩ : ByteArray)] : List ByteArray).getD a0.Op.toNat default)) ++ (⟨#[32]⟩ : ByteArray)) ++ y5) ++ (⟨#[32]⟩ : ByteArray)) ++ y6) ++ (⟨#[32]⟩ : ByteArray)) ++ y7) ++ (⟨#[32]⟩ : ByteArray)) ++ y8) ++ (⟨#[58, 32]⟩ : ByteArray)).size + (⟨#[103, 105, 118, 101, 110, 32, 117, 112]⟩ : ByteArray).size ≤ 9223372036854775807) (ck (((((((((((((((y1 ++ (⟨#[46]⟩ : ByteArray)) ++ y2) ++ (⟨#[32]⟩ : ByteArray)) ++ (([(⟨#[]⟩ : ByteArray), (⟨#[114, 101, 97, 100]⟩ : ByteArray), (⟨#[119, 114, 105, 116, 101]⟩ : ByteArray), (⟨#[99, 114, 101, 97, 116, 101]⟩ : ByteArray), (⟨#[115, 110, 97, 112]⟩ : ByteArray), (⟨#[100, 101, 108, 101, 116, 101]⟩ : ByteArray), (⟨#[103, 114, 111, 119]⟩ : ByteArray)] : List ByteArray).getD a0.Op.toNat default)) ++ (⟨#[32]⟩ : ByteArray)) ++ y5) ++ (⟨#[32]⟩ : ByteArray)) ++ y6) ++ (⟨#[32]⟩ : ByteArray)) ++ y7) ++ (⟨#[32]⟩ : ByteArray)) ++ y8) ++ (⟨#[58, 32]⟩ : ByteArray)) ++ (⟨#[103, 105, 118, 101, 110, 32, 117, 112]⟩ : ByteArray)).size + (⟨#[10]⟩ : ByteArray).size ≤ 9223372036854775807) (some (((((((((((((((y1 ++ (⟨#[46]⟩ : ByteArray)) ++ y2) ++ (⟨#[32]⟩ : ByteArray)) ++ (([(⟨#[]⟩ : ByteArray), (⟨#[114, 101, 97, 100]⟩ : ByteArray), (⟨#[119, 114, 105, 116, 101]⟩ : ByteArray), (⟨#[99, 114, 101, 97, 116, 101]⟩ : ByteArray), (⟨#[115, 110, 97, 112]⟩ : ByteArray), (⟨#[100, 101, 108, 101, 116, 101]⟩ : ByteArray), (⟨#[103, 114, 111, 119]⟩ : ByteArray)] : List ByteArray).getD a0.Op.toNat default)) ++ (⟨#[32]⟩ : ByteArray)) ++ y5) ++ (⟨#[32]⟩ : ByteArray)) ++ y6) ++ (⟨#[32]⟩ : ByteArray)) ++ y7) ++ (⟨#[32]⟩ : ByteArray)) ++ y8) ++ (⟨#[58, 32]⟩ : ByteArray)) ++ (⟨#[103, 105, 118, 101, 110, 32, 117, 112]⟩ : ByteArray)) ++ (⟨#[10]⟩ : ByteArray))))) (ck ((((((((((((((y1 ++ (⟨#[46]⟩ : ByteArray)) ++ y2) ++ (⟨#[32]⟩ : ByteArray)) ++ (([(⟨#[]⟩ : ByteArray), (⟨#[114, 101, 97, 100]⟩ : ByteArray), (⟨#[119, 114, 105, 116, 101]⟩ : ByteArray), (⟨#[99, 114, 101, 97, 116, 101]⟩ : ByteArray), (⟨#[115, 110, 97, 112]⟩ : ByteArray), (⟨#[100, 101, 108, 101, 116, 101]⟩ : ByteArray), (⟨#[103, 114, 111, 119]⟩ : ByteArray)] : List ByteArray).getD a0.Op.toNat default)) ++ (⟨#[32]⟩ : ByteArray)) ++ y5) ++ (⟨#[32]⟩ : ByteArray)) ++ y6) ++ (⟨#[32]⟩ : ByteArray)) ++ y7) ++ (⟨#[32]⟩ : ByteArray)) ++ y8) ++ (⟨#[58, 32]⟩ : ByteArray)).size + (⟨#[119, 97, 105, 116, 115]⟩ : ByteArray).size ≤ 9223372036854775807) (ck (((((((((((((((y1 ++ (⟨#[46]⟩ : ByteArray)) ++ y2) ++ (⟨#[32]⟩ : ByteArray)) ++ (([(⟨#[]⟩ : ByteArray), (⟨#[114, 101, 97, 100]⟩ : ByteArray), (⟨#[119, 114, 105, 116, 101]⟩ : ByteArray), (⟨#[99, 114, 101, 97, 116, 101]⟩ : ByteArray), (⟨#[115, 110, 97, 112]⟩ : ByteArray), (⟨#[100, 101, 108, 101, 116, 101]⟩ : ByteArray), (⟨#[103, 114, 111, 119]⟩ : ByteArray)] : List ByteArray).getD a0.Op.toNat default)) ++ (⟨#[32]⟩ : ByteArray)) ++ y5) ++ (⟨#[32]⟩ : ByteArray)) ++ y6) ++ (⟨#[32]⟩ : ByteArray)) ++ y7) ++ (⟨#[32]⟩ : ByteArray)) ++ y8) ++ (⟨#[58, 32]⟩ : ByteArray)) ++ (⟨#[119, 97, 105, 116, 115]⟩ : ByteArray)).size + (⟨#[10]⟩ : ByteArray).size ≤ 9223372036854775807) (some (((((((((((((((y1 ++ (⟨#[46]⟩ : ByteArray)) ++ y2) ++ (⟨#[32]⟩ : ByteArray)) ++ (([(⟨#[]⟩ : ByteArray), (⟨#[114, 101, 97, 100]⟩ : ByteArray), (⟨#[119, 114, 105, 116, 101]⟩ : ByteArray), (⟨#[99, 114, 101, 97, 116, 101]⟩ : ByteArray), (⟨#[115, 110, 97, 112]⟩ : ByteArray), (⟨#[100, 101, 108, 101, 116, 101]⟩ : ByteArray), (⟨#[103, 114, 111, 119]⟩ : ByteArray)] : List ByteArray).getD a0.Op.toNat default)) ++ (⟨#[32]⟩ : ByteArray)) ++ y5) ++ (⟨#[32]⟩ : ByteArray)) ++ y6) ++ (⟨#[32]⟩ : ByteArray)) ++ y7) ++ (⟨#[32]⟩ : ByteArray)) ++ y8) ++ (⟨#[58, 32]⟩ : ByteArray)) ++ (⟨#[119, 97, 105, 116, 115]⟩ : ByteArray)) ++ (⟨#[10]⟩ : ByteArray))))))))))))))))))))))))))
theorem s_l64Call_c {a0 : PanCall} {r : ByteArray} (hF : s_l64Call a0 = some r) : Con Tryz.prog 16 [.val true (PanCall.L a0)] [] (vstr r) [] := by
 refine Con.of_Dz tabOk Tryz.func16 rfl rfl rfl ?_
 delta s_l64Call at hF
 refine Dz.seq (Dz.reg (Dz.seq ?_))
 refine Dz.drw 1 [⟨[8,9,13,14,15,16,17,20,21,25,26,30,31,35,36], [], 1, 1⟩, ⟨[8,9,13,14,15,16,17,20,21,25,26,30,31,35,36], [0], 1, 1⟩, ⟨[8,9,13,14,15,16,17,20,21,25,26,30,31,35,36], [], 1, 1⟩, ⟨[8,9,10,13,14,15,16,17,20,21,22,25,26,27,30,31,32,35,36,37], [], 1, 1⟩, ⟨[4,5,6,7,13,14,15,16,17,20,21,25,26,30,31,35,36], [], 1, 1⟩, ⟨[4,5,6,7,13,14,15,16,17,20,21,25,26,30,31,35,36], [0], 1, 1⟩, ⟨[7,13,14,15,16,17,20,21,25,26,30,31,35,36], [], 1, 1⟩, ⟨[13,14,15,16,17,20,21,22,25,26,27,30,31,32,35,36,37], [], 1, 1⟩, ⟨[13,14,15,16,17,20,21,22,25,26,27,30,31,32,35,36,37], [], 1, 1⟩, ⟨[4,5,6,7,8,9,10,11,12,14,15,20,21,22,25,26,27,30,31,32,35,36,37], [], 1, 2⟩, ⟨[4,5,6,7,8,9,10,11,12,13,20,21,22,25,26,27,30,31,32,35,36,37], [], 2, 2⟩, ⟨[4,5,6,7,8,9,10,11,12,13,20,21,22,25,26,27,30,31,32,35,36,37], [0], 2, 2⟩, ⟨[4,5,6,7,8,9,10,11,12,20,21,22,25,26,27,30,31,32,35,36,37], [1], 2, 2⟩, ⟨[4,5,6,7,8,9,10,11,12,20,21,22,25,26,27,30,31,32,35,36,37], [1], 2, 2⟩, ⟨[20,21,22,25,26,27,30,31,32,35,36,37], [], 2, 2⟩, ⟨[20,21,22,25,26,27,30,31,32,35,36,37], [], 2, 2⟩, ⟨[4,5,6,7,8,9,10,11,12,13,14,15,16,17,18,19,25,26,30,31,35,36], [], 2, 2⟩, ⟨[4,5,6,7,8,9,10,11,12,13,14,15,16,17,18,19,25,26,30,31,35,36], [0], 2, 2⟩, ⟨[7,11,12,13,14,15,16,17,18,19,25,26,30,31,35,36], [], 2, 2⟩, ⟨[25,26,27,30,31,32,35,36,37], [], 2, 2⟩, ⟨[25,26,27,30,31,32,35,36,37], [], 2, 2⟩, ⟨[4,5,6,7,8,9,10,11,12,13,14,15,16,17,18,19,20,21,22,23,24,30,31,35,36], [], 2, 2⟩, ⟨[4,5,6,7,8,9,10,11,12,13,14,15,16,17,18,19,20,21,22,23,24,30,31,35,36], [0], 2, 2⟩, ⟨[7,11,12,13,14,15,16,17,18,19,23,24,30,31,35,36], [], 2, 2⟩, ⟨[30,31,32,35,36,37], [], 2, 2⟩, ⟨[30,31,32,35,36,37], [], 2, 2⟩, ⟨[4,5,6,7,8,9,10,11,12,13,14,15,16,17,18,19,20,21,22,23,24,25,26,27,28,29,35,36], [], 2, 2⟩, ⟨[4,5,6,7,8,9,10,11,12,13,14,15,16,17,18,19,20,21,22,23,24,25,26,27,28,29,35,36], [0], 2, 2⟩, ⟨[7,11,12,13,14,15,16,17,18,19,23,24,28,29,35,36], [], 2, 2⟩, ⟨[35,36,37], [], 2, 2⟩, ⟨[35,36,37], [], 2, 2⟩, ⟨[4,5,6,7,8,9,10,11,12,13,14,15,16,17,18,19,20,21,22,23,24,25,26,27,28,29,30,31,32,33,34], [], 2, 2⟩, ⟨[4,5,6,7,8,9,10,11,12,13,14,15,16,17,18,19,20,21,22,23,24,25,26,27,28,29,30,31,32,33,34], [0], 2, 2⟩, ⟨[7,11,12,13,14,15,16,17,18,19,23,24,28,29,33,34], [], 2, 2⟩, ⟨[], [], 2, 2⟩, ⟨[], [], 2, 2⟩, ⟨[], [], 2, 2⟩] ⟨by kernel_rfl, by kernel_rfl, rfl⟩ ?_
 refine bdE hF (fun y1 hy1 hF => ?_)
 refine callG [] (s_l6Dec_c hy1) ⟨mv rfl, tv⟩ tv rfl ?_
 refine vck hF id (fun _ hF => ?_)
 refine bdE hF (fun y2 hy2 hF => ?_)
 refine callG [] (s_l6Dec_c hy2) ⟨mv rfl, tv⟩ tv rfl ?_
 refine vck hF id (fun _ hF => ?_)
 refine vck hF id (fun _ hF => ?_)
 refine vix (L := ([(⟨#[]⟩ : ByteArray), (⟨#[114, 101, 97, 100]⟩ : ByteArray), (⟨#[119, 114, 105, 116, 101]⟩ : ByteArray), (⟨#[99, 114, 101, 97, 116, 101]⟩ : ByteArray), (⟨#[115, 110, 97, 112]⟩ : ByteArray), (⟨#[100, 101, 108, 101, 116, 101]⟩ : ByteArray), (⟨#[103, 114, 111, 119]⟩ : ByteArray)] : List ByteArray)) (i := a0.Op) hF (fun ha3 hb4 hF => ?_)
 refine vck hF id (fun _ hF => ?_)
 refine vck hF id (fun _ hF => ?_)
 refine bdE hF (fun y5 hy5 hF => ?_)
 refine callG [] (s_l6Dec_c hy5) ⟨mv rfl, tv⟩ tv rfl ?_
 refine vck hF id (fun _ hF => ?_)
 refine vck hF id (fun _ hF => ?_)
 refine bdE hF (fun y6 hy6 hF => ?_)
 refine callG [] (s_l6Dec_c hy6) ⟨mv rfl, tv⟩ tv rfl ?_
 refine vck hF id (fun _ hF => ?_)
 refine vck hF id (fun _ hF => ?_)
 refine bdE hF (fun y7 hy7 hF => ?_)
 refine callG [] (s_l6Dec_c hy7) ⟨mv rfl, tv⟩ tv rfl ?_
 refine vck hF id (fun _ hF => ?_)
 refine vck hF id (fun _ hF => ?_)
 refine bdE hF (fun y8 hy8 hF => ?_)
 refine callG [] (s_l6Dec_c hy8) ⟨mv rfl, tv⟩ tv rfl ?_
 refine vck hF id (fun _ hF => ?_)
 refine vck hF id (fun _ hF => ?_)
 refine Dz.row 1 ([(⟨#[]⟩ : ByteArray), (⟨#[114, 101, 97, 100]⟩ : ByteArray), (⟨#[119, 114, 105, 116, 101]⟩ : ByteArray), (⟨#[99, 114, 101, 97, 116, 101]⟩ : ByteArray), (⟨#[115, 110, 97, 112]⟩ : ByteArray), (⟨#[100, 101, 108, 101, 116, 101]⟩ : ByteArray), (⟨#[103, 114, 111, 119]⟩ : ByteArray)] : List ByteArray).length (gl cStr ([(⟨#[]⟩ : ByteArray), (⟨#[114, 101, 97, 100]⟩ : ByteArray), (⟨#[119, 114, 105, 116, 101]⟩ : ByteArray), (⟨#[99, 114, 101, 97, 116, 101]⟩ : ByteArray), (⟨#[115, 110, 97, 112]⟩ : ByteArray), (⟨#[100, 101, 108, 101, 116, 101]⟩ : ByteArray), (⟨#[103, 114, 111, 119]⟩ : ByteArray)] : List ByteArray)) rfl (by simp <;> omega) (EqG.refl _ _ _) ?_
 refine Dz.seq (Dz.blk (Dz.seq (Dz.reg ?_)))
 refine Dz.ite rfl hF (fun _ hF => ?_) (fun _ hF => ?_)
 ·refine Dz.drw 2 [⟨[47,48,49,52,53,54], [], 2, 2⟩, ⟨[46,52,53], [], 2, 2⟩, ⟨[46,52,53], [0], 2, 2⟩, ⟨[46,52,53], [], 2, 2⟩, ⟨[52,53,54], [], 2, 2⟩, ⟨[52,53,54], [], 2, 2⟩, ⟨[46,47,48,49,50,51], [], 2, 2⟩, ⟨[46,47,48,49,50,51], [0], 2, 2⟩, ⟨[46,50,51], [], 2, 2⟩, ⟨[], [], 2, 2⟩, ⟨[], [], 2, 2⟩] ⟨by kernel_rfl, by kernel_rfl, rfl⟩ ?_
  refine bdE hF (fun y9 hy9 hF => ?_)
  refine callG [] (s_l6Dec_c hy9) ⟨mv rfl, tv⟩ tv rfl ?_
  refine vck hF id (fun _ hF => ?_)
  refine vck hF id (fun _ hF => ?_)
  refine bdE hF (fun y10 hy10 hF => ?_)
  refine callG [] (s_l6Dec_c hy10) ⟨mv rfl, tv⟩ tv rfl ?_
  refine vck hF id (fun _ hF => ?_)
  refine Dz.seq (Dz.reg ?_)
  refine vck hF id (fun _ hF => ?_)
  refine Dz.ret ?_
  cases hF
  exact finG [] [] rfl rfl (mv rfl) tv rfl
 ·refine Dz.seq (Dz.reg ?_)
  refine Dz.ite rfl hF (fun _ hF => ?_) (fun _ hF => ?_)
  ·refine Dz.reg ?_
   refine vck hF id (fun _ hF => ?_)
   refine Dz.seq (Dz.reg ?_)
   refine vck hF id (fun _ hF => ?_)
   refine Dz.ret ?_
   cases hF
   exact finG [] [] rfl rfl (mv rfl) tv rfl
  ·refine Dz.reg ?_
   refine vck hF id (fun _ hF => ?_)
   refine Dz.seq (Dz.reg ?_)
   refine vck hF id (fun _ hF => ?_)
   refine Dz.ret ?_
   cases hF
   exact finG [] [] rfl rfl (mv rfl) tv rfl
def s_PanBoard (a0 : PanWorld) : Option (ByteArray) :=
 (s_PanOk a0).bind (fun y1 => cond (!y1) (some (⟨#[]⟩ : ByteArray)) ((s_l64Longest a0).bind (fun y2 => (s_l64Map y2).bind (fun y3 => loopN (fun i4 (v13 : ByteArray) κ14 => lt (a0.Servers.getD i4 default) (fun x16 => (s_l64Lines x16).bind (fun y17 => ck (v13.size + y17.size ≤ 9223372036854775807) (κ14 (v13 ++ y17))))) (fun (v13 : ByteArray) => loopN (fun i19 (v28 : ByteArray) κ29 => lt (a0.Calls.getD i19 default) (fun x31 => (s_l64Call x31).bind (fun y32 => ck (v28.size + y32.size ≤ 9223372036854775807) (κ29 (v28 ++ y32))))) (fun (v28 : ByteArray) => (s_l6Dec (((a0.Radio.length : Nat) : Int).natAbs + 2) ((a0.Radio.length : Nat) : Int)).bind (fun y35 => ck (v28.size + y35.size ≤ 9223372036854775807) (ck ((v28 ++ y35).size + (⟨#[32, 119, 111, 114, 100, 115, 10]⟩ : ByteArray).size ≤ 9223372036854775807) (some ((v28 ++ y35) ++ (⟨#[32, 119, 111, 114, 100, 115, 10]⟩ : ByteArray)))))) a0.Calls.length 0 v13) a0.Servers.length 0 y3))))
theorem s_PanBoard_c {t0_1 t0_2 t0_3 : Bool} {a0 : PanWorld} {r : ByteArray} (hF : s_PanBoard a0 = some r) : Con Tryz.prog 5 [.val true [.u (cI a0.Time), .u (ul Server.c 36 t0_1 a0.Servers), .u (ul Word.c 26 t0_2 a0.Radio), .u (ul PanCall.c 12 t0_3 a0.Calls)]] [] (vstr r) [] := by
 refine Con.of_Dz tabOk Tryz.func5 rfl rfl rfl ?_
 delta s_PanBoard at hF
 refine Dz.seq (Dz.reg (Dz.seq (Dz.seq (Dz.reg ?_))))
 refine bdE hF (fun y1 hy1 hF => ?_)
 refine callG [] (s_PanOk_c hy1) ⟨mv rfl, tv⟩ tv rfl ?_
 refine Dz.ite rfl hF (fun _ hF => ?_) (fun _ hF => ?_)
 ·refine Dz.seq (Dz.reg (Dz.ret ?_))
  cases hF
  exact finG [] [] rfl rfl (mv rfl) tv rfl
 ·refine Dz.skip (Dz.seq (Dz.reg ?_))
  refine bdE hF (fun y2 hy2 hF => ?_)
  refine callG [] (s_l64Longest_c hy2) ⟨mv rfl, tv⟩ tv rfl ?_
  refine bdE hF (fun y3 hy3 hF => ?_)
  refine callL [] (s_l64Map_c hy3) ⟨⟨rfl, lr, lr, lr, lr, ⟨rfl, rfl, lr⟩, lr, tv⟩, tv⟩ tv rfl ⟨⟨tv, tv⟩, tv⟩ ?_
  refine Dz.seq (Dz.seq (Dz.reg (Dz.blk ?_)))
  refine Dz.cnt hF (fun i4 v13 => ([(1, .ptr 0 0), (3, vstr v13), (4, vint .i64 ((i4 : Nat) : Int))], [.box 33 [.u (cI a0.Time), .u (ul Server.c 36 t0_1 a0.Servers), .u (ul Word.c 26 t0_2 a0.Radio), .u (ul PanCall.c 12 t0_3 a0.Calls)]])) (entG [0] ⟨mp rfl, mv rfl, mv rfl, tv⟩ ⟨⟨rfl, o_box rfl⟩, tv⟩ rfl) (fun v13 hF => ?_) (fun i4 v13 κ14 hi0i4 hi1i4 hF => ?_)
  ·refine Dz.seq (Dz.seq (Dz.reg ?_))
   intro hb18; replace hb18 : a0.Servers.length ≤ 140737488355328 := hb18
   refine Dz.ff (b := decide (((0 + a0.Servers.length : Nat) : Int) < ((a0.Servers.length : Nat) : Int))) rfl (decide_eq_false (by omega)) ?_
   refine Dz.exit (Dz.seq (Dz.seq (Dz.reg (Dz.blk ?_))))
   refine Dz.cnt hF (fun i19 v28 => ([(1, .ptr 0 0), (3, vstr v28), (5, vint .i64 ((i19 : Nat) : Int))], [.box 33 [.u (cI a0.Time), .u (ul Server.c 36 t0_1 a0.Servers), .u (ul Word.c 26 t0_2 a0.Radio), .u (ul PanCall.c 12 t0_3 a0.Calls)]])) (entG [0] ⟨mp rfl, mv rfl, mv rfl, tv⟩ ⟨⟨rfl, o_box rfl⟩, tv⟩ rfl) (fun v28 hF => ?_) (fun i19 v28 κ29 hi0i19 hi1i19 hF => ?_)
   ·refine Dz.seq (Dz.seq (Dz.reg ?_))
    intro hb33; replace hb33 : a0.Calls.length ≤ 140737488355328 := hb33
    refine Dz.ff (b := decide (((0 + a0.Calls.length : Nat) : Int) < ((a0.Calls.length : Nat) : Int))) rfl (decide_eq_false (by omega)) ?_
    refine Dz.exit (Dz.seq (Dz.reg ?_))
    intro hb34; replace hb34 : a0.Radio.length ≤ 140737488355328 := hb34
    refine bdE hF (fun y35 hy35 hF => ?_)
    refine callG [] (s_l6Dec_c hy35) ⟨mv rfl, tv⟩ tv rfl ?_
    refine vck hF id (fun _ hF => ?_)
    refine vck hF id (fun _ hF => ?_)
    refine Dz.ret ?_
    cases hF
    exact finG [] [] rfl rfl (mv rfl) tv rfl
   ·refine Dz.seq (Dz.seq (Dz.reg ?_))
    intro hb30; replace hb30 : a0.Calls.length ≤ 140737488355328 := hb30
    refine Dz.tt (b := decide (((i19 : Nat) : Int) < ((a0.Calls.length : Nat) : Int))) rfl (decide_eq_true (by omega)) ?_
    refine Dz.skip (Dz.seq (Dz.blk (Dz.reg ?_)))
    refine vge (n := ((i19 : Nat) : Int)) (hi := (a0.Calls.length : Int)) (by omega) (by omega) ?_
    have hF := ltE hF
    refine bdE hF (fun y32 hy32 hF => ?_)
    refine callG [] (s_l64Call_c hy32) ⟨mv rfl, tv⟩ tv rfl ?_
    refine vck hF id (fun _ hF => ?_)
    refine Dz.reg ?_
    refine vsucc (by omega) ?_
    exact ⟨(v28 ++ y32), entG [0] ⟨mp rfl, mv rfl, mv rfl, tv⟩ ⟨⟨rfl, o_box rfl⟩, tv⟩ rfl, hF⟩
  ·refine Dz.seq (Dz.seq (Dz.reg ?_))
   intro hb15; replace hb15 : a0.Servers.length ≤ 140737488355328 := hb15
   refine Dz.tt (b := decide (((i4 : Nat) : Int) < ((a0.Servers.length : Nat) : Int))) rfl (decide_eq_true (by omega)) ?_
   refine Dz.skip (Dz.seq (Dz.blk (Dz.reg ?_)))
   refine vge (n := ((i4 : Nat) : Int)) (hi := (a0.Servers.length : Int)) (by omega) (by omega) ?_
   have hF := ltE hF
   refine bdE hF (fun y17 hy17 hF => ?_)
   refine callG [] (s_l64Lines_c hy17) ⟨mv rfl, tv⟩ tv rfl ?_
   refine vck hF id (fun _ hF => ?_)
   refine Dz.reg ?_
   refine vsucc (by omega) ?_
   exact ⟨(v13 ++ y17), entG [0] ⟨mp rfl, mv rfl, mv rfl, tv⟩ ⟨⟨rfl, o_box rfl⟩, tv⟩ rfl, hF⟩
def l_toCmd (a0 : Cmd) : Option (Cmd) :=
 some a0
theorem l_toCmd_c {a0 : Cmd} {r : Cmd} (hF : l_toCmd a0 = some r) : Con Tryz.prog 79 [.val true (Cmd.L a0)] [] (.val true (Cmd.L r)) [] := by
 refine Con.of_Dz tabOk Tryz.func79 rfl rfl rfl ?_
 delta l_toCmd at hF
 refine Dz.seq (Dz.reg (Dz.seq (Dz.reg (Dz.seq (Dz.reg (Dz.seq (Dz.reg ?_)))))))
 refine Dz.seq (Dz.reg (Dz.seq (Dz.reg (Dz.seq (Dz.reg (Dz.seq (Dz.reg ?_)))))))
 refine Dz.seq (Dz.reg (Dz.seq (Dz.reg (Dz.seq (Dz.reg (Dz.seq (Dz.reg ?_)))))))
 refine Dz.seq (Dz.reg (Dz.ret ?_))
 cases hF
 exact finG [] [] rfl rfl (mv rfl) tv rfl
def l_toSynPaper (a0 : SynPaper) : Option (SynPaper) :=
 (l_toCmd a0.Cmd).bind (fun y1 => some ({ Slot := a0.Slot, Ballot := a0.Ballot, Cmd := y1 } : SynPaper))
theorem l_toSynPaper_c {a0 : SynPaper} {r : SynPaper} (hF : l_toSynPaper a0 = some r) : Con Tryz.prog 123 [.val true (SynPaper.L a0)] [] (.val true (SynPaper.L r)) [] := by
 refine Con.of_Dz tabOk Tryz.func123 rfl rfl rfl ?_
 delta l_toSynPaper at hF
 refine Dz.seq (Dz.reg (Dz.seq (Dz.reg (Dz.seq (Dz.reg (Dz.seq (Dz.reg ?_)))))))
 refine Dz.seq (Dz.reg ?_)
 refine bdE hF (fun y1 hy1 hF => ?_)
 refine callG [] (l_toCmd_c hy1) ⟨mv rfl, tv⟩ tv rfl ?_
 refine Dz.seq (Dz.reg (Dz.ret ?_))
 cases hF
 exact finG [] [] rfl rfl (mv rfl) tv rfl
def l_toSynPaperS (a0 : (List SynPaper)) : Option ((List SynPaper)) :=
 ck (0 ≤ ((a0.length : Nat) : Int) ∧ ((a0.length : Nat) : Int) * 96 ≤ 140737488355328) (loopN (fun i2 (v13 : List SynPaper) κ14 => lt (a0.getD i2 default) (fun x16 => (l_toSynPaper x16).bind (fun y17 => ix v13 ((i2 : Nat) : Int) (fun _ => lt (v13.set i2 y17) (fun r18 => κ14 r18))))) (fun (v13 : List SynPaper) => some v13) a0.length 0 (List.replicate a0.length (({ Slot := 0, Ballot := 0, Cmd := ({ Kind := 0, Client := 0, Call := 0, Disk := 0, Arg := 0, Epoch := 0, Range := 0, Num := 0, A := 0, B := 0 } : Cmd) } : SynPaper) : SynPaper)))
theorem l_toSynPaperS_c {t0_0 : Bool} {a0 : (List SynPaper)} {r : (List SynPaper)} (hF : l_toSynPaperS a0 = some r) : Con Tryz.prog 121 [.val false [.u (ul SynPaper.c 12 t0_0 a0)]] [] (.val false [.row 0]) [.row 57 r.length 12 (gl SynPaper.c r)] := by
 refine Con.of_Dz tabOk Tryz.func121 rfl rfl rfl ?_
 delta l_toSynPaperS at hF
 refine Dz.seq (Dz.reg (Dz.seq (Dz.reg ?_)))
 intro hb1; replace hb1 : a0.length ≤ 140737488355328 := hb1
 refine vck hF (fun h => ⟨rfl, h⟩) (fun hk hF => ?_)
 refine Dz.row 0 (List.replicate a0.length (({ Slot := 0, Ballot := 0, Cmd := ({ Kind := 0, Client := 0, Call := 0, Disk := 0, Arg := 0, Epoch := 0, Range := 0, Num := 0, A := 0, B := 0 } : Cmd) } : SynPaper) : SynPaper)).length (gl SynPaper.c (List.replicate a0.length (({ Slot := 0, Ballot := 0, Cmd := ({ Kind := 0, Client := 0, Call := 0, Disk := 0, Arg := 0, Epoch := 0, Range := 0, Num := 0, A := 0, B := 0 } : Cmd) } : SynPaper) : SynPaper))) rfl (by simp <;> omega) (EqG.rep' (c := SynPaper.c) (sz := 12) _ ⟨lr, lr, lr, lr, lr, lr, lr, lr, lr, lr, lr, lr, tv⟩) ?_
 refine Dz.seq (Dz.seq (Dz.reg (Dz.blk ?_)))
 refine Dz.cnt hF (fun i2 v13 => ([(0, .val false [.u (ul SynPaper.c 12 t0_0 a0)]), (3, .val false [.row 0]), (4, vint .i64 ((i2 : Nat) : Int))], [.row 57 v13.length 12 (gl SynPaper.c v13)])) (entG [0] ⟨mv rfl, ⟨rfl, rfl, tv⟩, mv rfl, tv⟩ ⟨⟨rfl, o_row⟩, tv⟩ rfl) (fun v13 hF => ?_) (fun i2 v13 κ14 hi0i2 hi1i2 hF => ?_)
 ·refine Dz.seq (Dz.seq (Dz.reg ?_))
  intro hb19; replace hb19 : a0.length ≤ 140737488355328 := hb19
  refine Dz.ff (b := decide (((0 + a0.length : Nat) : Int) < ((a0.length : Nat) : Int))) rfl (decide_eq_false (by omega)) ?_
  refine Dz.exit (Dz.seq (Dz.reg (Dz.ret ?_)))
  cases hF
  exact finG [] [0] rfl rfl (⟨rfl, rfl, tv⟩) ⟨⟨rfl, o_row⟩, tv⟩ rfl
 ·refine Dz.seq (Dz.seq (Dz.reg ?_))
  intro hb15; replace hb15 : a0.length ≤ 140737488355328 := hb15
  refine Dz.tt (b := decide (((i2 : Nat) : Int) < ((a0.length : Nat) : Int))) rfl (decide_eq_true (by omega)) ?_
  refine Dz.skip (Dz.seq (Dz.blk (Dz.reg ?_)))
  refine vge (n := ((i2 : Nat) : Int)) (hi := (a0.length : Int)) (by omega) (by omega) ?_
  have hF := ltE hF
  refine bdE hF (fun y17 hy17 hF => ?_)
  refine callG [] (l_toSynPaper_c hy17) ⟨mv rfl, tv⟩ tv rfl ?_
  refine vix hF (fun _ _ hF => ?_)
  refine ltX hF (fun r18 hr18 hF => ?_)
  have hlr18 : r18.length = v13.length := by rw [hr18]; simp <;> omega
  refine Dz.row 0 r18.length (gl SynPaper.c r18) rfl (by rw [hr18]; simp <;> omega) (by rw [hr18]; exact (EqG.set' rfl (EqG.refl _ _ _) ⟨lr, lr, lr, lr, lr, lr, lr, lr, lr, lr, lr, lr, tv⟩)) ?_
  refine Dz.reg ?_
  refine vsucc (by omega) ?_
  exact ⟨r18, entG [0] ⟨mv rfl, ⟨rfl, rfl, tv⟩, mv rfl, tv⟩ ⟨⟨rfl, o_row⟩, tv⟩ rfl, hF⟩
def l_toSynVoter (a0 : SynVoter) : Option (SynVoter) :=
 (l_toSynPaperS a0.Papers).bind (fun y1 => some ({ Promised := a0.Promised, Papers := y1 } : SynVoter))
theorem l_toSynVoter_c {t0_1 : Bool} {a0 : SynVoter} {r : SynVoter} (hF : l_toSynVoter a0 = some r) : Con Tryz.prog 74 [.val true [.u (cI a0.Promised), .u (ul SynPaper.c 12 t0_1 a0.Papers)]] [] (.val true [.u (cI r.Promised), .row 0]) [.row 57 r.Papers.length 12 (gl SynPaper.c r.Papers)] := by
 refine Con.of_Dz tabOk Tryz.func74 rfl rfl rfl ?_
 delta l_toSynVoter at hF
 refine Dz.seq (Dz.reg (Dz.seq (Dz.reg (Dz.seq (Dz.reg (Dz.seq (Dz.reg ?_)))))))
 refine bdE hF (fun y1 hy1 hF => ?_)
 refine callG [] (l_toSynPaperS_c hy1) ⟨mv rfl, tv⟩ tv rfl ?_
 refine Dz.seq (Dz.reg (Dz.ret ?_))
 cases hF
 exact finG [] [3] rfl rfl (⟨rfl, lr, rfl, tv⟩) ⟨⟨rfl, o_row⟩, tv⟩ rfl
def l_toCmdS (a0 : (List Cmd)) : Option ((List Cmd)) :=
 ck (0 ≤ ((a0.length : Nat) : Int) ∧ ((a0.length : Nat) : Int) * 80 ≤ 140737488355328) (loopN (fun i2 (v13 : List Cmd) κ14 => lt (a0.getD i2 default) (fun x16 => (l_toCmd x16).bind (fun y17 => ix v13 ((i2 : Nat) : Int) (fun _ => lt (v13.set i2 y17) (fun r18 => κ14 r18))))) (fun (v13 : List Cmd) => some v13) a0.length 0 (List.replicate a0.length (({ Kind := 0, Client := 0, Call := 0, Disk := 0, Arg := 0, Epoch := 0, Range := 0, Num := 0, A := 0, B := 0 } : Cmd) : Cmd)))
theorem l_toCmdS_c {t0_0 : Bool} {a0 : (List Cmd)} {r : (List Cmd)} (hF : l_toCmdS a0 = some r) : Con Tryz.prog 75 [.val false [.u (ul Cmd.c 10 t0_0 a0)]] [] (.val false [.row 0]) [.row 55 r.length 10 (gl Cmd.c r)] := by
 refine Con.of_Dz tabOk Tryz.func75 rfl rfl rfl ?_
 delta l_toCmdS at hF
 refine Dz.seq (Dz.reg (Dz.seq (Dz.reg ?_)))
 intro hb1; replace hb1 : a0.length ≤ 140737488355328 := hb1
 refine vck hF (fun h => ⟨rfl, h⟩) (fun hk hF => ?_)
 refine Dz.row 0 (List.replicate a0.length (({ Kind := 0, Client := 0, Call := 0, Disk := 0, Arg := 0, Epoch := 0, Range := 0, Num := 0, A := 0, B := 0 } : Cmd) : Cmd)).length (gl Cmd.c (List.replicate a0.length (({ Kind := 0, Client := 0, Call := 0, Disk := 0, Arg := 0, Epoch := 0, Range := 0, Num := 0, A := 0, B := 0 } : Cmd) : Cmd))) rfl (by simp <;> omega) (EqG.rep' (c := Cmd.c) (sz := 10) _ ⟨lr, lr, lr, lr, lr, lr, lr, lr, lr, lr, tv⟩) ?_
 refine Dz.seq (Dz.seq (Dz.reg (Dz.blk ?_)))
 refine Dz.cnt hF (fun i2 v13 => ([(0, .val false [.u (ul Cmd.c 10 t0_0 a0)]), (3, .val false [.row 0]), (4, vint .i64 ((i2 : Nat) : Int))], [.row 55 v13.length 10 (gl Cmd.c v13)])) (entG [0] ⟨mv rfl, ⟨rfl, rfl, tv⟩, mv rfl, tv⟩ ⟨⟨rfl, o_row⟩, tv⟩ rfl) (fun v13 hF => ?_) (fun i2 v13 κ14 hi0i2 hi1i2 hF => ?_)
 ·refine Dz.seq (Dz.seq (Dz.reg ?_))
  intro hb19; replace hb19 : a0.length ≤ 140737488355328 := hb19
  refine Dz.ff (b := decide (((0 + a0.length : Nat) : Int) < ((a0.length : Nat) : Int))) rfl (decide_eq_false (by omega)) ?_
  refine Dz.exit (Dz.seq (Dz.reg (Dz.ret ?_)))
  cases hF
  exact finG [] [0] rfl rfl (⟨rfl, rfl, tv⟩) ⟨⟨rfl, o_row⟩, tv⟩ rfl
 ·refine Dz.seq (Dz.seq (Dz.reg ?_))
  intro hb15; replace hb15 : a0.length ≤ 140737488355328 := hb15
  refine Dz.tt (b := decide (((i2 : Nat) : Int) < ((a0.length : Nat) : Int))) rfl (decide_eq_true (by omega)) ?_
  refine Dz.skip (Dz.seq (Dz.blk (Dz.reg ?_)))
  refine vge (n := ((i2 : Nat) : Int)) (hi := (a0.length : Int)) (by omega) (by omega) ?_
  have hF := ltE hF
  refine bdE hF (fun y17 hy17 hF => ?_)
  refine callG [] (l_toCmd_c hy17) ⟨mv rfl, tv⟩ tv rfl ?_
  refine vix hF (fun _ _ hF => ?_)
  refine ltX hF (fun r18 hr18 hF => ?_)
  have hlr18 : r18.length = v13.length := by rw [hr18]; simp <;> omega
  refine Dz.row 0 r18.length (gl Cmd.c r18) rfl (by rw [hr18]; simp <;> omega) (by rw [hr18]; exact (EqG.set' rfl (EqG.refl _ _ _) ⟨lr, lr, lr, lr, lr, lr, lr, lr, lr, lr, tv⟩)) ?_
  refine Dz.reg ?_
  refine vsucc (by omega) ?_
  exact ⟨r18, entG [0] ⟨mv rfl, ⟨rfl, rfl, tv⟩, mv rfl, tv⟩ ⟨⟨rfl, o_row⟩, tv⟩ rfl, hF⟩
def l_toBlkPiece (a0 : BlkPiece) : Option (BlkPiece) :=
 some a0
theorem l_toBlkPiece_c {a0 : BlkPiece} {r : BlkPiece} (hF : l_toBlkPiece a0 = some r) : Con Tryz.prog 126 [.val true (BlkPiece.L a0)] [] (.val true (BlkPiece.L r)) [] := by
 refine Con.of_Dz tabOk Tryz.func126 rfl rfl rfl ?_
 delta l_toBlkPiece at hF
 refine Dz.seq (Dz.reg (Dz.seq (Dz.reg (Dz.seq (Dz.reg (Dz.seq (Dz.reg ?_)))))))
 refine Dz.seq (Dz.reg (Dz.seq (Dz.reg (Dz.seq (Dz.reg (Dz.ret ?_))))))
 cases hF
 exact finG [] [] rfl rfl (mv rfl) tv rfl
def l_toBlkPieceS (a0 : (List BlkPiece)) : Option ((List BlkPiece)) :=
 ck (0 ≤ ((a0.length : Nat) : Int) ∧ ((a0.length : Nat) : Int) * 32 ≤ 140737488355328) (loopN (fun i2 (v13 : List BlkPiece) κ14 => lt (a0.getD i2 default) (fun x16 => (l_toBlkPiece x16).bind (fun y17 => ix v13 ((i2 : Nat) : Int) (fun _ => lt (v13.set i2 y17) (fun r18 => κ14 r18))))) (fun (v13 : List BlkPiece) => some v13) a0.length 0 (List.replicate a0.length (({ Disk := 0, Block := 0, Epoch := 0, Data := 0 } : BlkPiece) : BlkPiece)))
theorem l_toBlkPieceS_c {t0_0 : Bool} {a0 : (List BlkPiece)} {r : (List BlkPiece)} (hF : l_toBlkPieceS a0 = some r) : Con Tryz.prog 80 [.val false [.u (ul BlkPiece.c 4 t0_0 a0)]] [] (.val false [.row 0]) [.row 121 r.length 4 (gl BlkPiece.c r)] := by
 refine Con.of_Dz tabOk Tryz.func80 rfl rfl rfl ?_
 delta l_toBlkPieceS at hF
 refine Dz.seq (Dz.reg (Dz.seq (Dz.reg ?_)))
 intro hb1; replace hb1 : a0.length ≤ 140737488355328 := hb1
 refine vck hF (fun h => ⟨rfl, h⟩) (fun hk hF => ?_)
 refine Dz.row 0 (List.replicate a0.length (({ Disk := 0, Block := 0, Epoch := 0, Data := 0 } : BlkPiece) : BlkPiece)).length (gl BlkPiece.c (List.replicate a0.length (({ Disk := 0, Block := 0, Epoch := 0, Data := 0 } : BlkPiece) : BlkPiece))) rfl (by simp <;> omega) (EqG.rep' (c := BlkPiece.c) (sz := 4) _ ⟨lr, lr, lr, lr, tv⟩) ?_
 refine Dz.seq (Dz.seq (Dz.reg (Dz.blk ?_)))
 refine Dz.cnt hF (fun i2 v13 => ([(0, .val false [.u (ul BlkPiece.c 4 t0_0 a0)]), (3, .val false [.row 0]), (4, vint .i64 ((i2 : Nat) : Int))], [.row 121 v13.length 4 (gl BlkPiece.c v13)])) (entG [0] ⟨mv rfl, ⟨rfl, rfl, tv⟩, mv rfl, tv⟩ ⟨⟨rfl, o_row⟩, tv⟩ rfl) (fun v13 hF => ?_) (fun i2 v13 κ14 hi0i2 hi1i2 hF => ?_)
 ·refine Dz.seq (Dz.seq (Dz.reg ?_))
  intro hb19; replace hb19 : a0.length ≤ 140737488355328 := hb19
  refine Dz.ff (b := decide (((0 + a0.length : Nat) : Int) < ((a0.length : Nat) : Int))) rfl (decide_eq_false (by omega)) ?_
  refine Dz.exit (Dz.seq (Dz.reg (Dz.ret ?_)))
  cases hF
  exact finG [] [0] rfl rfl (⟨rfl, rfl, tv⟩) ⟨⟨rfl, o_row⟩, tv⟩ rfl
 ·refine Dz.seq (Dz.seq (Dz.reg ?_))
  intro hb15; replace hb15 : a0.length ≤ 140737488355328 := hb15
  refine Dz.tt (b := decide (((i2 : Nat) : Int) < ((a0.length : Nat) : Int))) rfl (decide_eq_true (by omega)) ?_
  refine Dz.skip (Dz.seq (Dz.blk (Dz.reg ?_)))
  refine vge (n := ((i2 : Nat) : Int)) (hi := (a0.length : Int)) (by omega) (by omega) ?_
  have hF := ltE hF
  refine bdE hF (fun y17 hy17 hF => ?_)
  refine callG [] (l_toBlkPiece_c hy17) ⟨mv rfl, tv⟩ tv rfl ?_
  refine vix hF (fun _ _ hF => ?_)
  refine ltX hF (fun r18 hr18 hF => ?_)
  have hlr18 : r18.length = v13.length := by rw [hr18]; simp <;> omega
  refine Dz.row 0 r18.length (gl BlkPiece.c r18) rfl (by rw [hr18]; simp <;> omega) (by rw [hr18]; exact (EqG.set' rfl (EqG.refl _ _ _) ⟨lr, lr, lr, lr, tv⟩)) ?_
  refine Dz.reg ?_
  refine vsucc (by omega) ?_
  exact ⟨r18, entG [0] ⟨mv rfl, ⟨rfl, rfl, tv⟩, mv rfl, tv⟩ ⟨⟨rfl, o_row⟩, tv⟩ rfl, hF⟩
def l_toBlkLast (a0 : BlkLast) : Option (BlkLast) :=
 some a0
theorem l_toBlkLast_c {a0 : BlkLast} {r : BlkLast} (hF : l_toBlkLast a0 = some r) : Con Tryz.prog 127 [.val true (BlkLast.L a0)] [] (.val true (BlkLast.L r)) [] := by
 refine Con.of_Dz tabOk Tryz.func127 rfl rfl rfl ?_
 delta l_toBlkLast at hF
 refine Dz.seq (Dz.reg (Dz.seq (Dz.reg (Dz.seq (Dz.reg (Dz.seq (Dz.reg ?_)))))))
 refine Dz.seq (Dz.reg (Dz.ret ?_))
 cases hF
 exact finG [] [] rfl rfl (mv rfl) tv rfl
def l_toBlkLastS (a0 : (List BlkLast)) : Option ((List BlkLast)) :=
 ck (0 ≤ ((a0.length : Nat) : Int) ∧ ((a0.length : Nat) : Int) * 16 ≤ 140737488355328) (loopN (fun i2 (v13 : List BlkLast) κ14 => lt (a0.getD i2 default) (fun x16 => (l_toBlkLast x16).bind (fun y17 => ix v13 ((i2 : Nat) : Int) (fun _ => lt (v13.set i2 y17) (fun r18 => κ14 r18))))) (fun (v13 : List BlkLast) => some v13) a0.length 0 (List.replicate a0.length (({ Client := 0, Call := 0 } : BlkLast) : BlkLast)))
theorem l_toBlkLastS_c {t0_0 : Bool} {a0 : (List BlkLast)} {r : (List BlkLast)} (hF : l_toBlkLastS a0 = some r) : Con Tryz.prog 81 [.val false [.u (ul BlkLast.c 2 t0_0 a0)]] [] (.val false [.row 0]) [.row 185 r.length 2 (gl BlkLast.c r)] := by
 refine Con.of_Dz tabOk Tryz.func81 rfl rfl rfl ?_
 delta l_toBlkLastS at hF
 refine Dz.seq (Dz.reg (Dz.seq (Dz.reg ?_)))
 intro hb1; replace hb1 : a0.length ≤ 140737488355328 := hb1
 refine vck hF (fun h => ⟨rfl, h⟩) (fun hk hF => ?_)
 refine Dz.row 0 (List.replicate a0.length (({ Client := 0, Call := 0 } : BlkLast) : BlkLast)).length (gl BlkLast.c (List.replicate a0.length (({ Client := 0, Call := 0 } : BlkLast) : BlkLast))) rfl (by simp <;> omega) (EqG.rep' (c := BlkLast.c) (sz := 2) _ ⟨lr, lr, tv⟩) ?_
 refine Dz.seq (Dz.seq (Dz.reg (Dz.blk ?_)))
 refine Dz.cnt hF (fun i2 v13 => ([(0, .val false [.u (ul BlkLast.c 2 t0_0 a0)]), (3, .val false [.row 0]), (4, vint .i64 ((i2 : Nat) : Int))], [.row 185 v13.length 2 (gl BlkLast.c v13)])) (entG [0] ⟨mv rfl, ⟨rfl, rfl, tv⟩, mv rfl, tv⟩ ⟨⟨rfl, o_row⟩, tv⟩ rfl) (fun v13 hF => ?_) (fun i2 v13 κ14 hi0i2 hi1i2 hF => ?_)
 ·refine Dz.seq (Dz.seq (Dz.reg ?_))
  intro hb19; replace hb19 : a0.length ≤ 140737488355328 := hb19
  refine Dz.ff (b := decide (((0 + a0.length : Nat) : Int) < ((a0.length : Nat) : Int))) rfl (decide_eq_false (by omega)) ?_
  refine Dz.exit (Dz.seq (Dz.reg (Dz.ret ?_)))
  cases hF
  exact finG [] [0] rfl rfl (⟨rfl, rfl, tv⟩) ⟨⟨rfl, o_row⟩, tv⟩ rfl
 ·refine Dz.seq (Dz.seq (Dz.reg ?_))
  intro hb15; replace hb15 : a0.length ≤ 140737488355328 := hb15
  refine Dz.tt (b := decide (((i2 : Nat) : Int) < ((a0.length : Nat) : Int))) rfl (decide_eq_true (by omega)) ?_
  refine Dz.skip (Dz.seq (Dz.blk (Dz.reg ?_)))
  refine vge (n := ((i2 : Nat) : Int)) (hi := (a0.length : Int)) (by omega) (by omega) ?_
  have hF := ltE hF
  refine bdE hF (fun y17 hy17 hF => ?_)
  refine callG [] (l_toBlkLast_c hy17) ⟨mv rfl, tv⟩ tv rfl ?_
  refine vix hF (fun _ _ hF => ?_)
  refine ltX hF (fun r18 hr18 hF => ?_)
  have hlr18 : r18.length = v13.length := by rw [hr18]; simp <;> omega
  refine Dz.row 0 r18.length (gl BlkLast.c r18) rfl (by rw [hr18]; simp <;> omega) (by rw [hr18]; exact (EqG.set' rfl (EqG.refl _ _ _) ⟨lr, lr, tv⟩)) ?_
  refine Dz.reg ?_
  refine vsucc (by omega) ?_
  exact ⟨r18, entG [0] ⟨mv rfl, ⟨rfl, rfl, tv⟩, mv rfl, tv⟩ ⟨⟨rfl, o_row⟩, tv⟩ rfl, hF⟩
def l_toSrvBusy (a0 : SrvBusy) : Option (SrvBusy) :=
 some a0
theorem l_toSrvBusy_c {a0 : SrvBusy} {r : SrvBusy} (hF : l_toSrvBusy a0 = some r) : Con Tryz.prog 175 [.val true (SrvBusy.L a0)] [] (.val true (SrvBusy.L r)) [] := by
 refine Con.of_Dz tabOk Tryz.func175 rfl rfl rfl ?_
 delta l_toSrvBusy at hF
 refine Dz.seq (Dz.reg (Dz.seq (Dz.reg (Dz.seq (Dz.reg (Dz.seq (Dz.reg ?_)))))))
 refine Dz.seq (Dz.reg (Dz.seq (Dz.reg (Dz.seq (Dz.reg (Dz.seq (Dz.reg ?_)))))))
 refine Dz.seq (Dz.reg (Dz.ret ?_))
 cases hF
 exact finG [] [] rfl rfl (mv rfl) tv rfl
def l_toSrvBusyS (a0 : (List SrvBusy)) : Option ((List SrvBusy)) :=
 ck (0 ≤ ((a0.length : Nat) : Int) ∧ ((a0.length : Nat) : Int) * 48 ≤ 140737488355328) (loopN (fun i2 (v13 : List SrvBusy) κ14 => lt (a0.getD i2 default) (fun x16 => (l_toSrvBusy x16).bind (fun y17 => ix v13 ((i2 : Nat) : Int) (fun _ => lt (v13.set i2 y17) (fun r18 => κ14 r18))))) (fun (v13 : List SrvBusy) => some v13) a0.length 0 (List.replicate a0.length (({ Client := 0, Call := 0, Disk := 0, Block := 0, Epoch := 0, Data := 0 } : SrvBusy) : SrvBusy)))
theorem l_toSrvBusyS_c {t0_0 : Bool} {a0 : (List SrvBusy)} {r : (List SrvBusy)} (hF : l_toSrvBusyS a0 = some r) : Con Tryz.prog 165 [.val false [.u (ul SrvBusy.c 6 t0_0 a0)]] [] (.val false [.row 0]) [.row 198 r.length 6 (gl SrvBusy.c r)] := by
 refine Con.of_Dz tabOk Tryz.func165 rfl rfl rfl ?_
 delta l_toSrvBusyS at hF
 refine Dz.seq (Dz.reg (Dz.seq (Dz.reg ?_)))
 intro hb1; replace hb1 : a0.length ≤ 140737488355328 := hb1
 refine vck hF (fun h => ⟨rfl, h⟩) (fun hk hF => ?_)
 refine Dz.row 0 (List.replicate a0.length (({ Client := 0, Call := 0, Disk := 0, Block := 0, Epoch := 0, Data := 0 } : SrvBusy) : SrvBusy)).length (gl SrvBusy.c (List.replicate a0.length (({ Client := 0, Call := 0, Disk := 0, Block := 0, Epoch := 0, Data := 0 } : SrvBusy) : SrvBusy))) rfl (by simp <;> omega) (EqG.rep' (c := SrvBusy.c) (sz := 6) _ ⟨lr, lr, lr, lr, lr, lr, tv⟩) ?_
 refine Dz.seq (Dz.seq (Dz.reg (Dz.blk ?_)))
 refine Dz.cnt hF (fun i2 v13 => ([(0, .val false [.u (ul SrvBusy.c 6 t0_0 a0)]), (3, .val false [.row 0]), (4, vint .i64 ((i2 : Nat) : Int))], [.row 198 v13.length 6 (gl SrvBusy.c v13)])) (entG [0] ⟨mv rfl, ⟨rfl, rfl, tv⟩, mv rfl, tv⟩ ⟨⟨rfl, o_row⟩, tv⟩ rfl) (fun v13 hF => ?_) (fun i2 v13 κ14 hi0i2 hi1i2 hF => ?_)
 ·refine Dz.seq (Dz.seq (Dz.reg ?_))
  intro hb19; replace hb19 : a0.length ≤ 140737488355328 := hb19
  refine Dz.ff (b := decide (((0 + a0.length : Nat) : Int) < ((a0.length : Nat) : Int))) rfl (decide_eq_false (by omega)) ?_
  refine Dz.exit (Dz.seq (Dz.reg (Dz.ret ?_)))
  cases hF
  exact finG [] [0] rfl rfl (⟨rfl, rfl, tv⟩) ⟨⟨rfl, o_row⟩, tv⟩ rfl
 ·refine Dz.seq (Dz.seq (Dz.reg ?_))
  intro hb15; replace hb15 : a0.length ≤ 140737488355328 := hb15
  refine Dz.tt (b := decide (((i2 : Nat) : Int) < ((a0.length : Nat) : Int))) rfl (decide_eq_true (by omega)) ?_
  refine Dz.skip (Dz.seq (Dz.blk (Dz.reg ?_)))
  refine vge (n := ((i2 : Nat) : Int)) (hi := (a0.length : Int)) (by omega) (by omega) ?_
  have hF := ltE hF
  refine bdE hF (fun y17 hy17 hF => ?_)
  refine callG [] (l_toSrvBusy_c hy17) ⟨mv rfl, tv⟩ tv rfl ?_
  refine vix hF (fun _ _ hF => ?_)
  refine ltX hF (fun r18 hr18 hF => ?_)
  have hlr18 : r18.length = v13.length := by rw [hr18]; simp <;> omega
  refine Dz.row 0 r18.length (gl SrvBusy.c r18) rfl (by rw [hr18]; simp <;> omega) (by rw [hr18]; exact (EqG.set' rfl (EqG.refl _ _ _) ⟨lr, lr, lr, lr, lr, lr, tv⟩)) ?_
  refine Dz.reg ?_
  refine vsucc (by omega) ?_
  exact ⟨r18, entG [0] ⟨mv rfl, ⟨rfl, rfl, tv⟩, mv rfl, tv⟩ ⟨⟨rfl, o_row⟩, tv⟩ rfl, hF⟩
def l_toSrvCopy (a0 : SrvCopy) : Option (SrvCopy) :=
 (l_toBlkPieceS a0.Pieces).bind (fun y1 => (l_toBlkLastS a0.Last).bind (fun y2 => (l_toSrvBusyS a0.Busy).bind (fun y3 => some ({ Range := a0.Range, Valid := a0.Valid, Asked := a0.Asked, Pieces := y1, Last := y2, Busy := y3 } : SrvCopy))))
theorem l_toSrvCopy_c {t0_3 t0_4 t0_5 : Bool} {a0 : SrvCopy} {r : SrvCopy} (hF : l_toSrvCopy a0 = some r) : Con Tryz.prog 122 [.val true [.u (cI a0.Range), .u (cI a0.Valid), .u (cI a0.Asked), .u (ul BlkPiece.c 4 t0_3 a0.Pieces), .u (ul BlkLast.c 2 t0_4 a0.Last), .u (ul SrvBusy.c 6 t0_5 a0.Busy)]] [] (.val true [.u (cI r.Range), .u (cI r.Valid), .u (cI r.Asked), .row 0, .row 1, .row 2]) [.row 121 r.Pieces.length 4 (gl BlkPiece.c r.Pieces), .row 185 r.Last.length 2 (gl BlkLast.c r.Last), .row 198 r.Busy.length 6 (gl SrvBusy.c r.Busy)] := by
 refine Con.of_Dz tabOk Tryz.func122 rfl rfl rfl ?_
 delta l_toSrvCopy at hF
 refine Dz.seq (Dz.reg (Dz.seq (Dz.reg (Dz.seq (Dz.reg (Dz.seq (Dz.reg ?_)))))))
 refine Dz.seq (Dz.reg (Dz.seq (Dz.reg ?_)))
 refine bdE hF (fun y1 hy1 hF => ?_)
 refine callG [] (l_toBlkPieceS_c hy1) ⟨mv rfl, tv⟩ tv rfl ?_
 refine Dz.seq (Dz.reg ?_)
 refine bdE hF (fun y2 hy2 hF => ?_)
 refine callG [] (l_toBlkLastS_c hy2) ⟨mv rfl, tv⟩ tv rfl ?_
 refine Dz.seq (Dz.reg ?_)
 refine bdE hF (fun y3 hy3 hF => ?_)
 refine callG [] (l_toSrvBusyS_c hy3) ⟨mv rfl, tv⟩ tv rfl ?_
 refine Dz.seq (Dz.reg (Dz.ret ?_))
 cases hF
 exact finG [] [3, 4, 5] rfl rfl (⟨rfl, lr, lr, lr, rfl, rfl, rfl, tv⟩) ⟨⟨rfl, o_row⟩, ⟨rfl, o_row⟩, ⟨rfl, o_row⟩, tv⟩ rfl
def l_toSrvCopyS (a0 : (List SrvCopy)) : Option ((List SrvCopy)) :=
 ck (0 ≤ ((a0.length : Nat) : Int) ∧ ((a0.length : Nat) : Int) * 96 ≤ 140737488355328) (loopN (fun i2 (v13 : List SrvCopy) κ14 => lt (a0.getD i2 default) (fun x16 => (l_toSrvCopy x16).bind (fun y17 => ix v13 ((i2 : Nat) : Int) (fun _ => lt (v13.set i2 y17) (fun r18 => κ14 r18))))) (fun (v13 : List SrvCopy) => some v13) a0.length 0 (List.replicate a0.length (({ Range := 0, Valid := 0, Asked := 0, Pieces := [], Last := [], Busy := [] } : SrvCopy) : SrvCopy)))
theorem l_toSrvCopyS_c {t0_0 : Bool} {a0 : (List SrvCopy)} {r : (List SrvCopy)} (hF : l_toSrvCopyS a0 = some r) : Con Tryz.prog 76 [.val false [.u (ul SrvCopy.c 6 t0_0 a0)]] [] (.val false [.row 0]) [.row 119 r.length 6 (gl SrvCopy.c r)] := by
 refine Con.of_Dz tabOk Tryz.func76 rfl rfl rfl ?_
 delta l_toSrvCopyS at hF
 refine Dz.seq (Dz.reg (Dz.seq (Dz.reg ?_)))
 intro hb1; replace hb1 : a0.length ≤ 140737488355328 := hb1
 refine vck hF (fun h => ⟨rfl, h⟩) (fun hk hF => ?_)
 refine Dz.row 0 (List.replicate a0.length (({ Range := 0, Valid := 0, Asked := 0, Pieces := [], Last := [], Busy := [] } : SrvCopy) : SrvCopy)).length (gl SrvCopy.c (List.replicate a0.length (({ Range := 0, Valid := 0, Asked := 0, Pieces := [], Last := [], Busy := [] } : SrvCopy) : SrvCopy))) rfl (by simp <;> omega) (EqG.rep' (c := SrvCopy.c) (sz := 6) _ ⟨lr, lr, lr, LeU.nil, LeU.nil, LeU.nil, tv⟩) ?_
 refine Dz.seq (Dz.seq (Dz.reg (Dz.blk ?_)))
 refine Dz.cnt hF (fun i2 v13 => ([(0, .val false [.u (ul SrvCopy.c 6 t0_0 a0)]), (3, .val false [.row 0]), (4, vint .i64 ((i2 : Nat) : Int))], [.row 119 v13.length 6 (gl SrvCopy.c v13)])) (entG [0] ⟨mv rfl, ⟨rfl, rfl, tv⟩, mv rfl, tv⟩ ⟨⟨rfl, o_row⟩, tv⟩ rfl) (fun v13 hF => ?_) (fun i2 v13 κ14 hi0i2 hi1i2 hF => ?_)
 ·refine Dz.seq (Dz.seq (Dz.reg ?_))
  intro hb19; replace hb19 : a0.length ≤ 140737488355328 := hb19
  refine Dz.ff (b := decide (((0 + a0.length : Nat) : Int) < ((a0.length : Nat) : Int))) rfl (decide_eq_false (by omega)) ?_
  refine Dz.exit (Dz.seq (Dz.reg (Dz.ret ?_)))
  cases hF
  exact finG [] [0] rfl rfl (⟨rfl, rfl, tv⟩) ⟨⟨rfl, o_row⟩, tv⟩ rfl
 ·refine Dz.seq (Dz.seq (Dz.reg ?_))
  intro hb15; replace hb15 : a0.length ≤ 140737488355328 := hb15
  refine Dz.tt (b := decide (((i2 : Nat) : Int) < ((a0.length : Nat) : Int))) rfl (decide_eq_true (by omega)) ?_
  refine Dz.skip (Dz.seq (Dz.blk (Dz.reg ?_)))
  refine vge (n := ((i2 : Nat) : Int)) (hi := (a0.length : Int)) (by omega) (by omega) ?_
  have hF := ltE hF
  refine bdE hF (fun y17 hy17 hF => ?_)
  refine callG [] (l_toSrvCopy_c hy17) ⟨mv rfl, tv⟩ tv rfl ?_
  refine vix hF (fun _ _ hF => ?_)
  refine ltX hF (fun r18 hr18 hF => ?_)
  have hlr18 : r18.length = v13.length := by rw [hr18]; simp <;> omega
  refine Dz.row 0 r18.length (gl SrvCopy.c r18) rfl (by rw [hr18]; simp <;> omega) (by rw [hr18]; exact (EqG.set' rfl (EqG.refl _ _ _) ⟨lr, lr, lr, lr, lr, lr, tv⟩)) ?_
  refine Dz.reg ?_
  refine vsucc (by omega) ?_
  exact ⟨r18, entG [0] ⟨mv rfl, ⟨rfl, rfl, tv⟩, mv rfl, tv⟩ ⟨⟨rfl, o_row⟩, tv⟩ rfl, hF⟩
def l_toIntS (a0 : (List Int)) : Option ((List Int)) :=
 ck (0 ≤ ((a0.length : Nat) : Int) ∧ ((a0.length : Nat) : Int) * 8 ≤ 140737488355328) (loopN (fun i2 (v9 : List Int) κ10 => ix v9 ((i2 : Nat) : Int) (fun _ => lt (v9.set i2 (a0.getD i2 default)) (fun r12 => κ10 r12))) (fun (v9 : List Int) => some v9) a0.length 0 (List.replicate a0.length (0 : Int)))
theorem l_toIntS_c {t0_0 : Bool} {a0 : (List Int)} {r : (List Int)} (hF : l_toIntS a0 = some r) : Con Tryz.prog 124 [.val false [.u (ul cInt 1 t0_0 a0)]] [] (.val false [.row 0]) [.row 3 r.length 1 (gl cInt r)] := by
 refine Con.of_Dz tabOk Tryz.func124 rfl rfl rfl ?_
 delta l_toIntS at hF
 refine Dz.seq (Dz.reg (Dz.seq (Dz.reg ?_)))
 intro hb1; replace hb1 : a0.length ≤ 140737488355328 := hb1
 refine vck hF (fun h => ⟨rfl, h⟩) (fun hk hF => ?_)
 refine Dz.row 0 (List.replicate a0.length (0 : Int)).length (gl cInt (List.replicate a0.length (0 : Int))) rfl (by simp <;> omega) (EqG.rep' (c := cInt) (sz := 1) _ ⟨lr, tv⟩) ?_
 refine Dz.seq (Dz.seq (Dz.reg (Dz.blk ?_)))
 refine Dz.cnt hF (fun i2 v9 => ([(0, .val false [.u (ul cInt 1 t0_0 a0)]), (3, .val false [.row 0]), (4, vint .i64 ((i2 : Nat) : Int))], [.row 3 v9.length 1 (gl cInt v9)])) (entG [0] ⟨mv rfl, ⟨rfl, rfl, tv⟩, mv rfl, tv⟩ ⟨⟨rfl, o_row⟩, tv⟩ rfl) (fun v9 hF => ?_) (fun i2 v9 κ10 hi0i2 hi1i2 hF => ?_)
 ·refine Dz.seq (Dz.seq (Dz.reg ?_))
  intro hb13; replace hb13 : a0.length ≤ 140737488355328 := hb13
  refine Dz.ff (b := decide (((0 + a0.length : Nat) : Int) < ((a0.length : Nat) : Int))) rfl (decide_eq_false (by omega)) ?_
  refine Dz.exit (Dz.seq (Dz.reg (Dz.ret ?_)))
  cases hF
  exact finG [] [0] rfl rfl (⟨rfl, rfl, tv⟩) ⟨⟨rfl, o_row⟩, tv⟩ rfl
 ·refine Dz.seq (Dz.seq (Dz.reg ?_))
  intro hb11; replace hb11 : a0.length ≤ 140737488355328 := hb11
  refine Dz.tt (b := decide (((i2 : Nat) : Int) < ((a0.length : Nat) : Int))) rfl (decide_eq_true (by omega)) ?_
  refine Dz.skip (Dz.seq (Dz.blk (Dz.reg ?_)))
  refine vge (n := ((i2 : Nat) : Int)) (hi := (a0.length : Int)) (by omega) (by omega) ?_
  refine vix hF (fun _ _ hF => ?_)
  refine ltX hF (fun r12 hr12 hF => ?_)
  have hlr12 : r12.length = v9.length := by rw [hr12]; simp <;> omega
  refine Dz.row 0 r12.length (gl cInt r12) rfl (by rw [hr12]; simp <;> omega) (by rw [hr12]; exact (EqG.set' rfl (EqG.refl _ _ _) ⟨lr, tv⟩)) ?_
  refine Dz.reg ?_
  refine vsucc (by omega) ?_
  exact ⟨r12, entG [0] ⟨mv rfl, ⟨rfl, rfl, tv⟩, mv rfl, tv⟩ ⟨⟨rfl, o_row⟩, tv⟩ rfl, hF⟩
def l_toSynSeeker (a0 : SynSeeker) : Option (SynSeeker) :=
 (l_toCmd a0.Mine).bind (fun y1 => (l_toSynPaper a0.Best).bind (fun y2 => (l_toIntS a0.Yes).bind (fun y3 => some ({ Slot := a0.Slot, Ballot := a0.Ballot, Phase := a0.Phase, Mine := y1, Best := y2, Yes := y3 } : SynSeeker))))
theorem l_toSynSeeker_c {t0_25 : Bool} {a0 : SynSeeker} {r : SynSeeker} (hF : l_toSynSeeker a0 = some r) : Con Tryz.prog 77 [.val true [.u (cI a0.Slot), .u (cI a0.Ballot), .u (cI a0.Phase), .u (cI a0.Mine.Kind), .u (cI a0.Mine.Client), .u (cI a0.Mine.Call), .u (cI a0.Mine.Disk), .u (cI a0.Mine.Arg), .u (cI a0.Mine.Epoch), .u (cI a0.Mine.Range), .u (cI a0.Mine.Num), .u (cI a0.Mine.A), .u (cI a0.Mine.B), .u (cI a0.Best.Slot), .u (cI a0.Best.Ballot), .u (cI a0.Best.Cmd.Kind), .u (cI a0.Best.Cmd.Client), .u (cI a0.Best.Cmd.Call), .u (cI a0.Best.Cmd.Disk), .u (cI a0.Best.Cmd.Arg), .u (cI a0.Best.Cmd.Epoch), .u (cI a0.Best.Cmd.Range), .u (cI a0.Best.Cmd.Num), .u (cI a0.Best.Cmd.A), .u (cI a0.Best.Cmd.B), .u (ul cInt 1 t0_25 a0.Yes)]] [] (.val true [.u (cI r.Slot), .u (cI r.Ballot), .u (cI r.Phase), .u (cI r.Mine.Kind), .u (cI r.Mine.Client), .u (cI r.Mine.Call), .u (cI r.Mine.Disk), .u (cI r.Mine.Arg), .u (cI r.Mine.Epoch), .u (cI r.Mine.Range), .u (cI r.Mine.Num), .u (cI r.Mine.A), .u (cI r.Mine.B), .u (cI r.Best.Slot), .u (cI r.Best.Ballot), .u (cI r.Best.Cmd.Kind), .u (cI r.Best.Cmd.Client), .u (cI r.Best.Cmd.Call), .u (cI r.Best.Cmd.Disk), .u (cI r.Best.Cmd.Arg), .u (cI r.Best.Cmd.Epoch), .u (cI r.Best.Cmd.Range), .u (cI r.Best.Cmd.Num), .u (cI r.Best.Cmd.A), .u (cI r.Best.Cmd.B), .row 0]) [.row 3 r.Yes.length 1 (gl cInt r.Yes)] := by
 refine Con.of_Dz tabOk Tryz.func77 rfl rfl rfl ?_
 delta l_toSynSeeker at hF
 refine Dz.seq (Dz.reg (Dz.seq (Dz.reg (Dz.seq (Dz.reg (Dz.seq (Dz.reg ?_)))))))
 refine Dz.seq (Dz.reg (Dz.seq (Dz.reg ?_)))
 refine bdE hF (fun y1 hy1 hF => ?_)
 refine callG [] (l_toCmd_c hy1) ⟨mv rfl, tv⟩ tv rfl ?_
 refine Dz.seq (Dz.reg ?_)
 refine bdE hF (fun y2 hy2 hF => ?_)
 refine callG [] (l_toSynPaper_c hy2) ⟨mv rfl, tv⟩ tv rfl ?_
 refine Dz.seq (Dz.reg ?_)
 refine bdE hF (fun y3 hy3 hF => ?_)
 refine callG [] (l_toIntS_c hy3) ⟨mv rfl, tv⟩ tv rfl ?_
 refine Dz.seq (Dz.reg (Dz.ret ?_))
 cases hF
 exact finG [] [3] rfl rfl (⟨rfl, lr, lr, lr, lr, lr, lr, lr, lr, lr, lr, lr, lr, lr, lr, lr, lr, lr, lr, lr, lr, lr, lr, lr, lr, lr, rfl, tv⟩) ⟨⟨rfl, o_row⟩, tv⟩ rfl
def l_toSrvDoing (a0 : SrvDoing) : Option (SrvDoing) :=
 some a0
theorem l_toSrvDoing_c {a0 : SrvDoing} {r : SrvDoing} (hF : l_toSrvDoing a0 = some r) : Con Tryz.prog 125 [.val true (SrvDoing.L a0)] [] (.val true (SrvDoing.L r)) [] := by
 refine Con.of_Dz tabOk Tryz.func125 rfl rfl rfl ?_
 delta l_toSrvDoing at hF
 refine Dz.seq (Dz.reg (Dz.seq (Dz.reg (Dz.seq (Dz.reg (Dz.seq (Dz.reg ?_)))))))
 refine Dz.seq (Dz.reg (Dz.seq (Dz.reg (Dz.seq (Dz.reg (Dz.seq (Dz.reg ?_)))))))
 refine Dz.seq (Dz.reg (Dz.seq (Dz.reg (Dz.seq (Dz.reg (Dz.ret ?_))))))
 cases hF
 exact finG [] [] rfl rfl (mv rfl) tv rfl
def l_toSrvDoingS (a0 : (List SrvDoing)) : Option ((List SrvDoing)) :=
 ck (0 ≤ ((a0.length : Nat) : Int) ∧ ((a0.length : Nat) : Int) * 64 ≤ 140737488355328) (loopN (fun i2 (v13 : List SrvDoing) κ14 => lt (a0.getD i2 default) (fun x16 => (l_toSrvDoing x16).bind (fun y17 => ix v13 ((i2 : Nat) : Int) (fun _ => lt (v13.set i2 y17) (fun r18 => κ14 r18))))) (fun (v13 : List SrvDoing) => some v13) a0.length 0 (List.replicate a0.length (({ Range := 0, View := 0, Write := false, Client := 0, Call := 0, Disk := 0, Block := 0, Epoch := 0 } : SrvDoing) : SrvDoing)))
theorem l_toSrvDoingS_c {t0_0 : Bool} {a0 : (List SrvDoing)} {r : (List SrvDoing)} (hF : l_toSrvDoingS a0 = some r) : Con Tryz.prog 78 [.val false [.u (ul SrvDoing.c 8 t0_0 a0)]] [] (.val false [.row 0]) [.row 160 r.length 8 (gl SrvDoing.c r)] := by
 refine Con.of_Dz tabOk Tryz.func78 rfl rfl rfl ?_
 delta l_toSrvDoingS at hF
 refine Dz.seq (Dz.reg (Dz.seq (Dz.reg ?_)))
 intro hb1; replace hb1 : a0.length ≤ 140737488355328 := hb1
 refine vck hF (fun h => ⟨rfl, h⟩) (fun hk hF => ?_)
 refine Dz.row 0 (List.replicate a0.length (({ Range := 0, View := 0, Write := false, Client := 0, Call := 0, Disk := 0, Block := 0, Epoch := 0 } : SrvDoing) : SrvDoing)).length (gl SrvDoing.c (List.replicate a0.length (({ Range := 0, View := 0, Write := false, Client := 0, Call := 0, Disk := 0, Block := 0, Epoch := 0 } : SrvDoing) : SrvDoing))) rfl (by simp <;> omega) (EqG.rep' (c := SrvDoing.c) (sz := 8) _ ⟨lr, lr, lr, lr, lr, lr, lr, lr, tv⟩) ?_
 refine Dz.seq (Dz.seq (Dz.reg (Dz.blk ?_)))
 refine Dz.cnt hF (fun i2 v13 => ([(0, .val false [.u (ul SrvDoing.c 8 t0_0 a0)]), (3, .val false [.row 0]), (4, vint .i64 ((i2 : Nat) : Int))], [.row 160 v13.length 8 (gl SrvDoing.c v13)])) (entG [0] ⟨mv rfl, ⟨rfl, rfl, tv⟩, mv rfl, tv⟩ ⟨⟨rfl, o_row⟩, tv⟩ rfl) (fun v13 hF => ?_) (fun i2 v13 κ14 hi0i2 hi1i2 hF => ?_)
 ·refine Dz.seq (Dz.seq (Dz.reg ?_))
  intro hb19; replace hb19 : a0.length ≤ 140737488355328 := hb19
  refine Dz.ff (b := decide (((0 + a0.length : Nat) : Int) < ((a0.length : Nat) : Int))) rfl (decide_eq_false (by omega)) ?_
  refine Dz.exit (Dz.seq (Dz.reg (Dz.ret ?_)))
  cases hF
  exact finG [] [0] rfl rfl (⟨rfl, rfl, tv⟩) ⟨⟨rfl, o_row⟩, tv⟩ rfl
 ·refine Dz.seq (Dz.seq (Dz.reg ?_))
  intro hb15; replace hb15 : a0.length ≤ 140737488355328 := hb15
  refine Dz.tt (b := decide (((i2 : Nat) : Int) < ((a0.length : Nat) : Int))) rfl (decide_eq_true (by omega)) ?_
  refine Dz.skip (Dz.seq (Dz.blk (Dz.reg ?_)))
  refine vge (n := ((i2 : Nat) : Int)) (hi := (a0.length : Int)) (by omega) (by omega) ?_
  have hF := ltE hF
  refine bdE hF (fun y17 hy17 hF => ?_)
  refine callG [] (l_toSrvDoing_c hy17) ⟨mv rfl, tv⟩ tv rfl ?_
  refine vix hF (fun _ _ hF => ?_)
  refine ltX hF (fun r18 hr18 hF => ?_)
  have hlr18 : r18.length = v13.length := by rw [hr18]; simp <;> omega
  refine Dz.row 0 r18.length (gl SrvDoing.c r18) rfl (by rw [hr18]; simp <;> omega) (by rw [hr18]; exact (EqG.set' rfl (EqG.refl _ _ _) ⟨lr, lr, lr, lr, lr, lr, lr, lr, tv⟩)) ?_
  refine Dz.reg ?_
  refine vsucc (by omega) ?_
  exact ⟨r18, entG [0] ⟨mv rfl, ⟨rfl, rfl, tv⟩, mv rfl, tv⟩ ⟨⟨rfl, o_row⟩, tv⟩ rfl, hF⟩
def l_toServer (a0 : Server) : Option (Server) :=
 (l_toSynVoter a0.Voter).bind (fun y1 => (l_toCmdS a0.Log).bind (fun y2 => (l_toSrvCopyS a0.Copies).bind (fun y3 => (l_toSynSeeker a0.Seek).bind (fun y4 => (l_toCmdS a0.Wants).bind (fun y5 => (l_toSrvDoingS a0.Doing).bind (fun y6 => some ({ Id := a0.Id, Up := a0.Up, Gone := a0.Gone, Round := a0.Round, Voter := y1, Log := y2, Copies := y3, Seek := y4, Wants := y5, Doing := y6 } : Server)))))))
theorem l_toServer_c {t0_33 t0_34 t0_35 t0_5 t0_6 t0_7 : Bool} {a0 : Server} {r : Server} (hF : l_toServer a0 = some r) : Con Tryz.prog 40 [.val true (.u (cI a0.Id) :: .u (.bool a0.Up) :: .u (.bool a0.Gone) :: .u (cI a0.Round) :: .u (cI a0.Voter.Promised) :: .u (ul SynPaper.c 12 t0_5 a0.Voter.Papers) :: .u (ul Cmd.c 10 t0_6 a0.Log) :: .u (ul SrvCopy.c 6 t0_7 a0.Copies) :: .u (cI a0.Seek.Slot) :: .u (cI a0.Seek.Ballot) :: .u (cI a0.Seek.Phase) :: .u (cI a0.Seek.Mine.Kind) :: .u (cI a0.Seek.Mine.Client) :: .u (cI a0.Seek.Mine.Call) :: .u (cI a0.Seek.Mine.Disk) :: .u (cI a0.Seek.Mine.Arg) :: .u (cI a0.Seek.Mine.Epoch) :: .u (cI a0.Seek.Mine.Range) :: .u (cI a0.Seek.Mine.Num) :: .u (cI a0.Seek.Mine.A) :: .u (cI a0.Seek.Mine.B) :: .u (cI a0.Seek.Best.Slot) :: .u (cI a0.Seek.Best.Ballot) :: .u (cI a0.Seek.Best.Cmd.Kind) :: .u (cI a0.Seek.Best.Cmd.Client) :: .u (cI a0.Seek.Best.Cmd.Call) :: .u (cI a0.Seek.Best.Cmd.Disk) :: .u (cI a0.Seek.Best.Cmd.Arg) :: .u (cI a0.Seek.Best.Cmd.Epoch) :: .u (cI a0.Seek.Best.Cmd.Range) :: .u (cI a0.Seek.Best.Cmd.Num) :: .u (cI a0.Seek.Best.Cmd.A) :: .u (cI a0.Seek.Best.Cmd.B) :: .u (ul cInt 1 t0_33 a0.Seek.Yes) :: .u (ul Cmd.c 10 t0_34 a0.Wants) :: .u (ul SrvDoing.c 8 t0_35 a0.Doing) :: [])] [] (.val true (.u (cI r.Id) :: .u (.bool r.Up) :: .u (.bool r.Gone) :: .u (cI r.Round) :: .u (cI r.Voter.Promised) :: .row 0 :: .row 1 :: .row 2 :: .u (cI r.Seek.Slot) :: .u (cI r.Seek.Ballot) :: .u (cI r.Seek.Phase) :: .u (cI r.Seek.Mine.Kind) :: .u (cI r.Seek.Mine.Client) :: .u (cI r.Seek.Mine.Call) :: .u (cI r.Seek.Mine.Disk) :: .u (cI r.Seek.Mine.Arg) :: .u (cI r.Seek.Mine.Epoch) :: .u (cI r.Seek.Mine.Range) :: .u (cI r.Seek.Mine.Num) :: .u (cI r.Seek.Mine.A) :: .u (cI r.Seek.Mine.B) :: .u (cI r.Seek.Best.Slot) :: .u (cI r.Seek.Best.Ballot) :: .u (cI r.Seek.Best.Cmd.Kind) :: .u (cI r.Seek.Best.Cmd.Client) :: .u (cI r.Seek.Best.Cmd.Call) :: .u (cI r.Seek.Best.Cmd.Disk) :: .u (cI r.Seek.Best.Cmd.Arg) :: .u (cI r.Seek.Best.Cmd.Epoch) :: .u (cI r.Seek.Best.Cmd.Range) :: .u (cI r.Seek.Best.Cmd.Num) :: .u (cI r.Seek.Best.Cmd.A) :: .u (cI r.Seek.Best.Cmd.B) :: .row 3 :: .row 4 :: .row 5 :: [])) [.row 57 r.Voter.Papers.length 12 (gl SynPaper.c r.Voter.Papers), .row 55 r.Log.length 10 (gl Cmd.c r.Log), .row 119 r.Copies.length 6 (gl SrvCopy.c r.Copies), .row 3 r.Seek.Yes.length 1 (gl cInt r.Seek.Yes), .row 55 r.Wants.length 10 (gl Cmd.c r.Wants), .row 160 r.Doing.length 8 (gl SrvDoing.c r.Doing)] := by
 refine Con.of_Dz tabOk Tryz.func40 rfl rfl rfl ?_
 delta l_toServer at hF
 refine Dz.seq (Dz.reg (Dz.seq (Dz.reg (Dz.seq (Dz.reg (Dz.seq (Dz.reg ?_)))))))
 refine Dz.seq (Dz.reg (Dz.seq (Dz.reg (Dz.seq (Dz.reg ?_)))))
 refine bdE hF (fun y1 hy1 hF => ?_)
 refine callG [] (l_toSynVoter_c hy1) ⟨mv rfl, tv⟩ tv rfl ?_
 refine Dz.seq (Dz.reg ?_)
 refine bdE hF (fun y2 hy2 hF => ?_)
 refine callG [] (l_toCmdS_c hy2) ⟨mv rfl, tv⟩ tv rfl ?_
 refine Dz.seq (Dz.reg ?_)
 refine bdE hF (fun y3 hy3 hF => ?_)
 refine callG [] (l_toSrvCopyS_c hy3) ⟨mv rfl, tv⟩ tv rfl ?_
 refine Dz.seq (Dz.reg ?_)
 refine bdE hF (fun y4 hy4 hF => ?_)
 refine callG [] (l_toSynSeeker_c hy4) ⟨mv rfl, tv⟩ tv rfl ?_
 refine Dz.seq (Dz.reg ?_)
 refine bdE hF (fun y5 hy5 hF => ?_)
 refine callG [] (l_toCmdS_c hy5) ⟨mv rfl, tv⟩ tv rfl ?_
 refine Dz.seq (Dz.reg ?_)
 refine bdE hF (fun y6 hy6 hF => ?_)
 refine callG [] (l_toSrvDoingS_c hy6) ⟨mv rfl, tv⟩ tv rfl ?_
 refine Dz.seq (Dz.reg (Dz.ret ?_))
 cases hF
 exact finG [] [3, 4, 5, 6, 7, 8] rfl rfl (⟨rfl, lr, lr, lr, lr, lr, rfl, rfl, rfl, lr, lr, lr, lr, lr, lr, lr, lr, lr, lr, lr, lr, lr, lr, lr, lr, lr, lr, lr, lr, lr, lr, lr, lr, lr, rfl, rfl, rfl, tv⟩) ⟨⟨rfl, o_row⟩, ⟨rfl, o_row⟩, ⟨rfl, o_row⟩, ⟨rfl, o_row⟩, ⟨rfl, o_row⟩, ⟨rfl, o_row⟩, tv⟩ rfl
def l_toServerS (a0 : (List Server)) : Option ((List Server)) :=
 ck (0 ≤ ((a0.length : Nat) : Int) ∧ ((a0.length : Nat) : Int) * 376 ≤ 140737488355328) (loopN (fun i2 (v13 : List Server) κ14 => lt (a0.getD i2 default) (fun x16 => (l_toServer x16).bind (fun y17 => ix v13 ((i2 : Nat) : Int) (fun _ => lt (v13.set i2 y17) (fun r18 => κ14 r18))))) (fun (v13 : List Server) => some v13) a0.length 0 (List.replicate a0.length (({ Id := 0, Up := false, Gone := false, Round := 0, Voter := ({ Promised := 0, Papers := [] } : SynVoter), Log := [], Copies := [], Seek := ({ Slot := 0, Ballot := 0, Phase := 0, Mine := ({ Kind := 0, Client := 0, Call := 0, Disk := 0, Arg := 0, Epoch := 0, Range := 0, Num := 0, A := 0, B := 0 } : Cmd), Best := ({ Slot := 0, Ballot := 0, Cmd := ({ Kind := 0, Client := 0, Call := 0, Disk := 0, Arg := 0, Epoch := 0, Range := 0, Num := 0, A := 0, B := 0 } : Cmd) } : SynPaper), Yes := [] } : SynSeeker), Wants := [], Doing := [] } : Server) : Server)))
theorem l_toServerS_c {t0_0 : Bool} {a0 : (List Server)} {r : (List Server)} (hF : l_toServerS a0 = some r) : Con Tryz.prog 18 [.val false [.u (ul Server.c 36 t0_0 a0)]] [] (.val false [.row 0]) [.row 63 r.length 36 (gl Server.c r)] := by
 refine Con.of_Dz tabOk Tryz.func18 rfl rfl rfl ?_
 delta l_toServerS at hF
 refine Dz.seq (Dz.reg (Dz.seq (Dz.reg ?_)))
 intro hb1; replace hb1 : a0.length ≤ 140737488355328 := hb1
 refine vck hF (fun h => ⟨rfl, h⟩) (fun hk hF => ?_)
 refine Dz.row 0 (List.replicate a0.length (({ Id := 0, Up := false, Gone := false, Round := 0, Voter := ({ Promised := 0, Papers := [] } : SynVoter), Log := [], Copies := [], Seek := ({ Slot := 0, Ballot := 0, Phase := 0, Mine := ({ Kind := 0, Client := 0, Call := 0, Disk := 0, Arg := 0, Epoch := 0, Range := 0, Num := 0, A := 0, B := 0 } : Cmd), Best := ({ Slot := 0, Ballot := 0, Cmd := ({ Kind := 0, Client := 0, Call := 0, Disk := 0, Arg := 0, Epoch := 0, Range := 0, Num := 0, A := 0, B := 0 } : Cmd) } : SynPaper), Yes := [] } : SynSeeker), Wants := [], Doing := [] } : Server) : Server)).length (gl Server.c (List.replicate a0.length (({ Id := 0, Up := false, Gone := false, Round := 0, Voter := ({ Promised := 0, Papers := [] } : SynVoter), Log := [], Copies := [], Seek := ({ Slot := 0, Ballot := 0, Phase := 0, Mine := ({ Kind := 0, Client := 0, Call := 0, Disk := 0, Arg := 0, Epoch := 0, Range := 0, Num := 0, A := 0, B := 0 } : Cmd), Best := ({ Slot := 0, Ballot := 0, Cmd := ({ Kind := 0, Client := 0, Call := 0, Disk := 0, Arg := 0, Epoch := 0, Range := 0, Num := 0, A := 0, B := 0 } : Cmd) } : SynPaper), Yes := [] } : SynSeeker), Wants := [], Doing := [] } : Server) : Server))) rfl (by simp <;> omega) (EqG.rep' (c := Server.c) (sz := 36) _ ⟨lr, lr, lr, lr, lr, LeU.nil, LeU.nil, LeU.nil, lr, lr, lr, lr, lr, lr, lr, lr, lr, lr, lr, lr, lr, lr, lr, lr, lr, lr, lr, lr, lr, lr, lr, lr, lr, LeU.nil, LeU.nil, LeU.nil, tv⟩) ?_
 refine Dz.seq (Dz.seq (Dz.reg (Dz.blk ?_)))
 refine Dz.cnt hF (fun i2 v13 => ([(0, .val false [.u (ul Server.c 36 t0_0 a0)]), (3, .val false [.row 0]), (4, vint .i64 ((i2 : Nat) : Int))], [.row 63 v13.length 36 (gl Server.c v13)])) (entG [0] ⟨mv rfl, ⟨rfl, rfl, tv⟩, mv rfl, tv⟩ ⟨⟨rfl, o_row⟩, tv⟩ rfl) (fun v13 hF => ?_) (fun i2 v13 κ14 hi0i2 hi1i2 hF => ?_)
 ·refine Dz.seq (Dz.seq (Dz.reg ?_))
  intro hb19; replace hb19 : a0.length ≤ 140737488355328 := hb19
  refine Dz.ff (b := decide (((0 + a0.length : Nat) : Int) < ((a0.length : Nat) : Int))) rfl (decide_eq_false (by omega)) ?_
  refine Dz.exit (Dz.seq (Dz.reg (Dz.ret ?_)))
  cases hF
  exact finG [] [0] rfl rfl (⟨rfl, rfl, tv⟩) ⟨⟨rfl, o_row⟩, tv⟩ rfl
 ·refine Dz.seq (Dz.seq (Dz.reg ?_))
  intro hb15; replace hb15 : a0.length ≤ 140737488355328 := hb15
  refine Dz.tt (b := decide (((i2 : Nat) : Int) < ((a0.length : Nat) : Int))) rfl (decide_eq_true (by omega)) ?_
  refine Dz.skip (Dz.seq (Dz.blk (Dz.reg ?_)))
  refine vge (n := ((i2 : Nat) : Int)) (hi := (a0.length : Int)) (by omega) (by omega) ?_
  have hF := ltE hF
  refine bdE hF (fun y17 hy17 hF => ?_)
  refine callG [] (l_toServer_c hy17) ⟨mv rfl, tv⟩ tv rfl ?_
  refine vix hF (fun _ _ hF => ?_)
  refine ltX hF (fun r18 hr18 hF => ?_)
  have hlr18 : r18.length = v13.length := by rw [hr18]; simp <;> omega
  refine Dz.row 0 r18.length (gl Server.c r18) rfl (by rw [hr18]; simp <;> omega) (by rw [hr18]; exact (EqG.set' rfl (EqG.refl _ _ _) ⟨lr, lr, lr, lr, lr, lr, lr, lr, lr, lr, lr, lr, lr, lr, lr, lr, lr, lr, lr, lr, lr, lr, lr, lr, lr, lr, lr, lr, lr, lr, lr, lr, lr, lr, lr, lr, tv⟩)) ?_
  refine Dz.reg ?_
  refine vsucc (by omega) ?_
  exact ⟨r18, entG [0] ⟨mv rfl, ⟨rfl, rfl, tv⟩, mv rfl, tv⟩ ⟨⟨rfl, o_row⟩, tv⟩ rfl, hF⟩
def l_toWord (a0 : Word) : Option (Word) :=
 (l_toCmd a0.Cmd).bind (fun y1 => (l_toBlkPieceS a0.Pieces).bind (fun y2 => (l_toBlkLastS a0.Last).bind (fun y3 => some ({ Kind := a0.Kind, From := a0.From, To := a0.To, Ballot := a0.Ballot, Slot := a0.Slot, Was := a0.Was, Cmd := y1, Range := a0.Range, View := a0.View, Client := a0.Client, Call := a0.Call, Disk := a0.Disk, Block := a0.Block, Epoch := a0.Epoch, Data := a0.Data, Pieces := y2, Last := y3 } : Word))))
theorem l_toWord_c {t0_24 t0_25 : Bool} {a0 : Word} {r : Word} (hF : l_toWord a0 = some r) : Con Tryz.prog 41 [.val true [.u (cI a0.Kind), .u (cI a0.From), .u (cI a0.To), .u (cI a0.Ballot), .u (cI a0.Slot), .u (cI a0.Was), .u (cI a0.Cmd.Kind), .u (cI a0.Cmd.Client), .u (cI a0.Cmd.Call), .u (cI a0.Cmd.Disk), .u (cI a0.Cmd.Arg), .u (cI a0.Cmd.Epoch), .u (cI a0.Cmd.Range), .u (cI a0.Cmd.Num), .u (cI a0.Cmd.A), .u (cI a0.Cmd.B), .u (cI a0.Range), .u (cI a0.View), .u (cI a0.Client), .u (cI a0.Call), .u (cI a0.Disk), .u (cI a0.Block), .u (cI a0.Epoch), .u (cI a0.Data), .u (ul BlkPiece.c 4 t0_24 a0.Pieces), .u (ul BlkLast.c 2 t0_25 a0.Last)]] [] (.val true [.u (cI r.Kind), .u (cI r.From), .u (cI r.To), .u (cI r.Ballot), .u (cI r.Slot), .u (cI r.Was), .u (cI r.Cmd.Kind), .u (cI r.Cmd.Client), .u (cI r.Cmd.Call), .u (cI r.Cmd.Disk), .u (cI r.Cmd.Arg), .u (cI r.Cmd.Epoch), .u (cI r.Cmd.Range), .u (cI r.Cmd.Num), .u (cI r.Cmd.A), .u (cI r.Cmd.B), .u (cI r.Range), .u (cI r.View), .u (cI r.Client), .u (cI r.Call), .u (cI r.Disk), .u (cI r.Block), .u (cI r.Epoch), .u (cI r.Data), .row 0, .row 1]) [.row 121 r.Pieces.length 4 (gl BlkPiece.c r.Pieces), .row 185 r.Last.length 2 (gl BlkLast.c r.Last)] := by
 refine Con.of_Dz tabOk Tryz.func41 rfl rfl rfl ?_
 delta l_toWord at hF
 refine Dz.seq (Dz.reg (Dz.seq (Dz.reg (Dz.seq (Dz.reg (Dz.seq (Dz.reg ?_)))))))
 refine Dz.seq (Dz.reg (Dz.seq (Dz.reg (Dz.seq (Dz.reg (Dz.seq (Dz.reg ?_)))))))
 refine Dz.seq (Dz.reg ?_)
 refine bdE hF (fun y1 hy1 hF => ?_)
 refine callG [] (l_toCmd_c hy1) ⟨mv rfl, tv⟩ tv rfl ?_
 refine Dz.seq (Dz.reg (Dz.seq (Dz.reg (Dz.seq (Dz.reg (Dz.seq (Dz.reg ?_)))))))
 refine Dz.seq (Dz.reg (Dz.seq (Dz.reg (Dz.seq (Dz.reg (Dz.seq (Dz.reg ?_)))))))
 refine Dz.seq (Dz.reg ?_)
 refine bdE hF (fun y2 hy2 hF => ?_)
 refine callG [] (l_toBlkPieceS_c hy2) ⟨mv rfl, tv⟩ tv rfl ?_
 refine Dz.seq (Dz.reg ?_)
 refine bdE hF (fun y3 hy3 hF => ?_)
 refine callG [] (l_toBlkLastS_c hy3) ⟨mv rfl, tv⟩ tv rfl ?_
 refine Dz.seq (Dz.reg (Dz.ret ?_))
 cases hF
 exact finG [] [3, 4] rfl rfl (⟨rfl, lr, lr, lr, lr, lr, lr, lr, lr, lr, lr, lr, lr, lr, lr, lr, lr, lr, lr, lr, lr, lr, lr, lr, lr, rfl, rfl, tv⟩) ⟨⟨rfl, o_row⟩, ⟨rfl, o_row⟩, tv⟩ rfl
def l_toWordS (a0 : (List Word)) : Option ((List Word)) :=
 ck (0 ≤ ((a0.length : Nat) : Int) ∧ ((a0.length : Nat) : Int) * 240 ≤ 140737488355328) (loopN (fun i2 (v13 : List Word) κ14 => lt (a0.getD i2 default) (fun x16 => (l_toWord x16).bind (fun y17 => ix v13 ((i2 : Nat) : Int) (fun _ => lt (v13.set i2 y17) (fun r18 => κ14 r18))))) (fun (v13 : List Word) => some v13) a0.length 0 (List.replicate a0.length (({ Kind := 0, From := 0, To := 0, Ballot := 0, Slot := 0, Was := 0, Cmd := ({ Kind := 0, Client := 0, Call := 0, Disk := 0, Arg := 0, Epoch := 0, Range := 0, Num := 0, A := 0, B := 0 } : Cmd), Range := 0, View := 0, Client := 0, Call := 0, Disk := 0, Block := 0, Epoch := 0, Data := 0, Pieces := [], Last := [] } : Word) : Word)))
theorem l_toWordS_c {t0_0 : Bool} {a0 : (List Word)} {r : (List Word)} (hF : l_toWordS a0 = some r) : Con Tryz.prog 19 [.val false [.u (ul Word.c 26 t0_0 a0)]] [] (.val false [.row 0]) [.row 111 r.length 26 (gl Word.c r)] := by
 refine Con.of_Dz tabOk Tryz.func19 rfl rfl rfl ?_
 delta l_toWordS at hF
 refine Dz.seq (Dz.reg (Dz.seq (Dz.reg ?_)))
 intro hb1; replace hb1 : a0.length ≤ 140737488355328 := hb1
 refine vck hF (fun h => ⟨rfl, h⟩) (fun hk hF => ?_)
 refine Dz.row 0 (List.replicate a0.length (({ Kind := 0, From := 0, To := 0, Ballot := 0, Slot := 0, Was := 0, Cmd := ({ Kind := 0, Client := 0, Call := 0, Disk := 0, Arg := 0, Epoch := 0, Range := 0, Num := 0, A := 0, B := 0 } : Cmd), Range := 0, View := 0, Client := 0, Call := 0, Disk := 0, Block := 0, Epoch := 0, Data := 0, Pieces := [], Last := [] } : Word) : Word)).length (gl Word.c (List.replicate a0.length (({ Kind := 0, From := 0, To := 0, Ballot := 0, Slot := 0, Was := 0, Cmd := ({ Kind := 0, Client := 0, Call := 0, Disk := 0, Arg := 0, Epoch := 0, Range := 0, Num := 0, A := 0, B := 0 } : Cmd), Range := 0, View := 0, Client := 0, Call := 0, Disk := 0, Block := 0, Epoch := 0, Data := 0, Pieces := [], Last := [] } : Word) : Word))) rfl (by simp <;> omega) (EqG.rep' (c := Word.c) (sz := 26) _ ⟨lr, lr, lr, lr, lr, lr, lr, lr, lr, lr, lr, lr, lr, lr, lr, lr, lr, lr, lr, lr, lr, lr, lr, lr, LeU.nil, LeU.nil, tv⟩) ?_
 refine Dz.seq (Dz.seq (Dz.reg (Dz.blk ?_)))
 refine Dz.cnt hF (fun i2 v13 => ([(0, .val false [.u (ul Word.c 26 t0_0 a0)]), (3, .val false [.row 0]), (4, vint .i64 ((i2 : Nat) : Int))], [.row 111 v13.length 26 (gl Word.c v13)])) (entG [0] ⟨mv rfl, ⟨rfl, rfl, tv⟩, mv rfl, tv⟩ ⟨⟨rfl, o_row⟩, tv⟩ rfl) (fun v13 hF => ?_) (fun i2 v13 κ14 hi0i2 hi1i2 hF => ?_)
 ·refine Dz.seq (Dz.seq (Dz.reg ?_))
  intro hb19; replace hb19 : a0.length ≤ 140737488355328 := hb19
  refine Dz.ff (b := decide (((0 + a0.length : Nat) : Int) < ((a0.length : Nat) : Int))) rfl (decide_eq_false (by omega)) ?_
  refine Dz.exit (Dz.seq (Dz.reg (Dz.ret ?_)))
  cases hF
  exact finG [] [0] rfl rfl (⟨rfl, rfl, tv⟩) ⟨⟨rfl, o_row⟩, tv⟩ rfl
 ·refine Dz.seq (Dz.seq (Dz.reg ?_))
  intro hb15; replace hb15 : a0.length ≤ 140737488355328 := hb15
  refine Dz.tt (b := decide (((i2 : Nat) : Int) < ((a0.length : Nat) : Int))) rfl (decide_eq_true (by omega)) ?_
  refine Dz.skip (Dz.seq (Dz.blk (Dz.reg ?_)))
  refine vge (n := ((i2 : Nat) : Int)) (hi := (a0.length : Int)) (by omega) (by omega) ?_
  have hF := ltE hF
  refine bdE hF (fun y17 hy17 hF => ?_)
  refine callG [] (l_toWord_c hy17) ⟨mv rfl, tv⟩ tv rfl ?_
  refine vix hF (fun _ _ hF => ?_)
  refine ltX hF (fun r18 hr18 hF => ?_)
  have hlr18 : r18.length = v13.length := by rw [hr18]; simp <;> omega
  refine Dz.row 0 r18.length (gl Word.c r18) rfl (by rw [hr18]; simp <;> omega) (by rw [hr18]; exact (EqG.set' rfl (EqG.refl _ _ _) ⟨lr, lr, lr, lr, lr, lr, lr, lr, lr, lr, lr, lr, lr, lr, lr, lr, lr, lr, lr, lr, lr, lr, lr, lr, lr, lr, tv⟩)) ?_
  refine Dz.reg ?_
  refine vsucc (by omega) ?_
  exact ⟨r18, entG [0] ⟨mv rfl, ⟨rfl, rfl, tv⟩, mv rfl, tv⟩ ⟨⟨rfl, o_row⟩, tv⟩ rfl, hF⟩
def l_toPanCall (a0 : PanCall) : Option (PanCall) :=
 some a0
theorem l_toPanCall_c {a0 : PanCall} {r : PanCall} (hF : l_toPanCall a0 = some r) : Con Tryz.prog 42 [.val true (PanCall.L a0)] [] (.val true (PanCall.L r)) [] := by
 refine Con.of_Dz tabOk Tryz.func42 rfl rfl rfl ?_
 delta l_toPanCall at hF
 refine Dz.seq (Dz.reg (Dz.seq (Dz.reg (Dz.seq (Dz.reg (Dz.seq (Dz.reg ?_)))))))
 refine Dz.seq (Dz.reg (Dz.seq (Dz.reg (Dz.seq (Dz.reg (Dz.seq (Dz.reg ?_)))))))
 refine Dz.seq (Dz.reg (Dz.seq (Dz.reg (Dz.seq (Dz.reg (Dz.seq (Dz.reg ?_)))))))
 refine Dz.seq (Dz.reg (Dz.seq (Dz.reg (Dz.seq (Dz.reg (Dz.ret ?_))))))
 cases hF
 exact finG [] [] rfl rfl (mv rfl) tv rfl
def l_toPanCallS (a0 : (List PanCall)) : Option ((List PanCall)) :=
 ck (0 ≤ ((a0.length : Nat) : Int) ∧ ((a0.length : Nat) : Int) * 96 ≤ 140737488355328) (loopN (fun i2 (v13 : List PanCall) κ14 => lt (a0.getD i2 default) (fun x16 => (l_toPanCall x16).bind (fun y17 => ix v13 ((i2 : Nat) : Int) (fun _ => lt (v13.set i2 y17) (fun r18 => κ14 r18))))) (fun (v13 : List PanCall) => some v13) a0.length 0 (List.replicate a0.length (({ Client := 0, Call := 0, Op := 0, Disk := 0, Block := 0, Epoch := 0, Data := 0, Begin := 0, End := 0, Over := false, Code := 0, Value := 0 } : PanCall) : PanCall)))
theorem l_toPanCallS_c {t0_0 : Bool} {a0 : (List PanCall)} {r : (List PanCall)} (hF : l_toPanCallS a0 = some r) : Con Tryz.prog 20 [.val false [.u (ul PanCall.c 12 t0_0 a0)]] [] (.val false [.row 0]) [.row 66 r.length 12 (gl PanCall.c r)] := by
 refine Con.of_Dz tabOk Tryz.func20 rfl rfl rfl ?_
 delta l_toPanCallS at hF
 refine Dz.seq (Dz.reg (Dz.seq (Dz.reg ?_)))
 intro hb1; replace hb1 : a0.length ≤ 140737488355328 := hb1
 refine vck hF (fun h => ⟨rfl, h⟩) (fun hk hF => ?_)
 refine Dz.row 0 (List.replicate a0.length (({ Client := 0, Call := 0, Op := 0, Disk := 0, Block := 0, Epoch := 0, Data := 0, Begin := 0, End := 0, Over := false, Code := 0, Value := 0 } : PanCall) : PanCall)).length (gl PanCall.c (List.replicate a0.length (({ Client := 0, Call := 0, Op := 0, Disk := 0, Block := 0, Epoch := 0, Data := 0, Begin := 0, End := 0, Over := false, Code := 0, Value := 0 } : PanCall) : PanCall))) rfl (by simp <;> omega) (EqG.rep' (c := PanCall.c) (sz := 12) _ ⟨lr, lr, lr, lr, lr, lr, lr, lr, lr, lr, lr, lr, tv⟩) ?_
 refine Dz.seq (Dz.seq (Dz.reg (Dz.blk ?_)))
 refine Dz.cnt hF (fun i2 v13 => ([(0, .val false [.u (ul PanCall.c 12 t0_0 a0)]), (3, .val false [.row 0]), (4, vint .i64 ((i2 : Nat) : Int))], [.row 66 v13.length 12 (gl PanCall.c v13)])) (entG [0] ⟨mv rfl, ⟨rfl, rfl, tv⟩, mv rfl, tv⟩ ⟨⟨rfl, o_row⟩, tv⟩ rfl) (fun v13 hF => ?_) (fun i2 v13 κ14 hi0i2 hi1i2 hF => ?_)
 ·refine Dz.seq (Dz.seq (Dz.reg ?_))
  intro hb19; replace hb19 : a0.length ≤ 140737488355328 := hb19
  refine Dz.ff (b := decide (((0 + a0.length : Nat) : Int) < ((a0.length : Nat) : Int))) rfl (decide_eq_false (by omega)) ?_
  refine Dz.exit (Dz.seq (Dz.reg (Dz.ret ?_)))
  cases hF
  exact finG [] [0] rfl rfl (⟨rfl, rfl, tv⟩) ⟨⟨rfl, o_row⟩, tv⟩ rfl
 ·refine Dz.seq (Dz.seq (Dz.reg ?_))
  intro hb15; replace hb15 : a0.length ≤ 140737488355328 := hb15
  refine Dz.tt (b := decide (((i2 : Nat) : Int) < ((a0.length : Nat) : Int))) rfl (decide_eq_true (by omega)) ?_
  refine Dz.skip (Dz.seq (Dz.blk (Dz.reg ?_)))
  refine vge (n := ((i2 : Nat) : Int)) (hi := (a0.length : Int)) (by omega) (by omega) ?_
  have hF := ltE hF
  refine bdE hF (fun y17 hy17 hF => ?_)
  refine callG [] (l_toPanCall_c hy17) ⟨mv rfl, tv⟩ tv rfl ?_
  refine vix hF (fun _ _ hF => ?_)
  refine ltX hF (fun r18 hr18 hF => ?_)
  have hlr18 : r18.length = v13.length := by rw [hr18]; simp <;> omega
  refine Dz.row 0 r18.length (gl PanCall.c r18) rfl (by rw [hr18]; simp <;> omega) (by rw [hr18]; exact (EqG.set' rfl (EqG.refl _ _ _) ⟨lr, lr, lr, lr, lr, lr, lr, lr, lr, lr, lr, lr, tv⟩)) ?_
  refine Dz.reg ?_
  refine vsucc (by omega) ?_
  exact ⟨r18, entG [0] ⟨mv rfl, ⟨rfl, rfl, tv⟩, mv rfl, tv⟩ ⟨⟨rfl, o_row⟩, tv⟩ rfl, hF⟩
def l_toPanWorld (a0 : PanWorld) : Option (PanWorld) :=
 (l_toServerS a0.Servers).bind (fun y1 => (l_toWordS a0.Radio).bind (fun y2 => (l_toPanCallS a0.Calls).bind (fun y3 => some ({ Time := a0.Time, Servers := y1, Radio := y2, Calls := y3 } : PanWorld))))
theorem l_toPanWorld_c {t0_1 t0_2 t0_3 : Bool} {a0 : PanWorld} {r : PanWorld} (hF : l_toPanWorld a0 = some r) : Con Tryz.prog 6 [.val true [.u (cI a0.Time), .u (ul Server.c 36 t0_1 a0.Servers), .u (ul Word.c 26 t0_2 a0.Radio), .u (ul PanCall.c 12 t0_3 a0.Calls)]] [] (.val true [.u (cI r.Time), .row 0, .row 1, .row 2]) [.row 63 r.Servers.length 36 (gl Server.c r.Servers), .row 111 r.Radio.length 26 (gl Word.c r.Radio), .row 66 r.Calls.length 12 (gl PanCall.c r.Calls)] := by
 refine Con.of_Dz tabOk Tryz.func6 rfl rfl rfl ?_
 delta l_toPanWorld at hF
 refine Dz.seq (Dz.reg (Dz.seq (Dz.reg (Dz.seq (Dz.reg (Dz.seq (Dz.reg ?_)))))))
 refine bdE hF (fun y1 hy1 hF => ?_)
 refine callG [] (l_toServerS_c hy1) ⟨mv rfl, tv⟩ tv rfl ?_
 refine Dz.seq (Dz.reg ?_)
 refine bdE hF (fun y2 hy2 hF => ?_)
 refine callG [] (l_toWordS_c hy2) ⟨mv rfl, tv⟩ tv rfl ?_
 refine Dz.seq (Dz.reg ?_)
 refine bdE hF (fun y3 hy3 hF => ?_)
 refine callG [] (l_toPanCallS_c hy3) ⟨mv rfl, tv⟩ tv rfl ?_
 refine Dz.seq (Dz.reg (Dz.ret ?_))
 cases hF
 exact finG [] [3, 4, 5] rfl rfl (⟨rfl, lr, rfl, rfl, rfl, tv⟩) ⟨⟨rfl, o_row⟩, ⟨rfl, o_row⟩, ⟨rfl, o_row⟩, tv⟩ rfl
def i_in (a0 : Int) (a1 : Int) (a2 : Int) : Option (Bool) :=
 cond (decide (a1 ≤ a0)) (some (decide (a0 ≤ a2))) (some false)
theorem i_in_c {a0 : Int} {a1 : Int} {a2 : Int} {r : Bool} (hF : i_in a0 a1 a2 = some r) : Con Tryz.prog 43 [vint .i64 a0, vint .i64 a1, vint .i64 a2] [] (vbool r) [] := by
 refine Con.of_Dz tabOk Tryz.func43 rfl rfl rfl ?_
 delta i_in at hF
 refine Dz.seq (Dz.reg (Dz.seq (Dz.reg ?_)))
 refine vif hF (fun _ hF => ?_) (fun _ hF => ?_)
 ·refine Dz.ret ?_
  cases hF
  exact finG [] [] rfl rfl (mv rfl) tv rfl
 ·refine Dz.ret ?_
  cases hF
  exact finG [] [] rfl rfl (mv rfl) tv rfl
def i_isClient (a0 : Int) : Option (Bool) :=
 (i_in a0 0 3).bind (fun y1 => some y1)
theorem i_isClient_c {a0 : Int} {r : Bool} (hF : i_isClient a0 = some r) : Con Tryz.prog 82 [vint .i64 a0] [] (vbool r) [] := by
 refine Con.of_Dz tabOk Tryz.func82 rfl rfl rfl ?_
 delta i_isClient at hF
 refine Dz.seq (Dz.reg (Dz.seq (Dz.reg ?_)))
 refine bdE hF (fun y1 hy1 hF => ?_)
 refine callG [] (i_in_c hy1) ⟨mv rfl, mv rfl, mv rfl, tv⟩ tv rfl ?_
 refine Dz.ret ?_
 cases hF
 exact finG [] [] rfl rfl (mv rfl) tv rfl
def i_callsOk (a0 : (List PanCall)) (a1 : Int) : Option (Bool) :=
 cond (decide ((10 : Int) < ((a0.length : Nat) : Int))) (some false) (loopN (fun i3 (v32 : Unit) κ33 => lt (a0.getD i3 default) (fun x34 => jn (fun (v36 : Bool) => cond v36 (some false) (jn (fun (v37 : Unit) => jn (fun (v38 : Unit) => ck (0 ≤ ((i3 : Nat) : Int) ∧ ((i3 : Nat) : Int) ≤ (a0.length : Int)) (loopN (fun i40 (v45 : Int) κ46 => ix (a0.take i3) ((i40 : Nat) : Int) (fun x47 => cond (!decide (x47.Client = x34.Client)) (κ46 v45) (cond (!x47.Over) (cond (decide (x47.End = 0)) (some false) (cond (decide (x34.Begin ≤ x47.End)) (some false) (κ46 (w64 (v45 + 1))))) (κ46 (w64 (v45 + 1)))))) (fun (v45 : Int) => cond (!decide (x34.Call = (w64 (v45 + 1)))) (some false) (κ33 ())) i3 0 0)) (fun j48 => cond (!decide (x34.End = 0)) ((i_in x34.End (w64 (x34.Begin + 1)) a1).bind (fun y49 => cond (!y49) (some false) (cond x34.Over (some false) ((i_in x34.Code 0 5).bind (fun y50 => cond (!y50) (some false) ((i_in x34.Value 0 99999).bind (fun y51 => cond (!y51) (some false) (j48 ())))))))) (j48 ()))) (fun j52 => cond (decide (x34.End = 0)) (cond (!decide (x34.Code = 0)) (some false) (cond (!decide (x34.Value = 0)) (some false) (j52 ()))) (j52 ())))) (fun j53 => (i_in x34.Begin 1 a1).bind (fun y54 => cond (!y54) (j53 true) (cond (decide ((0 : Int) < ((i3 : Nat) : Int))) (ix a0 (((i3 : Nat) : Int) - 1) (fun x55 => cond (decide (x34.Begin ≤ x55.Begin)) (j53 true) ((i_isClient x34.Client).bind (fun y56 => cond (!y56) (j53 true) ((i_in x34.Op 1 6).bind (fun y57 => cond (!y57) (j53 true) ((i_in x34.Disk 0 99999).bind (fun y58 => cond (!y58) (j53 true) ((i_in x34.Block 0 99999).bind (fun y59 => cond (!y59) (j53 true) ((i_in x34.Epoch 0 99999).bind (fun y60 => cond (!y60) (j53 true) ((i_in x34.Data 0 99999).bind (fun y61 => j53 (!y61))))))))))))))) ((i_isClient x34.Client).bind (fun y62 => cond (!y62) (j53 true) ((i_in x34.Op 1 6).bind (fun y63 => cond (!y63) (j53 true) ((i_in x34.Disk 0 99999).bind (fun y64 => cond (!y64) (j53 true) ((i_in x34.Block 0 99999).bind (fun y65 => cond (!y65) (j53 true) ((i_in x34.Epoch 0 99999).bind (fun y66 => cond (!y66) (j53 true) ((i_in x34.Data 0 99999).bind (fun y67 => j53 (!y67)))))))))))))))))) (fun (v32 : Unit) => some true) a0.length 0 ())
theorem i_callsOk_c {t0_0 : Bool} {a0 : (List PanCall)} {a1 : Int} {r : Bool} (hF : i_callsOk a0 a1 = some r) : Con Tryz.prog 44 [.val false [.u (ul PanCall.c 12 t0_0 a0)], vint .i64 a1] [] (vbool r) [] := by
 refine Con.of_Dz tabOk Tryz.func44 rfl rfl rfl ?_
 delta i_callsOk at hF
 refine Dz.seq (Dz.reg (Dz.seq (Dz.seq (Dz.reg ?_))))
 intro hb1; replace hb1 : a0.length ≤ 140737488355328 := hb1
 refine Dz.ite rfl hF (fun _ hF => ?_) (fun _ hF => ?_)
 ·refine Dz.seq (Dz.reg (Dz.ret ?_))
  cases hF
  exact finG [] [] rfl rfl (mv rfl) tv rfl
 ·refine Dz.skip (Dz.seq (Dz.seq (Dz.reg ?_)))
  intro hb2; replace hb2 : a0.length ≤ 140737488355328 := hb2
  refine Dz.blk ?_
  refine Dz.cnt hF (fun i3 v32 => ([(0, .val false [.u (ul PanCall.c 12 t0_0 a0)]), (1, vint .i64 a1), (13, .val false [.u (ul PanCall.c 12 t0_0 a0)]), (14, vint .i64 ((a0.length : Nat) : Int)), (15, vint .i64 ((i3 : Nat) : Int))], [])) (entG [] ⟨mv rfl, mv rfl, mv rfl, mv rfl, mv rfl, tv⟩ tv rfl) (fun v32 hF => ?_) (fun i3 v32 κ33 hi0i3 hi1i3 hF => ?_)
  ·refine Dz.seq (Dz.reg (Dz.seq ?_))
   refine Dz.ff (b := decide (((0 + a0.length : Nat) : Int) < ((a0.length : Nat) : Int))) rfl (decide_eq_false (by omega)) ?_
   refine Dz.exit (Dz.seq (Dz.reg (Dz.ret ?_)))
   cases hF
   exact finG [] [] rfl rfl (mv rfl) tv rfl
  ·refine Dz.seq (Dz.reg (Dz.seq ?_))
   refine Dz.tt (b := decide (((i3 : Nat) : Int) < ((a0.length : Nat) : Int))) rfl (decide_eq_true (by omega)) ?_
   refine Dz.skip (Dz.seq (Dz.blk (Dz.seq (Dz.reg ?_))))
   refine vge (n := ((i3 : Nat) : Int)) (hi := (a0.length : Int)) (by omega) (by omega) ?_
   have hF := ltE hF
   refine Dz.seq ?_
   refine Dz.jn hF (fun v36 => ([(0, .val false [.u (ul PanCall.c 12 t0_0 a0)]), (1, vint .i64 a1), (5, vint .i64 ((i3 : Nat) : Int)), (6, .ptr 0 0), (13, .val false [.u (ul PanCall.c 12 t0_0 a0)]), (14, vint .i64 ((a0.length : Nat) : Int)), (15, vint .i64 ((i3 : Nat) : Int)), (75, vbool v36)], [.box 66 (PanCall.L (a0.getD i3 default))])) (fun v36 hF => ?_) (fun hF => ?_)
   ·refine Dz.ite rfl hF (fun _ hF => ?_) (fun _ hF => ?_)
    ·refine Dz.seq (Dz.reg (Dz.ret ?_))
     cases hF
     exact finG [] [] rfl rfl (mv rfl) tv rfl
    ·refine Dz.skip ?_
     refine Dz.jn hF (fun v37 => ([(0, .val false [.u (ul PanCall.c 12 t0_0 a0)]), (1, vint .i64 a1), (5, vint .i64 ((i3 : Nat) : Int)), (6, .ptr 0 0), (13, .val false [.u (ul PanCall.c 12 t0_0 a0)]), (14, vint .i64 ((a0.length : Nat) : Int)), (15, vint .i64 ((i3 : Nat) : Int))], [.box 66 (PanCall.L (a0.getD i3 default))])) (fun v37 hF => ?_) (fun hF => ?_)
     ·refine Dz.jn hF (fun v38 => ([(0, .val false [.u (ul PanCall.c 12 t0_0 a0)]), (1, vint .i64 a1), (5, vint .i64 ((i3 : Nat) : Int)), (6, .ptr 0 0), (13, .val false [.u (ul PanCall.c 12 t0_0 a0)]), (14, vint .i64 ((a0.length : Nat) : Int)), (15, vint .i64 ((i3 : Nat) : Int))], [.box 66 (PanCall.L (a0.getD i3 default))])) (fun v38 hF => ?_) (fun hF => ?_)
      ·refine Dz.seq (Dz.reg (Dz.seq (Dz.seq (Dz.reg ?_))))
       refine vck hF id (fun _ hF => ?_)
       intro hb39; replace hb39 : i3 ≤ 140737488355328 := hb39
       refine Dz.slotLe 120 (ul PanCall.c 12 t0_0 (a0.take i3)) rfl (LeU.cut (by simp <;> omega) (EqG.take _)) ?_
       refine Dz.blk ?_
       refine Dz.cnt hF (fun i40 v45 => ([(0, .val false [.u (ul PanCall.c 12 t0_0 a0)]), (1, vint .i64 a1), (6, .ptr 0 0), (7, vint .i64 v45), (13, .val false [.u (ul PanCall.c 12 t0_0 a0)]), (14, vint .i64 ((a0.length : Nat) : Int)), (15, vint .i64 ((i3 : Nat) : Int)), (120, .val false [.u (ul PanCall.c 12 t0_0 (a0.take i3))]), (121, vint .i64 ((i3 : Nat) : Int)), (122, vint .i64 ((i40 : Nat) : Int))], [.box 66 (PanCall.L (a0.getD i3 default))])) (entG [0] ⟨mv rfl, mv rfl, mp rfl, mv rfl, mv rfl, mv rfl, mv rfl, mv rfl, mv rfl, mv rfl, tv⟩ ⟨⟨rfl, o_box rfl⟩, tv⟩ rfl) (fun v45 hF => ?_) (fun i40 v45 κ46 hi0i40 hi1i40 hF => ?_)
       ·refine Dz.seq (Dz.reg (Dz.seq ?_))
        refine Dz.ff (b := decide (((0 + i3 : Nat) : Int) < ((i3 : Nat) : Int))) rfl (decide_eq_false (by omega)) ?_
        refine Dz.exit (Dz.seq (Dz.reg (vw64 ?_)))
        refine Dz.ite rfl hF (fun _ hF => ?_) (fun _ hF => ?_)
        ·refine Dz.seq (Dz.reg (Dz.ret ?_))
         cases hF
         exact finG [] [] rfl rfl (mv rfl) tv rfl
        ·refine Dz.skip (Dz.reg ?_)
         refine vsucc (by omega) ?_
         exact ⟨(), entG [] ⟨mv rfl, mv rfl, mv rfl, mv rfl, mv rfl, tv⟩ tv rfl, hF⟩
       ·refine Dz.seq (Dz.reg (Dz.seq ?_))
        refine Dz.tt (b := decide (((i40 : Nat) : Int) < ((i3 : Nat) : Int))) rfl (decide_eq_true (by omega)) ?_
        refine Dz.skip (Dz.seq (Dz.blk (Dz.seq (Dz.reg ?_))))
        refine vix hF (fun _ _ hF => ?_)
        refine Dz.seq (Dz.seq (Dz.reg ?_))
        refine Dz.ite rfl hF (fun _ hF => ?_) (fun _ hF => ?_)
        ·refine Dz.exit (Dz.reg ?_)
         refine vsucc (by omega) ?_
         exact ⟨v45, entG [0] ⟨mv rfl, mv rfl, mp rfl, mv rfl, mv rfl, mv rfl, mv rfl, mv rfl, mv rfl, mv rfl, tv⟩ ⟨⟨rfl, o_box rfl⟩, tv⟩ rfl, hF⟩
        ·refine Dz.skip (Dz.seq (Dz.reg (vw64 (Dz.seq (Dz.reg ?_)))))
         refine vif hF (fun _ hF => ?_) (fun _ hF => ?_)
         ·refine vif hF (fun _ hF => ?_) (fun _ hF => ?_)
          ·refine Dz.tt (b := true) rfl rfl ?_
           refine Dz.seq (Dz.reg (Dz.ret ?_))
           cases hF
           exact finG [] [] rfl rfl (mv rfl) tv rfl
          ·refine Dz.ite rfl hF (fun _ hF => ?_) (fun _ hF => ?_)
           ·refine Dz.seq (Dz.reg (Dz.ret ?_))
            cases hF
            exact finG [] [] rfl rfl (mv rfl) tv rfl
           ·refine Dz.skip (Dz.reg ?_)
            refine vsucc (by omega) ?_
            exact ⟨(w64 (v45 + 1)), entG [0] ⟨mv rfl, mv rfl, mp rfl, mv rfl, mv rfl, mv rfl, mv rfl, mv rfl, mv rfl, mv rfl, tv⟩ ⟨⟨rfl, o_box rfl⟩, tv⟩ rfl, hF⟩
         ·refine Dz.ff (b := false) rfl rfl ?_
          refine Dz.skip (Dz.reg ?_)
          refine vsucc (by omega) ?_
          exact ⟨(w64 (v45 + 1)), entG [0] ⟨mv rfl, mv rfl, mp rfl, mv rfl, mv rfl, mv rfl, mv rfl, mv rfl, mv rfl, mv rfl, tv⟩ ⟨⟨rfl, o_box rfl⟩, tv⟩ rfl, hF⟩
      ·refine Dz.seq (Dz.reg ?_)
       refine vif hF (fun _ hF => ?_) (fun _ hF => ?_)
       ·refine vw64 ?_
        refine bdE hF (fun y49 hy49 hF => ?_)
        refine callG [] (i_in_c hy49) ⟨mv rfl, mv rfl, mv rfl, tv⟩ tv rfl ?_
        refine vif hF (fun _ hF => ?_) (fun _ hF => ?_)
        ·refine Dz.tt (b := true) rfl rfl ?_
         refine Dz.seq (Dz.reg (Dz.ret ?_))
         cases hF
         exact finG [] [] rfl rfl (mv rfl) tv rfl
        ·refine vif hF (fun _ hF => ?_) (fun _ hF => ?_)
         ·refine Dz.tt (b := true) rfl rfl ?_
          refine Dz.seq (Dz.reg (Dz.ret ?_))
          cases hF
          exact finG [] [] rfl rfl (mv rfl) tv rfl
         ·refine bdE hF (fun y50 hy50 hF => ?_)
          refine callG [] (i_in_c hy50) ⟨mv rfl, mv rfl, mv rfl, tv⟩ tv rfl ?_
          refine vif hF (fun _ hF => ?_) (fun _ hF => ?_)
          ·refine Dz.tt (b := true) rfl rfl ?_
           refine Dz.seq (Dz.reg (Dz.ret ?_))
           cases hF
           exact finG [] [] rfl rfl (mv rfl) tv rfl
          ·refine bdE hF (fun y51 hy51 hF => ?_)
           refine callG [] (i_in_c hy51) ⟨mv rfl, mv rfl, mv rfl, tv⟩ tv rfl ?_
           refine Dz.ite rfl hF (fun _ hF => ?_) (fun _ hF => ?_)
           ·refine Dz.seq (Dz.reg (Dz.ret ?_))
            cases hF
            exact finG [] [] rfl rfl (mv rfl) tv rfl
           ·refine Dz.skip ?_
            exact ⟨(), entG [0] ⟨mv rfl, mv rfl, mv rfl, mp rfl, mv rfl, mv rfl, mv rfl, tv⟩ ⟨⟨rfl, o_box rfl⟩, tv⟩ rfl, hF⟩
       ·refine Dz.ff (b := false) rfl rfl ?_
        refine Dz.skip ?_
        exact ⟨(), entG [0] ⟨mv rfl, mv rfl, mv rfl, mp rfl, mv rfl, mv rfl, mv rfl, tv⟩ ⟨⟨rfl, o_box rfl⟩, tv⟩ rfl, hF⟩
     ·refine Dz.seq (Dz.reg ?_)
      refine vif hF (fun _ hF => ?_) (fun _ hF => ?_)
      ·refine vif hF (fun _ hF => ?_) (fun _ hF => ?_)
       ·refine Dz.tt (b := true) rfl rfl ?_
        refine Dz.seq (Dz.reg (Dz.ret ?_))
        cases hF
        exact finG [] [] rfl rfl (mv rfl) tv rfl
       ·refine Dz.ite rfl hF (fun _ hF => ?_) (fun _ hF => ?_)
        ·refine Dz.seq (Dz.reg (Dz.ret ?_))
         cases hF
         exact finG [] [] rfl rfl (mv rfl) tv rfl
        ·refine Dz.skip ?_
         exact ⟨(), entG [0] ⟨mv rfl, mv rfl, mv rfl, mp rfl, mv rfl, mv rfl, mv rfl, tv⟩ ⟨⟨rfl, o_box rfl⟩, tv⟩ rfl, hF⟩
      ·refine Dz.ff (b := false) rfl rfl ?_
       refine Dz.skip ?_
       exact ⟨(), entG [0] ⟨mv rfl, mv rfl, mv rfl, mp rfl, mv rfl, mv rfl, mv rfl, tv⟩ ⟨⟨rfl, o_box rfl⟩, tv⟩ rfl, hF⟩
   ·refine Dz.drw 1 [⟨[22], [], 1, 1⟩, ⟨[22], [0], 1, 1⟩, ⟨[20,21], [], 1, 1⟩, ⟨[], [], 1, 1⟩, ⟨[], [], 1, 1⟩, ⟨[], [], 1, 1⟩, ⟨[], [], 1, 1⟩, ⟨[], [], 1, 1⟩, ⟨[], [], 1, 1⟩, ⟨[30,31,35,36], [], 1, 1⟩, ⟨[29,35,36], [], 1, 1⟩, ⟨[29,35,36], [], 1, 1⟩, ⟨[35,36], [], 1, 1⟩, ⟨[35,36], [], 1, 1⟩, ⟨[35,36], [], 1, 1⟩, ⟨[29,30,31,32,33,34], [], 1, 1⟩, ⟨[29,30,31,32,33,34], [0], 1, 1⟩, ⟨[], [], 1, 1⟩, ⟨[], [], 1, 1⟩, ⟨[], [], 1, 1⟩, ⟨[], [], 1, 1⟩, ⟨[], [], 1, 1⟩, ⟨[], [0], 1, 1⟩, ⟨[], [], 1, 1⟩, ⟨[], [], 1, 1⟩, ⟨[], [], 1, 1⟩, ⟨[], [], 1, 1⟩, ⟨[], [], 1, 1⟩, ⟨[], [0], 1, 1⟩, ⟨[], [], 1, 1⟩, ⟨[], [], 1, 1⟩, ⟨[], [], 1, 1⟩, ⟨[], [], 1, 1⟩, ⟨[], [], 1, 1⟩, ⟨[], [0], 1, 1⟩, ⟨[], [], 1, 1⟩, ⟨[], [], 1, 1⟩, ⟨[], [], 1, 1⟩, ⟨[], [], 1, 1⟩, ⟨[], [], 1, 1⟩, ⟨[], [0], 1, 1⟩, ⟨[], [], 1, 1⟩, ⟨[], [], 1, 1⟩, ⟨[], [], 1, 1⟩, ⟨[], [], 1, 1⟩, ⟨[], [], 1, 1⟩, ⟨[], [0], 1, 1⟩, ⟨[], [], 1, 1⟩, ⟨[], [], 1, 1⟩, ⟨[], [], 1, 1⟩, ⟨[], [], 1, 1⟩, ⟨[], [], 1, 1⟩, ⟨[], [0], 1, 1⟩, ⟨[], [], 1, 1⟩, ⟨[], [], 1, 1⟩, ⟨[], [], 1, 1⟩] ⟨by kernel_rfl, by kernel_rfl, rfl⟩ ?_
    refine bdE hF (fun y54 hy54 hF => ?_)
    refine callG [] (i_in_c hy54) ⟨mv rfl, mv rfl, mv rfl, tv⟩ tv rfl ?_
    refine vif hF (fun _ hF => ?_) (fun _ hF => ?_)
    ·exact ⟨true, entG [0] ⟨mv rfl, mv rfl, mv rfl, mp rfl, mv rfl, mv rfl, mv rfl, mv rfl, tv⟩ ⟨⟨rfl, o_box rfl⟩, tv⟩ rfl, hF⟩
    ·refine vif hF (fun _ hF => ?_) (fun _ hF => ?_)
     ·refine ⟨(((i3 : Nat) : Int) - 1), wrap64 (by omega) (by omega), ?_⟩
      refine vix hF (fun _ _ hF => ?_)
      refine vif hF (fun _ hF => ?_) (fun _ hF => ?_)
      ·exact ⟨true, entG [0] ⟨mv rfl, mv rfl, mv rfl, mp rfl, mv rfl, mv rfl, mv rfl, mv rfl, tv⟩ ⟨⟨rfl, o_box rfl⟩, tv⟩ rfl, hF⟩
      ·refine bdE hF (fun y56 hy56 hF => ?_)
       refine callG [] (i_isClient_c hy56) ⟨mv rfl, tv⟩ tv rfl ?_
       refine vif hF (fun _ hF => ?_) (fun _ hF => ?_)
       ·exact ⟨true, entG [0] ⟨mv rfl, mv rfl, mv rfl, mp rfl, mv rfl, mv rfl, mv rfl, mv rfl, tv⟩ ⟨⟨rfl, o_box rfl⟩, tv⟩ rfl, hF⟩
       ·refine bdE hF (fun y57 hy57 hF => ?_)
        refine callG [] (i_in_c hy57) ⟨mv rfl, mv rfl, mv rfl, tv⟩ tv rfl ?_
        refine vif hF (fun _ hF => ?_) (fun _ hF => ?_)
        ·exact ⟨true, entG [0] ⟨mv rfl, mv rfl, mv rfl, mp rfl, mv rfl, mv rfl, mv rfl, mv rfl, tv⟩ ⟨⟨rfl, o_box rfl⟩, tv⟩ rfl, hF⟩
        ·refine bdE hF (fun y58 hy58 hF => ?_)
         refine callG [] (i_in_c hy58) ⟨mv rfl, mv rfl, mv rfl, tv⟩ tv rfl ?_
         refine vif hF (fun _ hF => ?_) (fun _ hF => ?_)
         ·exact ⟨true, entG [0] ⟨mv rfl, mv rfl, mv rfl, mp rfl, mv rfl, mv rfl, mv rfl, mv rfl, tv⟩ ⟨⟨rfl, o_box rfl⟩, tv⟩ rfl, hF⟩
         ·refine bdE hF (fun y59 hy59 hF => ?_)
          refine callG [] (i_in_c hy59) ⟨mv rfl, mv rfl, mv rfl, tv⟩ tv rfl ?_
          refine vif hF (fun _ hF => ?_) (fun _ hF => ?_)
          ·exact ⟨true, entG [0] ⟨mv rfl, mv rfl, mv rfl, mp rfl, mv rfl, mv rfl, mv rfl, mv rfl, tv⟩ ⟨⟨rfl, o_box rfl⟩, tv⟩ rfl, hF⟩
          ·refine bdE hF (fun y60 hy60 hF => ?_)
           refine callG [] (i_in_c hy60) ⟨mv rfl, mv rfl, mv rfl, tv⟩ tv rfl ?_
           refine vif hF (fun _ hF => ?_) (fun _ hF => ?_)
           ·exact ⟨true, entG [0] ⟨mv rfl, mv rfl, mv rfl, mp rfl, mv rfl, mv rfl, mv rfl, mv rfl, tv⟩ ⟨⟨rfl, o_box rfl⟩, tv⟩ rfl, hF⟩
           ·refine bdE hF (fun y61 hy61 hF => ?_)
            refine callG [] (i_in_c hy61) ⟨mv rfl, mv rfl, mv rfl, tv⟩ tv rfl ?_
            exact ⟨(!y61), entG [0] ⟨mv rfl, mv rfl, mv rfl, mp rfl, mv rfl, mv rfl, mv rfl, mv rfl, tv⟩ ⟨⟨rfl, o_box rfl⟩, tv⟩ rfl, hF⟩
     ·refine bdE hF (fun y62 hy62 hF => ?_)
      refine callG [] (i_isClient_c hy62) ⟨mv rfl, tv⟩ tv rfl ?_
      refine vif hF (fun _ hF => ?_) (fun _ hF => ?_)
      ·exact ⟨true, entG [0] ⟨mv rfl, mv rfl, mv rfl, mp rfl, mv rfl, mv rfl, mv rfl, mv rfl, tv⟩ ⟨⟨rfl, o_box rfl⟩, tv⟩ rfl, hF⟩
      ·refine bdE hF (fun y63 hy63 hF => ?_)
       refine callG [] (i_in_c hy63) ⟨mv rfl, mv rfl, mv rfl, tv⟩ tv rfl ?_
       refine vif hF (fun _ hF => ?_) (fun _ hF => ?_)
       ·exact ⟨true, entG [0] ⟨mv rfl, mv rfl, mv rfl, mp rfl, mv rfl, mv rfl, mv rfl, mv rfl, tv⟩ ⟨⟨rfl, o_box rfl⟩, tv⟩ rfl, hF⟩
       ·refine bdE hF (fun y64 hy64 hF => ?_)
        refine callG [] (i_in_c hy64) ⟨mv rfl, mv rfl, mv rfl, tv⟩ tv rfl ?_
        refine vif hF (fun _ hF => ?_) (fun _ hF => ?_)
        ·exact ⟨true, entG [0] ⟨mv rfl, mv rfl, mv rfl, mp rfl, mv rfl, mv rfl, mv rfl, mv rfl, tv⟩ ⟨⟨rfl, o_box rfl⟩, tv⟩ rfl, hF⟩
        ·refine bdE hF (fun y65 hy65 hF => ?_)
         refine callG [] (i_in_c hy65) ⟨mv rfl, mv rfl, mv rfl, tv⟩ tv rfl ?_
         refine vif hF (fun _ hF => ?_) (fun _ hF => ?_)
         ·exact ⟨true, entG [0] ⟨mv rfl, mv rfl, mv rfl, mp rfl, mv rfl, mv rfl, mv rfl, mv rfl, tv⟩ ⟨⟨rfl, o_box rfl⟩, tv⟩ rfl, hF⟩
         ·refine bdE hF (fun y66 hy66 hF => ?_)
          refine callG [] (i_in_c hy66) ⟨mv rfl, mv rfl, mv rfl, tv⟩ tv rfl ?_
          refine vif hF (fun _ hF => ?_) (fun _ hF => ?_)
          ·exact ⟨true, entG [0] ⟨mv rfl, mv rfl, mv rfl, mp rfl, mv rfl, mv rfl, mv rfl, mv rfl, tv⟩ ⟨⟨rfl, o_box rfl⟩, tv⟩ rfl, hF⟩
          ·refine bdE hF (fun y67 hy67 hF => ?_)
           refine callG [] (i_in_c hy67) ⟨mv rfl, mv rfl, mv rfl, tv⟩ tv rfl ?_
           exact ⟨(!y67), entG [0] ⟨mv rfl, mv rfl, mv rfl, mp rfl, mv rfl, mv rfl, mv rfl, mv rfl, tv⟩ ⟨⟨rfl, o_box rfl⟩, tv⟩ rfl, hF⟩
def i_isServer (a0 : Int) : Option (Bool) :=
 (i_in a0 0 4).bind (fun y1 => some y1)
theorem i_isServer_c {a0 : Int} {r : Bool} (hF : i_isServer a0 = some r) : Con Tryz.prog 83 [vint .i64 a0] [] (vbool r) [] := by
 refine Con.of_Dz tabOk Tryz.func83 rfl rfl rfl ?_
 delta i_isServer at hF
 refine Dz.seq (Dz.reg (Dz.seq (Dz.reg ?_)))
 refine bdE hF (fun y1 hy1 hF => ?_)
 refine callG [] (i_in_c hy1) ⟨mv rfl, mv rfl, mv rfl, tv⟩ tv rfl ?_
 refine Dz.ret ?_
 cases hF
 exact finG [] [] rfl rfl (mv rfl) tv rfl
def i_numbersOk (a0 : (List Int)) : Option (Bool) :=
 loopN (fun i2 (v4 : Unit) κ5 => (i_in (a0.getD i2 default) (-1) 99999).bind (fun y6 => cond (!y6) (some false) (κ5 ()))) (fun (v4 : Unit) => some true) a0.length 0 ()
theorem i_numbersOk_c {t0_0 : Bool} {a0 : (List Int)} {r : Bool} (hF : i_numbersOk a0 = some r) : Con Tryz.prog 93 [.val false [.u (ul cInt 1 t0_0 a0)]] [] (vbool r) [] := by
 refine Con.of_Dz tabOk Tryz.func93 rfl rfl rfl ?_
 delta i_numbersOk at hF
 refine Dz.seq (Dz.reg (Dz.seq (Dz.seq (Dz.reg ?_))))
 intro hb1; replace hb1 : a0.length ≤ 140737488355328 := hb1
 refine Dz.blk ?_
 refine Dz.cnt hF (fun i2 v4 => ([(5, .val false [.u (ul cInt 1 t0_0 a0)]), (6, vint .i64 ((a0.length : Nat) : Int)), (7, vint .i64 ((i2 : Nat) : Int))], [])) (entG [] ⟨mv rfl, mv rfl, mv rfl, tv⟩ tv rfl) (fun v4 hF => ?_) (fun i2 v4 κ5 hi0i2 hi1i2 hF => ?_)
 ·refine Dz.seq (Dz.reg (Dz.seq ?_))
  refine Dz.ff (b := decide (((0 + a0.length : Nat) : Int) < ((a0.length : Nat) : Int))) rfl (decide_eq_false (by omega)) ?_
  refine Dz.exit (Dz.seq (Dz.reg (Dz.ret ?_)))
  cases hF
  exact finG [] [] rfl rfl (mv rfl) tv rfl
 ·refine Dz.seq (Dz.reg (Dz.seq ?_))
  refine Dz.tt (b := decide (((i2 : Nat) : Int) < ((a0.length : Nat) : Int))) rfl (decide_eq_true (by omega)) ?_
  refine Dz.skip (Dz.seq (Dz.blk (Dz.seq (Dz.reg ?_))))
  refine vge (n := ((i2 : Nat) : Int)) (hi := (a0.length : Int)) (by omega) (by omega) ?_
  refine Dz.seq (Dz.reg ?_)
  refine bdE hF (fun y6 hy6 hF => ?_)
  refine callG [] (i_in_c hy6) ⟨mv rfl, mv rfl, mv rfl, tv⟩ tv rfl ?_
  refine Dz.ite rfl hF (fun _ hF => ?_) (fun _ hF => ?_)
  ·refine Dz.seq (Dz.reg (Dz.ret ?_))
   cases hF
   exact finG [] [] rfl rfl (mv rfl) tv rfl
  ·refine Dz.skip (Dz.reg ?_)
   refine vsucc (by omega) ?_
   exact ⟨(), entG [] ⟨mv rfl, mv rfl, mv rfl, tv⟩ tv rfl, hF⟩
def i_cmdNumbers (a0 : Cmd) : Option ((List Int)) :=
 some ([a0.Kind, a0.Client, a0.Call, a0.Disk, a0.Arg, a0.Epoch, a0.Range, a0.Num, a0.A, a0.B] : List Int)
theorem i_cmdNumbers_c {a0 : Cmd} {r : (List Int)} (hF : i_cmdNumbers a0 = some r) : Con Tryz.prog 131 [.val true (Cmd.L a0)] [] (.val false [.row 0]) [.row 3 r.length 1 (gl cInt r)] := by
 refine Con.of_Dz tabOk Tryz.func131 rfl rfl rfl ?_
 delta i_cmdNumbers at hF
 refine Dz.seq (Dz.reg (Dz.seq (Dz.reg (Dz.ret ?_))))
 cases hF
 exact finG [] [1] rfl rfl (⟨rfl, rfl, tv⟩) ⟨⟨rfl, o_rowE (by simp <;> omega) (EqG.lit (c := cInt) (sz := 1) (L := ([a0.Kind, a0.Client, a0.Call, a0.Disk, a0.Arg, a0.Epoch, a0.Range, a0.Num, a0.A, a0.B] : List Int)) ⟨lr, lr, lr, lr, lr, lr, lr, lr, lr, lr, tv⟩)⟩, tv⟩ rfl
def i_cmdOk (a0 : Cmd) : Option (Bool) :=
 (i_in a0.Kind 0 7).bind (fun y1 => cond y1 ((i_cmdNumbers a0).bind (fun y2 => (i_numbersOk y2).bind (fun y3 => some y3))) (some false))
theorem i_cmdOk_c {a0 : Cmd} {r : Bool} (hF : i_cmdOk a0 = some r) : Con Tryz.prog 90 [.val true (Cmd.L a0)] [] (vbool r) [] := by
 refine Con.of_Dz tabOk Tryz.func90 rfl rfl rfl ?_
 delta i_cmdOk at hF
 refine Dz.seq (Dz.reg (Dz.seq (Dz.reg ?_)))
 refine bdE hF (fun y1 hy1 hF => ?_)
 refine callG [] (i_in_c hy1) ⟨mv rfl, mv rfl, mv rfl, tv⟩ tv rfl ?_
 refine vif hF (fun _ hF => ?_) (fun _ hF => ?_)
 ·refine bdE hF (fun y2 hy2 hF => ?_)
  refine callG [] (i_cmdNumbers_c hy2) ⟨mv rfl, tv⟩ tv rfl ?_
  refine bdE hF (fun y3 hy3 hF => ?_)
  refine callL [] (i_numbersOk_c hy3) ⟨⟨rfl, ⟨rfl, rfl, lr⟩, tv⟩, tv⟩ tv rfl ⟨⟨tv, tv⟩, tv⟩ ?_
  refine Dz.ret ?_
  cases hF
  exact finG [] [] rfl rfl (mv rfl) tv rfl
 ·refine Dz.ret ?_
  cases hF
  exact finG [] [] rfl rfl (mv rfl) tv rfl
def i_paperOk (a0 : SynPaper) : Option (Bool) :=
 (i_in a0.Slot 1 60).bind (fun y1 => cond y1 ((i_in a0.Ballot 1 99999).bind (fun y2 => cond y2 ((i_cmdOk a0.Cmd).bind (fun y3 => some y3)) (some false))) (some false))
theorem i_paperOk_c {a0 : SynPaper} {r : Bool} (hF : i_paperOk a0 = some r) : Con Tryz.prog 128 [.val true (SynPaper.L a0)] [] (vbool r) [] := by
 refine Con.of_Dz tabOk Tryz.func128 rfl rfl rfl ?_
 delta i_paperOk at hF
 refine Dz.seq (Dz.reg (Dz.seq (Dz.reg ?_)))
 refine bdE hF (fun y1 hy1 hF => ?_)
 refine callG [] (i_in_c hy1) ⟨mv rfl, mv rfl, mv rfl, tv⟩ tv rfl ?_
 refine vif hF (fun _ hF => ?_) (fun _ hF => ?_)
 ·refine bdE hF (fun y2 hy2 hF => ?_)
  refine callG [] (i_in_c hy2) ⟨mv rfl, mv rfl, mv rfl, tv⟩ tv rfl ?_
  refine vif hF (fun _ hF => ?_) (fun _ hF => ?_)
  ·refine bdE hF (fun y3 hy3 hF => ?_)
   refine callG [] (i_cmdOk_c hy3) ⟨mv rfl, tv⟩ tv rfl ?_
   refine Dz.ret ?_
   cases hF
   exact finG [] [] rfl rfl (mv rfl) tv rfl
  ·refine Dz.ret ?_
   cases hF
   exact finG [] [] rfl rfl (mv rfl) tv rfl
 ·refine Dz.ret ?_
  cases hF
  exact finG [] [] rfl rfl (mv rfl) tv rfl
def i_SynVoterOk (a0 : SynVoter) : Option (Bool) :=
 loopN (fun i2 (v6 : Unit) κ7 => lt (a0.Papers.getD i2 default) (fun x8 => (i_paperOk x8).bind (fun y9 => cond (!y9) (some false) (cond (decide (a0.Promised < x8.Ballot)) (some false) (cond (decide ((0 : Int) < ((i2 : Nat) : Int))) (ix a0.Papers (((i2 : Nat) : Int) - 1) (fun x10 => cond (decide (x8.Slot ≤ x10.Slot)) (some false) (κ7 ()))) (κ7 ())))))) (fun (v6 : Unit) => (i_in a0.Promised 0 99999).bind (fun y11 => cond y11 (some (decide (((a0.Papers.length : Nat) : Int) ≤ 60))) (some false))) a0.Papers.length 0 ()
theorem i_SynVoterOk_c {t0_1 : Bool} {a0 : SynVoter} {r : Bool} (hF : i_SynVoterOk a0 = some r) : Con Tryz.prog 84 [.val true [.u (cI a0.Promised), .u (ul SynPaper.c 12 t0_1 a0.Papers)]] [] (vbool r) [] := by
 refine Con.of_Dz tabOk Tryz.func84 rfl rfl rfl ?_
 delta i_SynVoterOk at hF
 refine Dz.seq (Dz.reg (Dz.seq (Dz.seq (Dz.reg ?_))))
 intro hb1; replace hb1 : a0.Papers.length ≤ 140737488355328 := hb1
 refine Dz.blk ?_
 refine Dz.cnt hF (fun i2 v6 => ([(1, .ptr 0 0), (6, .val false [.u (ul SynPaper.c 12 t0_1 a0.Papers)]), (7, vint .i64 ((a0.Papers.length : Nat) : Int)), (8, vint .i64 ((i2 : Nat) : Int))], [.box 51 [.u (cI a0.Promised), .u (ul SynPaper.c 12 t0_1 a0.Papers)]])) (entG [0] ⟨mp rfl, mv rfl, mv rfl, mv rfl, tv⟩ ⟨⟨rfl, o_box rfl⟩, tv⟩ rfl) (fun v6 hF => ?_) (fun i2 v6 κ7 hi0i2 hi1i2 hF => ?_)
 ·refine Dz.seq (Dz.reg (Dz.seq ?_))
  refine Dz.ff (b := decide (((0 + a0.Papers.length : Nat) : Int) < ((a0.Papers.length : Nat) : Int))) rfl (decide_eq_false (by omega)) ?_
  refine Dz.exit (Dz.seq (Dz.reg ?_))
  refine bdE hF (fun y11 hy11 hF => ?_)
  refine callG [] (i_in_c hy11) ⟨mv rfl, mv rfl, mv rfl, tv⟩ tv rfl ?_
  refine vif hF (fun _ hF => ?_) (fun _ hF => ?_)
  ·intro hb12; replace hb12 : a0.Papers.length ≤ 140737488355328 := hb12
   refine Dz.ret ?_
   cases hF
   exact finG [] [] rfl rfl (mv rfl) tv rfl
  ·refine Dz.ret ?_
   cases hF
   exact finG [] [] rfl rfl (mv rfl) tv rfl
 ·refine Dz.seq (Dz.reg (Dz.seq ?_))
  refine Dz.tt (b := decide (((i2 : Nat) : Int) < ((a0.Papers.length : Nat) : Int))) rfl (decide_eq_true (by omega)) ?_
  refine Dz.skip (Dz.seq (Dz.blk (Dz.seq (Dz.reg ?_))))
  refine vge (n := ((i2 : Nat) : Int)) (hi := (a0.Papers.length : Int)) (by omega) (by omega) ?_
  have hF := ltE hF
  refine Dz.seq ?_
  refine Dz.drw 2 [⟨[], [1], 2, 2⟩, ⟨[], [], 2, 2⟩, ⟨[], [], 2, 2⟩, ⟨[], [], 2, 2⟩, ⟨[19,20], [], 2, 2⟩, ⟨[19,20], [1], 2, 2⟩, ⟨[17,18], [], 2, 2⟩, ⟨[17,18], [0], 2, 2⟩, ⟨[], [], 2, 2⟩, ⟨[], [], 2, 2⟩, ⟨[], [], 2, 2⟩, ⟨[], [], 2, 2⟩, ⟨[], [], 2, 2⟩, ⟨[], [], 2, 2⟩, ⟨[29,30,34,35], [], 2, 2⟩, ⟨[29,30,34,35], [0], 2, 2⟩, ⟨[27,28,34,35], [], 2, 2⟩, ⟨[27,28,34,35], [], 2, 2⟩, ⟨[34,35], [], 2, 2⟩, ⟨[34,35], [], 2, 2⟩, ⟨[34,35], [], 2, 2⟩, ⟨[27,28,29,30,31,32,33], [], 2, 2⟩, ⟨[27,28,29,30,31,32,33], [1], 2, 2⟩, ⟨[], [], 2, 2⟩, ⟨[], [], 2, 2⟩, ⟨[], [], 2, 2⟩] ⟨by kernel_rfl, by kernel_rfl, rfl⟩ ?_
  refine bdE hF (fun y9 hy9 hF => ?_)
  refine callG [] (i_paperOk_c hy9) ⟨mv rfl, tv⟩ tv rfl ?_
  refine vif hF (fun _ hF => ?_) (fun _ hF => ?_)
  ·refine Dz.tt (b := true) rfl rfl ?_
   refine Dz.seq (Dz.reg (Dz.ret ?_))
   cases hF
   exact finG [] [] rfl rfl (mv rfl) tv rfl
  ·refine vif hF (fun _ hF => ?_) (fun _ hF => ?_)
   ·refine Dz.tt (b := true) rfl rfl ?_
    refine Dz.seq (Dz.reg (Dz.ret ?_))
    cases hF
    exact finG [] [] rfl rfl (mv rfl) tv rfl
   ·refine vif hF (fun _ hF => ?_) (fun _ hF => ?_)
    ·refine ⟨(((i2 : Nat) : Int) - 1), wrap64 (by omega) (by omega), ?_⟩
     refine vix hF (fun _ _ hF => ?_)
     refine Dz.ite rfl hF (fun _ hF => ?_) (fun _ hF => ?_)
     ·refine Dz.seq (Dz.reg (Dz.ret ?_))
      cases hF
      exact finG [] [] rfl rfl (mv rfl) tv rfl
     ·refine Dz.skip (Dz.reg ?_)
      refine vsucc (by omega) ?_
      exact ⟨(), entG [0] ⟨mp rfl, mv rfl, mv rfl, mv rfl, tv⟩ ⟨⟨rfl, o_box rfl⟩, tv⟩ rfl, hF⟩
    ·refine Dz.ff (b := false) rfl rfl ?_
     refine Dz.skip (Dz.reg ?_)
     refine vsucc (by omega) ?_
     exact ⟨(), entG [0] ⟨mp rfl, mv rfl, mv rfl, mv rfl, tv⟩ ⟨⟨rfl, o_box rfl⟩, tv⟩ rfl, hF⟩
def i_seekerNone (a0 : SynSeeker) : Option (Bool) :=
 cond (decide (a0.Slot = 0)) (cond (decide (a0.Ballot = 0)) (cond (decide (a0.Phase = 0)) (cond (decide (a0.Mine = ({ Kind := 0, Client := 0, Call := 0, Disk := 0, Arg := 0, Epoch := 0, Range := 0, Num := 0, A := 0, B := 0 } : Cmd))) (cond (decide (a0.Best = ({ Slot := 0, Ballot := 0, Cmd := ({ Kind := 0, Client := 0, Call := 0, Disk := 0, Arg := 0, Epoch := 0, Range := 0, Num := 0, A := 0, B := 0 } : Cmd) } : SynPaper))) (some (decide (((a0.Yes.length : Nat) : Int) = 0))) (some false)) (some false)) (some false)) (some false)) (some false)
theorem i_seekerNone_c {t0_25 : Bool} {a0 : SynSeeker} {r : Bool} (hF : i_seekerNone a0 = some r) : Con Tryz.prog 129 [.val true [.u (cI a0.Slot), .u (cI a0.Ballot), .u (cI a0.Phase), .u (cI a0.Mine.Kind), .u (cI a0.Mine.Client), .u (cI a0.Mine.Call), .u (cI a0.Mine.Disk), .u (cI a0.Mine.Arg), .u (cI a0.Mine.Epoch), .u (cI a0.Mine.Range), .u (cI a0.Mine.Num), .u (cI a0.Mine.A), .u (cI a0.Mine.B), .u (cI a0.Best.Slot), .u (cI a0.Best.Ballot), .u (cI a0.Best.Cmd.Kind), .u (cI a0.Best.Cmd.Client), .u (cI a0.Best.Cmd.Call), .u (cI a0.Best.Cmd.Disk), .u (cI a0.Best.Cmd.Arg), .u (cI a0.Best.Cmd.Epoch), .u (cI a0.Best.Cmd.Range), .u (cI a0.Best.Cmd.Num), .u (cI a0.Best.Cmd.A), .u (cI a0.Best.Cmd.B), .u (ul cInt 1 t0_25 a0.Yes)]] [] (vbool r) [] := by
 refine Con.of_Dz tabOk Tryz.func129 rfl rfl rfl ?_
 delta i_seekerNone at hF
 refine Dz.seq (Dz.reg (Dz.seq (Dz.reg ?_)))
 refine vif hF (fun _ hF => ?_) (fun _ hF => ?_)
 ·refine vif hF (fun _ hF => ?_) (fun _ hF => ?_)
  ·refine vif hF (fun _ hF => ?_) (fun _ hF => ?_)
   ·refine ⟨decide (a0.Mine = ({ Kind := 0, Client := 0, Call := 0, Disk := 0, Arg := 0, Epoch := 0, Range := 0, Num := 0, A := 0, B := 0 } : Cmd)), Cmd.eqd _ _, ?_⟩
    refine vif hF (fun _ hF => ?_) (fun _ hF => ?_)
    ·refine ⟨decide (a0.Best = ({ Slot := 0, Ballot := 0, Cmd := ({ Kind := 0, Client := 0, Call := 0, Disk := 0, Arg := 0, Epoch := 0, Range := 0, Num := 0, A := 0, B := 0 } : Cmd) } : SynPaper)), SynPaper.eqd _ _, ?_⟩
     refine vif hF (fun _ hF => ?_) (fun _ hF => ?_)
     ·intro hb1; replace hb1 : a0.Yes.length ≤ 140737488355328 := hb1
      refine Dz.ret ?_
      cases hF
      exact finG [] [] rfl rfl (mv rfl) tv rfl
     ·refine Dz.ret ?_
      cases hF
      exact finG [] [] rfl rfl (mv rfl) tv rfl
    ·refine Dz.ret ?_
     cases hF
     exact finG [] [] rfl rfl (mv rfl) tv rfl
   ·refine Dz.ret ?_
    cases hF
    exact finG [] [] rfl rfl (mv rfl) tv rfl
  ·refine Dz.ret ?_
   cases hF
   exact finG [] [] rfl rfl (mv rfl) tv rfl
 ·refine Dz.ret ?_
  cases hF
  exact finG [] [] rfl rfl (mv rfl) tv rfl
def i_isVoter (a0 : Int) : Option (Bool) :=
 (i_in a0 0 2).bind (fun y1 => some y1)
theorem i_isVoter_c {a0 : Int} {r : Bool} (hF : i_isVoter a0 = some r) : Con Tryz.prog 130 [vint .i64 a0] [] (vbool r) [] := by
 refine Con.of_Dz tabOk Tryz.func130 rfl rfl rfl ?_
 delta i_isVoter at hF
 refine Dz.seq (Dz.reg (Dz.seq (Dz.reg ?_)))
 refine bdE hF (fun y1 hy1 hF => ?_)
 refine callG [] (i_in_c hy1) ⟨mv rfl, mv rfl, mv rfl, tv⟩ tv rfl ?_
 refine Dz.ret ?_
 cases hF
 exact finG [] [] rfl rfl (mv rfl) tv rfl
def i_SynSeekerOk (a0 : SynSeeker) : Option (Bool) :=
 (i_seekerNone a0).bind (fun y1 => cond y1 (some true) (jn (fun (v2 : Unit) => cond (decide (a0.Best = ({ Slot := 0, Ballot := 0, Cmd := ({ Kind := 0, Client := 0, Call := 0, Disk := 0, Arg := 0, Epoch := 0, Range := 0, Num := 0, A := 0, B := 0 } : Cmd) } : SynPaper))) (some true) ((i_paperOk a0.Best).bind (fun y3 => cond y3 (cond (decide (a0.Best.Slot = a0.Slot)) (some (decide (a0.Best.Ballot < a0.Ballot))) (some false)) (some false)))) (fun j4 => (i_in a0.Slot 1 60).bind (fun y5 => cond (!y5) (some false) ((i_in a0.Ballot 1 99999).bind (fun y6 => cond (!y6) (some false) ((i_in a0.Phase 1 2).bind (fun y7 => cond (!y7) (some false) ((i_cmdOk a0.Mine).bind (fun y8 => cond (!y8) (some false) (cond (decide ((1 : Int) < ((a0.Yes.length : Nat) : Int))) (some false) (cond (decide (((a0.Yes.length : Nat) : Int) = 1)) (ix a0.Yes 0 (fun x11 => (i_isVoter x11).bind (fun y12 => cond (!y12) (some false) (j4 ())))) (j4 ())))))))))))))
theorem i_SynSeekerOk_c {t0_25 : Bool} {a0 : SynSeeker} {r : Bool} (hF : i_SynSeekerOk a0 = some r) : Con Tryz.prog 85 [.val true [.u (cI a0.Slot), .u (cI a0.Ballot), .u (cI a0.Phase), .u (cI a0.Mine.Kind), .u (cI a0.Mine.Client), .u (cI a0.Mine.Call), .u (cI a0.Mine.Disk), .u (cI a0.Mine.Arg), .u (cI a0.Mine.Epoch), .u (cI a0.Mine.Range), .u (cI a0.Mine.Num), .u (cI a0.Mine.A), .u (cI a0.Mine.B), .u (cI a0.Best.Slot), .u (cI a0.Best.Ballot), .u (cI a0.Best.Cmd.Kind), .u (cI a0.Best.Cmd.Client), .u (cI a0.Best.Cmd.Call), .u (cI a0.Best.Cmd.Disk), .u (cI a0.Best.Cmd.Arg), .u (cI a0.Best.Cmd.Epoch), .u (cI a0.Best.Cmd.Range), .u (cI a0.Best.Cmd.Num), .u (cI a0.Best.Cmd.A), .u (cI a0.Best.Cmd.B), .u (ul cInt 1 t0_25 a0.Yes)]] [] (vbool r) [] := by
 refine Con.of_Dz tabOk Tryz.func85 rfl rfl rfl ?_
 delta i_SynSeekerOk at hF
 refine Dz.seq (Dz.reg (Dz.seq (Dz.seq (Dz.reg ?_))))
 refine bdE hF (fun y1 hy1 hF => ?_)
 refine callG [] (i_seekerNone_c hy1) ⟨mv rfl, tv⟩ tv rfl ?_
 refine Dz.ite rfl hF (fun _ hF => ?_) (fun _ hF => ?_)
 ·refine Dz.seq (Dz.reg (Dz.ret ?_))
  cases hF
  exact finG [] [] rfl rfl (mv rfl) tv rfl
 ·refine Dz.skip ?_
  refine Dz.jn hF (fun v2 => ([(1, .ptr 0 0)], [.box 60 [.u (cI a0.Slot), .u (cI a0.Ballot), .u (cI a0.Phase), .u (cI a0.Mine.Kind), .u (cI a0.Mine.Client), .u (cI a0.Mine.Call), .u (cI a0.Mine.Disk), .u (cI a0.Mine.Arg), .u (cI a0.Mine.Epoch), .u (cI a0.Mine.Range), .u (cI a0.Mine.Num), .u (cI a0.Mine.A), .u (cI a0.Mine.B), .u (cI a0.Best.Slot), .u (cI a0.Best.Ballot), .u (cI a0.Best.Cmd.Kind), .u (cI a0.Best.Cmd.Client), .u (cI a0.Best.Cmd.Call), .u (cI a0.Best.Cmd.Disk), .u (cI a0.Best.Cmd.Arg), .u (cI a0.Best.Cmd.Epoch), .u (cI a0.Best.Cmd.Range), .u (cI a0.Best.Cmd.Num), .u (cI a0.Best.Cmd.A), .u (cI a0.Best.Cmd.B), .u (ul cInt 1 t0_25 a0.Yes)]])) (fun v2 hF => ?_) (fun hF => ?_)
  ·refine Dz.seq (Dz.reg ?_)
   refine ⟨decide (a0.Best = ({ Slot := 0, Ballot := 0, Cmd := ({ Kind := 0, Client := 0, Call := 0, Disk := 0, Arg := 0, Epoch := 0, Range := 0, Num := 0, A := 0, B := 0 } : Cmd) } : SynPaper)), SynPaper.eqd _ _, ?_⟩
   refine vif hF (fun _ hF => ?_) (fun _ hF => ?_)
   ·refine Dz.ret ?_
    cases hF
    exact finG [] [] rfl rfl (mv rfl) tv rfl
   ·refine bdE hF (fun y3 hy3 hF => ?_)
    refine callG [] (i_paperOk_c hy3) ⟨mv rfl, tv⟩ tv rfl ?_
    refine vif hF (fun _ hF => ?_) (fun _ hF => ?_)
    ·refine vif hF (fun _ hF => ?_) (fun _ hF => ?_)
     ·refine Dz.ret ?_
      cases hF
      exact finG [] [] rfl rfl (mv rfl) tv rfl
     ·refine Dz.ret ?_
      cases hF
      exact finG [] [] rfl rfl (mv rfl) tv rfl
    ·refine Dz.ret ?_
     cases hF
     exact finG [] [] rfl rfl (mv rfl) tv rfl
  ·refine Dz.seq (Dz.reg ?_)
   refine bdE hF (fun y5 hy5 hF => ?_)
   refine callG [] (i_in_c hy5) ⟨mv rfl, mv rfl, mv rfl, tv⟩ tv rfl ?_
   refine vif hF (fun _ hF => ?_) (fun _ hF => ?_)
   ·refine Dz.tt (b := true) rfl rfl ?_
    refine Dz.seq (Dz.reg (Dz.ret ?_))
    cases hF
    exact finG [] [] rfl rfl (mv rfl) tv rfl
   ·refine bdE hF (fun y6 hy6 hF => ?_)
    refine callG [] (i_in_c hy6) ⟨mv rfl, mv rfl, mv rfl, tv⟩ tv rfl ?_
    refine vif hF (fun _ hF => ?_) (fun _ hF => ?_)
    ·refine Dz.tt (b := true) rfl rfl ?_
     refine Dz.seq (Dz.reg (Dz.ret ?_))
     cases hF
     exact finG [] [] rfl rfl (mv rfl) tv rfl
    ·refine bdE hF (fun y7 hy7 hF => ?_)
     refine callG [] (i_in_c hy7) ⟨mv rfl, mv rfl, mv rfl, tv⟩ tv rfl ?_
     refine vif hF (fun _ hF => ?_) (fun _ hF => ?_)
     ·refine Dz.tt (b := true) rfl rfl ?_
      refine Dz.seq (Dz.reg (Dz.ret ?_))
      cases hF
      exact finG [] [] rfl rfl (mv rfl) tv rfl
     ·refine bdE hF (fun y8 hy8 hF => ?_)
      refine callG [] (i_cmdOk_c hy8) ⟨mv rfl, tv⟩ tv rfl ?_
      refine vif hF (fun _ hF => ?_) (fun _ hF => ?_)
      ·refine Dz.tt (b := true) rfl rfl ?_
       refine Dz.seq (Dz.reg (Dz.ret ?_))
       cases hF
       exact finG [] [] rfl rfl (mv rfl) tv rfl
      ·intro hb9; replace hb9 : a0.Yes.length ≤ 140737488355328 := hb9
       refine vif hF (fun _ hF => ?_) (fun _ hF => ?_)
       ·refine Dz.tt (b := true) rfl rfl ?_
        refine Dz.seq (Dz.reg (Dz.ret ?_))
        cases hF
        exact finG [] [] rfl rfl (mv rfl) tv rfl
       ·intro hb10; replace hb10 : a0.Yes.length ≤ 140737488355328 := hb10
        refine vif hF (fun _ hF => ?_) (fun _ hF => ?_)
        ·refine vix hF (fun _ _ hF => ?_)
         refine bdE hF (fun y12 hy12 hF => ?_)
         refine callG [] (i_isVoter_c hy12) ⟨mv rfl, tv⟩ tv rfl ?_
         refine Dz.ite rfl hF (fun _ hF => ?_) (fun _ hF => ?_)
         ·refine Dz.seq (Dz.reg (Dz.ret ?_))
          cases hF
          exact finG [] [] rfl rfl (mv rfl) tv rfl
         ·refine Dz.skip ?_
          exact ⟨(), entG [0] ⟨mp rfl, tv⟩ ⟨⟨rfl, o_box rfl⟩, tv⟩ rfl, hF⟩
        ·refine Dz.ff (b := false) rfl rfl ?_
         refine Dz.skip ?_
         exact ⟨(), entG [0] ⟨mp rfl, tv⟩ ⟨⟨rfl, o_box rfl⟩, tv⟩ rfl, hF⟩
def i_cmdsOk (a0 : (List Cmd)) (a1 : Int) : Option (Bool) :=
 loopN (fun i2 (v5 : Unit) κ6 => lt (a0.getD i2 default) (fun x7 => (i_cmdOk x7).bind (fun y8 => cond (!y8) (some false) (κ6 ())))) (fun (v5 : Unit) => some (decide (((a0.length : Nat) : Int) ≤ a1))) a0.length 0 ()
theorem i_cmdsOk_c {t0_0 : Bool} {a0 : (List Cmd)} {a1 : Int} {r : Bool} (hF : i_cmdsOk a0 a1 = some r) : Con Tryz.prog 86 [.val false [.u (ul Cmd.c 10 t0_0 a0)], vint .i64 a1] [] (vbool r) [] := by
 refine Con.of_Dz tabOk Tryz.func86 rfl rfl rfl ?_
 delta i_cmdsOk at hF
 refine Dz.seq (Dz.reg (Dz.seq (Dz.seq (Dz.reg ?_))))
 intro hb1; replace hb1 : a0.length ≤ 140737488355328 := hb1
 refine Dz.blk ?_
 refine Dz.cnt hF (fun i2 v5 => ([(0, .val false [.u (ul Cmd.c 10 t0_0 a0)]), (1, vint .i64 a1), (7, .val false [.u (ul Cmd.c 10 t0_0 a0)]), (8, vint .i64 ((a0.length : Nat) : Int)), (9, vint .i64 ((i2 : Nat) : Int))], [])) (entG [] ⟨mv rfl, mv rfl, mv rfl, mv rfl, mv rfl, tv⟩ tv rfl) (fun v5 hF => ?_) (fun i2 v5 κ6 hi0i2 hi1i2 hF => ?_)
 ·refine Dz.seq (Dz.reg (Dz.seq ?_))
  refine Dz.ff (b := decide (((0 + a0.length : Nat) : Int) < ((a0.length : Nat) : Int))) rfl (decide_eq_false (by omega)) ?_
  refine Dz.exit (Dz.seq (Dz.reg ?_))
  intro hb9; replace hb9 : a0.length ≤ 140737488355328 := hb9
  refine Dz.ret ?_
  cases hF
  exact finG [] [] rfl rfl (mv rfl) tv rfl
 ·refine Dz.seq (Dz.reg (Dz.seq ?_))
  refine Dz.tt (b := decide (((i2 : Nat) : Int) < ((a0.length : Nat) : Int))) rfl (decide_eq_true (by omega)) ?_
  refine Dz.skip (Dz.seq (Dz.blk (Dz.seq (Dz.reg ?_))))
  refine vge (n := ((i2 : Nat) : Int)) (hi := (a0.length : Int)) (by omega) (by omega) ?_
  have hF := ltE hF
  refine Dz.seq (Dz.reg ?_)
  refine bdE hF (fun y8 hy8 hF => ?_)
  refine callG [] (i_cmdOk_c hy8) ⟨mv rfl, tv⟩ tv rfl ?_
  refine Dz.ite rfl hF (fun _ hF => ?_) (fun _ hF => ?_)
  ·refine Dz.seq (Dz.reg (Dz.ret ?_))
   cases hF
   exact finG [] [] rfl rfl (mv rfl) tv rfl
  ·refine Dz.skip (Dz.reg ?_)
   refine vsucc (by omega) ?_
   exact ⟨(), entG [] ⟨mv rfl, mv rfl, mv rfl, mv rfl, mv rfl, tv⟩ tv rfl, hF⟩
def i_isRange (a0 : Int) : Option (Bool) :=
 (i_in a0 0 2).bind (fun y1 => some y1)
theorem i_isRange_c {a0 : Int} {r : Bool} (hF : i_isRange a0 = some r) : Con Tryz.prog 88 [vint .i64 a0] [] (vbool r) [] := by
 refine Con.of_Dz tabOk Tryz.func88 rfl rfl rfl ?_
 delta i_isRange at hF
 refine Dz.seq (Dz.reg (Dz.seq (Dz.reg ?_)))
 refine bdE hF (fun y1 hy1 hF => ?_)
 refine callG [] (i_in_c hy1) ⟨mv rfl, mv rfl, mv rfl, tv⟩ tv rfl ?_
 refine Dz.ret ?_
 cases hF
 exact finG [] [] rfl rfl (mv rfl) tv rfl
def i_pieceWay (a0 : BlkPiece) (a1 : BlkPiece) : Option (Int) :=
 loopN (fun i1 (v3 : Unit) κ4 => ix ([({ e0 := a0.Disk, e1 := a1.Disk } : Arr2), ({ e0 := a0.Block, e1 := a1.Block } : Arr2), ({ e0 := a0.Epoch, e1 := a1.Epoch } : Arr2)] : List Arr2) ((i1 : Nat) : Int) (fun _ => lt (([({ e0 := a0.Disk, e1 := a1.Disk } : Arr2), ({ e0 := a0.Block, e1 := a1.Block } : Arr2), ({ e0 := a0.Epoch, e1 := a1.Epoch } : Arr2)] : List Arr2).getD i1 default) (fun x5 => cond (decide (x5.e0 < x5.e1)) (some (-1)) (cond (decide (x5.e1 < x5.e0)) (some 1) (κ4 ()))))) (fun (v3 : Unit) => some 0) 3 0 ()
theorem i_pieceWay_c {a0 : BlkPiece} {a1 : BlkPiece} {r : Int} (hF : i_pieceWay a0 a1 = some r) : Con Tryz.prog 132 [.val true (BlkPiece.L a0), .val true (BlkPiece.L a1)] [] (vint .i64 r) [] := by
 refine Con.of_Dz tabOk Tryz.func132 rfl rfl rfl ?_
 delta i_pieceWay at hF
 refine Dz.seq (Dz.reg (Dz.seq (Dz.seq (Dz.reg ?_))))
 intro _
 refine Dz.row 2 ([({ e0 := a0.Disk, e1 := a1.Disk } : Arr2), ({ e0 := a0.Block, e1 := a1.Block } : Arr2), ({ e0 := a0.Epoch, e1 := a1.Epoch } : Arr2)] : List Arr2).length (gl Arr2.c ([({ e0 := a0.Disk, e1 := a1.Disk } : Arr2), ({ e0 := a0.Block, e1 := a1.Block } : Arr2), ({ e0 := a0.Epoch, e1 := a1.Epoch } : Arr2)] : List Arr2)) rfl (by simp <;> omega) (EqG.lit (c := Arr2.c) (sz := 2) (L := ([({ e0 := a0.Disk, e1 := a1.Disk } : Arr2), ({ e0 := a0.Block, e1 := a1.Block } : Arr2), ({ e0 := a0.Epoch, e1 := a1.Epoch } : Arr2)] : List Arr2)) ⟨lr, lr, lr, lr, lr, lr, tv⟩) ?_
 refine Dz.blk ?_
 refine Dz.cnt hF (fun i1 v3 => ([(22, .val false [.row 0]), (23, vint .i64 3), (24, vint .i64 ((i1 : Nat) : Int))], [.row 234 (([({ e0 := a0.Disk, e1 := a1.Disk } : Arr2), ({ e0 := a0.Block, e1 := a1.Block } : Arr2), ({ e0 := a0.Epoch, e1 := a1.Epoch } : Arr2)] : List Arr2).length) 2 (gl Arr2.c ([({ e0 := a0.Disk, e1 := a1.Disk } : Arr2), ({ e0 := a0.Block, e1 := a1.Block } : Arr2), ({ e0 := a0.Epoch, e1 := a1.Epoch } : Arr2)] : List Arr2))])) (entG [2] ⟨⟨rfl, rfl, tv⟩, mv rfl, mv rfl, tv⟩ ⟨⟨rfl, o_row⟩, tv⟩ rfl) (fun v3 hF => ?_) (fun i1 v3 κ4 hi0i1 hi1i1 hF => ?_)
 ·refine Dz.seq (Dz.reg (Dz.seq ?_))
  refine Dz.ff (b := decide (((0 + 3 : Nat) : Int) < 3)) rfl (decide_eq_false (by omega)) ?_
  refine Dz.exit (Dz.seq (Dz.reg (Dz.ret ?_)))
  cases hF
  exact finG [] [] rfl rfl (mv rfl) tv rfl
 ·refine Dz.seq (Dz.reg (Dz.seq ?_))
  refine Dz.tt (b := decide (((i1 : Nat) : Int) < 3)) rfl (decide_eq_true (by omega)) ?_
  refine Dz.skip (Dz.seq (Dz.blk (Dz.seq (Dz.reg ?_))))
  refine vix hF (fun _ _ hF => ?_)
  have hF := ltE hF
  refine Dz.seq (Dz.seq (Dz.reg ?_))
  refine vge (by decide) (by decide) ?_
  refine vge (by decide) (by decide) ?_
  refine Dz.ite rfl hF (fun _ hF => ?_) (fun _ hF => ?_)
  ·refine Dz.seq (Dz.reg (Dz.ret ?_))
   cases hF
   exact finG [] [] rfl rfl (mv rfl) tv rfl
  ·refine Dz.skip (Dz.seq (Dz.reg ?_))
   refine vge (by decide) (by decide) ?_
   refine vge (by decide) (by decide) ?_
   refine Dz.ite rfl hF (fun _ hF => ?_) (fun _ hF => ?_)
   ·refine Dz.seq (Dz.reg (Dz.ret ?_))
    cases hF
    exact finG [] [] rfl rfl (mv rfl) tv rfl
   ·refine Dz.skip (Dz.reg ?_)
    refine vsucc (by omega) ?_
    exact ⟨(), entG [0] ⟨⟨rfl, rfl, tv⟩, mv rfl, mv rfl, tv⟩ ⟨⟨rfl, o_row⟩, tv⟩ rfl, hF⟩
def i_BlkOk (a0 : (List BlkPiece)) : Option (Bool) :=
 loopN (fun i2 (v10 : Unit) κ11 => lt (a0.getD i2 default) (fun x12 => (i_in x12.Disk 1 99999).bind (fun y13 => cond (!y13) (some false) ((i_in x12.Epoch 1 99999).bind (fun y14 => cond (!y14) (some false) ((i_in x12.Block 0 99999).bind (fun y15 => cond (!y15) (some false) ((i_in x12.Data 0 99999).bind (fun y16 => cond (!y16) (some false) (cond (decide ((0 : Int) < ((i2 : Nat) : Int))) (ix a0 (((i2 : Nat) : Int) - 1) (fun x17 => (i_pieceWay x17 x12).bind (fun y18 => cond (decide ((0 : Int) ≤ y18)) (some false) (κ11 ())))) (κ11 ()))))))))))) (fun (v10 : Unit) => some (decide (((a0.length : Nat) : Int) ≤ 60))) a0.length 0 ()
theorem i_BlkOk_c {t0_0 : Bool} {a0 : (List BlkPiece)} {r : Bool} (hF : i_BlkOk a0 = some r) : Con Tryz.prog 91 [.val false [.u (ul BlkPiece.c 4 t0_0 a0)]] [] (vbool r) [] := by
 refine Con.of_Dz tabOk Tryz.func91 rfl rfl rfl ?_
 delta i_BlkOk at hF
 refine Dz.seq (Dz.reg (Dz.seq (Dz.seq (Dz.reg ?_))))
 intro hb1; replace hb1 : a0.length ≤ 140737488355328 := hb1
 refine Dz.blk ?_
 refine Dz.cnt hF (fun i2 v10 => ([(0, .val false [.u (ul BlkPiece.c 4 t0_0 a0)]), (5, .val false [.u (ul BlkPiece.c 4 t0_0 a0)]), (6, vint .i64 ((a0.length : Nat) : Int)), (7, vint .i64 ((i2 : Nat) : Int))], [])) (entG [] ⟨mv rfl, mv rfl, mv rfl, mv rfl, tv⟩ tv rfl) (fun v10 hF => ?_) (fun i2 v10 κ11 hi0i2 hi1i2 hF => ?_)
 ·refine Dz.seq (Dz.reg (Dz.seq ?_))
  refine Dz.ff (b := decide (((0 + a0.length : Nat) : Int) < ((a0.length : Nat) : Int))) rfl (decide_eq_false (by omega)) ?_
  refine Dz.exit (Dz.seq (Dz.reg ?_))
  intro hb19; replace hb19 : a0.length ≤ 140737488355328 := hb19
  refine Dz.ret ?_
  cases hF
  exact finG [] [] rfl rfl (mv rfl) tv rfl
 ·refine Dz.seq (Dz.reg (Dz.seq ?_))
  refine Dz.tt (b := decide (((i2 : Nat) : Int) < ((a0.length : Nat) : Int))) rfl (decide_eq_true (by omega)) ?_
  refine Dz.skip (Dz.seq (Dz.blk (Dz.seq (Dz.reg ?_))))
  refine vge (n := ((i2 : Nat) : Int)) (hi := (a0.length : Int)) (by omega) (by omega) ?_
  have hF := ltE hF
  refine Dz.seq ?_
  refine Dz.drw 1 [⟨[], [], 1, 1⟩, ⟨[], [0], 1, 1⟩, ⟨[], [], 1, 1⟩, ⟨[], [], 1, 1⟩, ⟨[], [], 1, 1⟩, ⟨[], [], 1, 1⟩, ⟨[], [0], 1, 1⟩, ⟨[], [], 1, 1⟩, ⟨[], [], 1, 1⟩, ⟨[], [], 1, 1⟩, ⟨[], [], 1, 1⟩, ⟨[], [], 1, 1⟩, ⟨[], [0], 1, 1⟩, ⟨[], [], 1, 1⟩, ⟨[], [], 1, 1⟩, ⟨[], [], 1, 1⟩, ⟨[], [], 1, 1⟩, ⟨[], [], 1, 1⟩, ⟨[], [0], 1, 1⟩, ⟨[], [], 1, 1⟩, ⟨[], [], 1, 1⟩, ⟨[], [], 1, 1⟩, ⟨[], [], 1, 1⟩, ⟨[], [], 1, 1⟩, ⟨[], [], 1, 1⟩, ⟨[], [], 1, 1⟩, ⟨[39,40,43], [], 1, 1⟩, ⟨[38,43], [], 1, 1⟩, ⟨[38,43], [], 1, 1⟩, ⟨[43], [], 1, 1⟩, ⟨[43], [], 1, 1⟩, ⟨[38,39,40,41,42], [0], 1, 1⟩, ⟨[], [], 1, 1⟩, ⟨[], [], 1, 1⟩, ⟨[], [], 1, 1⟩, ⟨[], [], 1, 1⟩] ⟨by kernel_rfl, by kernel_rfl, rfl⟩ ?_
  refine bdE hF (fun y13 hy13 hF => ?_)
  refine callG [] (i_in_c hy13) ⟨mv rfl, mv rfl, mv rfl, tv⟩ tv rfl ?_
  refine vif hF (fun _ hF => ?_) (fun _ hF => ?_)
  ·refine Dz.tt (b := true) rfl rfl ?_
   refine Dz.seq (Dz.reg (Dz.ret ?_))
   cases hF
   exact finG [] [] rfl rfl (mv rfl) tv rfl
  ·refine bdE hF (fun y14 hy14 hF => ?_)
   refine callG [] (i_in_c hy14) ⟨mv rfl, mv rfl, mv rfl, tv⟩ tv rfl ?_
   refine vif hF (fun _ hF => ?_) (fun _ hF => ?_)
   ·refine Dz.tt (b := true) rfl rfl ?_
    refine Dz.seq (Dz.reg (Dz.ret ?_))
    cases hF
    exact finG [] [] rfl rfl (mv rfl) tv rfl
   ·refine bdE hF (fun y15 hy15 hF => ?_)
    refine callG [] (i_in_c hy15) ⟨mv rfl, mv rfl, mv rfl, tv⟩ tv rfl ?_
    refine vif hF (fun _ hF => ?_) (fun _ hF => ?_)
    ·refine Dz.tt (b := true) rfl rfl ?_
     refine Dz.seq (Dz.reg (Dz.ret ?_))
     cases hF
     exact finG [] [] rfl rfl (mv rfl) tv rfl
    ·refine bdE hF (fun y16 hy16 hF => ?_)
     refine callG [] (i_in_c hy16) ⟨mv rfl, mv rfl, mv rfl, tv⟩ tv rfl ?_
     refine vif hF (fun _ hF => ?_) (fun _ hF => ?_)
     ·refine Dz.tt (b := true) rfl rfl ?_
      refine Dz.seq (Dz.reg (Dz.ret ?_))
      cases hF
      exact finG [] [] rfl rfl (mv rfl) tv rfl
     ·refine vif hF (fun _ hF => ?_) (fun _ hF => ?_)
      ·refine ⟨(((i2 : Nat) : Int) - 1), wrap64 (by omega) (by omega), ?_⟩
       refine vix hF (fun _ _ hF => ?_)
       refine bdE hF (fun y18 hy18 hF => ?_)
       refine callG [] (i_pieceWay_c hy18) ⟨mv rfl, mv rfl, tv⟩ tv rfl ?_
       refine Dz.ite rfl hF (fun _ hF => ?_) (fun _ hF => ?_)
       ·refine Dz.seq (Dz.reg (Dz.ret ?_))
        cases hF
        exact finG [] [] rfl rfl (mv rfl) tv rfl
       ·refine Dz.skip (Dz.reg ?_)
        refine vsucc (by omega) ?_
        exact ⟨(), entG [] ⟨mv rfl, mv rfl, mv rfl, mv rfl, tv⟩ tv rfl, hF⟩
      ·refine Dz.ff (b := false) rfl rfl ?_
       refine Dz.skip (Dz.reg ?_)
       refine vsucc (by omega) ?_
       exact ⟨(), entG [] ⟨mv rfl, mv rfl, mv rfl, mv rfl, tv⟩ tv rfl, hF⟩
def i_lastOk (a0 : (List BlkLast)) : Option (Bool) :=
 loopN (fun i2 (v7 : Unit) κ8 => lt (a0.getD i2 default) (fun x9 => (i_in x9.Client 0 3).bind (fun y10 => cond (!y10) (some false) ((i_in x9.Call 1 99999).bind (fun y11 => cond (!y11) (some false) (cond (decide ((0 : Int) < ((i2 : Nat) : Int))) (ix a0 (((i2 : Nat) : Int) - 1) (fun x12 => cond (decide (x9.Client ≤ x12.Client)) (some false) (κ8 ()))) (κ8 ()))))))) (fun (v7 : Unit) => some (decide (((a0.length : Nat) : Int) ≤ 4))) a0.length 0 ()
theorem i_lastOk_c {t0_0 : Bool} {a0 : (List BlkLast)} {r : Bool} (hF : i_lastOk a0 = some r) : Con Tryz.prog 92 [.val false [.u (ul BlkLast.c 2 t0_0 a0)]] [] (vbool r) [] := by
 refine Con.of_Dz tabOk Tryz.func92 rfl rfl rfl ?_
 delta i_lastOk at hF
 refine Dz.seq (Dz.reg (Dz.seq (Dz.seq (Dz.reg ?_))))
 intro hb1; replace hb1 : a0.length ≤ 140737488355328 := hb1
 refine Dz.blk ?_
 refine Dz.cnt hF (fun i2 v7 => ([(0, .val false [.u (ul BlkLast.c 2 t0_0 a0)]), (5, .val false [.u (ul BlkLast.c 2 t0_0 a0)]), (6, vint .i64 ((a0.length : Nat) : Int)), (7, vint .i64 ((i2 : Nat) : Int))], [])) (entG [] ⟨mv rfl, mv rfl, mv rfl, mv rfl, tv⟩ tv rfl) (fun v7 hF => ?_) (fun i2 v7 κ8 hi0i2 hi1i2 hF => ?_)
 ·refine Dz.seq (Dz.reg (Dz.seq ?_))
  refine Dz.ff (b := decide (((0 + a0.length : Nat) : Int) < ((a0.length : Nat) : Int))) rfl (decide_eq_false (by omega)) ?_
  refine Dz.exit (Dz.seq (Dz.reg ?_))
  intro hb13; replace hb13 : a0.length ≤ 140737488355328 := hb13
  refine Dz.ret ?_
  cases hF
  exact finG [] [] rfl rfl (mv rfl) tv rfl
 ·refine Dz.seq (Dz.reg (Dz.seq ?_))
  refine Dz.tt (b := decide (((i2 : Nat) : Int) < ((a0.length : Nat) : Int))) rfl (decide_eq_true (by omega)) ?_
  refine Dz.skip (Dz.seq (Dz.blk (Dz.seq (Dz.reg ?_))))
  refine vge (n := ((i2 : Nat) : Int)) (hi := (a0.length : Int)) (by omega) (by omega) ?_
  have hF := ltE hF
  refine Dz.seq ?_
  refine Dz.drw 1 [⟨[], [], 1, 1⟩, ⟨[], [0], 1, 1⟩, ⟨[], [], 1, 1⟩, ⟨[], [], 1, 1⟩, ⟨[], [], 1, 1⟩, ⟨[], [], 1, 1⟩, ⟨[], [0], 1, 1⟩, ⟨[], [], 1, 1⟩, ⟨[], [], 1, 1⟩, ⟨[], [], 1, 1⟩, ⟨[], [], 1, 1⟩, ⟨[], [], 1, 1⟩, ⟨[], [], 1, 1⟩, ⟨[], [], 1, 1⟩, ⟨[27,28,32,33], [], 1, 1⟩, ⟨[26,32,33], [], 1, 1⟩, ⟨[26,32,33], [], 1, 1⟩, ⟨[32,33], [], 1, 1⟩, ⟨[32,33], [], 1, 1⟩, ⟨[32,33], [], 1, 1⟩, ⟨[26,27,28,29,30,31], [], 1, 1⟩, ⟨[26,27,28,29,30,31], [0], 1, 1⟩, ⟨[], [], 1, 1⟩, ⟨[], [], 1, 1⟩, ⟨[], [], 1, 1⟩] ⟨by kernel_rfl, by kernel_rfl, rfl⟩ ?_
  refine bdE hF (fun y10 hy10 hF => ?_)
  refine callG [] (i_in_c hy10) ⟨mv rfl, mv rfl, mv rfl, tv⟩ tv rfl ?_
  refine vif hF (fun _ hF => ?_) (fun _ hF => ?_)
  ·refine Dz.tt (b := true) rfl rfl ?_
   refine Dz.seq (Dz.reg (Dz.ret ?_))
   cases hF
   exact finG [] [] rfl rfl (mv rfl) tv rfl
  ·refine bdE hF (fun y11 hy11 hF => ?_)
   refine callG [] (i_in_c hy11) ⟨mv rfl, mv rfl, mv rfl, tv⟩ tv rfl ?_
   refine vif hF (fun _ hF => ?_) (fun _ hF => ?_)
   ·refine Dz.tt (b := true) rfl rfl ?_
    refine Dz.seq (Dz.reg (Dz.ret ?_))
    cases hF
    exact finG [] [] rfl rfl (mv rfl) tv rfl
   ·refine vif hF (fun _ hF => ?_) (fun _ hF => ?_)
    ·refine ⟨(((i2 : Nat) : Int) - 1), wrap64 (by omega) (by omega), ?_⟩
     refine vix hF (fun _ _ hF => ?_)
     refine Dz.ite rfl hF (fun _ hF => ?_) (fun _ hF => ?_)
     ·refine Dz.seq (Dz.reg (Dz.ret ?_))
      cases hF
      exact finG [] [] rfl rfl (mv rfl) tv rfl
     ·refine Dz.skip (Dz.reg ?_)
      refine vsucc (by omega) ?_
      exact ⟨(), entG [] ⟨mv rfl, mv rfl, mv rfl, mv rfl, tv⟩ tv rfl, hF⟩
    ·refine Dz.ff (b := false) rfl rfl ?_
     refine Dz.skip (Dz.reg ?_)
     refine vsucc (by omega) ?_
     exact ⟨(), entG [] ⟨mv rfl, mv rfl, mv rfl, mv rfl, tv⟩ tv rfl, hF⟩
def i_copyOk (a0 : SrvCopy) : Option (Bool) :=
 loopN (fun i2 (v10 : Unit) κ11 => lt (a0.Busy.getD i2 default) (fun x12 => (i_isClient x12.Client).bind (fun y13 => cond (!y13) (some false) ((i_in x12.Call 1 99999).bind (fun y14 => cond (!y14) (some false) ((i_in x12.Disk 1 99999).bind (fun y15 => cond (!y15) (some false) ((i_in x12.Epoch 1 99999).bind (fun y16 => cond (!y16) (some false) ((i_in x12.Block 0 99999).bind (fun y17 => cond (!y17) (some false) ((i_in x12.Data 0 99999).bind (fun y18 => cond (!y18) (some false) (κ11 ())))))))))))))) (fun (v10 : Unit) => (i_isRange a0.Range).bind (fun y19 => cond y19 ((i_in a0.Valid 0 99999).bind (fun y20 => cond y20 ((i_in a0.Asked 0 99999).bind (fun y21 => cond y21 ((i_BlkOk a0.Pieces).bind (fun y22 => cond y22 ((i_lastOk a0.Last).bind (fun y23 => cond y23 (some (decide (((a0.Busy.length : Nat) : Int) ≤ 60))) (some false))) (some false))) (some false))) (some false))) (some false))) a0.Busy.length 0 ()
theorem i_copyOk_c {t0_3 t0_4 t0_5 : Bool} {a0 : SrvCopy} {r : Bool} (hF : i_copyOk a0 = some r) : Con Tryz.prog 87 [.val true [.u (cI a0.Range), .u (cI a0.Valid), .u (cI a0.Asked), .u (ul BlkPiece.c 4 t0_3 a0.Pieces), .u (ul BlkLast.c 2 t0_4 a0.Last), .u (ul SrvBusy.c 6 t0_5 a0.Busy)]] [] (vbool r) [] := by
 refine Con.of_Dz tabOk Tryz.func87 rfl rfl rfl ?_
 delta i_copyOk at hF
 refine Dz.seq (Dz.reg (Dz.seq (Dz.seq (Dz.reg ?_))))
 intro hb1; replace hb1 : a0.Busy.length ≤ 140737488355328 := hb1
 refine Dz.blk ?_
 refine Dz.cnt hF (fun i2 v10 => ([(1, .ptr 0 0), (6, .val false [.u (ul SrvBusy.c 6 t0_5 a0.Busy)]), (7, vint .i64 ((a0.Busy.length : Nat) : Int)), (8, vint .i64 ((i2 : Nat) : Int))], [.box 119 [.u (cI a0.Range), .u (cI a0.Valid), .u (cI a0.Asked), .u (ul BlkPiece.c 4 t0_3 a0.Pieces), .u (ul BlkLast.c 2 t0_4 a0.Last), .u (ul SrvBusy.c 6 t0_5 a0.Busy)]])) (entG [0] ⟨mp rfl, mv rfl, mv rfl, mv rfl, tv⟩ ⟨⟨rfl, o_box rfl⟩, tv⟩ rfl) (fun v10 hF => ?_) (fun i2 v10 κ11 hi0i2 hi1i2 hF => ?_)
 ·refine Dz.seq (Dz.reg (Dz.seq ?_))
  refine Dz.ff (b := decide (((0 + a0.Busy.length : Nat) : Int) < ((a0.Busy.length : Nat) : Int))) rfl (decide_eq_false (by omega)) ?_
  refine Dz.exit (Dz.seq (Dz.reg ?_))
  refine bdE hF (fun y19 hy19 hF => ?_)
  refine callG [] (i_isRange_c hy19) ⟨mv rfl, tv⟩ tv rfl ?_
  refine vif hF (fun _ hF => ?_) (fun _ hF => ?_)
  ·refine bdE hF (fun y20 hy20 hF => ?_)
   refine callG [] (i_in_c hy20) ⟨mv rfl, mv rfl, mv rfl, tv⟩ tv rfl ?_
   refine vif hF (fun _ hF => ?_) (fun _ hF => ?_)
   ·refine bdE hF (fun y21 hy21 hF => ?_)
    refine callG [] (i_in_c hy21) ⟨mv rfl, mv rfl, mv rfl, tv⟩ tv rfl ?_
    refine vif hF (fun _ hF => ?_) (fun _ hF => ?_)
    ·refine bdE hF (fun y22 hy22 hF => ?_)
     refine callG [] (i_BlkOk_c hy22) ⟨mv rfl, tv⟩ tv rfl ?_
     refine vif hF (fun _ hF => ?_) (fun _ hF => ?_)
     ·refine bdE hF (fun y23 hy23 hF => ?_)
      refine callG [] (i_lastOk_c hy23) ⟨mv rfl, tv⟩ tv rfl ?_
      refine vif hF (fun _ hF => ?_) (fun _ hF => ?_)
      ·intro hb24; replace hb24 : a0.Busy.length ≤ 140737488355328 := hb24
       refine Dz.ret ?_
       cases hF
       exact finG [] [] rfl rfl (mv rfl) tv rfl
      ·refine Dz.ret ?_
       cases hF
       exact finG [] [] rfl rfl (mv rfl) tv rfl
     ·refine Dz.ret ?_
      cases hF
      exact finG [] [] rfl rfl (mv rfl) tv rfl
    ·refine Dz.ret ?_
     cases hF
     exact finG [] [] rfl rfl (mv rfl) tv rfl
   ·refine Dz.ret ?_
    cases hF
    exact finG [] [] rfl rfl (mv rfl) tv rfl
  ·refine Dz.ret ?_
   cases hF
   exact finG [] [] rfl rfl (mv rfl) tv rfl
 ·refine Dz.seq (Dz.reg (Dz.seq ?_))
  refine Dz.tt (b := decide (((i2 : Nat) : Int) < ((a0.Busy.length : Nat) : Int))) rfl (decide_eq_true (by omega)) ?_
  refine Dz.skip (Dz.seq (Dz.blk (Dz.seq (Dz.reg ?_))))
  refine vge (n := ((i2 : Nat) : Int)) (hi := (a0.Busy.length : Int)) (by omega) (by omega) ?_
  have hF := ltE hF
  refine Dz.seq (Dz.reg ?_)
  refine bdE hF (fun y13 hy13 hF => ?_)
  refine callG [] (i_isClient_c hy13) ⟨mv rfl, tv⟩ tv rfl ?_
  refine vif hF (fun _ hF => ?_) (fun _ hF => ?_)
  ·refine Dz.tt (b := true) rfl rfl ?_
   refine Dz.seq (Dz.reg (Dz.ret ?_))
   cases hF
   exact finG [] [] rfl rfl (mv rfl) tv rfl
  ·refine bdE hF (fun y14 hy14 hF => ?_)
   refine callG [] (i_in_c hy14) ⟨mv rfl, mv rfl, mv rfl, tv⟩ tv rfl ?_
   refine vif hF (fun _ hF => ?_) (fun _ hF => ?_)
   ·refine Dz.tt (b := true) rfl rfl ?_
    refine Dz.seq (Dz.reg (Dz.ret ?_))
    cases hF
    exact finG [] [] rfl rfl (mv rfl) tv rfl
   ·refine bdE hF (fun y15 hy15 hF => ?_)
    refine callG [] (i_in_c hy15) ⟨mv rfl, mv rfl, mv rfl, tv⟩ tv rfl ?_
    refine vif hF (fun _ hF => ?_) (fun _ hF => ?_)
    ·refine Dz.tt (b := true) rfl rfl ?_
     refine Dz.seq (Dz.reg (Dz.ret ?_))
     cases hF
     exact finG [] [] rfl rfl (mv rfl) tv rfl
    ·refine bdE hF (fun y16 hy16 hF => ?_)
     refine callG [] (i_in_c hy16) ⟨mv rfl, mv rfl, mv rfl, tv⟩ tv rfl ?_
     refine vif hF (fun _ hF => ?_) (fun _ hF => ?_)
     ·refine Dz.tt (b := true) rfl rfl ?_
      refine Dz.seq (Dz.reg (Dz.ret ?_))
      cases hF
      exact finG [] [] rfl rfl (mv rfl) tv rfl
     ·refine bdE hF (fun y17 hy17 hF => ?_)
      refine callG [] (i_in_c hy17) ⟨mv rfl, mv rfl, mv rfl, tv⟩ tv rfl ?_
      refine vif hF (fun _ hF => ?_) (fun _ hF => ?_)
      ·refine Dz.tt (b := true) rfl rfl ?_
       refine Dz.seq (Dz.reg (Dz.ret ?_))
       cases hF
       exact finG [] [] rfl rfl (mv rfl) tv rfl
      ·refine bdE hF (fun y18 hy18 hF => ?_)
       refine callG [] (i_in_c hy18) ⟨mv rfl, mv rfl, mv rfl, tv⟩ tv rfl ?_
       refine Dz.ite rfl hF (fun _ hF => ?_) (fun _ hF => ?_)
       ·refine Dz.seq (Dz.reg (Dz.ret ?_))
        cases hF
        exact finG [] [] rfl rfl (mv rfl) tv rfl
       ·refine Dz.skip (Dz.reg ?_)
        refine vsucc (by omega) ?_
        exact ⟨(), entG [0] ⟨mp rfl, mv rfl, mv rfl, mv rfl, tv⟩ ⟨⟨rfl, o_box rfl⟩, tv⟩ rfl, hF⟩
def i_SrvOk (a0 : Server) : Option (Bool) :=
 jn (fun (v2 : Bool) => cond v2 (some false) (loopN (fun i4 (v8 : Unit) κ9 => lt (a0.Copies.getD i4 default) (fun x10 => (i_copyOk x10).bind (fun y11 => cond (!y11) (some false) (cond (decide ((0 : Int) < ((i4 : Nat) : Int))) (ix a0.Copies (((i4 : Nat) : Int) - 1) (fun x12 => cond (decide (x10.Range ≤ x12.Range)) (some false) (κ9 ()))) (κ9 ()))))) (fun (v8 : Unit) => loopN (fun i14 (v23 : Unit) κ24 => lt (a0.Doing.getD i14 default) (fun x25 => (i_isRange x25.Range).bind (fun y26 => cond (!y26) (some false) ((i_in x25.View 1 99999).bind (fun y27 => cond (!y27) (some false) ((i_isClient x25.Client).bind (fun y28 => cond (!y28) (some false) ((i_in x25.Call 1 99999).bind (fun y29 => cond (!y29) (some false) ((i_in x25.Disk 1 99999).bind (fun y30 => cond (!y30) (some false) ((i_in x25.Epoch 1 99999).bind (fun y31 => cond (!y31) (some false) ((i_in x25.Block 0 99999).bind (fun y32 => cond (!y32) (some false) (κ24 ())))))))))))))))) (fun (v23 : Unit) => some true) a0.Doing.length 0 ()) a0.Copies.length 0 ())) (fun j33 => (i_isServer a0.Id).bind (fun y34 => cond (!y34) (j33 true) (cond a0.Up (cond a0.Gone (j33 true) ((i_in a0.Round 0 12498).bind (fun y35 => cond (!y35) (j33 true) ((i_SynVoterOk a0.Voter).bind (fun y36 => cond (!y36) (j33 true) ((i_SynSeekerOk a0.Seek).bind (fun y37 => cond (!y37) (j33 true) ((i_cmdsOk a0.Log 60).bind (fun y38 => cond (!y38) (j33 true) ((i_cmdsOk a0.Wants 12).bind (fun y39 => cond (!y39) (j33 true) (cond (decide ((3 : Int) < ((a0.Copies.length : Nat) : Int))) (j33 true) (j33 (decide ((12 : Int) < ((a0.Doing.length : Nat) : Int)))))))))))))))) ((i_in a0.Round 0 12498).bind (fun y42 => cond (!y42) (j33 true) ((i_SynVoterOk a0.Voter).bind (fun y43 => cond (!y43) (j33 true) ((i_SynSeekerOk a0.Seek).bind (fun y44 => cond (!y44) (j33 true) ((i_cmdsOk a0.Log 60).bind (fun y45 => cond (!y45) (j33 true) ((i_cmdsOk a0.Wants 12).bind (fun y46 => cond (!y46) (j33 true) (cond (decide ((3 : Int) < ((a0.Copies.length : Nat) : Int))) (j33 true) (j33 (decide ((12 : Int) < ((a0.Doing.length : Nat) : Int))))))))))))))))))
theorem i_SrvOk_c {t0_33 t0_34 t0_35 t0_5 t0_6 t0_7 : Bool} {a0 : Server} {r : Bool} (hF : i_SrvOk a0 = some r) : Con Tryz.prog 45 [.val true (.u (cI a0.Id) :: .u (.bool a0.Up) :: .u (.bool a0.Gone) :: .u (cI a0.Round) :: .u (cI a0.Voter.Promised) :: .u (ul SynPaper.c 12 t0_5 a0.Voter.Papers) :: .u (ul Cmd.c 10 t0_6 a0.Log) :: .u (ul SrvCopy.c 6 t0_7 a0.Copies) :: .u (cI a0.Seek.Slot) :: .u (cI a0.Seek.Ballot) :: .u (cI a0.Seek.Phase) :: .u (cI a0.Seek.Mine.Kind) :: .u (cI a0.Seek.Mine.Client) :: .u (cI a0.Seek.Mine.Call) :: .u (cI a0.Seek.Mine.Disk) :: .u (cI a0.Seek.Mine.Arg) :: .u (cI a0.Seek.Mine.Epoch) :: .u (cI a0.Seek.Mine.Range) :: .u (cI a0.Seek.Mine.Num) :: .u (cI a0.Seek.Mine.A) :: .u (cI a0.Seek.Mine.B) :: .u (cI a0.Seek.Best.Slot) :: .u (cI a0.Seek.Best.Ballot) :: .u (cI a0.Seek.Best.Cmd.Kind) :: .u (cI a0.Seek.Best.Cmd.Client) :: .u (cI a0.Seek.Best.Cmd.Call) :: .u (cI a0.Seek.Best.Cmd.Disk) :: .u (cI a0.Seek.Best.Cmd.Arg) :: .u (cI a0.Seek.Best.Cmd.Epoch) :: .u (cI a0.Seek.Best.Cmd.Range) :: .u (cI a0.Seek.Best.Cmd.Num) :: .u (cI a0.Seek.Best.Cmd.A) :: .u (cI a0.Seek.Best.Cmd.B) :: .u (ul cInt 1 t0_33 a0.Seek.Yes) :: .u (ul Cmd.c 10 t0_34 a0.Wants) :: .u (ul SrvDoing.c 8 t0_35 a0.Doing) :: [])] [] (vbool r) [] := by
 refine Con.of_Dz tabOk Tryz.func45 rfl rfl rfl ?_
 delta i_SrvOk at hF
 refine Dz.seq (Dz.reg (Dz.seq ?_))
 refine Dz.jn hF (fun v2 => ([(1, .ptr 0 0), (60, vbool v2)], [.box 63 (.u (cI a0.Id) :: .u (.bool a0.Up) :: .u (.bool a0.Gone) :: .u (cI a0.Round) :: .u (cI a0.Voter.Promised) :: .u (ul SynPaper.c 12 t0_5 a0.Voter.Papers) :: .u (ul Cmd.c 10 t0_6 a0.Log) :: .u (ul SrvCopy.c 6 t0_7 a0.Copies) :: .u (cI a0.Seek.Slot) :: .u (cI a0.Seek.Ballot) :: .u (cI a0.Seek.Phase) :: .u (cI a0.Seek.Mine.Kind) :: .u (cI a0.Seek.Mine.Client) :: .u (cI a0.Seek.Mine.Call) :: .u (cI a0.Seek.Mine.Disk) :: .u (cI a0.Seek.Mine.Arg) :: .u (cI a0.Seek.Mine.Epoch) :: .u (cI a0.Seek.Mine.Range) :: .u (cI a0.Seek.Mine.Num) :: .u (cI a0.Seek.Mine.A) :: .u (cI a0.Seek.Mine.B) :: .u (cI a0.Seek.Best.Slot) :: .u (cI a0.Seek.Best.Ballot) :: .u (cI a0.Seek.Best.Cmd.Kind) :: .u (cI a0.Seek.Best.Cmd.Client) :: .u (cI a0.Seek.Best.Cmd.Call) :: .u (cI a0.Seek.Best.Cmd.Disk) :: .u (cI a0.Seek.Best.Cmd.Arg) :: .u (cI a0.Seek.Best.Cmd.Epoch) :: .u (cI a0.Seek.Best.Cmd.Range) :: .u (cI a0.Seek.Best.Cmd.Num) :: .u (cI a0.Seek.Best.Cmd.A) :: .u (cI a0.Seek.Best.Cmd.B) :: .u (ul cInt 1 t0_33 a0.Seek.Yes) :: .u (ul Cmd.c 10 t0_34 a0.Wants) :: .u (ul SrvDoing.c 8 t0_35 a0.Doing) :: [])])) (fun v2 hF => ?_) (fun hF => ?_)
 ·refine Dz.ite rfl hF (fun _ hF => ?_) (fun _ hF => ?_)
  ·refine Dz.seq (Dz.reg (Dz.ret ?_))
   cases hF
   exact finG [] [] rfl rfl (mv rfl) tv rfl
  ·refine Dz.skip (Dz.seq (Dz.seq (Dz.reg ?_)))
   intro hb3; replace hb3 : a0.Copies.length ≤ 140737488355328 := hb3
   refine Dz.blk ?_
   refine Dz.cnt hF (fun i4 v8 => ([(1, .ptr 0 0), (62, .val false [.u (ul SrvCopy.c 6 t0_7 a0.Copies)]), (63, vint .i64 ((a0.Copies.length : Nat) : Int)), (64, vint .i64 ((i4 : Nat) : Int))], [.box 63 (.u (cI a0.Id) :: .u (.bool a0.Up) :: .u (.bool a0.Gone) :: .u (cI a0.Round) :: .u (cI a0.Voter.Promised) :: .u (ul SynPaper.c 12 t0_5 a0.Voter.Papers) :: .u (ul Cmd.c 10 t0_6 a0.Log) :: .u (ul SrvCopy.c 6 t0_7 a0.Copies) :: .u (cI a0.Seek.Slot) :: .u (cI a0.Seek.Ballot) :: .u (cI a0.Seek.Phase) :: .u (cI a0.Seek.Mine.Kind) :: .u (cI a0.Seek.Mine.Client) :: .u (cI a0.Seek.Mine.Call) :: .u (cI a0.Seek.Mine.Disk) :: .u (cI a0.Seek.Mine.Arg) :: .u (cI a0.Seek.Mine.Epoch) :: .u (cI a0.Seek.Mine.Range) :: .u (cI a0.Seek.Mine.Num) :: .u (cI a0.Seek.Mine.A) :: .u (cI a0.Seek.Mine.B) :: .u (cI a0.Seek.Best.Slot) :: .u (cI a0.Seek.Best.Ballot) :: .u (cI a0.Seek.Best.Cmd.Kind) :: .u (cI a0.Seek.Best.Cmd.Client) :: .u (cI a0.Seek.Best.Cmd.Call) :: .u (cI a0.Seek.Best.Cmd.Disk) :: .u (cI a0.Seek.Best.Cmd.Arg) :: .u (cI a0.Seek.Best.Cmd.Epoch) :: .u (cI a0.Seek.Best.Cmd.Range) :: .u (cI a0.Seek.Best.Cmd.Num) :: .u (cI a0.Seek.Best.Cmd.A) :: .u (cI a0.Seek.Best.Cmd.B) :: .u (ul cInt 1 t0_33 a0.Seek.Yes) :: .u (ul Cmd.c 10 t0_34 a0.Wants) :: .u (ul SrvDoing.c 8 t0_35 a0.Doing) :: [])])) (entG [0] ⟨mp rfl, mv rfl, mv rfl, mv rfl, tv⟩ ⟨⟨rfl, o_box rfl⟩, tv⟩ rfl) (fun v8 hF => ?_) (fun i4 v8 κ9 hi0i4 hi1i4 hF => ?_)
   ·refine Dz.seq (Dz.reg (Dz.seq ?_))
    refine Dz.ff (b := decide (((0 + a0.Copies.length : Nat) : Int) < ((a0.Copies.length : Nat) : Int))) rfl (decide_eq_false (by omega)) ?_
    refine Dz.exit (Dz.seq (Dz.seq (Dz.reg ?_)))
    intro hb13; replace hb13 : a0.Doing.length ≤ 140737488355328 := hb13
    refine Dz.blk ?_
    refine Dz.cnt hF (fun i14 v23 => ([(90, .val false [.u (ul SrvDoing.c 8 t0_35 a0.Doing)]), (91, vint .i64 ((a0.Doing.length : Nat) : Int)), (92, vint .i64 ((i14 : Nat) : Int))], [])) (entG [] ⟨mv rfl, mv rfl, mv rfl, tv⟩ tv rfl) (fun v23 hF => ?_) (fun i14 v23 κ24 hi0i14 hi1i14 hF => ?_)
    ·refine Dz.seq (Dz.reg (Dz.seq ?_))
     refine Dz.ff (b := decide (((0 + a0.Doing.length : Nat) : Int) < ((a0.Doing.length : Nat) : Int))) rfl (decide_eq_false (by omega)) ?_
     refine Dz.exit (Dz.seq (Dz.reg (Dz.ret ?_)))
     cases hF
     exact finG [] [] rfl rfl (mv rfl) tv rfl
    ·refine Dz.seq (Dz.reg (Dz.seq ?_))
     refine Dz.tt (b := decide (((i14 : Nat) : Int) < ((a0.Doing.length : Nat) : Int))) rfl (decide_eq_true (by omega)) ?_
     refine Dz.skip (Dz.seq (Dz.blk (Dz.seq (Dz.reg ?_))))
     refine vge (n := ((i14 : Nat) : Int)) (hi := (a0.Doing.length : Int)) (by omega) (by omega) ?_
     have hF := ltE hF
     refine Dz.seq (Dz.reg ?_)
     refine bdE hF (fun y26 hy26 hF => ?_)
     refine callG [] (i_isRange_c hy26) ⟨mv rfl, tv⟩ tv rfl ?_
     refine vif hF (fun _ hF => ?_) (fun _ hF => ?_)
     ·refine Dz.tt (b := true) rfl rfl ?_
      refine Dz.seq (Dz.reg (Dz.ret ?_))
      cases hF
      exact finG [] [] rfl rfl (mv rfl) tv rfl
     ·refine bdE hF (fun y27 hy27 hF => ?_)
      refine callG [] (i_in_c hy27) ⟨mv rfl, mv rfl, mv rfl, tv⟩ tv rfl ?_
      refine vif hF (fun _ hF => ?_) (fun _ hF => ?_)
      ·refine Dz.tt (b := true) rfl rfl ?_
       refine Dz.seq (Dz.reg (Dz.ret ?_))
       cases hF
       exact finG [] [] rfl rfl (mv rfl) tv rfl
      ·refine bdE hF (fun y28 hy28 hF => ?_)
       refine callG [] (i_isClient_c hy28) ⟨mv rfl, tv⟩ tv rfl ?_
       refine vif hF (fun _ hF => ?_) (fun _ hF => ?_)
       ·refine Dz.tt (b := true) rfl rfl ?_
        refine Dz.seq (Dz.reg (Dz.ret ?_))
        cases hF
        exact finG [] [] rfl rfl (mv rfl) tv rfl
       ·refine bdE hF (fun y29 hy29 hF => ?_)
        refine callG [] (i_in_c hy29) ⟨mv rfl, mv rfl, mv rfl, tv⟩ tv rfl ?_
        refine vif hF (fun _ hF => ?_) (fun _ hF => ?_)
        ·refine Dz.tt (b := true) rfl rfl ?_
         refine Dz.seq (Dz.reg (Dz.ret ?_))
         cases hF
         exact finG [] [] rfl rfl (mv rfl) tv rfl
        ·refine bdE hF (fun y30 hy30 hF => ?_)
         refine callG [] (i_in_c hy30) ⟨mv rfl, mv rfl, mv rfl, tv⟩ tv rfl ?_
         refine vif hF (fun _ hF => ?_) (fun _ hF => ?_)
         ·refine Dz.tt (b := true) rfl rfl ?_
          refine Dz.seq (Dz.reg (Dz.ret ?_))
          cases hF
          exact finG [] [] rfl rfl (mv rfl) tv rfl
         ·refine bdE hF (fun y31 hy31 hF => ?_)
          refine callG [] (i_in_c hy31) ⟨mv rfl, mv rfl, mv rfl, tv⟩ tv rfl ?_
          refine vif hF (fun _ hF => ?_) (fun _ hF => ?_)
          ·refine Dz.tt (b := true) rfl rfl ?_
           refine Dz.seq (Dz.reg (Dz.ret ?_))
           cases hF
           exact finG [] [] rfl rfl (mv rfl) tv rfl
          ·refine bdE hF (fun y32 hy32 hF => ?_)
           refine callG [] (i_in_c hy32) ⟨mv rfl, mv rfl, mv rfl, tv⟩ tv rfl ?_
           refine Dz.ite rfl hF (fun _ hF => ?_) (fun _ hF => ?_)
           ·refine Dz.seq (Dz.reg (Dz.ret ?_))
            cases hF
            exact finG [] [] rfl rfl (mv rfl) tv rfl
           ·refine Dz.skip (Dz.reg ?_)
            refine vsucc (by omega) ?_
            exact ⟨(), entG [] ⟨mv rfl, mv rfl, mv rfl, tv⟩ tv rfl, hF⟩
   ·refine Dz.seq (Dz.reg (Dz.seq ?_))
    refine Dz.tt (b := decide (((i4 : Nat) : Int) < ((a0.Copies.length : Nat) : Int))) rfl (decide_eq_true (by omega)) ?_
    refine Dz.skip (Dz.seq (Dz.blk (Dz.seq (Dz.reg ?_))))
    refine vge (n := ((i4 : Nat) : Int)) (hi := (a0.Copies.length : Int)) (by omega) (by omega) ?_
    have hF := ltE hF
    refine Dz.seq ?_
    refine Dz.drw 2 [⟨[], [1], 2, 2⟩, ⟨[], [], 2, 2⟩, ⟨[], [], 2, 2⟩, ⟨[], [], 2, 2⟩, ⟨[], [], 2, 2⟩, ⟨[], [], 2, 2⟩, ⟨[], [], 2, 2⟩, ⟨[78,79,83,84], [], 2, 2⟩, ⟨[78,79,83,84], [0], 2, 2⟩, ⟨[76,77,83,84], [], 2, 2⟩, ⟨[76,77,83,84], [], 2, 2⟩, ⟨[83,84], [], 2, 2⟩, ⟨[83,84], [], 2, 2⟩, ⟨[83,84], [], 2, 2⟩, ⟨[76,77,78,79,80,81,82], [], 2, 2⟩, ⟨[76,77,78,79,80,81,82], [1], 2, 2⟩, ⟨[], [], 2, 2⟩, ⟨[], [], 2, 2⟩, ⟨[], [], 2, 2⟩] ⟨by kernel_rfl, by kernel_rfl, rfl⟩ ?_
    refine bdE hF (fun y11 hy11 hF => ?_)
    refine callG [] (i_copyOk_c hy11) ⟨mv rfl, tv⟩ tv rfl ?_
    refine vif hF (fun _ hF => ?_) (fun _ hF => ?_)
    ·refine Dz.tt (b := true) rfl rfl ?_
     refine Dz.seq (Dz.reg (Dz.ret ?_))
     cases hF
     exact finG [] [] rfl rfl (mv rfl) tv rfl
    ·refine vif hF (fun _ hF => ?_) (fun _ hF => ?_)
     ·refine ⟨(((i4 : Nat) : Int) - 1), wrap64 (by omega) (by omega), ?_⟩
      refine vix hF (fun _ _ hF => ?_)
      refine Dz.ite rfl hF (fun _ hF => ?_) (fun _ hF => ?_)
      ·refine Dz.seq (Dz.reg (Dz.ret ?_))
       cases hF
       exact finG [] [] rfl rfl (mv rfl) tv rfl
      ·refine Dz.skip (Dz.reg ?_)
       refine vsucc (by omega) ?_
       exact ⟨(), entG [0] ⟨mp rfl, mv rfl, mv rfl, mv rfl, tv⟩ ⟨⟨rfl, o_box rfl⟩, tv⟩ rfl, hF⟩
     ·refine Dz.ff (b := false) rfl rfl ?_
      refine Dz.skip (Dz.reg ?_)
      refine vsucc (by omega) ?_
      exact ⟨(), entG [0] ⟨mp rfl, mv rfl, mv rfl, mv rfl, tv⟩ ⟨⟨rfl, o_box rfl⟩, tv⟩ rfl, hF⟩
 ·refine Dz.reg ?_
  refine bdE hF (fun y34 hy34 hF => ?_)
  refine callG [] (i_isServer_c hy34) ⟨mv rfl, tv⟩ tv rfl ?_
  refine vif hF (fun _ hF => ?_) (fun _ hF => ?_)
  ·exact ⟨true, entG [0] ⟨mp rfl, mv rfl, tv⟩ ⟨⟨rfl, o_box rfl⟩, tv⟩ rfl, hF⟩
  ·refine vif hF (fun _ hF => ?_) (fun _ hF => ?_)
   ·refine vif hF (fun _ hF => ?_) (fun _ hF => ?_)
    ·exact ⟨true, entG [0] ⟨mp rfl, mv rfl, tv⟩ ⟨⟨rfl, o_box rfl⟩, tv⟩ rfl, hF⟩
    ·refine bdE hF (fun y35 hy35 hF => ?_)
     refine callG [] (i_in_c hy35) ⟨mv rfl, mv rfl, mv rfl, tv⟩ tv rfl ?_
     refine vif hF (fun _ hF => ?_) (fun _ hF => ?_)
     ·exact ⟨true, entG [0] ⟨mp rfl, mv rfl, tv⟩ ⟨⟨rfl, o_box rfl⟩, tv⟩ rfl, hF⟩
     ·refine bdE hF (fun y36 hy36 hF => ?_)
      refine callG [] (i_SynVoterOk_c hy36) ⟨mv rfl, tv⟩ tv rfl ?_
      refine vif hF (fun _ hF => ?_) (fun _ hF => ?_)
      ·exact ⟨true, entG [0] ⟨mp rfl, mv rfl, tv⟩ ⟨⟨rfl, o_box rfl⟩, tv⟩ rfl, hF⟩
      ·refine bdE hF (fun y37 hy37 hF => ?_)
       refine callG [] (i_SynSeekerOk_c hy37) ⟨mv rfl, tv⟩ tv rfl ?_
       refine vif hF (fun _ hF => ?_) (fun _ hF => ?_)
       ·exact ⟨true, entG [0] ⟨mp rfl, mv rfl, tv⟩ ⟨⟨rfl, o_box rfl⟩, tv⟩ rfl, hF⟩
       ·refine bdE hF (fun y38 hy38 hF => ?_)
        refine callG [] (i_cmdsOk_c hy38) ⟨mv rfl, mv rfl, tv⟩ tv rfl ?_
        refine vif hF (fun _ hF => ?_) (fun _ hF => ?_)
        ·exact ⟨true, entG [0] ⟨mp rfl, mv rfl, tv⟩ ⟨⟨rfl, o_box rfl⟩, tv⟩ rfl, hF⟩
        ·refine bdE hF (fun y39 hy39 hF => ?_)
         refine callG [] (i_cmdsOk_c hy39) ⟨mv rfl, mv rfl, tv⟩ tv rfl ?_
         refine vif hF (fun _ hF => ?_) (fun _ hF => ?_)
         ·exact ⟨true, entG [0] ⟨mp rfl, mv rfl, tv⟩ ⟨⟨rfl, o_box rfl⟩, tv⟩ rfl, hF⟩
         ·intro hb40; replace hb40 : a0.Copies.length ≤ 140737488355328 := hb40
          refine vif hF (fun _ hF => ?_) (fun _ hF => ?_)
          ·exact ⟨true, entG [0] ⟨mp rfl, mv rfl, tv⟩ ⟨⟨rfl, o_box rfl⟩, tv⟩ rfl, hF⟩
          ·intro hb41; replace hb41 : a0.Doing.length ≤ 140737488355328 := hb41
           exact ⟨(decide ((12 : Int) < ((a0.Doing.length : Nat) : Int))), entG [0] ⟨mp rfl, mv rfl, tv⟩ ⟨⟨rfl, o_box rfl⟩, tv⟩ rfl, hF⟩
   ·refine bdE hF (fun y42 hy42 hF => ?_)
    refine callG [] (i_in_c hy42) ⟨mv rfl, mv rfl, mv rfl, tv⟩ tv rfl ?_
    refine vif hF (fun _ hF => ?_) (fun _ hF => ?_)
    ·exact ⟨true, entG [0] ⟨mp rfl, mv rfl, tv⟩ ⟨⟨rfl, o_box rfl⟩, tv⟩ rfl, hF⟩
    ·refine bdE hF (fun y43 hy43 hF => ?_)
     refine callG [] (i_SynVoterOk_c hy43) ⟨mv rfl, tv⟩ tv rfl ?_
     refine vif hF (fun _ hF => ?_) (fun _ hF => ?_)
     ·exact ⟨true, entG [0] ⟨mp rfl, mv rfl, tv⟩ ⟨⟨rfl, o_box rfl⟩, tv⟩ rfl, hF⟩
     ·refine bdE hF (fun y44 hy44 hF => ?_)
      refine callG [] (i_SynSeekerOk_c hy44) ⟨mv rfl, tv⟩ tv rfl ?_
      refine vif hF (fun _ hF => ?_) (fun _ hF => ?_)
      ·exact ⟨true, entG [0] ⟨mp rfl, mv rfl, tv⟩ ⟨⟨rfl, o_box rfl⟩, tv⟩ rfl, hF⟩
      ·refine bdE hF (fun y45 hy45 hF => ?_)
       refine callG [] (i_cmdsOk_c hy45) ⟨mv rfl, mv rfl, tv⟩ tv rfl ?_
       refine vif hF (fun _ hF => ?_) (fun _ hF => ?_)
       ·exact ⟨true, entG [0] ⟨mp rfl, mv rfl, tv⟩ ⟨⟨rfl, o_box rfl⟩, tv⟩ rfl, hF⟩
       ·refine bdE hF (fun y46 hy46 hF => ?_)
        refine callG [] (i_cmdsOk_c hy46) ⟨mv rfl, mv rfl, tv⟩ tv rfl ?_
        refine vif hF (fun _ hF => ?_) (fun _ hF => ?_)
        ·exact ⟨true, entG [0] ⟨mp rfl, mv rfl, tv⟩ ⟨⟨rfl, o_box rfl⟩, tv⟩ rfl, hF⟩
        ·intro hb47; replace hb47 : a0.Copies.length ≤ 140737488355328 := hb47
         refine vif hF (fun _ hF => ?_) (fun _ hF => ?_)
         ·exact ⟨true, entG [0] ⟨mp rfl, mv rfl, tv⟩ ⟨⟨rfl, o_box rfl⟩, tv⟩ rfl, hF⟩
         ·intro hb48; replace hb48 : a0.Doing.length ≤ 140737488355328 := hb48
          exact ⟨(decide ((12 : Int) < ((a0.Doing.length : Nat) : Int))), entG [0] ⟨mp rfl, mv rfl, tv⟩ ⟨⟨rfl, o_box rfl⟩, tv⟩ rfl, hF⟩
def i_isPlace (a0 : Int) : Option (Bool) :=
 (i_isServer a0).bind (fun y1 => cond y1 (some true) ((i_isClient (w64 (a0 - 100))).bind (fun y2 => some y2)))
theorem i_isPlace_c {a0 : Int} {r : Bool} (hF : i_isPlace a0 = some r) : Con Tryz.prog 89 [vint .i64 a0] [] (vbool r) [] := by
 refine Con.of_Dz tabOk Tryz.func89 rfl rfl rfl ?_
 delta i_isPlace at hF
 refine Dz.seq (Dz.reg (Dz.seq (Dz.reg ?_)))
 refine bdE hF (fun y1 hy1 hF => ?_)
 refine callG [] (i_isServer_c hy1) ⟨mv rfl, tv⟩ tv rfl ?_
 refine vif hF (fun _ hF => ?_) (fun _ hF => ?_)
 ·refine Dz.ret ?_
  cases hF
  exact finG [] [] rfl rfl (mv rfl) tv rfl
 ·refine vw64 ?_
  refine bdE hF (fun y2 hy2 hF => ?_)
  refine callG [] (i_isClient_c hy2) ⟨mv rfl, tv⟩ tv rfl ?_
  refine Dz.ret ?_
  cases hF
  exact finG [] [] rfl rfl (mv rfl) tv rfl
def i_piecesNumbers (a0 : (List BlkPiece)) : Option ((List Int)) :=
 loopN (fun i3 (v8 : List Int) κ9 => lt (a0.getD i3 default) (fun x10 => ck ((v8.length + 4) * 8 ≤ 140737488355328) (κ9 (v8 ++ ([x10.Disk, x10.Block, x10.Epoch, x10.Data] : List Int))))) (fun (v8 : List Int) => some v8) a0.length 0 ([((a0.length : Nat) : Int)] : List Int)
theorem i_piecesNumbers_c {t0_0 : Bool} {a0 : (List BlkPiece)} {r : (List Int)} (hF : i_piecesNumbers a0 = some r) : Con Tryz.prog 133 [.val false [.u (ul BlkPiece.c 4 t0_0 a0)]] [] (.val false [.row 0]) [.row 3 r.length 1 (gl cInt r)] := by
 refine Con.of_Dz tabOk Tryz.func133 rfl rfl rfl ?_
 delta i_piecesNumbers at hF
 refine Dz.seq (Dz.reg (Dz.seq (Dz.reg ?_)))
 intro hb1; replace hb1 : a0.length ≤ 140737488355328 := hb1
 refine Dz.row 0 ([((a0.length : Nat) : Int)] : List Int).length (gl cInt ([((a0.length : Nat) : Int)] : List Int)) rfl (by simp <;> omega) (EqG.lit (c := cInt) (sz := 1) (L := ([((a0.length : Nat) : Int)] : List Int)) ⟨lr, tv⟩) ?_
 refine Dz.seq (Dz.seq (Dz.reg ?_))
 intro hb2; replace hb2 : a0.length ≤ 140737488355328 := hb2
 refine Dz.blk ?_
 refine Dz.cnt hF (fun i3 v8 => ([(3, .val false [.row 0]), (9, .val false [.u (ul BlkPiece.c 4 t0_0 a0)]), (10, vint .i64 ((a0.length : Nat) : Int)), (11, vint .i64 ((i3 : Nat) : Int))], [.row 3 v8.length 1 (gl cInt v8)])) (entG [0] ⟨⟨rfl, rfl, tv⟩, mv rfl, mv rfl, mv rfl, tv⟩ ⟨⟨rfl, o_row⟩, tv⟩ rfl) (fun v8 hF => ?_) (fun i3 v8 κ9 hi0i3 hi1i3 hF => ?_)
 ·refine Dz.seq (Dz.reg (Dz.seq ?_))
  refine Dz.ff (b := decide (((0 + a0.length : Nat) : Int) < ((a0.length : Nat) : Int))) rfl (decide_eq_false (by omega)) ?_
  refine Dz.exit (Dz.seq (Dz.reg (Dz.ret ?_)))
  cases hF
  exact finG [] [0] rfl rfl (⟨rfl, rfl, tv⟩) ⟨⟨rfl, o_row⟩, tv⟩ rfl
 ·refine Dz.seq (Dz.reg (Dz.seq ?_))
  refine Dz.tt (b := decide (((i3 : Nat) : Int) < ((a0.length : Nat) : Int))) rfl (decide_eq_true (by omega)) ?_
  refine Dz.skip (Dz.seq (Dz.blk (Dz.seq (Dz.reg ?_))))
  refine vge (n := ((i3 : Nat) : Int)) (hi := (a0.length : Int)) (by omega) (by omega) ?_
  have hF := ltE hF
  refine Dz.reg ?_
  refine vck hF id (fun _ hF => ?_)
  refine Dz.row 2 ([(a0.getD i3 default).Disk, (a0.getD i3 default).Block, (a0.getD i3 default).Epoch, (a0.getD i3 default).Data] : List Int).length (gl cInt ([(a0.getD i3 default).Disk, (a0.getD i3 default).Block, (a0.getD i3 default).Epoch, (a0.getD i3 default).Data] : List Int)) rfl (by simp <;> omega) (EqG.lit (c := cInt) (sz := 1) (L := ([(a0.getD i3 default).Disk, (a0.getD i3 default).Block, (a0.getD i3 default).Epoch, (a0.getD i3 default).Data] : List Int)) ⟨lr, lr, lr, lr, tv⟩) ?_
  refine Dz.row 3 (v8 ++ ([(a0.getD i3 default).Disk, (a0.getD i3 default).Block, (a0.getD i3 default).Epoch, (a0.getD i3 default).Data] : List Int)).length (gl cInt (v8 ++ ([(a0.getD i3 default).Disk, (a0.getD i3 default).Block, (a0.getD i3 default).Epoch, (a0.getD i3 default).Data] : List Int))) rfl (by simp <;> omega) (EqG.app rfl (by simp <;> omega) (EqG.refl _ _ _) (EqG.lit (c := cInt) (sz := 1) (L := ([(a0.getD i3 default).Disk, (a0.getD i3 default).Block, (a0.getD i3 default).Epoch, (a0.getD i3 default).Data] : List Int)) ⟨lr, lr, lr, lr, tv⟩)) ?_
  refine Dz.reg ?_
  refine vsucc (by omega) ?_
  exact ⟨(v8 ++ ([(a0.getD i3 default).Disk, (a0.getD i3 default).Block, (a0.getD i3 default).Epoch, (a0.getD i3 default).Data] : List Int)), entG [3] ⟨⟨rfl, rfl, tv⟩, mv rfl, mv rfl, mv rfl, tv⟩ ⟨⟨rfl, o_row⟩, tv⟩ rfl, hF⟩
def i_lastNumbers (a0 : (List BlkLast)) : Option ((List Int)) :=
 loopN (fun i3 (v8 : List Int) κ9 => lt (a0.getD i3 default) (fun x10 => ck ((v8.length + 2) * 8 ≤ 140737488355328) (κ9 (v8 ++ ([x10.Client, x10.Call] : List Int))))) (fun (v8 : List Int) => some v8) a0.length 0 ([((a0.length : Nat) : Int)] : List Int)
theorem i_lastNumbers_c {t0_0 : Bool} {a0 : (List BlkLast)} {r : (List Int)} (hF : i_lastNumbers a0 = some r) : Con Tryz.prog 134 [.val false [.u (ul BlkLast.c 2 t0_0 a0)]] [] (.val false [.row 0]) [.row 3 r.length 1 (gl cInt r)] := by
 refine Con.of_Dz tabOk Tryz.func134 rfl rfl rfl ?_
 delta i_lastNumbers at hF
 refine Dz.seq (Dz.reg (Dz.seq (Dz.reg ?_)))
 intro hb1; replace hb1 : a0.length ≤ 140737488355328 := hb1
 refine Dz.row 0 ([((a0.length : Nat) : Int)] : List Int).length (gl cInt ([((a0.length : Nat) : Int)] : List Int)) rfl (by simp <;> omega) (EqG.lit (c := cInt) (sz := 1) (L := ([((a0.length : Nat) : Int)] : List Int)) ⟨lr, tv⟩) ?_
 refine Dz.seq (Dz.seq (Dz.reg ?_))
 intro hb2; replace hb2 : a0.length ≤ 140737488355328 := hb2
 refine Dz.blk ?_
 refine Dz.cnt hF (fun i3 v8 => ([(3, .val false [.row 0]), (9, .val false [.u (ul BlkLast.c 2 t0_0 a0)]), (10, vint .i64 ((a0.length : Nat) : Int)), (11, vint .i64 ((i3 : Nat) : Int))], [.row 3 v8.length 1 (gl cInt v8)])) (entG [0] ⟨⟨rfl, rfl, tv⟩, mv rfl, mv rfl, mv rfl, tv⟩ ⟨⟨rfl, o_row⟩, tv⟩ rfl) (fun v8 hF => ?_) (fun i3 v8 κ9 hi0i3 hi1i3 hF => ?_)
 ·refine Dz.seq (Dz.reg (Dz.seq ?_))
  refine Dz.ff (b := decide (((0 + a0.length : Nat) : Int) < ((a0.length : Nat) : Int))) rfl (decide_eq_false (by omega)) ?_
  refine Dz.exit (Dz.seq (Dz.reg (Dz.ret ?_)))
  cases hF
  exact finG [] [0] rfl rfl (⟨rfl, rfl, tv⟩) ⟨⟨rfl, o_row⟩, tv⟩ rfl
 ·refine Dz.seq (Dz.reg (Dz.seq ?_))
  refine Dz.tt (b := decide (((i3 : Nat) : Int) < ((a0.length : Nat) : Int))) rfl (decide_eq_true (by omega)) ?_
  refine Dz.skip (Dz.seq (Dz.blk (Dz.seq (Dz.reg ?_))))
  refine vge (n := ((i3 : Nat) : Int)) (hi := (a0.length : Int)) (by omega) (by omega) ?_
  have hF := ltE hF
  refine Dz.reg ?_
  refine vck hF id (fun _ hF => ?_)
  refine Dz.row 2 ([(a0.getD i3 default).Client, (a0.getD i3 default).Call] : List Int).length (gl cInt ([(a0.getD i3 default).Client, (a0.getD i3 default).Call] : List Int)) rfl (by simp <;> omega) (EqG.lit (c := cInt) (sz := 1) (L := ([(a0.getD i3 default).Client, (a0.getD i3 default).Call] : List Int)) ⟨lr, lr, tv⟩) ?_
  refine Dz.row 3 (v8 ++ ([(a0.getD i3 default).Client, (a0.getD i3 default).Call] : List Int)).length (gl cInt (v8 ++ ([(a0.getD i3 default).Client, (a0.getD i3 default).Call] : List Int))) rfl (by simp <;> omega) (EqG.app rfl (by simp <;> omega) (EqG.refl _ _ _) (EqG.lit (c := cInt) (sz := 1) (L := ([(a0.getD i3 default).Client, (a0.getD i3 default).Call] : List Int)) ⟨lr, lr, tv⟩)) ?_
  refine Dz.reg ?_
  refine vsucc (by omega) ?_
  exact ⟨(v8 ++ ([(a0.getD i3 default).Client, (a0.getD i3 default).Call] : List Int)), entG [3] ⟨⟨rfl, rfl, tv⟩, mv rfl, mv rfl, mv rfl, tv⟩ ⟨⟨rfl, o_row⟩, tv⟩ rfl, hF⟩
def i_wordNumbers (a0 : Word) : Option ((List Int)) :=
 (i_cmdNumbers a0.Cmd).bind (fun y1 => ck ((([a0.Kind, a0.From, a0.To, a0.Ballot, a0.Slot, a0.Was] : List Int).length + y1.length) * 8 ≤ 140737488355328) (ck (((([a0.Kind, a0.From, a0.To, a0.Ballot, a0.Slot, a0.Was] : List Int) ++ y1).length + 8) * 8 ≤ 140737488355328) ((i_piecesNumbers a0.Pieces).bind (fun y2 => ck ((((([a0.Kind, a0.From, a0.To, a0.Ballot, a0.Slot, a0.Was] : List Int) ++ y1) ++ ([a0.Range, a0.View, a0.Client, a0.Call, a0.Disk, a0.Block, a0.Epoch, a0.Data] : List Int)).length + y2.length) * 8 ≤ 140737488355328) ((i_lastNumbers a0.Last).bind (fun y3 => ck (((((([a0.Kind, a0.From, a0.To, a0.Ballot, a0.Slot, a0.Was] : List Int) ++ y1) ++ ([a0.Range, a0.View, a0.Client, a0.Call, a0.Disk, a0.Block, a0.Epoch, a0.Data] : List Int)) ++ y2).length + y3.length) * 8 ≤ 140737488355328) (some ((((([a0.Kind, a0.From, a0.To, a0.Ballot, a0.Slot, a0.Was] : List Int) ++ y1) ++ ([a0.Range, a0.View, a0.Client, a0.Call, a0.Disk, a0.Block, a0.Epoch, a0.Data] : List Int)) ++ y2) ++ y3))))))))
theorem i_wordNumbers_c {t0_24 t0_25 : Bool} {a0 : Word} {r : (List Int)} (hF : i_wordNumbers a0 = some r) : Con Tryz.prog 94 [.val true [.u (cI a0.Kind), .u (cI a0.From), .u (cI a0.To), .u (cI a0.Ballot), .u (cI a0.Slot), .u (cI a0.Was), .u (cI a0.Cmd.Kind), .u (cI a0.Cmd.Client), .u (cI a0.Cmd.Call), .u (cI a0.Cmd.Disk), .u (cI a0.Cmd.Arg), .u (cI a0.Cmd.Epoch), .u (cI a0.Cmd.Range), .u (cI a0.Cmd.Num), .u (cI a0.Cmd.A), .u (cI a0.Cmd.B), .u (cI a0.Range), .u (cI a0.View), .u (cI a0.Client), .u (cI a0.Call), .u (cI a0.Disk), .u (cI a0.Block), .u (cI a0.Epoch), .u (cI a0.Data), .u (ul BlkPiece.c 4 t0_24 a0.Pieces), .u (ul BlkLast.c 2 t0_25 a0.Last)]] [] (.val false [.row 0]) [.row 3 r.length 1 (gl cInt r)] := by
 refine Con.of_Dz tabOk Tryz.func94 rfl rfl rfl ?_
 delta i_wordNumbers at hF
 refine Dz.seq (Dz.reg (Dz.seq (Dz.reg ?_)))
 refine Dz.row 1 ([a0.Kind, a0.From, a0.To, a0.Ballot, a0.Slot, a0.Was] : List Int).length (gl cInt ([a0.Kind, a0.From, a0.To, a0.Ballot, a0.Slot, a0.Was] : List Int)) rfl (by simp <;> omega) (EqG.lit (c := cInt) (sz := 1) (L := ([a0.Kind, a0.From, a0.To, a0.Ballot, a0.Slot, a0.Was] : List Int)) ⟨lr, lr, lr, lr, lr, lr, tv⟩) ?_
 refine Dz.seq (Dz.reg ?_)
 refine bdE hF (fun y1 hy1 hF => ?_)
 refine callG [] (i_cmdNumbers_c hy1) ⟨mv rfl, tv⟩ tv rfl ?_
 refine vck hF id (fun _ hF => ?_)
 refine Dz.row 3 (([a0.Kind, a0.From, a0.To, a0.Ballot, a0.Slot, a0.Was] : List Int) ++ y1).length (gl cInt (([a0.Kind, a0.From, a0.To, a0.Ballot, a0.Slot, a0.Was] : List Int) ++ y1)) rfl (by simp <;> omega) (EqG.app rfl rfl (EqG.refl _ _ _) (EqG.refl _ _ _)) ?_
 refine Dz.seq (Dz.reg ?_)
 refine vck hF id (fun _ hF => ?_)
 refine Dz.row 4 ([a0.Range, a0.View, a0.Client, a0.Call, a0.Disk, a0.Block, a0.Epoch, a0.Data] : List Int).length (gl cInt ([a0.Range, a0.View, a0.Client, a0.Call, a0.Disk, a0.Block, a0.Epoch, a0.Data] : List Int)) rfl (by simp <;> omega) (EqG.lit (c := cInt) (sz := 1) (L := ([a0.Range, a0.View, a0.Client, a0.Call, a0.Disk, a0.Block, a0.Epoch, a0.Data] : List Int)) ⟨lr, lr, lr, lr, lr, lr, lr, lr, tv⟩) ?_
 refine Dz.row 5 ((([a0.Kind, a0.From, a0.To, a0.Ballot, a0.Slot, a0.Was] : List Int) ++ y1) ++ ([a0.Range, a0.View, a0.Client, a0.Call, a0.Disk, a0.Block, a0.Epoch, a0.Data] : List Int)).length (gl cInt ((([a0.Kind, a0.From, a0.To, a0.Ballot, a0.Slot, a0.Was] : List Int) ++ y1) ++ ([a0.Range, a0.View, a0.Client, a0.Call, a0.Disk, a0.Block, a0.Epoch, a0.Data] : List Int))) rfl (by simp <;> omega) (EqG.app rfl (by simp <;> omega) (EqG.refl _ _ _) (EqG.lit (c := cInt) (sz := 1) (L := ([a0.Range, a0.View, a0.Client, a0.Call, a0.Disk, a0.Block, a0.Epoch, a0.Data] : List Int)) ⟨lr, lr, lr, lr, lr, lr, lr, lr, tv⟩)) ?_
 refine Dz.seq (Dz.reg ?_)
 refine bdE hF (fun y2 hy2 hF => ?_)
 refine callG [] (i_piecesNumbers_c hy2) ⟨mv rfl, tv⟩ tv rfl ?_
 refine vck hF id (fun _ hF => ?_)
 refine Dz.row 7 (((([a0.Kind, a0.From, a0.To, a0.Ballot, a0.Slot, a0.Was] : List Int) ++ y1) ++ ([a0.Range, a0.View, a0.Client, a0.Call, a0.Disk, a0.Block, a0.Epoch, a0.Data] : List Int)) ++ y2).length (gl cInt (((([a0.Kind, a0.From, a0.To, a0.Ballot, a0.Slot, a0.Was] : List Int) ++ y1) ++ ([a0.Range, a0.View, a0.Client, a0.Call, a0.Disk, a0.Block, a0.Epoch, a0.Data] : List Int)) ++ y2)) rfl (by simp <;> omega) (EqG.app rfl rfl (EqG.refl _ _ _) (EqG.refl _ _ _)) ?_
 refine Dz.seq (Dz.reg ?_)
 refine bdE hF (fun y3 hy3 hF => ?_)
 refine callG [] (i_lastNumbers_c hy3) ⟨mv rfl, tv⟩ tv rfl ?_
 refine vck hF id (fun _ hF => ?_)
 refine Dz.ret ?_
 cases hF
 exact finG [] [9] rfl rfl (⟨rfl, rfl, tv⟩) ⟨⟨rfl, o_rowE (by simp <;> omega) (EqG.app rfl rfl (EqG.refl _ _ _) (EqG.refl _ _ _))⟩, tv⟩ rfl
def i_WordOk (a0 : Word) : Option (Bool) :=
 (i_in a0.Kind 1 15).bind (fun y1 => cond y1 ((i_isPlace a0.From).bind (fun y2 => cond y2 ((i_isPlace a0.To).bind (fun y3 => cond y3 ((i_cmdOk a0.Cmd).bind (fun y4 => cond y4 ((i_BlkOk a0.Pieces).bind (fun y5 => cond y5 ((i_lastOk a0.Last).bind (fun y6 => cond y6 ((i_wordNumbers a0).bind (fun y7 => (i_numbersOk y7).bind (fun y8 => some y8))) (some false))) (some false))) (some false))) (some false))) (some false))) (some false))
theorem i_WordOk_c {t0_24 t0_25 : Bool} {a0 : Word} {r : Bool} (hF : i_WordOk a0 = some r) : Con Tryz.prog 46 [.val true [.u (cI a0.Kind), .u (cI a0.From), .u (cI a0.To), .u (cI a0.Ballot), .u (cI a0.Slot), .u (cI a0.Was), .u (cI a0.Cmd.Kind), .u (cI a0.Cmd.Client), .u (cI a0.Cmd.Call), .u (cI a0.Cmd.Disk), .u (cI a0.Cmd.Arg), .u (cI a0.Cmd.Epoch), .u (cI a0.Cmd.Range), .u (cI a0.Cmd.Num), .u (cI a0.Cmd.A), .u (cI a0.Cmd.B), .u (cI a0.Range), .u (cI a0.View), .u (cI a0.Client), .u (cI a0.Call), .u (cI a0.Disk), .u (cI a0.Block), .u (cI a0.Epoch), .u (cI a0.Data), .u (ul BlkPiece.c 4 t0_24 a0.Pieces), .u (ul BlkLast.c 2 t0_25 a0.Last)]] [] (vbool r) [] := by
 refine Con.of_Dz tabOk Tryz.func46 rfl rfl rfl ?_
 delta i_WordOk at hF
 refine Dz.seq (Dz.reg (Dz.seq (Dz.reg ?_)))
 refine bdE hF (fun y1 hy1 hF => ?_)
 refine callG [] (i_in_c hy1) ⟨mv rfl, mv rfl, mv rfl, tv⟩ tv rfl ?_
 refine vif hF (fun _ hF => ?_) (fun _ hF => ?_)
 ·refine bdE hF (fun y2 hy2 hF => ?_)
  refine callG [] (i_isPlace_c hy2) ⟨mv rfl, tv⟩ tv rfl ?_
  refine vif hF (fun _ hF => ?_) (fun _ hF => ?_)
  ·refine bdE hF (fun y3 hy3 hF => ?_)
   refine callG [] (i_isPlace_c hy3) ⟨mv rfl, tv⟩ tv rfl ?_
   refine vif hF (fun _ hF => ?_) (fun _ hF => ?_)
   ·refine bdE hF (fun y4 hy4 hF => ?_)
    refine callG [] (i_cmdOk_c hy4) ⟨mv rfl, tv⟩ tv rfl ?_
    refine vif hF (fun _ hF => ?_) (fun _ hF => ?_)
    ·refine bdE hF (fun y5 hy5 hF => ?_)
     refine callG [] (i_BlkOk_c hy5) ⟨mv rfl, tv⟩ tv rfl ?_
     refine vif hF (fun _ hF => ?_) (fun _ hF => ?_)
     ·refine bdE hF (fun y6 hy6 hF => ?_)
      refine callG [] (i_lastOk_c hy6) ⟨mv rfl, tv⟩ tv rfl ?_
      refine vif hF (fun _ hF => ?_) (fun _ hF => ?_)
      ·refine bdE hF (fun y7 hy7 hF => ?_)
       refine callG [] (i_wordNumbers_c hy7) ⟨mv rfl, tv⟩ tv rfl ?_
       refine bdE hF (fun y8 hy8 hF => ?_)
       refine callL [] (i_numbersOk_c hy8) ⟨⟨rfl, ⟨rfl, rfl, lr⟩, tv⟩, tv⟩ tv rfl ⟨⟨tv, tv⟩, tv⟩ ?_
       refine Dz.ret ?_
       cases hF
       exact finG [] [] rfl rfl (mv rfl) tv rfl
      ·refine Dz.ret ?_
       cases hF
       exact finG [] [] rfl rfl (mv rfl) tv rfl
     ·refine Dz.ret ?_
      cases hF
      exact finG [] [] rfl rfl (mv rfl) tv rfl
    ·refine Dz.ret ?_
     cases hF
     exact finG [] [] rfl rfl (mv rfl) tv rfl
   ·refine Dz.ret ?_
    cases hF
    exact finG [] [] rfl rfl (mv rfl) tv rfl
  ·refine Dz.ret ?_
   cases hF
   exact finG [] [] rfl rfl (mv rfl) tv rfl
 ·refine Dz.ret ?_
  cases hF
  exact finG [] [] rfl rfl (mv rfl) tv rfl
def i_PanOk (a0 : PanWorld) : Option (Bool) :=
 (i_in a0.Time 0 99999).bind (fun y1 => cond (!y1) (some false) (cond (!decide (((a0.Servers.length : Nat) : Int) = 5)) (some false) (cond (decide ((60 : Int) < ((a0.Radio.length : Nat) : Int))) (some false) ((i_callsOk a0.Calls a0.Time).bind (fun y4 => cond (!y4) (some false) (loopN (fun i6 (v9 : Unit) κ10 => lt (a0.Servers.getD i6 default) (fun x11 => cond (!decide (x11.Id = ((i6 : Nat) : Int))) (some false) ((i_SrvOk x11).bind (fun y12 => cond (!y12) (some false) (κ10 ()))))) (fun (v9 : Unit) => loopN (fun i14 (v17 : Unit) κ18 => lt (a0.Radio.getD i14 default) (fun x19 => (i_WordOk x19).bind (fun y20 => cond (!y20) (some false) (κ18 ())))) (fun (v17 : Unit) => some true) a0.Radio.length 0 ()) a0.Servers.length 0 ()))))))
theorem i_PanOk_c {t0_1 t0_2 t0_3 : Bool} {a0 : PanWorld} {r : Bool} (hF : i_PanOk a0 = some r) : Con Tryz.prog 21 [.val true [.u (cI a0.Time), .u (ul Server.c 36 t0_1 a0.Servers), .u (ul Word.c 26 t0_2 a0.Radio), .u (ul PanCall.c 12 t0_3 a0.Calls)]] [] (vbool r) [] := by
 refine Con.of_Dz tabOk Tryz.func21 rfl rfl rfl ?_
 delta i_PanOk at hF
 refine Dz.seq (Dz.reg (Dz.seq (Dz.seq (Dz.reg ?_))))
 refine bdE hF (fun y1 hy1 hF => ?_)
 refine callG [] (i_in_c hy1) ⟨mv rfl, mv rfl, mv rfl, tv⟩ tv rfl ?_
 refine vif hF (fun _ hF => ?_) (fun _ hF => ?_)
 ·refine Dz.tt (b := true) rfl rfl ?_
  refine Dz.seq (Dz.reg (Dz.ret ?_))
  cases hF
  exact finG [] [] rfl rfl (mv rfl) tv rfl
 ·intro hb2; replace hb2 : a0.Servers.length ≤ 140737488355328 := hb2
  refine vif hF (fun _ hF => ?_) (fun _ hF => ?_)
  ·refine Dz.tt (b := true) rfl rfl ?_
   refine Dz.seq (Dz.reg (Dz.ret ?_))
   cases hF
   exact finG [] [] rfl rfl (mv rfl) tv rfl
  ·intro hb3; replace hb3 : a0.Radio.length ≤ 140737488355328 := hb3
   refine vif hF (fun _ hF => ?_) (fun _ hF => ?_)
   ·refine Dz.tt (b := true) rfl rfl ?_
    refine Dz.seq (Dz.reg (Dz.ret ?_))
    cases hF
    exact finG [] [] rfl rfl (mv rfl) tv rfl
   ·refine bdE hF (fun y4 hy4 hF => ?_)
    refine callG [] (i_callsOk_c hy4) ⟨mv rfl, mv rfl, tv⟩ tv rfl ?_
    refine Dz.ite rfl hF (fun _ hF => ?_) (fun _ hF => ?_)
    ·refine Dz.seq (Dz.reg (Dz.ret ?_))
     cases hF
     exact finG [] [] rfl rfl (mv rfl) tv rfl
    ·refine Dz.skip (Dz.seq (Dz.seq (Dz.reg ?_)))
     intro hb5; replace hb5 : a0.Servers.length ≤ 140737488355328 := hb5
     refine Dz.blk ?_
     refine Dz.cnt hF (fun i6 v9 => ([(1, .ptr 0 0), (32, .val false [.u (ul Server.c 36 t0_1 a0.Servers)]), (33, vint .i64 ((a0.Servers.length : Nat) : Int)), (34, vint .i64 ((i6 : Nat) : Int))], [.box 33 [.u (cI a0.Time), .u (ul Server.c 36 t0_1 a0.Servers), .u (ul Word.c 26 t0_2 a0.Radio), .u (ul PanCall.c 12 t0_3 a0.Calls)]])) (entG [0] ⟨mp rfl, mv rfl, mv rfl, mv rfl, tv⟩ ⟨⟨rfl, o_box rfl⟩, tv⟩ rfl) (fun v9 hF => ?_) (fun i6 v9 κ10 hi0i6 hi1i6 hF => ?_)
     ·refine Dz.seq (Dz.reg (Dz.seq ?_))
      refine Dz.ff (b := decide (((0 + a0.Servers.length : Nat) : Int) < ((a0.Servers.length : Nat) : Int))) rfl (decide_eq_false (by omega)) ?_
      refine Dz.exit (Dz.seq (Dz.seq (Dz.reg ?_)))
      intro hb13; replace hb13 : a0.Radio.length ≤ 140737488355328 := hb13
      refine Dz.blk ?_
      refine Dz.cnt hF (fun i14 v17 => ([(50, .val false [.u (ul Word.c 26 t0_2 a0.Radio)]), (51, vint .i64 ((a0.Radio.length : Nat) : Int)), (52, vint .i64 ((i14 : Nat) : Int))], [])) (entG [] ⟨mv rfl, mv rfl, mv rfl, tv⟩ tv rfl) (fun v17 hF => ?_) (fun i14 v17 κ18 hi0i14 hi1i14 hF => ?_)
      ·refine Dz.seq (Dz.reg (Dz.seq ?_))
       refine Dz.ff (b := decide (((0 + a0.Radio.length : Nat) : Int) < ((a0.Radio.length : Nat) : Int))) rfl (decide_eq_false (by omega)) ?_
       refine Dz.exit (Dz.seq (Dz.reg (Dz.ret ?_)))
       cases hF
       exact finG [] [] rfl rfl (mv rfl) tv rfl
      ·refine Dz.seq (Dz.reg (Dz.seq ?_))
       refine Dz.tt (b := decide (((i14 : Nat) : Int) < ((a0.Radio.length : Nat) : Int))) rfl (decide_eq_true (by omega)) ?_
       refine Dz.skip (Dz.seq (Dz.blk (Dz.seq (Dz.reg ?_))))
       refine vge (n := ((i14 : Nat) : Int)) (hi := (a0.Radio.length : Int)) (by omega) (by omega) ?_
       have hF := ltE hF
       refine Dz.seq (Dz.reg ?_)
       refine bdE hF (fun y20 hy20 hF => ?_)
       refine callG [] (i_WordOk_c hy20) ⟨mv rfl, tv⟩ tv rfl ?_
       refine Dz.ite rfl hF (fun _ hF => ?_) (fun _ hF => ?_)
       ·refine Dz.seq (Dz.reg (Dz.ret ?_))
        cases hF
        exact finG [] [] rfl rfl (mv rfl) tv rfl
       ·refine Dz.skip (Dz.reg ?_)
        refine vsucc (by omega) ?_
        exact ⟨(), entG [] ⟨mv rfl, mv rfl, mv rfl, tv⟩ tv rfl, hF⟩
     ·refine Dz.seq (Dz.reg (Dz.seq ?_))
      refine Dz.tt (b := decide (((i6 : Nat) : Int) < ((a0.Servers.length : Nat) : Int))) rfl (decide_eq_true (by omega)) ?_
      refine Dz.skip (Dz.seq (Dz.blk (Dz.seq (Dz.reg ?_))))
      refine vge (n := ((i6 : Nat) : Int)) (hi := (a0.Servers.length : Int)) (by omega) (by omega) ?_
      have hF := ltE hF
      refine Dz.seq (Dz.reg ?_)
      refine vif hF (fun _ hF => ?_) (fun _ hF => ?_)
      ·refine Dz.tt (b := true) rfl rfl ?_
       refine Dz.seq (Dz.reg (Dz.ret ?_))
       cases hF
       exact finG [] [] rfl rfl (mv rfl) tv rfl
      ·refine bdE hF (fun y12 hy12 hF => ?_)
       refine callG [] (i_SrvOk_c hy12) ⟨mv rfl, tv⟩ tv rfl ?_
       refine Dz.ite rfl hF (fun _ hF => ?_) (fun _ hF => ?_)
       ·refine Dz.seq (Dz.reg (Dz.ret ?_))
        cases hF
        exact finG [] [] rfl rfl (mv rfl) tv rfl
       ·refine Dz.skip (Dz.reg ?_)
        refine vsucc (by omega) ?_
        exact ⟨(), entG [0] ⟨mp rfl, mv rfl, mv rfl, mv rfl, tv⟩ ⟨⟨rfl, o_box rfl⟩, tv⟩ rfl, hF⟩
end Go.Proofs.PanB

namespace Go.Vs
open Go.Shelf Go.RowKit Go.Sort Go.Lib Go.Proofs
def Heir (w : World) (v v' : Value) : Prop := ∀ b, v'.ownBlock = some b → v.ownBlock = some b ∨ w.heap.size ≤ b
def Kp (w : World) (v : Value) (w' : World) : Prop := w.heap.size ≤ w'.heap.size ∧ ∀ k, k < w.heap.size → v.ownBlock ≠ some k → w'.heap[k]? = w.heap[k]?
theorem Heir.trans {w w1 : World} {v v1 v2 : Value} (h : Heir w v v1) (hs : w.heap.size ≤ w1.heap.size) (k : Heir w1 v1 v2) : Heir w v v2 := fun b hb => by
 rcases k b hb with h1 | h1
 ·exact h b h1
 ·exact .inr (by omega)
theorem Kp.trans {w w1 w2 : World} {v v1 : Value} (h : Kp w v w1) (hh : Heir w v v1) (k : Kp w1 v1 w2) : Kp w v w2 := by
 have h1 := h.1; have h2 := k.1
 refine ⟨Nat.le_trans h1 h2, fun b hb hn => ?_⟩
 rw [k.2 b (by omega) (fun e => by
  rcases hh b e with h3 | h3
  ·exact hn h3
  ·omega)]
 exact h.2 b hb hn
theorem Kp.grown {w w' : World} {v : Value} (h : w.grownBy w' v.ownBlock) : Kp w v w' := ⟨h.size, fun k hk hn => h.block k hk fun e => hn e.symm⟩
section
variable {P : Program}
theorem app_str_heir (w : World) (t u ty e : TypeId) (i : TypeInfo) (ht : P.underlying t = some (.slice e)) (hu : P.underlying u = some .string) (hi : P.info? e = some i) (hz : i.zero = some (.int .u8 0))
  (hsize : i.size = 1) (hby : i.bytes = 1) (base : Nat) (v : Value) (n : Nat) (xs : List Value) (hown : w.ownsRow base e 1 v n xs) (s : ByteArray)
  (h63 : n + s.size ≤ maxLen) (hbytes : n + s.size ≤ 140737488355328) {v' : Value} {w' : World} (hr : (Builtin.append_ #[t, u] ty #[v, .string s]).run P w = .ok v' w') : Heir w v v' := by
 have hsmall : n + s.size ≤ 9223372036854775807 := by simp only [maxLen] at h63; omega
 have hxl : xs.length = n := by simpa using hown.1
 rcases hown.2 with ⟨rfl, rfl⟩ | ⟨g, cap, cur, rfl, hbg, hg, hnc, hcm, hcs, htake⟩
 ·by_cases hm : s.size = 0
  ·have hf := run_firstCells_string (P := P) w 1 s
   rw [hm] at hf
   have : (Builtin.append_ #[t, u] ty #[.slice none 0 0, .string s]).run P w = .ok (.slice none 0 0) w := by
    simp [Builtin.append_, run_underlying ht, run_underlying hu, sizeOf, typeInfo, hi, hsize, Builtin.lenOf, hm, hf]
   rw [this] at hr
   cases hr
   intro b hb; cases hb
  ·have hr2 := run_append_nil_string (P := P) w t u ty e i (.int .u8 0) ht hu hi hz s (by omega) (by omega) (by rw [hby]; omega)
   rw [hr2] at hr
   cases hr
   intro b hb
   simp [Value.ownBlock] at hb
   exact .inr (by omega)
 ·by_cases hroom : n + s.size ≤ cap
  ·have hcs' : cur.size = cap := by simpa using hcs
   have hr2 := run_append_room_string (P := P) w t u ty e i ht hu hi hsize g n cap cur hg s hroom (by omega)
   rw [hr2] at hr
   cases hr
   intro b hb
   exact .inl hb
  ·have holds : ∀ j u, xs[j]? = some u → w.cell? ((⟨g, 0, none⟩ : Addr).add j) = some u := hown.cells (g := g) rfl
   have hr2 := run_append_grow_string (P := P) w t u ty e i (.int .u8 0) ht hu hi hz ⟨g, 0, none⟩ n cap xs (by rw [hsize]; simpa using hxl) holds s (by omega) (by omega) (by rw [hby]; exact growslice_fits (by omega) (by omega))
   rw [hr2] at hr
   cases hr
   intro b hb
   simp [Value.ownBlock] at hb
   exact .inr (by omega)
theorem wpl_app_str {w : World} {ops : Array Oper} {rest : List Oper} {o : Oper} {a : Act} {Q : Exit → Act → World → Prop} (hgd : o.guard = none) (sl x : Operand) (t u : TypeId)
  (ho : o.op = .call { callee := .builtin .append, args := #[sl, x], argTypes := #[t, u] })
  (base : Nat) (e : TypeId) (i : TypeInfo) (ht : P.underlying t = some (.slice e)) (hu : P.underlying u = some .string) (hi : P.info? e = some i) (hz : i.zero = some (.int .u8 0))
  (hsize : i.size = 1) (hby : i.bytes = 1)
  (v : Value) (n : Nat) (xs : List Value) (hs : a.eval sl = v) (hown : w.ownsRow base e 1 v n xs) (s : ByteArray) (hx : a.eval x = .string s)
  (h63 : n + s.size ≤ maxLen) (hbytes : n + s.size ≤ 140737488355328) (hbase : base ≤ w.heap.size)
  (h : ∀ v' w', w'.ownsRow base e 1 v' (n + s.size) (xs ++ strCells s) → w.grownBy w' v.ownBlock → Heir w v v' → wpList P ops Q rest (a.put o.dst v') w') : wpList P ops Q (o :: rest) a w := by
 refine wpList_plain hgd fun K hK => ?_
 obtain ⟨v', w', hr, h2, h3, _⟩ := run_append_own_string (P := P) w base t u o.type e i ht hu hi hz hsize hby v n xs hown s h63 hbytes hbase
 have h4 := app_str_heir w t u o.type e i ht hu hi hz hsize hby base v n xs hown s h63 hbytes hr
 unfold Oper.wp execOp
 simp only [ho, resolve, invoke, builtin, Sem.run_bind, Sem.run_pure, Result.andThen_ok, List.map_toArray, List.map_cons, List.map_nil, hs, hx, hr]
 exact hK _ _ (h v' w' h2 h3 h4)
theorem wpl_app {w : World} {ops : Array Oper} {rest : List Oper} {o : Oper} {a : Act} {Q : Exit → Act → World → Prop} (hgd : o.guard = none) (s x : Operand) (t : TypeId)
  (ho : o.op = .call { callee := .builtin .append, args := #[s, x], argTypes := #[t, t] })
  (base : Nat) (e : TypeId) (i : TypeInfo) (z : Value) (size bytes : Nat) (ht : P.underlying t = some (.slice e)) (hi : P.info? e = some i) (hz : i.zero = some z)
  (hsize : i.size = size) (hby : i.bytes = bytes) (hzs : z.cells.size = size) (hsz : 0 < size)
  (v : Value) (n : Nat) (xs : List Value) (hs : a.eval s = v) (hown : w.ownsRow base e size v n xs)
  (ad : Addr) (m c : Nat) (news : List Value) (hx : a.eval x = .slice (some ad) m c) (hl : news.length = m * size) (hnews : ∀ j u, news[j]? = some u → w.cell? (ad.add j) = some u) (h1 : ∀ u ∈ news, u.oneCell' = true)
  (h63 : n + m ≤ maxLen) (hbytes : (n + m) * bytes ≤ 140737488355328) (hbase : base ≤ w.heap.size)
  (h : ∀ v' w', w'.ownsRow base e size v' (n + m) (xs ++ news) → w.grownBy w' v.ownBlock → Heir w v v' → wpList P ops Q rest (a.put o.dst v') w') : wpList P ops Q (o :: rest) a w := by
 refine wpList_plain hgd fun K hK => ?_
 obtain ⟨v', w', hr, h2, h3, _, h5⟩ := run_append_own_at (P := P) w base t o.type e i z size bytes ht hi hz hsize hby hzs hsz v n xs hown ad m c news hl hnews h1 h63 hbytes hbase
 have h4 : Heir w v v' := fun b hb => by
  rcases h5 with h5 | h5
  ·exact .inl (h5 ▸ hb)
  ·rw [h5] at hb
   cases hb
   exact .inr (Nat.le_refl _)
 unfold Oper.wp execOp
 simp only [ho, resolve, invoke, builtin, Sem.run_bind, Sem.run_pure, Result.andThen_ok, List.map_toArray, List.map_cons, List.map_nil, hs, hx, hr]
 exact hK _ _ (h v' w' h2 h3 h4)
variable {ρ : Ren}
def App (ρ : Ren) (B n : Nat) (sv : Value) (xs : List Value) (w : World) (l : List UInt8) (e : Ending) (w' : World) : Prop :=
 ∃ v', e = .returned v' ∧ w'.ownsRow B (ρ.t 5) 1 v' (n + l.length) (xs ++ byteCells l) ∧ Below B w w' ∧ Kp w sv w' ∧ Heir w sv v'
set_option maxHeartbeats 6400000 in
set_option maxRecDepth 100000 in
theorem appU_small (L : LaysM.n288 P ρ) (B n u : Nat) (hu : u < 100) (sv : Value) (xs : List Value) (w : World) (hown : w.ownsRow B (ρ.t 5) 1 sv n xs) (hBw : B ≤ w.heap.size) (hlim : n + 20 ≤ 140737488355328) :
  Calls P (ρ.f 288) #[sv, .int .u64 u, .int .i64 10] w (App ρ B n sv xs w (decDigits u)) := by
 have mixed := L.mixed
 have t5 := L.t5; have a5 := L.a5; have z5 := L.z5; have v5 := L.v5
 have t37 := L.t37; have u37 := run_underlying L.t37; have a37 := L.a37; have z37 := L.z37; have v37 := L.v37
 have t53 := L.t53; have a53 := L.a53; have z53 := L.z53; have v53 := L.v53
 have t3 := L.t3; have a3 := L.a3; have z3 := L.z3; have v3 := L.v3
 have t4 := L.t4; have a4 := L.a4; have z4 := L.z4; have v4 := L.v4
 have t9 := L.t9; have a9 := L.a9; have z9 := L.z9; have v9 := L.v9
 have t171 := L.t171; have a171 := L.a171; have z171 := L.z171; have v171 := L.v171
 have t0 := L.t0; have a0 := L.a0; have z0 := L.z0; have v0 := L.v0
 have t173 := L.t173; have a173 := L.a173; have z173 := L.z173; have v173 := L.v173
 have e283 : ∀ args w, (callFunc (ρ.f 283) args).run P w = .ok (.enter (ρ.f 283) args) w := enters_of L.f283 (by kernel_rfl) rfl
 obtain ⟨i0, hi, hz0, hz1, hz2⟩ := info_parts L.i5
 have hlen : (decDigits u).length ≤ 20 := by
  rw [decDigits_length]
  by_cases h10 : u < 10
  ·rw [nDigits_small h10]; omega
  ·rw [nDigits_big h10, nDigits_small (show u / 10 < 10 by omega)]; omega
 have hsz : (⟨(decDigits u).toArray⟩ : ByteArray).size = (decDigits u).length := by simp [ByteArray.size]
 go_enter L.f288, Body.n288_ntmps ρ
 go_wp2_with (first
  | (go_at_fn (ρ.f 283); refine (Any.internal_strconv_small { L with } u hu _).mono ?_; rintro e w' ⟨rfl, rfl⟩)
  | (at_builtin; refine wpl_app_str rfl _ _ (ρ.t 37) (ρ.t 9) rfl B (ρ.t 5) i0 L.t37 L.t9 hi hz0 hz1 hz2 _ _ _ rfl hown ⟨(decDigits u).toArray⟩ rfl (by rw [hsz]; unfold maxLen; omega) (by rw [hsz]; omega) hBw ?_))
 intro v' w1 hown' hgrow hheir
 go_wp2
 go_ret
 refine ⟨v', rfl, ?_, (Below.refl B _).grown hgrow hBw (fun k hk => (hown.lt k hk).1), Kp.grown hgrow, hheir⟩
 first | exact hown' | (rw [hsz] at hown'; exact hown')
set_option maxHeartbeats 12800000 in
set_option maxRecDepth 100000 in
theorem appU_big (L : LaysM.n288 P ρ) (B n u : Nat) (hu : 100 ≤ u) (hu64 : u < 18446744073709551616) (sv : Value) (xs : List Value) (w : World) (hown : w.ownsRow B (ρ.t 5) 1 sv n xs) (hBw : B ≤ w.heap.size) (hlim : n + 20 ≤ 140737488355328)
  (htab : TabIs P w "internal/strconv.uint64pow10" .u64 pow10Tab) :
  Calls P (ρ.f 288) #[sv, .int .u64 u, .int .i64 10] w (App ρ B n sv xs w (decDigits u)) := by
 have mixed := L.mixed
 have t5 := L.t5; have a5 := L.a5; have z5 := L.z5; have v5 := L.v5
 have t37 := L.t37; have u37 := run_underlying L.t37; have a37 := L.a37; have z37 := L.z37; have v37 := L.v37
 have t53 := L.t53; have a53 := L.a53; have z53 := L.z53; have v53 := L.v53
 have t3 := L.t3; have a3 := L.a3; have z3 := L.z3; have v3 := L.v3
 have t4 := L.t4; have a4 := L.a4; have z4 := L.z4; have v4 := L.v4
 have t9 := L.t9; have a9 := L.a9; have z9 := L.z9; have v9 := L.v9
 have t171 := L.t171; have a171 := L.a171; have z171 := L.z171; have v171 := L.v171
 have t0 := L.t0; have a0 := L.a0; have z0 := L.z0; have v0 := L.v0
 have t173 := L.t173; have a173 := L.a173; have z173 := L.z173; have v173 := L.v173
 have e284 : ∀ args w, (callFunc (ρ.f 284) args).run P w = .ok (.enter (ρ.f 284) args) w := enters_of L.f284 (by kernel_rfl) rfl
 have e285 : ∀ args w, (callFunc (ρ.f 285) args).run P w = .ok (.enter (ρ.f 285) args) w := enters_of L.f285 (by kernel_rfl) rfl
 obtain ⟨i0, hi, hz0, hz1, hz2⟩ := info_parts L.i5
 have hu1 : 1 ≤ u := by omega
 have hnd20 : nDigits u ≤ 20 := by have := numDigits_eq u hu1 hu64; split at this <;> omega
 have hal : P.arrayLen (ρ.t 171) = 24 := by simp [Program.arrayLen, L.t171]
 have hsl : ∀ W, (Instr.sliceAt (ρ.t 171) (.pointer (some ⟨w.heap.size, 0, none⟩)) none (some (.int .i64 (nDigits u : Int))) none).run P W = .ok (.slice (some ⟨w.heap.size, 0, none⟩) (nDigits u) 24) W := fun W => by
  rw [run_sliceAt_array_h W (ρ.t 171) ⟨w.heap.size, 0, none⟩ (by simp [Program.arrayLen, Program.elem, L.t171]) .i64 (nDigits u : Int) (by omega) (by rw [hal]; omega)]
  go_simp
 have hH0 := holds_zero0 w (ρ.t 171) (nDigits u) (by omega)
 have hfmt := Any.internal_strconv_formatBase10 { L with } w.heap.size 0 24 u (Array.replicate (nDigits u) 0) (w.alloc (.cells zeros24 (ρ.t 171))) hH0 (by rw [Array.size_replicate]; exact lt_pow_nDigits u) hu64 (by rw [Array.size_replicate]; omega)
 rw [Array.size_replicate] at hfmt
 have HH0 := Lib.hid hH0
 have iu : (100 : Int) ≤ (u : Int) := by omega
 clear hH0 hal
 go_enter L.f288, Body.n288_ntmps ρ
 go_wp2_with (first
  | (go_at_fn (ρ.f 284); refine (Any.internal_strconv_numDigits { L with } u hu1 hu64 _ (tabIs_alloc htab _)).mono ?_; rintro e w' ⟨rfl, rfl⟩))
 go_at_fn (ρ.f 285)
 refine hfmt.mono ?_
 rintro e w' ⟨rfl, k, v', dk, rfl, hF⟩
 have hcells : ∀ j u', (byteCells (decDigits u))[j]? = some u' → ((putRow (fun (b : UInt8) => Value.int .u8 (b.toNat : Int)) (w.alloc (.cells zeros24 (ρ.t 171))) w.heap.size 0 dk).drewN k).cell? ((⟨w.heap.size, 0, none⟩ : Addr).add j) = some u' := by
  intro j u' hj
  have hjl : j < (decDigits u).length := by
   have h5 := (List.getElem?_eq_some_iff.1 hj).1
   rwa [byteCells_length] at h5
  have e5 : (byteCells (decDigits u))[j]? = some (Value.int .u8 ((decDigits u)[j].toNat : Int)) := by simp [byteCells, hjl]
  rw [e5] at hj
  cases hj
  rw [row_is_numeral hF j hjl, Lib.add_plain, World.cell?_drewN]
  exact cell?_putRow (fun (b : UInt8) => Value.int .u8 (b.toNat : Int)) _ w.heap.size 0 _ dk HH0.out (by rw [hF.size, Array.size_replicate]) j (by rw [hF.size]; rw [decDigits_length] at hjl; exact hjl)
 obtain ⟨os, eo⟩ := fin_at w (.cells zeros24 (ρ.t 171)) dk k 0
 have hown2 : ((putRow (fun (b : UInt8) => Value.int .u8 (b.toNat : Int)) (w.alloc (.cells zeros24 (ρ.t 171))) w.heap.size 0 dk).drewN k).ownsRow B (ρ.t 5) 1 sv n xs := by rw [eo]; exact ownsRow_grow hown k os
 have hnx2 : Below B w ((putRow (fun (b : UInt8) => Value.int .u8 (b.toNat : Int)) (w.alloc (.cells zeros24 (ρ.t 171))) w.heap.size 0 dk).drewN k) := by rw [eo]; exact below_grow B w hBw k os
 have hok2 : Below w.heap.size w ((putRow (fun (b : UInt8) => Value.int .u8 (b.toNat : Int)) (w.alloc (.cells zeros24 (ρ.t 171))) w.heap.size 0 dk).drewN k) := by rw [eo]; exact below_grow w.heap.size w (Nat.le_refl _) k os
 generalize (putRow (fun (b : UInt8) => Value.int .u8 (b.toNat : Int)) (w.alloc (.cells zeros24 (ρ.t 171))) w.heap.size 0 dk).drewN k = W2 at hcells hown2 hnx2 hok2 ⊢
 have hsz2 := hok2.size
 clear eo HH0 hfmt
 go_wp2_with (at_builtin; refine wpl_app rfl _ _ (ρ.t 37) rfl B (ρ.t 5) i0 (.int .u8 0) 1 1 L.t37 hi hz0 hz1 hz2 rfl (by decide) _ _ _ rfl hown2 ⟨w.heap.size, 0, none⟩ (nDigits u) 24 (byteCells (decDigits u)) rfl ?c0 hcells ?c2 ?c3 ?c4 ?c5 ?_)
 case c0 => rw [byteCells_length, decDigits_length, Nat.mul_one]
 case c2 => intro u' hu'; simp only [byteCells, List.mem_map] at hu'; obtain ⟨b, _, rfl⟩ := hu'; rfl
 case c3 => unfold maxLen; omega
 case c4 => omega
 case c5 => omega
 intro v2 w3 hown' hgrow hheir
 go_wp2
 go_ret
 refine ⟨v2, rfl, ?_, hnx2.grown hgrow (by omega) (fun k hk => (hown2.lt k hk).1), ?_, ?_⟩
 ·rw [decDigits_length]
  exact hown'
 ·refine Kp.trans (v1 := sv) ⟨hsz2, fun k hk _ => hok2.block k hk⟩ (fun b hb => .inl hb) (Kp.grown hgrow)
 ·exact Heir.trans (v1 := sv) (fun b hb => .inl hb) hsz2 hheir
theorem appU (L : LaysM.n288 P ρ) (B n u : Nat) (hu64 : u < 18446744073709551616) (sv : Value) (xs : List Value) (w : World) (hown : w.ownsRow B (ρ.t 5) 1 sv n xs) (hBw : B ≤ w.heap.size) (hlim : n + 20 ≤ 140737488355328)
  (htab : TabIs P w "internal/strconv.uint64pow10" .u64 pow10Tab) :
  Calls P (ρ.f 288) #[sv, .int .u64 u, .int .i64 10] w (App ρ B n sv xs w (decDigits u)) := by
 by_cases h : u < 100
 ·exact appU_small { L with } B n u h sv xs w hown hBw hlim
 ·exact appU_big { L with } B n u (by omega) hu64 sv xs w hown hBw hlim htab
set_option maxHeartbeats 6400000 in
set_option maxRecDepth 100000 in
theorem appI_inner (L : LaysM.n249 P ρ) (B n : Nat) (i : Int) (h0 : -9223372036854775808 ≤ i) (h1 : i ≤ 9223372036854775807) (sv : Value) (xs : List Value) (w : World) (hown : w.ownsRow B (ρ.t 5) 1 sv n xs) (hBw : B ≤ w.heap.size) (hlim : n + 21 ≤ 140737488355328)
  (htab : TabBelow P B w "internal/strconv.uint64pow10" .u64 pow10Tab) :
  Calls P (ρ.f 249) #[sv, .int .i64 i, .int .i64 10] w (App ρ B n sv xs w (itoa i)) := by
 have mixed := L.mixed
 have t5 := L.t5; have a5 := L.a5; have z5 := L.z5; have v5 := L.v5
 have t37 := L.t37; have u37 := run_underlying L.t37; have a37 := L.a37; have z37 := L.z37; have v37 := L.v37
 have t2 := L.t2; have a2 := L.a2; have z2 := L.z2; have v2 := L.v2
 have t3 := L.t3; have a3 := L.a3; have z3 := L.z3; have v3 := L.v3
 have t53 := L.t53; have a53 := L.a53; have z53 := L.z53; have v53 := L.v53
 have t4 := L.t4; have a4 := L.a4; have z4 := L.z4; have v4 := L.v4
 have e288 : ∀ args w, (callFunc (ρ.f 288) args).run P w = .ok (.enter (ρ.f 288) args) w := enters_of L.f288 (by kernel_rfl) rfl
 obtain ⟨i0, hi, hz0, hz1, hz2⟩ := info_parts L.i5
 by_cases hneg : i < 0
 ·obtain ⟨u, rfl⟩ : ∃ u : Nat, i = -(u : Int) := ⟨i.natAbs, by omega⟩
  have hu1 : 1 ≤ u := by omega
  have hu64 : u < 18446744073709551616 := by omega
  have hwr : IntKind.u64.wrap (-IntKind.u64.wrap (-(u : Int))) = (u : Int) := by rw [IntKind.wrap_u64, IntKind.wrap_u64]; omega
  rw [itoa_neg u hu1]
  go_enter L.f249, Body.n249_ntmps ρ
  go_wp2_with (at_builtin; refine wpl_app rfl _ _ (ρ.t 37) rfl B (ρ.t 5) i0 (.int .u8 0) 1 1 L.t37 hi hz0 hz1 hz2 rfl (by decide) _ _ _ rfl (hown.alloc _) ⟨w.heap.size, 0, none⟩ 1 1 [Value.int .u8 45] rfl rfl (by intro j u' hj; match j, hj with | 0, hj => simp at hj; subst hj; simp [Addr.add]) (by intro u' hu'; simp at hu'; subst hu'; rfl) (by unfold maxLen; omega) (by omega) (by simp; omega) ?_)
  intro v1 w1 hown1 hgrow hheir
  have hnx1 : Below B w w1 := ((Below.refl B w).alloc hBw _).grown hgrow (by simp; omega) (fun k hk => (hown.lt k hk).1)
  have hal : Below w.heap.size w (w.alloc (.cells #[.int .u8 45] (ρ.t 5))) := (Below.refl _ w).alloc (Nat.le_refl _) _
  have hkp1 : Kp w sv w1 := Kp.trans (v1 := sv) ⟨hal.size, fun k hk _ => hal.block k hk⟩ (fun b hb => .inl hb) (Kp.grown hgrow)
  have hh1 : Heir w sv v1 := Heir.trans (v1 := sv) (fun b hb => .inl hb) hal.size hheir
  have htab1 : TabIs P w1 "internal/strconv.uint64pow10" .u64 pow10Tab := htab w1 hnx1
  go_wp2_with (go_at_fn (ρ.f 288); refine (appU { L with } B (n + 1) u hu64 v1 _ w1 hown1 (by have := hnx1.size; omega) (by omega) htab1).mono ?_; rintro e w2 ⟨v2, rfl, hown2, hnx2, hkp2, hh2⟩)
  go_wp2
  go_ret
  refine ⟨v2, rfl, ?_, hnx1.trans hnx2, hkp1.trans hh1 hkp2, hh1.trans hkp1.1 hh2⟩
  have e1 : n + ((decDigits u).length + 1) = n + 1 + (decDigits u).length := by omega
  have e2 : xs ++ byteCells (45 :: decDigits u) = xs ++ [Value.int .u8 45] ++ byteCells (decDigits u) := by simp [byteCells]
  rw [List.length_cons, e1, e2]
  exact hown2
 ·obtain ⟨u, rfl⟩ : ∃ u : Nat, i = u := ⟨i.toNat, by omega⟩
  have hu64 : u < 18446744073709551616 := by omega
  rw [itoa_nonneg]
  go_enter L.f249, Body.n249_ntmps ρ
  go_wp2_with (go_at_fn (ρ.f 288); refine (appU { L with } B n u hu64 sv xs w hown hBw (by omega) htab.here).mono ?_; rintro e w2 ⟨v2, rfl, hown2, hnx2, hok2⟩)
  go_wp2
  first | go_ret | go_ret2
  exact ⟨v2, rfl, hown2, hnx2, hok2⟩
set_option maxRecDepth 100000 in
theorem appI (L : LaysM.n176 P ρ) (B n : Nat) (i : Int) (h0 : -9223372036854775808 ≤ i) (h1 : i ≤ 9223372036854775807) (sv : Value) (xs : List Value) (w : World) (hown : w.ownsRow B (ρ.t 5) 1 sv n xs) (hBw : B ≤ w.heap.size) (hlim : n + 21 ≤ 140737488355328)
  (htab : TabBelow P B w "internal/strconv.uint64pow10" .u64 pow10Tab) :
  Calls P (ρ.f 176) #[sv, .int .i64 i, .int .i64 10] w (App ρ B n sv xs w (itoa i)) := by
 have mixed := L.mixed
 have t5 := L.t5; have a5 := L.a5; have z5 := L.z5; have v5 := L.v5
 have t37 := L.t37; have u37 := run_underlying L.t37; have a37 := L.a37; have z37 := L.z37; have v37 := L.v37
 have t2 := L.t2; have a2 := L.a2; have z2 := L.z2; have v2 := L.v2
 have t3 := L.t3; have a3 := L.a3; have z3 := L.z3; have v3 := L.v3
 have e249 : ∀ args w, (callFunc (ρ.f 249) args).run P w = .ok (.enter (ρ.f 249) args) w := enters_of L.f249 (by kernel_rfl) rfl
 go_enter L.f176, Body.n176_ntmps ρ
 go_wp2_with (go_at_fn (ρ.f 249); refine (appI_inner { L with } B n i h0 h1 sv xs w hown hBw hlim htab).mono ?_; rintro e w2 ⟨v2, rfl, hown2, hnx2, hok2⟩)
 go_wp2
 go_ret
 exact ⟨v2, rfl, hown2, hnx2, hok2⟩
def appNum (a0 : List Int) (a1 a2 : Int) : Option (List Int) :=
 ck (a2 = 10 ∧ (-9223372036854775808 ≤ a1 ∧ a1 ≤ 9223372036854775807) ∧ a0.length + 21 ≤ 140737488355328) (some (a0 ++ (itoa a1).map fun b => (b.toNat : Int)))
theorem appI_con [Glob P] (hgl : ∀ {B : Nat} {w : World}, Glob.ok P B w → TabBelow P B w "internal/strconv.uint64pow10" .u64 pow10Tab) (L : LaysM.n176 P ρ) {f e : Nat} (hf : ρ.f 176 = f) (he : ρ.t 5 = e)
  (hen : ∀ (vals : Array Value) (w : World), (callFunc f vals).run P w = .ok (.enter f vals) w) {a0 : List Int} {a1 a2 : Int} {r : List Int} (hF : appNum a0 a1 a2 = some r) :
  Con P f [.val false [.row 0], vint .i64 a1, vint .i64 a2] [.row e a0.length 1 (gl cInt_u8 a0)] (.val false [.row 1]) [.none, .row e r.length 1 (gl cInt_u8 r)] := by
 subst hf; subst he
 unfold appNum ck at hF
 split at hF
 case isFalse => cases hF
 rename_i hck
 obtain ⟨rfl, ⟨b1, b2⟩, b3⟩ := hck
 cases hF
 refine ⟨hen, fun w0 g0 vals hp hg => ?_⟩
 match vals, hp.args with
 | [], h => exact h.elim
 | [_], h => exact h.2.elim
 | [_, _], h => exact h.2.2.elim
 | _ :: _ :: _ :: _ :: _, h => exact h.2.2.2.elim
 | [v0, v1, v2], ⟨h1, h2, h3, _⟩ =>
  have k1 : RL w0 g0 (.row 0) v0 := RV.cell h1
  have k2 : v1 = .int .i64 a1 := RV.cell h2
  have k3 : v2 = .int .i64 10 := RV.cell h3
  subst k2; subst k3
  obtain ⟨hd, rfl, hone⟩ := k1
  obtain ⟨q1, q2, ⟨cs, hown, hcs⟩, hom⟩ := hp.objs 0 (by simp)
  obtain ⟨B, hB1, hB2, hB3⟩ := hg
  have hown' : w0.ownsRow B (ρ.t 5) 1 (g0.rv 0) a0.length cs := by
   refine ⟨hown.1, ?_⟩
   rcases hown.2 with hn | ⟨gb, cap, cur, e1, e2, rest⟩
   ·exact .inl hn
   ·exact .inr ⟨gb, cap, cur, e1, hB2 gb (by show g0.om gb ≠ none; rw [hom gb (by rw [e1]; rfl)]; exact fun e => by cases e), rest⟩
  refine (appI L B a0.length a1 b1 b2 (g0.rv 0) cs w0 hown' hB1 b3 (hgl hB3)).mono ?_
  rintro e w ⟨v', rfl, hown2, hbel, hkp, hheir⟩
  let g : Gh := { Fz := g0.Fz, Tz := g0.Tz, om := fun b => if v'.ownBlock = some b then some 1 else none, rv := fun r => if r = 0 then g0.rv 0 else v', df := fun r => r < 2 }
  have hnom : ∀ b, (∀ r, g0.om b ≠ some r) → b < w0.heap.size → v'.ownBlock ≠ some b := fun b hb hlt e => by
   rcases hheir b e with h4 | h4
   ·exact hb 0 (hom b h4)
   ·omega
  have hone' : v'.oneCell' = true := by
   rcases hown2.2 with ⟨e1, _⟩ | ⟨gb, cap, cur, e1, _⟩ <;> rw [e1] <;> rfl
  refine ⟨v', g, rfl, ?_⟩
  refine ⟨?_, ?_, fun r => ?_, by simp, fun b hb => ?_, rfl, fun b hb => ?_, fun b r hb => ?_, fun r hr => ?_, hbel.os, hbel.tape, hbel.output, hkp.1, fun k hk hn => ?_⟩
  ·exact ⟨[v'], rfl, ⟨by show (1 : Nat) < 2; omega, rfl, hone'⟩, trivial⟩
  ·intro r hr
   match r, hr with
   | 0, _ => exact trivial
   | 1, _ =>
    show RO w g 1 (.row (ρ.t 5) _ 1 _)
    have hlen : (a0 ++ (itoa a1).map fun b => (b.toNat : Int)).length = a0.length + (itoa a1).length := by simp
    refine ⟨by omega, ?_, ⟨cs ++ byteCells (itoa a1), ?_, fun i hi j hj => ?_⟩, fun b hb => ?_⟩
    ·have : (itoa a1).length ≤ 21 := itoa_length_le a1 b1 b2
     rw [hlen]; unfold bound; omega
    ·have h5 := hown2
     rw [hlen]
     refine ⟨h5.1, ?_⟩
     rcases h5.2 with hn | ⟨gb, cap, cur, e1, e2, rest⟩
     ·exact .inl hn
     ·exact .inr ⟨gb, cap, cur, e1, Nat.zero_le _, rest⟩
    ·obtain rfl : j = 0 := by omega
     have hcl : cs.length = a0.length := by simpa using hown.1
     rw [Nat.mul_one, Nat.add_zero]
     show ∃ x, (cs ++ byteCells (itoa a1))[i]? = some x ∧ x = Value.int .u8 ((a0 ++ (itoa a1).map fun b => (b.toNat : Int)).getD i default)
     by_cases hlt : i < a0.length
     ·obtain ⟨x, hx, hu⟩ := hcs i hlt 0 (by omega)
      rw [Nat.mul_one, Nat.add_zero] at hx
      refine ⟨x, by rw [List.getElem?_append_left (by omega)]; exact hx, ?_⟩
      have hu' : x = .int .u8 (a0.getD i default) := hu
      rw [hu', List.getD_eq_getElem?_getD, List.getD_eq_getElem?_getD, List.getElem?_append_left hlt]
     ·rw [hlen] at hi
      have hi2 : i - a0.length < (itoa a1).length := by omega
      refine ⟨.int .u8 (((itoa a1)[i - a0.length]).toNat : Int), ?_, ?_⟩
      ·rw [List.getElem?_append_right (by omega), hcl]
       simp [byteCells, hi2]
      ·rw [List.getD_eq_getElem?_getD, List.getElem?_append_right (by omega)]
       simp [hi2]
    ·show (if v'.ownBlock = some b then some 1 else none) = some 1
     have hb2 : v'.ownBlock = some b := hb
     rw [if_pos hb2]
  ·show r < 2 ↔ r < 2
   exact Iff.rfl
  ·have h4 := hp.fz b hb
   refine ⟨.inr (.inl hb), Nat.lt_of_lt_of_le h4.1 hkp.1, ?_⟩
   show (if v'.ownBlock = some b then some 1 else none) = none
   rw [if_neg (hnom b (fun r => by rw [h4.2]; exact fun e => by cases e) h4.1)]
  ·have h4 := hp.tz b hb
   show (if v'.ownBlock = some b then some 1 else none) = none
   rw [if_neg (hnom b (fun r => by rw [h4.2]; exact fun e => by cases e) h4.1)]
  ·have hb2 : v'.ownBlock = some b := by
    have h5 : (if v'.ownBlock = some b then some 1 else none) = some r := hb
    split at h5
    ·assumption
    ·cases h5
   refine ⟨?_, (hown2.lt b hb2).2⟩
   rcases hheir b hb2 with h4 | h4
   ·exact .inr (by rw [hom b h4]; exact fun e => by cases e)
   ·exact .inl h4
  ·have hr0 : r = 0 := by simp at hr; omega
   subst hr0
   rfl
  ·exact hkp.2 k hk fun e => by
    have := hom k e
    rw [hn] at this
    cases this
end
end Go.Vs
