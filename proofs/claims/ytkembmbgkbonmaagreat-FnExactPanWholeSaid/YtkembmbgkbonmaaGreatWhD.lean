/- Words and walks for the proof. -/
import Derived.Test.YtkembmbgkbonmaaGreatWhC
import Derived.Tactics
import Derived.Tactics2
set_option linter.unusedVariables false
set_option linter.unusedSimpArgs false
set_option linter.unusedSectionVars false
namespace Go.Proofs.PanS
open Go.Vs
set_option maxRecDepth 8000
def s_PanSafe (a0 : PanWorld) : Option (Bool) :=
 (s_PanOk a0).bind (fun y1 => cond (!y1) (some false) ((s_l64Logs a0).bind (fun y2 => cond (!y2) (some false) (loopN (fun i3 (v10 : List MapState) κ11 => (s_MapOf ((a0.Servers.getD i3 default).Log)).bind (fun y13 => ck ((v10.length + 1) * 96 ≤ 140737488355328) (κ11 (v10 ++ ([y13] : List MapState))))) (fun (v10 : List MapState) => (s_l64Longest a0).bind (fun y15 => loopN (fun i16 (v23 : Unit) κ24 => loopN (fun i26 (v28 : Unit) κ29 => (s_l64Range a0 v10 y15 ((i16 : Nat) : Int) ((i26 : Nat) : Int)).bind (fun y30 => cond (!y30) (some false) (κ29 ()))) (fun (v28 : Unit) => κ24 ()) 3 0 ()) (fun (v23 : Unit) => some true) a0.Servers.length 0 ())) a0.Servers.length 0 ([] : List MapState)))))
theorem s_PanSafe_c {t0_1 t0_2 t0_3 : Bool} {a0 : PanWorld} {r : Bool} (hF : s_PanSafe a0 = some r) : Con Tryz.prog 9 [.val true [.u (cI a0.Time), .u (ul Server.c 36 t0_1 a0.Servers), .u (ul Word.c 26 t0_2 a0.Radio), .u (ul PanCall.c 12 t0_3 a0.Calls)]] [] (vbool r) [] := by
 refine Con.of_Dz tabOk Tryz.func9 rfl rfl rfl ?_
 delta s_PanSafe at hF
 refine Dz.seq (Dz.reg (Dz.seq (Dz.seq (Dz.reg ?_))))
 refine bdE hF (fun y1 hy1 hF => ?_)
 refine callG [] (s_PanOk_c hy1) ⟨mv rfl, tv⟩ tv rfl ?_
 refine vif hF (fun _ hF => ?_) (fun _ hF => ?_)
 ·refine Dz.tt (b := true) rfl rfl ?_
  refine Dz.seq (Dz.reg (Dz.ret ?_))
  cases hF
  exact finG [] [] rfl rfl (mv rfl) tv rfl
 ·refine bdE hF (fun y2 hy2 hF => ?_)
  refine callG [] (s_l64Logs_c hy2) ⟨mv rfl, tv⟩ tv rfl ?_
  refine Dz.ite rfl hF (fun _ hF => ?_) (fun _ hF => ?_)
  ·refine Dz.seq (Dz.reg (Dz.ret ?_))
   cases hF
   exact finG [] [] rfl rfl (mv rfl) tv rfl
  ·refine Dz.skip (Dz.seq (Dz.reg ?_))
   refine Dz.row 1 ([] : List MapState).length (gl MapState.c ([] : List MapState)) rfl (by simp <;> omega) EqG.nilr ?_
   refine Dz.seq (Dz.seq (Dz.reg (Dz.blk ?_)))
   refine Dz.cnt hF (fun i3 v10 => ([(1, .ptr 0 0), (3, .val false [.row 1]), (4, vint .i64 ((i3 : Nat) : Int))], [.box 33 [.u (cI a0.Time), .u (ul Server.c 36 t0_1 a0.Servers), .u (ul Word.c 26 t0_2 a0.Radio), .u (ul PanCall.c 12 t0_3 a0.Calls)], .row 78 v10.length 6 (gl MapState.c v10)])) (entG [0, 1] ⟨mp rfl, ⟨rfl, rfl, tv⟩, mv rfl, tv⟩ ⟨⟨rfl, o_box rfl⟩, ⟨rfl, o_row⟩, tv⟩ rfl) (fun v10 hF => ?_) (fun i3 v10 κ11 hi0i3 hi1i3 hF => ?_)
   ·refine Dz.seq (Dz.seq (Dz.reg ?_))
    intro hb14; replace hb14 : a0.Servers.length ≤ 140737488355328 := hb14
    refine Dz.ff (b := decide (((0 + a0.Servers.length : Nat) : Int) < ((a0.Servers.length : Nat) : Int))) rfl (decide_eq_false (by omega)) ?_
    refine Dz.exit (Dz.seq (Dz.reg ?_))
    refine bdE hF (fun y15 hy15 hF => ?_)
    refine callG [] (s_l64Longest_c hy15) ⟨mv rfl, tv⟩ tv rfl ?_
    refine Dz.seq (Dz.seq (Dz.reg (Dz.blk ?_)))
    refine Dz.cnt hF (fun i16 v23 => ([(1, .ptr 0 0), (3, .val false [.row 1]), (5, .ptr 2 0), (6, vint .i64 ((i16 : Nat) : Int))], [.box 33 [.u (cI a0.Time), .u (ul Server.c 36 t0_1 a0.Servers), .u (ul Word.c 26 t0_2 a0.Radio), .u (ul PanCall.c 12 t0_3 a0.Calls)], .row 78 v10.length 6 (gl MapState.c v10), .box 78 [.u (cI y15.Slots), .u (cI y15.Servers), .u (cI y15.Next), .u (ul MapDisk.c 7 false y15.Disks), .row 3, .u (ul MapDone.c 4 false y15.Done)], .row 87 y15.Views.length 3 (gl MapView.c y15.Views)])) (entG [0, 1, 3, 2] ⟨mp rfl, ⟨rfl, rfl, tv⟩, mp rfl, mv rfl, tv⟩ ⟨⟨rfl, o_box rfl⟩, ⟨rfl, o_row⟩, ⟨rfl, ⟨rfl, lr, lr, lr, lr, rfl, lr, tv⟩⟩, ⟨rfl, o_row⟩, tv⟩ rfl) (fun v23 hF => ?_) (fun i16 v23 κ24 hi0i16 hi1i16 hF => ?_)
    ·refine Dz.seq (Dz.seq (Dz.reg ?_))
     intro hb31; replace hb31 : a0.Servers.length ≤ 140737488355328 := hb31
     refine Dz.ff (b := decide (((0 + a0.Servers.length : Nat) : Int) < ((a0.Servers.length : Nat) : Int))) rfl (decide_eq_false (by omega)) ?_
     refine Dz.exit (Dz.seq (Dz.reg (Dz.ret ?_)))
     cases hF
     exact finG [] [] rfl rfl (mv rfl) tv rfl
    ·refine Dz.seq (Dz.seq (Dz.reg ?_))
     intro hb25; replace hb25 : a0.Servers.length ≤ 140737488355328 := hb25
     refine Dz.tt (b := decide (((i16 : Nat) : Int) < ((a0.Servers.length : Nat) : Int))) rfl (decide_eq_true (by omega)) ?_
     refine Dz.skip (Dz.seq (Dz.blk (Dz.seq (Dz.reg (Dz.blk ?_)))))
     refine Dz.cnt hF (fun i26 v28 => ([(1, .ptr 0 0), (3, .val false [.row 1]), (5, .ptr 2 0), (6, vint .i64 ((i16 : Nat) : Int)), (7, vint .i64 ((i26 : Nat) : Int))], [.box 33 [.u (cI a0.Time), .u (ul Server.c 36 t0_1 a0.Servers), .u (ul Word.c 26 t0_2 a0.Radio), .u (ul PanCall.c 12 t0_3 a0.Calls)], .row 78 v10.length 6 (gl MapState.c v10), .box 78 [.u (cI y15.Slots), .u (cI y15.Servers), .u (cI y15.Next), .u (ul MapDisk.c 7 false y15.Disks), .row 3, .u (ul MapDone.c 4 false y15.Done)], .row 87 y15.Views.length 3 (gl MapView.c y15.Views)])) (entG [0, 1, 2, 3] ⟨mp rfl, ⟨rfl, rfl, tv⟩, mp rfl, mv rfl, mv rfl, tv⟩ ⟨⟨rfl, o_box rfl⟩, ⟨rfl, o_row⟩, ⟨rfl, ⟨rfl, lr, lr, lr, lr, rfl, lr, tv⟩⟩, ⟨rfl, o_row⟩, tv⟩ rfl) (fun v28 hF => ?_) (fun i26 v28 κ29 hi0i26 hi1i26 hF => ?_)
     ·refine Dz.seq (Dz.seq (Dz.reg ?_))
      refine Dz.ff (b := decide (((0 + 3 : Nat) : Int) < 3)) rfl (decide_eq_false (by omega)) ?_
      refine Dz.exit (Dz.reg ?_)
      refine vsucc (by omega) ?_
      exact ⟨(), entG [0, 1, 2, 3] ⟨mp rfl, ⟨rfl, rfl, tv⟩, mp rfl, mv rfl, tv⟩ ⟨⟨rfl, o_box rfl⟩, ⟨rfl, o_row⟩, ⟨rfl, ⟨rfl, lr, lr, lr, lr, rfl, lr, tv⟩⟩, ⟨rfl, o_row⟩, tv⟩ rfl, hF⟩
     ·refine Dz.seq (Dz.seq (Dz.reg ?_))
      refine Dz.tt (b := decide (((i26 : Nat) : Int) < 3)) rfl (decide_eq_true (by omega)) ?_
      refine Dz.skip (Dz.seq (Dz.blk (Dz.seq (Dz.reg ?_))))
      refine bdE hF (fun y30 hy30 hF => ?_)
      refine callL [] (s_l64Range_c hy30) ⟨mv rfl, ⟨rfl, ⟨rfl, rfl, lr⟩, tv⟩, ⟨rfl, lr, lr, lr, lr, ⟨rfl, rfl, lr⟩, lr, tv⟩, mv rfl, mv rfl, tv⟩ tv rfl ⟨⟨tv, tv⟩, tv⟩ ?_
      refine Dz.ite rfl hF (fun _ hF => ?_) (fun _ hF => ?_)
      ·refine Dz.seq (Dz.reg (Dz.ret ?_))
       cases hF
       exact finG [] [] rfl rfl (mv rfl) tv rfl
      ·refine Dz.skip (Dz.reg ?_)
       refine vsucc (by omega) ?_
       exact ⟨(), entG [0, 1, 2, 3] ⟨mp rfl, ⟨rfl, rfl, tv⟩, mp rfl, mv rfl, mv rfl, tv⟩ ⟨⟨rfl, o_box rfl⟩, ⟨rfl, o_row⟩, ⟨rfl, ⟨rfl, lr, lr, lr, lr, rfl, lr, tv⟩⟩, ⟨rfl, o_row⟩, tv⟩ rfl, hF⟩
   ·refine Dz.seq (Dz.seq (Dz.reg ?_))
    intro hb12; replace hb12 : a0.Servers.length ≤ 140737488355328 := hb12
    refine Dz.tt (b := decide (((i3 : Nat) : Int) < ((a0.Servers.length : Nat) : Int))) rfl (decide_eq_true (by omega)) ?_
    refine Dz.skip (Dz.seq (Dz.blk (Dz.reg ?_)))
    refine vge (n := ((i3 : Nat) : Int)) (hi := (a0.Servers.length : Int)) (by omega) (by omega) ?_
    refine bdE hF (fun y13 hy13 hF => ?_)
    refine callG [] (s_MapOf_c hy13) ⟨mv rfl, tv⟩ tv rfl ?_
    refine vck hF id (fun _ hF => ?_)
    refine Dz.row 3 ([y13] : List MapState).length (gl MapState.c ([y13] : List MapState)) rfl (by simp <;> omega) (EqG.lit (c := MapState.c) (sz := 6) (L := ([y13] : List MapState)) ⟨lr, lr, lr, lr, lr, lr, tv⟩) ?_
    refine Dz.row 4 (v10 ++ ([y13] : List MapState)).length (gl MapState.c (v10 ++ ([y13] : List MapState))) rfl (by simp <;> omega) (EqG.app rfl (by simp <;> omega) (EqG.refl _ _ _) (EqG.lit (c := MapState.c) (sz := 6) (L := ([y13] : List MapState)) ⟨lr, lr, lr, lr, lr, lr, tv⟩)) ?_
    refine Dz.reg ?_
    refine vsucc (by omega) ?_
    exact ⟨(v10 ++ ([y13] : List MapState)), entG [0, 4] ⟨mp rfl, ⟨rfl, rfl, tv⟩, mv rfl, tv⟩ ⟨⟨rfl, o_box rfl⟩, ⟨rfl, o_row⟩, tv⟩ rfl, hF⟩
def l_toCmd (a0 : Cmd) : Option (Cmd) :=
 some a0
theorem l_toCmd_c {a0 : Cmd} {r : Cmd} (hF : l_toCmd a0 = some r) : Con Tryz.prog 175 [.val true (Cmd.L a0)] [] (.val true (Cmd.L r)) [] := by
 refine Con.of_Dz tabOk Tryz.func175 rfl rfl rfl ?_
 delta l_toCmd at hF
 refine Dz.seq (Dz.reg (Dz.seq (Dz.reg (Dz.seq (Dz.reg (Dz.seq (Dz.reg ?_)))))))
 refine Dz.seq (Dz.reg (Dz.seq (Dz.reg (Dz.seq (Dz.reg (Dz.seq (Dz.reg ?_)))))))
 refine Dz.seq (Dz.reg (Dz.seq (Dz.reg (Dz.seq (Dz.reg (Dz.seq (Dz.reg ?_)))))))
 refine Dz.seq (Dz.reg (Dz.ret ?_))
 cases hF
 exact finG [] [] rfl rfl (mv rfl) tv rfl
def l_toSynPaper (a0 : SynPaper) : Option (SynPaper) :=
 (l_toCmd a0.Cmd).bind (fun y1 => some ({ Slot := a0.Slot, Ballot := a0.Ballot, Cmd := y1 } : SynPaper))
theorem l_toSynPaper_c {a0 : SynPaper} {r : SynPaper} (hF : l_toSynPaper a0 = some r) : Con Tryz.prog 222 [.val true (SynPaper.L a0)] [] (.val true (SynPaper.L r)) [] := by
 refine Con.of_Dz tabOk Tryz.func222 rfl rfl rfl ?_
 delta l_toSynPaper at hF
 refine Dz.seq (Dz.reg (Dz.seq (Dz.reg (Dz.seq (Dz.reg (Dz.seq (Dz.reg ?_)))))))
 refine Dz.seq (Dz.reg ?_)
 refine bdE hF (fun y1 hy1 hF => ?_)
 refine callG [] (l_toCmd_c hy1) ⟨mv rfl, tv⟩ tv rfl ?_
 refine Dz.seq (Dz.reg (Dz.ret ?_))
 cases hF
 exact finG [] [] rfl rfl (mv rfl) tv rfl
def l_toSynPaperS (a0 : (List SynPaper)) : Option ((List SynPaper)) :=
 ck (0 ≤ ((a0.length : Nat) : Int) ∧ ((a0.length : Nat) : Int) * 96 ≤ 140737488355328) (loopN (fun i2 (v13 : List SynPaper) κ14 => lt (a0.getD i2 default) (fun x16 => (l_toSynPaper x16).bind (fun y17 => ix v13 ((i2 : Nat) : Int) (fun _ => lt (v13.set i2 y17) (fun r18 => κ14 r18))))) (fun (v13 : List SynPaper) => some v13) a0.length 0 (List.replicate a0.length (({ Slot := 0, Ballot := 0, Cmd := ({ Kind := 0, Client := 0, Call := 0, Disk := 0, Arg := 0, Epoch := 0, Range := 0, Num := 0, A := 0, B := 0 } : Cmd) } : SynPaper) : SynPaper)))
theorem l_toSynPaperS_c {t0_0 : Bool} {a0 : (List SynPaper)} {r : (List SynPaper)} (hF : l_toSynPaperS a0 = some r) : Con Tryz.prog 220 [.val false [.u (ul SynPaper.c 12 t0_0 a0)]] [] (.val false [.row 0]) [.row 46 r.length 12 (gl SynPaper.c r)] := by
 refine Con.of_Dz tabOk Tryz.func220 rfl rfl rfl ?_
 delta l_toSynPaperS at hF
 refine Dz.seq (Dz.reg (Dz.seq (Dz.reg ?_)))
 intro hb1; replace hb1 : a0.length ≤ 140737488355328 := hb1
 refine vck hF (fun h => ⟨rfl, h⟩) (fun hk hF => ?_)
 refine Dz.row 0 (List.replicate a0.length (({ Slot := 0, Ballot := 0, Cmd := ({ Kind := 0, Client := 0, Call := 0, Disk := 0, Arg := 0, Epoch := 0, Range := 0, Num := 0, A := 0, B := 0 } : Cmd) } : SynPaper) : SynPaper)).length (gl SynPaper.c (List.replicate a0.length (({ Slot := 0, Ballot := 0, Cmd := ({ Kind := 0, Client := 0, Call := 0, Disk := 0, Arg := 0, Epoch := 0, Range := 0, Num := 0, A := 0, B := 0 } : Cmd) } : SynPaper) : SynPaper))) rfl (by simp <;> omega) (EqG.rep' (c := SynPaper.c) (sz := 12) _ ⟨lr, lr, lr, lr, lr, lr, lr, lr, lr, lr, lr, lr, tv⟩) ?_
 refine Dz.seq (Dz.seq (Dz.reg (Dz.blk ?_)))
 refine Dz.cnt hF (fun i2 v13 => ([(0, .val false [.u (ul SynPaper.c 12 t0_0 a0)]), (3, .val false [.row 0]), (4, vint .i64 ((i2 : Nat) : Int))], [.row 46 v13.length 12 (gl SynPaper.c v13)])) (entG [0] ⟨mv rfl, ⟨rfl, rfl, tv⟩, mv rfl, tv⟩ ⟨⟨rfl, o_row⟩, tv⟩ rfl) (fun v13 hF => ?_) (fun i2 v13 κ14 hi0i2 hi1i2 hF => ?_)
 ·refine Dz.seq (Dz.seq (Dz.reg ?_))
  intro hb19; replace hb19 : a0.length ≤ 140737488355328 := hb19
  refine Dz.ff (b := decide (((0 + a0.length : Nat) : Int) < ((a0.length : Nat) : Int))) rfl (decide_eq_false (by omega)) ?_
  refine Dz.exit (Dz.seq (Dz.reg (Dz.ret ?_)))
  cases hF
  exact finG [] [0] rfl rfl (⟨rfl, rfl, tv⟩) ⟨⟨rfl, o_row⟩, tv⟩ rfl
 ·refine Dz.seq (Dz.seq (Dz.reg ?_))
  intro hb15; replace hb15 : a0.length ≤ 140737488355328 := hb15
  refine Dz.tt (b := decide (((i2 : Nat) : Int) < ((a0.length : Nat) : Int))) rfl (decide_eq_true (by omega)) ?_
  refine Dz.skip (Dz.seq (Dz.blk (Dz.reg ?_)))
  refine vge (n := ((i2 : Nat) : Int)) (hi := (a0.length : Int)) (by omega) (by omega) ?_
  have hF := ltE hF
  refine bdE hF (fun y17 hy17 hF => ?_)
  refine callG [] (l_toSynPaper_c hy17) ⟨mv rfl, tv⟩ tv rfl ?_
  refine vix hF (fun _ _ hF => ?_)
  refine ltX hF (fun r18 hr18 hF => ?_)
  have hlr18 : r18.length = v13.length := by rw [hr18]; simp <;> omega
  refine Dz.row 0 r18.length (gl SynPaper.c r18) rfl (by rw [hr18]; simp <;> omega) (by rw [hr18]; exact (EqG.set' rfl (EqG.refl _ _ _) ⟨lr, lr, lr, lr, lr, lr, lr, lr, lr, lr, lr, lr, tv⟩)) ?_
  refine Dz.reg ?_
  refine vsucc (by omega) ?_
  exact ⟨r18, entG [0] ⟨mv rfl, ⟨rfl, rfl, tv⟩, mv rfl, tv⟩ ⟨⟨rfl, o_row⟩, tv⟩ rfl, hF⟩
def l_toSynVoter (a0 : SynVoter) : Option (SynVoter) :=
 (l_toSynPaperS a0.Papers).bind (fun y1 => some ({ Promised := a0.Promised, Papers := y1 } : SynVoter))
theorem l_toSynVoter_c {t0_1 : Bool} {a0 : SynVoter} {r : SynVoter} (hF : l_toSynVoter a0 = some r) : Con Tryz.prog 170 [.val true [.u (cI a0.Promised), .u (ul SynPaper.c 12 t0_1 a0.Papers)]] [] (.val true [.u (cI r.Promised), .row 0]) [.row 46 r.Papers.length 12 (gl SynPaper.c r.Papers)] := by
 refine Con.of_Dz tabOk Tryz.func170 rfl rfl rfl ?_
 delta l_toSynVoter at hF
 refine Dz.seq (Dz.reg (Dz.seq (Dz.reg (Dz.seq (Dz.reg (Dz.seq (Dz.reg ?_)))))))
 refine bdE hF (fun y1 hy1 hF => ?_)
 refine callG [] (l_toSynPaperS_c hy1) ⟨mv rfl, tv⟩ tv rfl ?_
 refine Dz.seq (Dz.reg (Dz.ret ?_))
 cases hF
 exact finG [] [3] rfl rfl (⟨rfl, lr, rfl, tv⟩) ⟨⟨rfl, o_row⟩, tv⟩ rfl
def l_toCmdS (a0 : (List Cmd)) : Option ((List Cmd)) :=
 ck (0 ≤ ((a0.length : Nat) : Int) ∧ ((a0.length : Nat) : Int) * 80 ≤ 140737488355328) (loopN (fun i2 (v13 : List Cmd) κ14 => lt (a0.getD i2 default) (fun x16 => (l_toCmd x16).bind (fun y17 => ix v13 ((i2 : Nat) : Int) (fun _ => lt (v13.set i2 y17) (fun r18 => κ14 r18))))) (fun (v13 : List Cmd) => some v13) a0.length 0 (List.replicate a0.length (({ Kind := 0, Client := 0, Call := 0, Disk := 0, Arg := 0, Epoch := 0, Range := 0, Num := 0, A := 0, B := 0 } : Cmd) : Cmd)))
theorem l_toCmdS_c {t0_0 : Bool} {a0 : (List Cmd)} {r : (List Cmd)} (hF : l_toCmdS a0 = some r) : Con Tryz.prog 171 [.val false [.u (ul Cmd.c 10 t0_0 a0)]] [] (.val false [.row 0]) [.row 44 r.length 10 (gl Cmd.c r)] := by
 refine Con.of_Dz tabOk Tryz.func171 rfl rfl rfl ?_
 delta l_toCmdS at hF
 refine Dz.seq (Dz.reg (Dz.seq (Dz.reg ?_)))
 intro hb1; replace hb1 : a0.length ≤ 140737488355328 := hb1
 refine vck hF (fun h => ⟨rfl, h⟩) (fun hk hF => ?_)
 refine Dz.row 0 (List.replicate a0.length (({ Kind := 0, Client := 0, Call := 0, Disk := 0, Arg := 0, Epoch := 0, Range := 0, Num := 0, A := 0, B := 0 } : Cmd) : Cmd)).length (gl Cmd.c (List.replicate a0.length (({ Kind := 0, Client := 0, Call := 0, Disk := 0, Arg := 0, Epoch := 0, Range := 0, Num := 0, A := 0, B := 0 } : Cmd) : Cmd))) rfl (by simp <;> omega) (EqG.rep' (c := Cmd.c) (sz := 10) _ ⟨lr, lr, lr, lr, lr, lr, lr, lr, lr, lr, tv⟩) ?_
 refine Dz.seq (Dz.seq (Dz.reg (Dz.blk ?_)))
 refine Dz.cnt hF (fun i2 v13 => ([(0, .val false [.u (ul Cmd.c 10 t0_0 a0)]), (3, .val false [.row 0]), (4, vint .i64 ((i2 : Nat) : Int))], [.row 44 v13.length 10 (gl Cmd.c v13)])) (entG [0] ⟨mv rfl, ⟨rfl, rfl, tv⟩, mv rfl, tv⟩ ⟨⟨rfl, o_row⟩, tv⟩ rfl) (fun v13 hF => ?_) (fun i2 v13 κ14 hi0i2 hi1i2 hF => ?_)
 ·refine Dz.seq (Dz.seq (Dz.reg ?_))
  intro hb19; replace hb19 : a0.length ≤ 140737488355328 := hb19
  refine Dz.ff (b := decide (((0 + a0.length : Nat) : Int) < ((a0.length : Nat) : Int))) rfl (decide_eq_false (by omega)) ?_
  refine Dz.exit (Dz.seq (Dz.reg (Dz.ret ?_)))
  cases hF
  exact finG [] [0] rfl rfl (⟨rfl, rfl, tv⟩) ⟨⟨rfl, o_row⟩, tv⟩ rfl
 ·refine Dz.seq (Dz.seq (Dz.reg ?_))
  intro hb15; replace hb15 : a0.length ≤ 140737488355328 := hb15
  refine Dz.tt (b := decide (((i2 : Nat) : Int) < ((a0.length : Nat) : Int))) rfl (decide_eq_true (by omega)) ?_
  refine Dz.skip (Dz.seq (Dz.blk (Dz.reg ?_)))
  refine vge (n := ((i2 : Nat) : Int)) (hi := (a0.length : Int)) (by omega) (by omega) ?_
  have hF := ltE hF
  refine bdE hF (fun y17 hy17 hF => ?_)
  refine callG [] (l_toCmd_c hy17) ⟨mv rfl, tv⟩ tv rfl ?_
  refine vix hF (fun _ _ hF => ?_)
  refine ltX hF (fun r18 hr18 hF => ?_)
  have hlr18 : r18.length = v13.length := by rw [hr18]; simp <;> omega
  refine Dz.row 0 r18.length (gl Cmd.c r18) rfl (by rw [hr18]; simp <;> omega) (by rw [hr18]; exact (EqG.set' rfl (EqG.refl _ _ _) ⟨lr, lr, lr, lr, lr, lr, lr, lr, lr, lr, tv⟩)) ?_
  refine Dz.reg ?_
  refine vsucc (by omega) ?_
  exact ⟨r18, entG [0] ⟨mv rfl, ⟨rfl, rfl, tv⟩, mv rfl, tv⟩ ⟨⟨rfl, o_row⟩, tv⟩ rfl, hF⟩
def l_toBlkPiece (a0 : BlkPiece) : Option (BlkPiece) :=
 some a0
theorem l_toBlkPiece_c {a0 : BlkPiece} {r : BlkPiece} (hF : l_toBlkPiece a0 = some r) : Con Tryz.prog 225 [.val true (BlkPiece.L a0)] [] (.val true (BlkPiece.L r)) [] := by
 refine Con.of_Dz tabOk Tryz.func225 rfl rfl rfl ?_
 delta l_toBlkPiece at hF
 refine Dz.seq (Dz.reg (Dz.seq (Dz.reg (Dz.seq (Dz.reg (Dz.seq (Dz.reg ?_)))))))
 refine Dz.seq (Dz.reg (Dz.seq (Dz.reg (Dz.seq (Dz.reg (Dz.ret ?_))))))
 cases hF
 exact finG [] [] rfl rfl (mv rfl) tv rfl
def l_toBlkPieceS (a0 : (List BlkPiece)) : Option ((List BlkPiece)) :=
 ck (0 ≤ ((a0.length : Nat) : Int) ∧ ((a0.length : Nat) : Int) * 32 ≤ 140737488355328) (loopN (fun i2 (v13 : List BlkPiece) κ14 => lt (a0.getD i2 default) (fun x16 => (l_toBlkPiece x16).bind (fun y17 => ix v13 ((i2 : Nat) : Int) (fun _ => lt (v13.set i2 y17) (fun r18 => κ14 r18))))) (fun (v13 : List BlkPiece) => some v13) a0.length 0 (List.replicate a0.length (({ Disk := 0, Block := 0, Epoch := 0, Data := 0 } : BlkPiece) : BlkPiece)))
theorem l_toBlkPieceS_c {t0_0 : Bool} {a0 : (List BlkPiece)} {r : (List BlkPiece)} (hF : l_toBlkPieceS a0 = some r) : Con Tryz.prog 176 [.val false [.u (ul BlkPiece.c 4 t0_0 a0)]] [] (.val false [.row 0]) [.row 168 r.length 4 (gl BlkPiece.c r)] := by
 refine Con.of_Dz tabOk Tryz.func176 rfl rfl rfl ?_
 delta l_toBlkPieceS at hF
 refine Dz.seq (Dz.reg (Dz.seq (Dz.reg ?_)))
 intro hb1; replace hb1 : a0.length ≤ 140737488355328 := hb1
 refine vck hF (fun h => ⟨rfl, h⟩) (fun hk hF => ?_)
 refine Dz.row 0 (List.replicate a0.length (({ Disk := 0, Block := 0, Epoch := 0, Data := 0 } : BlkPiece) : BlkPiece)).length (gl BlkPiece.c (List.replicate a0.length (({ Disk := 0, Block := 0, Epoch := 0, Data := 0 } : BlkPiece) : BlkPiece))) rfl (by simp <;> omega) (EqG.rep' (c := BlkPiece.c) (sz := 4) _ ⟨lr, lr, lr, lr, tv⟩) ?_
 refine Dz.seq (Dz.seq (Dz.reg (Dz.blk ?_)))
 refine Dz.cnt hF (fun i2 v13 => ([(0, .val false [.u (ul BlkPiece.c 4 t0_0 a0)]), (3, .val false [.row 0]), (4, vint .i64 ((i2 : Nat) : Int))], [.row 168 v13.length 4 (gl BlkPiece.c v13)])) (entG [0] ⟨mv rfl, ⟨rfl, rfl, tv⟩, mv rfl, tv⟩ ⟨⟨rfl, o_row⟩, tv⟩ rfl) (fun v13 hF => ?_) (fun i2 v13 κ14 hi0i2 hi1i2 hF => ?_)
 ·refine Dz.seq (Dz.seq (Dz.reg ?_))
  intro hb19; replace hb19 : a0.length ≤ 140737488355328 := hb19
  refine Dz.ff (b := decide (((0 + a0.length : Nat) : Int) < ((a0.length : Nat) : Int))) rfl (decide_eq_false (by omega)) ?_
  refine Dz.exit (Dz.seq (Dz.reg (Dz.ret ?_)))
  cases hF
  exact finG [] [0] rfl rfl (⟨rfl, rfl, tv⟩) ⟨⟨rfl, o_row⟩, tv⟩ rfl
 ·refine Dz.seq (Dz.seq (Dz.reg ?_))
  intro hb15; replace hb15 : a0.length ≤ 140737488355328 := hb15
  refine Dz.tt (b := decide (((i2 : Nat) : Int) < ((a0.length : Nat) : Int))) rfl (decide_eq_true (by omega)) ?_
  refine Dz.skip (Dz.seq (Dz.blk (Dz.reg ?_)))
  refine vge (n := ((i2 : Nat) : Int)) (hi := (a0.length : Int)) (by omega) (by omega) ?_
  have hF := ltE hF
  refine bdE hF (fun y17 hy17 hF => ?_)
  refine callG [] (l_toBlkPiece_c hy17) ⟨mv rfl, tv⟩ tv rfl ?_
  refine vix hF (fun _ _ hF => ?_)
  refine ltX hF (fun r18 hr18 hF => ?_)
  have hlr18 : r18.length = v13.length := by rw [hr18]; simp <;> omega
  refine Dz.row 0 r18.length (gl BlkPiece.c r18) rfl (by rw [hr18]; simp <;> omega) (by rw [hr18]; exact (EqG.set' rfl (EqG.refl _ _ _) ⟨lr, lr, lr, lr, tv⟩)) ?_
  refine Dz.reg ?_
  refine vsucc (by omega) ?_
  exact ⟨r18, entG [0] ⟨mv rfl, ⟨rfl, rfl, tv⟩, mv rfl, tv⟩ ⟨⟨rfl, o_row⟩, tv⟩ rfl, hF⟩
def l_toBlkLast (a0 : BlkLast) : Option (BlkLast) :=
 some a0
theorem l_toBlkLast_c {a0 : BlkLast} {r : BlkLast} (hF : l_toBlkLast a0 = some r) : Con Tryz.prog 226 [.val true (BlkLast.L a0)] [] (.val true (BlkLast.L r)) [] := by
 refine Con.of_Dz tabOk Tryz.func226 rfl rfl rfl ?_
 delta l_toBlkLast at hF
 refine Dz.seq (Dz.reg (Dz.seq (Dz.reg (Dz.seq (Dz.reg (Dz.seq (Dz.reg ?_)))))))
 refine Dz.seq (Dz.reg (Dz.ret ?_))
 cases hF
 exact finG [] [] rfl rfl (mv rfl) tv rfl
def l_toBlkLastS (a0 : (List BlkLast)) : Option ((List BlkLast)) :=
 ck (0 ≤ ((a0.length : Nat) : Int) ∧ ((a0.length : Nat) : Int) * 16 ≤ 140737488355328) (loopN (fun i2 (v13 : List BlkLast) κ14 => lt (a0.getD i2 default) (fun x16 => (l_toBlkLast x16).bind (fun y17 => ix v13 ((i2 : Nat) : Int) (fun _ => lt (v13.set i2 y17) (fun r18 => κ14 r18))))) (fun (v13 : List BlkLast) => some v13) a0.length 0 (List.replicate a0.length (({ Client := 0, Call := 0 } : BlkLast) : BlkLast)))
theorem l_toBlkLastS_c {t0_0 : Bool} {a0 : (List BlkLast)} {r : (List BlkLast)} (hF : l_toBlkLastS a0 = some r) : Con Tryz.prog 177 [.val false [.u (ul BlkLast.c 2 t0_0 a0)]] [] (.val false [.row 0]) [.row 180 r.length 2 (gl BlkLast.c r)] := by
 refine Con.of_Dz tabOk Tryz.func177 rfl rfl rfl ?_
 delta l_toBlkLastS at hF
 refine Dz.seq (Dz.reg (Dz.seq (Dz.reg ?_)))
 intro hb1; replace hb1 : a0.length ≤ 140737488355328 := hb1
 refine vck hF (fun h => ⟨rfl, h⟩) (fun hk hF => ?_)
 refine Dz.row 0 (List.replicate a0.length (({ Client := 0, Call := 0 } : BlkLast) : BlkLast)).length (gl BlkLast.c (List.replicate a0.length (({ Client := 0, Call := 0 } : BlkLast) : BlkLast))) rfl (by simp <;> omega) (EqG.rep' (c := BlkLast.c) (sz := 2) _ ⟨lr, lr, tv⟩) ?_
 refine Dz.seq (Dz.seq (Dz.reg (Dz.blk ?_)))
 refine Dz.cnt hF (fun i2 v13 => ([(0, .val false [.u (ul BlkLast.c 2 t0_0 a0)]), (3, .val false [.row 0]), (4, vint .i64 ((i2 : Nat) : Int))], [.row 180 v13.length 2 (gl BlkLast.c v13)])) (entG [0] ⟨mv rfl, ⟨rfl, rfl, tv⟩, mv rfl, tv⟩ ⟨⟨rfl, o_row⟩, tv⟩ rfl) (fun v13 hF => ?_) (fun i2 v13 κ14 hi0i2 hi1i2 hF => ?_)
 ·refine Dz.seq (Dz.seq (Dz.reg ?_))
  intro hb19; replace hb19 : a0.length ≤ 140737488355328 := hb19
  refine Dz.ff (b := decide (((0 + a0.length : Nat) : Int) < ((a0.length : Nat) : Int))) rfl (decide_eq_false (by omega)) ?_
  refine Dz.exit (Dz.seq (Dz.reg (Dz.ret ?_)))
  cases hF
  exact finG [] [0] rfl rfl (⟨rfl, rfl, tv⟩) ⟨⟨rfl, o_row⟩, tv⟩ rfl
 ·refine Dz.seq (Dz.seq (Dz.reg ?_))
  intro hb15; replace hb15 : a0.length ≤ 140737488355328 := hb15
  refine Dz.tt (b := decide (((i2 : Nat) : Int) < ((a0.length : Nat) : Int))) rfl (decide_eq_true (by omega)) ?_
  refine Dz.skip (Dz.seq (Dz.blk (Dz.reg ?_)))
  refine vge (n := ((i2 : Nat) : Int)) (hi := (a0.length : Int)) (by omega) (by omega) ?_
  have hF := ltE hF
  refine bdE hF (fun y17 hy17 hF => ?_)
  refine callG [] (l_toBlkLast_c hy17) ⟨mv rfl, tv⟩ tv rfl ?_
  refine vix hF (fun _ _ hF => ?_)
  refine ltX hF (fun r18 hr18 hF => ?_)
  have hlr18 : r18.length = v13.length := by rw [hr18]; simp <;> omega
  refine Dz.row 0 r18.length (gl BlkLast.c r18) rfl (by rw [hr18]; simp <;> omega) (by rw [hr18]; exact (EqG.set' rfl (EqG.refl _ _ _) ⟨lr, lr, tv⟩)) ?_
  refine Dz.reg ?_
  refine vsucc (by omega) ?_
  exact ⟨r18, entG [0] ⟨mv rfl, ⟨rfl, rfl, tv⟩, mv rfl, tv⟩ ⟨⟨rfl, o_row⟩, tv⟩ rfl, hF⟩
def l_toSrvBusy (a0 : SrvBusy) : Option (SrvBusy) :=
 some a0
theorem l_toSrvBusy_c {a0 : SrvBusy} {r : SrvBusy} (hF : l_toSrvBusy a0 = some r) : Con Tryz.prog 268 [.val true (SrvBusy.L a0)] [] (.val true (SrvBusy.L r)) [] := by
 refine Con.of_Dz tabOk Tryz.func268 rfl rfl rfl ?_
 delta l_toSrvBusy at hF
 refine Dz.seq (Dz.reg (Dz.seq (Dz.reg (Dz.seq (Dz.reg (Dz.seq (Dz.reg ?_)))))))
 refine Dz.seq (Dz.reg (Dz.seq (Dz.reg (Dz.seq (Dz.reg (Dz.seq (Dz.reg ?_)))))))
 refine Dz.seq (Dz.reg (Dz.ret ?_))
 cases hF
 exact finG [] [] rfl rfl (mv rfl) tv rfl
def l_toSrvBusyS (a0 : (List SrvBusy)) : Option ((List SrvBusy)) :=
 ck (0 ≤ ((a0.length : Nat) : Int) ∧ ((a0.length : Nat) : Int) * 48 ≤ 140737488355328) (loopN (fun i2 (v13 : List SrvBusy) κ14 => lt (a0.getD i2 default) (fun x16 => (l_toSrvBusy x16).bind (fun y17 => ix v13 ((i2 : Nat) : Int) (fun _ => lt (v13.set i2 y17) (fun r18 => κ14 r18))))) (fun (v13 : List SrvBusy) => some v13) a0.length 0 (List.replicate a0.length (({ Client := 0, Call := 0, Disk := 0, Block := 0, Epoch := 0, Data := 0 } : SrvBusy) : SrvBusy)))
theorem l_toSrvBusyS_c {t0_0 : Bool} {a0 : (List SrvBusy)} {r : (List SrvBusy)} (hF : l_toSrvBusyS a0 = some r) : Con Tryz.prog 250 [.val false [.u (ul SrvBusy.c 6 t0_0 a0)]] [] (.val false [.row 0]) [.row 122 r.length 6 (gl SrvBusy.c r)] := by
 refine Con.of_Dz tabOk Tryz.func250 rfl rfl rfl ?_
 delta l_toSrvBusyS at hF
 refine Dz.seq (Dz.reg (Dz.seq (Dz.reg ?_)))
 intro hb1; replace hb1 : a0.length ≤ 140737488355328 := hb1
 refine vck hF (fun h => ⟨rfl, h⟩) (fun hk hF => ?_)
 refine Dz.row 0 (List.replicate a0.length (({ Client := 0, Call := 0, Disk := 0, Block := 0, Epoch := 0, Data := 0 } : SrvBusy) : SrvBusy)).length (gl SrvBusy.c (List.replicate a0.length (({ Client := 0, Call := 0, Disk := 0, Block := 0, Epoch := 0, Data := 0 } : SrvBusy) : SrvBusy))) rfl (by simp <;> omega) (EqG.rep' (c := SrvBusy.c) (sz := 6) _ ⟨lr, lr, lr, lr, lr, lr, tv⟩) ?_
 refine Dz.seq (Dz.seq (Dz.reg (Dz.blk ?_)))
 refine Dz.cnt hF (fun i2 v13 => ([(0, .val false [.u (ul SrvBusy.c 6 t0_0 a0)]), (3, .val false [.row 0]), (4, vint .i64 ((i2 : Nat) : Int))], [.row 122 v13.length 6 (gl SrvBusy.c v13)])) (entG [0] ⟨mv rfl, ⟨rfl, rfl, tv⟩, mv rfl, tv⟩ ⟨⟨rfl, o_row⟩, tv⟩ rfl) (fun v13 hF => ?_) (fun i2 v13 κ14 hi0i2 hi1i2 hF => ?_)
 ·refine Dz.seq (Dz.seq (Dz.reg ?_))
  intro hb19; replace hb19 : a0.length ≤ 140737488355328 := hb19
  refine Dz.ff (b := decide (((0 + a0.length : Nat) : Int) < ((a0.length : Nat) : Int))) rfl (decide_eq_false (by omega)) ?_
  refine Dz.exit (Dz.seq (Dz.reg (Dz.ret ?_)))
  cases hF
  exact finG [] [0] rfl rfl (⟨rfl, rfl, tv⟩) ⟨⟨rfl, o_row⟩, tv⟩ rfl
 ·refine Dz.seq (Dz.seq (Dz.reg ?_))
  intro hb15; replace hb15 : a0.length ≤ 140737488355328 := hb15
  refine Dz.tt (b := decide (((i2 : Nat) : Int) < ((a0.length : Nat) : Int))) rfl (decide_eq_true (by omega)) ?_
  refine Dz.skip (Dz.seq (Dz.blk (Dz.reg ?_)))
  refine vge (n := ((i2 : Nat) : Int)) (hi := (a0.length : Int)) (by omega) (by omega) ?_
  have hF := ltE hF
  refine bdE hF (fun y17 hy17 hF => ?_)
  refine callG [] (l_toSrvBusy_c hy17) ⟨mv rfl, tv⟩ tv rfl ?_
  refine vix hF (fun _ _ hF => ?_)
  refine ltX hF (fun r18 hr18 hF => ?_)
  have hlr18 : r18.length = v13.length := by rw [hr18]; simp <;> omega
  refine Dz.row 0 r18.length (gl SrvBusy.c r18) rfl (by rw [hr18]; simp <;> omega) (by rw [hr18]; exact (EqG.set' rfl (EqG.refl _ _ _) ⟨lr, lr, lr, lr, lr, lr, tv⟩)) ?_
  refine Dz.reg ?_
  refine vsucc (by omega) ?_
  exact ⟨r18, entG [0] ⟨mv rfl, ⟨rfl, rfl, tv⟩, mv rfl, tv⟩ ⟨⟨rfl, o_row⟩, tv⟩ rfl, hF⟩
def l_toSrvCopy (a0 : SrvCopy) : Option (SrvCopy) :=
 (l_toBlkPieceS a0.Pieces).bind (fun y1 => (l_toBlkLastS a0.Last).bind (fun y2 => (l_toSrvBusyS a0.Busy).bind (fun y3 => some ({ Range := a0.Range, Valid := a0.Valid, Asked := a0.Asked, Pieces := y1, Last := y2, Busy := y3 } : SrvCopy))))
theorem l_toSrvCopy_c {t0_3 t0_4 t0_5 : Bool} {a0 : SrvCopy} {r : SrvCopy} (hF : l_toSrvCopy a0 = some r) : Con Tryz.prog 221 [.val true [.u (cI a0.Range), .u (cI a0.Valid), .u (cI a0.Asked), .u (ul BlkPiece.c 4 t0_3 a0.Pieces), .u (ul BlkLast.c 2 t0_4 a0.Last), .u (ul SrvBusy.c 6 t0_5 a0.Busy)]] [] (.val true [.u (cI r.Range), .u (cI r.Valid), .u (cI r.Asked), .row 0, .row 1, .row 2]) [.row 168 r.Pieces.length 4 (gl BlkPiece.c r.Pieces), .row 180 r.Last.length 2 (gl BlkLast.c r.Last), .row 122 r.Busy.length 6 (gl SrvBusy.c r.Busy)] := by
 refine Con.of_Dz tabOk Tryz.func221 rfl rfl rfl ?_
 delta l_toSrvCopy at hF
 refine Dz.seq (Dz.reg (Dz.seq (Dz.reg (Dz.seq (Dz.reg (Dz.seq (Dz.reg ?_)))))))
 refine Dz.seq (Dz.reg (Dz.seq (Dz.reg ?_)))
 refine bdE hF (fun y1 hy1 hF => ?_)
 refine callG [] (l_toBlkPieceS_c hy1) ⟨mv rfl, tv⟩ tv rfl ?_
 refine Dz.seq (Dz.reg ?_)
 refine bdE hF (fun y2 hy2 hF => ?_)
 refine callG [] (l_toBlkLastS_c hy2) ⟨mv rfl, tv⟩ tv rfl ?_
 refine Dz.seq (Dz.reg ?_)
 refine bdE hF (fun y3 hy3 hF => ?_)
 refine callG [] (l_toSrvBusyS_c hy3) ⟨mv rfl, tv⟩ tv rfl ?_
 refine Dz.seq (Dz.reg (Dz.ret ?_))
 cases hF
 exact finG [] [3, 4, 5] rfl rfl (⟨rfl, lr, lr, lr, rfl, rfl, rfl, tv⟩) ⟨⟨rfl, o_row⟩, ⟨rfl, o_row⟩, ⟨rfl, o_row⟩, tv⟩ rfl
def l_toSrvCopyS (a0 : (List SrvCopy)) : Option ((List SrvCopy)) :=
 ck (0 ≤ ((a0.length : Nat) : Int) ∧ ((a0.length : Nat) : Int) * 96 ≤ 140737488355328) (loopN (fun i2 (v13 : List SrvCopy) κ14 => lt (a0.getD i2 default) (fun x16 => (l_toSrvCopy x16).bind (fun y17 => ix v13 ((i2 : Nat) : Int) (fun _ => lt (v13.set i2 y17) (fun r18 => κ14 r18))))) (fun (v13 : List SrvCopy) => some v13) a0.length 0 (List.replicate a0.length (({ Range := 0, Valid := 0, Asked := 0, Pieces := [], Last := [], Busy := [] } : SrvCopy) : SrvCopy)))
theorem l_toSrvCopyS_c {t0_0 : Bool} {a0 : (List SrvCopy)} {r : (List SrvCopy)} (hF : l_toSrvCopyS a0 = some r) : Con Tryz.prog 172 [.val false [.u (ul SrvCopy.c 6 t0_0 a0)]] [] (.val false [.row 0]) [.row 92 r.length 6 (gl SrvCopy.c r)] := by
 refine Con.of_Dz tabOk Tryz.func172 rfl rfl rfl ?_
 delta l_toSrvCopyS at hF
 refine Dz.seq (Dz.reg (Dz.seq (Dz.reg ?_)))
 intro hb1; replace hb1 : a0.length ≤ 140737488355328 := hb1
 refine vck hF (fun h => ⟨rfl, h⟩) (fun hk hF => ?_)
 refine Dz.row 0 (List.replicate a0.length (({ Range := 0, Valid := 0, Asked := 0, Pieces := [], Last := [], Busy := [] } : SrvCopy) : SrvCopy)).length (gl SrvCopy.c (List.replicate a0.length (({ Range := 0, Valid := 0, Asked := 0, Pieces := [], Last := [], Busy := [] } : SrvCopy) : SrvCopy))) rfl (by simp <;> omega) (EqG.rep' (c := SrvCopy.c) (sz := 6) _ ⟨lr, lr, lr, LeU.nil, LeU.nil, LeU.nil, tv⟩) ?_
 refine Dz.seq (Dz.seq (Dz.reg (Dz.blk ?_)))
 refine Dz.cnt hF (fun i2 v13 => ([(0, .val false [.u (ul SrvCopy.c 6 t0_0 a0)]), (3, .val false [.row 0]), (4, vint .i64 ((i2 : Nat) : Int))], [.row 92 v13.length 6 (gl SrvCopy.c v13)])) (entG [0] ⟨mv rfl, ⟨rfl, rfl, tv⟩, mv rfl, tv⟩ ⟨⟨rfl, o_row⟩, tv⟩ rfl) (fun v13 hF => ?_) (fun i2 v13 κ14 hi0i2 hi1i2 hF => ?_)
 ·refine Dz.seq (Dz.seq (Dz.reg ?_))
  intro hb19; replace hb19 : a0.length ≤ 140737488355328 := hb19
  refine Dz.ff (b := decide (((0 + a0.length : Nat) : Int) < ((a0.length : Nat) : Int))) rfl (decide_eq_false (by omega)) ?_
  refine Dz.exit (Dz.seq (Dz.reg (Dz.ret ?_)))
  cases hF
  exact finG [] [0] rfl rfl (⟨rfl, rfl, tv⟩) ⟨⟨rfl, o_row⟩, tv⟩ rfl
 ·refine Dz.seq (Dz.seq (Dz.reg ?_))
  intro hb15; replace hb15 : a0.length ≤ 140737488355328 := hb15
  refine Dz.tt (b := decide (((i2 : Nat) : Int) < ((a0.length : Nat) : Int))) rfl (decide_eq_true (by omega)) ?_
  refine Dz.skip (Dz.seq (Dz.blk (Dz.reg ?_)))
  refine vge (n := ((i2 : Nat) : Int)) (hi := (a0.length : Int)) (by omega) (by omega) ?_
  have hF := ltE hF
  refine bdE hF (fun y17 hy17 hF => ?_)
  refine callG [] (l_toSrvCopy_c hy17) ⟨mv rfl, tv⟩ tv rfl ?_
  refine vix hF (fun _ _ hF => ?_)
  refine ltX hF (fun r18 hr18 hF => ?_)
  have hlr18 : r18.length = v13.length := by rw [hr18]; simp <;> omega
  refine Dz.row 0 r18.length (gl SrvCopy.c r18) rfl (by rw [hr18]; simp <;> omega) (by rw [hr18]; exact (EqG.set' rfl (EqG.refl _ _ _) ⟨lr, lr, lr, lr, lr, lr, tv⟩)) ?_
  refine Dz.reg ?_
  refine vsucc (by omega) ?_
  exact ⟨r18, entG [0] ⟨mv rfl, ⟨rfl, rfl, tv⟩, mv rfl, tv⟩ ⟨⟨rfl, o_row⟩, tv⟩ rfl, hF⟩
def l_toIntS (a0 : (List Int)) : Option ((List Int)) :=
 ck (0 ≤ ((a0.length : Nat) : Int) ∧ ((a0.length : Nat) : Int) * 8 ≤ 140737488355328) (loopN (fun i2 (v9 : List Int) κ10 => ix v9 ((i2 : Nat) : Int) (fun _ => lt (v9.set i2 (a0.getD i2 default)) (fun r12 => κ10 r12))) (fun (v9 : List Int) => some v9) a0.length 0 (List.replicate a0.length (0 : Int)))
theorem l_toIntS_c {t0_0 : Bool} {a0 : (List Int)} {r : (List Int)} (hF : l_toIntS a0 = some r) : Con Tryz.prog 223 [.val false [.u (ul cInt 1 t0_0 a0)]] [] (.val false [.row 0]) [.row 3 r.length 1 (gl cInt r)] := by
 refine Con.of_Dz tabOk Tryz.func223 rfl rfl rfl ?_
 delta l_toIntS at hF
 refine Dz.seq (Dz.reg (Dz.seq (Dz.reg ?_)))
 intro hb1; replace hb1 : a0.length ≤ 140737488355328 := hb1
 refine vck hF (fun h => ⟨rfl, h⟩) (fun hk hF => ?_)
 refine Dz.row 0 (List.replicate a0.length (0 : Int)).length (gl cInt (List.replicate a0.length (0 : Int))) rfl (by simp <;> omega) (EqG.rep' (c := cInt) (sz := 1) _ ⟨lr, tv⟩) ?_
 refine Dz.seq (Dz.seq (Dz.reg (Dz.blk ?_)))
 refine Dz.cnt hF (fun i2 v9 => ([(0, .val false [.u (ul cInt 1 t0_0 a0)]), (3, .val false [.row 0]), (4, vint .i64 ((i2 : Nat) : Int))], [.row 3 v9.length 1 (gl cInt v9)])) (entG [0] ⟨mv rfl, ⟨rfl, rfl, tv⟩, mv rfl, tv⟩ ⟨⟨rfl, o_row⟩, tv⟩ rfl) (fun v9 hF => ?_) (fun i2 v9 κ10 hi0i2 hi1i2 hF => ?_)
 ·refine Dz.seq (Dz.seq (Dz.reg ?_))
  intro hb13; replace hb13 : a0.length ≤ 140737488355328 := hb13
  refine Dz.ff (b := decide (((0 + a0.length : Nat) : Int) < ((a0.length : Nat) : Int))) rfl (decide_eq_false (by omega)) ?_
  refine Dz.exit (Dz.seq (Dz.reg (Dz.ret ?_)))
  cases hF
  exact finG [] [0] rfl rfl (⟨rfl, rfl, tv⟩) ⟨⟨rfl, o_row⟩, tv⟩ rfl
 ·refine Dz.seq (Dz.seq (Dz.reg ?_))
  intro hb11; replace hb11 : a0.length ≤ 140737488355328 := hb11
  refine Dz.tt (b := decide (((i2 : Nat) : Int) < ((a0.length : Nat) : Int))) rfl (decide_eq_true (by omega)) ?_
  refine Dz.skip (Dz.seq (Dz.blk (Dz.reg ?_)))
  refine vge (n := ((i2 : Nat) : Int)) (hi := (a0.length : Int)) (by omega) (by omega) ?_
  refine vix hF (fun _ _ hF => ?_)
  refine ltX hF (fun r12 hr12 hF => ?_)
  have hlr12 : r12.length = v9.length := by rw [hr12]; simp <;> omega
  refine Dz.row 0 r12.length (gl cInt r12) rfl (by rw [hr12]; simp <;> omega) (by rw [hr12]; exact (EqG.set' rfl (EqG.refl _ _ _) ⟨lr, tv⟩)) ?_
  refine Dz.reg ?_
  refine vsucc (by omega) ?_
  exact ⟨r12, entG [0] ⟨mv rfl, ⟨rfl, rfl, tv⟩, mv rfl, tv⟩ ⟨⟨rfl, o_row⟩, tv⟩ rfl, hF⟩
def l_toSynSeeker (a0 : SynSeeker) : Option (SynSeeker) :=
 (l_toCmd a0.Mine).bind (fun y1 => (l_toSynPaper a0.Best).bind (fun y2 => (l_toIntS a0.Yes).bind (fun y3 => some ({ Slot := a0.Slot, Ballot := a0.Ballot, Phase := a0.Phase, Mine := y1, Best := y2, Yes := y3 } : SynSeeker))))
theorem l_toSynSeeker_c {t0_25 : Bool} {a0 : SynSeeker} {r : SynSeeker} (hF : l_toSynSeeker a0 = some r) : Con Tryz.prog 173 [.val true [.u (cI a0.Slot), .u (cI a0.Ballot), .u (cI a0.Phase), .u (cI a0.Mine.Kind), .u (cI a0.Mine.Client), .u (cI a0.Mine.Call), .u (cI a0.Mine.Disk), .u (cI a0.Mine.Arg), .u (cI a0.Mine.Epoch), .u (cI a0.Mine.Range), .u (cI a0.Mine.Num), .u (cI a0.Mine.A), .u (cI a0.Mine.B), .u (cI a0.Best.Slot), .u (cI a0.Best.Ballot), .u (cI a0.Best.Cmd.Kind), .u (cI a0.Best.Cmd.Client), .u (cI a0.Best.Cmd.Call), .u (cI a0.Best.Cmd.Disk), .u (cI a0.Best.Cmd.Arg), .u (cI a0.Best.Cmd.Epoch), .u (cI a0.Best.Cmd.Range), .u (cI a0.Best.Cmd.Num), .u (cI a0.Best.Cmd.A), .u (cI a0.Best.Cmd.B), .u (ul cInt 1 t0_25 a0.Yes)]] [] (.val true [.u (cI r.Slot), .u (cI r.Ballot), .u (cI r.Phase), .u (cI r.Mine.Kind), .u (cI r.Mine.Client), .u (cI r.Mine.Call), .u (cI r.Mine.Disk), .u (cI r.Mine.Arg), .u (cI r.Mine.Epoch), .u (cI r.Mine.Range), .u (cI r.Mine.Num), .u (cI r.Mine.A), .u (cI r.Mine.B), .u (cI r.Best.Slot), .u (cI r.Best.Ballot), .u (cI r.Best.Cmd.Kind), .u (cI r.Best.Cmd.Client), .u (cI r.Best.Cmd.Call), .u (cI r.Best.Cmd.Disk), .u (cI r.Best.Cmd.Arg), .u (cI r.Best.Cmd.Epoch), .u (cI r.Best.Cmd.Range), .u (cI r.Best.Cmd.Num), .u (cI r.Best.Cmd.A), .u (cI r.Best.Cmd.B), .row 0]) [.row 3 r.Yes.length 1 (gl cInt r.Yes)] := by
 refine Con.of_Dz tabOk Tryz.func173 rfl rfl rfl ?_
 delta l_toSynSeeker at hF
 refine Dz.seq (Dz.reg (Dz.seq (Dz.reg (Dz.seq (Dz.reg (Dz.seq (Dz.reg ?_)))))))
 refine Dz.seq (Dz.reg (Dz.seq (Dz.reg ?_)))
 refine bdE hF (fun y1 hy1 hF => ?_)
 refine callG [] (l_toCmd_c hy1) ⟨mv rfl, tv⟩ tv rfl ?_
 refine Dz.seq (Dz.reg ?_)
 refine bdE hF (fun y2 hy2 hF => ?_)
 refine callG [] (l_toSynPaper_c hy2) ⟨mv rfl, tv⟩ tv rfl ?_
 refine Dz.seq (Dz.reg ?_)
 refine bdE hF (fun y3 hy3 hF => ?_)
 refine callG [] (l_toIntS_c hy3) ⟨mv rfl, tv⟩ tv rfl ?_
 refine Dz.seq (Dz.reg (Dz.ret ?_))
 cases hF
 exact finG [] [3] rfl rfl (⟨rfl, lr, lr, lr, lr, lr, lr, lr, lr, lr, lr, lr, lr, lr, lr, lr, lr, lr, lr, lr, lr, lr, lr, lr, lr, lr, rfl, tv⟩) ⟨⟨rfl, o_row⟩, tv⟩ rfl
def l_toSrvDoing (a0 : SrvDoing) : Option (SrvDoing) :=
 some a0
theorem l_toSrvDoing_c {a0 : SrvDoing} {r : SrvDoing} (hF : l_toSrvDoing a0 = some r) : Con Tryz.prog 224 [.val true (SrvDoing.L a0)] [] (.val true (SrvDoing.L r)) [] := by
 refine Con.of_Dz tabOk Tryz.func224 rfl rfl rfl ?_
 delta l_toSrvDoing at hF
 refine Dz.seq (Dz.reg (Dz.seq (Dz.reg (Dz.seq (Dz.reg (Dz.seq (Dz.reg ?_)))))))
 refine Dz.seq (Dz.reg (Dz.seq (Dz.reg (Dz.seq (Dz.reg (Dz.seq (Dz.reg ?_)))))))
 refine Dz.seq (Dz.reg (Dz.seq (Dz.reg (Dz.seq (Dz.reg (Dz.ret ?_))))))
 cases hF
 exact finG [] [] rfl rfl (mv rfl) tv rfl
def l_toSrvDoingS (a0 : (List SrvDoing)) : Option ((List SrvDoing)) :=
 ck (0 ≤ ((a0.length : Nat) : Int) ∧ ((a0.length : Nat) : Int) * 64 ≤ 140737488355328) (loopN (fun i2 (v13 : List SrvDoing) κ14 => lt (a0.getD i2 default) (fun x16 => (l_toSrvDoing x16).bind (fun y17 => ix v13 ((i2 : Nat) : Int) (fun _ => lt (v13.set i2 y17) (fun r18 => κ14 r18))))) (fun (v13 : List SrvDoing) => some v13) a0.length 0 (List.replicate a0.length (({ Range := 0, View := 0, Write := false, Client := 0, Call := 0, Disk := 0, Block := 0, Epoch := 0 } : SrvDoing) : SrvDoing)))
theorem l_toSrvDoingS_c {t0_0 : Bool} {a0 : (List SrvDoing)} {r : (List SrvDoing)} (hF : l_toSrvDoingS a0 = some r) : Con Tryz.prog 174 [.val false [.u (ul SrvDoing.c 8 t0_0 a0)]] [] (.val false [.row 0]) [.row 109 r.length 8 (gl SrvDoing.c r)] := by
 refine Con.of_Dz tabOk Tryz.func174 rfl rfl rfl ?_
 delta l_toSrvDoingS at hF
 refine Dz.seq (Dz.reg (Dz.seq (Dz.reg ?_)))
 intro hb1; replace hb1 : a0.length ≤ 140737488355328 := hb1
 refine vck hF (fun h => ⟨rfl, h⟩) (fun hk hF => ?_)
 refine Dz.row 0 (List.replicate a0.length (({ Range := 0, View := 0, Write := false, Client := 0, Call := 0, Disk := 0, Block := 0, Epoch := 0 } : SrvDoing) : SrvDoing)).length (gl SrvDoing.c (List.replicate a0.length (({ Range := 0, View := 0, Write := false, Client := 0, Call := 0, Disk := 0, Block := 0, Epoch := 0 } : SrvDoing) : SrvDoing))) rfl (by simp <;> omega) (EqG.rep' (c := SrvDoing.c) (sz := 8) _ ⟨lr, lr, lr, lr, lr, lr, lr, lr, tv⟩) ?_
 refine Dz.seq (Dz.seq (Dz.reg (Dz.blk ?_)))
 refine Dz.cnt hF (fun i2 v13 => ([(0, .val false [.u (ul SrvDoing.c 8 t0_0 a0)]), (3, .val false [.row 0]), (4, vint .i64 ((i2 : Nat) : Int))], [.row 109 v13.length 8 (gl SrvDoing.c v13)])) (entG [0] ⟨mv rfl, ⟨rfl, rfl, tv⟩, mv rfl, tv⟩ ⟨⟨rfl, o_row⟩, tv⟩ rfl) (fun v13 hF => ?_) (fun i2 v13 κ14 hi0i2 hi1i2 hF => ?_)
 ·refine Dz.seq (Dz.seq (Dz.reg ?_))
  intro hb19; replace hb19 : a0.length ≤ 140737488355328 := hb19
  refine Dz.ff (b := decide (((0 + a0.length : Nat) : Int) < ((a0.length : Nat) : Int))) rfl (decide_eq_false (by omega)) ?_
  refine Dz.exit (Dz.seq (Dz.reg (Dz.ret ?_)))
  cases hF
  exact finG [] [0] rfl rfl (⟨rfl, rfl, tv⟩) ⟨⟨rfl, o_row⟩, tv⟩ rfl
 ·refine Dz.seq (Dz.seq (Dz.reg ?_))
  intro hb15; replace hb15 : a0.length ≤ 140737488355328 := hb15
  refine Dz.tt (b := decide (((i2 : Nat) : Int) < ((a0.length : Nat) : Int))) rfl (decide_eq_true (by omega)) ?_
  refine Dz.skip (Dz.seq (Dz.blk (Dz.reg ?_)))
  refine vge (n := ((i2 : Nat) : Int)) (hi := (a0.length : Int)) (by omega) (by omega) ?_
  have hF := ltE hF
  refine bdE hF (fun y17 hy17 hF => ?_)
  refine callG [] (l_toSrvDoing_c hy17) ⟨mv rfl, tv⟩ tv rfl ?_
  refine vix hF (fun _ _ hF => ?_)
  refine ltX hF (fun r18 hr18 hF => ?_)
  have hlr18 : r18.length = v13.length := by rw [hr18]; simp <;> omega
  refine Dz.row 0 r18.length (gl SrvDoing.c r18) rfl (by rw [hr18]; simp <;> omega) (by rw [hr18]; exact (EqG.set' rfl (EqG.refl _ _ _) ⟨lr, lr, lr, lr, lr, lr, lr, lr, tv⟩)) ?_
  refine Dz.reg ?_
  refine vsucc (by omega) ?_
  exact ⟨r18, entG [0] ⟨mv rfl, ⟨rfl, rfl, tv⟩, mv rfl, tv⟩ ⟨⟨rfl, o_row⟩, tv⟩ rfl, hF⟩
def l_toServer (a0 : Server) : Option (Server) :=
 (l_toSynVoter a0.Voter).bind (fun y1 => (l_toCmdS a0.Log).bind (fun y2 => (l_toSrvCopyS a0.Copies).bind (fun y3 => (l_toSynSeeker a0.Seek).bind (fun y4 => (l_toCmdS a0.Wants).bind (fun y5 => (l_toSrvDoingS a0.Doing).bind (fun y6 => some ({ Id := a0.Id, Up := a0.Up, Gone := a0.Gone, Round := a0.Round, Voter := y1, Log := y2, Copies := y3, Seek := y4, Wants := y5, Doing := y6 } : Server)))))))
theorem l_toServer_c {t0_33 t0_34 t0_35 t0_5 t0_6 t0_7 : Bool} {a0 : Server} {r : Server} (hF : l_toServer a0 = some r) : Con Tryz.prog 99 [.val true (.u (cI a0.Id) :: .u (.bool a0.Up) :: .u (.bool a0.Gone) :: .u (cI a0.Round) :: .u (cI a0.Voter.Promised) :: .u (ul SynPaper.c 12 t0_5 a0.Voter.Papers) :: .u (ul Cmd.c 10 t0_6 a0.Log) :: .u (ul SrvCopy.c 6 t0_7 a0.Copies) :: .u (cI a0.Seek.Slot) :: .u (cI a0.Seek.Ballot) :: .u (cI a0.Seek.Phase) :: .u (cI a0.Seek.Mine.Kind) :: .u (cI a0.Seek.Mine.Client) :: .u (cI a0.Seek.Mine.Call) :: .u (cI a0.Seek.Mine.Disk) :: .u (cI a0.Seek.Mine.Arg) :: .u (cI a0.Seek.Mine.Epoch) :: .u (cI a0.Seek.Mine.Range) :: .u (cI a0.Seek.Mine.Num) :: .u (cI a0.Seek.Mine.A) :: .u (cI a0.Seek.Mine.B) :: .u (cI a0.Seek.Best.Slot) :: .u (cI a0.Seek.Best.Ballot) :: .u (cI a0.Seek.Best.Cmd.Kind) :: .u (cI a0.Seek.Best.Cmd.Client) :: .u (cI a0.Seek.Best.Cmd.Call) :: .u (cI a0.Seek.Best.Cmd.Disk) :: .u (cI a0.Seek.Best.Cmd.Arg) :: .u (cI a0.Seek.Best.Cmd.Epoch) :: .u (cI a0.Seek.Best.Cmd.Range) :: .u (cI a0.Seek.Best.Cmd.Num) :: .u (cI a0.Seek.Best.Cmd.A) :: .u (cI a0.Seek.Best.Cmd.B) :: .u (ul cInt 1 t0_33 a0.Seek.Yes) :: .u (ul Cmd.c 10 t0_34 a0.Wants) :: .u (ul SrvDoing.c 8 t0_35 a0.Doing) :: [])] [] (.val true (.u (cI r.Id) :: .u (.bool r.Up) :: .u (.bool r.Gone) :: .u (cI r.Round) :: .u (cI r.Voter.Promised) :: .row 0 :: .row 1 :: .row 2 :: .u (cI r.Seek.Slot) :: .u (cI r.Seek.Ballot) :: .u (cI r.Seek.Phase) :: .u (cI r.Seek.Mine.Kind) :: .u (cI r.Seek.Mine.Client) :: .u (cI r.Seek.Mine.Call) :: .u (cI r.Seek.Mine.Disk) :: .u (cI r.Seek.Mine.Arg) :: .u (cI r.Seek.Mine.Epoch) :: .u (cI r.Seek.Mine.Range) :: .u (cI r.Seek.Mine.Num) :: .u (cI r.Seek.Mine.A) :: .u (cI r.Seek.Mine.B) :: .u (cI r.Seek.Best.Slot) :: .u (cI r.Seek.Best.Ballot) :: .u (cI r.Seek.Best.Cmd.Kind) :: .u (cI r.Seek.Best.Cmd.Client) :: .u (cI r.Seek.Best.Cmd.Call) :: .u (cI r.Seek.Best.Cmd.Disk) :: .u (cI r.Seek.Best.Cmd.Arg) :: .u (cI r.Seek.Best.Cmd.Epoch) :: .u (cI r.Seek.Best.Cmd.Range) :: .u (cI r.Seek.Best.Cmd.Num) :: .u (cI r.Seek.Best.Cmd.A) :: .u (cI r.Seek.Best.Cmd.B) :: .row 3 :: .row 4 :: .row 5 :: [])) [.row 46 r.Voter.Papers.length 12 (gl SynPaper.c r.Voter.Papers), .row 44 r.Log.length 10 (gl Cmd.c r.Log), .row 92 r.Copies.length 6 (gl SrvCopy.c r.Copies), .row 3 r.Seek.Yes.length 1 (gl cInt r.Seek.Yes), .row 44 r.Wants.length 10 (gl Cmd.c r.Wants), .row 109 r.Doing.length 8 (gl SrvDoing.c r.Doing)] := by
 refine Con.of_Dz tabOk Tryz.func99 rfl rfl rfl ?_
 delta l_toServer at hF
 refine Dz.seq (Dz.reg (Dz.seq (Dz.reg (Dz.seq (Dz.reg (Dz.seq (Dz.reg ?_)))))))
 refine Dz.seq (Dz.reg (Dz.seq (Dz.reg (Dz.seq (Dz.reg ?_)))))
 refine bdE hF (fun y1 hy1 hF => ?_)
 refine callG [] (l_toSynVoter_c hy1) ⟨mv rfl, tv⟩ tv rfl ?_
 refine Dz.seq (Dz.reg ?_)
 refine bdE hF (fun y2 hy2 hF => ?_)
 refine callG [] (l_toCmdS_c hy2) ⟨mv rfl, tv⟩ tv rfl ?_
 refine Dz.seq (Dz.reg ?_)
 refine bdE hF (fun y3 hy3 hF => ?_)
 refine callG [] (l_toSrvCopyS_c hy3) ⟨mv rfl, tv⟩ tv rfl ?_
 refine Dz.seq (Dz.reg ?_)
 refine bdE hF (fun y4 hy4 hF => ?_)
 refine callG [] (l_toSynSeeker_c hy4) ⟨mv rfl, tv⟩ tv rfl ?_
 refine Dz.seq (Dz.reg ?_)
 refine bdE hF (fun y5 hy5 hF => ?_)
 refine callG [] (l_toCmdS_c hy5) ⟨mv rfl, tv⟩ tv rfl ?_
 refine Dz.seq (Dz.reg ?_)
 refine bdE hF (fun y6 hy6 hF => ?_)
 refine callG [] (l_toSrvDoingS_c hy6) ⟨mv rfl, tv⟩ tv rfl ?_
 refine Dz.seq (Dz.reg (Dz.ret ?_))
 cases hF
 exact finG [] [3, 4, 5, 6, 7, 8] rfl rfl (⟨rfl, lr, lr, lr, lr, lr, rfl, rfl, rfl, lr, lr, lr, lr, lr, lr, lr, lr, lr, lr, lr, lr, lr, lr, lr, lr, lr, lr, lr, lr, lr, lr, lr, lr, lr, rfl, rfl, rfl, tv⟩) ⟨⟨rfl, o_row⟩, ⟨rfl, o_row⟩, ⟨rfl, o_row⟩, ⟨rfl, o_row⟩, ⟨rfl, o_row⟩, ⟨rfl, o_row⟩, tv⟩ rfl
def l_toServerS (a0 : (List Server)) : Option ((List Server)) :=
 ck (0 ≤ ((a0.length : Nat) : Int) ∧ ((a0.length : Nat) : Int) * 376 ≤ 140737488355328) (loopN (fun i2 (v13 : List Server) κ14 => lt (a0.getD i2 default) (fun x16 => (l_toServer x16).bind (fun y17 => ix v13 ((i2 : Nat) : Int) (fun _ => lt (v13.set i2 y17) (fun r18 => κ14 r18))))) (fun (v13 : List Server) => some v13) a0.length 0 (List.replicate a0.length (({ Id := 0, Up := false, Gone := false, Round := 0, Voter := ({ Promised := 0, Papers := [] } : SynVoter), Log := [], Copies := [], Seek := ({ Slot := 0, Ballot := 0, Phase := 0, Mine := ({ Kind := 0, Client := 0, Call := 0, Disk := 0, Arg := 0, Epoch := 0, Range := 0, Num := 0, A := 0, B := 0 } : Cmd), Best := ({ Slot := 0, Ballot := 0, Cmd := ({ Kind := 0, Client := 0, Call := 0, Disk := 0, Arg := 0, Epoch := 0, Range := 0, Num := 0, A := 0, B := 0 } : Cmd) } : SynPaper), Yes := [] } : SynSeeker), Wants := [], Doing := [] } : Server) : Server)))
theorem l_toServerS_c {t0_0 : Bool} {a0 : (List Server)} {r : (List Server)} (hF : l_toServerS a0 = some r) : Con Tryz.prog 37 [.val false [.u (ul Server.c 36 t0_0 a0)]] [] (.val false [.row 0]) [.row 52 r.length 36 (gl Server.c r)] := by
 refine Con.of_Dz tabOk Tryz.func37 rfl rfl rfl ?_
 delta l_toServerS at hF
 refine Dz.seq (Dz.reg (Dz.seq (Dz.reg ?_)))
 intro hb1; replace hb1 : a0.length ≤ 140737488355328 := hb1
 refine vck hF (fun h => ⟨rfl, h⟩) (fun hk hF => ?_)
 refine Dz.row 0 (List.replicate a0.length (({ Id := 0, Up := false, Gone := false, Round := 0, Voter := ({ Promised := 0, Papers := [] } : SynVoter), Log := [], Copies := [], Seek := ({ Slot := 0, Ballot := 0, Phase := 0, Mine := ({ Kind := 0, Client := 0, Call := 0, Disk := 0, Arg := 0, Epoch := 0, Range := 0, Num := 0, A := 0, B := 0 } : Cmd), Best := ({ Slot := 0, Ballot := 0, Cmd := ({ Kind := 0, Client := 0, Call := 0, Disk := 0, Arg := 0, Epoch := 0, Range := 0, Num := 0, A := 0, B := 0 } : Cmd) } : SynPaper), Yes := [] } : SynSeeker), Wants := [], Doing := [] } : Server) : Server)).length (gl Server.c (List.replicate a0.length (({ Id := 0, Up := false, Gone := false, Round := 0, Voter := ({ Promised := 0, Papers := [] } : SynVoter), Log := [], Copies := [], Seek := ({ Slot := 0, Ballot := 0, Phase := 0, Mine := ({ Kind := 0, Client := 0, Call := 0, Disk := 0, Arg := 0, Epoch := 0, Range := 0, Num := 0, A := 0, B := 0 } : Cmd), Best := ({ Slot := 0, Ballot := 0, Cmd := ({ Kind := 0, Client := 0, Call := 0, Disk := 0, Arg := 0, Epoch := 0, Range := 0, Num := 0, A := 0, B := 0 } : Cmd) } : SynPaper), Yes := [] } : SynSeeker), Wants := [], Doing := [] } : Server) : Server))) rfl (by simp <;> omega) (EqG.rep' (c := Server.c) (sz := 36) _ ⟨lr, lr, lr, lr, lr, LeU.nil, LeU.nil, LeU.nil, lr, lr, lr, lr, lr, lr, lr, lr, lr, lr, lr, lr, lr, lr, lr, lr, lr, lr, lr, lr, lr, lr, lr, lr, lr, LeU.nil, LeU.nil, LeU.nil, tv⟩) ?_
 refine Dz.seq (Dz.seq (Dz.reg (Dz.blk ?_)))
 refine Dz.cnt hF (fun i2 v13 => ([(0, .val false [.u (ul Server.c 36 t0_0 a0)]), (3, .val false [.row 0]), (4, vint .i64 ((i2 : Nat) : Int))], [.row 52 v13.length 36 (gl Server.c v13)])) (entG [0] ⟨mv rfl, ⟨rfl, rfl, tv⟩, mv rfl, tv⟩ ⟨⟨rfl, o_row⟩, tv⟩ rfl) (fun v13 hF => ?_) (fun i2 v13 κ14 hi0i2 hi1i2 hF => ?_)
 ·refine Dz.seq (Dz.seq (Dz.reg ?_))
  intro hb19; replace hb19 : a0.length ≤ 140737488355328 := hb19
  refine Dz.ff (b := decide (((0 + a0.length : Nat) : Int) < ((a0.length : Nat) : Int))) rfl (decide_eq_false (by omega)) ?_
  refine Dz.exit (Dz.seq (Dz.reg (Dz.ret ?_)))
  cases hF
  exact finG [] [0] rfl rfl (⟨rfl, rfl, tv⟩) ⟨⟨rfl, o_row⟩, tv⟩ rfl
 ·refine Dz.seq (Dz.seq (Dz.reg ?_))
  intro hb15; replace hb15 : a0.length ≤ 140737488355328 := hb15
  refine Dz.tt (b := decide (((i2 : Nat) : Int) < ((a0.length : Nat) : Int))) rfl (decide_eq_true (by omega)) ?_
  refine Dz.skip (Dz.seq (Dz.blk (Dz.reg ?_)))
  refine vge (n := ((i2 : Nat) : Int)) (hi := (a0.length : Int)) (by omega) (by omega) ?_
  have hF := ltE hF
  refine bdE hF (fun y17 hy17 hF => ?_)
  refine callG [] (l_toServer_c hy17) ⟨mv rfl, tv⟩ tv rfl ?_
  refine vix hF (fun _ _ hF => ?_)
  refine ltX hF (fun r18 hr18 hF => ?_)
  have hlr18 : r18.length = v13.length := by rw [hr18]; simp <;> omega
  refine Dz.row 0 r18.length (gl Server.c r18) rfl (by rw [hr18]; simp <;> omega) (by rw [hr18]; exact (EqG.set' rfl (EqG.refl _ _ _) ⟨lr, lr, lr, lr, lr, lr, lr, lr, lr, lr, lr, lr, lr, lr, lr, lr, lr, lr, lr, lr, lr, lr, lr, lr, lr, lr, lr, lr, lr, lr, lr, lr, lr, lr, lr, lr, tv⟩)) ?_
  refine Dz.reg ?_
  refine vsucc (by omega) ?_
  exact ⟨r18, entG [0] ⟨mv rfl, ⟨rfl, rfl, tv⟩, mv rfl, tv⟩ ⟨⟨rfl, o_row⟩, tv⟩ rfl, hF⟩
def l_toWord (a0 : Word) : Option (Word) :=
 (l_toCmd a0.Cmd).bind (fun y1 => (l_toBlkPieceS a0.Pieces).bind (fun y2 => (l_toBlkLastS a0.Last).bind (fun y3 => some ({ Kind := a0.Kind, From := a0.From, To := a0.To, Ballot := a0.Ballot, Slot := a0.Slot, Was := a0.Was, Cmd := y1, Range := a0.Range, View := a0.View, Client := a0.Client, Call := a0.Call, Disk := a0.Disk, Block := a0.Block, Epoch := a0.Epoch, Data := a0.Data, Pieces := y2, Last := y3 } : Word))))
theorem l_toWord_c {t0_24 t0_25 : Bool} {a0 : Word} {r : Word} (hF : l_toWord a0 = some r) : Con Tryz.prog 100 [.val true [.u (cI a0.Kind), .u (cI a0.From), .u (cI a0.To), .u (cI a0.Ballot), .u (cI a0.Slot), .u (cI a0.Was), .u (cI a0.Cmd.Kind), .u (cI a0.Cmd.Client), .u (cI a0.Cmd.Call), .u (cI a0.Cmd.Disk), .u (cI a0.Cmd.Arg), .u (cI a0.Cmd.Epoch), .u (cI a0.Cmd.Range), .u (cI a0.Cmd.Num), .u (cI a0.Cmd.A), .u (cI a0.Cmd.B), .u (cI a0.Range), .u (cI a0.View), .u (cI a0.Client), .u (cI a0.Call), .u (cI a0.Disk), .u (cI a0.Block), .u (cI a0.Epoch), .u (cI a0.Data), .u (ul BlkPiece.c 4 t0_24 a0.Pieces), .u (ul BlkLast.c 2 t0_25 a0.Last)]] [] (.val true [.u (cI r.Kind), .u (cI r.From), .u (cI r.To), .u (cI r.Ballot), .u (cI r.Slot), .u (cI r.Was), .u (cI r.Cmd.Kind), .u (cI r.Cmd.Client), .u (cI r.Cmd.Call), .u (cI r.Cmd.Disk), .u (cI r.Cmd.Arg), .u (cI r.Cmd.Epoch), .u (cI r.Cmd.Range), .u (cI r.Cmd.Num), .u (cI r.Cmd.A), .u (cI r.Cmd.B), .u (cI r.Range), .u (cI r.View), .u (cI r.Client), .u (cI r.Call), .u (cI r.Disk), .u (cI r.Block), .u (cI r.Epoch), .u (cI r.Data), .row 0, .row 1]) [.row 168 r.Pieces.length 4 (gl BlkPiece.c r.Pieces), .row 180 r.Last.length 2 (gl BlkLast.c r.Last)] := by
 refine Con.of_Dz tabOk Tryz.func100 rfl rfl rfl ?_
 delta l_toWord at hF
 refine Dz.seq (Dz.reg (Dz.seq (Dz.reg (Dz.seq (Dz.reg (Dz.seq (Dz.reg ?_)))))))
 refine Dz.seq (Dz.reg (Dz.seq (Dz.reg (Dz.seq (Dz.reg (Dz.seq (Dz.reg ?_)))))))
 refine Dz.seq (Dz.reg ?_)
 refine bdE hF (fun y1 hy1 hF => ?_)
 refine callG [] (l_toCmd_c hy1) ⟨mv rfl, tv⟩ tv rfl ?_
 refine Dz.seq (Dz.reg (Dz.seq (Dz.reg (Dz.seq (Dz.reg (Dz.seq (Dz.reg ?_)))))))
 refine Dz.seq (Dz.reg (Dz.seq (Dz.reg (Dz.seq (Dz.reg (Dz.seq (Dz.reg ?_)))))))
 refine Dz.seq (Dz.reg ?_)
 refine bdE hF (fun y2 hy2 hF => ?_)
 refine callG [] (l_toBlkPieceS_c hy2) ⟨mv rfl, tv⟩ tv rfl ?_
 refine Dz.seq (Dz.reg ?_)
 refine bdE hF (fun y3 hy3 hF => ?_)
 refine callG [] (l_toBlkLastS_c hy3) ⟨mv rfl, tv⟩ tv rfl ?_
 refine Dz.seq (Dz.reg (Dz.ret ?_))
 cases hF
 exact finG [] [3, 4] rfl rfl (⟨rfl, lr, lr, lr, lr, lr, lr, lr, lr, lr, lr, lr, lr, lr, lr, lr, lr, lr, lr, lr, lr, lr, lr, lr, lr, rfl, rfl, tv⟩) ⟨⟨rfl, o_row⟩, ⟨rfl, o_row⟩, tv⟩ rfl
def l_toWordS (a0 : (List Word)) : Option ((List Word)) :=
 ck (0 ≤ ((a0.length : Nat) : Int) ∧ ((a0.length : Nat) : Int) * 240 ≤ 140737488355328) (loopN (fun i2 (v13 : List Word) κ14 => lt (a0.getD i2 default) (fun x16 => (l_toWord x16).bind (fun y17 => ix v13 ((i2 : Nat) : Int) (fun _ => lt (v13.set i2 y17) (fun r18 => κ14 r18))))) (fun (v13 : List Word) => some v13) a0.length 0 (List.replicate a0.length (({ Kind := 0, From := 0, To := 0, Ballot := 0, Slot := 0, Was := 0, Cmd := ({ Kind := 0, Client := 0, Call := 0, Disk := 0, Arg := 0, Epoch := 0, Range := 0, Num := 0, A := 0, B := 0 } : Cmd), Range := 0, View := 0, Client := 0, Call := 0, Disk := 0, Block := 0, Epoch := 0, Data := 0, Pieces := [], Last := [] } : Word) : Word)))
theorem l_toWordS_c {t0_0 : Bool} {a0 : (List Word)} {r : (List Word)} (hF : l_toWordS a0 = some r) : Con Tryz.prog 38 [.val false [.u (ul Word.c 26 t0_0 a0)]] [] (.val false [.row 0]) [.row 62 r.length 26 (gl Word.c r)] := by
 refine Con.of_Dz tabOk Tryz.func38 rfl rfl rfl ?_
 delta l_toWordS at hF
 refine Dz.seq (Dz.reg (Dz.seq (Dz.reg ?_)))
 intro hb1; replace hb1 : a0.length ≤ 140737488355328 := hb1
 refine vck hF (fun h => ⟨rfl, h⟩) (fun hk hF => ?_)
 refine Dz.row 0 (List.replicate a0.length (({ Kind := 0, From := 0, To := 0, Ballot := 0, Slot := 0, Was := 0, Cmd := ({ Kind := 0, Client := 0, Call := 0, Disk := 0, Arg := 0, Epoch := 0, Range := 0, Num := 0, A := 0, B := 0 } : Cmd), Range := 0, View := 0, Client := 0, Call := 0, Disk := 0, Block := 0, Epoch := 0, Data := 0, Pieces := [], Last := [] } : Word) : Word)).length (gl Word.c (List.replicate a0.length (({ Kind := 0, From := 0, To := 0, Ballot := 0, Slot := 0, Was := 0, Cmd := ({ Kind := 0, Client := 0, Call := 0, Disk := 0, Arg := 0, Epoch := 0, Range := 0, Num := 0, A := 0, B := 0 } : Cmd), Range := 0, View := 0, Client := 0, Call := 0, Disk := 0, Block := 0, Epoch := 0, Data := 0, Pieces := [], Last := [] } : Word) : Word))) rfl (by simp <;> omega) (EqG.rep' (c := Word.c) (sz := 26) _ ⟨lr, lr, lr, lr, lr, lr, lr, lr, lr, lr, lr, lr, lr, lr, lr, lr, lr, lr, lr, lr, lr, lr, lr, lr, LeU.nil, LeU.nil, tv⟩) ?_
 refine Dz.seq (Dz.seq (Dz.reg (Dz.blk ?_)))
 refine Dz.cnt hF (fun i2 v13 => ([(0, .val false [.u (ul Word.c 26 t0_0 a0)]), (3, .val false [.row 0]), (4, vint .i64 ((i2 : Nat) : Int))], [.row 62 v13.length 26 (gl Word.c v13)])) (entG [0] ⟨mv rfl, ⟨rfl, rfl, tv⟩, mv rfl, tv⟩ ⟨⟨rfl, o_row⟩, tv⟩ rfl) (fun v13 hF => ?_) (fun i2 v13 κ14 hi0i2 hi1i2 hF => ?_)
 ·refine Dz.seq (Dz.seq (Dz.reg ?_))
  intro hb19; replace hb19 : a0.length ≤ 140737488355328 := hb19
  refine Dz.ff (b := decide (((0 + a0.length : Nat) : Int) < ((a0.length : Nat) : Int))) rfl (decide_eq_false (by omega)) ?_
  refine Dz.exit (Dz.seq (Dz.reg (Dz.ret ?_)))
  cases hF
  exact finG [] [0] rfl rfl (⟨rfl, rfl, tv⟩) ⟨⟨rfl, o_row⟩, tv⟩ rfl
 ·refine Dz.seq (Dz.seq (Dz.reg ?_))
  intro hb15; replace hb15 : a0.length ≤ 140737488355328 := hb15
  refine Dz.tt (b := decide (((i2 : Nat) : Int) < ((a0.length : Nat) : Int))) rfl (decide_eq_true (by omega)) ?_
  refine Dz.skip (Dz.seq (Dz.blk (Dz.reg ?_)))
  refine vge (n := ((i2 : Nat) : Int)) (hi := (a0.length : Int)) (by omega) (by omega) ?_
  have hF := ltE hF
  refine bdE hF (fun y17 hy17 hF => ?_)
  refine callG [] (l_toWord_c hy17) ⟨mv rfl, tv⟩ tv rfl ?_
  refine vix hF (fun _ _ hF => ?_)
  refine ltX hF (fun r18 hr18 hF => ?_)
  have hlr18 : r18.length = v13.length := by rw [hr18]; simp <;> omega
  refine Dz.row 0 r18.length (gl Word.c r18) rfl (by rw [hr18]; simp <;> omega) (by rw [hr18]; exact (EqG.set' rfl (EqG.refl _ _ _) ⟨lr, lr, lr, lr, lr, lr, lr, lr, lr, lr, lr, lr, lr, lr, lr, lr, lr, lr, lr, lr, lr, lr, lr, lr, lr, lr, tv⟩)) ?_
  refine Dz.reg ?_
  refine vsucc (by omega) ?_
  exact ⟨r18, entG [0] ⟨mv rfl, ⟨rfl, rfl, tv⟩, mv rfl, tv⟩ ⟨⟨rfl, o_row⟩, tv⟩ rfl, hF⟩
def l_toPanCall (a0 : PanCall) : Option (PanCall) :=
 some a0
theorem l_toPanCall_c {a0 : PanCall} {r : PanCall} (hF : l_toPanCall a0 = some r) : Con Tryz.prog 101 [.val true (PanCall.L a0)] [] (.val true (PanCall.L r)) [] := by
 refine Con.of_Dz tabOk Tryz.func101 rfl rfl rfl ?_
 delta l_toPanCall at hF
 refine Dz.seq (Dz.reg (Dz.seq (Dz.reg (Dz.seq (Dz.reg (Dz.seq (Dz.reg ?_)))))))
 refine Dz.seq (Dz.reg (Dz.seq (Dz.reg (Dz.seq (Dz.reg (Dz.seq (Dz.reg ?_)))))))
 refine Dz.seq (Dz.reg (Dz.seq (Dz.reg (Dz.seq (Dz.reg (Dz.seq (Dz.reg ?_)))))))
 refine Dz.seq (Dz.reg (Dz.seq (Dz.reg (Dz.seq (Dz.reg (Dz.ret ?_))))))
 cases hF
 exact finG [] [] rfl rfl (mv rfl) tv rfl
def l_toPanCallS (a0 : (List PanCall)) : Option ((List PanCall)) :=
 ck (0 ≤ ((a0.length : Nat) : Int) ∧ ((a0.length : Nat) : Int) * 96 ≤ 140737488355328) (loopN (fun i2 (v13 : List PanCall) κ14 => lt (a0.getD i2 default) (fun x16 => (l_toPanCall x16).bind (fun y17 => ix v13 ((i2 : Nat) : Int) (fun _ => lt (v13.set i2 y17) (fun r18 => κ14 r18))))) (fun (v13 : List PanCall) => some v13) a0.length 0 (List.replicate a0.length (({ Client := 0, Call := 0, Op := 0, Disk := 0, Block := 0, Epoch := 0, Data := 0, Begin := 0, End := 0, Over := false, Code := 0, Value := 0 } : PanCall) : PanCall)))
theorem l_toPanCallS_c {t0_0 : Bool} {a0 : (List PanCall)} {r : (List PanCall)} (hF : l_toPanCallS a0 = some r) : Con Tryz.prog 39 [.val false [.u (ul PanCall.c 12 t0_0 a0)]] [] (.val false [.row 0]) [.row 162 r.length 12 (gl PanCall.c r)] := by
 refine Con.of_Dz tabOk Tryz.func39 rfl rfl rfl ?_
 delta l_toPanCallS at hF
 refine Dz.seq (Dz.reg (Dz.seq (Dz.reg ?_)))
 intro hb1; replace hb1 : a0.length ≤ 140737488355328 := hb1
 refine vck hF (fun h => ⟨rfl, h⟩) (fun hk hF => ?_)
 refine Dz.row 0 (List.replicate a0.length (({ Client := 0, Call := 0, Op := 0, Disk := 0, Block := 0, Epoch := 0, Data := 0, Begin := 0, End := 0, Over := false, Code := 0, Value := 0 } : PanCall) : PanCall)).length (gl PanCall.c (List.replicate a0.length (({ Client := 0, Call := 0, Op := 0, Disk := 0, Block := 0, Epoch := 0, Data := 0, Begin := 0, End := 0, Over := false, Code := 0, Value := 0 } : PanCall) : PanCall))) rfl (by simp <;> omega) (EqG.rep' (c := PanCall.c) (sz := 12) _ ⟨lr, lr, lr, lr, lr, lr, lr, lr, lr, lr, lr, lr, tv⟩) ?_
 refine Dz.seq (Dz.seq (Dz.reg (Dz.blk ?_)))
 refine Dz.cnt hF (fun i2 v13 => ([(0, .val false [.u (ul PanCall.c 12 t0_0 a0)]), (3, .val false [.row 0]), (4, vint .i64 ((i2 : Nat) : Int))], [.row 162 v13.length 12 (gl PanCall.c v13)])) (entG [0] ⟨mv rfl, ⟨rfl, rfl, tv⟩, mv rfl, tv⟩ ⟨⟨rfl, o_row⟩, tv⟩ rfl) (fun v13 hF => ?_) (fun i2 v13 κ14 hi0i2 hi1i2 hF => ?_)
 ·refine Dz.seq (Dz.seq (Dz.reg ?_))
  intro hb19; replace hb19 : a0.length ≤ 140737488355328 := hb19
  refine Dz.ff (b := decide (((0 + a0.length : Nat) : Int) < ((a0.length : Nat) : Int))) rfl (decide_eq_false (by omega)) ?_
  refine Dz.exit (Dz.seq (Dz.reg (Dz.ret ?_)))
  cases hF
  exact finG [] [0] rfl rfl (⟨rfl, rfl, tv⟩) ⟨⟨rfl, o_row⟩, tv⟩ rfl
 ·refine Dz.seq (Dz.seq (Dz.reg ?_))
  intro hb15; replace hb15 : a0.length ≤ 140737488355328 := hb15
  refine Dz.tt (b := decide (((i2 : Nat) : Int) < ((a0.length : Nat) : Int))) rfl (decide_eq_true (by omega)) ?_
  refine Dz.skip (Dz.seq (Dz.blk (Dz.reg ?_)))
  refine vge (n := ((i2 : Nat) : Int)) (hi := (a0.length : Int)) (by omega) (by omega) ?_
  have hF := ltE hF
  refine bdE hF (fun y17 hy17 hF => ?_)
  refine callG [] (l_toPanCall_c hy17) ⟨mv rfl, tv⟩ tv rfl ?_
  refine vix hF (fun _ _ hF => ?_)
  refine ltX hF (fun r18 hr18 hF => ?_)
  have hlr18 : r18.length = v13.length := by rw [hr18]; simp <;> omega
  refine Dz.row 0 r18.length (gl PanCall.c r18) rfl (by rw [hr18]; simp <;> omega) (by rw [hr18]; exact (EqG.set' rfl (EqG.refl _ _ _) ⟨lr, lr, lr, lr, lr, lr, lr, lr, lr, lr, lr, lr, tv⟩)) ?_
  refine Dz.reg ?_
  refine vsucc (by omega) ?_
  exact ⟨r18, entG [0] ⟨mv rfl, ⟨rfl, rfl, tv⟩, mv rfl, tv⟩ ⟨⟨rfl, o_row⟩, tv⟩ rfl, hF⟩
def l_toPanWorld (a0 : PanWorld) : Option (PanWorld) :=
 (l_toServerS a0.Servers).bind (fun y1 => (l_toWordS a0.Radio).bind (fun y2 => (l_toPanCallS a0.Calls).bind (fun y3 => some ({ Time := a0.Time, Servers := y1, Radio := y2, Calls := y3 } : PanWorld))))
theorem l_toPanWorld_c {t0_1 t0_2 t0_3 : Bool} {a0 : PanWorld} {r : PanWorld} (hF : l_toPanWorld a0 = some r) : Con Tryz.prog 10 [.val true [.u (cI a0.Time), .u (ul Server.c 36 t0_1 a0.Servers), .u (ul Word.c 26 t0_2 a0.Radio), .u (ul PanCall.c 12 t0_3 a0.Calls)]] [] (.val true [.u (cI r.Time), .row 0, .row 1, .row 2]) [.row 52 r.Servers.length 36 (gl Server.c r.Servers), .row 62 r.Radio.length 26 (gl Word.c r.Radio), .row 162 r.Calls.length 12 (gl PanCall.c r.Calls)] := by
 refine Con.of_Dz tabOk Tryz.func10 rfl rfl rfl ?_
 delta l_toPanWorld at hF
 refine Dz.seq (Dz.reg (Dz.seq (Dz.reg (Dz.seq (Dz.reg (Dz.seq (Dz.reg ?_)))))))
 refine bdE hF (fun y1 hy1 hF => ?_)
 refine callG [] (l_toServerS_c hy1) ⟨mv rfl, tv⟩ tv rfl ?_
 refine Dz.seq (Dz.reg ?_)
 refine bdE hF (fun y2 hy2 hF => ?_)
 refine callG [] (l_toWordS_c hy2) ⟨mv rfl, tv⟩ tv rfl ?_
 refine Dz.seq (Dz.reg ?_)
 refine bdE hF (fun y3 hy3 hF => ?_)
 refine callG [] (l_toPanCallS_c hy3) ⟨mv rfl, tv⟩ tv rfl ?_
 refine Dz.seq (Dz.reg (Dz.ret ?_))
 cases hF
 exact finG [] [3, 4, 5] rfl rfl (⟨rfl, lr, rfl, rfl, rfl, tv⟩) ⟨⟨rfl, o_row⟩, ⟨rfl, o_row⟩, ⟨rfl, o_row⟩, tv⟩ rfl
def i_in (a0 : Int) (a1 : Int) (a2 : Int) : Option (Bool) :=
 cond (decide (a1 ≤ a0)) (some (decide (a0 ≤ a2))) (some false)
theorem i_in_c {a0 : Int} {a1 : Int} {a2 : Int} {r : Bool} (hF : i_in a0 a1 a2 = some r) : Con Tryz.prog 102 [vint .i64 a0, vint .i64 a1, vint .i64 a2] [] (vbool r) [] := by
 refine Con.of_Dz tabOk Tryz.func102 rfl rfl rfl ?_
 delta i_in at hF
 refine Dz.seq (Dz.reg (Dz.seq (Dz.reg ?_)))
 refine vif hF (fun _ hF => ?_) (fun _ hF => ?_)
 ·refine Dz.ret ?_
  cases hF
  exact finG [] [] rfl rfl (mv rfl) tv rfl
 ·refine Dz.ret ?_
  cases hF
  exact finG [] [] rfl rfl (mv rfl) tv rfl
def i_isRange (a0 : Int) : Option (Bool) :=
 (i_in a0 0 2).bind (fun y1 => some y1)
theorem i_isRange_c {a0 : Int} {r : Bool} (hF : i_isRange a0 = some r) : Con Tryz.prog 74 [vint .i64 a0] [] (vbool r) [] := by
 refine Con.of_Dz tabOk Tryz.func74 rfl rfl rfl ?_
 delta i_isRange at hF
 refine Dz.seq (Dz.reg (Dz.seq (Dz.reg ?_)))
 refine bdE hF (fun y1 hy1 hF => ?_)
 refine callG [] (i_in_c hy1) ⟨mv rfl, mv rfl, mv rfl, tv⟩ tv rfl ?_
 refine Dz.ret ?_
 cases hF
 exact finG [] [] rfl rfl (mv rfl) tv rfl
def i_isServer (a0 : Int) : Option (Bool) :=
 (i_in a0 0 4).bind (fun y1 => some y1)
theorem i_isServer_c {a0 : Int} {r : Bool} (hF : i_isServer a0 = some r) : Con Tryz.prog 132 [vint .i64 a0] [] (vbool r) [] := by
 refine Con.of_Dz tabOk Tryz.func132 rfl rfl rfl ?_
 delta i_isServer at hF
 refine Dz.seq (Dz.reg (Dz.seq (Dz.reg ?_)))
 refine bdE hF (fun y1 hy1 hF => ?_)
 refine callG [] (i_in_c hy1) ⟨mv rfl, mv rfl, mv rfl, tv⟩ tv rfl ?_
 refine Dz.ret ?_
 cases hF
 exact finG [] [] rfl rfl (mv rfl) tv rfl
def i_cmdNumbers (a0 : Cmd) : Option ((List Int)) :=
 some ([a0.Kind, a0.Client, a0.Call, a0.Disk, a0.Arg, a0.Epoch, a0.Range, a0.Num, a0.A, a0.B] : List Int)
theorem i_cmdNumbers_c {a0 : Cmd} {r : (List Int)} (hF : i_cmdNumbers a0 = some r) : Con Tryz.prog 77 [.val true (Cmd.L a0)] [] (.val false [.row 0]) [.row 3 r.length 1 (gl cInt r)] := by
 refine Con.of_Dz tabOk Tryz.func77 rfl rfl rfl ?_
 delta i_cmdNumbers at hF
 refine Dz.seq (Dz.reg (Dz.seq (Dz.reg (Dz.ret ?_))))
 cases hF
 exact finG [] [1] rfl rfl (⟨rfl, rfl, tv⟩) ⟨⟨rfl, o_rowE (by simp <;> omega) (EqG.lit (c := cInt) (sz := 1) (L := ([a0.Kind, a0.Client, a0.Call, a0.Disk, a0.Arg, a0.Epoch, a0.Range, a0.Num, a0.A, a0.B] : List Int)) ⟨lr, lr, lr, lr, lr, lr, lr, lr, lr, lr, tv⟩)⟩, tv⟩ rfl
def i_numbersOk (a0 : (List Int)) : Option (Bool) :=
 loopN (fun i2 (v4 : Unit) κ5 => (i_in (a0.getD i2 default) (-1) 99999).bind (fun y6 => cond (!y6) (some false) (κ5 ()))) (fun (v4 : Unit) => some true) a0.length 0 ()
theorem i_numbersOk_c {t0_0 : Bool} {a0 : (List Int)} {r : Bool} (hF : i_numbersOk a0 = some r) : Con Tryz.prog 181 [.val false [.u (ul cInt 1 t0_0 a0)]] [] (vbool r) [] := by
 refine Con.of_Dz tabOk Tryz.func181 rfl rfl rfl ?_
 delta i_numbersOk at hF
 refine Dz.seq (Dz.reg (Dz.seq (Dz.seq (Dz.reg ?_))))
 intro hb1; replace hb1 : a0.length ≤ 140737488355328 := hb1
 refine Dz.blk ?_
 refine Dz.cnt hF (fun i2 v4 => ([(5, .val false [.u (ul cInt 1 t0_0 a0)]), (6, vint .i64 ((a0.length : Nat) : Int)), (7, vint .i64 ((i2 : Nat) : Int))], [])) (entG [] ⟨mv rfl, mv rfl, mv rfl, tv⟩ tv rfl) (fun v4 hF => ?_) (fun i2 v4 κ5 hi0i2 hi1i2 hF => ?_)
 ·refine Dz.seq (Dz.reg (Dz.seq ?_))
  refine Dz.ff (b := decide (((0 + a0.length : Nat) : Int) < ((a0.length : Nat) : Int))) rfl (decide_eq_false (by omega)) ?_
  refine Dz.exit (Dz.seq (Dz.reg (Dz.ret ?_)))
  cases hF
  exact finG [] [] rfl rfl (mv rfl) tv rfl
 ·refine Dz.seq (Dz.reg (Dz.seq ?_))
  refine Dz.tt (b := decide (((i2 : Nat) : Int) < ((a0.length : Nat) : Int))) rfl (decide_eq_true (by omega)) ?_
  refine Dz.skip (Dz.seq (Dz.blk (Dz.seq (Dz.reg ?_))))
  refine vge (n := ((i2 : Nat) : Int)) (hi := (a0.length : Int)) (by omega) (by omega) ?_
  refine Dz.seq (Dz.reg ?_)
  refine bdE hF (fun y6 hy6 hF => ?_)
  refine callG [] (i_in_c hy6) ⟨mv rfl, mv rfl, mv rfl, tv⟩ tv rfl ?_
  refine Dz.ite rfl hF (fun _ hF => ?_) (fun _ hF => ?_)
  ·refine Dz.seq (Dz.reg (Dz.ret ?_))
   cases hF
   exact finG [] [] rfl rfl (mv rfl) tv rfl
  ·refine Dz.skip (Dz.reg ?_)
   refine vsucc (by omega) ?_
   exact ⟨(), entG [] ⟨mv rfl, mv rfl, mv rfl, tv⟩ tv rfl, hF⟩
def i_cmdOk (a0 : Cmd) : Option (Bool) :=
 (i_in a0.Kind 0 7).bind (fun y1 => cond y1 ((i_cmdNumbers a0).bind (fun y2 => (i_numbersOk y2).bind (fun y3 => some y3))) (some false))
theorem i_cmdOk_c {a0 : Cmd} {r : Bool} (hF : i_cmdOk a0 = some r) : Con Tryz.prog 144 [.val true (Cmd.L a0)] [] (vbool r) [] := by
 refine Con.of_Dz tabOk Tryz.func144 rfl rfl rfl ?_
 delta i_cmdOk at hF
 refine Dz.seq (Dz.reg (Dz.seq (Dz.reg ?_)))
 refine bdE hF (fun y1 hy1 hF => ?_)
 refine callG [] (i_in_c hy1) ⟨mv rfl, mv rfl, mv rfl, tv⟩ tv rfl ?_
 refine vif hF (fun _ hF => ?_) (fun _ hF => ?_)
 ·refine bdE hF (fun y2 hy2 hF => ?_)
  refine callG [] (i_cmdNumbers_c hy2) ⟨mv rfl, tv⟩ tv rfl ?_
  refine bdE hF (fun y3 hy3 hF => ?_)
  refine callL [] (i_numbersOk_c hy3) ⟨⟨rfl, ⟨rfl, rfl, lr⟩, tv⟩, tv⟩ tv rfl ⟨⟨tv, tv⟩, tv⟩ ?_
  refine Dz.ret ?_
  cases hF
  exact finG [] [] rfl rfl (mv rfl) tv rfl
 ·refine Dz.ret ?_
  cases hF
  exact finG [] [] rfl rfl (mv rfl) tv rfl
def i_paperOk (a0 : SynPaper) : Option (Bool) :=
 (i_in a0.Slot 1 60).bind (fun y1 => cond y1 ((i_in a0.Ballot 1 99999).bind (fun y2 => cond y2 ((i_cmdOk a0.Cmd).bind (fun y3 => some y3)) (some false))) (some false))
theorem i_paperOk_c {a0 : SynPaper} {r : Bool} (hF : i_paperOk a0 = some r) : Con Tryz.prog 202 [.val true (SynPaper.L a0)] [] (vbool r) [] := by
 refine Con.of_Dz tabOk Tryz.func202 rfl rfl rfl ?_
 delta i_paperOk at hF
 refine Dz.seq (Dz.reg (Dz.seq (Dz.reg ?_)))
 refine bdE hF (fun y1 hy1 hF => ?_)
 refine callG [] (i_in_c hy1) ⟨mv rfl, mv rfl, mv rfl, tv⟩ tv rfl ?_
 refine vif hF (fun _ hF => ?_) (fun _ hF => ?_)
 ·refine bdE hF (fun y2 hy2 hF => ?_)
  refine callG [] (i_in_c hy2) ⟨mv rfl, mv rfl, mv rfl, tv⟩ tv rfl ?_
  refine vif hF (fun _ hF => ?_) (fun _ hF => ?_)
  ·refine bdE hF (fun y3 hy3 hF => ?_)
   refine callG [] (i_cmdOk_c hy3) ⟨mv rfl, tv⟩ tv rfl ?_
   refine Dz.ret ?_
   cases hF
   exact finG [] [] rfl rfl (mv rfl) tv rfl
  ·refine Dz.ret ?_
   cases hF
   exact finG [] [] rfl rfl (mv rfl) tv rfl
 ·refine Dz.ret ?_
  cases hF
  exact finG [] [] rfl rfl (mv rfl) tv rfl
def i_SynVoterOk (a0 : SynVoter) : Option (Bool) :=
 loopN (fun i2 (v6 : Unit) κ7 => lt (a0.Papers.getD i2 default) (fun x8 => (i_paperOk x8).bind (fun y9 => cond (!y9) (some false) (cond (decide (a0.Promised < x8.Ballot)) (some false) (cond (decide ((0 : Int) < ((i2 : Nat) : Int))) (ix a0.Papers (((i2 : Nat) : Int) - 1) (fun x10 => cond (decide (x8.Slot ≤ x10.Slot)) (some false) (κ7 ()))) (κ7 ())))))) (fun (v6 : Unit) => (i_in a0.Promised 0 99999).bind (fun y11 => cond y11 (some (decide (((a0.Papers.length : Nat) : Int) ≤ 60))) (some false))) a0.Papers.length 0 ()
theorem i_SynVoterOk_c {t0_1 : Bool} {a0 : SynVoter} {r : Bool} (hF : i_SynVoterOk a0 = some r) : Con Tryz.prog 133 [.val true [.u (cI a0.Promised), .u (ul SynPaper.c 12 t0_1 a0.Papers)]] [] (vbool r) [] := by
 refine Con.of_Dz tabOk Tryz.func133 rfl rfl rfl ?_
 delta i_SynVoterOk at hF
 refine Dz.seq (Dz.reg (Dz.seq (Dz.seq (Dz.reg ?_))))
 intro hb1; replace hb1 : a0.Papers.length ≤ 140737488355328 := hb1
 refine Dz.blk ?_
 refine Dz.cnt hF (fun i2 v6 => ([(1, .ptr 0 0), (6, .val false [.u (ul SynPaper.c 12 t0_1 a0.Papers)]), (7, vint .i64 ((a0.Papers.length : Nat) : Int)), (8, vint .i64 ((i2 : Nat) : Int))], [.box 40 [.u (cI a0.Promised), .u (ul SynPaper.c 12 t0_1 a0.Papers)]])) (entG [0] ⟨mp rfl, mv rfl, mv rfl, mv rfl, tv⟩ ⟨⟨rfl, o_box rfl⟩, tv⟩ rfl) (fun v6 hF => ?_) (fun i2 v6 κ7 hi0i2 hi1i2 hF => ?_)
 ·refine Dz.seq (Dz.reg (Dz.seq ?_))
  refine Dz.ff (b := decide (((0 + a0.Papers.length : Nat) : Int) < ((a0.Papers.length : Nat) : Int))) rfl (decide_eq_false (by omega)) ?_
  refine Dz.exit (Dz.seq (Dz.reg ?_))
  refine bdE hF (fun y11 hy11 hF => ?_)
  refine callG [] (i_in_c hy11) ⟨mv rfl, mv rfl, mv rfl, tv⟩ tv rfl ?_
  refine vif hF (fun _ hF => ?_) (fun _ hF => ?_)
  ·intro hb12; replace hb12 : a0.Papers.length ≤ 140737488355328 := hb12
   refine Dz.ret ?_
   cases hF
   exact finG [] [] rfl rfl (mv rfl) tv rfl
  ·refine Dz.ret ?_
   cases hF
   exact finG [] [] rfl rfl (mv rfl) tv rfl
 ·refine Dz.seq (Dz.reg (Dz.seq ?_))
  refine Dz.tt (b := decide (((i2 : Nat) : Int) < ((a0.Papers.length : Nat) : Int))) rfl (decide_eq_true (by omega)) ?_
  refine Dz.skip (Dz.seq (Dz.blk (Dz.seq (Dz.reg ?_))))
  refine vge (n := ((i2 : Nat) : Int)) (hi := (a0.Papers.length : Int)) (by omega) (by omega) ?_
  have hF := ltE hF
  refine Dz.seq ?_
  refine Dz.drw 2 [⟨[], [1], 2, 2⟩, ⟨[], [], 2, 2⟩, ⟨[], [], 2, 2⟩, ⟨[], [], 2, 2⟩, ⟨[19,20], [], 2, 2⟩, ⟨[19,20], [1], 2, 2⟩, ⟨[17,18], [], 2, 2⟩, ⟨[17,18], [0], 2, 2⟩, ⟨[], [], 2, 2⟩, ⟨[], [], 2, 2⟩, ⟨[], [], 2, 2⟩, ⟨[], [], 2, 2⟩, ⟨[], [], 2, 2⟩, ⟨[], [], 2, 2⟩, ⟨[29,30,34,35], [], 2, 2⟩, ⟨[29,30,34,35], [0], 2, 2⟩, ⟨[27,28,34,35], [], 2, 2⟩, ⟨[27,28,34,35], [], 2, 2⟩, ⟨[34,35], [], 2, 2⟩, ⟨[34,35], [], 2, 2⟩, ⟨[34,35], [], 2, 2⟩, ⟨[27,28,29,30,31,32,33], [], 2, 2⟩, ⟨[27,28,29,30,31,32,33], [1], 2, 2⟩, ⟨[], [], 2, 2⟩, ⟨[], [], 2, 2⟩, ⟨[], [], 2, 2⟩] ⟨by kernel_rfl, by kernel_rfl, rfl⟩ ?_
  refine bdE hF (fun y9 hy9 hF => ?_)
  refine callG [] (i_paperOk_c hy9) ⟨mv rfl, tv⟩ tv rfl ?_
  refine vif hF (fun _ hF => ?_) (fun _ hF => ?_)
  ·refine Dz.tt (b := true) rfl rfl ?_
   refine Dz.seq (Dz.reg (Dz.ret ?_))
   cases hF
   exact finG [] [] rfl rfl (mv rfl) tv rfl
  ·refine vif hF (fun _ hF => ?_) (fun _ hF => ?_)
   ·refine Dz.tt (b := true) rfl rfl ?_
    refine Dz.seq (Dz.reg (Dz.ret ?_))
    cases hF
    exact finG [] [] rfl rfl (mv rfl) tv rfl
   ·refine vif hF (fun _ hF => ?_) (fun _ hF => ?_)
    ·refine ⟨(((i2 : Nat) : Int) - 1), wrap64 (by omega) (by omega), ?_⟩
     refine vix hF (fun _ _ hF => ?_)
     refine Dz.ite rfl hF (fun _ hF => ?_) (fun _ hF => ?_)
     ·refine Dz.seq (Dz.reg (Dz.ret ?_))
      cases hF
      exact finG [] [] rfl rfl (mv rfl) tv rfl
     ·refine Dz.skip (Dz.reg ?_)
      refine vsucc (by omega) ?_
      exact ⟨(), entG [0] ⟨mp rfl, mv rfl, mv rfl, mv rfl, tv⟩ ⟨⟨rfl, o_box rfl⟩, tv⟩ rfl, hF⟩
    ·refine Dz.ff (b := false) rfl rfl ?_
     refine Dz.skip (Dz.reg ?_)
     refine vsucc (by omega) ?_
     exact ⟨(), entG [0] ⟨mp rfl, mv rfl, mv rfl, mv rfl, tv⟩ ⟨⟨rfl, o_box rfl⟩, tv⟩ rfl, hF⟩
def i_seekerNone (a0 : SynSeeker) : Option (Bool) :=
 cond (decide (a0.Slot = 0)) (cond (decide (a0.Ballot = 0)) (cond (decide (a0.Phase = 0)) (cond (decide (a0.Mine = ({ Kind := 0, Client := 0, Call := 0, Disk := 0, Arg := 0, Epoch := 0, Range := 0, Num := 0, A := 0, B := 0 } : Cmd))) (cond (decide (a0.Best = ({ Slot := 0, Ballot := 0, Cmd := ({ Kind := 0, Client := 0, Call := 0, Disk := 0, Arg := 0, Epoch := 0, Range := 0, Num := 0, A := 0, B := 0 } : Cmd) } : SynPaper))) (some (decide (((a0.Yes.length : Nat) : Int) = 0))) (some false)) (some false)) (some false)) (some false)) (some false)
theorem i_seekerNone_c {t0_25 : Bool} {a0 : SynSeeker} {r : Bool} (hF : i_seekerNone a0 = some r) : Con Tryz.prog 203 [.val true [.u (cI a0.Slot), .u (cI a0.Ballot), .u (cI a0.Phase), .u (cI a0.Mine.Kind), .u (cI a0.Mine.Client), .u (cI a0.Mine.Call), .u (cI a0.Mine.Disk), .u (cI a0.Mine.Arg), .u (cI a0.Mine.Epoch), .u (cI a0.Mine.Range), .u (cI a0.Mine.Num), .u (cI a0.Mine.A), .u (cI a0.Mine.B), .u (cI a0.Best.Slot), .u (cI a0.Best.Ballot), .u (cI a0.Best.Cmd.Kind), .u (cI a0.Best.Cmd.Client), .u (cI a0.Best.Cmd.Call), .u (cI a0.Best.Cmd.Disk), .u (cI a0.Best.Cmd.Arg), .u (cI a0.Best.Cmd.Epoch), .u (cI a0.Best.Cmd.Range), .u (cI a0.Best.Cmd.Num), .u (cI a0.Best.Cmd.A), .u (cI a0.Best.Cmd.B), .u (ul cInt 1 t0_25 a0.Yes)]] [] (vbool r) [] := by
 refine Con.of_Dz tabOk Tryz.func203 rfl rfl rfl ?_
 delta i_seekerNone at hF
 refine Dz.seq (Dz.reg (Dz.seq (Dz.reg ?_)))
 refine vif hF (fun _ hF => ?_) (fun _ hF => ?_)
 ·refine vif hF (fun _ hF => ?_) (fun _ hF => ?_)
  ·refine vif hF (fun _ hF => ?_) (fun _ hF => ?_)
   ·refine ⟨decide (a0.Mine = ({ Kind := 0, Client := 0, Call := 0, Disk := 0, Arg := 0, Epoch := 0, Range := 0, Num := 0, A := 0, B := 0 } : Cmd)), Cmd.eqd _ _, ?_⟩
    refine vif hF (fun _ hF => ?_) (fun _ hF => ?_)
    ·refine ⟨decide (a0.Best = ({ Slot := 0, Ballot := 0, Cmd := ({ Kind := 0, Client := 0, Call := 0, Disk := 0, Arg := 0, Epoch := 0, Range := 0, Num := 0, A := 0, B := 0 } : Cmd) } : SynPaper)), SynPaper.eqd _ _, ?_⟩
     refine vif hF (fun _ hF => ?_) (fun _ hF => ?_)
     ·intro hb1; replace hb1 : a0.Yes.length ≤ 140737488355328 := hb1
      refine Dz.ret ?_
      cases hF
      exact finG [] [] rfl rfl (mv rfl) tv rfl
     ·refine Dz.ret ?_
      cases hF
      exact finG [] [] rfl rfl (mv rfl) tv rfl
    ·refine Dz.ret ?_
     cases hF
     exact finG [] [] rfl rfl (mv rfl) tv rfl
   ·refine Dz.ret ?_
    cases hF
    exact finG [] [] rfl rfl (mv rfl) tv rfl
  ·refine Dz.ret ?_
   cases hF
   exact finG [] [] rfl rfl (mv rfl) tv rfl
 ·refine Dz.ret ?_
  cases hF
  exact finG [] [] rfl rfl (mv rfl) tv rfl
def i_isVoter (a0 : Int) : Option (Bool) :=
 (i_in a0 0 2).bind (fun y1 => some y1)
theorem i_isVoter_c {a0 : Int} {r : Bool} (hF : i_isVoter a0 = some r) : Con Tryz.prog 204 [vint .i64 a0] [] (vbool r) [] := by
 refine Con.of_Dz tabOk Tryz.func204 rfl rfl rfl ?_
 delta i_isVoter at hF
 refine Dz.seq (Dz.reg (Dz.seq (Dz.reg ?_)))
 refine bdE hF (fun y1 hy1 hF => ?_)
 refine callG [] (i_in_c hy1) ⟨mv rfl, mv rfl, mv rfl, tv⟩ tv rfl ?_
 refine Dz.ret ?_
 cases hF
 exact finG [] [] rfl rfl (mv rfl) tv rfl
def i_SynSeekerOk (a0 : SynSeeker) : Option (Bool) :=
 (i_seekerNone a0).bind (fun y1 => cond y1 (some true) (jn (fun (v2 : Unit) => cond (decide (a0.Best = ({ Slot := 0, Ballot := 0, Cmd := ({ Kind := 0, Client := 0, Call := 0, Disk := 0, Arg := 0, Epoch := 0, Range := 0, Num := 0, A := 0, B := 0 } : Cmd) } : SynPaper))) (some true) ((i_paperOk a0.Best).bind (fun y3 => cond y3 (cond (decide (a0.Best.Slot = a0.Slot)) (some (decide (a0.Best.Ballot < a0.Ballot))) (some false)) (some false)))) (fun j4 => (i_in a0.Slot 1 60).bind (fun y5 => cond (!y5) (some false) ((i_in a0.Ballot 1 99999).bind (fun y6 => cond (!y6) (some false) ((i_in a0.Phase 1 2).bind (fun y7 => cond (!y7) (some false) ((i_cmdOk a0.Mine).bind (fun y8 => cond (!y8) (some false) (cond (decide ((1 : Int) < ((a0.Yes.length : Nat) : Int))) (some false) (cond (decide (((a0.Yes.length : Nat) : Int) = 1)) (ix a0.Yes 0 (fun x11 => (i_isVoter x11).bind (fun y12 => cond (!y12) (some false) (j4 ())))) (j4 ())))))))))))))
theorem i_SynSeekerOk_c {t0_25 : Bool} {a0 : SynSeeker} {r : Bool} (hF : i_SynSeekerOk a0 = some r) : Con Tryz.prog 134 [.val true [.u (cI a0.Slot), .u (cI a0.Ballot), .u (cI a0.Phase), .u (cI a0.Mine.Kind), .u (cI a0.Mine.Client), .u (cI a0.Mine.Call), .u (cI a0.Mine.Disk), .u (cI a0.Mine.Arg), .u (cI a0.Mine.Epoch), .u (cI a0.Mine.Range), .u (cI a0.Mine.Num), .u (cI a0.Mine.A), .u (cI a0.Mine.B), .u (cI a0.Best.Slot), .u (cI a0.Best.Ballot), .u (cI a0.Best.Cmd.Kind), .u (cI a0.Best.Cmd.Client), .u (cI a0.Best.Cmd.Call), .u (cI a0.Best.Cmd.Disk), .u (cI a0.Best.Cmd.Arg), .u (cI a0.Best.Cmd.Epoch), .u (cI a0.Best.Cmd.Range), .u (cI a0.Best.Cmd.Num), .u (cI a0.Best.Cmd.A), .u (cI a0.Best.Cmd.B), .u (ul cInt 1 t0_25 a0.Yes)]] [] (vbool r) [] := by
 refine Con.of_Dz tabOk Tryz.func134 rfl rfl rfl ?_
 delta i_SynSeekerOk at hF
 refine Dz.seq (Dz.reg (Dz.seq (Dz.seq (Dz.reg ?_))))
 refine bdE hF (fun y1 hy1 hF => ?_)
 refine callG [] (i_seekerNone_c hy1) ⟨mv rfl, tv⟩ tv rfl ?_
 refine Dz.ite rfl hF (fun _ hF => ?_) (fun _ hF => ?_)
 ·refine Dz.seq (Dz.reg (Dz.ret ?_))
  cases hF
  exact finG [] [] rfl rfl (mv rfl) tv rfl
 ·refine Dz.skip ?_
  refine Dz.jn hF (fun v2 => ([(1, .ptr 0 0)], [.box 49 [.u (cI a0.Slot), .u (cI a0.Ballot), .u (cI a0.Phase), .u (cI a0.Mine.Kind), .u (cI a0.Mine.Client), .u (cI a0.Mine.Call), .u (cI a0.Mine.Disk), .u (cI a0.Mine.Arg), .u (cI a0.Mine.Epoch), .u (cI a0.Mine.Range), .u (cI a0.Mine.Num), .u (cI a0.Mine.A), .u (cI a0.Mine.B), .u (cI a0.Best.Slot), .u (cI a0.Best.Ballot), .u (cI a0.Best.Cmd.Kind), .u (cI a0.Best.Cmd.Client), .u (cI a0.Best.Cmd.Call), .u (cI a0.Best.Cmd.Disk), .u (cI a0.Best.Cmd.Arg), .u (cI a0.Best.Cmd.Epoch), .u (cI a0.Best.Cmd.Range), .u (cI a0.Best.Cmd.Num), .u (cI a0.Best.Cmd.A), .u (cI a0.Best.Cmd.B), .u (ul cInt 1 t0_25 a0.Yes)]])) (fun v2 hF => ?_) (fun hF => ?_)
  ·refine Dz.seq (Dz.reg ?_)
   refine ⟨decide (a0.Best = ({ Slot := 0, Ballot := 0, Cmd := ({ Kind := 0, Client := 0, Call := 0, Disk := 0, Arg := 0, Epoch := 0, Range := 0, Num := 0, A := 0, B := 0 } : Cmd) } : SynPaper)), SynPaper.eqd _ _, ?_⟩
   refine vif hF (fun _ hF => ?_) (fun _ hF => ?_)
   ·refine Dz.ret ?_
    cases hF
    exact finG [] [] rfl rfl (mv rfl) tv rfl
   ·refine bdE hF (fun y3 hy3 hF => ?_)
    refine callG [] (i_paperOk_c hy3) ⟨mv rfl, tv⟩ tv rfl ?_
    refine vif hF (fun _ hF => ?_) (fun _ hF => ?_)
    ·refine vif hF (fun _ hF => ?_) (fun _ hF => ?_)
     ·refine Dz.ret ?_
      cases hF
      exact finG [] [] rfl rfl (mv rfl) tv rfl
     ·refine Dz.ret ?_
      cases hF
      exact finG [] [] rfl rfl (mv rfl) tv rfl
    ·refine Dz.ret ?_
     cases hF
     exact finG [] [] rfl rfl (mv rfl) tv rfl
  ·refine Dz.seq (Dz.reg ?_)
   refine bdE hF (fun y5 hy5 hF => ?_)
   refine callG [] (i_in_c hy5) ⟨mv rfl, mv rfl, mv rfl, tv⟩ tv rfl ?_
   refine vif hF (fun _ hF => ?_) (fun _ hF => ?_)
   ·refine Dz.tt (b := true) rfl rfl ?_
    refine Dz.seq (Dz.reg (Dz.ret ?_))
    cases hF
    exact finG [] [] rfl rfl (mv rfl) tv rfl
   ·refine bdE hF (fun y6 hy6 hF => ?_)
    refine callG [] (i_in_c hy6) ⟨mv rfl, mv rfl, mv rfl, tv⟩ tv rfl ?_
    refine vif hF (fun _ hF => ?_) (fun _ hF => ?_)
    ·refine Dz.tt (b := true) rfl rfl ?_
     refine Dz.seq (Dz.reg (Dz.ret ?_))
     cases hF
     exact finG [] [] rfl rfl (mv rfl) tv rfl
    ·refine bdE hF (fun y7 hy7 hF => ?_)
     refine callG [] (i_in_c hy7) ⟨mv rfl, mv rfl, mv rfl, tv⟩ tv rfl ?_
     refine vif hF (fun _ hF => ?_) (fun _ hF => ?_)
     ·refine Dz.tt (b := true) rfl rfl ?_
      refine Dz.seq (Dz.reg (Dz.ret ?_))
      cases hF
      exact finG [] [] rfl rfl (mv rfl) tv rfl
     ·refine bdE hF (fun y8 hy8 hF => ?_)
      refine callG [] (i_cmdOk_c hy8) ⟨mv rfl, tv⟩ tv rfl ?_
      refine vif hF (fun _ hF => ?_) (fun _ hF => ?_)
      ·refine Dz.tt (b := true) rfl rfl ?_
       refine Dz.seq (Dz.reg (Dz.ret ?_))
       cases hF
       exact finG [] [] rfl rfl (mv rfl) tv rfl
      ·intro hb9; replace hb9 : a0.Yes.length ≤ 140737488355328 := hb9
       refine vif hF (fun _ hF => ?_) (fun _ hF => ?_)
       ·refine Dz.tt (b := true) rfl rfl ?_
        refine Dz.seq (Dz.reg (Dz.ret ?_))
        cases hF
        exact finG [] [] rfl rfl (mv rfl) tv rfl
       ·intro hb10; replace hb10 : a0.Yes.length ≤ 140737488355328 := hb10
        refine vif hF (fun _ hF => ?_) (fun _ hF => ?_)
        ·refine vix hF (fun _ _ hF => ?_)
         refine bdE hF (fun y12 hy12 hF => ?_)
         refine callG [] (i_isVoter_c hy12) ⟨mv rfl, tv⟩ tv rfl ?_
         refine Dz.ite rfl hF (fun _ hF => ?_) (fun _ hF => ?_)
         ·refine Dz.seq (Dz.reg (Dz.ret ?_))
          cases hF
          exact finG [] [] rfl rfl (mv rfl) tv rfl
         ·refine Dz.skip ?_
          exact ⟨(), entG [0] ⟨mp rfl, tv⟩ ⟨⟨rfl, o_box rfl⟩, tv⟩ rfl, hF⟩
        ·refine Dz.ff (b := false) rfl rfl ?_
         refine Dz.skip ?_
         exact ⟨(), entG [0] ⟨mp rfl, tv⟩ ⟨⟨rfl, o_box rfl⟩, tv⟩ rfl, hF⟩
def i_cmdsOk (a0 : (List Cmd)) (a1 : Int) : Option (Bool) :=
 loopN (fun i2 (v5 : Unit) κ6 => lt (a0.getD i2 default) (fun x7 => (i_cmdOk x7).bind (fun y8 => cond (!y8) (some false) (κ6 ())))) (fun (v5 : Unit) => some (decide (((a0.length : Nat) : Int) ≤ a1))) a0.length 0 ()
theorem i_cmdsOk_c {t0_0 : Bool} {a0 : (List Cmd)} {a1 : Int} {r : Bool} (hF : i_cmdsOk a0 a1 = some r) : Con Tryz.prog 135 [.val false [.u (ul Cmd.c 10 t0_0 a0)], vint .i64 a1] [] (vbool r) [] := by
 refine Con.of_Dz tabOk Tryz.func135 rfl rfl rfl ?_
 delta i_cmdsOk at hF
 refine Dz.seq (Dz.reg (Dz.seq (Dz.seq (Dz.reg ?_))))
 intro hb1; replace hb1 : a0.length ≤ 140737488355328 := hb1
 refine Dz.blk ?_
 refine Dz.cnt hF (fun i2 v5 => ([(0, .val false [.u (ul Cmd.c 10 t0_0 a0)]), (1, vint .i64 a1), (7, .val false [.u (ul Cmd.c 10 t0_0 a0)]), (8, vint .i64 ((a0.length : Nat) : Int)), (9, vint .i64 ((i2 : Nat) : Int))], [])) (entG [] ⟨mv rfl, mv rfl, mv rfl, mv rfl, mv rfl, tv⟩ tv rfl) (fun v5 hF => ?_) (fun i2 v5 κ6 hi0i2 hi1i2 hF => ?_)
 ·refine Dz.seq (Dz.reg (Dz.seq ?_))
  refine Dz.ff (b := decide (((0 + a0.length : Nat) : Int) < ((a0.length : Nat) : Int))) rfl (decide_eq_false (by omega)) ?_
  refine Dz.exit (Dz.seq (Dz.reg ?_))
  intro hb9; replace hb9 : a0.length ≤ 140737488355328 := hb9
  refine Dz.ret ?_
  cases hF
  exact finG [] [] rfl rfl (mv rfl) tv rfl
 ·refine Dz.seq (Dz.reg (Dz.seq ?_))
  refine Dz.tt (b := decide (((i2 : Nat) : Int) < ((a0.length : Nat) : Int))) rfl (decide_eq_true (by omega)) ?_
  refine Dz.skip (Dz.seq (Dz.blk (Dz.seq (Dz.reg ?_))))
  refine vge (n := ((i2 : Nat) : Int)) (hi := (a0.length : Int)) (by omega) (by omega) ?_
  have hF := ltE hF
  refine Dz.seq (Dz.reg ?_)
  refine bdE hF (fun y8 hy8 hF => ?_)
  refine callG [] (i_cmdOk_c hy8) ⟨mv rfl, tv⟩ tv rfl ?_
  refine Dz.ite rfl hF (fun _ hF => ?_) (fun _ hF => ?_)
  ·refine Dz.seq (Dz.reg (Dz.ret ?_))
   cases hF
   exact finG [] [] rfl rfl (mv rfl) tv rfl
  ·refine Dz.skip (Dz.reg ?_)
   refine vsucc (by omega) ?_
   exact ⟨(), entG [] ⟨mv rfl, mv rfl, mv rfl, mv rfl, mv rfl, tv⟩ tv rfl, hF⟩
def i_isClient (a0 : Int) : Option (Bool) :=
 (i_in a0 0 3).bind (fun y1 => some y1)
theorem i_isClient_c {a0 : Int} {r : Bool} (hF : i_isClient a0 = some r) : Con Tryz.prog 137 [vint .i64 a0] [] (vbool r) [] := by
 refine Con.of_Dz tabOk Tryz.func137 rfl rfl rfl ?_
 delta i_isClient at hF
 refine Dz.seq (Dz.reg (Dz.seq (Dz.reg ?_)))
 refine bdE hF (fun y1 hy1 hF => ?_)
 refine callG [] (i_in_c hy1) ⟨mv rfl, mv rfl, mv rfl, tv⟩ tv rfl ?_
 refine Dz.ret ?_
 cases hF
 exact finG [] [] rfl rfl (mv rfl) tv rfl
def i_pieceWay (a0 : BlkPiece) (a1 : BlkPiece) : Option (Int) :=
 loopN (fun i1 (v3 : Unit) κ4 => ix ([({ e0 := a0.Disk, e1 := a1.Disk } : Arr2), ({ e0 := a0.Block, e1 := a1.Block } : Arr2), ({ e0 := a0.Epoch, e1 := a1.Epoch } : Arr2)] : List Arr2) ((i1 : Nat) : Int) (fun _ => lt (([({ e0 := a0.Disk, e1 := a1.Disk } : Arr2), ({ e0 := a0.Block, e1 := a1.Block } : Arr2), ({ e0 := a0.Epoch, e1 := a1.Epoch } : Arr2)] : List Arr2).getD i1 default) (fun x5 => cond (decide (x5.e0 < x5.e1)) (some (-1)) (cond (decide (x5.e1 < x5.e0)) (some 1) (κ4 ()))))) (fun (v3 : Unit) => some 0) 3 0 ()
theorem i_pieceWay_c {a0 : BlkPiece} {a1 : BlkPiece} {r : Int} (hF : i_pieceWay a0 a1 = some r) : Con Tryz.prog 227 [.val true (BlkPiece.L a0), .val true (BlkPiece.L a1)] [] (vint .i64 r) [] := by
 refine Con.of_Dz tabOk Tryz.func227 rfl rfl rfl ?_
 delta i_pieceWay at hF
 refine Dz.seq (Dz.reg (Dz.seq (Dz.seq (Dz.reg ?_))))
 intro _
 refine Dz.row 2 ([({ e0 := a0.Disk, e1 := a1.Disk } : Arr2), ({ e0 := a0.Block, e1 := a1.Block } : Arr2), ({ e0 := a0.Epoch, e1 := a1.Epoch } : Arr2)] : List Arr2).length (gl Arr2.c ([({ e0 := a0.Disk, e1 := a1.Disk } : Arr2), ({ e0 := a0.Block, e1 := a1.Block } : Arr2), ({ e0 := a0.Epoch, e1 := a1.Epoch } : Arr2)] : List Arr2)) rfl (by simp <;> omega) (EqG.lit (c := Arr2.c) (sz := 2) (L := ([({ e0 := a0.Disk, e1 := a1.Disk } : Arr2), ({ e0 := a0.Block, e1 := a1.Block } : Arr2), ({ e0 := a0.Epoch, e1 := a1.Epoch } : Arr2)] : List Arr2)) ⟨lr, lr, lr, lr, lr, lr, tv⟩) ?_
 refine Dz.blk ?_
 refine Dz.cnt hF (fun i1 v3 => ([(22, .val false [.row 0]), (23, vint .i64 3), (24, vint .i64 ((i1 : Nat) : Int))], [.row 279 (([({ e0 := a0.Disk, e1 := a1.Disk } : Arr2), ({ e0 := a0.Block, e1 := a1.Block } : Arr2), ({ e0 := a0.Epoch, e1 := a1.Epoch } : Arr2)] : List Arr2).length) 2 (gl Arr2.c ([({ e0 := a0.Disk, e1 := a1.Disk } : Arr2), ({ e0 := a0.Block, e1 := a1.Block } : Arr2), ({ e0 := a0.Epoch, e1 := a1.Epoch } : Arr2)] : List Arr2))])) (entG [2] ⟨⟨rfl, rfl, tv⟩, mv rfl, mv rfl, tv⟩ ⟨⟨rfl, o_row⟩, tv⟩ rfl) (fun v3 hF => ?_) (fun i1 v3 κ4 hi0i1 hi1i1 hF => ?_)
 ·refine Dz.seq (Dz.reg (Dz.seq ?_))
  refine Dz.ff (b := decide (((0 + 3 : Nat) : Int) < 3)) rfl (decide_eq_false (by omega)) ?_
  refine Dz.exit (Dz.seq (Dz.reg (Dz.ret ?_)))
  cases hF
  exact finG [] [] rfl rfl (mv rfl) tv rfl
 ·refine Dz.seq (Dz.reg (Dz.seq ?_))
  refine Dz.tt (b := decide (((i1 : Nat) : Int) < 3)) rfl (decide_eq_true (by omega)) ?_
  refine Dz.skip (Dz.seq (Dz.blk (Dz.seq (Dz.reg ?_))))
  refine vix hF (fun _ _ hF => ?_)
  have hF := ltE hF
  refine Dz.seq (Dz.seq (Dz.reg ?_))
  refine vge (by decide) (by decide) ?_
  refine vge (by decide) (by decide) ?_
  refine Dz.ite rfl hF (fun _ hF => ?_) (fun _ hF => ?_)
  ·refine Dz.seq (Dz.reg (Dz.ret ?_))
   cases hF
   exact finG [] [] rfl rfl (mv rfl) tv rfl
  ·refine Dz.skip (Dz.seq (Dz.reg ?_))
   refine vge (by decide) (by decide) ?_
   refine vge (by decide) (by decide) ?_
   refine Dz.ite rfl hF (fun _ hF => ?_) (fun _ hF => ?_)
   ·refine Dz.seq (Dz.reg (Dz.ret ?_))
    cases hF
    exact finG [] [] rfl rfl (mv rfl) tv rfl
   ·refine Dz.skip (Dz.reg ?_)
    refine vsucc (by omega) ?_
    exact ⟨(), entG [0] ⟨⟨rfl, rfl, tv⟩, mv rfl, mv rfl, tv⟩ ⟨⟨rfl, o_row⟩, tv⟩ rfl, hF⟩
def i_BlkOk (a0 : (List BlkPiece)) : Option (Bool) :=
 loopN (fun i2 (v10 : Unit) κ11 => lt (a0.getD i2 default) (fun x12 => (i_in x12.Disk 1 99999).bind (fun y13 => cond (!y13) (some false) ((i_in x12.Epoch 1 99999).bind (fun y14 => cond (!y14) (some false) ((i_in x12.Block 0 99999).bind (fun y15 => cond (!y15) (some false) ((i_in x12.Data 0 99999).bind (fun y16 => cond (!y16) (some false) (cond (decide ((0 : Int) < ((i2 : Nat) : Int))) (ix a0 (((i2 : Nat) : Int) - 1) (fun x17 => (i_pieceWay x17 x12).bind (fun y18 => cond (decide ((0 : Int) ≤ y18)) (some false) (κ11 ())))) (κ11 ()))))))))))) (fun (v10 : Unit) => some (decide (((a0.length : Nat) : Int) ≤ 60))) a0.length 0 ()
theorem i_BlkOk_c {t0_0 : Bool} {a0 : (List BlkPiece)} {r : Bool} (hF : i_BlkOk a0 = some r) : Con Tryz.prog 179 [.val false [.u (ul BlkPiece.c 4 t0_0 a0)]] [] (vbool r) [] := by
 refine Con.of_Dz tabOk Tryz.func179 rfl rfl rfl ?_
 delta i_BlkOk at hF
 refine Dz.seq (Dz.reg (Dz.seq (Dz.seq (Dz.reg ?_))))
 intro hb1; replace hb1 : a0.length ≤ 140737488355328 := hb1
 refine Dz.blk ?_
 refine Dz.cnt hF (fun i2 v10 => ([(0, .val false [.u (ul BlkPiece.c 4 t0_0 a0)]), (5, .val false [.u (ul BlkPiece.c 4 t0_0 a0)]), (6, vint .i64 ((a0.length : Nat) : Int)), (7, vint .i64 ((i2 : Nat) : Int))], [])) (entG [] ⟨mv rfl, mv rfl, mv rfl, mv rfl, tv⟩ tv rfl) (fun v10 hF => ?_) (fun i2 v10 κ11 hi0i2 hi1i2 hF => ?_)
 ·refine Dz.seq (Dz.reg (Dz.seq ?_))
  refine Dz.ff (b := decide (((0 + a0.length : Nat) : Int) < ((a0.length : Nat) : Int))) rfl (decide_eq_false (by omega)) ?_
  refine Dz.exit (Dz.seq (Dz.reg ?_))
  intro hb19; replace hb19 : a0.length ≤ 140737488355328 := hb19
  refine Dz.ret ?_
  cases hF
  exact finG [] [] rfl rfl (mv rfl) tv rfl
 ·refine Dz.seq (Dz.reg (Dz.seq ?_))
  refine Dz.tt (b := decide (((i2 : Nat) : Int) < ((a0.length : Nat) : Int))) rfl (decide_eq_true (by omega)) ?_
  refine Dz.skip (Dz.seq (Dz.blk (Dz.seq (Dz.reg ?_))))
  refine vge (n := ((i2 : Nat) : Int)) (hi := (a0.length : Int)) (by omega) (by omega) ?_
  have hF := ltE hF
  refine Dz.seq ?_
  refine Dz.drw 1 [⟨[], [], 1, 1⟩, ⟨[], [0], 1, 1⟩, ⟨[], [], 1, 1⟩, ⟨[], [], 1, 1⟩, ⟨[], [], 1, 1⟩, ⟨[], [], 1, 1⟩, ⟨[], [0], 1, 1⟩, ⟨[], [], 1, 1⟩, ⟨[], [], 1, 1⟩, ⟨[], [], 1, 1⟩, ⟨[], [], 1, 1⟩, ⟨[], [], 1, 1⟩, ⟨[], [0], 1, 1⟩, ⟨[], [], 1, 1⟩, ⟨[], [], 1, 1⟩, ⟨[], [], 1, 1⟩, ⟨[], [], 1, 1⟩, ⟨[], [], 1, 1⟩, ⟨[], [0], 1, 1⟩, ⟨[], [], 1, 1⟩, ⟨[], [], 1, 1⟩, ⟨[], [], 1, 1⟩, ⟨[], [], 1, 1⟩, ⟨[], [], 1, 1⟩, ⟨[], [], 1, 1⟩, ⟨[], [], 1, 1⟩, ⟨[39,40,43], [], 1, 1⟩, ⟨[38,43], [], 1, 1⟩, ⟨[38,43], [], 1, 1⟩, ⟨[43], [], 1, 1⟩, ⟨[43], [], 1, 1⟩, ⟨[38,39,40,41,42], [0], 1, 1⟩, ⟨[], [], 1, 1⟩, ⟨[], [], 1, 1⟩, ⟨[], [], 1, 1⟩, ⟨[], [], 1, 1⟩] ⟨by kernel_rfl, by kernel_rfl, rfl⟩ ?_
  refine bdE hF (fun y13 hy13 hF => ?_)
  refine callG [] (i_in_c hy13) ⟨mv rfl, mv rfl, mv rfl, tv⟩ tv rfl ?_
  refine vif hF (fun _ hF => ?_) (fun _ hF => ?_)
  ·refine Dz.tt (b := true) rfl rfl ?_
   refine Dz.seq (Dz.reg (Dz.ret ?_))
   cases hF
   exact finG [] [] rfl rfl (mv rfl) tv rfl
  ·refine bdE hF (fun y14 hy14 hF => ?_)
   refine callG [] (i_in_c hy14) ⟨mv rfl, mv rfl, mv rfl, tv⟩ tv rfl ?_
   refine vif hF (fun _ hF => ?_) (fun _ hF => ?_)
   ·refine Dz.tt (b := true) rfl rfl ?_
    refine Dz.seq (Dz.reg (Dz.ret ?_))
    cases hF
    exact finG [] [] rfl rfl (mv rfl) tv rfl
   ·refine bdE hF (fun y15 hy15 hF => ?_)
    refine callG [] (i_in_c hy15) ⟨mv rfl, mv rfl, mv rfl, tv⟩ tv rfl ?_
    refine vif hF (fun _ hF => ?_) (fun _ hF => ?_)
    ·refine Dz.tt (b := true) rfl rfl ?_
     refine Dz.seq (Dz.reg (Dz.ret ?_))
     cases hF
     exact finG [] [] rfl rfl (mv rfl) tv rfl
    ·refine bdE hF (fun y16 hy16 hF => ?_)
     refine callG [] (i_in_c hy16) ⟨mv rfl, mv rfl, mv rfl, tv⟩ tv rfl ?_
     refine vif hF (fun _ hF => ?_) (fun _ hF => ?_)
     ·refine Dz.tt (b := true) rfl rfl ?_
      refine Dz.seq (Dz.reg (Dz.ret ?_))
      cases hF
      exact finG [] [] rfl rfl (mv rfl) tv rfl
     ·refine vif hF (fun _ hF => ?_) (fun _ hF => ?_)
      ·refine ⟨(((i2 : Nat) : Int) - 1), wrap64 (by omega) (by omega), ?_⟩
       refine vix hF (fun _ _ hF => ?_)
       refine bdE hF (fun y18 hy18 hF => ?_)
       refine callG [] (i_pieceWay_c hy18) ⟨mv rfl, mv rfl, tv⟩ tv rfl ?_
       refine Dz.ite rfl hF (fun _ hF => ?_) (fun _ hF => ?_)
       ·refine Dz.seq (Dz.reg (Dz.ret ?_))
        cases hF
        exact finG [] [] rfl rfl (mv rfl) tv rfl
       ·refine Dz.skip (Dz.reg ?_)
        refine vsucc (by omega) ?_
        exact ⟨(), entG [] ⟨mv rfl, mv rfl, mv rfl, mv rfl, tv⟩ tv rfl, hF⟩
      ·refine Dz.ff (b := false) rfl rfl ?_
       refine Dz.skip (Dz.reg ?_)
       refine vsucc (by omega) ?_
       exact ⟨(), entG [] ⟨mv rfl, mv rfl, mv rfl, mv rfl, tv⟩ tv rfl, hF⟩
def i_lastOk (a0 : (List BlkLast)) : Option (Bool) :=
 loopN (fun i2 (v7 : Unit) κ8 => lt (a0.getD i2 default) (fun x9 => (i_in x9.Client 0 3).bind (fun y10 => cond (!y10) (some false) ((i_in x9.Call 1 99999).bind (fun y11 => cond (!y11) (some false) (cond (decide ((0 : Int) < ((i2 : Nat) : Int))) (ix a0 (((i2 : Nat) : Int) - 1) (fun x12 => cond (decide (x9.Client ≤ x12.Client)) (some false) (κ8 ()))) (κ8 ()))))))) (fun (v7 : Unit) => some (decide (((a0.length : Nat) : Int) ≤ 4))) a0.length 0 ()
theorem i_lastOk_c {t0_0 : Bool} {a0 : (List BlkLast)} {r : Bool} (hF : i_lastOk a0 = some r) : Con Tryz.prog 180 [.val false [.u (ul BlkLast.c 2 t0_0 a0)]] [] (vbool r) [] := by
 refine Con.of_Dz tabOk Tryz.func180 rfl rfl rfl ?_
 delta i_lastOk at hF
 refine Dz.seq (Dz.reg (Dz.seq (Dz.seq (Dz.reg ?_))))
 intro hb1; replace hb1 : a0.length ≤ 140737488355328 := hb1
 refine Dz.blk ?_
 refine Dz.cnt hF (fun i2 v7 => ([(0, .val false [.u (ul BlkLast.c 2 t0_0 a0)]), (5, .val false [.u (ul BlkLast.c 2 t0_0 a0)]), (6, vint .i64 ((a0.length : Nat) : Int)), (7, vint .i64 ((i2 : Nat) : Int))], [])) (entG [] ⟨mv rfl, mv rfl, mv rfl, mv rfl, tv⟩ tv rfl) (fun v7 hF => ?_) (fun i2 v7 κ8 hi0i2 hi1i2 hF => ?_)
 ·refine Dz.seq (Dz.reg (Dz.seq ?_))
  refine Dz.ff (b := decide (((0 + a0.length : Nat) : Int) < ((a0.length : Nat) : Int))) rfl (decide_eq_false (by omega)) ?_
  refine Dz.exit (Dz.seq (Dz.reg ?_))
  intro hb13; replace hb13 : a0.length ≤ 140737488355328 := hb13
  refine Dz.ret ?_
  cases hF
  exact finG [] [] rfl rfl (mv rfl) tv rfl
 ·refine Dz.seq (Dz.reg (Dz.seq ?_))
  refine Dz.tt (b := decide (((i2 : Nat) : Int) < ((a0.length : Nat) : Int))) rfl (decide_eq_true (by omega)) ?_
  refine Dz.skip (Dz.seq (Dz.blk (Dz.seq (Dz.reg ?_))))
  refine vge (n := ((i2 : Nat) : Int)) (hi := (a0.length : Int)) (by omega) (by omega) ?_
  have hF := ltE hF
  refine Dz.seq ?_
  refine Dz.drw 1 [⟨[], [], 1, 1⟩, ⟨[], [0], 1, 1⟩, ⟨[], [], 1, 1⟩, ⟨[], [], 1, 1⟩, ⟨[], [], 1, 1⟩, ⟨[], [], 1, 1⟩, ⟨[], [0], 1, 1⟩, ⟨[], [], 1, 1⟩, ⟨[], [], 1, 1⟩, ⟨[], [], 1, 1⟩, ⟨[], [], 1, 1⟩, ⟨[], [], 1, 1⟩, ⟨[], [], 1, 1⟩, ⟨[], [], 1, 1⟩, ⟨[27,28,32,33], [], 1, 1⟩, ⟨[26,32,33], [], 1, 1⟩, ⟨[26,32,33], [], 1, 1⟩, ⟨[32,33], [], 1, 1⟩, ⟨[32,33], [], 1, 1⟩, ⟨[32,33], [], 1, 1⟩, ⟨[26,27,28,29,30,31], [], 1, 1⟩, ⟨[26,27,28,29,30,31], [0], 1, 1⟩, ⟨[], [], 1, 1⟩, ⟨[], [], 1, 1⟩, ⟨[], [], 1, 1⟩] ⟨by kernel_rfl, by kernel_rfl, rfl⟩ ?_
  refine bdE hF (fun y10 hy10 hF => ?_)
  refine callG [] (i_in_c hy10) ⟨mv rfl, mv rfl, mv rfl, tv⟩ tv rfl ?_
  refine vif hF (fun _ hF => ?_) (fun _ hF => ?_)
  ·refine Dz.tt (b := true) rfl rfl ?_
   refine Dz.seq (Dz.reg (Dz.ret ?_))
   cases hF
   exact finG [] [] rfl rfl (mv rfl) tv rfl
  ·refine bdE hF (fun y11 hy11 hF => ?_)
   refine callG [] (i_in_c hy11) ⟨mv rfl, mv rfl, mv rfl, tv⟩ tv rfl ?_
   refine vif hF (fun _ hF => ?_) (fun _ hF => ?_)
   ·refine Dz.tt (b := true) rfl rfl ?_
    refine Dz.seq (Dz.reg (Dz.ret ?_))
    cases hF
    exact finG [] [] rfl rfl (mv rfl) tv rfl
   ·refine vif hF (fun _ hF => ?_) (fun _ hF => ?_)
    ·refine ⟨(((i2 : Nat) : Int) - 1), wrap64 (by omega) (by omega), ?_⟩
     refine vix hF (fun _ _ hF => ?_)
     refine Dz.ite rfl hF (fun _ hF => ?_) (fun _ hF => ?_)
     ·refine Dz.seq (Dz.reg (Dz.ret ?_))
      cases hF
      exact finG [] [] rfl rfl (mv rfl) tv rfl
     ·refine Dz.skip (Dz.reg ?_)
      refine vsucc (by omega) ?_
      exact ⟨(), entG [] ⟨mv rfl, mv rfl, mv rfl, mv rfl, tv⟩ tv rfl, hF⟩
    ·refine Dz.ff (b := false) rfl rfl ?_
     refine Dz.skip (Dz.reg ?_)
     refine vsucc (by omega) ?_
     exact ⟨(), entG [] ⟨mv rfl, mv rfl, mv rfl, mv rfl, tv⟩ tv rfl, hF⟩
def i_copyOk (a0 : SrvCopy) : Option (Bool) :=
 loopN (fun i2 (v10 : Unit) κ11 => lt (a0.Busy.getD i2 default) (fun x12 => (i_isClient x12.Client).bind (fun y13 => cond (!y13) (some false) ((i_in x12.Call 1 99999).bind (fun y14 => cond (!y14) (some false) ((i_in x12.Disk 1 99999).bind (fun y15 => cond (!y15) (some false) ((i_in x12.Epoch 1 99999).bind (fun y16 => cond (!y16) (some false) ((i_in x12.Block 0 99999).bind (fun y17 => cond (!y17) (some false) ((i_in x12.Data 0 99999).bind (fun y18 => cond (!y18) (some false) (κ11 ())))))))))))))) (fun (v10 : Unit) => (i_isRange a0.Range).bind (fun y19 => cond y19 ((i_in a0.Valid 0 99999).bind (fun y20 => cond y20 ((i_in a0.Asked 0 99999).bind (fun y21 => cond y21 ((i_BlkOk a0.Pieces).bind (fun y22 => cond y22 ((i_lastOk a0.Last).bind (fun y23 => cond y23 (some (decide (((a0.Busy.length : Nat) : Int) ≤ 60))) (some false))) (some false))) (some false))) (some false))) (some false))) a0.Busy.length 0 ()
theorem i_copyOk_c {t0_3 t0_4 t0_5 : Bool} {a0 : SrvCopy} {r : Bool} (hF : i_copyOk a0 = some r) : Con Tryz.prog 136 [.val true [.u (cI a0.Range), .u (cI a0.Valid), .u (cI a0.Asked), .u (ul BlkPiece.c 4 t0_3 a0.Pieces), .u (ul BlkLast.c 2 t0_4 a0.Last), .u (ul SrvBusy.c 6 t0_5 a0.Busy)]] [] (vbool r) [] := by
 refine Con.of_Dz tabOk Tryz.func136 rfl rfl rfl ?_
 delta i_copyOk at hF
 refine Dz.seq (Dz.reg (Dz.seq (Dz.seq (Dz.reg ?_))))
 intro hb1; replace hb1 : a0.Busy.length ≤ 140737488355328 := hb1
 refine Dz.blk ?_
 refine Dz.cnt hF (fun i2 v10 => ([(1, .ptr 0 0), (6, .val false [.u (ul SrvBusy.c 6 t0_5 a0.Busy)]), (7, vint .i64 ((a0.Busy.length : Nat) : Int)), (8, vint .i64 ((i2 : Nat) : Int))], [.box 92 [.u (cI a0.Range), .u (cI a0.Valid), .u (cI a0.Asked), .u (ul BlkPiece.c 4 t0_3 a0.Pieces), .u (ul BlkLast.c 2 t0_4 a0.Last), .u (ul SrvBusy.c 6 t0_5 a0.Busy)]])) (entG [0] ⟨mp rfl, mv rfl, mv rfl, mv rfl, tv⟩ ⟨⟨rfl, o_box rfl⟩, tv⟩ rfl) (fun v10 hF => ?_) (fun i2 v10 κ11 hi0i2 hi1i2 hF => ?_)
 ·refine Dz.seq (Dz.reg (Dz.seq ?_))
  refine Dz.ff (b := decide (((0 + a0.Busy.length : Nat) : Int) < ((a0.Busy.length : Nat) : Int))) rfl (decide_eq_false (by omega)) ?_
  refine Dz.exit (Dz.seq (Dz.reg ?_))
  refine bdE hF (fun y19 hy19 hF => ?_)
  refine callG [] (i_isRange_c hy19) ⟨mv rfl, tv⟩ tv rfl ?_
  refine vif hF (fun _ hF => ?_) (fun _ hF => ?_)
  ·refine bdE hF (fun y20 hy20 hF => ?_)
   refine callG [] (i_in_c hy20) ⟨mv rfl, mv rfl, mv rfl, tv⟩ tv rfl ?_
   refine vif hF (fun _ hF => ?_) (fun _ hF => ?_)
   ·refine bdE hF (fun y21 hy21 hF => ?_)
    refine callG [] (i_in_c hy21) ⟨mv rfl, mv rfl, mv rfl, tv⟩ tv rfl ?_
    refine vif hF (fun _ hF => ?_) (fun _ hF => ?_)
    ·refine bdE hF (fun y22 hy22 hF => ?_)
     refine callG [] (i_BlkOk_c hy22) ⟨mv rfl, tv⟩ tv rfl ?_
     refine vif hF (fun _ hF => ?_) (fun _ hF => ?_)
     ·refine bdE hF (fun y23 hy23 hF => ?_)
      refine callG [] (i_lastOk_c hy23) ⟨mv rfl, tv⟩ tv rfl ?_
      refine vif hF (fun _ hF => ?_) (fun _ hF => ?_)
      ·intro hb24; replace hb24 : a0.Busy.length ≤ 140737488355328 := hb24
       refine Dz.ret ?_
       cases hF
       exact finG [] [] rfl rfl (mv rfl) tv rfl
      ·refine Dz.ret ?_
       cases hF
       exact finG [] [] rfl rfl (mv rfl) tv rfl
     ·refine Dz.ret ?_
      cases hF
      exact finG [] [] rfl rfl (mv rfl) tv rfl
    ·refine Dz.ret ?_
     cases hF
     exact finG [] [] rfl rfl (mv rfl) tv rfl
   ·refine Dz.ret ?_
    cases hF
    exact finG [] [] rfl rfl (mv rfl) tv rfl
  ·refine Dz.ret ?_
   cases hF
   exact finG [] [] rfl rfl (mv rfl) tv rfl
 ·refine Dz.seq (Dz.reg (Dz.seq ?_))
  refine Dz.tt (b := decide (((i2 : Nat) : Int) < ((a0.Busy.length : Nat) : Int))) rfl (decide_eq_true (by omega)) ?_
  refine Dz.skip (Dz.seq (Dz.blk (Dz.seq (Dz.reg ?_))))
  refine vge (n := ((i2 : Nat) : Int)) (hi := (a0.Busy.length : Int)) (by omega) (by omega) ?_
  have hF := ltE hF
  refine Dz.seq (Dz.reg ?_)
  refine bdE hF (fun y13 hy13 hF => ?_)
  refine callG [] (i_isClient_c hy13) ⟨mv rfl, tv⟩ tv rfl ?_
  refine vif hF (fun _ hF => ?_) (fun _ hF => ?_)
  ·refine Dz.tt (b := true) rfl rfl ?_
   refine Dz.seq (Dz.reg (Dz.ret ?_))
   cases hF
   exact finG [] [] rfl rfl (mv rfl) tv rfl
  ·refine bdE hF (fun y14 hy14 hF => ?_)
   refine callG [] (i_in_c hy14) ⟨mv rfl, mv rfl, mv rfl, tv⟩ tv rfl ?_
   refine vif hF (fun _ hF => ?_) (fun _ hF => ?_)
   ·refine Dz.tt (b := true) rfl rfl ?_
    refine Dz.seq (Dz.reg (Dz.ret ?_))
    cases hF
    exact finG [] [] rfl rfl (mv rfl) tv rfl
   ·refine bdE hF (fun y15 hy15 hF => ?_)
    refine callG [] (i_in_c hy15) ⟨mv rfl, mv rfl, mv rfl, tv⟩ tv rfl ?_
    refine vif hF (fun _ hF => ?_) (fun _ hF => ?_)
    ·refine Dz.tt (b := true) rfl rfl ?_
     refine Dz.seq (Dz.reg (Dz.ret ?_))
     cases hF
     exact finG [] [] rfl rfl (mv rfl) tv rfl
    ·refine bdE hF (fun y16 hy16 hF => ?_)
     refine callG [] (i_in_c hy16) ⟨mv rfl, mv rfl, mv rfl, tv⟩ tv rfl ?_
     refine vif hF (fun _ hF => ?_) (fun _ hF => ?_)
     ·refine Dz.tt (b := true) rfl rfl ?_
      refine Dz.seq (Dz.reg (Dz.ret ?_))
      cases hF
      exact finG [] [] rfl rfl (mv rfl) tv rfl
     ·refine bdE hF (fun y17 hy17 hF => ?_)
      refine callG [] (i_in_c hy17) ⟨mv rfl, mv rfl, mv rfl, tv⟩ tv rfl ?_
      refine vif hF (fun _ hF => ?_) (fun _ hF => ?_)
      ·refine Dz.tt (b := true) rfl rfl ?_
       refine Dz.seq (Dz.reg (Dz.ret ?_))
       cases hF
       exact finG [] [] rfl rfl (mv rfl) tv rfl
      ·refine bdE hF (fun y18 hy18 hF => ?_)
       refine callG [] (i_in_c hy18) ⟨mv rfl, mv rfl, mv rfl, tv⟩ tv rfl ?_
       refine Dz.ite rfl hF (fun _ hF => ?_) (fun _ hF => ?_)
       ·refine Dz.seq (Dz.reg (Dz.ret ?_))
        cases hF
        exact finG [] [] rfl rfl (mv rfl) tv rfl
       ·refine Dz.skip (Dz.reg ?_)
        refine vsucc (by omega) ?_
        exact ⟨(), entG [0] ⟨mp rfl, mv rfl, mv rfl, mv rfl, tv⟩ ⟨⟨rfl, o_box rfl⟩, tv⟩ rfl, hF⟩
def i_SrvOk (a0 : Server) : Option (Bool) :=
 jn (fun (v2 : Bool) => cond v2 (some false) (loopN (fun i4 (v8 : Unit) κ9 => lt (a0.Copies.getD i4 default) (fun x10 => (i_copyOk x10).bind (fun y11 => cond (!y11) (some false) (cond (decide ((0 : Int) < ((i4 : Nat) : Int))) (ix a0.Copies (((i4 : Nat) : Int) - 1) (fun x12 => cond (decide (x10.Range ≤ x12.Range)) (some false) (κ9 ()))) (κ9 ()))))) (fun (v8 : Unit) => loopN (fun i14 (v23 : Unit) κ24 => lt (a0.Doing.getD i14 default) (fun x25 => (i_isRange x25.Range).bind (fun y26 => cond (!y26) (some false) ((i_in x25.View 1 99999).bind (fun y27 => cond (!y27) (some false) ((i_isClient x25.Client).bind (fun y28 => cond (!y28) (some false) ((i_in x25.Call 1 99999).bind (fun y29 => cond (!y29) (some false) ((i_in x25.Disk 1 99999).bind (fun y30 => cond (!y30) (some false) ((i_in x25.Epoch 1 99999).bind (fun y31 => cond (!y31) (some false) ((i_in x25.Block 0 99999).bind (fun y32 => cond (!y32) (some false) (κ24 ())))))))))))))))) (fun (v23 : Unit) => some true) a0.Doing.length 0 ()) a0.Copies.length 0 ())) (fun j33 => (i_isServer a0.Id).bind (fun y34 => cond (!y34) (j33 true) (cond a0.Up (cond a0.Gone (j33 true) ((i_in a0.Round 0 12498).bind (fun y35 => cond (!y35) (j33 true) ((i_SynVoterOk a0.Voter).bind (fun y36 => cond (!y36) (j33 true) ((i_SynSeekerOk a0.Seek).bind (fun y37 => cond (!y37) (j33 true) ((i_cmdsOk a0.Log 60).bind (fun y38 => cond (!y38) (j33 true) ((i_cmdsOk a0.Wants 12).bind (fun y39 => cond (!y39) (j33 true) (cond (decide ((3 : Int) < ((a0.Copies.length : Nat) : Int))) (j33 true) (j33 (decide ((12 : Int) < ((a0.Doing.length : Nat) : Int)))))))))))))))) ((i_in a0.Round 0 12498).bind (fun y42 => cond (!y42) (j33 true) ((i_SynVoterOk a0.Voter).bind (fun y43 => cond (!y43) (j33 true) ((i_SynSeekerOk a0.Seek).bind (fun y44 => cond (!y44) (j33 true) ((i_cmdsOk a0.Log 60).bind (fun y45 => cond (!y45) (j33 true) ((i_cmdsOk a0.Wants 12).bind (fun y46 => cond (!y46) (j33 true) (cond (decide ((3 : Int) < ((a0.Copies.length : Nat) : Int))) (j33 true) (j33 (decide ((12 : Int) < ((a0.Doing.length : Nat) : Int))))))))))))))))))
theorem i_SrvOk_c {t0_33 t0_34 t0_35 t0_5 t0_6 t0_7 : Bool} {a0 : Server} {r : Bool} (hF : i_SrvOk a0 = some r) : Con Tryz.prog 62 [.val true (.u (cI a0.Id) :: .u (.bool a0.Up) :: .u (.bool a0.Gone) :: .u (cI a0.Round) :: .u (cI a0.Voter.Promised) :: .u (ul SynPaper.c 12 t0_5 a0.Voter.Papers) :: .u (ul Cmd.c 10 t0_6 a0.Log) :: .u (ul SrvCopy.c 6 t0_7 a0.Copies) :: .u (cI a0.Seek.Slot) :: .u (cI a0.Seek.Ballot) :: .u (cI a0.Seek.Phase) :: .u (cI a0.Seek.Mine.Kind) :: .u (cI a0.Seek.Mine.Client) :: .u (cI a0.Seek.Mine.Call) :: .u (cI a0.Seek.Mine.Disk) :: .u (cI a0.Seek.Mine.Arg) :: .u (cI a0.Seek.Mine.Epoch) :: .u (cI a0.Seek.Mine.Range) :: .u (cI a0.Seek.Mine.Num) :: .u (cI a0.Seek.Mine.A) :: .u (cI a0.Seek.Mine.B) :: .u (cI a0.Seek.Best.Slot) :: .u (cI a0.Seek.Best.Ballot) :: .u (cI a0.Seek.Best.Cmd.Kind) :: .u (cI a0.Seek.Best.Cmd.Client) :: .u (cI a0.Seek.Best.Cmd.Call) :: .u (cI a0.Seek.Best.Cmd.Disk) :: .u (cI a0.Seek.Best.Cmd.Arg) :: .u (cI a0.Seek.Best.Cmd.Epoch) :: .u (cI a0.Seek.Best.Cmd.Range) :: .u (cI a0.Seek.Best.Cmd.Num) :: .u (cI a0.Seek.Best.Cmd.A) :: .u (cI a0.Seek.Best.Cmd.B) :: .u (ul cInt 1 t0_33 a0.Seek.Yes) :: .u (ul Cmd.c 10 t0_34 a0.Wants) :: .u (ul SrvDoing.c 8 t0_35 a0.Doing) :: [])] [] (vbool r) [] := by
 refine Con.of_Dz tabOk Tryz.func62 rfl rfl rfl ?_
 delta i_SrvOk at hF
 refine Dz.seq (Dz.reg (Dz.seq ?_))
 refine Dz.jn hF (fun v2 => ([(1, .ptr 0 0), (60, vbool v2)], [.box 52 (.u (cI a0.Id) :: .u (.bool a0.Up) :: .u (.bool a0.Gone) :: .u (cI a0.Round) :: .u (cI a0.Voter.Promised) :: .u (ul SynPaper.c 12 t0_5 a0.Voter.Papers) :: .u (ul Cmd.c 10 t0_6 a0.Log) :: .u (ul SrvCopy.c 6 t0_7 a0.Copies) :: .u (cI a0.Seek.Slot) :: .u (cI a0.Seek.Ballot) :: .u (cI a0.Seek.Phase) :: .u (cI a0.Seek.Mine.Kind) :: .u (cI a0.Seek.Mine.Client) :: .u (cI a0.Seek.Mine.Call) :: .u (cI a0.Seek.Mine.Disk) :: .u (cI a0.Seek.Mine.Arg) :: .u (cI a0.Seek.Mine.Epoch) :: .u (cI a0.Seek.Mine.Range) :: .u (cI a0.Seek.Mine.Num) :: .u (cI a0.Seek.Mine.A) :: .u (cI a0.Seek.Mine.B) :: .u (cI a0.Seek.Best.Slot) :: .u (cI a0.Seek.Best.Ballot) :: .u (cI a0.Seek.Best.Cmd.Kind) :: .u (cI a0.Seek.Best.Cmd.Client) :: .u (cI a0.Seek.Best.Cmd.Call) :: .u (cI a0.Seek.Best.Cmd.Disk) :: .u (cI a0.Seek.Best.Cmd.Arg) :: .u (cI a0.Seek.Best.Cmd.Epoch) :: .u (cI a0.Seek.Best.Cmd.Range) :: .u (cI a0.Seek.Best.Cmd.Num) :: .u (cI a0.Seek.Best.Cmd.A) :: .u (cI a0.Seek.Best.Cmd.B) :: .u (ul cInt 1 t0_33 a0.Seek.Yes) :: .u (ul Cmd.c 10 t0_34 a0.Wants) :: .u (ul SrvDoing.c 8 t0_35 a0.Doing) :: [])])) (fun v2 hF => ?_) (fun hF => ?_)
 ·refine Dz.ite rfl hF (fun _ hF => ?_) (fun _ hF => ?_)
  ·refine Dz.seq (Dz.reg (Dz.ret ?_))
   cases hF
   exact finG [] [] rfl rfl (mv rfl) tv rfl
  ·refine Dz.skip (Dz.seq (Dz.seq (Dz.reg ?_)))
   intro hb3; replace hb3 : a0.Copies.length ≤ 140737488355328 := hb3
   refine Dz.blk ?_
   refine Dz.cnt hF (fun i4 v8 => ([(1, .ptr 0 0), (62, .val false [.u (ul SrvCopy.c 6 t0_7 a0.Copies)]), (63, vint .i64 ((a0.Copies.length : Nat) : Int)), (64, vint .i64 ((i4 : Nat) : Int))], [.box 52 (.u (cI a0.Id) :: .u (.bool a0.Up) :: .u (.bool a0.Gone) :: .u (cI a0.Round) :: .u (cI a0.Voter.Promised) :: .u (ul SynPaper.c 12 t0_5 a0.Voter.Papers) :: .u (ul Cmd.c 10 t0_6 a0.Log) :: .u (ul SrvCopy.c 6 t0_7 a0.Copies) :: .u (cI a0.Seek.Slot) :: .u (cI a0.Seek.Ballot) :: .u (cI a0.Seek.Phase) :: .u (cI a0.Seek.Mine.Kind) :: .u (cI a0.Seek.Mine.Client) :: .u (cI a0.Seek.Mine.Call) :: .u (cI a0.Seek.Mine.Disk) :: .u (cI a0.Seek.Mine.Arg) :: .u (cI a0.Seek.Mine.Epoch) :: .u (cI a0.Seek.Mine.Range) :: .u (cI a0.Seek.Mine.Num) :: .u (cI a0.Seek.Mine.A) :: .u (cI a0.Seek.Mine.B) :: .u (cI a0.Seek.Best.Slot) :: .u (cI a0.Seek.Best.Ballot) :: .u (cI a0.Seek.Best.Cmd.Kind) :: .u (cI a0.Seek.Best.Cmd.Client) :: .u (cI a0.Seek.Best.Cmd.Call) :: .u (cI a0.Seek.Best.Cmd.Disk) :: .u (cI a0.Seek.Best.Cmd.Arg) :: .u (cI a0.Seek.Best.Cmd.Epoch) :: .u (cI a0.Seek.Best.Cmd.Range) :: .u (cI a0.Seek.Best.Cmd.Num) :: .u (cI a0.Seek.Best.Cmd.A) :: .u (cI a0.Seek.Best.Cmd.B) :: .u (ul cInt 1 t0_33 a0.Seek.Yes) :: .u (ul Cmd.c 10 t0_34 a0.Wants) :: .u (ul SrvDoing.c 8 t0_35 a0.Doing) :: [])])) (entG [0] ⟨mp rfl, mv rfl, mv rfl, mv rfl, tv⟩ ⟨⟨rfl, o_box rfl⟩, tv⟩ rfl) (fun v8 hF => ?_) (fun i4 v8 κ9 hi0i4 hi1i4 hF => ?_)
   ·refine Dz.seq (Dz.reg (Dz.seq ?_))
    refine Dz.ff (b := decide (((0 + a0.Copies.length : Nat) : Int) < ((a0.Copies.length : Nat) : Int))) rfl (decide_eq_false (by omega)) ?_
    refine Dz.exit (Dz.seq (Dz.seq (Dz.reg ?_)))
    intro hb13; replace hb13 : a0.Doing.length ≤ 140737488355328 := hb13
    refine Dz.blk ?_
    refine Dz.cnt hF (fun i14 v23 => ([(90, .val false [.u (ul SrvDoing.c 8 t0_35 a0.Doing)]), (91, vint .i64 ((a0.Doing.length : Nat) : Int)), (92, vint .i64 ((i14 : Nat) : Int))], [])) (entG [] ⟨mv rfl, mv rfl, mv rfl, tv⟩ tv rfl) (fun v23 hF => ?_) (fun i14 v23 κ24 hi0i14 hi1i14 hF => ?_)
    ·refine Dz.seq (Dz.reg (Dz.seq ?_))
     refine Dz.ff (b := decide (((0 + a0.Doing.length : Nat) : Int) < ((a0.Doing.length : Nat) : Int))) rfl (decide_eq_false (by omega)) ?_
     refine Dz.exit (Dz.seq (Dz.reg (Dz.ret ?_)))
     cases hF
     exact finG [] [] rfl rfl (mv rfl) tv rfl
    ·refine Dz.seq (Dz.reg (Dz.seq ?_))
     refine Dz.tt (b := decide (((i14 : Nat) : Int) < ((a0.Doing.length : Nat) : Int))) rfl (decide_eq_true (by omega)) ?_
     refine Dz.skip (Dz.seq (Dz.blk (Dz.seq (Dz.reg ?_))))
     refine vge (n := ((i14 : Nat) : Int)) (hi := (a0.Doing.length : Int)) (by omega) (by omega) ?_
     have hF := ltE hF
     refine Dz.seq (Dz.reg ?_)
     refine bdE hF (fun y26 hy26 hF => ?_)
     refine callG [] (i_isRange_c hy26) ⟨mv rfl, tv⟩ tv rfl ?_
     refine vif hF (fun _ hF => ?_) (fun _ hF => ?_)
     ·refine Dz.tt (b := true) rfl rfl ?_
      refine Dz.seq (Dz.reg (Dz.ret ?_))
      cases hF
      exact finG [] [] rfl rfl (mv rfl) tv rfl
     ·refine bdE hF (fun y27 hy27 hF => ?_)
      refine callG [] (i_in_c hy27) ⟨mv rfl, mv rfl, mv rfl, tv⟩ tv rfl ?_
      refine vif hF (fun _ hF => ?_) (fun _ hF => ?_)
      ·refine Dz.tt (b := true) rfl rfl ?_
       refine Dz.seq (Dz.reg (Dz.ret ?_))
       cases hF
       exact finG [] [] rfl rfl (mv rfl) tv rfl
      ·refine bdE hF (fun y28 hy28 hF => ?_)
       refine callG [] (i_isClient_c hy28) ⟨mv rfl, tv⟩ tv rfl ?_
       refine vif hF (fun _ hF => ?_) (fun _ hF => ?_)
       ·refine Dz.tt (b := true) rfl rfl ?_
        refine Dz.seq (Dz.reg (Dz.ret ?_))
        cases hF
        exact finG [] [] rfl rfl (mv rfl) tv rfl
       ·refine bdE hF (fun y29 hy29 hF => ?_)
        refine callG [] (i_in_c hy29) ⟨mv rfl, mv rfl, mv rfl, tv⟩ tv rfl ?_
        refine vif hF (fun _ hF => ?_) (fun _ hF => ?_)
        ·refine Dz.tt (b := true) rfl rfl ?_
         refine Dz.seq (Dz.reg (Dz.ret ?_))
         cases hF
         exact finG [] [] rfl rfl (mv rfl) tv rfl
        ·refine bdE hF (fun y30 hy30 hF => ?_)
         refine callG [] (i_in_c hy30) ⟨mv rfl, mv rfl, mv rfl, tv⟩ tv rfl ?_
         refine vif hF (fun _ hF => ?_) (fun _ hF => ?_)
         ·refine Dz.tt (b := true) rfl rfl ?_
          refine Dz.seq (Dz.reg (Dz.ret ?_))
          cases hF
          exact finG [] [] rfl rfl (mv rfl) tv rfl
         ·refine bdE hF (fun y31 hy31 hF => ?_)
          refine callG [] (i_in_c hy31) ⟨mv rfl, mv rfl, mv rfl, tv⟩ tv rfl ?_
          refine vif hF (fun _ hF => ?_) (fun _ hF => ?_)
          ·refine Dz.tt (b := true) rfl rfl ?_
           refine Dz.seq (Dz.reg (Dz.ret ?_))
           cases hF
           exact finG [] [] rfl rfl (mv rfl) tv rfl
          ·refine bdE hF (fun y32 hy32 hF => ?_)
           refine callG [] (i_in_c hy32) ⟨mv rfl, mv rfl, mv rfl, tv⟩ tv rfl ?_
           refine Dz.ite rfl hF (fun _ hF => ?_) (fun _ hF => ?_)
           ·refine Dz.seq (Dz.reg (Dz.ret ?_))
            cases hF
            exact finG [] [] rfl rfl (mv rfl) tv rfl
           ·refine Dz.skip (Dz.reg ?_)
            refine vsucc (by omega) ?_
            exact ⟨(), entG [] ⟨mv rfl, mv rfl, mv rfl, tv⟩ tv rfl, hF⟩
   ·refine Dz.seq (Dz.reg (Dz.seq ?_))
    refine Dz.tt (b := decide (((i4 : Nat) : Int) < ((a0.Copies.length : Nat) : Int))) rfl (decide_eq_true (by omega)) ?_
    refine Dz.skip (Dz.seq (Dz.blk (Dz.seq (Dz.reg ?_))))
    refine vge (n := ((i4 : Nat) : Int)) (hi := (a0.Copies.length : Int)) (by omega) (by omega) ?_
    have hF := ltE hF
    refine Dz.seq ?_
    refine Dz.drw 2 [⟨[], [1], 2, 2⟩, ⟨[], [], 2, 2⟩, ⟨[], [], 2, 2⟩, ⟨[], [], 2, 2⟩, ⟨[], [], 2, 2⟩, ⟨[], [], 2, 2⟩, ⟨[], [], 2, 2⟩, ⟨[78,79,83,84], [], 2, 2⟩, ⟨[78,79,83,84], [0], 2, 2⟩, ⟨[76,77,83,84], [], 2, 2⟩, ⟨[76,77,83,84], [], 2, 2⟩, ⟨[83,84], [], 2, 2⟩, ⟨[83,84], [], 2, 2⟩, ⟨[83,84], [], 2, 2⟩, ⟨[76,77,78,79,80,81,82], [], 2, 2⟩, ⟨[76,77,78,79,80,81,82], [1], 2, 2⟩, ⟨[], [], 2, 2⟩, ⟨[], [], 2, 2⟩, ⟨[], [], 2, 2⟩] ⟨by kernel_rfl, by kernel_rfl, rfl⟩ ?_
    refine bdE hF (fun y11 hy11 hF => ?_)
    refine callG [] (i_copyOk_c hy11) ⟨mv rfl, tv⟩ tv rfl ?_
    refine vif hF (fun _ hF => ?_) (fun _ hF => ?_)
    ·refine Dz.tt (b := true) rfl rfl ?_
     refine Dz.seq (Dz.reg (Dz.ret ?_))
     cases hF
     exact finG [] [] rfl rfl (mv rfl) tv rfl
    ·refine vif hF (fun _ hF => ?_) (fun _ hF => ?_)
     ·refine ⟨(((i4 : Nat) : Int) - 1), wrap64 (by omega) (by omega), ?_⟩
      refine vix hF (fun _ _ hF => ?_)
      refine Dz.ite rfl hF (fun _ hF => ?_) (fun _ hF => ?_)
      ·refine Dz.seq (Dz.reg (Dz.ret ?_))
       cases hF
       exact finG [] [] rfl rfl (mv rfl) tv rfl
      ·refine Dz.skip (Dz.reg ?_)
       refine vsucc (by omega) ?_
       exact ⟨(), entG [0] ⟨mp rfl, mv rfl, mv rfl, mv rfl, tv⟩ ⟨⟨rfl, o_box rfl⟩, tv⟩ rfl, hF⟩
     ·refine Dz.ff (b := false) rfl rfl ?_
      refine Dz.skip (Dz.reg ?_)
      refine vsucc (by omega) ?_
      exact ⟨(), entG [0] ⟨mp rfl, mv rfl, mv rfl, mv rfl, tv⟩ ⟨⟨rfl, o_box rfl⟩, tv⟩ rfl, hF⟩
 ·refine Dz.reg ?_
  refine bdE hF (fun y34 hy34 hF => ?_)
  refine callG [] (i_isServer_c hy34) ⟨mv rfl, tv⟩ tv rfl ?_
  refine vif hF (fun _ hF => ?_) (fun _ hF => ?_)
  ·exact ⟨true, entG [0] ⟨mp rfl, mv rfl, tv⟩ ⟨⟨rfl, o_box rfl⟩, tv⟩ rfl, hF⟩
  ·refine vif hF (fun _ hF => ?_) (fun _ hF => ?_)
   ·refine vif hF (fun _ hF => ?_) (fun _ hF => ?_)
    ·exact ⟨true, entG [0] ⟨mp rfl, mv rfl, tv⟩ ⟨⟨rfl, o_box rfl⟩, tv⟩ rfl, hF⟩
    ·refine bdE hF (fun y35 hy35 hF => ?_)
     refine callG [] (i_in_c hy35) ⟨mv rfl, mv rfl, mv rfl, tv⟩ tv rfl ?_
     refine vif hF (fun _ hF => ?_) (fun _ hF => ?_)
     ·exact ⟨true, entG [0] ⟨mp rfl, mv rfl, tv⟩ ⟨⟨rfl, o_box rfl⟩, tv⟩ rfl, hF⟩
     ·refine bdE hF (fun y36 hy36 hF => ?_)
      refine callG [] (i_SynVoterOk_c hy36) ⟨mv rfl, tv⟩ tv rfl ?_
      refine vif hF (fun _ hF => ?_) (fun _ hF => ?_)
      ·exact ⟨true, entG [0] ⟨mp rfl, mv rfl, tv⟩ ⟨⟨rfl, o_box rfl⟩, tv⟩ rfl, hF⟩
      ·refine bdE hF (fun y37 hy37 hF => ?_)
       refine callG [] (i_SynSeekerOk_c hy37) ⟨mv rfl, tv⟩ tv rfl ?_
       refine vif hF (fun _ hF => ?_) (fun _ hF => ?_)
       ·exact ⟨true, entG [0] ⟨mp rfl, mv rfl, tv⟩ ⟨⟨rfl, o_box rfl⟩, tv⟩ rfl, hF⟩
       ·refine bdE hF (fun y38 hy38 hF => ?_)
        refine callG [] (i_cmdsOk_c hy38) ⟨mv rfl, mv rfl, tv⟩ tv rfl ?_
        refine vif hF (fun _ hF => ?_) (fun _ hF => ?_)
        ·exact ⟨true, entG [0] ⟨mp rfl, mv rfl, tv⟩ ⟨⟨rfl, o_box rfl⟩, tv⟩ rfl, hF⟩
        ·refine bdE hF (fun y39 hy39 hF => ?_)
         refine callG [] (i_cmdsOk_c hy39) ⟨mv rfl, mv rfl, tv⟩ tv rfl ?_
         refine vif hF (fun _ hF => ?_) (fun _ hF => ?_)
         ·exact ⟨true, entG [0] ⟨mp rfl, mv rfl, tv⟩ ⟨⟨rfl, o_box rfl⟩, tv⟩ rfl, hF⟩
         ·intro hb40; replace hb40 : a0.Copies.length ≤ 140737488355328 := hb40
          refine vif hF (fun _ hF => ?_) (fun _ hF => ?_)
          ·exact ⟨true, entG [0] ⟨mp rfl, mv rfl, tv⟩ ⟨⟨rfl, o_box rfl⟩, tv⟩ rfl, hF⟩
          ·intro hb41; replace hb41 : a0.Doing.length ≤ 140737488355328 := hb41
           exact ⟨(decide ((12 : Int) < ((a0.Doing.length : Nat) : Int))), entG [0] ⟨mp rfl, mv rfl, tv⟩ ⟨⟨rfl, o_box rfl⟩, tv⟩ rfl, hF⟩
   ·refine bdE hF (fun y42 hy42 hF => ?_)
    refine callG [] (i_in_c hy42) ⟨mv rfl, mv rfl, mv rfl, tv⟩ tv rfl ?_
    refine vif hF (fun _ hF => ?_) (fun _ hF => ?_)
    ·exact ⟨true, entG [0] ⟨mp rfl, mv rfl, tv⟩ ⟨⟨rfl, o_box rfl⟩, tv⟩ rfl, hF⟩
    ·refine bdE hF (fun y43 hy43 hF => ?_)
     refine callG [] (i_SynVoterOk_c hy43) ⟨mv rfl, tv⟩ tv rfl ?_
     refine vif hF (fun _ hF => ?_) (fun _ hF => ?_)
     ·exact ⟨true, entG [0] ⟨mp rfl, mv rfl, tv⟩ ⟨⟨rfl, o_box rfl⟩, tv⟩ rfl, hF⟩
     ·refine bdE hF (fun y44 hy44 hF => ?_)
      refine callG [] (i_SynSeekerOk_c hy44) ⟨mv rfl, tv⟩ tv rfl ?_
      refine vif hF (fun _ hF => ?_) (fun _ hF => ?_)
      ·exact ⟨true, entG [0] ⟨mp rfl, mv rfl, tv⟩ ⟨⟨rfl, o_box rfl⟩, tv⟩ rfl, hF⟩
      ·refine bdE hF (fun y45 hy45 hF => ?_)
       refine callG [] (i_cmdsOk_c hy45) ⟨mv rfl, mv rfl, tv⟩ tv rfl ?_
       refine vif hF (fun _ hF => ?_) (fun _ hF => ?_)
       ·exact ⟨true, entG [0] ⟨mp rfl, mv rfl, tv⟩ ⟨⟨rfl, o_box rfl⟩, tv⟩ rfl, hF⟩
       ·refine bdE hF (fun y46 hy46 hF => ?_)
        refine callG [] (i_cmdsOk_c hy46) ⟨mv rfl, mv rfl, tv⟩ tv rfl ?_
        refine vif hF (fun _ hF => ?_) (fun _ hF => ?_)
        ·exact ⟨true, entG [0] ⟨mp rfl, mv rfl, tv⟩ ⟨⟨rfl, o_box rfl⟩, tv⟩ rfl, hF⟩
        ·intro hb47; replace hb47 : a0.Copies.length ≤ 140737488355328 := hb47
         refine vif hF (fun _ hF => ?_) (fun _ hF => ?_)
         ·exact ⟨true, entG [0] ⟨mp rfl, mv rfl, tv⟩ ⟨⟨rfl, o_box rfl⟩, tv⟩ rfl, hF⟩
         ·intro hb48; replace hb48 : a0.Doing.length ≤ 140737488355328 := hb48
          exact ⟨(decide ((12 : Int) < ((a0.Doing.length : Nat) : Int))), entG [0] ⟨mp rfl, mv rfl, tv⟩ ⟨⟨rfl, o_box rfl⟩, tv⟩ rfl, hF⟩
def i_callsOk (a0 : (List PanCall)) (a1 : Int) : Option (Bool) :=
 cond (decide ((10 : Int) < ((a0.length : Nat) : Int))) (some false) (loopN (fun i3 (v32 : Unit) κ33 => lt (a0.getD i3 default) (fun x34 => jn (fun (v36 : Bool) => cond v36 (some false) (jn (fun (v37 : Unit) => jn (fun (v38 : Unit) => ck (0 ≤ ((i3 : Nat) : Int) ∧ ((i3 : Nat) : Int) ≤ (a0.length : Int)) (loopN (fun i40 (v45 : Int) κ46 => ix (a0.take i3) ((i40 : Nat) : Int) (fun x47 => cond (!decide (x47.Client = x34.Client)) (κ46 v45) (cond (!x47.Over) (cond (decide (x47.End = 0)) (some false) (cond (decide (x34.Begin ≤ x47.End)) (some false) (κ46 (w64 (v45 + 1))))) (κ46 (w64 (v45 + 1)))))) (fun (v45 : Int) => cond (!decide (x34.Call = (w64 (v45 + 1)))) (some false) (κ33 ())) i3 0 0)) (fun j48 => cond (!decide (x34.End = 0)) ((i_in x34.End (w64 (x34.Begin + 1)) a1).bind (fun y49 => cond (!y49) (some false) (cond x34.Over (some false) ((i_in x34.Code 0 5).bind (fun y50 => cond (!y50) (some false) ((i_in x34.Value 0 99999).bind (fun y51 => cond (!y51) (some false) (j48 ())))))))) (j48 ()))) (fun j52 => cond (decide (x34.End = 0)) (cond (!decide (x34.Code = 0)) (some false) (cond (!decide (x34.Value = 0)) (some false) (j52 ()))) (j52 ())))) (fun j53 => (i_in x34.Begin 1 a1).bind (fun y54 => cond (!y54) (j53 true) (cond (decide ((0 : Int) < ((i3 : Nat) : Int))) (ix a0 (((i3 : Nat) : Int) - 1) (fun x55 => cond (decide (x34.Begin ≤ x55.Begin)) (j53 true) ((i_isClient x34.Client).bind (fun y56 => cond (!y56) (j53 true) ((i_in x34.Op 1 6).bind (fun y57 => cond (!y57) (j53 true) ((i_in x34.Disk 0 99999).bind (fun y58 => cond (!y58) (j53 true) ((i_in x34.Block 0 99999).bind (fun y59 => cond (!y59) (j53 true) ((i_in x34.Epoch 0 99999).bind (fun y60 => cond (!y60) (j53 true) ((i_in x34.Data 0 99999).bind (fun y61 => j53 (!y61))))))))))))))) ((i_isClient x34.Client).bind (fun y62 => cond (!y62) (j53 true) ((i_in x34.Op 1 6).bind (fun y63 => cond (!y63) (j53 true) ((i_in x34.Disk 0 99999).bind (fun y64 => cond (!y64) (j53 true) ((i_in x34.Block 0 99999).bind (fun y65 => cond (!y65) (j53 true) ((i_in x34.Epoch 0 99999).bind (fun y66 => cond (!y66) (j53 true) ((i_in x34.Data 0 99999).bind (fun y67 => j53 (!y67)))))))))))))))))) (fun (v32 : Unit) => some true) a0.length 0 ())
theorem i_callsOk_c {t0_0 : Bool} {a0 : (List PanCall)} {a1 : Int} {r : Bool} (hF : i_callsOk a0 a1 = some r) : Con Tryz.prog 103 [.val false [.u (ul PanCall.c 12 t0_0 a0)], vint .i64 a1] [] (vbool r) [] := by
 refine Con.of_Dz tabOk Tryz.func103 rfl rfl rfl ?_
 delta i_callsOk at hF
 refine Dz.seq (Dz.reg (Dz.seq (Dz.seq (Dz.reg ?_))))
 intro hb1; replace hb1 : a0.length ≤ 140737488355328 := hb1
 refine Dz.ite rfl hF (fun _ hF => ?_) (fun _ hF => ?_)
 ·refine Dz.seq (Dz.reg (Dz.ret ?_))
  cases hF
  exact finG [] [] rfl rfl (mv rfl) tv rfl
 ·refine Dz.skip (Dz.seq (Dz.seq (Dz.reg ?_)))
  intro hb2; replace hb2 : a0.length ≤ 140737488355328 := hb2
  refine Dz.blk ?_
  refine Dz.cnt hF (fun i3 v32 => ([(0, .val false [.u (ul PanCall.c 12 t0_0 a0)]), (1, vint .i64 a1), (13, .val false [.u (ul PanCall.c 12 t0_0 a0)]), (14, vint .i64 ((a0.length : Nat) : Int)), (15, vint .i64 ((i3 : Nat) : Int))], [])) (entG [] ⟨mv rfl, mv rfl, mv rfl, mv rfl, mv rfl, tv⟩ tv rfl) (fun v32 hF => ?_) (fun i3 v32 κ33 hi0i3 hi1i3 hF => ?_)
  ·refine Dz.seq (Dz.reg (Dz.seq ?_))
   refine Dz.ff (b := decide (((0 + a0.length : Nat) : Int) < ((a0.length : Nat) : Int))) rfl (decide_eq_false (by omega)) ?_
   refine Dz.exit (Dz.seq (Dz.reg (Dz.ret ?_)))
   cases hF
   exact finG [] [] rfl rfl (mv rfl) tv rfl
  ·refine Dz.seq (Dz.reg (Dz.seq ?_))
   refine Dz.tt (b := decide (((i3 : Nat) : Int) < ((a0.length : Nat) : Int))) rfl (decide_eq_true (by omega)) ?_
   refine Dz.skip (Dz.seq (Dz.blk (Dz.seq (Dz.reg ?_))))
   refine vge (n := ((i3 : Nat) : Int)) (hi := (a0.length : Int)) (by omega) (by omega) ?_
   have hF := ltE hF
   refine Dz.seq ?_
   refine Dz.jn hF (fun v36 => ([(0, .val false [.u (ul PanCall.c 12 t0_0 a0)]), (1, vint .i64 a1), (5, vint .i64 ((i3 : Nat) : Int)), (6, .ptr 0 0), (13, .val false [.u (ul PanCall.c 12 t0_0 a0)]), (14, vint .i64 ((a0.length : Nat) : Int)), (15, vint .i64 ((i3 : Nat) : Int)), (75, vbool v36)], [.box 162 (PanCall.L (a0.getD i3 default))])) (fun v36 hF => ?_) (fun hF => ?_)
   ·refine Dz.ite rfl hF (fun _ hF => ?_) (fun _ hF => ?_)
    ·refine Dz.seq (Dz.reg (Dz.ret ?_))
     cases hF
     exact finG [] [] rfl rfl (mv rfl) tv rfl
    ·refine Dz.skip ?_
     refine Dz.jn hF (fun v37 => ([(0, .val false [.u (ul PanCall.c 12 t0_0 a0)]), (1, vint .i64 a1), (5, vint .i64 ((i3 : Nat) : Int)), (6, .ptr 0 0), (13, .val false [.u (ul PanCall.c 12 t0_0 a0)]), (14, vint .i64 ((a0.length : Nat) : Int)), (15, vint .i64 ((i3 : Nat) : Int))], [.box 162 (PanCall.L (a0.getD i3 default))])) (fun v37 hF => ?_) (fun hF => ?_)
     ·refine Dz.jn hF (fun v38 => ([(0, .val false [.u (ul PanCall.c 12 t0_0 a0)]), (1, vint .i64 a1), (5, vint .i64 ((i3 : Nat) : Int)), (6, .ptr 0 0), (13, .val false [.u (ul PanCall.c 12 t0_0 a0)]), (14, vint .i64 ((a0.length : Nat) : Int)), (15, vint .i64 ((i3 : Nat) : Int))], [.box 162 (PanCall.L (a0.getD i3 default))])) (fun v38 hF => ?_) (fun hF => ?_)
      ·refine Dz.seq (Dz.reg (Dz.seq (Dz.seq (Dz.reg ?_))))
       refine vck hF id (fun _ hF => ?_)
       intro hb39; replace hb39 : i3 ≤ 140737488355328 := hb39
       refine Dz.slotLe 120 (ul PanCall.c 12 t0_0 (a0.take i3)) rfl (LeU.cut (by simp <;> omega) (EqG.take _)) ?_
       refine Dz.blk ?_
       refine Dz.cnt hF (fun i40 v45 => ([(0, .val false [.u (ul PanCall.c 12 t0_0 a0)]), (1, vint .i64 a1), (6, .ptr 0 0), (7, vint .i64 v45), (13, .val false [.u (ul PanCall.c 12 t0_0 a0)]), (14, vint .i64 ((a0.length : Nat) : Int)), (15, vint .i64 ((i3 : Nat) : Int)), (120, .val false [.u (ul PanCall.c 12 t0_0 (a0.take i3))]), (121, vint .i64 ((i3 : Nat) : Int)), (122, vint .i64 ((i40 : Nat) : Int))], [.box 162 (PanCall.L (a0.getD i3 default))])) (entG [0] ⟨mv rfl, mv rfl, mp rfl, mv rfl, mv rfl, mv rfl, mv rfl, mv rfl, mv rfl, mv rfl, tv⟩ ⟨⟨rfl, o_box rfl⟩, tv⟩ rfl) (fun v45 hF => ?_) (fun i40 v45 κ46 hi0i40 hi1i40 hF => ?_)
       ·refine Dz.seq (Dz.reg (Dz.seq ?_))
        refine Dz.ff (b := decide (((0 + i3 : Nat) : Int) < ((i3 : Nat) : Int))) rfl (decide_eq_false (by omega)) ?_
        refine Dz.exit (Dz.seq (Dz.reg (vw64 ?_)))
        refine Dz.ite rfl hF (fun _ hF => ?_) (fun _ hF => ?_)
        ·refine Dz.seq (Dz.reg (Dz.ret ?_))
         cases hF
         exact finG [] [] rfl rfl (mv rfl) tv rfl
        ·refine Dz.skip (Dz.reg ?_)
         refine vsucc (by omega) ?_
         exact ⟨(), entG [] ⟨mv rfl, mv rfl, mv rfl, mv rfl, mv rfl, tv⟩ tv rfl, hF⟩
       ·refine Dz.seq (Dz.reg (Dz.seq ?_))
        refine Dz.tt (b := decide (((i40 : Nat) : Int) < ((i3 : Nat) : Int))) rfl (decide_eq_true (by omega)) ?_
        refine Dz.skip (Dz.seq (Dz.blk (Dz.seq (Dz.reg ?_))))
        refine vix hF (fun _ _ hF => ?_)
        refine Dz.seq (Dz.seq (Dz.reg ?_))
        refine Dz.ite rfl hF (fun _ hF => ?_) (fun _ hF => ?_)
        ·refine Dz.exit (Dz.reg ?_)
         refine vsucc (by omega) ?_
         exact ⟨v45, entG [0] ⟨mv rfl, mv rfl, mp rfl, mv rfl, mv rfl, mv rfl, mv rfl, mv rfl, mv rfl, mv rfl, tv⟩ ⟨⟨rfl, o_box rfl⟩, tv⟩ rfl, hF⟩
        ·refine Dz.skip (Dz.seq (Dz.reg (vw64 (Dz.seq (Dz.reg ?_)))))
         refine vif hF (fun _ hF => ?_) (fun _ hF => ?_)
         ·refine vif hF (fun _ hF => ?_) (fun _ hF => ?_)
          ·refine Dz.tt (b := true) rfl rfl ?_
           refine Dz.seq (Dz.reg (Dz.ret ?_))
           cases hF
           exact finG [] [] rfl rfl (mv rfl) tv rfl
          ·refine Dz.ite rfl hF (fun _ hF => ?_) (fun _ hF => ?_)
           ·refine Dz.seq (Dz.reg (Dz.ret ?_))
            cases hF
            exact finG [] [] rfl rfl (mv rfl) tv rfl
           ·refine Dz.skip (Dz.reg ?_)
            refine vsucc (by omega) ?_
            exact ⟨(w64 (v45 + 1)), entG [0] ⟨mv rfl, mv rfl, mp rfl, mv rfl, mv rfl, mv rfl, mv rfl, mv rfl, mv rfl, mv rfl, tv⟩ ⟨⟨rfl, o_box rfl⟩, tv⟩ rfl, hF⟩
         ·refine Dz.ff (b := false) rfl rfl ?_
          refine Dz.skip (Dz.reg ?_)
          refine vsucc (by omega) ?_
          exact ⟨(w64 (v45 + 1)), entG [0] ⟨mv rfl, mv rfl, mp rfl, mv rfl, mv rfl, mv rfl, mv rfl, mv rfl, mv rfl, mv rfl, tv⟩ ⟨⟨rfl, o_box rfl⟩, tv⟩ rfl, hF⟩
      ·refine Dz.seq (Dz.reg ?_)
       refine vif hF (fun _ hF => ?_) (fun _ hF => ?_)
       ·refine vw64 ?_
        refine bdE hF (fun y49 hy49 hF => ?_)
        refine callG [] (i_in_c hy49) ⟨mv rfl, mv rfl, mv rfl, tv⟩ tv rfl ?_
        refine vif hF (fun _ hF => ?_) (fun _ hF => ?_)
        ·refine Dz.tt (b := true) rfl rfl ?_
         refine Dz.seq (Dz.reg (Dz.ret ?_))
         cases hF
         exact finG [] [] rfl rfl (mv rfl) tv rfl
        ·refine vif hF (fun _ hF => ?_) (fun _ hF => ?_)
         ·refine Dz.tt (b := true) rfl rfl ?_
          refine Dz.seq (Dz.reg (Dz.ret ?_))
          cases hF
          exact finG [] [] rfl rfl (mv rfl) tv rfl
         ·refine bdE hF (fun y50 hy50 hF => ?_)
          refine callG [] (i_in_c hy50) ⟨mv rfl, mv rfl, mv rfl, tv⟩ tv rfl ?_
          refine vif hF (fun _ hF => ?_) (fun _ hF => ?_)
          ·refine Dz.tt (b := true) rfl rfl ?_
           refine Dz.seq (Dz.reg (Dz.ret ?_))
           cases hF
           exact finG [] [] rfl rfl (mv rfl) tv rfl
          ·refine bdE hF (fun y51 hy51 hF => ?_)
           refine callG [] (i_in_c hy51) ⟨mv rfl, mv rfl, mv rfl, tv⟩ tv rfl ?_
           refine Dz.ite rfl hF (fun _ hF => ?_) (fun _ hF => ?_)
           ·refine Dz.seq (Dz.reg (Dz.ret ?_))
            cases hF
            exact finG [] [] rfl rfl (mv rfl) tv rfl
           ·refine Dz.skip ?_
            exact ⟨(), entG [0] ⟨mv rfl, mv rfl, mv rfl, mp rfl, mv rfl, mv rfl, mv rfl, tv⟩ ⟨⟨rfl, o_box rfl⟩, tv⟩ rfl, hF⟩
       ·refine Dz.ff (b := false) rfl rfl ?_
        refine Dz.skip ?_
        exact ⟨(), entG [0] ⟨mv rfl, mv rfl, mv rfl, mp rfl, mv rfl, mv rfl, mv rfl, tv⟩ ⟨⟨rfl, o_box rfl⟩, tv⟩ rfl, hF⟩
     ·refine Dz.seq (Dz.reg ?_)
      refine vif hF (fun _ hF => ?_) (fun _ hF => ?_)
      ·refine vif hF (fun _ hF => ?_) (fun _ hF => ?_)
       ·refine Dz.tt (b := true) rfl rfl ?_
        refine Dz.seq (Dz.reg (Dz.ret ?_))
        cases hF
        exact finG [] [] rfl rfl (mv rfl) tv rfl
       ·refine Dz.ite rfl hF (fun _ hF => ?_) (fun _ hF => ?_)
        ·refine Dz.seq (Dz.reg (Dz.ret ?_))
         cases hF
         exact finG [] [] rfl rfl (mv rfl) tv rfl
        ·refine Dz.skip ?_
         exact ⟨(), entG [0] ⟨mv rfl, mv rfl, mv rfl, mp rfl, mv rfl, mv rfl, mv rfl, tv⟩ ⟨⟨rfl, o_box rfl⟩, tv⟩ rfl, hF⟩
      ·refine Dz.ff (b := false) rfl rfl ?_
       refine Dz.skip ?_
       exact ⟨(), entG [0] ⟨mv rfl, mv rfl, mv rfl, mp rfl, mv rfl, mv rfl, mv rfl, tv⟩ ⟨⟨rfl, o_box rfl⟩, tv⟩ rfl, hF⟩
   ·refine Dz.drw 1 [⟨[22], [], 1, 1⟩, ⟨[22], [0], 1, 1⟩, ⟨[20,21], [], 1, 1⟩, ⟨[], [], 1, 1⟩, ⟨[], [], 1, 1⟩, ⟨[], [], 1, 1⟩, ⟨[], [], 1, 1⟩, ⟨[], [], 1, 1⟩, ⟨[], [], 1, 1⟩, ⟨[30,31,35,36], [], 1, 1⟩, ⟨[29,35,36], [], 1, 1⟩, ⟨[29,35,36], [], 1, 1⟩, ⟨[35,36], [], 1, 1⟩, ⟨[35,36], [], 1, 1⟩, ⟨[35,36], [], 1, 1⟩, ⟨[29,30,31,32,33,34], [], 1, 1⟩, ⟨[29,30,31,32,33,34], [0], 1, 1⟩, ⟨[], [], 1, 1⟩, ⟨[], [], 1, 1⟩, ⟨[], [], 1, 1⟩, ⟨[], [], 1, 1⟩, ⟨[], [], 1, 1⟩, ⟨[], [0], 1, 1⟩, ⟨[], [], 1, 1⟩, ⟨[], [], 1, 1⟩, ⟨[], [], 1, 1⟩, ⟨[], [], 1, 1⟩, ⟨[], [], 1, 1⟩, ⟨[], [0], 1, 1⟩, ⟨[], [], 1, 1⟩, ⟨[], [], 1, 1⟩, ⟨[], [], 1, 1⟩, ⟨[], [], 1, 1⟩, ⟨[], [], 1, 1⟩, ⟨[], [0], 1, 1⟩, ⟨[], [], 1, 1⟩, ⟨[], [], 1, 1⟩, ⟨[], [], 1, 1⟩, ⟨[], [], 1, 1⟩, ⟨[], [], 1, 1⟩, ⟨[], [0], 1, 1⟩, ⟨[], [], 1, 1⟩, ⟨[], [], 1, 1⟩, ⟨[], [], 1, 1⟩, ⟨[], [], 1, 1⟩, ⟨[], [], 1, 1⟩, ⟨[], [0], 1, 1⟩, ⟨[], [], 1, 1⟩, ⟨[], [], 1, 1⟩, ⟨[], [], 1, 1⟩, ⟨[], [], 1, 1⟩, ⟨[], [], 1, 1⟩, ⟨[], [0], 1, 1⟩, ⟨[], [], 1, 1⟩, ⟨[], [], 1, 1⟩, ⟨[], [], 1, 1⟩] ⟨by kernel_rfl, by kernel_rfl, rfl⟩ ?_
    refine bdE hF (fun y54 hy54 hF => ?_)
    refine callG [] (i_in_c hy54) ⟨mv rfl, mv rfl, mv rfl, tv⟩ tv rfl ?_
    refine vif hF (fun _ hF => ?_) (fun _ hF => ?_)
    ·exact ⟨true, entG [0] ⟨mv rfl, mv rfl, mv rfl, mp rfl, mv rfl, mv rfl, mv rfl, mv rfl, tv⟩ ⟨⟨rfl, o_box rfl⟩, tv⟩ rfl, hF⟩
    ·refine vif hF (fun _ hF => ?_) (fun _ hF => ?_)
     ·refine ⟨(((i3 : Nat) : Int) - 1), wrap64 (by omega) (by omega), ?_⟩
      refine vix hF (fun _ _ hF => ?_)
      refine vif hF (fun _ hF => ?_) (fun _ hF => ?_)
      ·exact ⟨true, entG [0] ⟨mv rfl, mv rfl, mv rfl, mp rfl, mv rfl, mv rfl, mv rfl, mv rfl, tv⟩ ⟨⟨rfl, o_box rfl⟩, tv⟩ rfl, hF⟩
      ·refine bdE hF (fun y56 hy56 hF => ?_)
       refine callG [] (i_isClient_c hy56) ⟨mv rfl, tv⟩ tv rfl ?_
       refine vif hF (fun _ hF => ?_) (fun _ hF => ?_)
       ·exact ⟨true, entG [0] ⟨mv rfl, mv rfl, mv rfl, mp rfl, mv rfl, mv rfl, mv rfl, mv rfl, tv⟩ ⟨⟨rfl, o_box rfl⟩, tv⟩ rfl, hF⟩
       ·refine bdE hF (fun y57 hy57 hF => ?_)
        refine callG [] (i_in_c hy57) ⟨mv rfl, mv rfl, mv rfl, tv⟩ tv rfl ?_
        refine vif hF (fun _ hF => ?_) (fun _ hF => ?_)
        ·exact ⟨true, entG [0] ⟨mv rfl, mv rfl, mv rfl, mp rfl, mv rfl, mv rfl, mv rfl, mv rfl, tv⟩ ⟨⟨rfl, o_box rfl⟩, tv⟩ rfl, hF⟩
        ·refine bdE hF (fun y58 hy58 hF => ?_)
         refine callG [] (i_in_c hy58) ⟨mv rfl, mv rfl, mv rfl, tv⟩ tv rfl ?_
         refine vif hF (fun _ hF => ?_) (fun _ hF => ?_)
         ·exact ⟨true, entG [0] ⟨mv rfl, mv rfl, mv rfl, mp rfl, mv rfl, mv rfl, mv rfl, mv rfl, tv⟩ ⟨⟨rfl, o_box rfl⟩, tv⟩ rfl, hF⟩
         ·refine bdE hF (fun y59 hy59 hF => ?_)
          refine callG [] (i_in_c hy59) ⟨mv rfl, mv rfl, mv rfl, tv⟩ tv rfl ?_
          refine vif hF (fun _ hF => ?_) (fun _ hF => ?_)
          ·exact ⟨true, entG [0] ⟨mv rfl, mv rfl, mv rfl, mp rfl, mv rfl, mv rfl, mv rfl, mv rfl, tv⟩ ⟨⟨rfl, o_box rfl⟩, tv⟩ rfl, hF⟩
          ·refine bdE hF (fun y60 hy60 hF => ?_)
           refine callG [] (i_in_c hy60) ⟨mv rfl, mv rfl, mv rfl, tv⟩ tv rfl ?_
           refine vif hF (fun _ hF => ?_) (fun _ hF => ?_)
           ·exact ⟨true, entG [0] ⟨mv rfl, mv rfl, mv rfl, mp rfl, mv rfl, mv rfl, mv rfl, mv rfl, tv⟩ ⟨⟨rfl, o_box rfl⟩, tv⟩ rfl, hF⟩
           ·refine bdE hF (fun y61 hy61 hF => ?_)
            refine callG [] (i_in_c hy61) ⟨mv rfl, mv rfl, mv rfl, tv⟩ tv rfl ?_
            exact ⟨(!y61), entG [0] ⟨mv rfl, mv rfl, mv rfl, mp rfl, mv rfl, mv rfl, mv rfl, mv rfl, tv⟩ ⟨⟨rfl, o_box rfl⟩, tv⟩ rfl, hF⟩
     ·refine bdE hF (fun y62 hy62 hF => ?_)
      refine callG [] (i_isClient_c hy62) ⟨mv rfl, tv⟩ tv rfl ?_
      refine vif hF (fun _ hF => ?_) (fun _ hF => ?_)
      ·exact ⟨true, entG [0] ⟨mv rfl, mv rfl, mv rfl, mp rfl, mv rfl, mv rfl, mv rfl, mv rfl, tv⟩ ⟨⟨rfl, o_box rfl⟩, tv⟩ rfl, hF⟩
      ·refine bdE hF (fun y63 hy63 hF => ?_)
       refine callG [] (i_in_c hy63) ⟨mv rfl, mv rfl, mv rfl, tv⟩ tv rfl ?_
       refine vif hF (fun _ hF => ?_) (fun _ hF => ?_)
       ·exact ⟨true, entG [0] ⟨mv rfl, mv rfl, mv rfl, mp rfl, mv rfl, mv rfl, mv rfl, mv rfl, tv⟩ ⟨⟨rfl, o_box rfl⟩, tv⟩ rfl, hF⟩
       ·refine bdE hF (fun y64 hy64 hF => ?_)
        refine callG [] (i_in_c hy64) ⟨mv rfl, mv rfl, mv rfl, tv⟩ tv rfl ?_
        refine vif hF (fun _ hF => ?_) (fun _ hF => ?_)
        ·exact ⟨true, entG [0] ⟨mv rfl, mv rfl, mv rfl, mp rfl, mv rfl, mv rfl, mv rfl, mv rfl, tv⟩ ⟨⟨rfl, o_box rfl⟩, tv⟩ rfl, hF⟩
        ·refine bdE hF (fun y65 hy65 hF => ?_)
         refine callG [] (i_in_c hy65) ⟨mv rfl, mv rfl, mv rfl, tv⟩ tv rfl ?_
         refine vif hF (fun _ hF => ?_) (fun _ hF => ?_)
         ·exact ⟨true, entG [0] ⟨mv rfl, mv rfl, mv rfl, mp rfl, mv rfl, mv rfl, mv rfl, mv rfl, tv⟩ ⟨⟨rfl, o_box rfl⟩, tv⟩ rfl, hF⟩
         ·refine bdE hF (fun y66 hy66 hF => ?_)
          refine callG [] (i_in_c hy66) ⟨mv rfl, mv rfl, mv rfl, tv⟩ tv rfl ?_
          refine vif hF (fun _ hF => ?_) (fun _ hF => ?_)
          ·exact ⟨true, entG [0] ⟨mv rfl, mv rfl, mv rfl, mp rfl, mv rfl, mv rfl, mv rfl, mv rfl, tv⟩ ⟨⟨rfl, o_box rfl⟩, tv⟩ rfl, hF⟩
          ·refine bdE hF (fun y67 hy67 hF => ?_)
           refine callG [] (i_in_c hy67) ⟨mv rfl, mv rfl, mv rfl, tv⟩ tv rfl ?_
           exact ⟨(!y67), entG [0] ⟨mv rfl, mv rfl, mv rfl, mp rfl, mv rfl, mv rfl, mv rfl, mv rfl, tv⟩ ⟨⟨rfl, o_box rfl⟩, tv⟩ rfl, hF⟩
def i_isPlace (a0 : Int) : Option (Bool) :=
 (i_isServer a0).bind (fun y1 => cond y1 (some true) ((i_isClient (w64 (a0 - 100))).bind (fun y2 => some y2)))
theorem i_isPlace_c {a0 : Int} {r : Bool} (hF : i_isPlace a0 = some r) : Con Tryz.prog 178 [vint .i64 a0] [] (vbool r) [] := by
 refine Con.of_Dz tabOk Tryz.func178 rfl rfl rfl ?_
 delta i_isPlace at hF
 refine Dz.seq (Dz.reg (Dz.seq (Dz.reg ?_)))
 refine bdE hF (fun y1 hy1 hF => ?_)
 refine callG [] (i_isServer_c hy1) ⟨mv rfl, tv⟩ tv rfl ?_
 refine vif hF (fun _ hF => ?_) (fun _ hF => ?_)
 ·refine Dz.ret ?_
  cases hF
  exact finG [] [] rfl rfl (mv rfl) tv rfl
 ·refine vw64 ?_
  refine bdE hF (fun y2 hy2 hF => ?_)
  refine callG [] (i_isClient_c hy2) ⟨mv rfl, tv⟩ tv rfl ?_
  refine Dz.ret ?_
  cases hF
  exact finG [] [] rfl rfl (mv rfl) tv rfl
def i_piecesNumbers (a0 : (List BlkPiece)) : Option ((List Int)) :=
 loopN (fun i3 (v8 : List Int) κ9 => lt (a0.getD i3 default) (fun x10 => ck ((v8.length + 4) * 8 ≤ 140737488355328) (κ9 (v8 ++ ([x10.Disk, x10.Block, x10.Epoch, x10.Data] : List Int))))) (fun (v8 : List Int) => some v8) a0.length 0 ([((a0.length : Nat) : Int)] : List Int)
theorem i_piecesNumbers_c {t0_0 : Bool} {a0 : (List BlkPiece)} {r : (List Int)} (hF : i_piecesNumbers a0 = some r) : Con Tryz.prog 78 [.val false [.u (ul BlkPiece.c 4 t0_0 a0)]] [] (.val false [.row 0]) [.row 3 r.length 1 (gl cInt r)] := by
 refine Con.of_Dz tabOk Tryz.func78 rfl rfl rfl ?_
 delta i_piecesNumbers at hF
 refine Dz.seq (Dz.reg (Dz.seq (Dz.reg ?_)))
 intro hb1; replace hb1 : a0.length ≤ 140737488355328 := hb1
 refine Dz.row 0 ([((a0.length : Nat) : Int)] : List Int).length (gl cInt ([((a0.length : Nat) : Int)] : List Int)) rfl (by simp <;> omega) (EqG.lit (c := cInt) (sz := 1) (L := ([((a0.length : Nat) : Int)] : List Int)) ⟨lr, tv⟩) ?_
 refine Dz.seq (Dz.seq (Dz.reg ?_))
 intro hb2; replace hb2 : a0.length ≤ 140737488355328 := hb2
 refine Dz.blk ?_
 refine Dz.cnt hF (fun i3 v8 => ([(3, .val false [.row 0]), (9, .val false [.u (ul BlkPiece.c 4 t0_0 a0)]), (10, vint .i64 ((a0.length : Nat) : Int)), (11, vint .i64 ((i3 : Nat) : Int))], [.row 3 v8.length 1 (gl cInt v8)])) (entG [0] ⟨⟨rfl, rfl, tv⟩, mv rfl, mv rfl, mv rfl, tv⟩ ⟨⟨rfl, o_row⟩, tv⟩ rfl) (fun v8 hF => ?_) (fun i3 v8 κ9 hi0i3 hi1i3 hF => ?_)
 ·refine Dz.seq (Dz.reg (Dz.seq ?_))
  refine Dz.ff (b := decide (((0 + a0.length : Nat) : Int) < ((a0.length : Nat) : Int))) rfl (decide_eq_false (by omega)) ?_
  refine Dz.exit (Dz.seq (Dz.reg (Dz.ret ?_)))
  cases hF
  exact finG [] [0] rfl rfl (⟨rfl, rfl, tv⟩) ⟨⟨rfl, o_row⟩, tv⟩ rfl
 ·refine Dz.seq (Dz.reg (Dz.seq ?_))
  refine Dz.tt (b := decide (((i3 : Nat) : Int) < ((a0.length : Nat) : Int))) rfl (decide_eq_true (by omega)) ?_
  refine Dz.skip (Dz.seq (Dz.blk (Dz.seq (Dz.reg ?_))))
  refine vge (n := ((i3 : Nat) : Int)) (hi := (a0.length : Int)) (by omega) (by omega) ?_
  have hF := ltE hF
  refine Dz.reg ?_
  refine vck hF id (fun _ hF => ?_)
  refine Dz.row 2 ([(a0.getD i3 default).Disk, (a0.getD i3 default).Block, (a0.getD i3 default).Epoch, (a0.getD i3 default).Data] : List Int).length (gl cInt ([(a0.getD i3 default).Disk, (a0.getD i3 default).Block, (a0.getD i3 default).Epoch, (a0.getD i3 default).Data] : List Int)) rfl (by simp <;> omega) (EqG.lit (c := cInt) (sz := 1) (L := ([(a0.getD i3 default).Disk, (a0.getD i3 default).Block, (a0.getD i3 default).Epoch, (a0.getD i3 default).Data] : List Int)) ⟨lr, lr, lr, lr, tv⟩) ?_
  refine Dz.row 3 (v8 ++ ([(a0.getD i3 default).Disk, (a0.getD i3 default).Block, (a0.getD i3 default).Epoch, (a0.getD i3 default).Data] : List Int)).length (gl cInt (v8 ++ ([(a0.getD i3 default).Disk, (a0.getD i3 default).Block, (a0.getD i3 default).Epoch, (a0.getD i3 default).Data] : List Int))) rfl (by simp <;> omega) (EqG.app rfl (by simp <;> omega) (EqG.refl _ _ _) (EqG.lit (c := cInt) (sz := 1) (L := ([(a0.getD i3 default).Disk, (a0.getD i3 default).Block, (a0.getD i3 default).Epoch, (a0.getD i3 default).Data] : List Int)) ⟨lr, lr, lr, lr, tv⟩)) ?_
  refine Dz.reg ?_
  refine vsucc (by omega) ?_
  exact ⟨(v8 ++ ([(a0.getD i3 default).Disk, (a0.getD i3 default).Block, (a0.getD i3 default).Epoch, (a0.getD i3 default).Data] : List Int)), entG [3] ⟨⟨rfl, rfl, tv⟩, mv rfl, mv rfl, mv rfl, tv⟩ ⟨⟨rfl, o_row⟩, tv⟩ rfl, hF⟩
def i_lastNumbers (a0 : (List BlkLast)) : Option ((List Int)) :=
 loopN (fun i3 (v8 : List Int) κ9 => lt (a0.getD i3 default) (fun x10 => ck ((v8.length + 2) * 8 ≤ 140737488355328) (κ9 (v8 ++ ([x10.Client, x10.Call] : List Int))))) (fun (v8 : List Int) => some v8) a0.length 0 ([((a0.length : Nat) : Int)] : List Int)
theorem i_lastNumbers_c {t0_0 : Bool} {a0 : (List BlkLast)} {r : (List Int)} (hF : i_lastNumbers a0 = some r) : Con Tryz.prog 79 [.val false [.u (ul BlkLast.c 2 t0_0 a0)]] [] (.val false [.row 0]) [.row 3 r.length 1 (gl cInt r)] := by
 refine Con.of_Dz tabOk Tryz.func79 rfl rfl rfl ?_
 delta i_lastNumbers at hF
 refine Dz.seq (Dz.reg (Dz.seq (Dz.reg ?_)))
 intro hb1; replace hb1 : a0.length ≤ 140737488355328 := hb1
 refine Dz.row 0 ([((a0.length : Nat) : Int)] : List Int).length (gl cInt ([((a0.length : Nat) : Int)] : List Int)) rfl (by simp <;> omega) (EqG.lit (c := cInt) (sz := 1) (L := ([((a0.length : Nat) : Int)] : List Int)) ⟨lr, tv⟩) ?_
 refine Dz.seq (Dz.seq (Dz.reg ?_))
 intro hb2; replace hb2 : a0.length ≤ 140737488355328 := hb2
 refine Dz.blk ?_
 refine Dz.cnt hF (fun i3 v8 => ([(3, .val false [.row 0]), (9, .val false [.u (ul BlkLast.c 2 t0_0 a0)]), (10, vint .i64 ((a0.length : Nat) : Int)), (11, vint .i64 ((i3 : Nat) : Int))], [.row 3 v8.length 1 (gl cInt v8)])) (entG [0] ⟨⟨rfl, rfl, tv⟩, mv rfl, mv rfl, mv rfl, tv⟩ ⟨⟨rfl, o_row⟩, tv⟩ rfl) (fun v8 hF => ?_) (fun i3 v8 κ9 hi0i3 hi1i3 hF => ?_)
 ·refine Dz.seq (Dz.reg (Dz.seq ?_))
  refine Dz.ff (b := decide (((0 + a0.length : Nat) : Int) < ((a0.length : Nat) : Int))) rfl (decide_eq_false (by omega)) ?_
  refine Dz.exit (Dz.seq (Dz.reg (Dz.ret ?_)))
  cases hF
  exact finG [] [0] rfl rfl (⟨rfl, rfl, tv⟩) ⟨⟨rfl, o_row⟩, tv⟩ rfl
 ·refine Dz.seq (Dz.reg (Dz.seq ?_))
  refine Dz.tt (b := decide (((i3 : Nat) : Int) < ((a0.length : Nat) : Int))) rfl (decide_eq_true (by omega)) ?_
  refine Dz.skip (Dz.seq (Dz.blk (Dz.seq (Dz.reg ?_))))
  refine vge (n := ((i3 : Nat) : Int)) (hi := (a0.length : Int)) (by omega) (by omega) ?_
  have hF := ltE hF
  refine Dz.reg ?_
  refine vck hF id (fun _ hF => ?_)
  refine Dz.row 2 ([(a0.getD i3 default).Client, (a0.getD i3 default).Call] : List Int).length (gl cInt ([(a0.getD i3 default).Client, (a0.getD i3 default).Call] : List Int)) rfl (by simp <;> omega) (EqG.lit (c := cInt) (sz := 1) (L := ([(a0.getD i3 default).Client, (a0.getD i3 default).Call] : List Int)) ⟨lr, lr, tv⟩) ?_
  refine Dz.row 3 (v8 ++ ([(a0.getD i3 default).Client, (a0.getD i3 default).Call] : List Int)).length (gl cInt (v8 ++ ([(a0.getD i3 default).Client, (a0.getD i3 default).Call] : List Int))) rfl (by simp <;> omega) (EqG.app rfl (by simp <;> omega) (EqG.refl _ _ _) (EqG.lit (c := cInt) (sz := 1) (L := ([(a0.getD i3 default).Client, (a0.getD i3 default).Call] : List Int)) ⟨lr, lr, tv⟩)) ?_
  refine Dz.reg ?_
  refine vsucc (by omega) ?_
  exact ⟨(v8 ++ ([(a0.getD i3 default).Client, (a0.getD i3 default).Call] : List Int)), entG [3] ⟨⟨rfl, rfl, tv⟩, mv rfl, mv rfl, mv rfl, tv⟩ ⟨⟨rfl, o_row⟩, tv⟩ rfl, hF⟩
def i_wordNumbers (a0 : Word) : Option ((List Int)) :=
 (i_cmdNumbers a0.Cmd).bind (fun y1 => ck ((([a0.Kind, a0.From, a0.To, a0.Ballot, a0.Slot, a0.Was] : List Int).length + y1.length) * 8 ≤ 140737488355328) (ck (((([a0.Kind, a0.From, a0.To, a0.Ballot, a0.Slot, a0.Was] : List Int) ++ y1).length + 8) * 8 ≤ 140737488355328) ((i_piecesNumbers a0.Pieces).bind (fun y2 => ck ((((([a0.Kind, a0.From, a0.To, a0.Ballot, a0.Slot, a0.Was] : List Int) ++ y1) ++ ([a0.Range, a0.View, a0.Client, a0.Call, a0.Disk, a0.Block, a0.Epoch, a0.Data] : List Int)).length + y2.length) * 8 ≤ 140737488355328) ((i_lastNumbers a0.Last).bind (fun y3 => ck (((((([a0.Kind, a0.From, a0.To, a0.Ballot, a0.Slot, a0.Was] : List Int) ++ y1) ++ ([a0.Range, a0.View, a0.Client, a0.Call, a0.Disk, a0.Block, a0.Epoch, a0.Data] : List Int)) ++ y2).length + y3.length) * 8 ≤ 140737488355328) (some ((((([a0.Kind, a0.From, a0.To, a0.Ballot, a0.Slot, a0.Was] : List Int) ++ y1) ++ ([a0.Range, a0.View, a0.Client, a0.Call, a0.Disk, a0.Block, a0.Epoch, a0.Data] : List Int)) ++ y2) ++ y3))))))))
theorem i_wordNumbers_c {t0_24 t0_25 : Bool} {a0 : Word} {r : (List Int)} (hF : i_wordNumbers a0 = some r) : Con Tryz.prog 182 [.val true [.u (cI a0.Kind), .u (cI a0.From), .u (cI a0.To), .u (cI a0.Ballot), .u (cI a0.Slot), .u (cI a0.Was), .u (cI a0.Cmd.Kind), .u (cI a0.Cmd.Client), .u (cI a0.Cmd.Call), .u (cI a0.Cmd.Disk), .u (cI a0.Cmd.Arg), .u (cI a0.Cmd.Epoch), .u (cI a0.Cmd.Range), .u (cI a0.Cmd.Num), .u (cI a0.Cmd.A), .u (cI a0.Cmd.B), .u (cI a0.Range), .u (cI a0.View), .u (cI a0.Client), .u (cI a0.Call), .u (cI a0.Disk), .u (cI a0.Block), .u (cI a0.Epoch), .u (cI a0.Data), .u (ul BlkPiece.c 4 t0_24 a0.Pieces), .u (ul BlkLast.c 2 t0_25 a0.Last)]] [] (.val false [.row 0]) [.row 3 r.length 1 (gl cInt r)] := by
 refine Con.of_Dz tabOk Tryz.func182 rfl rfl rfl ?_
 delta i_wordNumbers at hF
 refine Dz.seq (Dz.reg (Dz.seq (Dz.reg ?_)))
 refine Dz.row 1 ([a0.Kind, a0.From, a0.To, a0.Ballot, a0.Slot, a0.Was] : List Int).length (gl cInt ([a0.Kind, a0.From, a0.To, a0.Ballot, a0.Slot, a0.Was] : List Int)) rfl (by simp <;> omega) (EqG.lit (c := cInt) (sz := 1) (L := ([a0.Kind, a0.From, a0.To, a0.Ballot, a0.Slot, a0.Was] : List Int)) ⟨lr, lr, lr, lr, lr, lr, tv⟩) ?_
 refine Dz.seq (Dz.reg ?_)
 refine bdE hF (fun y1 hy1 hF => ?_)
 refine callG [] (i_cmdNumbers_c hy1) ⟨mv rfl, tv⟩ tv rfl ?_
 refine vck hF id (fun _ hF => ?_)
 refine Dz.row 3 (([a0.Kind, a0.From, a0.To, a0.Ballot, a0.Slot, a0.Was] : List Int) ++ y1).length (gl cInt (([a0.Kind, a0.From, a0.To, a0.Ballot, a0.Slot, a0.Was] : List Int) ++ y1)) rfl (by simp <;> omega) (EqG.app rfl rfl (EqG.refl _ _ _) (EqG.refl _ _ _)) ?_
 refine Dz.seq (Dz.reg ?_)
 refine vck hF id (fun _ hF => ?_)
 refine Dz.row 4 ([a0.Range, a0.View, a0.Client, a0.Call, a0.Disk, a0.Block, a0.Epoch, a0.Data] : List Int).length (gl cInt ([a0.Range, a0.View, a0.Client, a0.Call, a0.Disk, a0.Block, a0.Epoch, a0.Data] : List Int)) rfl (by simp <;> omega) (EqG.lit (c := cInt) (sz := 1) (L := ([a0.Range, a0.View, a0.Client, a0.Call, a0.Disk, a0.Block, a0.Epoch, a0.Data] : List Int)) ⟨lr, lr, lr, lr, lr, lr, lr, lr, tv⟩) ?_
 refine Dz.row 5 ((([a0.Kind, a0.From, a0.To, a0.Ballot, a0.Slot, a0.Was] : List Int) ++ y1) ++ ([a0.Range, a0.View, a0.Client, a0.Call, a0.Disk, a0.Block, a0.Epoch, a0.Data] : List Int)).length (gl cInt ((([a0.Kind, a0.From, a0.To, a0.Ballot, a0.Slot, a0.Was] : List Int) ++ y1) ++ ([a0.Range, a0.View, a0.Client, a0.Call, a0.Disk, a0.Block, a0.Epoch, a0.Data] : List Int))) rfl (by simp <;> omega) (EqG.app rfl (by simp <;> omega) (EqG.refl _ _ _) (EqG.lit (c := cInt) (sz := 1) (L := ([a0.Range, a0.View, a0.Client, a0.Call, a0.Disk, a0.Block, a0.Epoch, a0.Data] : List Int)) ⟨lr, lr, lr, lr, lr, lr, lr, lr, tv⟩)) ?_
 refine Dz.seq (Dz.reg ?_)
 refine bdE hF (fun y2 hy2 hF => ?_)
 refine callG [] (i_piecesNumbers_c hy2) ⟨mv rfl, tv⟩ tv rfl ?_
 refine vck hF id (fun _ hF => ?_)
 refine Dz.row 7 (((([a0.Kind, a0.From, a0.To, a0.Ballot, a0.Slot, a0.Was] : List Int) ++ y1) ++ ([a0.Range, a0.View, a0.Client, a0.Call, a0.Disk, a0.Block, a0.Epoch, a0.Data] : List Int)) ++ y2).length (gl cInt (((([a0.Kind, a0.From, a0.To, a0.Ballot, a0.Slot, a0.Was] : List Int) ++ y1) ++ ([a0.Range, a0.View, a0.Client, a0.Call, a0.Disk, a0.Block, a0.Epoch, a0.Data] : List Int)) ++ y2)) rfl (by simp <;> omega) (EqG.app rfl rfl (EqG.refl _ _ _) (EqG.refl _ _ _)) ?_
 refine Dz.seq (Dz.reg ?_)
 refine bdE hF (fun y3 hy3 hF => ?_)
 refine callG [] (i_lastNumbers_c hy3) ⟨mv rfl, tv⟩ tv rfl ?_
 refine vck hF id (fun _ hF => ?_)
 refine Dz.ret ?_
 cases hF
 exact finG [] [9] rfl rfl (⟨rfl, rfl, tv⟩) ⟨⟨rfl, o_rowE (by simp <;> omega) (EqG.app rfl rfl (EqG.refl _ _ _) (EqG.refl _ _ _))⟩, tv⟩ rfl
def i_WordOk (a0 : Word) : Option (Bool) :=
 (i_in a0.Kind 1 15).bind (fun y1 => cond y1 ((i_isPlace a0.From).bind (fun y2 => cond y2 ((i_isPlace a0.To).bind (fun y3 => cond y3 ((i_cmdOk a0.Cmd).bind (fun y4 => cond y4 ((i_BlkOk a0.Pieces).bind (fun y5 => cond y5 ((i_lastOk a0.Last).bind (fun y6 => cond y6 ((i_wordNumbers a0).bind (fun y7 => (i_numbersOk y7).bind (fun y8 => some y8))) (some false))) (some false))) (some false))) (some false))) (some false))) (some false))
theorem i_WordOk_c {t0_24 t0_25 : Bool} {a0 : Word} {r : Bool} (hF : i_WordOk a0 = some r) : Con Tryz.prog 104 [.val true [.u (cI a0.Kind), .u (cI a0.From), .u (cI a0.To), .u (cI a0.Ballot), .u (cI a0.Slot), .u (cI a0.Was), .u (cI a0.Cmd.Kind), .u (cI a0.Cmd.Client), .u (cI a0.Cmd.Call), .u (cI a0.Cmd.Disk), .u (cI a0.Cmd.Arg), .u (cI a0.Cmd.Epoch), .u (cI a0.Cmd.Range), .u (cI a0.Cmd.Num), .u (cI a0.Cmd.A), .u (cI a0.Cmd.B), .u (cI a0.Range), .u (cI a0.View), .u (cI a0.Client), .u (cI a0.Call), .u (cI a0.Disk), .u (cI a0.Block), .u (cI a0.Epoch), .u (cI a0.Data), .u (ul BlkPiece.c 4 t0_24 a0.Pieces), .u (ul BlkLast.c 2 t0_25 a0.Last)]] [] (vbool r) [] := by
 refine Con.of_Dz tabOk Tryz.func104 rfl rfl rfl ?_
 delta i_WordOk at hF
 refine Dz.seq (Dz.reg (Dz.seq (Dz.reg ?_)))
 refine bdE hF (fun y1 hy1 hF => ?_)
 refine callG [] (i_in_c hy1) ⟨mv rfl, mv rfl, mv rfl, tv⟩ tv rfl ?_
 refine vif hF (fun _ hF => ?_) (fun _ hF => ?_)
 ·refine bdE hF (fun y2 hy2 hF => ?_)
  refine callG [] (i_isPlace_c hy2) ⟨mv rfl, tv⟩ tv rfl ?_
  refine vif hF (fun _ hF => ?_) (fun _ hF => ?_)
  ·refine bdE hF (fun y3 hy3 hF => ?_)
   refine callG [] (i_isPlace_c hy3) ⟨mv rfl, tv⟩ tv rfl ?_
   refine vif hF (fun _ hF => ?_) (fun _ hF => ?_)
   ·refine bdE hF (fun y4 hy4 hF => ?_)
    refine callG [] (i_cmdOk_c hy4) ⟨mv rfl, tv⟩ tv rfl ?_
    refine vif hF (fun _ hF => ?_) (fun _ hF => ?_)
    ·refine bdE hF (fun y5 hy5 hF => ?_)
     refine callG [] (i_BlkOk_c hy5) ⟨mv rfl, tv⟩ tv rfl ?_
     refine vif hF (fun _ hF => ?_) (fun _ hF => ?_)
     ·refine bdE hF (fun y6 hy6 hF => ?_)
      refine callG [] (i_lastOk_c hy6) ⟨mv rfl, tv⟩ tv rfl ?_
      refine vif hF (fun _ hF => ?_) (fun _ hF => ?_)
      ·refine bdE hF (fun y7 hy7 hF => ?_)
       refine callG [] (i_wordNumbers_c hy7) ⟨mv rfl, tv⟩ tv rfl ?_
       refine bdE hF (fun y8 hy8 hF => ?_)
       refine callL [] (i_numbersOk_c hy8) ⟨⟨rfl, ⟨rfl, rfl, lr⟩, tv⟩, tv⟩ tv rfl ⟨⟨tv, tv⟩, tv⟩ ?_
       refine Dz.ret ?_
       cases hF
       exact finG [] [] rfl rfl (mv rfl) tv rfl
      ·refine Dz.ret ?_
       cases hF
       exact finG [] [] rfl rfl (mv rfl) tv rfl
     ·refine Dz.ret ?_
      cases hF
      exact finG [] [] rfl rfl (mv rfl) tv rfl
    ·refine Dz.ret ?_
     cases hF
     exact finG [] [] rfl rfl (mv rfl) tv rfl
   ·refine Dz.ret ?_
    cases hF
    exact finG [] [] rfl rfl (mv rfl) tv rfl
  ·refine Dz.ret ?_
   cases hF
   exact finG [] [] rfl rfl (mv rfl) tv rfl
 ·refine Dz.ret ?_
  cases hF
  exact finG [] [] rfl rfl (mv rfl) tv rfl
def i_PanOk (a0 : PanWorld) : Option (Bool) :=
 (i_in a0.Time 0 99999).bind (fun y1 => cond (!y1) (some false) (cond (!decide (((a0.Servers.length : Nat) : Int) = 5)) (some false) (cond (decide ((60 : Int) < ((a0.Radio.length : Nat) : Int))) (some false) ((i_callsOk a0.Calls a0.Time).bind (fun y4 => cond (!y4) (some false) (loopN (fun i6 (v9 : Unit) κ10 => lt (a0.Servers.getD i6 default) (fun x11 => cond (!decide (x11.Id = ((i6 : Nat) : Int))) (some false) ((i_SrvOk x11).bind (fun y12 => cond (!y12) (some false) (κ10 ()))))) (fun (v9 : Unit) => loopN (fun i14 (v17 : Unit) κ18 => lt (a0.Radio.getD i14 default) (fun x19 => (i_WordOk x19).bind (fun y20 => cond (!y20) (some false) (κ18 ())))) (fun (v17 : Unit) => some true) a0.Radio.length 0 ()) a0.Servers.length 0 ()))))))
theorem i_PanOk_c {t0_1 t0_2 t0_3 : Bool} {a0 : PanWorld} {r : Bool} (hF : i_PanOk a0 = some r) : Con Tryz.prog 40 [.val true [.u (cI a0.Time), .u (ul Server.c 36 t0_1 a0.Servers), .u (ul Word.c 26 t0_2 a0.Radio), .u (ul PanCall.c 12 t0_3 a0.Calls)]] [] (vbool r) [] := by
 refine Con.of_Dz tabOk Tryz.func40 rfl rfl rfl ?_
 delta i_PanOk at hF
 refine Dz.seq (Dz.reg (Dz.seq (Dz.seq (Dz.reg ?_))))
 refine bdE hF (fun y1 hy1 hF => ?_)
 refine callG [] (i_in_c hy1) ⟨mv rfl, mv rfl, mv rfl, tv⟩ tv rfl ?_
 refine vif hF (fun _ hF => ?_) (fun _ hF => ?_)
 ·refine Dz.tt (b := true) rfl rfl ?_
  refine Dz.seq (Dz.reg (Dz.ret ?_))
  cases hF
  exact finG [] [] rfl rfl (mv rfl) tv rfl
 ·intro hb2; replace hb2 : a0.Servers.length ≤ 140737488355328 := hb2
  refine vif hF (fun _ hF => ?_) (fun _ hF => ?_)
  ·refine Dz.tt (b := true) rfl rfl ?_
   refine Dz.seq (Dz.reg (Dz.ret ?_))
   cases hF
   exact finG [] [] rfl rfl (mv rfl) tv rfl
  ·intro hb3; replace hb3 : a0.Radio.length ≤ 140737488355328 := hb3
   refine vif hF (fun _ hF => ?_) (fun _ hF => ?_)
   ·refine Dz.tt (b := true) rfl rfl ?_
    refine Dz.seq (Dz.reg (Dz.ret ?_))
    cases hF
    exact finG [] [] rfl rfl (mv rfl) tv rfl
   ·refine bdE hF (fun y4 hy4 hF => ?_)
    refine callG [] (i_callsOk_c hy4) ⟨mv rfl, mv rfl, tv⟩ tv rfl ?_
    refine Dz.ite rfl hF (fun _ hF => ?_) (fun _ hF => ?_)
    ·refine Dz.seq (Dz.reg (Dz.ret ?_))
     cases hF
     exact finG [] [] rfl rfl (mv rfl) tv rfl
    ·refine Dz.skip (Dz.seq (Dz.seq (Dz.reg ?_)))
     intro hb5; replace hb5 : a0.Servers.length ≤ 140737488355328 := hb5
     refine Dz.blk ?_
     refine Dz.cnt hF (fun i6 v9 => ([(1, .ptr 0 0), (32, .val false [.u (ul Server.c 36 t0_1 a0.Servers)]), (33, vint .i64 ((a0.Servers.length : Nat) : Int)), (34, vint .i64 ((i6 : Nat) : Int))], [.box 33 [.u (cI a0.Time), .u (ul Server.c 36 t0_1 a0.Servers), .u (ul Word.c 26 t0_2 a0.Radio), .u (ul PanCall.c 12 t0_3 a0.Calls)]])) (entG [0] ⟨mp rfl, mv rfl, mv rfl, mv rfl, tv⟩ ⟨⟨rfl, o_box rfl⟩, tv⟩ rfl) (fun v9 hF => ?_) (fun i6 v9 κ10 hi0i6 hi1i6 hF => ?_)
     ·refine Dz.seq (Dz.reg (Dz.seq ?_))
      refine Dz.ff (b := decide (((0 + a0.Servers.length : Nat) : Int) < ((a0.Servers.length : Nat) : Int))) rfl (decide_eq_false (by omega)) ?_
      refine Dz.exit (Dz.seq (Dz.seq (Dz.reg ?_)))
      intro hb13; replace hb13 : a0.Radio.length ≤ 140737488355328 := hb13
      refine Dz.blk ?_
      refine Dz.cnt hF (fun i14 v17 => ([(50, .val false [.u (ul Word.c 26 t0_2 a0.Radio)]), (51, vint .i64 ((a0.Radio.length : Nat) : Int)), (52, vint .i64 ((i14 : Nat) : Int))], [])) (entG [] ⟨mv rfl, mv rfl, mv rfl, tv⟩ tv rfl) (fun v17 hF => ?_) (fun i14 v17 κ18 hi0i14 hi1i14 hF => ?_)
      ·refine Dz.seq (Dz.reg (Dz.seq ?_))
       refine Dz.ff (b := decide (((0 + a0.Radio.length : Nat) : Int) < ((a0.Radio.length : Nat) : Int))) rfl (decide_eq_false (by omega)) ?_
       refine Dz.exit (Dz.seq (Dz.reg (Dz.ret ?_)))
       cases hF
       exact finG [] [] rfl rfl (mv rfl) tv rfl
      ·refine Dz.seq (Dz.reg (Dz.seq ?_))
       refine Dz.tt (b := decide (((i14 : Nat) : Int) < ((a0.Radio.length : Nat) : Int))) rfl (decide_eq_true (by omega)) ?_
       refine Dz.skip (Dz.seq (Dz.blk (Dz.seq (Dz.reg ?_))))
       refine vge (n := ((i14 : Nat) : Int)) (hi := (a0.Radio.length : Int)) (by omega) (by omega) ?_
       have hF := ltE hF
       refine Dz.seq (Dz.reg ?_)
       refine bdE hF (fun y20 hy20 hF => ?_)
       refine callG [] (i_WordOk_c hy20) ⟨mv rfl, tv⟩ tv rfl ?_
       refine Dz.ite rfl hF (fun _ hF => ?_) (fun _ hF => ?_)
       ·refine Dz.seq (Dz.reg (Dz.ret ?_))
        cases hF
        exact finG [] [] rfl rfl (mv rfl) tv rfl
       ·refine Dz.skip (Dz.reg ?_)
        refine vsucc (by omega) ?_
        exact ⟨(), entG [] ⟨mv rfl, mv rfl, mv rfl, tv⟩ tv rfl, hF⟩
     ·refine Dz.seq (Dz.reg (Dz.seq ?_))
      refine Dz.tt (b := decide (((i6 : Nat) : Int) < ((a0.Servers.length : Nat) : Int))) rfl (decide_eq_true (by omega)) ?_
      refine Dz.skip (Dz.seq (Dz.blk (Dz.seq (Dz.reg ?_))))
      refine vge (n := ((i6 : Nat) : Int)) (hi := (a0.Servers.length : Int)) (by omega) (by omega) ?_
      have hF := ltE hF
      refine Dz.seq (Dz.reg ?_)
      refine vif hF (fun _ hF => ?_) (fun _ hF => ?_)
      ·refine Dz.tt (b := true) rfl rfl ?_
       refine Dz.seq (Dz.reg (Dz.ret ?_))
       cases hF
       exact finG [] [] rfl rfl (mv rfl) tv rfl
      ·refine bdE hF (fun y12 hy12 hF => ?_)
       refine callG [] (i_SrvOk_c hy12) ⟨mv rfl, tv⟩ tv rfl ?_
       refine Dz.ite rfl hF (fun _ hF => ?_) (fun _ hF => ?_)
       ·refine Dz.seq (Dz.reg (Dz.ret ?_))
        cases hF
        exact finG [] [] rfl rfl (mv rfl) tv rfl
       ·refine Dz.skip (Dz.reg ?_)
        refine vsucc (by omega) ?_
        exact ⟨(), entG [0] ⟨mp rfl, mv rfl, mv rfl, mv rfl, tv⟩ ⟨⟨rfl, o_box rfl⟩, tv⟩ rfl, hF⟩
def i_longest (a0 : PanWorld) : Option ((List Cmd)) :=
 ix a0.Servers 0 (fun x1 => loopN (fun i3 (v12 : List Cmd) κ13 => lt (a0.Servers.getD i3 default) (fun x14 => cond (decide (((v12.length : Nat) : Int) < ((x14.Log.length : Nat) : Int))) (κ13 x14.Log) (κ13 v12))) (fun (v12 : List Cmd) => some v12) a0.Servers.length 0 x1.Log)
theorem i_longest_c {t0_1 t0_2 t0_3 : Bool} {a0 : PanWorld} {r : (List Cmd)} (hF : i_longest a0 = some r) : Con Tryz.prog 43 [.val true [.u (cI a0.Time), .u (ul Server.c 36 t0_1 a0.Servers), .u (ul Word.c 26 t0_2 a0.Radio), .u (ul PanCall.c 12 t0_3 a0.Calls)]] [] (.val false [.u (ul Cmd.c 10 false r)]) [] := by
 refine Con.of_Dz tabOk Tryz.func43 rfl rfl rfl ?_
 delta i_longest at hF
 refine Dz.seq (Dz.reg (Dz.seq (Dz.reg ?_)))
 refine vix hF (fun _ _ hF => ?_)
 refine Dz.seq (Dz.seq (Dz.reg ?_))
 intro hb2; replace hb2 : a0.Servers.length ≤ 140737488355328 := hb2
 refine Dz.blk ?_
 refine Dz.cnt hF (fun i3 v12 => ([(3, .val false [.u (ul Cmd.c 10 false v12)]), (12, .val false [.u (ul Server.c 36 t0_1 a0.Servers)]), (13, vint .i64 ((a0.Servers.length : Nat) : Int)), (14, vint .i64 ((i3 : Nat) : Int))], [])) (entG [] ⟨mv rfl, mv rfl, mv rfl, mv rfl, tv⟩ tv rfl) (fun v12 hF => ?_) (fun i3 v12 κ13 hi0i3 hi1i3 hF => ?_)
 ·refine Dz.seq (Dz.reg (Dz.seq ?_))
  refine Dz.ff (b := decide (((0 + a0.Servers.length : Nat) : Int) < ((a0.Servers.length : Nat) : Int))) rfl (decide_eq_false (by omega)) ?_
  refine Dz.exit (Dz.seq (Dz.reg (Dz.ret ?_)))
  cases hF
  exact finG [] [] rfl rfl (mv rfl) tv rfl
 ·refine Dz.seq (Dz.reg (Dz.seq ?_))
  refine Dz.tt (b := decide (((i3 : Nat) : Int) < ((a0.Servers.length : Nat) : Int))) rfl (decide_eq_true (by omega)) ?_
  refine Dz.skip (Dz.seq (Dz.blk (Dz.seq (Dz.reg ?_))))
  refine vge (n := ((i3 : Nat) : Int)) (hi := (a0.Servers.length : Int)) (by omega) (by omega) ?_
  have hF := ltE hF
  refine Dz.seq (Dz.reg ?_)
  intro hb15; replace hb15 : (a0.Servers.getD i3 default).Log.length ≤ 140737488355328 := hb15
  intro hb16; replace hb16 : v12.length ≤ 140737488355328 := hb16
  refine Dz.ite rfl hF (fun _ hF => ?_) (fun _ hF => ?_)
  ·refine Dz.reg (Dz.reg ?_)
   refine vsucc (by omega) ?_
   exact ⟨((a0.Servers.getD i3 default).Log), entG [] ⟨mv rfl, mv rfl, mv rfl, mv rfl, tv⟩ tv rfl, hF⟩
  ·refine Dz.skip (Dz.reg ?_)
   refine vsucc (by omega) ?_
   exact ⟨v12, entG [] ⟨mv rfl, mv rfl, mv rfl, mv rfl, tv⟩ tv rfl, hF⟩
def i_logsAgree (a0 : PanWorld) : Option (Bool) :=
 (i_longest a0).bind (fun y1 => loopN (fun i3 (v13 : Unit) κ14 => lt (a0.Servers.getD i3 default) (fun x15 => loopN (fun i17 (v20 : Unit) κ21 => lt (x15.Log.getD i17 default) (fun x22 => ix y1 ((i17 : Nat) : Int) (fun x23 => cond (!decide (x22 = x23)) (some false) (κ21 ())))) (fun (v20 : Unit) => κ14 ()) x15.Log.length 0 ())) (fun (v13 : Unit) => some true) a0.Servers.length 0 ())
theorem i_logsAgree_c {t0_1 t0_2 t0_3 : Bool} {a0 : PanWorld} {r : Bool} (hF : i_logsAgree a0 = some r) : Con Tryz.prog 41 [.val true [.u (cI a0.Time), .u (ul Server.c 36 t0_1 a0.Servers), .u (ul Word.c 26 t0_2 a0.Radio), .u (ul PanCall.c 12 t0_3 a0.Calls)]] [] (vbool r) [] := by
 refine Con.of_Dz tabOk Tryz.func41 rfl rfl rfl ?_
 delta i_logsAgree at hF
 refine Dz.seq (Dz.reg (Dz.seq (Dz.reg ?_)))
 refine bdE hF (fun y1 hy1 hF => ?_)
 refine callG [] (i_longest_c hy1) ⟨mv rfl, tv⟩ tv rfl ?_
 refine Dz.seq (Dz.seq (Dz.reg ?_))
 intro hb2; replace hb2 : a0.Servers.length ≤ 140737488355328 := hb2
 refine Dz.blk ?_
 refine Dz.cnt hF (fun i3 v13 => ([(3, .val false [.u (ul Cmd.c 10 false y1)]), (11, .val false [.u (ul Server.c 36 t0_1 a0.Servers)]), (12, vint .i64 ((a0.Servers.length : Nat) : Int)), (13, vint .i64 ((i3 : Nat) : Int))], [])) (entG [] ⟨mv rfl, mv rfl, mv rfl, mv rfl, tv⟩ tv rfl) (fun v13 hF => ?_) (fun i3 v13 κ14 hi0i3 hi1i3 hF => ?_)
 ·refine Dz.seq (Dz.reg (Dz.seq ?_))
  refine Dz.ff (b := decide (((0 + a0.Servers.length : Nat) : Int) < ((a0.Servers.length : Nat) : Int))) rfl (decide_eq_false (by omega)) ?_
  refine Dz.exit (Dz.seq (Dz.reg (Dz.ret ?_)))
  cases hF
  exact finG [] [] rfl rfl (mv rfl) tv rfl
 ·refine Dz.seq (Dz.reg (Dz.seq ?_))
  refine Dz.tt (b := decide (((i3 : Nat) : Int) < ((a0.Servers.length : Nat) : Int))) rfl (decide_eq_true (by omega)) ?_
  refine Dz.skip (Dz.seq (Dz.blk (Dz.seq (Dz.reg ?_))))
  refine vge (n := ((i3 : Nat) : Int)) (hi := (a0.Servers.length : Int)) (by omega) (by omega) ?_
  have hF := ltE hF
  refine Dz.seq (Dz.reg ?_)
  intro hb16; replace hb16 : (a0.Servers.getD i3 default).Log.length ≤ 140737488355328 := hb16
  refine Dz.blk ?_
  refine Dz.cnt hF (fun i17 v20 => ([(3, .val false [.u (ul Cmd.c 10 false y1)]), (11, .val false [.u (ul Server.c 36 t0_1 a0.Servers)]), (12, vint .i64 ((a0.Servers.length : Nat) : Int)), (13, vint .i64 ((i3 : Nat) : Int)), (18, .val false [.u (ul Cmd.c 10 false ((a0.Servers.getD i3 default).Log))]), (19, vint .i64 (((a0.Servers.getD i3 default).Log.length : Nat) : Int)), (20, vint .i64 ((i17 : Nat) : Int))], [])) (entG [] ⟨mv rfl, mv rfl, mv rfl, mv rfl, mv rfl, mv rfl, mv rfl, tv⟩ tv rfl) (fun v20 hF => ?_) (fun i17 v20 κ21 hi0i17 hi1i17 hF => ?_)
  ·refine Dz.seq (Dz.reg (Dz.seq ?_))
   refine Dz.ff (b := decide (((0 + (a0.Servers.getD i3 default).Log.length : Nat) : Int) < (((a0.Servers.getD i3 default).Log.length : Nat) : Int))) rfl (decide_eq_false (by omega)) ?_
   refine Dz.exit (Dz.reg ?_)
   refine vsucc (by omega) ?_
   exact ⟨(), entG [] ⟨mv rfl, mv rfl, mv rfl, mv rfl, tv⟩ tv rfl, hF⟩
  ·refine Dz.seq (Dz.reg (Dz.seq ?_))
   refine Dz.tt (b := decide (((i17 : Nat) : Int) < (((a0.Servers.getD i3 default).Log.length : Nat) : Int))) rfl (decide_eq_true (by omega)) ?_
   refine Dz.skip (Dz.seq (Dz.blk (Dz.seq (Dz.reg ?_))))
   refine vge (n := ((i17 : Nat) : Int)) (hi := (((a0.Servers.getD i3 default).Log).length : Int)) (by omega) (by omega) ?_
   have hF := ltE hF
   refine Dz.seq ?_
   refine Dz.drw 1 [⟨[26,27,28,29], [0], 1, 1⟩, ⟨[25,27], [], 1, 1⟩, ⟨[25,26], [], 1, 1⟩, ⟨[25], [], 1, 1⟩, ⟨[25], [], 1, 1⟩, ⟨[], [], 1, 1⟩] ⟨by kernel_rfl, by kernel_rfl, rfl⟩ ?_
   refine vix hF (fun _ _ hF => ?_)
   refine ⟨decide (((a0.Servers.getD i3 default).Log.getD i17 default) = (y1.getD i17 default)), Cmd.eqd _ _, ?_⟩
   refine Dz.ite rfl hF (fun _ hF => ?_) (fun _ hF => ?_)
   ·refine Dz.seq (Dz.reg (Dz.ret ?_))
    cases hF
    exact finG [] [] rfl rfl (mv rfl) tv rfl
   ·refine Dz.skip (Dz.reg ?_)
    refine vsucc (by omega) ?_
    exact ⟨(), entG [] ⟨mv rfl, mv rfl, mv rfl, mv rfl, mv rfl, mv rfl, mv rfl, tv⟩ tv rfl, hF⟩
def i_copied_int (a0 : (List Int)) : Option ((List Int)) :=
 cond (decide (((a0.length : Nat) : Int) = 0)) (some ([] : List Int)) (ck (0 ≤ ((a0.length : Nat) : Int) ∧ ((a0.length : Nat) : Int) * 8 ≤ 140737488355328) (some (cpy (List.replicate a0.length (0 : Int)) a0)))
theorem i_copied_int_c {t0_0 : Bool} {a0 : (List Int)} {r : (List Int)} (hF : i_copied_int a0 = some r) : Con Tryz.prog 80 [.val false [.u (ul cInt 1 t0_0 a0)]] [] (.val false [.row 0]) [.row 3 r.length 1 (gl cInt r)] := by
 refine Con.of_Dz tabOk Tryz.func80 rfl rfl rfl ?_
 delta i_copied_int at hF
 refine Dz.seq (Dz.reg (Dz.seq (Dz.seq (Dz.reg ?_))))
 intro hb1; replace hb1 : a0.length ≤ 140737488355328 := hb1
 refine Dz.ite rfl hF (fun _ hF => ?_) (fun _ hF => ?_)
 ·refine Dz.seq (Dz.reg (Dz.ret ?_))
  cases hF
  exact finG [.slot 2 3 1] [0] rfl rfl (⟨rfl, rfl, tv⟩) ⟨⟨rfl, o_rowE (by simp <;> omega) EqG.nilr⟩, tv⟩ rfl
 ·refine Dz.skip (Dz.seq (Dz.reg ?_))
  intro hb2; replace hb2 : a0.length ≤ 140737488355328 := hb2
  refine vck hF (fun h => ⟨rfl, h⟩) (fun hk hF => ?_)
  refine Dz.row 0 (List.replicate a0.length (0 : Int)).length (gl cInt (List.replicate a0.length (0 : Int))) rfl (by simp <;> omega) (EqG.rep' (c := cInt) (sz := 1) _ ⟨lr, tv⟩) ?_
  refine Dz.seq (Dz.reg ?_)
  refine Dz.row 0 (cpy (List.replicate a0.length (0 : Int)) a0).length (gl cInt (cpy (List.replicate a0.length (0 : Int)) a0)) rfl (by simp <;> omega) (EqG.cpy rfl rfl (EqG.refl _ _ _) (EqG.refl _ _ _)) ?_
  refine Dz.seq (Dz.reg (Dz.ret ?_))
  cases hF
  exact finG [] [0] rfl rfl (⟨rfl, rfl, tv⟩) ⟨⟨rfl, o_row⟩, tv⟩ rfl
def i_copied_MapDisk (a0 : (List MapDisk)) : Option ((List MapDisk)) :=
 cond (decide (((a0.length : Nat) : Int) = 0)) (some ([] : List MapDisk)) (ck (0 ≤ ((a0.length : Nat) : Int) ∧ ((a0.length : Nat) : Int) * 72 ≤ 140737488355328) (some (cpy (List.replicate a0.length (({ Id := 0, Size := 0, Epoch := 0, Frozen := 0, Client := 0, Call := 0, Acks := [] } : MapDisk) : MapDisk)) a0)))
theorem i_copied_MapDisk_c {t0_0 : Bool} {a0 : (List MapDisk)} {r : (List MapDisk)} (hF : i_copied_MapDisk a0 = some r) : Con Tryz.prog 251 [.val false [.u (ul MapDisk.c 7 t0_0 a0)]] [] (.val false [.row 0]) [.row 176 r.length 7 (gl MapDisk.c r)] := by
 refine Con.of_Dz tabOk Tryz.func251 rfl rfl rfl ?_
 delta i_copied_MapDisk at hF
 refine Dz.seq (Dz.reg (Dz.seq (Dz.seq (Dz.reg ?_))))
 intro hb1; replace hb1 : a0.length ≤ 140737488355328 := hb1
 refine Dz.ite rfl hF (fun _ hF => ?_) (fun _ hF => ?_)
 ·refine Dz.seq (Dz.reg (Dz.ret ?_))
  cases hF
  exact finG [.slot 2 176 7] [0] rfl rfl (⟨rfl, rfl, tv⟩) ⟨⟨rfl, o_rowE (by simp <;> omega) EqG.nilr⟩, tv⟩ rfl
 ·refine Dz.skip (Dz.seq (Dz.reg ?_))
  intro hb2; replace hb2 : a0.length ≤ 140737488355328 := hb2
  refine vck hF (fun h => ⟨rfl, h⟩) (fun hk hF => ?_)
  refine Dz.row 0 (List.replicate a0.length (({ Id := 0, Size := 0, Epoch := 0, Frozen := 0, Client := 0, Call := 0, Acks := [] } : MapDisk) : MapDisk)).length (gl MapDisk.c (List.replicate a0.length (({ Id := 0, Size := 0, Epoch := 0, Frozen := 0, Client := 0, Call := 0, Acks := [] } : MapDisk) : MapDisk))) rfl (by simp <;> omega) (EqG.rep' (c := MapDisk.c) (sz := 7) _ ⟨lr, lr, lr, lr, lr, lr, LeU.nil, tv⟩) ?_
  refine Dz.seq (Dz.reg ?_)
  refine Dz.row 0 (cpy (List.replicate a0.length (({ Id := 0, Size := 0, Epoch := 0, Frozen := 0, Client := 0, Call := 0, Acks := [] } : MapDisk) : MapDisk)) a0).length (gl MapDisk.c (cpy (List.replicate a0.length (({ Id := 0, Size := 0, Epoch := 0, Frozen := 0, Client := 0, Call := 0, Acks := [] } : MapDisk) : MapDisk)) a0)) rfl (by simp <;> omega) (EqG.cpy rfl rfl (EqG.refl _ _ _) (EqG.refl _ _ _)) ?_
  refine Dz.seq (Dz.reg (Dz.ret ?_))
  cases hF
  exact finG [] [0] rfl rfl (⟨rfl, rfl, tv⟩) ⟨⟨rfl, o_row⟩, tv⟩ rfl
def i_disksCopy (a0 : (List MapDisk)) : Option ((List MapDisk)) :=
 (i_copied_MapDisk a0).bind (fun y1 => loopN (fun i3 (v10 : List MapDisk) κ11 => ix v10 ((i3 : Nat) : Int) (fun _ => (i_copied_int ((v10.getD i3 default).Acks)).bind (fun y12 => ix v10 ((i3 : Nat) : Int) (fun _ => lt (v10.set i3 ({ Id := (v10.getD i3 default).Id, Size := (v10.getD i3 default).Size, Epoch := (v10.getD i3 default).Epoch, Frozen := (v10.getD i3 default).Frozen, Client := (v10.getD i3 default).Client, Call := (v10.getD i3 default).Call, Acks := y12 } : MapDisk)) (fun r13 => κ11 r13))))) (fun (v10 : List MapDisk) => some v10) y1.length 0 y1)
theorem i_disksCopy_c {t0_0 : Bool} {a0 : (List MapDisk)} {r : (List MapDisk)} (hF : i_disksCopy a0 = some r) : Con Tryz.prog 228 [.val false [.u (ul MapDisk.c 7 t0_0 a0)]] [] (.val false [.row 0]) [.row 176 r.length 7 (gl MapDisk.c r)] := by
 refine Con.of_Dz tabOk Tryz.func228 rfl rfl rfl ?_
 delta i_disksCopy at hF
 refine Dz.seq (Dz.reg (Dz.seq (Dz.reg ?_)))
 refine bdE hF (fun y1 hy1 hF => ?_)
 refine callG [] (i_copied_MapDisk_c hy1) ⟨mv rfl, tv⟩ tv rfl ?_
 refine Dz.seq (Dz.seq (Dz.reg ?_))
 intro hb2; replace hb2 : y1.length ≤ 140737488355328 := hb2
 refine Dz.blk ?_
 refine Dz.cnt hF (fun i3 v10 => ([(3, .val false [.row 0]), (8, vint .i64 ((y1.length : Nat) : Int)), (9, vint .i64 ((i3 : Nat) : Int))], [.row 176 v10.length 7 (gl MapDisk.c v10)])) (entG [0] ⟨⟨rfl, rfl, tv⟩, mv rfl, mv rfl, tv⟩ ⟨⟨rfl, o_row⟩, tv⟩ rfl) (fun v10 hF => ?_) (fun i3 v10 κ11 hi0i3 hi1i3 hF => ?_)
 ·refine Dz.seq (Dz.reg (Dz.seq ?_))
  refine Dz.ff (b := decide (((0 + y1.length : Nat) : Int) < ((y1.length : Nat) : Int))) rfl (decide_eq_false (by omega)) ?_
  refine Dz.exit (Dz.seq (Dz.reg (Dz.ret ?_)))
  cases hF
  exact finG [] [0] rfl rfl (⟨rfl, rfl, tv⟩) ⟨⟨rfl, o_row⟩, tv⟩ rfl
 ·refine Dz.seq (Dz.reg (Dz.seq ?_))
  refine Dz.tt (b := decide (((i3 : Nat) : Int) < ((y1.length : Nat) : Int))) rfl (decide_eq_true (by omega)) ?_
  refine Dz.skip (Dz.seq (Dz.blk (Dz.seq (Dz.reg (Dz.reg ?_)))))
  refine vix hF (fun _ _ hF => ?_)
  refine bdE hF (fun y12 hy12 hF => ?_)
  refine callG [] (i_copied_int_c hy12) ⟨mv rfl, tv⟩ tv rfl ?_
  refine vix hF (fun _ _ hF => ?_)
  refine ltX hF (fun r13 hr13 hF => ?_)
  have hlr13 : r13.length = v10.length := by rw [hr13]; simp <;> omega
  refine Dz.row 0 r13.length (gl MapDisk.c r13) rfl (by rw [hr13]; simp <;> omega) (by rw [hr13]; exact (EqG.set' rfl (EqG.refl _ _ _) ⟨lr, lr, lr, lr, lr, lr, lr, tv⟩)) ?_
  refine Dz.reg ?_
  refine vsucc (by omega) ?_
  exact ⟨r13, entG [0] ⟨⟨rfl, rfl, tv⟩, mv rfl, mv rfl, tv⟩ ⟨⟨rfl, o_row⟩, tv⟩ rfl, hF⟩
def i_copied_MapView (a0 : (List MapView)) : Option ((List MapView)) :=
 cond (decide (((a0.length : Nat) : Int) = 0)) (some ([] : List MapView)) (ck (0 ≤ ((a0.length : Nat) : Int) ∧ ((a0.length : Nat) : Int) * 24 ≤ 140737488355328) (some (cpy (List.replicate a0.length (({ Num := 0, A := 0, B := 0 } : MapView) : MapView)) a0)))
theorem i_copied_MapView_c {t0_0 : Bool} {a0 : (List MapView)} {r : (List MapView)} (hF : i_copied_MapView a0 = some r) : Con Tryz.prog 229 [.val false [.u (ul MapView.c 3 t0_0 a0)]] [] (.val false [.row 0]) [.row 87 r.length 3 (gl MapView.c r)] := by
 refine Con.of_Dz tabOk Tryz.func229 rfl rfl rfl ?_
 delta i_copied_MapView at hF
 refine Dz.seq (Dz.reg (Dz.seq (Dz.seq (Dz.reg ?_))))
 intro hb1; replace hb1 : a0.length ≤ 140737488355328 := hb1
 refine Dz.ite rfl hF (fun _ hF => ?_) (fun _ hF => ?_)
 ·refine Dz.seq (Dz.reg (Dz.ret ?_))
  cases hF
  exact finG [.slot 2 87 3] [0] rfl rfl (⟨rfl, rfl, tv⟩) ⟨⟨rfl, o_rowE (by simp <;> omega) EqG.nilr⟩, tv⟩ rfl
 ·refine Dz.skip (Dz.seq (Dz.reg ?_))
  intro hb2; replace hb2 : a0.length ≤ 140737488355328 := hb2
  refine vck hF (fun h => ⟨rfl, h⟩) (fun hk hF => ?_)
  refine Dz.row 0 (List.replicate a0.length (({ Num := 0, A := 0, B := 0 } : MapView) : MapView)).length (gl MapView.c (List.replicate a0.length (({ Num := 0, A := 0, B := 0 } : MapView) : MapView))) rfl (by simp <;> omega) (EqG.rep' (c := MapView.c) (sz := 3) _ ⟨lr, lr, lr, tv⟩) ?_
  refine Dz.seq (Dz.reg ?_)
  refine Dz.row 0 (cpy (List.replicate a0.length (({ Num := 0, A := 0, B := 0 } : MapView) : MapView)) a0).length (gl MapView.c (cpy (List.replicate a0.length (({ Num := 0, A := 0, B := 0 } : MapView) : MapView)) a0)) rfl (by simp <;> omega) (EqG.cpy rfl rfl (EqG.refl _ _ _) (EqG.refl _ _ _)) ?_
  refine Dz.seq (Dz.reg (Dz.ret ?_))
  cases hF
  exact finG [] [0] rfl rfl (⟨rfl, rfl, tv⟩) ⟨⟨rfl, o_row⟩, tv⟩ rfl
def i_copied_MapDone (a0 : (List MapDone)) : Option ((List MapDone)) :=
 cond (decide (((a0.length : Nat) : Int) = 0)) (some ([] : List MapDone)) (ck (0 ≤ ((a0.length : Nat) : Int) ∧ ((a0.length : Nat) : Int) * 32 ≤ 140737488355328) (some (cpy (List.replicate a0.length (({ Client := 0, Call := 0, Code := 0, Value := 0 } : MapDone) : MapDone)) a0)))
theorem i_copied_MapDone_c {t0_0 : Bool} {a0 : (List MapDone)} {r : (List MapDone)} (hF : i_copied_MapDone a0 = some r) : Con Tryz.prog 230 [.val false [.u (ul MapDone.c 4 t0_0 a0)]] [] (.val false [.row 0]) [.row 227 r.length 4 (gl MapDone.c r)] := by
 refine Con.of_Dz tabOk Tryz.func230 rfl rfl rfl ?_
 delta i_copied_MapDone at hF
 refine Dz.seq (Dz.reg (Dz.seq (Dz.seq (Dz.reg ?_))))
 intro hb1; replace hb1 : a0.length ≤ 140737488355328 := hb1
 refine Dz.ite rfl hF (fun _ hF => ?_) (fun _ hF => ?_)
 ·refine Dz.seq (Dz.reg (Dz.ret ?_))
  cases hF
  exact finG [.slot 2 227 4] [0] rfl rfl (⟨rfl, rfl, tv⟩) ⟨⟨rfl, o_rowE (by simp <;> omega) EqG.nilr⟩, tv⟩ rfl
 ·refine Dz.skip (Dz.seq (Dz.reg ?_))
  intro hb2; replace hb2 : a0.length ≤ 140737488355328 := hb2
  refine vck hF (fun h => ⟨rfl, h⟩) (fun hk hF => ?_)
  refine Dz.row 0 (List.replicate a0.length (({ Client := 0, Call := 0, Code := 0, Value := 0 } : MapDone) : MapDone)).length (gl MapDone.c (List.replicate a0.length (({ Client := 0, Call := 0, Code := 0, Value := 0 } : MapDone) : MapDone))) rfl (by simp <;> omega) (EqG.rep' (c := MapDone.c) (sz := 4) _ ⟨lr, lr, lr, lr, tv⟩) ?_
  refine Dz.seq (Dz.reg ?_)
  refine Dz.row 0 (cpy (List.replicate a0.length (({ Client := 0, Call := 0, Code := 0, Value := 0 } : MapDone) : MapDone)) a0).length (gl MapDone.c (cpy (List.replicate a0.length (({ Client := 0, Call := 0, Code := 0, Value := 0 } : MapDone) : MapDone)) a0)) rfl (by simp <;> omega) (EqG.cpy rfl rfl (EqG.refl _ _ _) (EqG.refl _ _ _)) ?_
  refine Dz.seq (Dz.reg (Dz.ret ?_))
  cases hF
  exact finG [] [0] rfl rfl (⟨rfl, rfl, tv⟩) ⟨⟨rfl, o_row⟩, tv⟩ rfl
def i_mapCopy (a0 : MapState) : Option (MapState) :=
 (i_disksCopy a0.Disks).bind (fun y1 => (i_copied_MapView a0.Views).bind (fun y2 => (i_copied_MapDone a0.Done).bind (fun y3 => some ({ Slots := a0.Slots, Servers := a0.Servers, Next := a0.Next, Disks := y1, Views := y2, Done := y3 } : MapState))))
theorem i_mapCopy_c {t0_3 t0_4 t0_5 : Bool} {a0 : MapState} {r : MapState} (hF : i_mapCopy a0 = some r) : Con Tryz.prog 183 [.val true [.u (cI a0.Slots), .u (cI a0.Servers), .u (cI a0.Next), .u (ul MapDisk.c 7 t0_3 a0.Disks), .u (ul MapView.c 3 t0_4 a0.Views), .u (ul MapDone.c 4 t0_5 a0.Done)]] [] (.val true [.u (cI r.Slots), .u (cI r.Servers), .u (cI r.Next), .row 0, .row 1, .row 2]) [.row 176 r.Disks.length 7 (gl MapDisk.c r.Disks), .row 87 r.Views.length 3 (gl MapView.c r.Views), .row 227 r.Done.length 4 (gl MapDone.c r.Done)] := by
 refine Con.of_Dz tabOk Tryz.func183 rfl rfl rfl ?_
 delta i_mapCopy at hF
 refine Dz.seq (Dz.reg (Dz.seq (Dz.reg (Dz.seq (Dz.reg ?_)))))
 refine bdE hF (fun y1 hy1 hF => ?_)
 refine callG [] (i_disksCopy_c hy1) ⟨mv rfl, tv⟩ tv rfl ?_
 refine Dz.seq (Dz.reg ?_)
 refine bdE hF (fun y2 hy2 hF => ?_)
 refine callG [] (i_copied_MapView_c hy2) ⟨mv rfl, tv⟩ tv rfl ?_
 refine Dz.seq (Dz.reg ?_)
 refine bdE hF (fun y3 hy3 hF => ?_)
 refine callG [] (i_copied_MapDone_c hy3) ⟨mv rfl, tv⟩ tv rfl ?_
 refine Dz.seq (Dz.reg (Dz.ret ?_))
 cases hF
 exact finG [] [3, 4, 5] rfl rfl (⟨rfl, lr, lr, lr, rfl, rfl, rfl, tv⟩) ⟨⟨rfl, o_row⟩, ⟨rfl, o_row⟩, ⟨rfl, o_row⟩, tv⟩ rfl
def i_MapStart : Option (MapState) :=
 loopN (fun i1 (v6 : List MapView) κ7 => ck ((v6.length + 1) * 24 ≤ 140737488355328) (κ7 (v6 ++ ([({ Num := 1, A := (Int.tmod ((i1 : Nat) : Int) 3), B := (Int.tmod ((i1 + 1 : Nat) : Int) 3) } : MapView)] : List MapView)))) (fun (v6 : List MapView) => (i_mapCopy ({ Slots := 0, Servers := 3, Next := 1, Disks := [], Views := v6, Done := [] } : MapState)).bind (fun y8 => some y8)) 3 0 ([] : List MapView)
theorem i_MapStart_c {r : MapState} (hF : i_MapStart = some r) : Con Tryz.prog 105 [] [] (.val true [.u (cI r.Slots), .u (cI r.Servers), .u (cI r.Next), .row 0, .row 1, .row 2]) [.row 176 r.Disks.length 7 (gl MapDisk.c r.Disks), .row 87 r.Views.length 3 (gl MapView.c r.Views), .row 227 r.Done.length 4 (gl MapDone.c r.Done)] := by
 refine Con.of_Dz tabOk Tryz.func105 rfl rfl rfl ?_
 delta i_MapStart at hF
 refine Dz.seq (Dz.reg (Dz.seq (Dz.reg (Dz.seq (Dz.seq (Dz.reg (Dz.blk ?_)))))))
 refine Dz.cnt hF (fun i1 v6 => ([(0, .ptr 0 0), (1, .ptr 1 0), (2, vint .i64 ((i1 : Nat) : Int))], [.box 78 [.u (cI 0), .u (cI 0), .u (cI 0), .nil, .nil, .nil], .box 78 [.u (cI 0), .u (cI 3), .u (cI 1), .nil, .row 2, .nil], .row 87 v6.length 3 (gl MapView.c v6)])) (entF [.leaf 1 4 87 3] [0, 1, 2] rfl ⟨mp rfl, mp rfl, mv rfl, tv⟩ ⟨⟨rfl, ⟨rfl, lr, lr, lr, tv, tv, tv, tv⟩⟩, ⟨rfl, ⟨rfl, lr, lr, lr, tv, rfl, tv, tv⟩⟩, ⟨rfl, o_rowE (by simp <;> omega) EqG.nilr⟩, tv⟩ rfl) (fun v6 hF => ?_) (fun i1 v6 κ7 hi0i1 hi1i1 hF => ?_)
 ·refine Dz.seq (Dz.seq (Dz.reg ?_))
  refine Dz.ff (b := decide (((0 + 3 : Nat) : Int) < 3)) rfl (decide_eq_false (by omega)) ?_
  refine Dz.exit (Dz.seq (Dz.reg ?_))
  refine bdE hF (fun y8 hy8 hF => ?_)
  refine callL [] (i_mapCopy_c (t0_3 := false) (t0_5 := false) hy8) ⟨⟨rfl, lr, lr, lr, ⟨_, _, _, rfl⟩, ⟨rfl, rfl, lr⟩, ⟨_, _, _, rfl⟩, tv⟩, tv⟩ tv rfl ⟨⟨tv, tv, tv, tv, tv, tv, tv⟩, ⟨ntm_gl, ntm_gl, ntm_gl, tv⟩⟩ ?_
  refine Dz.ret ?_
  cases hF
  exact finG [] [3, 4, 5] rfl rfl (⟨rfl, lr, lr, lr, rfl, rfl, rfl, tv⟩) ⟨⟨rfl, o_row⟩, ⟨rfl, o_row⟩, ⟨rfl, o_row⟩, tv⟩ rfl
 ·refine Dz.seq (Dz.seq (Dz.reg ?_))
  refine Dz.tt (b := decide (((i1 : Nat) : Int) < 3)) rfl (decide_eq_true (by omega)) ?_
  refine Dz.skip (Dz.seq (Dz.blk (Dz.reg ?_)))
  refine ⟨by decide, _, rfl, ?_⟩
  refine vsucc (by omega) ?_
  refine ⟨by decide, _, rfl, ?_⟩
  refine vck hF id (fun _ hF => ?_)
  refine Dz.row 3 ([({ Num := 1, A := (Int.tmod ((i1 : Nat) : Int) 3), B := (Int.tmod ((i1 + 1 : Nat) : Int) 3) } : MapView)] : List MapView).length (gl MapView.c ([({ Num := 1, A := (Int.tmod ((i1 : Nat) : Int) 3), B := (Int.tmod ((i1 + 1 : Nat) : Int) 3) } : MapView)] : List MapView)) rfl (by simp <;> omega) (EqG.lit (c := MapView.c) (sz := 3) (L := ([({ Num := 1, A := (Int.tmod ((i1 : Nat) : Int) 3), B := (Int.tmod ((i1 + 1 : Nat) : Int) 3) } : MapView)] : List MapView)) ⟨lr, lr, lr, tv⟩) ?_
  refine Dz.row 4 (v6 ++ ([({ Num := 1, A := (Int.tmod ((i1 : Nat) : Int) 3), B := (Int.tmod ((i1 + 1 : Nat) : Int) 3) } : MapView)] : List MapView)).length (gl MapView.c (v6 ++ ([({ Num := 1, A := (Int.tmod ((i1 : Nat) : Int) 3), B := (Int.tmod ((i1 + 1 : Nat) : Int) 3) } : MapView)] : List MapView))) rfl (by simp <;> omega) (EqG.app rfl (by simp <;> omega) (EqG.refl _ _ _) (EqG.lit (c := MapView.c) (sz := 3) (L := ([({ Num := 1, A := (Int.tmod ((i1 : Nat) : Int) 3), B := (Int.tmod ((i1 + 1 : Nat) : Int) 3) } : MapView)] : List MapView)) ⟨lr, lr, lr, tv⟩)) ?_
  refine Dz.reg ?_
  refine vsucc (by omega) ?_
  exact ⟨(v6 ++ ([({ Num := 1, A := (Int.tmod ((i1 : Nat) : Int) 3), B := (Int.tmod ((i1 + 1 : Nat) : Int) 3) } : MapView)] : List MapView)), entG [0, 1, 4] ⟨mp rfl, mp rfl, mv rfl, tv⟩ ⟨⟨rfl, ⟨rfl, lr, lr, lr, tv, tv, tv, tv⟩⟩, ⟨rfl, ⟨rfl, lr, lr, lr, tv, rfl, tv, tv⟩⟩, ⟨rfl, o_row⟩, tv⟩ rfl, hF⟩
def i_doView (a0 : MapState) (a1 : Cmd) : Option (MapState) :=
 (i_isRange a1.Range).bind (fun y1 => cond (!y1) (some a0) (ix a0.Views a1.Range (fun _ => lt (a0.Views.getD a1.Range.toNat default) (fun x2 => jn (fun (v4 : Bool) => cond v4 (some a0) (ix a0.Views a1.Range (fun _ => lt (a0.Views.set a1.Range.toNat ({ Num := a1.Num, A := a1.A, B := (if a1.B > (-1) then a1.B else (-1)) } : MapView)) (fun r5 => some ({ Slots := a0.Slots, Servers := a0.Servers, Next := a0.Next, Disks := a0.Disks, Views := r5, Done := a0.Done } : MapState))))) (fun j6 => cond (!decide (a1.Num = (w64 (x2.Num + 1)))) (j6 true) (cond (decide (a1.A < 0)) (j6 true) (cond (!decide (a1.A = x2.A)) (cond (!decide (a1.A = x2.B)) (j6 true) (cond (decide (a0.Servers ≤ a1.B)) (j6 true) (cond (decide (a1.B = a1.A)) (j6 true) (cond (decide ((0 : Int) ≤ a1.B)) (j6 (decide ((0 : Int) ≤ x2.B))) (j6 false))))) (cond (decide (a0.Servers ≤ a1.B)) (j6 true) (cond (decide (a1.B = a1.A)) (j6 true) (cond (decide ((0 : Int) ≤ a1.B)) (j6 (decide ((0 : Int) ≤ x2.B))) (j6 false)))))))))))
theorem i_doView_c {a0 : MapState} {a1 : Cmd} {r : MapState} (hF : i_doView a0 a1 = some r) : Con Tryz.prog 184 [.val true [.u (cI a0.Slots), .u (cI a0.Servers), .u (cI a0.Next), .u (ul MapDisk.c 7 false a0.Disks), .row 0, .u (ul MapDone.c 4 false a0.Done)], .val true (Cmd.L a1)] [.row 87 a0.Views.length 3 (gl MapView.c a0.Views)] (.val true [.u (cI r.Slots), .u (cI r.Servers), .u (cI r.Next), .u (ul MapDisk.c 7 false r.Disks), .row 0, .u (ul MapDone.c 4 false r.Done)]) [.row 87 r.Views.length 3 (gl MapView.c r.Views)] := by
 refine Con.of_Dz tabOk Tryz.func184 rfl rfl rfl ?_
 delta i_doView at hF
 refine Dz.seq (Dz.reg (Dz.seq (Dz.seq (Dz.reg ?_))))
 refine bdE hF (fun y1 hy1 hF => ?_)
 refine callG [] (i_isRange_c hy1) ⟨mv rfl, tv⟩ tv rfl ?_
 refine Dz.ite rfl hF (fun _ hF => ?_) (fun _ hF => ?_)
 ·refine Dz.seq (Dz.reg (Dz.ret ?_))
  cases hF
  exact finG [] [0] rfl rfl (⟨rfl, lr, lr, lr, lr, rfl, lr, tv⟩) ⟨⟨rfl, o_row⟩, tv⟩ rfl
 ·refine Dz.skip (Dz.seq (Dz.reg ?_))
  refine vix hF (fun _ _ hF => ?_)
  have hF := ltE hF
  refine Dz.seq ?_
  refine Dz.jn hF (fun v4 => ([(2, .ptr 1 0), (3, .ptr 2 0), (4, .ptr 3 0), (65, vbool v4)], [.row 87 a0.Views.length 3 (gl MapView.c a0.Views), .box 78 [.u (cI a0.Slots), .u (cI a0.Servers), .u (cI a0.Next), .u (ul MapDisk.c 7 false a0.Disks), .row 0, .u (ul MapDone.c 4 false a0.Done)], .box 44 (Cmd.L a1), .box 78 [.u (cI 0), .u (cI 0), .u (cI 0), .nil, .nil, .nil]])) (fun v4 hF => ?_) (fun hF => ?_)
  ·refine Dz.ite rfl hF (fun _ hF => ?_) (fun _ hF => ?_)
   ·refine Dz.seq (Dz.reg (Dz.ret ?_))
    cases hF
    exact finG [] [0] rfl rfl (⟨rfl, lr, lr, lr, lr, rfl, lr, tv⟩) ⟨⟨rfl, o_row⟩, tv⟩ rfl
   ·refine Dz.skip (Dz.seq (Dz.reg ?_))
    refine vix hF (fun _ _ hF => ?_)
    refine ltX hF (fun r5 hr5 hF => ?_)
    have hlr5 : r5.length = a0.Views.length := by rw [hr5]; simp <;> omega
    refine Dz.row 0 r5.length (gl MapView.c r5) rfl (by rw [hr5]; simp <;> omega) (by rw [hr5]; exact (EqG.set' rfl (EqG.refl _ _ _) ⟨lr, lr, lr, tv⟩)) ?_
    refine Dz.seq (Dz.reg (Dz.ret ?_))
    cases hF
    exact finG [] [0] rfl rfl (⟨rfl, lr, lr, lr, lr, rfl, lr, tv⟩) ⟨⟨rfl, o_row⟩, tv⟩ rfl
  ·refine Dz.reg (vw64 ?_)
   refine vif hF (fun _ hF => ?_) (fun _ hF => ?_)
   ·exact ⟨true, entG [0, 1, 2, 3] ⟨mp rfl, mp rfl, mp rfl, mv rfl, tv⟩ ⟨⟨rfl, o_row⟩, ⟨rfl, ⟨rfl, lr, lr, lr, lr, rfl, lr, tv⟩⟩, ⟨rfl, o_box rfl⟩, ⟨rfl, ⟨rfl, lr, lr, lr, tv, tv, tv, tv⟩⟩, tv⟩ rfl, hF⟩
   ·refine vif hF (fun _ hF => ?_) (fun _ hF => ?_)
    ·exact ⟨true, entG [0, 1, 2, 3] ⟨mp rfl, mp rfl, mp rfl, mv rfl, tv⟩ ⟨⟨rfl, o_row⟩, ⟨rfl, ⟨rfl, lr, lr, lr, lr, rfl, lr, tv⟩⟩, ⟨rfl, o_box rfl⟩, ⟨rfl, ⟨rfl, lr, lr, lr, tv, tv, tv, tv⟩⟩, tv⟩ rfl, hF⟩
    ·refine vif hF (fun _ hF => ?_) (fun _ hF => ?_)
     ·refine vif hF (fun _ hF => ?_) (fun _ hF => ?_)
      ·exact ⟨true, entG [0, 1, 2, 3] ⟨mp rfl, mp rfl, mp rfl, mv rfl, tv⟩ ⟨⟨rfl, o_row⟩, ⟨rfl, ⟨rfl, lr, lr, lr, lr, rfl, lr, tv⟩⟩, ⟨rfl, o_box rfl⟩, ⟨rfl, ⟨rfl, lr, lr, lr, tv, tv, tv, tv⟩⟩, tv⟩ rfl, hF⟩
      ·refine vif hF (fun _ hF => ?_) (fun _ hF => ?_)
       ·exact ⟨true, entG [0, 1, 2, 3] ⟨mp rfl, mp rfl, mp rfl, mv rfl, tv⟩ ⟨⟨rfl, o_row⟩, ⟨rfl, ⟨rfl, lr, lr, lr, lr, rfl, lr, tv⟩⟩, ⟨rfl, o_box rfl⟩, ⟨rfl, ⟨rfl, lr, lr, lr, tv, tv, tv, tv⟩⟩, tv⟩ rfl, hF⟩
       ·refine vif hF (fun _ hF => ?_) (fun _ hF => ?_)
        ·exact ⟨true, entG [0, 1, 2, 3] ⟨mp rfl, mp rfl, mp rfl, mv rfl, tv⟩ ⟨⟨rfl, o_row⟩, ⟨rfl, ⟨rfl, lr, lr, lr, lr, rfl, lr, tv⟩⟩, ⟨rfl, o_box rfl⟩, ⟨rfl, ⟨rfl, lr, lr, lr, tv, tv, tv, tv⟩⟩, tv⟩ rfl, hF⟩
        ·refine vif hF (fun _ hF => ?_) (fun _ hF => ?_)
         ·exact ⟨(decide ((0 : Int) ≤ (a0.Views.getD a1.Range.toNat default).B)), entG [0, 1, 2, 3] ⟨mp rfl, mp rfl, mp rfl, mv rfl, tv⟩ ⟨⟨rfl, o_row⟩, ⟨rfl, ⟨rfl, lr, lr, lr, lr, rfl, lr, tv⟩⟩, ⟨rfl, o_box rfl⟩, ⟨rfl, ⟨rfl, lr, lr, lr, tv, tv, tv, tv⟩⟩, tv⟩ rfl, hF⟩
         ·exact ⟨false, entG [0, 1, 2, 3] ⟨mp rfl, mp rfl, mp rfl, mv rfl, tv⟩ ⟨⟨rfl, o_row⟩, ⟨rfl, ⟨rfl, lr, lr, lr, lr, rfl, lr, tv⟩⟩, ⟨rfl, o_box rfl⟩, ⟨rfl, ⟨rfl, lr, lr, lr, tv, tv, tv, tv⟩⟩, tv⟩ rfl, hF⟩
     ·refine vif hF (fun _ hF => ?_) (fun _ hF => ?_)
      ·exact ⟨true, entG [0, 1, 2, 3] ⟨mp rfl, mp rfl, mp rfl, mv rfl, tv⟩ ⟨⟨rfl, o_row⟩, ⟨rfl, ⟨rfl, lr, lr, lr, lr, rfl, lr, tv⟩⟩, ⟨rfl, o_box rfl⟩, ⟨rfl, ⟨rfl, lr, lr, lr, tv, tv, tv, tv⟩⟩, tv⟩ rfl, hF⟩
      ·refine vif hF (fun _ hF => ?_) (fun _ hF => ?_)
       ·exact ⟨true, entG [0, 1, 2, 3] ⟨mp rfl, mp rfl, mp rfl, mv rfl, tv⟩ ⟨⟨rfl, o_row⟩, ⟨rfl, ⟨rfl, lr, lr, lr, lr, rfl, lr, tv⟩⟩, ⟨rfl, o_box rfl⟩, ⟨rfl, ⟨rfl, lr, lr, lr, tv, tv, tv, tv⟩⟩, tv⟩ rfl, hF⟩
       ·refine vif hF (fun _ hF => ?_) (fun _ hF => ?_)
        ·exact ⟨(decide ((0 : Int) ≤ (a0.Views.getD a1.Range.toNat default).B)), entG [0, 1, 2, 3] ⟨mp rfl, mp rfl, mp rfl, mv rfl, tv⟩ ⟨⟨rfl, o_row⟩, ⟨rfl, ⟨rfl, lr, lr, lr, lr, rfl, lr, tv⟩⟩, ⟨rfl, o_box rfl⟩, ⟨rfl, ⟨rfl, lr, lr, lr, tv, tv, tv, tv⟩⟩, tv⟩ rfl, hF⟩
        ·exact ⟨false, entG [0, 1, 2, 3] ⟨mp rfl, mp rfl, mp rfl, mv rfl, tv⟩ ⟨⟨rfl, o_row⟩, ⟨rfl, ⟨rfl, lr, lr, lr, lr, rfl, lr, tv⟩⟩, ⟨rfl, o_box rfl⟩, ⟨rfl, ⟨rfl, lr, lr, lr, tv, tv, tv, tv⟩⟩, tv⟩ rfl, hF⟩
def i_diskAt (a0 : (List MapDisk)) (a1 : Int) : Option (Int) :=
 loopN (fun i2 (v4 : Unit) κ5 => lt (a0.getD i2 default) (fun x6 => cond (decide (x6.Id = a1)) (some ((i2 : Nat) : Int)) (κ5 ()))) (fun (v4 : Unit) => some (-1)) a0.length 0 ()
theorem i_diskAt_c {t0_0 : Bool} {a0 : (List MapDisk)} {a1 : Int} {r : Int} (hF : i_diskAt a0 a1 = some r) : Con Tryz.prog 109 [.val false [.u (ul MapDisk.c 7 t0_0 a0)], vint .i64 a1] [] (vint .i64 r) [] := by
 refine Con.of_Dz tabOk Tryz.func109 rfl rfl rfl ?_
 delta i_diskAt at hF
 refine Dz.seq (Dz.reg (Dz.seq (Dz.seq (Dz.reg ?_))))
 intro hb1; replace hb1 : a0.length ≤ 140737488355328 := hb1
 refine Dz.blk ?_
 refine Dz.cnt hF (fun i2 v4 => ([(1, vint .i64 a1), (7, .val false [.u (ul MapDisk.c 7 t0_0 a0)]), (8, vint .i64 ((a0.length : Nat) : Int)), (9, vint .i64 ((i2 : Nat) : Int))], [])) (entG [] ⟨mv rfl, mv rfl, mv rfl, mv rfl, tv⟩ tv rfl) (fun v4 hF => ?_) (fun i2 v4 κ5 hi0i2 hi1i2 hF => ?_)
 ·refine Dz.seq (Dz.reg (Dz.seq ?_))
  refine Dz.ff (b := decide (((0 + a0.length : Nat) : Int) < ((a0.length : Nat) : Int))) rfl (decide_eq_false (by omega)) ?_
  refine Dz.exit (Dz.seq (Dz.reg (Dz.ret ?_)))
  cases hF
  exact finG [] [] rfl rfl (mv rfl) tv rfl
 ·refine Dz.seq (Dz.reg (Dz.seq ?_))
  refine Dz.tt (b := decide (((i2 : Nat) : Int) < ((a0.length : Nat) : Int))) rfl (decide_eq_true (by omega)) ?_
  refine Dz.skip (Dz.seq (Dz.blk (Dz.seq (Dz.reg ?_))))
  refine vge (n := ((i2 : Nat) : Int)) (hi := (a0.length : Int)) (by omega) (by omega) ?_
  have hF := ltE hF
  refine Dz.seq (Dz.reg ?_)
  refine Dz.ite rfl hF (fun _ hF => ?_) (fun _ hF => ?_)
  ·refine Dz.seq (Dz.reg (Dz.ret ?_))
   cases hF
   exact finG [] [] rfl rfl (mv rfl) tv rfl
  ·refine Dz.skip (Dz.reg ?_)
   refine vsucc (by omega) ?_
   exact ⟨(), entG [] ⟨mv rfl, mv rfl, mv rfl, mv rfl, tv⟩ tv rfl, hF⟩
def i_tell (a0 : MapState) (a1 : MapDone) : Option (MapState) :=
 loopN (fun i2 (v13 : Bool × List MapDone) κ14 => lt (a0.Done.getD i2 default) (fun x15 => jn (fun (v18 : Bool × List MapDone) => cond (!decide (x15.Client = a1.Client)) (ck ((v18.2.length + 1) * 32 ≤ 140737488355328) (κ14 (v18.1, (v18.2 ++ ([x15] : List MapDone))))) (κ14 (v18.1, v18.2))) (fun j19 => cond (!v13.1) (cond (decide (a1.Client ≤ x15.Client)) (ck ((v13.2.length + 1) * 32 ≤ 140737488355328) (j19 (true, (v13.2 ++ ([a1] : List MapDone))))) (j19 (v13.1, v13.2))) (j19 (v13.1, v13.2))))) (fun (v13 : Bool × List MapDone) => cond (!v13.1) (ck ((v13.2.length + 1) * 32 ≤ 140737488355328) (some ({ Slots := a0.Slots, Servers := a0.Servers, Next := a0.Next, Disks := a0.Disks, Views := a0.Views, Done := (v13.2 ++ ([a1] : List MapDone)) } : MapState))) (some ({ Slots := a0.Slots, Servers := a0.Servers, Next := a0.Next, Disks := a0.Disks, Views := a0.Views, Done := v13.2 } : MapState))) a0.Done.length 0 (false, ([] : List MapDone))
theorem i_tell_c {t0_5 : Bool} {a0 : MapState} {a1 : MapDone} {r : MapState} (hF : i_tell a0 a1 = some r) : Con Tryz.prog 233 [.val true [.u (cI a0.Slots), .u (cI a0.Servers), .u (cI a0.Next), .u (ul MapDisk.c 7 false a0.Disks), .u (ul MapView.c 3 false a0.Views), .u (ul MapDone.c 4 t0_5 a0.Done)], .val true (MapDone.L a1)] [] (.val true [.u (cI r.Slots), .u (cI r.Servers), .u (cI r.Next), .u (ul MapDisk.c 7 false r.Disks), .u (ul MapView.c 3 false r.Views), .row 0]) [.row 227 r.Done.length 4 (gl MapDone.c r.Done)] := by
 refine Con.of_Dz tabOk Tryz.func233 rfl rfl rfl ?_
 delta i_tell at hF
 refine Dz.seq (Dz.reg (Dz.seq (Dz.reg (Dz.seq (Dz.reg (Dz.seq (Dz.seq ?_)))))))
 refine Dz.reg ?_
 intro hb1; replace hb1 : a0.Done.length ≤ 140737488355328 := hb1
 refine Dz.blk ?_
 refine Dz.cnt hF (fun i2 v13 => ([(2, .ptr 0 0), (3, .ptr 1 0), (4, .ptr 2 0), (5, .val false [.row 3]), (6, vbool v13.1), (10, .val false [.u (ul MapDone.c 4 t0_5 a0.Done)]), (11, vint .i64 ((a0.Done.length : Nat) : Int)), (12, vint .i64 ((i2 : Nat) : Int))], [.box 78 [.u (cI a0.Slots), .u (cI a0.Servers), .u (cI a0.Next), .u (ul MapDisk.c 7 false a0.Disks), .u (ul MapView.c 3 false a0.Views), .u (ul MapDone.c 4 t0_5 a0.Done)], .box 227 (MapDone.L a1), .box 78 [.u (cI 0), .u (cI 0), .u (cI 0), .nil, .nil, .nil], .row 227 v13.2.length 4 (gl MapDone.c v13.2)])) (entF [.slot 5 227 4] [0, 1, 2, 3] rfl ⟨mp rfl, mp rfl, mp rfl, ⟨rfl, rfl, tv⟩, mv rfl, mv rfl, mv rfl, mv rfl, tv⟩ ⟨⟨rfl, o_box rfl⟩, ⟨rfl, o_box rfl⟩, ⟨rfl, ⟨rfl, lr, lr, lr, tv, tv, tv, tv⟩⟩, ⟨rfl, o_rowE (by simp <;> omega) EqG.nilr⟩, tv⟩ rfl) (fun v13 hF => ?_) (fun i2 v13 κ14 hi0i2 hi1i2 hF => ?_)
 ·refine Dz.seq (Dz.reg (Dz.seq ?_))
  refine Dz.ff (b := decide (((0 + a0.Done.length : Nat) : Int) < ((a0.Done.length : Nat) : Int))) rfl (decide_eq_false (by omega)) ?_
  refine Dz.exit (Dz.seq (Dz.seq (Dz.reg ?_)))
  refine Dz.ite rfl hF (fun _ hF => ?_) (fun _ hF => ?_)
  ·refine Dz.reg ?_
   refine vck hF id (fun _ hF => ?_)
   refine Dz.row 4 ([a1] : List MapDone).length (gl MapDone.c ([a1] : List MapDone)) rfl (by simp <;> omega) (EqG.lit (c := MapDone.c) (sz := 4) (L := ([a1] : List MapDone)) ⟨lr, lr, lr, lr, tv⟩) ?_
   refine Dz.row 5 (v13.2 ++ ([a1] : List MapDone)).length (gl MapDone.c (v13.2 ++ ([a1] : List MapDone))) rfl (by simp <;> omega) (EqG.app rfl (by simp <;> omega) (EqG.refl _ _ _) (EqG.lit (c := MapDone.c) (sz := 4) (L := ([a1] : List MapDone)) ⟨lr, lr, lr, lr, tv⟩)) ?_
   refine Dz.seq (Dz.reg (Dz.seq (Dz.reg (Dz.ret ?_))))
   cases hF
   exact finG [] [5] rfl rfl (⟨rfl, lr, lr, lr, lr, lr, rfl, tv⟩) ⟨⟨rfl, o_row⟩, tv⟩ rfl
  ·refine Dz.skip (Dz.seq (Dz.reg (Dz.seq (Dz.reg (Dz.ret ?_)))))
   cases hF
   exact finG [] [3] rfl rfl (⟨rfl, lr, lr, lr, lr, lr, rfl, tv⟩) ⟨⟨rfl, o_row⟩, tv⟩ rfl
 ·refine Dz.seq (Dz.reg (Dz.seq ?_))
  refine Dz.tt (b := decide (((i2 : Nat) : Int) < ((a0.Done.length : Nat) : Int))) rfl (decide_eq_true (by omega)) ?_
  refine Dz.skip (Dz.seq (Dz.blk (Dz.seq (Dz.reg ?_))))
  refine vge (n := ((i2 : Nat) : Int)) (hi := (a0.Done.length : Int)) (by omega) (by omega) ?_
  have hF := ltE hF
  refine Dz.jn hF (fun v18 => ([(2, .ptr 0 0), (3, .ptr 1 0), (4, .ptr 2 0), (5, .val false [.row 3]), (6, vbool v18.1), (8, .ptr 4 0), (10, .val false [.u (ul MapDone.c 4 t0_5 a0.Done)]), (11, vint .i64 ((a0.Done.length : Nat) : Int)), (12, vint .i64 ((i2 : Nat) : Int))], [.box 78 [.u (cI a0.Slots), .u (cI a0.Servers), .u (cI a0.Next), .u (ul MapDisk.c 7 false a0.Disks), .u (ul MapView.c 3 false a0.Views), .u (ul MapDone.c 4 t0_5 a0.Done)], .box 227 (MapDone.L a1), .box 78 [.u (cI 0), .u (cI 0), .u (cI 0), .nil, .nil, .nil], .row 227 v18.2.length 4 (gl MapDone.c v18.2), .box 227 (MapDone.L (a0.Done.getD i2 default))])) (fun v18 hF => ?_) (fun hF => ?_)
  ·refine Dz.seq (Dz.reg ?_)
   refine Dz.ite rfl hF (fun _ hF => ?_) (fun _ hF => ?_)
   ·refine Dz.reg ?_
    refine vck hF id (fun _ hF => ?_)
    refine Dz.row 5 ([(a0.Done.getD i2 default)] : List MapDone).length (gl MapDone.c ([(a0.Done.getD i2 default)] : List MapDone)) rfl (by simp <;> omega) (EqG.lit (c := MapDone.c) (sz := 4) (L := ([(a0.Done.getD i2 default)] : List MapDone)) ⟨lr, lr, lr, lr, tv⟩) ?_
    refine Dz.row 6 (v18.2 ++ ([(a0.Done.getD i2 default)] : List MapDone)).length (gl MapDone.c (v18.2 ++ ([(a0.Done.getD i2 default)] : List MapDone))) rfl (by simp <;> omega) (EqG.app rfl (by simp <;> omega) (EqG.refl _ _ _) (EqG.lit (c := MapDone.c) (sz := 4) (L := ([(a0.Done.getD i2 default)] : List MapDone)) ⟨lr, lr, lr, lr, tv⟩)) ?_
    refine Dz.reg ?_
    refine vsucc (by omega) ?_
    exact ⟨(v18.1, (v18.2 ++ ([(a0.Done.getD i2 default)] : List MapDone))), entG [0, 1, 2, 6] ⟨mp rfl, mp rfl, mp rfl, ⟨rfl, rfl, tv⟩, mv rfl, mv rfl, mv rfl, mv rfl, tv⟩ ⟨⟨rfl, o_box rfl⟩, ⟨rfl, o_box rfl⟩, ⟨rfl, ⟨rfl, lr, lr, lr, tv, tv, tv, tv⟩⟩, ⟨rfl, o_row⟩, tv⟩ rfl, hF⟩
   ·refine Dz.skip (Dz.reg ?_)
    refine vsucc (by omega) ?_
    exact ⟨(v18.1, v18.2), entG [0, 1, 2, 3] ⟨mp rfl, mp rfl, mp rfl, ⟨rfl, rfl, tv⟩, mv rfl, mv rfl, mv rfl, mv rfl, tv⟩ ⟨⟨rfl, o_box rfl⟩, ⟨rfl, o_box rfl⟩, ⟨rfl, ⟨rfl, lr, lr, lr, tv, tv, tv, tv⟩⟩, ⟨rfl, o_row⟩, tv⟩ rfl, hF⟩
  ·refine Dz.seq (Dz.reg ?_)
   refine vif hF (fun _ hF => ?_) (fun _ hF => ?_)
   ·refine Dz.ite rfl hF (fun _ hF => ?_) (fun _ hF => ?_)
    ·refine Dz.seq (Dz.reg ?_)
     refine vck hF id (fun _ hF => ?_)
     refine Dz.row 5 ([a1] : List MapDone).length (gl MapDone.c ([a1] : List MapDone)) rfl (by simp <;> omega) (EqG.lit (c := MapDone.c) (sz := 4) (L := ([a1] : List MapDone)) ⟨lr, lr, lr, lr, tv⟩) ?_
     refine Dz.row 6 (v13.2 ++ ([a1] : List MapDone)).length (gl MapDone.c (v13.2 ++ ([a1] : List MapDone))) rfl (by simp <;> omega) (EqG.app rfl (by simp <;> omega) (EqG.refl _ _ _) (EqG.lit (c := MapDone.c) (sz := 4) (L := ([a1] : List MapDone)) ⟨lr, lr, lr, lr, tv⟩)) ?_
     refine Dz.reg ?_
     exact ⟨(true, (v13.2 ++ ([a1] : List MapDone))), entG [0, 1, 2, 6, 4] ⟨mp rfl, mp rfl, mp rfl, ⟨rfl, rfl, tv⟩, mv rfl, mp rfl, mv rfl, mv rfl, mv rfl, tv⟩ ⟨⟨rfl, o_box rfl⟩, ⟨rfl, o_box rfl⟩, ⟨rfl, ⟨rfl, lr, lr, lr, tv, tv, tv, tv⟩⟩, ⟨rfl, o_row⟩, ⟨rfl, o_box rfl⟩, tv⟩ rfl, hF⟩
    ·refine Dz.skip ?_
     exact ⟨(v13.1, v13.2), entG [0, 1, 2, 3, 4] ⟨mp rfl, mp rfl, mp rfl, ⟨rfl, rfl, tv⟩, mv rfl, mp rfl, mv rfl, mv rfl, mv rfl, tv⟩ ⟨⟨rfl, o_box rfl⟩, ⟨rfl, o_box rfl⟩, ⟨rfl, ⟨rfl, lr, lr, lr, tv, tv, tv, tv⟩⟩, ⟨rfl, o_row⟩, ⟨rfl, o_box rfl⟩, tv⟩ rfl, hF⟩
   ·refine Dz.ff (b := false) rfl rfl ?_
    refine Dz.skip ?_
    exact ⟨(v13.1, v13.2), entG [0, 1, 2, 3, 4] ⟨mp rfl, mp rfl, mp rfl, ⟨rfl, rfl, tv⟩, mv rfl, mp rfl, mv rfl, mv rfl, mv rfl, tv⟩ ⟨⟨rfl, o_box rfl⟩, ⟨rfl, o_box rfl⟩, ⟨rfl, ⟨rfl, lr, lr, lr, tv, tv, tv, tv⟩⟩, ⟨rfl, o_row⟩, ⟨rfl, o_box rfl⟩, tv⟩ rfl, hF⟩
def i_doneOf (a0 : MapState) (a1 : Int) : Option (MapDone) :=
 loopN (fun i2 (v4 : Unit) κ5 => lt (a0.Done.getD i2 default) (fun x6 => cond (decide (x6.Client = a1)) (some x6) (κ5 ()))) (fun (v4 : Unit) => some ({ Client := 0, Call := 0, Code := 0, Value := 0 } : MapDone)) a0.Done.length 0 ()
theorem i_doneOf_c {t0_3 t0_4 t0_5 : Bool} {a0 : MapState} {a1 : Int} {r : MapDone} (hF : i_doneOf a0 a1 = some r) : Con Tryz.prog 232 [.val true [.u (cI a0.Slots), .u (cI a0.Servers), .u (cI a0.Next), .u (ul MapDisk.c 7 t0_3 a0.Disks), .u (ul MapView.c 3 t0_4 a0.Views), .u (ul MapDone.c 4 t0_5 a0.Done)], vint .i64 a1] [] (.val true (MapDone.L r)) [] := by
 refine Con.of_Dz tabOk Tryz.func232 rfl rfl rfl ?_
 delta i_doneOf at hF
 refine Dz.seq (Dz.reg (Dz.seq (Dz.seq (Dz.reg ?_))))
 intro hb1; replace hb1 : a0.Done.length ≤ 140737488355328 := hb1
 refine Dz.blk ?_
 refine Dz.cnt hF (fun i2 v4 => ([(1, vint .i64 a1), (4, .ptr 0 0), (8, .val false [.u (ul MapDone.c 4 t0_5 a0.Done)]), (9, vint .i64 ((a0.Done.length : Nat) : Int)), (10, vint .i64 ((i2 : Nat) : Int))], [.box 227 [.u (cI 0), .u (cI 0), .u (cI 0), .u (cI 0)]])) (entG [1] ⟨mv rfl, mp rfl, mv rfl, mv rfl, mv rfl, tv⟩ ⟨⟨rfl, o_box rfl⟩, tv⟩ rfl) (fun v4 hF => ?_) (fun i2 v4 κ5 hi0i2 hi1i2 hF => ?_)
 ·refine Dz.seq (Dz.reg (Dz.seq ?_))
  refine Dz.ff (b := decide (((0 + a0.Done.length : Nat) : Int) < ((a0.Done.length : Nat) : Int))) rfl (decide_eq_false (by omega)) ?_
  refine Dz.exit (Dz.seq (Dz.reg (Dz.ret ?_)))
  cases hF
  exact finG [] [] rfl rfl (mv rfl) tv rfl
 ·refine Dz.seq (Dz.reg (Dz.seq ?_))
  refine Dz.tt (b := decide (((i2 : Nat) : Int) < ((a0.Done.length : Nat) : Int))) rfl (decide_eq_true (by omega)) ?_
  refine Dz.skip (Dz.seq (Dz.blk (Dz.seq (Dz.reg ?_))))
  refine vge (n := ((i2 : Nat) : Int)) (hi := (a0.Done.length : Int)) (by omega) (by omega) ?_
  have hF := ltE hF
  refine Dz.seq (Dz.reg ?_)
  refine Dz.ite rfl hF (fun _ hF => ?_) (fun _ hF => ?_)
  ·refine Dz.seq (Dz.reg (Dz.ret ?_))
   cases hF
   exact finG [] [] rfl rfl (mv rfl) tv rfl
  ·refine Dz.skip (Dz.reg ?_)
   refine vsucc (by omega) ?_
   exact ⟨(), entG [0] ⟨mv rfl, mp rfl, mv rfl, mv rfl, mv rfl, tv⟩ ⟨⟨rfl, o_box rfl⟩, tv⟩ rfl, hF⟩
def i_past (a0 : MapState) (a1 : Int) (a2 : Int) : Option (Bool) :=
 (i_doneOf a0 a1).bind (fun y1 => jn (fun (v2 : Unit) => loopN (fun i4 (v6 : Unit) κ7 => lt (a0.Disks.getD i4 default) (fun x8 => cond (!decide (x8.Frozen = 0)) (cond (decide (x8.Client = a1)) (cond (decide (a2 ≤ x8.Call)) (some true) (κ7 ())) (κ7 ())) (κ7 ()))) (fun (v6 : Unit) => some false) a0.Disks.length 0 ()) (fun j9 => cond (decide ((0 : Int) < y1.Call)) (cond (decide (a2 < y1.Call)) (some true) (cond (decide (y1.Call = a2)) (cond (!decide (y1.Code = 6)) (some true) (j9 ())) (j9 ()))) (j9 ())))
theorem i_past_c {t0_3 t0_4 t0_5 : Bool} {a0 : MapState} {a1 : Int} {a2 : Int} {r : Bool} (hF : i_past a0 a1 a2 = some r) : Con Tryz.prog 234 [.val true [.u (cI a0.Slots), .u (cI a0.Servers), .u (cI a0.Next), .u (ul MapDisk.c 7 t0_3 a0.Disks), .u (ul MapView.c 3 t0_4 a0.Views), .u (ul MapDone.c 4 t0_5 a0.Done)], vint .i64 a1, vint .i64 a2] [] (vbool r) [] := by
 refine Con.of_Dz tabOk Tryz.func234 rfl rfl rfl ?_
 delta i_past at hF
 refine Dz.seq (Dz.reg (Dz.seq (Dz.reg ?_)))
 refine bdE hF (fun y1 hy1 hF => ?_)
 refine callG [] (i_doneOf_c hy1) ⟨mv rfl, mv rfl, tv⟩ tv rfl ?_
 refine Dz.jn hF (fun v2 => ([(1, vint .i64 a1), (2, vint .i64 a2), (3, .ptr 0 0)], [.box 78 [.u (cI a0.Slots), .u (cI a0.Servers), .u (cI a0.Next), .u (ul MapDisk.c 7 t0_3 a0.Disks), .u (ul MapView.c 3 t0_4 a0.Views), .u (ul MapDone.c 4 t0_5 a0.Done)]])) (fun v2 hF => ?_) (fun hF => ?_)
 ·refine Dz.seq (Dz.seq (Dz.reg ?_))
  intro hb3; replace hb3 : a0.Disks.length ≤ 140737488355328 := hb3
  refine Dz.blk ?_
  refine Dz.cnt hF (fun i4 v6 => ([(1, vint .i64 a1), (2, vint .i64 a2), (34, .val false [.u (ul MapDisk.c 7 t0_3 a0.Disks)]), (35, vint .i64 ((a0.Disks.length : Nat) : Int)), (36, vint .i64 ((i4 : Nat) : Int))], [])) (entG [] ⟨mv rfl, mv rfl, mv rfl, mv rfl, mv rfl, tv⟩ tv rfl) (fun v6 hF => ?_) (fun i4 v6 κ7 hi0i4 hi1i4 hF => ?_)
  ·refine Dz.seq (Dz.reg (Dz.seq ?_))
   refine Dz.ff (b := decide (((0 + a0.Disks.length : Nat) : Int) < ((a0.Disks.length : Nat) : Int))) rfl (decide_eq_false (by omega)) ?_
   refine Dz.exit (Dz.seq (Dz.reg (Dz.ret ?_)))
   cases hF
   exact finG [] [] rfl rfl (mv rfl) tv rfl
  ·refine Dz.seq (Dz.reg (Dz.seq ?_))
   refine Dz.tt (b := decide (((i4 : Nat) : Int) < ((a0.Disks.length : Nat) : Int))) rfl (decide_eq_true (by omega)) ?_
   refine Dz.skip (Dz.seq (Dz.blk (Dz.seq (Dz.reg ?_))))
   refine vge (n := ((i4 : Nat) : Int)) (hi := (a0.Disks.length : Int)) (by omega) (by omega) ?_
   have hF := ltE hF
   refine Dz.seq (Dz.reg ?_)
   refine vif hF (fun _ hF => ?_) (fun _ hF => ?_)
   ·refine vif hF (fun _ hF => ?_) (fun _ hF => ?_)
    ·refine Dz.ite rfl hF (fun _ hF => ?_) (fun _ hF => ?_)
     ·refine Dz.seq (Dz.reg (Dz.ret ?_))
      cases hF
      exact finG [] [] rfl rfl (mv rfl) tv rfl
     ·refine Dz.skip (Dz.reg ?_)
      refine vsucc (by omega) ?_
      exact ⟨(), entG [] ⟨mv rfl, mv rfl, mv rfl, mv rfl, mv rfl, tv⟩ tv rfl, hF⟩
    ·refine Dz.ff (b := false) rfl rfl ?_
     refine Dz.skip (Dz.reg ?_)
     refine vsucc (by omega) ?_
     exact ⟨(), entG [] ⟨mv rfl, mv rfl, mv rfl, mv rfl, mv rfl, tv⟩ tv rfl, hF⟩
   ·refine Dz.ff (b := false) rfl rfl ?_
    refine Dz.skip (Dz.reg ?_)
    refine vsucc (by omega) ?_
    exact ⟨(), entG [] ⟨mv rfl, mv rfl, mv rfl, mv rfl, mv rfl, tv⟩ tv rfl, hF⟩
 ·refine Dz.seq (Dz.reg ?_)
  refine vif hF (fun _ hF => ?_) (fun _ hF => ?_)
  ·refine vif hF (fun _ hF => ?_) (fun _ hF => ?_)
   ·refine Dz.tt (b := true) rfl rfl ?_
    refine Dz.seq (Dz.reg (Dz.ret ?_))
    cases hF
    exact finG [] [] rfl rfl (mv rfl) tv rfl
   ·refine vif hF (fun _ hF => ?_) (fun _ hF => ?_)
    ·refine Dz.ite rfl hF (fun _ hF => ?_) (fun _ hF => ?_)
     ·refine Dz.seq (Dz.reg (Dz.ret ?_))
      cases hF
      exact finG [] [] rfl rfl (mv rfl) tv rfl
     ·refine Dz.skip ?_
      exact ⟨(), entG [0] ⟨mv rfl, mv rfl, mp rfl, tv⟩ ⟨⟨rfl, o_box rfl⟩, tv⟩ rfl, hF⟩
    ·refine Dz.ff (b := false) rfl rfl ?_
     refine Dz.skip ?_
     exact ⟨(), entG [0] ⟨mv rfl, mv rfl, mp rfl, tv⟩ ⟨⟨rfl, o_box rfl⟩, tv⟩ rfl, hF⟩
  ·refine Dz.ff (b := false) rfl rfl ?_
   refine Dz.skip ?_
   exact ⟨(), entG [0] ⟨mv rfl, mv rfl, mp rfl, tv⟩ ⟨⟨rfl, o_box rfl⟩, tv⟩ rfl, hF⟩
def i_judge (a0 : (List MapDisk)) (a1 : Int) (a2 : Int) (a3 : Int) (a4 : Bool) : Option (Int) :=
 (i_diskAt a0 a1).bind (fun y1 => cond (decide (y1 < 0)) (some 1) (ix a0 y1 (fun x2 => (i_in a2 0 (w64 (x2.Size - 1))).bind (fun y3 => cond (!y3) (some 2) (cond (!a4) (cond (!decide (a3 = 0)) (ix a0 y1 (fun x4 => (i_in a3 1 (w64 (x4.Epoch - 1))).bind (fun y5 => cond (!y5) (some 3) (some 0)))) (some 0)) (some 0))))))
theorem i_judge_c {t0_0 : Bool} {a0 : (List MapDisk)} {a1 : Int} {a2 : Int} {a3 : Int} {a4 : Bool} {r : Int} (hF : i_judge a0 a1 a2 a3 a4 = some r) : Con Tryz.prog 235 [.val false [.u (ul MapDisk.c 7 t0_0 a0)], vint .i64 a1, vint .i64 a2, vint .i64 a3, vbool a4] [] (vint .i64 r) [] := by
 refine Con.of_Dz tabOk Tryz.func235 rfl rfl rfl ?_
 delta i_judge at hF
 refine Dz.seq (Dz.reg (Dz.seq (Dz.reg ?_)))
 refine bdE hF (fun y1 hy1 hF => ?_)
 refine callG [] (i_diskAt_c hy1) ⟨mv rfl, mv rfl, tv⟩ tv rfl ?_
 refine Dz.seq (Dz.blk (Dz.seq (Dz.reg ?_)))
 refine Dz.ite rfl hF (fun _ hF => ?_) (fun _ hF => ?_)
 ·refine Dz.seq (Dz.reg (Dz.ret ?_))
  cases hF
  exact finG [] [] rfl rfl (mv rfl) tv rfl
 ·refine Dz.seq (Dz.reg ?_)
  refine vix hF (fun _ _ hF => ?_)
  refine vw64 ?_
  refine bdE hF (fun y3 hy3 hF => ?_)
  refine callG [] (i_in_c hy3) ⟨mv rfl, mv rfl, mv rfl, tv⟩ tv rfl ?_
  refine Dz.ite rfl hF (fun _ hF => ?_) (fun _ hF => ?_)
  ·refine Dz.seq (Dz.reg (Dz.ret ?_))
   cases hF
   exact finG [] [] rfl rfl (mv rfl) tv rfl
  ·refine Dz.seq (Dz.reg ?_)
   refine vif hF (fun _ hF => ?_) (fun _ hF => ?_)
   ·refine vif hF (fun _ hF => ?_) (fun _ hF => ?_)
    ·refine vix hF (fun _ _ hF => ?_)
     refine vw64 ?_
     refine bdE hF (fun y5 hy5 hF => ?_)
     refine callG [] (i_in_c hy5) ⟨mv rfl, mv rfl, mv rfl, tv⟩ tv rfl ?_
     refine Dz.ite rfl hF (fun _ hF => ?_) (fun _ hF => ?_)
     ·refine Dz.seq (Dz.reg (Dz.ret ?_))
      cases hF
      exact finG [] [] rfl rfl (mv rfl) tv rfl
     ·refine Dz.skip (Dz.seq (Dz.reg (Dz.ret ?_)))
      cases hF
      exact finG [] [] rfl rfl (mv rfl) tv rfl
    ·refine Dz.ff (b := false) rfl rfl ?_
     refine Dz.skip (Dz.seq (Dz.reg (Dz.ret ?_)))
     cases hF
     exact finG [] [] rfl rfl (mv rfl) tv rfl
   ·refine Dz.ff (b := false) rfl rfl ?_
    refine Dz.skip (Dz.seq (Dz.reg (Dz.ret ?_)))
    cases hF
    exact finG [] [] rfl rfl (mv rfl) tv rfl
def i_doCall (a0 : MapState) (a1 : Cmd) : Option (MapState) :=
 (i_isClient a1.Client).bind (fun y1 => cond (!y1) (some a0) (cond (decide (a1.Call < 1)) (some a0) ((i_past a0 a1.Client a1.Call).bind (fun y2 => cond y2 (some a0) ((i_diskAt a0.Disks a1.Disk).bind (fun y3 => jn (fun (v7 : Int × Int × MapState) => (i_tell v7.2.2 ({ Client := a1.Client, Call := a1.Call, Code := v7.1, Value := v7.2.1 } : MapDone)).bind (fun y8 => some y8)) (fun j9 => cond (decide (a1.Kind = 1)) ((i_in a1.Arg 1 8).bind (fun y10 => cond (!y10) (j9 (4, 0, a0)) (cond (decide ((4 : Int) < a0.Next)) (j9 (4, 0, a0)) (ck ((a0.Disks.length + 1) * 72 ≤ 140737488355328) (j9 (0, a0.Next, ({ Slots := a0.Slots, Servers := a0.Servers, Next := (w64 (a0.Next + 1)), Disks := (a0.Disks ++ ([({ Id := a0.Next, Size := a1.Arg, Epoch := 1, Frozen := 0, Client := 0, Call := 0, Acks := [] } : MapDisk)] : List MapDisk)), Views := a0.Views, Done := a0.Done } : MapState))))))) (jn (fun (v12 : Bool) => cond v12 (cond (decide (y3 < 0)) (j9 (1, 0, a0)) (ix a0.Disks y3 (fun _ => cond (!decide ((a0.Disks.getD y3.toNat default).Frozen = 0)) (j9 (5, 0, a0)) (ix a0.Disks y3 (fun _ => lt (a0.Disks.getD y3.toNat default) (fun x13 => cond (decide (a1.Kind = 3)) (ix a0.Disks y3 (fun _ => lt (a0.Disks.set y3.toNat ({ Id := x13.Id, Size := x13.Size, Epoch := x13.Epoch, Frozen := 2, Client := a1.Client, Call := a1.Call, Acks := [] } : MapDisk)) (fun r14 => some ({ Slots := a0.Slots, Servers := a0.Servers, Next := a0.Next, Disks := r14, Views := a0.Views, Done := a0.Done } : MapState)))) (ix a0.Disks y3 (fun _ => lt (a0.Disks.set y3.toNat ({ Id := x13.Id, Size := x13.Size, Epoch := x13.Epoch, Frozen := 1, Client := a1.Client, Call := a1.Call, Acks := [] } : MapDisk)) (fun r15 => some ({ Slots := a0.Slots, Servers := a0.Servers, Next := a0.Next, Disks := r15, Views := a0.Views, Done := a0.Done } : MapState)))))))))) (cond (decide (a1.Kind = 4)) (cond (decide (a0.Servers = 5)) (j9 (4, 0, a0)) (j9 (0, (w64 (a0.Servers + 1)), ({ Slots := a0.Slots, Servers := (w64 (a0.Servers + 1)), Next := a0.Next, Disks := a0.Disks, Views := a0.Views, Done := a0.Done } : MapState)))) (jn (fun (v16 : Unit) => (i_judge a0.Disks a1.Disk a1.Arg a1.Epoch (decide (a1.A = 1))).bind (fun y17 => cond (decide (y17 = 0)) (j9 (6, 0, a0)) (j9 (y17, 0, a0)))) (fun j18 => cond (decide (a1.A = 1)) ((i_isRange a1.Range).bind (fun y19 => cond (!y19) (some a0) (ix a0.Views a1.Range (fun x20 => cond (!decide (x20.Num = a1.Num)) (some a0) (j18 ()))))) (j18 ()))))) (fun j21 => cond (decide (a1.Kind = 2)) (j21 (decide (a1.Kind = 2))) (j21 (decide (a1.Kind = 3))))))))))))
theorem i_doCall_c {a0 : MapState} {a1 : Cmd} {r : MapState} (hF : i_doCall a0 a1 = some r) : Con Tryz.prog 186 [.val true [.u (cI a0.Slots), .u (cI a0.Servers), .u (cI a0.Next), .row 0, .u (ul MapView.c 3 false a0.Views), .u (ul MapDone.c 4 false a0.Done)], .val true (Cmd.L a1)] [.row 176 a0.Disks.length 7 (gl MapDisk.c a0.Disks)] (.val true (MapState.L r)) [.none] := by
 refine Con.of_Dz tabOk Tryz.func186 rfl rfl rfl ?_
 delta i_doCall at hF
 refine Dz.seq (Dz.reg (Dz.seq (Dz.seq (Dz.reg ?_))))
 refine bdE hF (fun y1 hy1 hF => ?_)
 refine callG [] (i_isClient_c hy1) ⟨mv rfl, tv⟩ tv rfl ?_
 refine vif hF (fun _ hF => ?_) (fun _ hF => ?_)
 ·refine Dz.tt (b := true) rfl rfl ?_
  refine Dz.seq (Dz.reg (Dz.ret ?_))
  cases hF
  exact finG [.frz 0] [0] rfl rfl (⟨rfl, lr, lr, lr, lr, lr, lr, tv⟩) ⟨⟨rfl, tv⟩, tv⟩ rfl
 ·refine vif hF (fun _ hF => ?_) (fun _ hF => ?_)
  ·refine Dz.tt (b := true) rfl rfl ?_
   refine Dz.seq (Dz.reg (Dz.ret ?_))
   cases hF
   exact finG [.frz 0] [0] rfl rfl (⟨rfl, lr, lr, lr, lr, lr, lr, tv⟩) ⟨⟨rfl, tv⟩, tv⟩ rfl
  ·refine bdE hF (fun y2 hy2 hF => ?_)
   refine callL [] (i_past_c hy2) ⟨⟨rfl, lr, lr, lr, ⟨rfl, rfl, lr⟩, lr, lr, tv⟩, mv rfl, mv rfl, tv⟩ tv rfl ⟨⟨tv, tv⟩, tv⟩ ?_
   refine Dz.ite rfl hF (fun _ hF => ?_) (fun _ hF => ?_)
   ·refine Dz.seq (Dz.reg (Dz.ret ?_))
    cases hF
    exact finG [.frz 0] [0] rfl rfl (⟨rfl, lr, lr, lr, lr, lr, lr, tv⟩) ⟨⟨rfl, tv⟩, tv⟩ rfl
   ·refine Dz.skip (Dz.seq (Dz.reg (Dz.seq (Dz.reg ?_))))
    refine bdE hF (fun y3 hy3 hF => ?_)
    refine callL [] (i_diskAt_c hy3) ⟨⟨rfl, ⟨rfl, rfl, lr⟩, tv⟩, mv rfl, tv⟩ tv rfl ⟨⟨tv, tv⟩, tv⟩ ?_
    refine Dz.jn hF (fun v7 => ([(2, .ptr 1 0), (3, .ptr 2 0), (4, .ptr 3 0), (5, vint .i64 v7.1), (6, vint .i64 v7.2.1)], [.none, .box 78 [.u (cI v7.2.2.Slots), .u (cI v7.2.2.Servers), .u (cI v7.2.2.Next), .row 4, .u (ul MapView.c 3 false v7.2.2.Views), .u (ul MapDone.c 4 false v7.2.2.Done)], .box 44 (Cmd.L a1), .box 78 [.u (cI 0), .u (cI 0), .u (cI 0), .nil, .nil, .nil], .row 176 v7.2.2.Disks.length 7 (gl MapDisk.c v7.2.2.Disks)])) (fun v7 hF => ?_) (fun hF => ?_)
    ·refine Dz.seq (Dz.reg ?_)
     refine bdE hF (fun y8 hy8 hF => ?_)
     refine callF [4] [] (i_tell_c hy8) ⟨⟨rfl, lr, lr, lr, lr, lr, lr, tv⟩, mv rfl, tv⟩ tv rfl ?_
     refine Dz.ret ?_
     cases hF
     exact finG [.frz 5] [0] rfl rfl (⟨rfl, lr, lr, lr, lr, lr, lr, tv⟩) ⟨⟨rfl, tv⟩, tv⟩ rfl
    ·refine Dz.seq (Dz.reg (Dz.blk (Dz.seq (Dz.reg ?_))))
     refine Dz.ite rfl hF (fun _ hF => ?_) (fun _ hF => ?_)
     ·refine Dz.seq (Dz.seq (Dz.reg ?_))
      refine bdE hF (fun y10 hy10 hF => ?_)
      refine callG [] (i_in_c hy10) ⟨mv rfl, mv rfl, mv rfl, tv⟩ tv rfl ?_
      refine vif hF (fun _ hF => ?_) (fun _ hF => ?_)
      ·refine Dz.tt (b := true) rfl rfl ?_
       refine Dz.seq (Dz.reg (Dz.exit ?_))
       exact ⟨(4, 0, a0), entG [0, 1, 2, 3, 0] ⟨mp rfl, mp rfl, mp rfl, mv rfl, mv rfl, tv⟩ ⟨⟨rfl, tv⟩, ⟨rfl, ⟨rfl, lr, lr, lr, rfl, lr, lr, tv⟩⟩, ⟨rfl, o_box rfl⟩, ⟨rfl, ⟨rfl, lr, lr, lr, tv, tv, tv, tv⟩⟩, ⟨rfl, o_row⟩, tv⟩ rfl, hF⟩
      ·refine Dz.ite rfl hF (fun _ hF => ?_) (fun _ hF => ?_)
       ·refine Dz.seq (Dz.reg (Dz.exit ?_))
        exact ⟨(4, 0, a0), entG [0, 1, 2, 3, 0] ⟨mp rfl, mp rfl, mp rfl, mv rfl, mv rfl, tv⟩ ⟨⟨rfl, tv⟩, ⟨rfl, ⟨rfl, lr, lr, lr, rfl, lr, lr, tv⟩⟩, ⟨rfl, o_box rfl⟩, ⟨rfl, ⟨rfl, lr, lr, lr, tv, tv, tv, tv⟩⟩, ⟨rfl, o_row⟩, tv⟩ rfl, hF⟩
       ·refine Dz.skip (Dz.seq (Dz.reg ?_))
        refine vck hF id (fun _ hF => ?_)
        refine Dz.row 4 ([({ Id := a0.Next, Size := a1.Arg, Epoch := 1, Frozen := 0, Client := 0, Call := 0, Acks := [] } : MapDisk)] : List MapDisk).length (gl MapDisk.c ([({ Id := a0.Next, Size := a1.Arg, Epoch := 1, Frozen := 0, Client := 0, Call := 0, Acks := [] } : MapDisk)] : List MapDisk)) rfl (by simp <;> omega) (EqG.lit (c := MapDisk.c) (sz := 7) (L := ([({ Id := a0.Next, Size := a1.Arg, Epoch := 1, Frozen := 0, Client := 0, Call := 0, Acks := [] } : MapDisk)] : List MapDisk)) ⟨lr, lr, lr, lr, lr, lr, LeU.nil, tv⟩) ?_
        refine Dz.row 5 (a0.Disks ++ ([({ Id := a0.Next, Size := a1.Arg, Epoch := 1, Frozen := 0, Client := 0, Call := 0, Acks := [] } : MapDisk)] : List MapDisk)).length (gl MapDisk.c (a0.Disks ++ ([({ Id := a0.Next, Size := a1.Arg, Epoch := 1, Frozen := 0, Client := 0, Call := 0, Acks := [] } : MapDisk)] : List MapDisk))) rfl (by simp <;> omega) (EqG.app rfl (by simp <;> omega) (EqG.refl _ _ _) (EqG.lit (c := MapDisk.c) (sz := 7) (L := ([({ Id := a0.Next, Size := a1.Arg, Epoch := 1, Frozen := 0, Client := 0, Call := 0, Acks := [] } : MapDisk)] : List MapDisk)) ⟨lr, lr, lr, lr, lr, lr, LeU.nil, tv⟩)) ?_
        refine Dz.seq (Dz.reg (Dz.reg (vw64 ?_)))
        exact ⟨(0, a0.Next, ({ Slots := a0.Slots, Servers := a0.Servers, Next := (w64 (a0.Next + 1)), Disks := (a0.Disks ++ ([({ Id := a0.Next, Size := a1.Arg, Epoch := 1, Frozen := 0, Client := 0, Call := 0, Acks := [] } : MapDisk)] : List MapDisk)), Views := a0.Views, Done := a0.Done } : MapState)), entG [0, 1, 2, 3, 5] ⟨mp rfl, mp rfl, mp rfl, mv rfl, mv rfl, tv⟩ ⟨⟨rfl, tv⟩, ⟨rfl, ⟨rfl, lr, lr, lr, rfl, lr, lr, tv⟩⟩, ⟨rfl, o_box rfl⟩, ⟨rfl, ⟨rfl, lr, lr, lr, tv, tv, tv, tv⟩⟩, ⟨rfl, o_row⟩, tv⟩ rfl, hF⟩
     ·refine Dz.jn hF (fun v12 => ([(2, .ptr 1 0), (3, .ptr 2 0), (4, .ptr 3 0), (5, vint .i64 0), (6, vint .i64 0), (7, vint .i64 y3), (33, vint .i64 a1.Kind), (97, vbool v12)], [.row 176 a0.Disks.length 7 (gl MapDisk.c a0.Disks), .box 78 [.u (cI a0.Slots), .u (cI a0.Servers), .u (cI a0.Next), .row 0, .u (ul MapView.c 3 false a0.Views), .u (ul MapDone.c 4 false a0.Done)], .box 44 (Cmd.L a1), .box 78 [.u (cI 0), .u (cI 0), .u (cI 0), .nil, .nil, .nil]])) (fun v12 hF => ?_) (fun hF => ?_)
      ·refine Dz.ite rfl hF (fun _ hF => ?_) (fun _ hF => ?_)
       ·refine Dz.blk (Dz.seq (Dz.reg ?_))
        refine Dz.ite rfl hF (fun _ hF => ?_) (fun _ hF => ?_)
        ·refine Dz.reg ?_
         exact ⟨(1, 0, a0), entG [0, 1, 2, 3, 0] ⟨mp rfl, mp rfl, mp rfl, mv rfl, mv rfl, tv⟩ ⟨⟨rfl, tv⟩, ⟨rfl, ⟨rfl, lr, lr, lr, rfl, lr, lr, tv⟩⟩, ⟨rfl, o_box rfl⟩, ⟨rfl, ⟨rfl, lr, lr, lr, tv, tv, tv, tv⟩⟩, ⟨rfl, o_row⟩, tv⟩ rfl, hF⟩
        ·refine Dz.seq (Dz.reg ?_)
         refine vix hF (fun _ _ hF => ?_)
         refine Dz.ite rfl hF (fun _ hF => ?_) (fun _ hF => ?_)
         ·refine Dz.reg ?_
          exact ⟨(5, 0, a0), entG [0, 1, 2, 3, 0] ⟨mp rfl, mp rfl, mp rfl, mv rfl, mv rfl, tv⟩ ⟨⟨rfl, tv⟩, ⟨rfl, ⟨rfl, lr, lr, lr, rfl, lr, lr, tv⟩⟩, ⟨rfl, o_box rfl⟩, ⟨rfl, ⟨rfl, lr, lr, lr, tv, tv, tv, tv⟩⟩, ⟨rfl, o_row⟩, tv⟩ rfl, hF⟩
         ·refine Dz.seq (Dz.reg ?_)
          refine vix hF (fun _ _ hF => ?_)
          have hF := ltE hF
          refine Dz.seq ?_
          refine Dz.drw 5 [⟨[107,108,109], [], 5, 5⟩, ⟨[107,108,109], [2], 5, 5⟩, ⟨[105,106,109,110], [], 5, 5⟩, ⟨[105,106,109,110], [2], 5, 5⟩, ⟨[105,106,107,108], [], 5, 5⟩, ⟨[105,106,107,108], [4], 5, 5⟩, ⟨[107,108], [], 5, 5⟩, ⟨[107,108], [4], 5, 5⟩, ⟨[], [], 5, 5⟩, ⟨[], [4], 5, 5⟩, ⟨[], [], 5, 5⟩, ⟨[], [4], 5, 5⟩] ⟨by kernel_rfl, by kernel_rfl, rfl⟩ ?_
          refine Dz.seq (Dz.seq (Dz.reg ?_))
          refine Dz.ite rfl hF (fun _ hF => ?_) (fun _ hF => ?_)
          ·refine Dz.reg (Dz.seq (Dz.reg ?_))
           refine vix hF (fun _ _ hF => ?_)
           refine ltX hF (fun r14 hr14 hF => ?_)
           have hlr14 : r14.length = a0.Disks.length := by rw [hr14]; simp <;> omega
           refine Dz.row 0 r14.length (gl MapDisk.c r14) rfl (by rw [hr14]; simp <;> omega) (by rw [hr14]; exact (EqG.set' rfl (EqG.refl _ _ _) ⟨lr, lr, lr, lr, lr, lr, LeU.nil, tv⟩)) ?_
           refine Dz.seq (Dz.reg (Dz.ret ?_))
           cases hF
           exact finG [.frz 0] [0] rfl rfl (⟨rfl, lr, lr, lr, lr, lr, lr, tv⟩) ⟨⟨rfl, tv⟩, tv⟩ rfl
          ·refine Dz.skip (Dz.seq (Dz.reg ?_))
           refine vix hF (fun _ _ hF => ?_)
           refine ltX hF (fun r15 hr15 hF => ?_)
           have hlr15 : r15.length = a0.Disks.length := by rw [hr15]; simp <;> omega
           refine Dz.row 0 r15.length (gl MapDisk.c r15) rfl (by rw [hr15]; simp <;> omega) (by rw [hr15]; exact (EqG.set' rfl (EqG.refl _ _ _) ⟨lr, lr, lr, lr, lr, lr, LeU.nil, tv⟩)) ?_
           refine Dz.seq (Dz.reg (Dz.ret ?_))
           cases hF
           exact finG [.frz 0] [0] rfl rfl (⟨rfl, lr, lr, lr, lr, lr, lr, tv⟩) ⟨⟨rfl, tv⟩, tv⟩ rfl
       ·refine Dz.seq (Dz.reg ?_)
        refine Dz.ite rfl hF (fun _ hF => ?_) (fun _ hF => ?_)
        ·refine Dz.seq (Dz.seq (Dz.reg ?_))
         refine Dz.ite rfl hF (fun _ hF => ?_) (fun _ hF => ?_)
         ·refine Dz.seq (Dz.reg (Dz.exit ?_))
          exact ⟨(4, 0, a0), entG [0, 1, 2, 3, 0] ⟨mp rfl, mp rfl, mp rfl, mv rfl, mv rfl, tv⟩ ⟨⟨rfl, tv⟩, ⟨rfl, ⟨rfl, lr, lr, lr, rfl, lr, lr, tv⟩⟩, ⟨rfl, o_box rfl⟩, ⟨rfl, ⟨rfl, lr, lr, lr, tv, tv, tv, tv⟩⟩, ⟨rfl, o_row⟩, tv⟩ rfl, hF⟩
         ·refine Dz.skip (Dz.seq (Dz.reg (vw64 (Dz.reg ?_))))
          exact ⟨(0, (w64 (a0.Servers + 1)), ({ Slots := a0.Slots, Servers := (w64 (a0.Servers + 1)), Next := a0.Next, Disks := a0.Disks, Views := a0.Views, Done := a0.Done } : MapState)), entG [0, 1, 2, 3, 0] ⟨mp rfl, mp rfl, mp rfl, mv rfl, mv rfl, tv⟩ ⟨⟨rfl, tv⟩, ⟨rfl, ⟨rfl, lr, lr, lr, rfl, lr, lr, tv⟩⟩, ⟨rfl, o_box rfl⟩, ⟨rfl, ⟨rfl, lr, lr, lr, tv, tv, tv, tv⟩⟩, ⟨rfl, o_row⟩, tv⟩ rfl, hF⟩
        ·refine Dz.jn hF (fun v16 => ([(2, .ptr 1 0), (3, .ptr 2 0), (4, .ptr 3 0), (6, vint .i64 0)], [.row 176 a0.Disks.length 7 (gl MapDisk.c a0.Disks), .box 78 [.u (cI a0.Slots), .u (cI a0.Servers), .u (cI a0.Next), .row 0, .u (ul MapView.c 3 false a0.Views), .u (ul MapDone.c 4 false a0.Done)], .box 44 (Cmd.L a1), .box 78 [.u (cI 0), .u (cI 0), .u (cI 0), .nil, .nil, .nil]])) (fun v16 hF => ?_) (fun hF => ?_)
         ·refine Dz.seq (Dz.reg ?_)
          refine bdE hF (fun y17 hy17 hF => ?_)
          refine callL [] (i_judge_c hy17) ⟨⟨rfl, ⟨rfl, rfl, lr⟩, tv⟩, mv rfl, mv rfl, mv rfl, mv rfl, tv⟩ tv rfl ⟨⟨tv, tv⟩, tv⟩ ?_
          refine Dz.seq (Dz.reg ?_)
          refine Dz.ite rfl hF (fun _ hF => ?_) (fun _ hF => ?_)
          ·refine Dz.reg ?_
           exact ⟨(6, 0, a0), entG [0, 1, 2, 3, 0] ⟨mp rfl, mp rfl, mp rfl, mv rfl, mv rfl, tv⟩ ⟨⟨rfl, tv⟩, ⟨rfl, ⟨rfl, lr, lr, lr, rfl, lr, lr, tv⟩⟩, ⟨rfl, o_box rfl⟩, ⟨rfl, ⟨rfl, lr, lr, lr, tv, tv, tv, tv⟩⟩, ⟨rfl, o_row⟩, tv⟩ rfl, hF⟩
          ·refine Dz.skip ?_
           exact ⟨(y17, 0, a0), entG [0, 1, 2, 3, 0] ⟨mp rfl, mp rfl, mp rfl, mv rfl, mv rfl, tv⟩ ⟨⟨rfl, tv⟩, ⟨rfl, ⟨rfl, lr, lr, lr, rfl, lr, lr, tv⟩⟩, ⟨rfl, o_box rfl⟩, ⟨rfl, ⟨rfl, lr, lr, lr, tv, tv, tv, tv⟩⟩, ⟨rfl, o_row⟩, tv⟩ rfl, hF⟩
         ·refine Dz.seq ?_
          refine Dz.drw 4 [⟨[], [], 4, 4⟩, ⟨[], [2], 4, 4⟩, ⟨[], [], 4, 4⟩, ⟨[], [], 4, 4⟩, ⟨[], [], 4, 4⟩, ⟨[], [2], 4, 4⟩, ⟨[], [], 4, 4⟩, ⟨[], [], 4, 4⟩, ⟨[], [], 4, 4⟩, ⟨[45,46,50,51], [], 4, 4⟩, ⟨[45,46,50,51], [1], 4, 4⟩, ⟨[43,44,50,51], [], 4, 4⟩, ⟨[43,44,50,51], [2], 4, 4⟩, ⟨[50,51], [], 4, 4⟩, ⟨[50,51], [], 4, 4⟩, ⟨[50,51], [], 4, 4⟩, ⟨[43,44,45,46,47,48,49], [], 4, 4⟩, ⟨[43,44,45,46,47,48,49], [2], 4, 4⟩, ⟨[], [], 4, 4⟩, ⟨[], [], 4, 4⟩, ⟨[], [], 4, 4⟩] ⟨by kernel_rfl, by kernel_rfl, rfl⟩ ?_
          refine vif hF (fun _ hF => ?_) (fun _ hF => ?_)
          ·refine bdE hF (fun y19 hy19 hF => ?_)
           refine callG [] (i_isRange_c hy19) ⟨mv rfl, tv⟩ tv rfl ?_
           refine vif hF (fun _ hF => ?_) (fun _ hF => ?_)
           ·refine Dz.tt (b := true) rfl rfl ?_
            refine Dz.seq (Dz.reg (Dz.ret ?_))
            cases hF
            exact finG [.frz 0] [0] rfl rfl (⟨rfl, lr, lr, lr, lr, lr, lr, tv⟩) ⟨⟨rfl, tv⟩, tv⟩ rfl
           ·refine vix hF (fun _ _ hF => ?_)
            refine Dz.ite rfl hF (fun _ hF => ?_) (fun _ hF => ?_)
            ·refine Dz.seq (Dz.reg (Dz.ret ?_))
             cases hF
             exact finG [.frz 0] [0] rfl rfl (⟨rfl, lr, lr, lr, lr, lr, lr, tv⟩) ⟨⟨rfl, tv⟩, tv⟩ rfl
            ·refine Dz.skip ?_
             exact ⟨(), entG [0, 1, 2, 3] ⟨mp rfl, mp rfl, mp rfl, mv rfl, tv⟩ ⟨⟨rfl, o_row⟩, ⟨rfl, ⟨rfl, lr, lr, lr, rfl, lr, lr, tv⟩⟩, ⟨rfl, o_box rfl⟩, ⟨rfl, ⟨rfl, lr, lr, lr, tv, tv, tv, tv⟩⟩, tv⟩ rfl, hF⟩
          ·refine Dz.ff (b := false) rfl rfl ?_
           refine Dz.skip ?_
           exact ⟨(), entG [0, 1, 2, 3] ⟨mp rfl, mp rfl, mp rfl, mv rfl, tv⟩ ⟨⟨rfl, o_row⟩, ⟨rfl, ⟨rfl, lr, lr, lr, rfl, lr, lr, tv⟩⟩, ⟨rfl, o_box rfl⟩, ⟨rfl, ⟨rfl, lr, lr, lr, tv, tv, tv, tv⟩⟩, tv⟩ rfl, hF⟩
      ·refine Dz.seq (Dz.reg ?_)
       refine Dz.ite rfl hF (fun _ hF => ?_) (fun _ hF => ?_)
       ·refine Dz.skip ?_
        exact ⟨(decide (a1.Kind = 2)), entG [0, 1, 2, 3] ⟨mp rfl, mp rfl, mp rfl, mv rfl, mv rfl, mv rfl, mv rfl, mv rfl, tv⟩ ⟨⟨rfl, o_row⟩, ⟨rfl, ⟨rfl, lr, lr, lr, rfl, lr, lr, tv⟩⟩, ⟨rfl, o_box rfl⟩, ⟨rfl, ⟨rfl, lr, lr, lr, tv, tv, tv, tv⟩⟩, tv⟩ rfl, hF⟩
       ·refine Dz.reg ?_
        exact ⟨(decide (a1.Kind = 3)), entG [0, 1, 2, 3] ⟨mp rfl, mp rfl, mp rfl, mv rfl, mv rfl, mv rfl, mv rfl, mv rfl, tv⟩ ⟨⟨rfl, o_row⟩, ⟨rfl, ⟨rfl, lr, lr, lr, rfl, lr, lr, tv⟩⟩, ⟨rfl, o_box rfl⟩, ⟨rfl, ⟨rfl, lr, lr, lr, tv, tv, tv, tv⟩⟩, tv⟩ rfl, hF⟩
end Go.Proofs.PanS

namespace Go.Proofs.PanS
set_option maxRecDepth 8000
open Go.Vs
open Go.RowKit (Below)
theorem walk80_nil (A : Option Addr) (c : Nat) (w : World) : Calls Tryz.prog 80 #[.slice A 0 c] w fun e w' => e = .returned (.slice none 0 0) ∧ w' = w := by
 go_enter Tryz.func80, Tryz.ntmps80
 go_wp2
 go_ret
 exact ⟨rfl, rfl⟩
theorem walk80 (A : Option Addr) (n c : Nat) (w w1 w2 : World) (vm : Value) (hn : 0 < n) (hm : (Instr.makeSlice 47 (.int .i64 n) (.int .i64 n)).run Tryz.prog w = .ok vm w1)
  (hc : ∀ ty, (Builtin.copy_ #[47, 47] ty #[vm, .slice A n c]).run Tryz.prog w1 = .ok (goInt n) w2) :
  Calls Tryz.prog 80 #[.slice A n c] w fun e w' => e = .returned vm ∧ w' = w2 := by
 have hne : ((n : Int) == 0) = false := by simp; omega
 go_enter Tryz.func80, Tryz.ntmps80
 go_wp2
 go_ret
 exact ⟨rfl, rfl⟩
def intVs (L : List Int) : List Value := L.map (Value.int .i64)
theorem intVs_get {L : List Int} {i : Nat} (h : i < L.length) : (intVs L)[i]? = some (.int .i64 (L.getD i default)) := by
 unfold intVs
 rw [List.getElem?_map, List.getElem?_eq_getElem h, List.getD_eq_getElem?_getD, List.getElem?_eq_getElem h]; rfl
def xul {α : Type} [Inhabited α] (c : α → Nat → U) (sz : Nat) (L : List α) : U := .xsl L.length sz (gl c L)
def gX (g0 : Gh) (X : Nat → Prop) : Gh := { g0 with Fz := fun b => g0.Fz b ∨ X b, om := fun _ => none, df := fun _ => False }
theorem i_copied_int_x {t0_0 : Bool} {a0 : (List Int)} {r : (List Int)} (hF : i_copied_int a0 = some r) : Con Tryz.prog 80 [.val false [.u (ul cInt 1 t0_0 a0)]] [] (.val false [.u (xul cInt 1 r)]) [] := by
 refine ⟨(i_copied_int_c (t0_0 := t0_0) hF).1, fun w0 g0 vals hpre _ => ?_⟩
 obtain ⟨v, rfl⟩ : ∃ v, vals = [v] := by
  have := hpre.args
  match vals, this with
  | [v], _ => exact ⟨v, rfl⟩
  | [], h => exact h.elim
  | _ :: _ :: _, h => exact h.2.elim
 obtain ⟨A, c, rfl, h1, h2, h3⟩ : RU w0 g0 (ul cInt 1 t0_0 a0) v := RV.cell hpre.args.1
 unfold i_copied_int at hF
 have hpost : ∀ (X : Nat → Prop) (w : World) (v : Value), RU w (gX g0 X) (xul cInt 1 r) v → v.oneCell' = true → (∀ b, X b → w0.heap.size ≤ b ∧ b < w.heap.size) → w.os = w0.os → w.tape = w0.tape → w.output = w0.output → w0.heap.size ≤ w.heap.size →
   (∀ k, k < w0.heap.size → w.heap[k]? = w0.heap[k]?) → Post 0 (.val false [.u (xul cInt 1 r)]) [] w0 g0 w (gX g0 X) v := fun X w v hu _ hX e1 e2 e3 e4 e5 =>
  ⟨RV.of_cell hu, fun r hr => absurd hr (Nat.not_lt_zero r), fun r => ⟨fun h => h.elim, fun h => absurd h (Nat.not_lt_zero r)⟩, Nat.le_refl _, fun b hb => by
   rcases hb with hb | hb
   ·exact ⟨.inr (.inl hb), Nat.lt_of_lt_of_le (hpre.fz b hb).1 e4, rfl⟩
   ·exact ⟨.inl (hX b hb).1, (hX b hb).2, rfl⟩, rfl, fun _ _ => rfl, fun b r h => (by cases h), fun r hr => absurd hr (Nat.not_lt_zero r), e1, e2, e3, e4, fun k hk _ => e5 k hk⟩
 by_cases hn : a0.length = 0
 ·rw [decide_eq_true (by omega), cond_true] at hF
  cases hF
  obtain rfl : a0 = [] := List.eq_nil_of_length_eq_zero hn
  have h := walk80_nil A c w0
  refine h.mono fun e w ⟨he, hw⟩ => ?_
  subst he; subst hw
  exact ⟨_, gX g0 (fun _ => False), rfl, hpost _ _ _ ⟨none, rfl, by decide, fun h => absurd h (Nat.lt_irrefl 0)⟩ rfl (fun b h => h.elim) rfl rfl rfl (Nat.le_refl _) fun _ _ => rfl⟩
 ·rw [decide_eq_false (by omega), cond_false] at hF
  obtain ⟨hk, hF⟩ := ckE hF
  obtain ⟨b, o, rfl, hz, hc⟩ := h3 (by omega)
  have hr : r = a0 := by
   have : cpy (List.replicate a0.length (0 : Int)) a0 = a0 := by unfold cpy; simp
   rw [this] at hF
   exact (Option.some.inj hF).symm
  subst hr
  have hcell : ∀ i, i < r.length → w0.cell? ⟨b, o + i, none⟩ = some (.int .i64 (r.getD i default)) := fun i hi => by
   obtain ⟨x, hx, hu⟩ := hc i hi 0 (by omega)
   rw [show x = .int .i64 (r.getD i default) from hu] at hx
   simpa using hx
  have hb : b < w0.heap.size := by
   rcases hz with hz | ⟨_, hz⟩
   ·exact (hpre.fz b hz).1
   ·exact (hpre.tz b hz).1
  have ty := tabOk 3 _ (show T 3 = some _ from rfl)
  have hu : Tryz.prog.underlying 47 = some (.slice 3) := (tabOk 47 _ (show T 47 = some _ from rfl)).desc
  obtain ⟨inf, z, q1, q2, q3, q4, q5⟩ := ty.info
  have hm := run_make (P := Tryz.prog) w0 47 3 inf z hu q1 q4 .i64 .i64 (r.length : Int) (r.length : Int) (by omega) (Int.le_refl _) (by rw [q3]; simp only [bound] at h2; show (8 : Int) * _ ≤ _; omega) (by simp only [bound] at h2; omega)
  simp only [Int.toNat_natCast] at hm
  have hinf : inf.size = 1 := q2
  rw [hinf, Nat.mul_one] at hm
  generalize hw1 : w0.alloc (.cells (madeCells z.cells r.length) 3) = w1 at hm
  have hg1 : w1.heap[w0.heap.size]? = some (.cells (madeCells z.cells r.length) 3 (0, 0)) := by rw [← hw1]; exact heap_alloc_new w0 _
  have hold : ∀ k, k < w0.heap.size → w1.heap[k]? = w0.heap[k]? := fun k hk => by rw [← hw1]; exact heap_alloc_old w0 _ hk
  have hlen : (intVs r).length = r.length := by simp [intVs]
  have hcp := fun ty => run_copy (P := Tryz.prog) (t := 47) (t2 := 47) (ty := ty) hu (tabOk 3 _ (show T 3 = some _ from rfl)) w0.heap.size r.length r.length (some ⟨b, o, none⟩) r.length c (madeCells z.cells r.length) (intVs r) w1 hg1
   (by simp [madeCells]) (by rw [hlen]; simp) (fun v hv => by
    obtain ⟨x, _, rfl⟩ := List.mem_map.1 hv
    rfl) (fun h => by cases h) (fun ad had q v hv => by
    injection had with had
    subst had
    rw [addr_add]
    have hq : q < r.length := by rw [← hlen]; exact (List.getElem?_eq_some_iff.1 hv).1
    rw [intVs_get hq] at hv
    injection hv with hv
    rw [← hv, ← hcell q hq]
    exact cell_of_heap (hold b hb))
  have hmin : Nat.min r.length r.length = r.length := Nat.min_self _
  rw [hmin] at hcp
  refine (walk80 (some ⟨b, o, none⟩) r.length c w0 w1 _ _ (by omega) hm (fun ty => hcp ty)).mono fun e w ⟨he, hw⟩ => ?_
  subst he
  have hsz : w.heap.size = w0.heap.size + 1 := by rw [hw, setRow_size, ← hw1]; exact Array.size_push ..
  have hg2 := setRow_heap w1 w0.heap.size _ (spliceL (madeCells z.cells r.length).toList 0 (intVs r)).toArray 3 _ hg1
  rw [← hw] at hg2
  refine ⟨_, gX g0 (fun b => b = w0.heap.size), rfl, hpost _ _ _ ⟨_, rfl, h2, fun _ => ⟨w0.heap.size, 0, rfl, .inr rfl, fun i hi j hj => ⟨.int .i64 (r.getD i default), ?_, rfl⟩⟩⟩ rfl (fun b hb => by subst hb; omega) ?_ ?_ ?_ (by omega) fun k hk => ?_⟩
  ·rw [cell_of_row w _ _ _ 3 _ hg2]
   obtain rfl : j = 0 := by omega
   have hml : (madeCells z.cells r.length).size = r.length := by simp [madeCells]
   simp only [Nat.zero_add, Nat.mul_one, Nat.add_zero, List.getElem?_toArray]
   unfold spliceL
   rw [List.take_zero, List.nil_append, List.getElem?_append_left (by rw [hlen]; exact hi)]
   exact intVs_get hi
  ·rw [hw, ← hw1]; rfl
  ·rw [hw, ← hw1]; rfl
  ·rw [hw, ← hw1]; rfl
  ·rw [hw, setRow_other _ _ _ _ (by omega)]
   exact hold k hk
end Go.Proofs.PanS
