/- Words and walks for the proof. -/
import Derived.Test.YtipadliffadhkaaDoorOrdB
import Derived.Shelf.Strconv.AppendIntPublic10
import Derived.Maps.AppendAt
import Derived.Lib.ItoaLen
set_option linter.unusedVariables false
set_option linter.unusedSimpArgs false
set_option linter.unusedSectionVars false
/-! Printed by wip/tools/walk.py. -/
namespace Go.Proofs.PanK
open Go.Vs
set_option maxRecDepth 8000
def s_l31Disk (a0 : MapState) (a1 : Int) : Option (Int) :=
  loopN (fun i1 (v3 : Unit) κ4 => cond (decide ((a0.Disks.getD i1 default).Id = a1)) (some ((i1 : Nat) : Int)) (κ4 ())) (fun (v3 : Unit) => some (-1)) a0.Disks.length 0 ()
theorem s_l31Disk_c {t0_3 t0_4 t0_5 : Bool} {a0 : MapState} {a1 : Int} {r : Int} (hF : s_l31Disk a0 a1 = some r) : Con Tryd.prog 106 [.val true [.u (cI a0.Slots), .u (cI a0.Servers), .u (cI a0.Next), .u (ul MapDisk.c 7 t0_3 a0.Disks), .u (ul MapView.c 3 t0_4 a0.Views), .u (ul MapDone.c 4 t0_5 a0.Done)], vint .i64 a1] [] (vint .i64 r) [] := by
  refine Con.of_Dz tabOk Tryd.func106 rfl rfl rfl ?_
  delta s_l31Disk at hF
  refine Dz.seq ?_
  refine Dz.reg ?_
  refine Dz.seq ?_
  refine Dz.seq ?_
  refine Dz.reg ?_
  refine Dz.blk ?_
  refine Dz.cnt hF (fun i1 v3 => ([(1, vint .i64 a1), (2, .ptr 0 0), (5, vint .i64 ((i1 : Nat) : Int))], [.box 152 [.u (cI a0.Slots), .u (cI a0.Servers), .u (cI a0.Next), .u (ul MapDisk.c 7 t0_3 a0.Disks), .u (ul MapView.c 3 t0_4 a0.Views), .u (ul MapDone.c 4 t0_5 a0.Done)]])) (entG [0] ⟨m_val rfl, m_ptr rfl, m_val rfl, trivial⟩ ⟨⟨rfl, o_box rfl⟩, trivial⟩ rfl) (fun v3 hF => ?_) (fun i1 v3 κ4 hi0i1 hi1i1 hF => ?_)
  · refine Dz.seq ?_
    refine Dz.seq ?_
    refine Dz.reg ?_
    intro hb6; replace hb6 : a0.Disks.length ≤ 140737488355328 := hb6
    refine Dz.ff (b := decide (((0 + a0.Disks.length : Nat) : Int) < ((a0.Disks.length : Nat) : Int))) rfl (decide_eq_false (by omega)) ?_
    refine Dz.exit ?_
    refine Dz.seq ?_
    refine Dz.reg ?_
    refine Dz.ret ?_
    cases hF
    exact finG [] [] rfl rfl (m_val rfl) trivial rfl
  · refine Dz.seq ?_
    refine Dz.seq ?_
    refine Dz.reg ?_
    intro hb5; replace hb5 : a0.Disks.length ≤ 140737488355328 := hb5
    refine Dz.tt (b := decide (((i1 : Nat) : Int) < ((a0.Disks.length : Nat) : Int))) rfl (decide_eq_true (by omega)) ?_
    refine Dz.skip ?_
    refine Dz.seq ?_
    refine Dz.blk ?_
    refine Dz.seq ?_
    refine Dz.reg ?_
    refine vge (n := ((i1 : Nat) : Int)) (hi := (a0.Disks.length : Int)) (by omega) (by omega) ?_
    refine Dz.ite rfl hF (fun _ hF => ?_) (fun _ hF => ?_)
    · refine Dz.seq ?_
      refine Dz.reg ?_
      refine Dz.ret ?_
      cases hF
      exact finG [] [] rfl rfl (m_val rfl) trivial rfl
    · refine Dz.skip ?_
      refine Dz.reg ?_
      refine vsucc (by omega) ?_
      exact ⟨(), entG [0] ⟨m_val rfl, m_ptr rfl, m_val rfl, trivial⟩ ⟨⟨rfl, o_box rfl⟩, trivial⟩ rfl, hF⟩
end Go.Proofs.PanK

/-! Printed by wip/tools/walk.py. -/
namespace Go.Proofs.PanK
open Go.Vs
set_option maxRecDepth 8000
def s_l63Disk (a0 : HistState) (a1 : Int) : Option (Int) :=
  (s_l31Disk ({ Slots := 0, Servers := 0, Next := 0, Disks := a0.Disks, Views := [], Done := [] } : MapState) a1).bind (fun y1 => some y1)
theorem s_l63Disk_c {t0_2 t0_3 : Bool} {a0 : HistState} {a1 : Int} {r : Int} (hF : s_l63Disk a0 a1 = some r) : Con Tryd.prog 87 [.val true [.u (cI a0.Next), .u (cI a0.Servers), .u (ul MapDisk.c 7 t0_2 a0.Disks), .u (ul BlkPiece.c 4 t0_3 a0.Pieces)], vint .i64 a1] [] (vint .i64 r) [] := by
  refine Con.of_Dz tabOk Tryd.func87 rfl rfl rfl ?_
  delta s_l63Disk at hF
  refine Dz.seq ?_
  refine Dz.reg ?_
  refine Dz.seq ?_
  refine Dz.reg ?_
  refine bdE hF (fun y1 hy1 hF => ?_)
  refine callG [] (s_l31Disk_c (t0_4 := false) (t0_5 := false) hy1) ⟨⟨rfl, LeU.refl _, LeU.refl _, LeU.refl _, LeU.refl _, ⟨_, _, _, rfl⟩, ⟨_, _, _, rfl⟩, trivial⟩, m_val rfl, trivial⟩ trivial rfl ?_
  refine Dz.ret ?_
  cases hF
  exact finG [] [] rfl rfl (m_val rfl) trivial rfl
end Go.Proofs.PanK

/-! Printed by wip/tools/walk.py. -/
namespace Go.Proofs.PanK
open Go.Vs
set_option maxRecDepth 8000
def s_l63Admin (a0 : HistState) (a1 : PanCall) : Option (HistState × Int × Int) :=
  (s_l63Disk a0 a1.Disk).bind (fun y1 => jn (fun (v3 : Bool) => cond v3 (some (a0, 4, 0)) (cond (decide (a1.Op = 3)) (ck ((a0.Disks.length + 1) * 72 ≤ 140737488355328) (some (({ Next := (w64 (a0.Next + 1)), Servers := a0.Servers, Disks := (a0.Disks ++ ([({ Id := a0.Next, Size := a1.Data, Epoch := 1, Frozen := 0, Client := 0, Call := 0, Acks := [] } : MapDisk)] : List MapDisk)), Pieces := a0.Pieces } : HistState), 0, (w64 ((w64 (a0.Next + 1)) - 1))))) (cond (decide (a1.Op = 6)) (some (({ Next := a0.Next, Servers := (w64 (a0.Servers + 1)), Disks := a0.Disks, Pieces := a0.Pieces } : HistState), 0, (w64 (a0.Servers + 1)))) (cond (decide (y1 < 0)) (some (a0, 1, 0)) (jn (fun (v5 : Bool) => cond v5 (some (a0, 4, 0)) (cond (decide (a1.Op = 4)) (ix a0.Disks y1 (fun _ => ix a0.Disks y1 (fun _ => lt (a0.Disks.set y1.toNat ({ Id := (a0.Disks.getD y1.toNat default).Id, Size := (a0.Disks.getD y1.toNat default).Size, Epoch := (w64 ((a0.Disks.getD y1.toNat default).Epoch + 1)), Frozen := (a0.Disks.getD y1.toNat default).Frozen, Client := (a0.Disks.getD y1.toNat default).Client, Call := (a0.Disks.getD y1.toNat default).Call, Acks := (a0.Disks.getD y1.toNat default).Acks } : MapDisk)) (fun r6 => ix r6 y1 (fun _ => some (({ Next := a0.Next, Servers := a0.Servers, Disks := r6, Pieces := a0.Pieces } : HistState), 0, (w64 ((r6.getD y1.toNat default).Epoch - 1)))))))) (ck (0 ≤ y1 ∧ y1 ≤ (a0.Disks.length : Int)) (ck ((0 + y1.toNat) * 72 ≤ 140737488355328) (ck (0 ≤ (w64 (y1 + 1)) ∧ (w64 (y1 + 1)) ≤ (a0.Disks.length : Int)) (ck (((0 + y1.toNat) + (a0.Disks.length - (w64 (y1 + 1)).toNat)) * 72 ≤ 140737488355328) (some (({ Next := a0.Next, Servers := a0.Servers, Disks := ((([] : List MapDisk) ++ (a0.Disks.take y1.toNat)) ++ (a0.Disks.drop ((w64 (y1 + 1)).toNat))), Pieces := a0.Pieces } : HistState), 0, 0)))))))) (fun j7 => cond (decide (a1.Op = 4)) (ix a0.Disks y1 (fun _ => j7 (decide ((99999 : Int) ≤ (a0.Disks.getD y1.toNat default).Epoch)))) (j7 false))))))) (fun j8 => cond (decide (a1.Op = 3)) ((s_l6In a1.Data 1 8).bind (fun y9 => cond (!y9) (j8 true) (cond (decide ((4 : Int) < a0.Next)) (j8 (decide ((4 : Int) < a0.Next))) (cond (decide (a1.Op = 6)) (j8 (decide ((5 : Int) ≤ a0.Servers))) (j8 false))))) (cond (decide (a1.Op = 6)) (j8 (decide ((5 : Int) ≤ a0.Servers))) (j8 false))))
theorem s_l63Admin_c {a0 : HistState} {a1 : PanCall} {r : HistState × Int × Int} (hF : s_l63Admin a0 a1 = some r) : Con Tryd.prog 85 [.val true [.u (cI a0.Next), .u (cI a0.Servers), .row 0, .u (ul BlkPiece.c 4 false a0.Pieces)], .val true (PanCall.L a1)] [.row 121 a0.Disks.length 7 (gl MapDisk.c a0.Disks)] (.tup [(true, (HistState.L r.1)), (false, [.u (cI r.2.1)]), (false, [.u (cI r.2.2)])]) [.none] := by
  refine Con.of_Dz tabOk Tryd.func85 rfl rfl rfl ?_
  delta s_l63Admin at hF
  refine Dz.seq ?_
  refine Dz.reg ?_
  refine Dz.seq ?_
  refine Dz.reg ?_
  refine bdE hF (fun y1 hy1 hF => ?_)
  refine callL [] (s_l63Disk_c hy1) ⟨⟨rfl, LeU.refl _, LeU.refl _, ⟨rfl, rfl, LeU.refl _⟩, LeU.refl _, trivial⟩, m_val rfl, trivial⟩ trivial rfl ⟨⟨trivial, trivial⟩, trivial⟩ ?_
  refine Dz.seq ?_
  refine Dz.blk ?_
  refine Dz.jn hF (fun v3 => ([(2, .ptr 1 0), (3, .ptr 2 0), (4, .ptr 3 0), (7, vint .i64 y1), (12, vbool v3)], [.row 121 a0.Disks.length 7 (gl MapDisk.c a0.Disks), .box 88 [.u (cI a0.Next), .u (cI a0.Servers), .row 0, .u (ul BlkPiece.c 4 false a0.Pieces)], .box 78 (PanCall.L a1), .box 88 [.u (cI 0), .u (cI 0), .nil, .nil]])) (fun v3 hF => ?_) (fun hF => ?_)
  · refine Dz.ite rfl hF (fun _ hF => ?_) (fun _ hF => ?_)
    · refine Dz.seq ?_
      refine Dz.reg ?_
      refine Dz.ret ?_
      cases hF
      exact finG [.frz 0] [0] rfl rfl ⟨⟨rfl, ⟨LeU.refl _, LeU.refl _, LeU.refl _, LeU.refl _, trivial⟩⟩, ⟨rfl, mls_same rfl⟩, ⟨rfl, mls_same rfl⟩, trivial⟩ ⟨⟨rfl, trivial⟩, trivial⟩ rfl
    · refine Dz.seq ?_
      refine Dz.reg ?_
      refine Dz.ite rfl hF (fun _ hF => ?_) (fun _ hF => ?_)
      · refine Dz.seq ?_
        refine Dz.reg ?_
        refine vck hF id (fun _ hF => ?_)
        refine Dz.row 4 ([({ Id := a0.Next, Size := a1.Data, Epoch := 1, Frozen := 0, Client := 0, Call := 0, Acks := [] } : MapDisk)] : List MapDisk).length (gl MapDisk.c ([({ Id := a0.Next, Size := a1.Data, Epoch := 1, Frozen := 0, Client := 0, Call := 0, Acks := [] } : MapDisk)] : List MapDisk)) rfl (by simp <;> omega) (EqG.lit (c := MapDisk.c) (sz := 7) (L := ([({ Id := a0.Next, Size := a1.Data, Epoch := 1, Frozen := 0, Client := 0, Call := 0, Acks := [] } : MapDisk)] : List MapDisk)) ⟨LeU.refl _, LeU.refl _, LeU.refl _, LeU.refl _, LeU.refl _, LeU.refl _, LeU.nil, trivial⟩) ?_
        refine Dz.row 5 (a0.Disks ++ ([({ Id := a0.Next, Size := a1.Data, Epoch := 1, Frozen := 0, Client := 0, Call := 0, Acks := [] } : MapDisk)] : List MapDisk)).length (gl MapDisk.c (a0.Disks ++ ([({ Id := a0.Next, Size := a1.Data, Epoch := 1, Frozen := 0, Client := 0, Call := 0, Acks := [] } : MapDisk)] : List MapDisk))) rfl (by simp <;> omega) (EqG.app rfl (by simp <;> omega) (EqG.refl _ _ _) (EqG.lit (c := MapDisk.c) (sz := 7) (L := ([({ Id := a0.Next, Size := a1.Data, Epoch := 1, Frozen := 0, Client := 0, Call := 0, Acks := [] } : MapDisk)] : List MapDisk)) ⟨LeU.refl _, LeU.refl _, LeU.refl _, LeU.refl _, LeU.refl _, LeU.refl _, LeU.nil, trivial⟩)) ?_
        refine Dz.seq ?_
        refine Dz.reg ?_
        refine vw64 ?_
        refine Dz.seq ?_
        refine Dz.drw 6 [⟨[55,56,57], [1], 6, 6⟩, ⟨[54,5], [], 6, 6⟩, ⟨[54,5], [1], 6, 6⟩, ⟨[54,5], [], 6, 6⟩, ⟨[55,56,57], [3], 6, 6⟩, ⟨[55,56,57], [], 6, 6⟩, ⟨[], [], 6, 6⟩] ⟨by kernel_rfl, by kernel_rfl, rfl⟩ ?_
        refine vw64 ?_
        refine Dz.ret ?_
        cases hF
        exact finG [.frz 5] [0] rfl rfl ⟨⟨rfl, ⟨LeU.refl _, LeU.refl _, LeU.refl _, LeU.refl _, trivial⟩⟩, ⟨rfl, mls_same rfl⟩, ⟨rfl, mls_same rfl⟩, trivial⟩ ⟨⟨rfl, trivial⟩, trivial⟩ rfl
      · refine Dz.seq ?_
        refine Dz.reg ?_
        refine Dz.ite rfl hF (fun _ hF => ?_) (fun _ hF => ?_)
        · refine Dz.seq ?_
          refine Dz.reg ?_
          refine vw64 ?_
          refine Dz.seq ?_
          refine Dz.drw 4 [⟨[67,68], [1], 4, 4⟩, ⟨[66,5], [], 4, 4⟩, ⟨[66,5], [1], 4, 4⟩, ⟨[67,68], [3], 4, 4⟩, ⟨[67,68], [], 4, 4⟩, ⟨[], [], 4, 4⟩] ⟨by kernel_rfl, by kernel_rfl, rfl⟩ ?_
          refine Dz.ret ?_
          cases hF
          exact finG [.frz 0] [0] rfl rfl ⟨⟨rfl, ⟨LeU.refl _, LeU.refl _, LeU.refl _, LeU.refl _, trivial⟩⟩, ⟨rfl, mls_same rfl⟩, ⟨rfl, mls_same rfl⟩, trivial⟩ ⟨⟨rfl, trivial⟩, trivial⟩ rfl
        · refine Dz.seq ?_
          refine Dz.reg ?_
          refine Dz.ite rfl hF (fun _ hF => ?_) (fun _ hF => ?_)
          · refine Dz.seq ?_
            refine Dz.reg ?_
            refine Dz.ret ?_
            cases hF
            exact finG [.frz 0] [0] rfl rfl ⟨⟨rfl, ⟨LeU.refl _, LeU.refl _, LeU.refl _, LeU.refl _, trivial⟩⟩, ⟨rfl, mls_same rfl⟩, ⟨rfl, mls_same rfl⟩, trivial⟩ ⟨⟨rfl, trivial⟩, trivial⟩ rfl
          · refine Dz.jn hF (fun v5 => ([(2, .ptr 1 0), (3, .ptr 2 0), (4, .ptr 3 0), (7, vint .i64 y1), (73, vbool v5)], [.row 121 a0.Disks.length 7 (gl MapDisk.c a0.Disks), .box 88 [.u (cI a0.Next), .u (cI a0.Servers), .row 0, .u (ul BlkPiece.c 4 false a0.Pieces)], .box 78 (PanCall.L a1), .box 88 [.u (cI 0), .u (cI 0), .nil, .nil]])) (fun v5 hF => ?_) (fun hF => ?_)
            · refine Dz.ite rfl hF (fun _ hF => ?_) (fun _ hF => ?_)
              · refine Dz.seq ?_
                refine Dz.reg ?_
                refine Dz.ret ?_
                cases hF
                exact finG [.frz 0] [0] rfl rfl ⟨⟨rfl, ⟨LeU.refl _, LeU.refl _, LeU.refl _, LeU.refl _, trivial⟩⟩, ⟨rfl, mls_same rfl⟩, ⟨rfl, mls_same rfl⟩, trivial⟩ ⟨⟨rfl, trivial⟩, trivial⟩ rfl
              · refine Dz.seq ?_
                refine Dz.reg ?_
                refine Dz.ite rfl hF (fun _ hF => ?_) (fun _ hF => ?_)
                · refine Dz.seq ?_
                  refine Dz.drw 4 [⟨[93,94,95,96,97,98,99,100], [], 4, 4⟩, ⟨[93,94,95,96,97,98,99,100], [1], 4, 4⟩, ⟨[91,92,94,95,96,97,98,99,100], [], 4, 4⟩, ⟨[91,92,93,96], [], 4, 4⟩, ⟨[91,92,93,96], [1], 4, 4⟩, ⟨[91,92,93,94,95], [], 4, 4⟩, ⟨[91,92,93], [0], 4, 4⟩, ⟨[91,92,93], [], 4, 4⟩, ⟨[91,92,93], [0], 4, 4⟩, ⟨[91,92,93], [], 4, 4⟩, ⟨[], [0], 4, 4⟩, ⟨[], [], 4, 4⟩, ⟨[], [0], 4, 4⟩] ⟨by kernel_rfl, by kernel_rfl, rfl⟩ ?_
                  refine vix hF (fun _ _ hF => ?_)
                  refine vw64 ?_
                  refine vix hF (fun _ _ hF => ?_)
                  refine ltX hF (fun r6 hr6 hF => ?_)
                  have hlr6 : r6.length = a0.Disks.length := by rw [hr6]; simp <;> omega
                  refine Dz.row 0 r6.length (gl MapDisk.c r6) rfl (by rw [hr6]; simp <;> omega) (by rw [hr6]; exact (EqG.set' rfl (EqG.refl _ _ _) ⟨LeU.refl _, LeU.refl _, LeU.refl _, LeU.refl _, LeU.refl _, LeU.refl _, LeU.refl _, trivial⟩)) ?_
                  refine Dz.seq ?_
                  refine Dz.drw 4 [⟨[104,105,106,107,108,109,110], [1], 4, 4⟩, ⟨[103,106,5], [], 4, 4⟩, ⟨[103,106,5], [1], 4, 4⟩, ⟨[103,104,105,5], [], 4, 4⟩, ⟨[103,5], [0], 4, 4⟩, ⟨[103,5], [], 4, 4⟩, ⟨[103,5], [0], 4, 4⟩, ⟨[103,5], [], 4, 4⟩, ⟨[104,105,106,107,108,109,110], [3], 4, 4⟩, ⟨[104,105,106,107,108,109,110], [], 4, 4⟩, ⟨[], [], 4, 4⟩] ⟨by kernel_rfl, by kernel_rfl, rfl⟩ ?_
                  refine vix hF (fun _ _ hF => ?_)
                  refine vw64 ?_
                  refine Dz.ret ?_
                  cases hF
                  exact finG [.frz 0] [0] rfl rfl ⟨⟨rfl, ⟨LeU.refl _, LeU.refl _, LeU.refl _, LeU.refl _, trivial⟩⟩, ⟨rfl, mls_same rfl⟩, ⟨rfl, mls_same rfl⟩, trivial⟩ ⟨⟨rfl, trivial⟩, trivial⟩ rfl
                · refine Dz.skip ?_
                  refine Dz.seq ?_
                  refine Dz.ent (x := ([(2, .ptr 1 0), (4, .ptr 2 0), (7, vint .i64 y1)], [.none, .box 88 (HistState.L a0), .box 88 [.u (cI 0), .u (cI 0), .nil, .nil]])) (entF [.frz 0] [0, 1, 3] rfl ⟨m_ptr rfl, m_ptr rfl, m_val rfl, trivial⟩ ⟨⟨rfl, trivial⟩, ⟨rfl, ⟨rfl, LeU.refl _, LeU.refl _, LeU.refl _, LeU.refl _, trivial⟩⟩, ⟨rfl, ⟨rfl, LeU.refl _, LeU.refl _, trivial, trivial, trivial⟩⟩, trivial⟩ rfl) ?_
                  refine Dz.drw 3 [⟨[112,113,114,115,117,118,119,120,121], [], 3, 4⟩, ⟨[111,114,117,118,119,120,121], [], 4, 4⟩, ⟨[111,114,117,118,119,120,121], [1], 4, 4⟩, ⟨[111,112,113,117,118,119,120,121], [], 4, 4⟩, ⟨[111,117,118,119,120,121], [], 4, 4⟩, ⟨[117,118,119,120,121], [3], 4, 5⟩, ⟨[111,112,113,114,115,116,119,120], [], 5, 5⟩, ⟨[111,112,113,114,115,116,119,120], [1], 5, 5⟩, ⟨[111,112,113,114,115,116,117,118], [], 5, 5⟩, ⟨[111,112,113,114,115,116,117,118], [], 5, 5⟩, ⟨[111,112,113,114,115,116], [], 5, 5⟩, ⟨[], [4], 5, 6⟩, ⟨[], [], 6, 6⟩, ⟨[], [1], 6, 6⟩] ⟨by kernel_rfl, by kernel_rfl, rfl⟩ ?_
                  refine vck hF id (fun _ hF => ?_)
                  refine vck hF id (fun _ hF => ?_)
                  refine vw64 ?_
                  refine vck hF id (fun _ hF => ?_)
                  refine vck hF id (fun _ hF => ?_)
                  refine Dz.row 5 ((([] : List MapDisk) ++ (a0.Disks.take y1.toNat)) ++ (a0.Disks.drop ((w64 (y1 + 1)).toNat))).length (gl MapDisk.c ((([] : List MapDisk) ++ (a0.Disks.take y1.toNat)) ++ (a0.Disks.drop ((w64 (y1 + 1)).toNat)))) rfl (by simp <;> omega) (EqG.app (by simp <;> omega) (by simp <;> omega) (EqG.app (by simp <;> omega) (by simp <;> omega) EqG.nilr (EqG.take _)) (EqG.drop _)) ?_
                  refine Dz.seq ?_
                  refine Dz.reg ?_
                  refine Dz.ret ?_
                  cases hF
                  exact finG [.frz 5] [0] rfl rfl ⟨⟨rfl, ⟨LeU.refl _, LeU.refl _, LeU.refl _, LeU.refl _, trivial⟩⟩, ⟨rfl, mls_same rfl⟩, ⟨rfl, mls_same rfl⟩, trivial⟩ ⟨⟨rfl, trivial⟩, trivial⟩ rfl
            · refine Dz.reg ?_
              refine vif hF (fun _ hF => ?_) (fun _ hF => ?_)
              · refine vix hF (fun _ _ hF => ?_)
                exact ⟨(decide ((99999 : Int) ≤ (a0.Disks.getD y1.toNat default).Epoch)), entG [0, 1, 2, 3] ⟨m_ptr rfl, m_ptr rfl, m_ptr rfl, m_val rfl, m_val rfl, trivial⟩ ⟨⟨rfl, o_row⟩, ⟨rfl, ⟨rfl, LeU.refl _, LeU.refl _, rfl, LeU.refl _, trivial⟩⟩, ⟨rfl, o_box rfl⟩, ⟨rfl, ⟨rfl, LeU.refl _, LeU.refl _, trivial, trivial, trivial⟩⟩, trivial⟩ rfl, hF⟩
              · exact ⟨false, entG [0, 1, 2, 3] ⟨m_ptr rfl, m_ptr rfl, m_ptr rfl, m_val rfl, m_val rfl, trivial⟩ ⟨⟨rfl, o_row⟩, ⟨rfl, ⟨rfl, LeU.refl _, LeU.refl _, rfl, LeU.refl _, trivial⟩⟩, ⟨rfl, o_box rfl⟩, ⟨rfl, ⟨rfl, LeU.refl _, LeU.refl _, trivial, trivial, trivial⟩⟩, trivial⟩ rfl, hF⟩
  · refine Dz.seq ?_
    refine Dz.reg ?_
    refine vif hF (fun _ hF => ?_) (fun _ hF => ?_)
    · refine bdE hF (fun y9 hy9 hF => ?_)
      refine callG [] (s_l6In_c hy9) ⟨m_val rfl, m_val rfl, m_val rfl, trivial⟩ trivial rfl ?_
      refine vif hF (fun _ hF => ?_) (fun _ hF => ?_)
      · refine Dz.tt (b := true) rfl rfl ?_
        refine Dz.skip ?_
        exact ⟨true, entG [0, 1, 2, 3] ⟨m_ptr rfl, m_ptr rfl, m_ptr rfl, m_val rfl, m_val rfl, trivial⟩ ⟨⟨rfl, o_row⟩, ⟨rfl, ⟨rfl, LeU.refl _, LeU.refl _, rfl, LeU.refl _, trivial⟩⟩, ⟨rfl, o_box rfl⟩, ⟨rfl, ⟨rfl, LeU.refl _, LeU.refl _, trivial, trivial, trivial⟩⟩, trivial⟩ rfl, hF⟩
      · refine Dz.ite rfl hF (fun _ hF => ?_) (fun _ hF => ?_)
        · refine Dz.skip ?_
          exact ⟨(decide ((4 : Int) < a0.Next)), entG [0, 1, 2, 3] ⟨m_ptr rfl, m_ptr rfl, m_ptr rfl, m_val rfl, m_val rfl, trivial⟩ ⟨⟨rfl, o_row⟩, ⟨rfl, ⟨rfl, LeU.refl _, LeU.refl _, rfl, LeU.refl _, trivial⟩⟩, ⟨rfl, o_box rfl⟩, ⟨rfl, ⟨rfl, LeU.refl _, LeU.refl _, trivial, trivial, trivial⟩⟩, trivial⟩ rfl, hF⟩
        · refine Dz.reg ?_
          refine vif hF (fun _ hF => ?_) (fun _ hF => ?_)
          · exact ⟨(decide ((5 : Int) ≤ a0.Servers)), entG [0, 1, 2, 3] ⟨m_ptr rfl, m_ptr rfl, m_ptr rfl, m_val rfl, m_val rfl, trivial⟩ ⟨⟨rfl, o_row⟩, ⟨rfl, ⟨rfl, LeU.refl _, LeU.refl _, rfl, LeU.refl _, trivial⟩⟩, ⟨rfl, o_box rfl⟩, ⟨rfl, ⟨rfl, LeU.refl _, LeU.refl _, trivial, trivial, trivial⟩⟩, trivial⟩ rfl, hF⟩
          · exact ⟨false, entG [0, 1, 2, 3] ⟨m_ptr rfl, m_ptr rfl, m_ptr rfl, m_val rfl, m_val rfl, trivial⟩ ⟨⟨rfl, o_row⟩, ⟨rfl, ⟨rfl, LeU.refl _, LeU.refl _, rfl, LeU.refl _, trivial⟩⟩, ⟨rfl, o_box rfl⟩, ⟨rfl, ⟨rfl, LeU.refl _, LeU.refl _, trivial, trivial, trivial⟩⟩, trivial⟩ rfl, hF⟩
    · refine Dz.ff (b := false) rfl rfl ?_
      refine Dz.reg ?_
      refine vif hF (fun _ hF => ?_) (fun _ hF => ?_)
      · exact ⟨(decide ((5 : Int) ≤ a0.Servers)), entG [0, 1, 2, 3] ⟨m_ptr rfl, m_ptr rfl, m_ptr rfl, m_val rfl, m_val rfl, trivial⟩ ⟨⟨rfl, o_row⟩, ⟨rfl, ⟨rfl, LeU.refl _, LeU.refl _, rfl, LeU.refl _, trivial⟩⟩, ⟨rfl, o_box rfl⟩, ⟨rfl, ⟨rfl, LeU.refl _, LeU.refl _, trivial, trivial, trivial⟩⟩, trivial⟩ rfl, hF⟩
      · exact ⟨false, entG [0, 1, 2, 3] ⟨m_ptr rfl, m_ptr rfl, m_ptr rfl, m_val rfl, m_val rfl, trivial⟩ ⟨⟨rfl, o_row⟩, ⟨rfl, ⟨rfl, LeU.refl _, LeU.refl _, rfl, LeU.refl _, trivial⟩⟩, ⟨rfl, o_box rfl⟩, ⟨rfl, ⟨rfl, LeU.refl _, LeU.refl _, trivial, trivial, trivial⟩⟩, trivial⟩ rfl, hF⟩
end Go.Proofs.PanK

/-! Printed by wip/tools/walk.py. -/
namespace Go.Proofs.PanK
open Go.Vs
set_option maxRecDepth 8000
def s_l63Judge (a0 : HistState) (a1 : PanCall) : Option (Int) :=
  (s_l63Disk a0 a1.Disk).bind (fun y1 => cond (decide (y1 < 0)) (some 1) (ix a0.Disks y1 (fun x2 => (s_l6In a1.Block 0 (w64 (x2.Size - 1))).bind (fun y3 => cond (!y3) (some 2) (cond (decide (a1.Op = 1)) (cond (!decide (a1.Epoch = 0)) (ix a0.Disks y1 (fun x4 => (s_l6In a1.Epoch 1 (w64 (x4.Epoch - 1))).bind (fun y5 => cond (!y5) (some 3) (some 0)))) (some 0)) (some 0))))))
theorem s_l63Judge_c {t0_2 t0_3 : Bool} {a0 : HistState} {a1 : PanCall} {r : Int} (hF : s_l63Judge a0 a1 = some r) : Con Tryd.prog 86 [.val true [.u (cI a0.Next), .u (cI a0.Servers), .u (ul MapDisk.c 7 t0_2 a0.Disks), .u (ul BlkPiece.c 4 t0_3 a0.Pieces)], .val true (PanCall.L a1)] [] (vint .i64 r) [] := by
  refine Con.of_Dz tabOk Tryd.func86 rfl rfl rfl ?_
  delta s_l63Judge at hF
  refine Dz.seq ?_
  refine Dz.reg ?_
  refine Dz.seq ?_
  refine Dz.reg ?_
  refine bdE hF (fun y1 hy1 hF => ?_)
  refine callG [] (s_l63Disk_c hy1) ⟨m_val rfl, m_val rfl, trivial⟩ trivial rfl ?_
  refine Dz.seq ?_
  refine Dz.blk ?_
  refine Dz.seq ?_
  refine Dz.reg ?_
  refine Dz.ite rfl hF (fun _ hF => ?_) (fun _ hF => ?_)
  · refine Dz.seq ?_
    refine Dz.reg ?_
    refine Dz.ret ?_
    cases hF
    exact finG [] [] rfl rfl (m_val rfl) trivial rfl
  · refine Dz.seq ?_
    refine Dz.drw 2 [⟨[16,17,18,19,20,21,22], [], 2, 2⟩, ⟨[16,17,18,19,20,21,22], [1], 2, 2⟩, ⟨[14,15,18], [], 2, 2⟩, ⟨[14,15,18], [0], 2, 2⟩, ⟨[14,15,16,17], [], 2, 2⟩, ⟨[14,15], [], 2, 2⟩, ⟨[14,15], [], 2, 2⟩, ⟨[14,15], [], 2, 2⟩, ⟨[14,15], [], 2, 2⟩, ⟨[], [], 2, 2⟩, ⟨[], [], 2, 2⟩, ⟨[], [], 2, 2⟩] ⟨by kernel_rfl, by kernel_rfl, rfl⟩ ?_
    refine vix hF (fun _ _ hF => ?_)
    refine vw64 ?_
    refine bdE hF (fun y3 hy3 hF => ?_)
    refine callG [] (s_l6In_c hy3) ⟨m_val rfl, m_val rfl, m_val rfl, trivial⟩ trivial rfl ?_
    refine Dz.ite rfl hF (fun _ hF => ?_) (fun _ hF => ?_)
    · refine Dz.seq ?_
      refine Dz.reg ?_
      refine Dz.ret ?_
      cases hF
      exact finG [] [] rfl rfl (m_val rfl) trivial rfl
    · refine Dz.seq ?_
      refine Dz.ent (x := ([(2, .ptr 0 0), (3, .ptr 1 0), (5, vint .i64 y1)], [.box 88 [.u (cI a0.Next), .u (cI a0.Servers), .u (ul MapDisk.c 7 t0_2 a0.Disks), .u (ul BlkPiece.c 4 t0_3 a0.Pieces)], .box 78 (PanCall.L a1)])) (entG [0, 1] ⟨m_ptr rfl, m_ptr rfl, m_val rfl, trivial⟩ ⟨⟨rfl, o_box rfl⟩, ⟨rfl, o_box rfl⟩, trivial⟩ rfl) ?_
      refine Dz.drw 2 [⟨[], [], 2, 2⟩, ⟨[], [1], 2, 2⟩, ⟨[], [], 2, 2⟩, ⟨[], [], 2, 2⟩, ⟨[], [], 2, 2⟩, ⟨[], [1], 2, 2⟩, ⟨[], [], 2, 2⟩, ⟨[], [], 2, 2⟩, ⟨[], [], 2, 2⟩, ⟨[37,38,39,40,41,42,43], [], 2, 2⟩, ⟨[37,38,39,40,41,42,43], [1], 2, 2⟩, ⟨[35,36,39], [], 2, 2⟩, ⟨[35,36,39], [0], 2, 2⟩, ⟨[35,36,37,38], [], 2, 2⟩, ⟨[35,36], [], 2, 2⟩, ⟨[35,36], [], 2, 2⟩, ⟨[35,36], [], 2, 2⟩, ⟨[35,36], [], 2, 2⟩, ⟨[], [], 2, 2⟩, ⟨[], [], 2, 2⟩, ⟨[], [], 2, 2⟩, ⟨[], [], 2, 2⟩] ⟨by kernel_rfl, by kernel_rfl, rfl⟩ ?_
      refine vif hF (fun _ hF => ?_) (fun _ hF => ?_)
      · refine vif hF (fun _ hF => ?_) (fun _ hF => ?_)
        · refine vix hF (fun _ _ hF => ?_)
          refine vw64 ?_
          refine bdE hF (fun y5 hy5 hF => ?_)
          refine callG [] (s_l6In_c hy5) ⟨m_val rfl, m_val rfl, m_val rfl, trivial⟩ trivial rfl ?_
          refine Dz.ite rfl hF (fun _ hF => ?_) (fun _ hF => ?_)
          · refine Dz.seq ?_
            refine Dz.reg ?_
            refine Dz.ret ?_
            cases hF
            exact finG [] [] rfl rfl (m_val rfl) trivial rfl
          · refine Dz.skip ?_
            refine Dz.seq ?_
            refine Dz.reg ?_
            refine Dz.ret ?_
            cases hF
            exact finG [] [] rfl rfl (m_val rfl) trivial rfl
        · refine Dz.ff (b := false) rfl rfl ?_
          refine Dz.skip ?_
          refine Dz.seq ?_
          refine Dz.reg ?_
          refine Dz.ret ?_
          cases hF
          exact finG [] [] rfl rfl (m_val rfl) trivial rfl
      · refine Dz.ff (b := false) rfl rfl ?_
        refine Dz.skip ?_
        refine Dz.seq ?_
        refine Dz.reg ?_
        refine Dz.ret ?_
        cases hF
        exact finG [] [] rfl rfl (m_val rfl) trivial rfl
end Go.Proofs.PanK

/-! Printed by wip/tools/walk.py. -/
namespace Go.Proofs.PanK
open Go.Vs
set_option maxRecDepth 8000
def s_BlkPut (a0 : (List BlkPiece)) (a1 : Int) (a2 : Int) (a3 : Int) (a4 : Int) : Option ((List BlkPiece) × Bool) :=
  (s_BlkOk a0).bind (fun y1 => cond (!y1) (some (([] : List BlkPiece), false)) (loopN (fun i2 (v17 : Bool × List BlkPiece) κ18 => lt (a0.getD i2 default) (fun x20 => jn (fun (v22 : Bool) => jn (fun (v25 : Bool × List BlkPiece) => cond (!v22) (ck ((v25.2.length + 1) * 32 ≤ 140737488355328) (κ18 (v25.1, (v25.2 ++ ([x20] : List BlkPiece))))) (κ18 (v25.1, v25.2))) (fun j26 => cond (!v17.1) ((s_l3Before x20 a1 a2 a3).bind (fun y27 => cond (!y27) (ck ((v17.2.length + 1) * 32 ≤ 140737488355328) (j26 (true, (v17.2 ++ ([({ Disk := a1, Block := a2, Epoch := a3, Data := a4 } : BlkPiece)] : List BlkPiece))))) (j26 (v17.1, v17.2)))) (j26 (v17.1, v17.2)))) (fun j28 => cond (decide (x20.Disk = a1)) (cond (decide (x20.Block = a2)) (j28 (decide (x20.Epoch = a3))) (j28 false)) (j28 false)))) (fun (v17 : Bool × List BlkPiece) => cond (!v17.1) (ck ((v17.2.length + 1) * 32 ≤ 140737488355328) ((s_BlkOk (v17.2 ++ ([({ Disk := a1, Block := a2, Epoch := a3, Data := a4 } : BlkPiece)] : List BlkPiece))).bind (fun y30 => cond (!y30) (ck ((0 + a0.length) * 32 ≤ 140737488355328) (some ((([] : List BlkPiece) ++ a0), false))) (some ((v17.2 ++ ([({ Disk := a1, Block := a2, Epoch := a3, Data := a4 } : BlkPiece)] : List BlkPiece)), true))))) ((s_BlkOk v17.2).bind (fun y31 => cond (!y31) (ck ((0 + a0.length) * 32 ≤ 140737488355328) (some ((([] : List BlkPiece) ++ a0), false))) (some (v17.2, true))))) a0.length 0 (false, ([] : List BlkPiece))))
theorem s_BlkPut_c {t0_0 : Bool} {a0 : (List BlkPiece)} {a1 : Int} {a2 : Int} {a3 : Int} {a4 : Int} {r : (List BlkPiece) × Bool} (hF : s_BlkPut a0 a1 a2 a3 a4 = some r) : Con Tryd.prog 88 [.val false [.u (ul BlkPiece.c 4 t0_0 a0)], vint .i64 a1, vint .i64 a2, vint .i64 a3, vint .i64 a4] [] (.tup [(false, [.row 0]), (false, [.u (.bool r.2)])]) [.row 123 r.1.length 4 (gl BlkPiece.c r.1)] := by
  refine Con.of_Dz tabOk Tryd.func88 rfl rfl rfl ?_
  delta s_BlkPut at hF
  refine Dz.seq ?_
  refine Dz.reg ?_
  refine Dz.seq ?_
  refine Dz.reg ?_
  refine Dz.row 0 ([] : List BlkPiece).length (gl BlkPiece.c ([] : List BlkPiece)) rfl (by simp <;> omega) EqG.nilr ?_
  refine Dz.seq ?_
  refine Dz.reg ?_
  refine Dz.seq ?_
  refine Dz.reg ?_
  refine Dz.seq ?_
  refine Dz.seq ?_
  refine Dz.reg ?_
  refine bdE hF (fun y1 hy1 hF => ?_)
  refine callG [] (s_BlkOk_c hy1) ⟨m_val rfl, trivial⟩ trivial rfl ?_
  refine Dz.ite rfl hF (fun _ hF => ?_) (fun _ hF => ?_)
  · refine Dz.seq ?_
    refine Dz.reg ?_
    refine Dz.ret ?_
    cases hF
    exact finG [] [0] rfl rfl ⟨⟨rfl, ⟨rfl, trivial⟩⟩, ⟨rfl, mls_same rfl⟩, trivial⟩ ⟨⟨rfl, o_row⟩, trivial⟩ rfl
  · refine Dz.skip ?_
    refine Dz.seq ?_
    refine Dz.seq ?_
    refine Dz.reg ?_
    refine Dz.blk ?_
    refine Dz.cnt hF (fun i2 v17 => ([(0, .val false [.u (ul BlkPiece.c 4 t0_0 a0)]), (1, vint .i64 a1), (2, vint .i64 a2), (3, vint .i64 a3), (12, .val false [.row 0]), (13, .ptr 1 0), (14, vbool v17.1), (15, vint .i64 ((i2 : Nat) : Int))], [.row 123 v17.2.length 4 (gl BlkPiece.c v17.2), .box 123 [.u (cI a1), .u (cI a2), .u (cI a3), .u (cI a4)]])) (entG [0, 1] ⟨m_val rfl, m_val rfl, m_val rfl, m_val rfl, ⟨rfl, rfl, trivial⟩, m_ptr rfl, m_val rfl, m_val rfl, trivial⟩ ⟨⟨rfl, o_row⟩, ⟨rfl, o_box rfl⟩, trivial⟩ rfl) (fun v17 hF => ?_) (fun i2 v17 κ18 hi0i2 hi1i2 hF => ?_)
    · refine Dz.seq ?_
      refine Dz.seq ?_
      refine Dz.reg ?_
      intro hb29; replace hb29 : a0.length ≤ 140737488355328 := hb29
      refine Dz.ff (b := decide (((0 + a0.length : Nat) : Int) < ((a0.length : Nat) : Int))) rfl (decide_eq_false (by omega)) ?_
      refine Dz.exit ?_
      refine Dz.seq ?_
      refine Dz.seq ?_
      refine Dz.reg ?_
      refine Dz.ite rfl hF (fun _ hF => ?_) (fun _ hF => ?_)
      · refine Dz.reg ?_
        refine vck hF id (fun _ hF => ?_)
        refine Dz.row 2 ([({ Disk := a1, Block := a2, Epoch := a3, Data := a4 } : BlkPiece)] : List BlkPiece).length (gl BlkPiece.c ([({ Disk := a1, Block := a2, Epoch := a3, Data := a4 } : BlkPiece)] : List BlkPiece)) rfl (by simp <;> omega) (EqG.lit (c := BlkPiece.c) (sz := 4) (L := ([({ Disk := a1, Block := a2, Epoch := a3, Data := a4 } : BlkPiece)] : List BlkPiece)) ⟨LeU.refl _, LeU.refl _, LeU.refl _, LeU.refl _, trivial⟩) ?_
        refine Dz.row 3 (v17.2 ++ ([({ Disk := a1, Block := a2, Epoch := a3, Data := a4 } : BlkPiece)] : List BlkPiece)).length (gl BlkPiece.c (v17.2 ++ ([({ Disk := a1, Block := a2, Epoch := a3, Data := a4 } : BlkPiece)] : List BlkPiece))) rfl (by simp <;> omega) (EqG.app rfl (by simp <;> omega) (EqG.refl _ _ _) (EqG.lit (c := BlkPiece.c) (sz := 4) (L := ([({ Disk := a1, Block := a2, Epoch := a3, Data := a4 } : BlkPiece)] : List BlkPiece)) ⟨LeU.refl _, LeU.refl _, LeU.refl _, LeU.refl _, trivial⟩)) ?_
        refine Dz.seq ?_
        refine Dz.seq ?_
        refine Dz.reg ?_
        refine bdE hF (fun y30 hy30 hF => ?_)
        refine callL [] (s_BlkOk_c hy30) ⟨⟨rfl, ⟨rfl, rfl, LeU.refl _⟩, trivial⟩, trivial⟩ trivial rfl ⟨⟨trivial, trivial⟩, trivial⟩ ?_
        refine Dz.ite rfl hF (fun _ hF => ?_) (fun _ hF => ?_)
        · refine Dz.seq ?_
          refine Dz.reg ?_
          refine vck hF id (fun _ hF => ?_)
          refine Dz.ret ?_
          cases hF
          exact finG [] [5] rfl rfl ⟨⟨rfl, ⟨rfl, trivial⟩⟩, ⟨rfl, mls_same rfl⟩, trivial⟩ ⟨⟨rfl, o_rowE (by simp <;> omega) (EqG.app (by simp <;> omega) rfl EqG.nilr (EqG.refl _ _ _))⟩, trivial⟩ rfl
        · refine Dz.skip ?_
          refine Dz.seq ?_
          refine Dz.reg ?_
          refine Dz.ret ?_
          cases hF
          exact finG [] [3] rfl rfl ⟨⟨rfl, ⟨rfl, trivial⟩⟩, ⟨rfl, mls_same rfl⟩, trivial⟩ ⟨⟨rfl, o_row⟩, trivial⟩ rfl
      · refine Dz.skip ?_
        refine Dz.seq ?_
        refine Dz.seq ?_
        refine Dz.reg ?_
        refine bdE hF (fun y31 hy31 hF => ?_)
        refine callL [] (s_BlkOk_c hy31) ⟨⟨rfl, ⟨rfl, rfl, LeU.refl _⟩, trivial⟩, trivial⟩ trivial rfl ⟨⟨trivial, trivial⟩, trivial⟩ ?_
        refine Dz.ite rfl hF (fun _ hF => ?_) (fun _ hF => ?_)
        · refine Dz.seq ?_
          refine Dz.reg ?_
          refine vck hF id (fun _ hF => ?_)
          refine Dz.ret ?_
          cases hF
          exact finG [] [3] rfl rfl ⟨⟨rfl, ⟨rfl, trivial⟩⟩, ⟨rfl, mls_same rfl⟩, trivial⟩ ⟨⟨rfl, o_rowE (by simp <;> omega) (EqG.app (by simp <;> omega) rfl EqG.nilr (EqG.refl _ _ _))⟩, trivial⟩ rfl
        · refine Dz.skip ?_
          refine Dz.seq ?_
          refine Dz.reg ?_
          refine Dz.ret ?_
          cases hF
          exact finG [] [0] rfl rfl ⟨⟨rfl, ⟨rfl, trivial⟩⟩, ⟨rfl, mls_same rfl⟩, trivial⟩ ⟨⟨rfl, o_row⟩, trivial⟩ rfl
    · refine Dz.seq ?_
      refine Dz.seq ?_
      refine Dz.reg ?_
      intro hb19; replace hb19 : a0.length ≤ 140737488355328 := hb19
      refine Dz.tt (b := decide (((i2 : Nat) : Int) < ((a0.length : Nat) : Int))) rfl (decide_eq_true (by omega)) ?_
      refine Dz.skip ?_
      refine Dz.seq ?_
      refine Dz.blk ?_
      refine Dz.seq ?_
      refine Dz.reg ?_
      refine vge (n := ((i2 : Nat) : Int)) (hi := (a0.length : Int)) (by omega) (by omega) ?_
      have hF := ltE hF
      refine Dz.jn hF (fun v22 => ([(0, .val false [.u (ul BlkPiece.c 4 t0_0 a0)]), (1, vint .i64 a1), (2, vint .i64 a2), (3, vint .i64 a3), (12, .val false [.row 0]), (13, .ptr 1 0), (14, vbool v17.1), (15, vint .i64 ((i2 : Nat) : Int)), (16, .ptr 2 0), (17, vbool v22)], [.row 123 v17.2.length 4 (gl BlkPiece.c v17.2), .box 123 [.u (cI a1), .u (cI a2), .u (cI a3), .u (cI a4)], .box 123 (BlkPiece.L (a0.getD i2 default))])) (fun v22 hF => ?_) (fun hF => ?_)
      · refine Dz.jn hF (fun v25 => ([(0, .val false [.u (ul BlkPiece.c 4 t0_0 a0)]), (1, vint .i64 a1), (2, vint .i64 a2), (3, vint .i64 a3), (12, .val false [.row 0]), (13, .ptr 1 0), (14, vbool v25.1), (15, vint .i64 ((i2 : Nat) : Int)), (16, .ptr 2 0), (17, vbool v22)], [.row 123 v25.2.length 4 (gl BlkPiece.c v25.2), .box 123 [.u (cI a1), .u (cI a2), .u (cI a3), .u (cI a4)], .box 123 (BlkPiece.L (a0.getD i2 default))])) (fun v25 hF => ?_) (fun hF => ?_)
        · refine Dz.seq ?_
          refine Dz.reg ?_
          refine Dz.ite rfl hF (fun _ hF => ?_) (fun _ hF => ?_)
          · refine Dz.reg ?_
            refine vck hF id (fun _ hF => ?_)
            refine Dz.row 3 ([(a0.getD i2 default)] : List BlkPiece).length (gl BlkPiece.c ([(a0.getD i2 default)] : List BlkPiece)) rfl (by simp <;> omega) (EqG.lit (c := BlkPiece.c) (sz := 4) (L := ([(a0.getD i2 default)] : List BlkPiece)) ⟨LeU.refl _, LeU.refl _, LeU.refl _, LeU.refl _, trivial⟩) ?_
            refine Dz.row 4 (v25.2 ++ ([(a0.getD i2 default)] : List BlkPiece)).length (gl BlkPiece.c (v25.2 ++ ([(a0.getD i2 default)] : List BlkPiece))) rfl (by simp <;> omega) (EqG.app rfl (by simp <;> omega) (EqG.refl _ _ _) (EqG.lit (c := BlkPiece.c) (sz := 4) (L := ([(a0.getD i2 default)] : List BlkPiece)) ⟨LeU.refl _, LeU.refl _, LeU.refl _, LeU.refl _, trivial⟩)) ?_
            refine Dz.reg ?_
            refine vsucc (by omega) ?_
            exact ⟨(v25.1, (v25.2 ++ ([(a0.getD i2 default)] : List BlkPiece))), entG [4, 1] ⟨m_val rfl, m_val rfl, m_val rfl, m_val rfl, ⟨rfl, rfl, trivial⟩, m_ptr rfl, m_val rfl, m_val rfl, trivial⟩ ⟨⟨rfl, o_row⟩, ⟨rfl, o_box rfl⟩, trivial⟩ rfl, hF⟩
          · refine Dz.skip ?_
            refine Dz.reg ?_
            refine vsucc (by omega) ?_
            exact ⟨(v25.1, v25.2), entG [0, 1] ⟨m_val rfl, m_val rfl, m_val rfl, m_val rfl, ⟨rfl, rfl, trivial⟩, m_ptr rfl, m_val rfl, m_val rfl, trivial⟩ ⟨⟨rfl, o_row⟩, ⟨rfl, o_box rfl⟩, trivial⟩ rfl, hF⟩
        · refine Dz.seq ?_
          refine Dz.reg ?_
          refine vif hF (fun _ hF => ?_) (fun _ hF => ?_)
          · refine bdE hF (fun y27 hy27 hF => ?_)
            refine callG [] (s_l3Before_c hy27) ⟨m_val rfl, m_val rfl, m_val rfl, m_val rfl, trivial⟩ trivial rfl ?_
            refine Dz.ite rfl hF (fun _ hF => ?_) (fun _ hF => ?_)
            · refine Dz.seq ?_
              refine Dz.reg ?_
              refine vck hF id (fun _ hF => ?_)
              refine Dz.row 3 ([({ Disk := a1, Block := a2, Epoch := a3, Data := a4 } : BlkPiece)] : List BlkPiece).length (gl BlkPiece.c ([({ Disk := a1, Block := a2, Epoch := a3, Data := a4 } : BlkPiece)] : List BlkPiece)) rfl (by simp <;> omega) (EqG.lit (c := BlkPiece.c) (sz := 4) (L := ([({ Disk := a1, Block := a2, Epoch := a3, Data := a4 } : BlkPiece)] : List BlkPiece)) ⟨LeU.refl _, LeU.refl _, LeU.refl _, LeU.refl _, trivial⟩) ?_
              refine Dz.row 4 (v17.2 ++ ([({ Disk := a1, Block := a2, Epoch := a3, Data := a4 } : BlkPiece)] : List BlkPiece)).length (gl BlkPiece.c (v17.2 ++ ([({ Disk := a1, Block := a2, Epoch := a3, Data := a4 } : BlkPiece)] : List BlkPiece))) rfl (by simp <;> omega) (EqG.app rfl (by simp <;> omega) (EqG.refl _ _ _) (EqG.lit (c := BlkPiece.c) (sz := 4) (L := ([({ Disk := a1, Block := a2, Epoch := a3, Data := a4 } : BlkPiece)] : List BlkPiece)) ⟨LeU.refl _, LeU.refl _, LeU.refl _, LeU.refl _, trivial⟩)) ?_
              refine Dz.reg ?_
              exact ⟨(true, (v17.2 ++ ([({ Disk := a1, Block := a2, Epoch := a3, Data := a4 } : BlkPiece)] : List BlkPiece))), entG [4, 1, 2] ⟨m_val rfl, m_val rfl, m_val rfl, m_val rfl, ⟨rfl, rfl, trivial⟩, m_ptr rfl, m_val rfl, m_val rfl, m_ptr rfl, m_val rfl, trivial⟩ ⟨⟨rfl, o_row⟩, ⟨rfl, o_box rfl⟩, ⟨rfl, o_box rfl⟩, trivial⟩ rfl, hF⟩
            · refine Dz.skip ?_
              exact ⟨(v17.1, v17.2), entG [0, 1, 2] ⟨m_val rfl, m_val rfl, m_val rfl, m_val rfl, ⟨rfl, rfl, trivial⟩, m_ptr rfl, m_val rfl, m_val rfl, m_ptr rfl, m_val rfl, trivial⟩ ⟨⟨rfl, o_row⟩, ⟨rfl, o_box rfl⟩, ⟨rfl, o_box rfl⟩, trivial⟩ rfl, hF⟩
          · refine Dz.ff (b := false) rfl rfl ?_
            refine Dz.skip ?_
            exact ⟨(v17.1, v17.2), entG [0, 1, 2] ⟨m_val rfl, m_val rfl, m_val rfl, m_val rfl, ⟨rfl, rfl, trivial⟩, m_ptr rfl, m_val rfl, m_val rfl, m_ptr rfl, m_val rfl, trivial⟩ ⟨⟨rfl, o_row⟩, ⟨rfl, o_box rfl⟩, ⟨rfl, o_box rfl⟩, trivial⟩ rfl, hF⟩
      · refine Dz.reg ?_
        refine vif hF (fun _ hF => ?_) (fun _ hF => ?_)
        · refine vif hF (fun _ hF => ?_) (fun _ hF => ?_)
          · exact ⟨(decide ((a0.getD i2 default).Epoch = a3)), entG [0, 1, 2] ⟨m_val rfl, m_val rfl, m_val rfl, m_val rfl, ⟨rfl, rfl, trivial⟩, m_ptr rfl, m_val rfl, m_val rfl, m_ptr rfl, m_val rfl, trivial⟩ ⟨⟨rfl, o_row⟩, ⟨rfl, o_box rfl⟩, ⟨rfl, o_box rfl⟩, trivial⟩ rfl, hF⟩
          · exact ⟨false, entG [0, 1, 2] ⟨m_val rfl, m_val rfl, m_val rfl, m_val rfl, ⟨rfl, rfl, trivial⟩, m_ptr rfl, m_val rfl, m_val rfl, m_ptr rfl, m_val rfl, trivial⟩ ⟨⟨rfl, o_row⟩, ⟨rfl, o_box rfl⟩, ⟨rfl, o_box rfl⟩, trivial⟩ rfl, hF⟩
        · exact ⟨false, entG [0, 1, 2] ⟨m_val rfl, m_val rfl, m_val rfl, m_val rfl, ⟨rfl, rfl, trivial⟩, m_ptr rfl, m_val rfl, m_val rfl, m_ptr rfl, m_val rfl, trivial⟩ ⟨⟨rfl, o_row⟩, ⟨rfl, o_box rfl⟩, ⟨rfl, o_box rfl⟩, trivial⟩ rfl, hF⟩
end Go.Proofs.PanK

/-! Printed by wip/tools/walk.py. -/
namespace Go.Proofs.PanK
open Go.Vs
set_option maxRecDepth 8000
def s_BlkGet (a0 : (List BlkPiece)) (a1 : Int) (a2 : Int) (a3 : Int) : Option (Int) :=
  (s_BlkOk a0).bind (fun y1 => cond (!y1) (some 0) (loopN (fun i2 (v7 : Int) κ8 => cond (decide ((a0.getD i2 default).Disk = a1)) (cond (decide ((a0.getD i2 default).Block = a2)) (cond (decide ((a0.getD i2 default).Epoch ≤ a3)) (κ8 ((a0.getD i2 default).Data)) (κ8 v7)) (κ8 v7)) (κ8 v7)) (fun (v7 : Int) => some v7) a0.length 0 0))
theorem s_BlkGet_c {t0_0 : Bool} {a0 : (List BlkPiece)} {a1 : Int} {a2 : Int} {a3 : Int} {r : Int} (hF : s_BlkGet a0 a1 a2 a3 = some r) : Con Tryd.prog 89 [.val false [.u (ul BlkPiece.c 4 t0_0 a0)], vint .i64 a1, vint .i64 a2, vint .i64 a3] [] (vint .i64 r) [] := by
  refine Con.of_Dz tabOk Tryd.func89 rfl rfl rfl ?_
  delta s_BlkGet at hF
  refine Dz.seq ?_
  refine Dz.reg ?_
  refine Dz.seq ?_
  refine Dz.reg ?_
  refine Dz.seq ?_
  refine Dz.seq ?_
  refine Dz.reg ?_
  refine bdE hF (fun y1 hy1 hF => ?_)
  refine callG [] (s_BlkOk_c hy1) ⟨m_val rfl, trivial⟩ trivial rfl ?_
  refine Dz.ite rfl hF (fun _ hF => ?_) (fun _ hF => ?_)
  · refine Dz.seq ?_
    refine Dz.reg ?_
    refine Dz.ret ?_
    cases hF
    exact finG [] [] rfl rfl (m_val rfl) trivial rfl
  · refine Dz.skip ?_
    refine Dz.seq ?_
    refine Dz.seq ?_
    refine Dz.reg ?_
    refine Dz.blk ?_
    refine Dz.cnt hF (fun i2 v7 => ([(0, .val false [.u (ul BlkPiece.c 4 t0_0 a0)]), (1, vint .i64 a1), (2, vint .i64 a2), (3, vint .i64 a3), (9, vint .i64 v7), (10, vint .i64 ((i2 : Nat) : Int))], [])) (entG [] ⟨m_val rfl, m_val rfl, m_val rfl, m_val rfl, m_val rfl, m_val rfl, trivial⟩ trivial rfl) (fun v7 hF => ?_) (fun i2 v7 κ8 hi0i2 hi1i2 hF => ?_)
    · refine Dz.seq ?_
      refine Dz.seq ?_
      refine Dz.reg ?_
      intro hb10; replace hb10 : a0.length ≤ 140737488355328 := hb10
      refine Dz.ff (b := decide (((0 + a0.length : Nat) : Int) < ((a0.length : Nat) : Int))) rfl (decide_eq_false (by omega)) ?_
      refine Dz.exit ?_
      refine Dz.seq ?_
      refine Dz.reg ?_
      refine Dz.ret ?_
      cases hF
      exact finG [] [] rfl rfl (m_val rfl) trivial rfl
    · refine Dz.seq ?_
      refine Dz.seq ?_
      refine Dz.reg ?_
      intro hb9; replace hb9 : a0.length ≤ 140737488355328 := hb9
      refine Dz.tt (b := decide (((i2 : Nat) : Int) < ((a0.length : Nat) : Int))) rfl (decide_eq_true (by omega)) ?_
      refine Dz.skip ?_
      refine Dz.seq ?_
      refine Dz.blk ?_
      refine Dz.seq ?_
      refine Dz.reg ?_
      refine vge (n := ((i2 : Nat) : Int)) (hi := (a0.length : Int)) (by omega) (by omega) ?_
      refine vif hF (fun _ hF => ?_) (fun _ hF => ?_)
      · refine vge (n := ((i2 : Nat) : Int)) (hi := (a0.length : Int)) (by omega) (by omega) ?_
        refine vif hF (fun _ hF => ?_) (fun _ hF => ?_)
        · refine vge (n := ((i2 : Nat) : Int)) (hi := (a0.length : Int)) (by omega) (by omega) ?_
          refine Dz.ite rfl hF (fun _ hF => ?_) (fun _ hF => ?_)
          · refine Dz.reg ?_
            refine vge (n := ((i2 : Nat) : Int)) (hi := (a0.length : Int)) (by omega) (by omega) ?_
            refine Dz.reg ?_
            refine vsucc (by omega) ?_
            exact ⟨((a0.getD i2 default).Data), entG [] ⟨m_val rfl, m_val rfl, m_val rfl, m_val rfl, m_val rfl, m_val rfl, trivial⟩ trivial rfl, hF⟩
          · refine Dz.skip ?_
            refine Dz.reg ?_
            refine vsucc (by omega) ?_
            exact ⟨v7, entG [] ⟨m_val rfl, m_val rfl, m_val rfl, m_val rfl, m_val rfl, m_val rfl, trivial⟩ trivial rfl, hF⟩
        · refine Dz.ff (b := false) rfl rfl ?_
          refine Dz.skip ?_
          refine Dz.reg ?_
          refine vsucc (by omega) ?_
          exact ⟨v7, entG [] ⟨m_val rfl, m_val rfl, m_val rfl, m_val rfl, m_val rfl, m_val rfl, trivial⟩ trivial rfl, hF⟩
      · refine Dz.ff (b := false) rfl rfl ?_
        refine Dz.skip ?_
        refine Dz.reg ?_
        refine vsucc (by omega) ?_
        exact ⟨v7, entG [] ⟨m_val rfl, m_val rfl, m_val rfl, m_val rfl, m_val rfl, m_val rfl, trivial⟩ trivial rfl, hF⟩
end Go.Proofs.PanK

/-! Printed by wip/tools/walk.py. -/
namespace Go.Proofs.PanK
open Go.Vs
set_option maxRecDepth 8000
def s_HistStep (a0 : HistState) (a1 : PanCall) : Option (HistState × Int × Int) :=
  (s_HistStateOk a0).bind (fun y1 => cond (!y1) (some (({ Next := 0, Servers := 0, Disks := [], Pieces := [] } : HistState), 5, 0)) ((s_l6In a1.Op 1 6).bind (fun y2 => cond (!y2) (some (({ Next := 0, Servers := 0, Disks := [], Pieces := [] } : HistState), 5, 0)) ((s_l63Copy a0).bind (fun y3 => cond (decide ((2 : Int) < a1.Op)) ((s_l63Admin y3 a1).bind (fun y4 => some (y4.1, y4.2.1, y4.2.2))) ((s_l63Judge y3 a1).bind (fun y5 => cond (!decide (y5 = 0)) (some (y3, y5, 0)) ((s_l63Disk y3 a1.Disk).bind (fun y6 => ix y3.Disks y6 (fun _ => lt (y3.Disks.getD y6.toNat default) (fun x7 => cond (decide (a1.Op = 2)) ((s_BlkPut y3.Pieces a1.Disk a1.Block x7.Epoch a1.Data).bind (fun y8 => some (({ Next := y3.Next, Servers := y3.Servers, Disks := y3.Disks, Pieces := y8.1 } : HistState), 0, 0))) (cond (decide (a1.Epoch = 0)) ((s_BlkGet y3.Pieces a1.Disk a1.Block x7.Epoch).bind (fun y9 => some (y3, 0, y9))) ((s_BlkGet y3.Pieces a1.Disk a1.Block a1.Epoch).bind (fun y10 => some (y3, 0, y10)))))))))))))))
theorem s_HistStep_c {t0_2 t0_3 : Bool} {a0 : HistState} {a1 : PanCall} {r : HistState × Int × Int} (hF : s_HistStep a0 a1 = some r) : Con Tryd.prog 74 [.val true [.u (cI a0.Next), .u (cI a0.Servers), .u (ul MapDisk.c 7 t0_2 a0.Disks), .u (ul BlkPiece.c 4 t0_3 a0.Pieces)], .val true (PanCall.L a1)] [] (.tup [(true, (HistState.L r.1)), (false, [.u (cI r.2.1)]), (false, [.u (cI r.2.2)])]) [] := by
  refine Con.of_Dz tabOk Tryd.func74 rfl rfl rfl ?_
  delta s_HistStep at hF
  refine Dz.seq ?_
  refine Dz.reg ?_
  refine Dz.seq ?_
  refine Dz.seq ?_
  refine Dz.reg ?_
  refine bdE hF (fun y1 hy1 hF => ?_)
  refine callG [] (s_HistStateOk_c hy1) ⟨m_val rfl, trivial⟩ trivial rfl ?_
  refine vif hF (fun _ hF => ?_) (fun _ hF => ?_)
  · refine Dz.tt (b := true) rfl rfl ?_
    refine Dz.seq ?_
    refine Dz.reg ?_
    refine Dz.ret ?_
    cases hF
    exact finG [] [] rfl rfl ⟨⟨rfl, ⟨LeU.refl _, LeU.refl _, ⟨_, _, _, rfl⟩, ⟨_, _, _, rfl⟩, trivial⟩⟩, ⟨rfl, mls_same rfl⟩, ⟨rfl, mls_same rfl⟩, trivial⟩ trivial rfl
  · refine bdE hF (fun y2 hy2 hF => ?_)
    refine callG [] (s_l6In_c hy2) ⟨m_val rfl, m_val rfl, m_val rfl, trivial⟩ trivial rfl ?_
    refine Dz.ite rfl hF (fun _ hF => ?_) (fun _ hF => ?_)
    · refine Dz.seq ?_
      refine Dz.reg ?_
      refine Dz.ret ?_
      cases hF
      exact finG [] [] rfl rfl ⟨⟨rfl, ⟨LeU.refl _, LeU.refl _, ⟨_, _, _, rfl⟩, ⟨_, _, _, rfl⟩, trivial⟩⟩, ⟨rfl, mls_same rfl⟩, ⟨rfl, mls_same rfl⟩, trivial⟩ trivial rfl
    · refine Dz.skip ?_
      refine Dz.seq ?_
      refine Dz.reg ?_
      refine bdE hF (fun y3 hy3 hF => ?_)
      refine callG [] (s_l63Copy_c hy3) ⟨m_val rfl, trivial⟩ trivial rfl ?_
      refine Dz.seq ?_
      refine Dz.seq ?_
      refine Dz.reg ?_
      refine Dz.ite rfl hF (fun _ hF => ?_) (fun _ hF => ?_)
      · refine Dz.seq ?_
        refine Dz.reg ?_
        refine bdE hF (fun y4 hy4 hF => ?_)
        refine callF [4] [3] (s_l63Admin_c hy4) ⟨⟨rfl, LeU.refl _, LeU.refl _, rfl, LeU.refl _, trivial⟩, m_val rfl, trivial⟩ ⟨⟨rfl, o_row⟩, trivial⟩ rfl ?_
        refine Dz.ret ?_
        cases hF
        exact finG [] [] rfl rfl ⟨⟨rfl, mls_same rfl⟩, ⟨rfl, mls_same rfl⟩, ⟨rfl, mls_same rfl⟩, trivial⟩ trivial rfl
      · refine Dz.skip ?_
        refine Dz.seq ?_
        refine Dz.reg ?_
        refine bdE hF (fun y5 hy5 hF => ?_)
        refine callL [] (s_l63Judge_c hy5) ⟨⟨rfl, LeU.refl _, LeU.refl _, ⟨rfl, rfl, LeU.refl _⟩, ⟨rfl, rfl, LeU.refl _⟩, trivial⟩, m_val rfl, trivial⟩ trivial rfl ⟨⟨trivial, trivial⟩, trivial⟩ ?_
        refine Dz.seq ?_
        refine Dz.seq ?_
        refine Dz.reg ?_
        refine Dz.ite rfl hF (fun _ hF => ?_) (fun _ hF => ?_)
        · refine Dz.seq ?_
          refine Dz.ent (x := ([(2, .ptr 0 0), (4, .ptr 1 0), (7, vint .i64 y5)], [.box 88 [.u (cI y3.Next), .u (cI y3.Servers), .row 2, .row 3], .box 88 [.u (cI 0), .u (cI 0), .nil, .nil], .row 121 y3.Disks.length 7 (gl MapDisk.c y3.Disks), .row 123 y3.Pieces.length 4 (gl BlkPiece.c y3.Pieces)])) (entG [0, 2, 3, 4] ⟨m_ptr rfl, m_ptr rfl, m_val rfl, trivial⟩ ⟨⟨rfl, ⟨rfl, LeU.refl _, LeU.refl _, rfl, rfl, trivial⟩⟩, ⟨rfl, ⟨rfl, LeU.refl _, LeU.refl _, trivial, trivial, trivial⟩⟩, ⟨rfl, o_row⟩, ⟨rfl, o_row⟩, trivial⟩ rfl) ?_
          refine Dz.reg ?_
          refine Dz.ret ?_
          cases hF
          exact finG [.frz 2, .frz 3] [] rfl rfl ⟨⟨rfl, ⟨LeU.refl _, LeU.refl _, LeU.refl _, LeU.refl _, trivial⟩⟩, ⟨rfl, mls_same rfl⟩, ⟨rfl, mls_same rfl⟩, trivial⟩ trivial rfl
        · refine Dz.skip ?_
          refine Dz.seq ?_
          refine Dz.ent (x := ([(2, .ptr 0 0), (3, .ptr 1 0), (4, .ptr 2 0)], [.box 88 [.u (cI y3.Next), .u (cI y3.Servers), .row 3, .row 4], .box 78 (PanCall.L a1), .box 88 [.u (cI 0), .u (cI 0), .nil, .nil], .row 121 y3.Disks.length 7 (gl MapDisk.c y3.Disks), .row 123 y3.Pieces.length 4 (gl BlkPiece.c y3.Pieces)])) (entG [0, 1, 2, 3, 4] ⟨m_ptr rfl, m_ptr rfl, m_ptr rfl, trivial⟩ ⟨⟨rfl, ⟨rfl, LeU.refl _, LeU.refl _, rfl, rfl, trivial⟩⟩, ⟨rfl, o_box rfl⟩, ⟨rfl, ⟨rfl, LeU.refl _, LeU.refl _, trivial, trivial, trivial⟩⟩, ⟨rfl, o_row⟩, ⟨rfl, o_row⟩, trivial⟩ rfl) ?_
          refine Dz.drw 5 [⟨[42,43,44,45,8], [], 5, 5⟩, ⟨[42,43,44,45,8], [0], 5, 5⟩, ⟨[40,41,43,44,8], [0], 5, 5⟩, ⟨[40,41,42,8], [], 5, 5⟩, ⟨[40,41,42,8], [1], 5, 5⟩, ⟨[40,41,8], [3,4], 5, 5⟩, ⟨[8], [3], 5, 5⟩, ⟨[8], [3], 5, 5⟩, ⟨[40,41,42,43,44,45,46,47], [], 5, 6⟩, ⟨[], [5], 6, 6⟩] ⟨by kernel_rfl, by kernel_rfl, rfl⟩ ?_
          refine bdE hF (fun y6 hy6 hF => ?_)
          refine callL [] (s_l63Disk_c hy6) ⟨⟨rfl, LeU.refl _, LeU.refl _, ⟨rfl, rfl, LeU.refl _⟩, ⟨rfl, rfl, LeU.refl _⟩, trivial⟩, m_val rfl, trivial⟩ trivial rfl ⟨⟨trivial, trivial⟩, trivial⟩ ?_
          refine vix hF (fun _ _ hF => ?_)
          have hF := ltE hF
          refine Dz.seq ?_
          refine Dz.seq ?_
          refine Dz.reg ?_
          refine Dz.ite rfl hF (fun _ hF => ?_) (fun _ hF => ?_)
          · refine Dz.seq ?_
            refine Dz.reg ?_
            refine bdE hF (fun y8 hy8 hF => ?_)
            refine callL [] (s_BlkPut_c hy8) ⟨⟨rfl, ⟨rfl, rfl, LeU.refl _⟩, trivial⟩, m_val rfl, m_val rfl, m_val rfl, m_val rfl, trivial⟩ trivial rfl ⟨⟨⟨trivial, trivial⟩, ⟨trivial, trivial⟩, trivial⟩, ⟨ntm_gl, trivial⟩⟩ ?_
            refine Dz.seq ?_
            refine Dz.reg ?_
            refine Dz.seq ?_
            refine Dz.ent (x := ([(2, .ptr 0 0), (4, .ptr 1 0)], [.box 88 [.u (cI y3.Next), .u (cI y3.Servers), .row 2, .row 3], .box 88 [.u (cI 0), .u (cI 0), .nil, .nil], .row 121 y3.Disks.length 7 (gl MapDisk.c y3.Disks), .row 123 y8.1.length 4 (gl BlkPiece.c y8.1)])) (entG [0, 2, 3, 6] ⟨m_ptr rfl, m_ptr rfl, trivial⟩ ⟨⟨rfl, ⟨rfl, LeU.refl _, LeU.refl _, rfl, rfl, trivial⟩⟩, ⟨rfl, ⟨rfl, LeU.refl _, LeU.refl _, trivial, trivial, trivial⟩⟩, ⟨rfl, o_row⟩, ⟨rfl, o_row⟩, trivial⟩ rfl) ?_
            refine Dz.reg ?_
            refine Dz.ret ?_
            cases hF
            exact finG [.frz 2, .frz 3] [] rfl rfl ⟨⟨rfl, ⟨LeU.refl _, LeU.refl _, LeU.refl _, LeU.refl _, trivial⟩⟩, ⟨rfl, mls_same rfl⟩, ⟨rfl, mls_same rfl⟩, trivial⟩ trivial rfl
          · refine Dz.skip ?_
            refine Dz.seq ?_
            refine Dz.reg ?_
            refine Dz.seq ?_
            refine Dz.seq ?_
            refine Dz.reg ?_
            refine Dz.ite rfl hF (fun _ hF => ?_) (fun _ hF => ?_)
            · refine Dz.reg ?_
              refine Dz.seq ?_
              refine Dz.drw 6 [⟨[75,76,77,78,79,80,81,82], [0], 6, 6⟩, ⟨[74,77,78,79,80,81], [], 6, 6⟩, ⟨[74,77,78,79,80,81], [0], 6, 6⟩, ⟨[74,75,76,79,80,81], [], 6, 6⟩, ⟨[74,75,76,79,80,81], [1], 6, 6⟩, ⟨[74,75,76,77,78,81], [], 6, 6⟩, ⟨[74,75,76,77,78,81], [1], 6, 6⟩, ⟨[74,75,76,77,78,79,80], [], 6, 6⟩, ⟨[74], [4], 6, 6⟩, ⟨[], [2], 6, 6⟩, ⟨[], [], 6, 6⟩, ⟨[], [], 6, 6⟩] ⟨by kernel_rfl, by kernel_rfl, rfl⟩ ?_
              refine bdE hF (fun y9 hy9 hF => ?_)
              refine callL [] (s_BlkGet_c hy9) ⟨⟨rfl, ⟨rfl, rfl, LeU.refl _⟩, trivial⟩, m_val rfl, m_val rfl, m_val rfl, trivial⟩ trivial rfl ⟨⟨trivial, trivial⟩, trivial⟩ ?_
              refine Dz.ret ?_
              cases hF
              exact finG [.frz 3, .frz 4] [] rfl rfl ⟨⟨rfl, ⟨LeU.refl _, LeU.refl _, LeU.refl _, LeU.refl _, trivial⟩⟩, ⟨rfl, mls_same rfl⟩, ⟨rfl, mls_same rfl⟩, trivial⟩ trivial rfl
            · refine Dz.skip ?_
              refine Dz.seq ?_
              refine Dz.drw 6 [⟨[75,76,77,78,79,80,81,82], [0], 6, 6⟩, ⟨[74,77,78,79,80,81], [], 6, 6⟩, ⟨[74,77,78,79,80,81], [0], 6, 6⟩, ⟨[74,75,76,79,80,81], [], 6, 6⟩, ⟨[74,75,76,79,80,81], [1], 6, 6⟩, ⟨[74,75,76,77,78,81], [], 6, 6⟩, ⟨[74,75,76,77,78,81], [1], 6, 6⟩, ⟨[74,75,76,77,78,79,80], [], 6, 6⟩, ⟨[74], [4], 6, 6⟩, ⟨[], [2], 6, 6⟩, ⟨[], [], 6, 6⟩, ⟨[], [], 6, 6⟩] ⟨by kernel_rfl, by kernel_rfl, rfl⟩ ?_
              refine bdE hF (fun y10 hy10 hF => ?_)
              refine callL [] (s_BlkGet_c hy10) ⟨⟨rfl, ⟨rfl, rfl, LeU.refl _⟩, trivial⟩, m_val rfl, m_val rfl, m_val rfl, trivial⟩ trivial rfl ⟨⟨trivial, trivial⟩, trivial⟩ ?_
              refine Dz.ret ?_
              cases hF
              exact finG [.frz 3, .frz 4] [] rfl rfl ⟨⟨rfl, ⟨LeU.refl _, LeU.refl _, LeU.refl _, LeU.refl _, trivial⟩⟩, ⟨rfl, mls_same rfl⟩, ⟨rfl, mls_same rfl⟩, trivial⟩ trivial rfl
end Go.Proofs.PanK

/-! Printed by wip/tools/walk.py. -/
namespace Go.Proofs.PanK
open Go.Vs
set_option maxRecDepth 8000
def s_l63Fits (a0 : HistState) (a1 : PanCall) : Option (HistState × Bool) :=
  jn (fun (v1 : Unit) => (s_HistStep a0 a1).bind (fun y2 => cond (decide (a1.End = 0)) (some (y2.1, true)) (cond (decide (y2.2.1 = a1.Code)) (some (y2.1, decide (y2.2.2 = a1.Value))) (some (y2.1, false))))) (fun j3 => cond (decide ((0 : Int) < a1.End)) (cond (decide (a1.Code = 5)) (cond (decide (a1.Op = 4)) (some (a0, decide (a1.Value = 0))) (cond (decide (a1.Op = 5)) (some (a0, decide (a1.Value = 0))) (some (a0, false)))) (j3 ())) (j3 ()))
theorem s_l63Fits_c {a0 : HistState} {a1 : PanCall} {r : HistState × Bool} (hF : s_l63Fits a0 a1 = some r) : Con Tryd.prog 63 [.val true (HistState.L a0), .val true (PanCall.L a1)] [] (.tup [(true, (HistState.L r.1)), (false, [.u (.bool r.2)])]) [] := by
  refine Con.of_Dz tabOk Tryd.func63 rfl rfl rfl ?_
  delta s_l63Fits at hF
  refine Dz.seq ?_
  refine Dz.reg ?_
  refine Dz.jn hF (fun v1 => ([(2, .ptr 0 0), (3, .ptr 1 0), (4, .ptr 2 0)], [.box 88 (HistState.L a0), .box 78 (PanCall.L a1), .box 88 [.u (cI 0), .u (cI 0), .nil, .nil]])) (fun v1 hF => ?_) (fun hF => ?_)
  · refine Dz.seq ?_
    refine Dz.reg ?_
    refine bdE hF (fun y2 hy2 hF => ?_)
    refine callG [] (s_HistStep_c hy2) ⟨m_val rfl, m_val rfl, trivial⟩ trivial rfl ?_
    refine Dz.seq ?_
    refine Dz.drw 4 [⟨[39,40,41,42,43,44,45,46,47,48,49,50,51,52,53], [3], 4, 4⟩, ⟨[38], [], 4, 4⟩, ⟨[38], [1], 4, 4⟩, ⟨[38], [], 4, 4⟩, ⟨[38], [], 4, 4⟩, ⟨[38,44,45], [], 4, 4⟩, ⟨[38,43], [], 4, 4⟩, ⟨[38,43], [1], 4, 4⟩, ⟨[38], [], 4, 4⟩, ⟨[38], [], 4, 4⟩, ⟨[38,49,50], [], 4, 4⟩, ⟨[38,48], [], 4, 4⟩, ⟨[38,48], [1], 4, 4⟩, ⟨[38], [], 4, 4⟩, ⟨[38], [], 4, 4⟩, ⟨[38], [], 4, 4⟩, ⟨[48,49,50,51,52,53], [2], 4, 4⟩, ⟨[], [], 4, 4⟩] ⟨by kernel_rfl, by kernel_rfl, rfl⟩ ?_
    refine vif hF (fun _ hF => ?_) (fun _ hF => ?_)
    · refine Dz.ret ?_
      cases hF
      exact finG [] [] rfl rfl ⟨⟨rfl, mls_same rfl⟩, ⟨rfl, mls_same rfl⟩, trivial⟩ trivial rfl
    · refine vif hF (fun _ hF => ?_) (fun _ hF => ?_)
      · refine Dz.ret ?_
        cases hF
        exact finG [] [] rfl rfl ⟨⟨rfl, mls_same rfl⟩, ⟨rfl, mls_same rfl⟩, trivial⟩ trivial rfl
      · refine Dz.ret ?_
        cases hF
        exact finG [] [] rfl rfl ⟨⟨rfl, mls_same rfl⟩, ⟨rfl, mls_same rfl⟩, trivial⟩ trivial rfl
  · refine Dz.seq ?_
    refine Dz.reg ?_
    refine vif hF (fun _ hF => ?_) (fun _ hF => ?_)
    · refine Dz.ite rfl hF (fun _ hF => ?_) (fun _ hF => ?_)
      · refine Dz.seq ?_
        refine Dz.drw 3 [⟨[18,19,20,21,22,23,24,25,26,27,28,29,30], [0], 3, 3⟩, ⟨[17], [], 3, 3⟩, ⟨[17], [1], 3, 3⟩, ⟨[17], [], 3, 3⟩, ⟨[17], [], 3, 3⟩, ⟨[17], [], 3, 3⟩, ⟨[17], [1], 3, 3⟩, ⟨[17], [], 3, 3⟩, ⟨[17], [], 3, 3⟩, ⟨[17], [], 3, 3⟩, ⟨[17], [], 3, 3⟩, ⟨[17], [1], 3, 3⟩, ⟨[17], [], 3, 3⟩, ⟨[17], [], 3, 3⟩, ⟨[27,28,29,30], [2], 3, 3⟩, ⟨[], [], 3, 3⟩] ⟨by kernel_rfl, by kernel_rfl, rfl⟩ ?_
        refine vif hF (fun _ hF => ?_) (fun _ hF => ?_)
        · refine Dz.ret ?_
          cases hF
          exact finG [] [] rfl rfl ⟨⟨rfl, mls_same rfl⟩, ⟨rfl, mls_same rfl⟩, trivial⟩ trivial rfl
        · refine vif hF (fun _ hF => ?_) (fun _ hF => ?_)
          · refine Dz.ret ?_
            cases hF
            exact finG [] [] rfl rfl ⟨⟨rfl, mls_same rfl⟩, ⟨rfl, mls_same rfl⟩, trivial⟩ trivial rfl
          · refine Dz.ret ?_
            cases hF
            exact finG [] [] rfl rfl ⟨⟨rfl, mls_same rfl⟩, ⟨rfl, mls_same rfl⟩, trivial⟩ trivial rfl
      · refine Dz.skip ?_
        exact ⟨(), entG [0, 1, 2] ⟨m_ptr rfl, m_ptr rfl, m_ptr rfl, trivial⟩ ⟨⟨rfl, o_box rfl⟩, ⟨rfl, o_box rfl⟩, ⟨rfl, ⟨rfl, LeU.refl _, LeU.refl _, trivial, trivial, trivial⟩⟩, trivial⟩ rfl, hF⟩
    · refine Dz.ff (b := false) rfl rfl ?_
      refine Dz.skip ?_
      exact ⟨(), entG [0, 1, 2] ⟨m_ptr rfl, m_ptr rfl, m_ptr rfl, trivial⟩ ⟨⟨rfl, o_box rfl⟩, ⟨rfl, o_box rfl⟩, ⟨rfl, ⟨rfl, LeU.refl _, LeU.refl _, trivial, trivial, trivial⟩⟩, trivial⟩ rfl, hF⟩
end Go.Proofs.PanK

/-! Printed by wip/tools/walk.py. -/
namespace Go.Proofs.PanK
open Go.Vs
set_option maxRecDepth 8000
def s_l63Search_b (rec : (List PanCall) → (List Bool) → HistState → (List Int) → Option ((List Int) × Bool)) (a0 : (List PanCall)) (a1 : (List Bool)) (a2 : HistState) (a3 : (List Int)) : Option ((List Int) × Bool) :=
  loopN (fun i1 (v8 : Bool) κ9 => cond v8 (κ9 true) (ix a1 ((i1 : Nat) : Int) (fun x11 => cond (!x11) (κ9 (decide ((0 : Int) < (a0.getD i1 default).End))) (κ9 false)))) (fun (v8 : Bool) => cond (!v8) (some (a3, true)) (loopN (fun i13 (v20 : Unit) κ21 => (s_l63May a0 a1 ((i13 : Nat) : Int)).bind (fun y23 => cond (!y23) (κ21 ()) (lt (a0.getD i13 default) (fun x24 => (s_l63Fits a2 x24).bind (fun y25 => cond (!y25.2) (κ21 ()) (ck ((0 + a1.length) * 1 ≤ 140737488355328) (ix (([] : List Bool) ++ a1) ((i13 : Nat) : Int) (fun _ => lt ((([] : List Bool) ++ a1).set i13 true) (fun r26 => ck ((0 + a3.length) * 8 ≤ 140737488355328) (ck (((0 + a3.length) + 1) * 8 ≤ 140737488355328) ((rec a0 r26 y25.1 ((([] : List Int) ++ a3) ++ ([((i13 : Nat) : Int)] : List Int))).bind (fun y27 => cond y27.2 (some (y27.1, true)) (κ21 ()))))))))))))) (fun (v20 : Unit) => some (([] : List Int), false)) a0.length 0 ())) a0.length 0 false
theorem s_l63Search_bc {rec : (List PanCall) → (List Bool) → HistState → (List Int) → Option ((List Int) × Bool)} (hrec : ∀ {t0_0 t1_0 : Bool} {a0 : (List PanCall)} {a1 : (List Bool)} {a2 : HistState} {a3 : (List Int)} {r : (List Int) × Bool} (hF : rec a0 a1 a2 a3 = some r), Con Tryd.prog 46 [.val false [.u (ul PanCall.c 12 t0_0 a0)], .val false [.u (ul cBool 1 t1_0 a1)], .val true (HistState.L a2), .val false [.u (ul cInt 1 false a3)]] [] (.tup [(false, [.u (ul cInt 1 false r.1)]), (false, [.u (.bool r.2)])]) []) {t0_0 t1_0 : Bool} {a0 : (List PanCall)} {a1 : (List Bool)} {a2 : HistState} {a3 : (List Int)} {r : (List Int) × Bool} (hF : s_l63Search_b rec a0 a1 a2 a3 = some r) : Con Tryd.prog 46 [.val false [.u (ul PanCall.c 12 t0_0 a0)], .val false [.u (ul cBool 1 t1_0 a1)], .val true (HistState.L a2), .val false [.u (ul cInt 1 false a3)]] [] (.tup [(false, [.u (ul cInt 1 false r.1)]), (false, [.u (.bool r.2)])]) [] := by
  refine Con.of_Dz tabOk Tryd.func46 rfl rfl rfl ?_
  delta s_l63Search_b at hF
  refine Dz.seq ?_
  refine Dz.reg ?_
  refine Dz.seq ?_
  refine Dz.reg ?_
  refine Dz.seq ?_
  refine Dz.seq ?_
  refine Dz.reg ?_
  refine Dz.blk ?_
  refine Dz.cnt hF (fun i1 v8 => ([(0, .val false [.u (ul PanCall.c 12 t0_0 a0)]), (1, .val false [.u (ul cBool 1 t1_0 a1)]), (3, .val false [.u (ul cInt 1 false a3)]), (6, .ptr 0 0), (10, vbool v8), (11, vint .i64 ((i1 : Nat) : Int))], [.box 88 (HistState.L a2)])) (entG [0] ⟨m_val rfl, m_val rfl, m_val rfl, m_ptr rfl, m_val rfl, m_val rfl, trivial⟩ ⟨⟨rfl, o_box rfl⟩, trivial⟩ rfl) (fun v8 hF => ?_) (fun i1 v8 κ9 hi0i1 hi1i1 hF => ?_)
  · refine Dz.seq ?_
    refine Dz.seq ?_
    refine Dz.reg ?_
    intro hb12; replace hb12 : a0.length ≤ 140737488355328 := hb12
    refine Dz.ff (b := decide (((0 + a0.length : Nat) : Int) < ((a0.length : Nat) : Int))) rfl (decide_eq_false (by omega)) ?_
    refine Dz.exit ?_
    refine Dz.seq ?_
    refine Dz.seq ?_
    refine Dz.reg ?_
    refine Dz.ite rfl hF (fun _ hF => ?_) (fun _ hF => ?_)
    · refine Dz.seq ?_
      refine Dz.reg ?_
      refine Dz.ret ?_
      cases hF
      exact finG [] [] rfl rfl ⟨⟨rfl, mls_same rfl⟩, ⟨rfl, mls_same rfl⟩, trivial⟩ trivial rfl
    · refine Dz.skip ?_
      refine Dz.seq ?_
      refine Dz.seq ?_
      refine Dz.reg ?_
      refine Dz.blk ?_
      refine Dz.cnt hF (fun i13 v20 => ([(0, .val false [.u (ul PanCall.c 12 t0_0 a0)]), (1, .val false [.u (ul cBool 1 t1_0 a1)]), (3, .val false [.u (ul cInt 1 false a3)]), (6, .ptr 0 0), (12, vint .i64 ((i13 : Nat) : Int))], [.box 88 (HistState.L a2)])) (entG [0] ⟨m_val rfl, m_val rfl, m_val rfl, m_ptr rfl, m_val rfl, trivial⟩ ⟨⟨rfl, o_box rfl⟩, trivial⟩ rfl) (fun v20 hF => ?_) (fun i13 v20 κ21 hi0i13 hi1i13 hF => ?_)
      · refine Dz.seq ?_
        refine Dz.seq ?_
        refine Dz.reg ?_
        intro hb28; replace hb28 : a0.length ≤ 140737488355328 := hb28
        refine Dz.ff (b := decide (((0 + a0.length : Nat) : Int) < ((a0.length : Nat) : Int))) rfl (decide_eq_false (by omega)) ?_
        refine Dz.exit ?_
        refine Dz.seq ?_
        refine Dz.reg ?_
        refine Dz.ret ?_
        cases hF
        exact finG [.frz 1] [] rfl rfl ⟨⟨rfl, ⟨LeU.cut (by simp <;> omega) EqG.nilr, trivial⟩⟩, ⟨rfl, mls_same rfl⟩, trivial⟩ trivial rfl
      · refine Dz.seq ?_
        refine Dz.seq ?_
        refine Dz.reg ?_
        intro hb22; replace hb22 : a0.length ≤ 140737488355328 := hb22
        refine Dz.tt (b := decide (((i13 : Nat) : Int) < ((a0.length : Nat) : Int))) rfl (decide_eq_true (by omega)) ?_
        refine Dz.skip ?_
        refine Dz.seq ?_
        refine Dz.blk ?_
        refine Dz.seq ?_
        refine Dz.seq ?_
        refine Dz.reg ?_
        refine bdE hF (fun y23 hy23 hF => ?_)
        refine callG [] (s_l63May_c hy23) ⟨m_val rfl, m_val rfl, m_val rfl, trivial⟩ trivial rfl ?_
        refine Dz.ite rfl hF (fun _ hF => ?_) (fun _ hF => ?_)
        · refine Dz.exit ?_
          refine Dz.reg ?_
          refine vsucc (by omega) ?_
          exact ⟨(), entG [0] ⟨m_val rfl, m_val rfl, m_val rfl, m_ptr rfl, m_val rfl, trivial⟩ ⟨⟨rfl, o_box rfl⟩, trivial⟩ rfl, hF⟩
        · refine Dz.skip ?_
          refine Dz.seq ?_
          refine Dz.drw 1 [⟨[56,57,58,59,13], [0], 1, 1⟩, ⟨[55,57,13], [], 1, 1⟩, ⟨[55,56,13], [], 1, 1⟩, ⟨[55,13], [], 1, 1⟩, ⟨[55,13], [], 1, 1⟩, ⟨[13], [], 1, 1⟩, ⟨[13], [], 1, 1⟩, ⟨[62,13], [], 1, 1⟩, ⟨[61,13], [], 1, 1⟩, ⟨[55,56,57,58,59,60,54,61,62], [], 1, 2⟩, ⟨[62], [1], 2, 2⟩, ⟨[], [], 2, 2⟩] ⟨by kernel_rfl, by kernel_rfl, rfl⟩ ?_
          refine vge (n := ((i13 : Nat) : Int)) (hi := (a0.length : Int)) (by omega) (by omega) ?_
          have hF := ltE hF
          refine bdE hF (fun y25 hy25 hF => ?_)
          refine callG [] (s_l63Fits_c hy25) ⟨m_val rfl, m_val rfl, trivial⟩ trivial rfl ?_
          refine Dz.seq ?_
          refine Dz.seq ?_
          refine Dz.reg ?_
          refine Dz.ite rfl hF (fun _ hF => ?_) (fun _ hF => ?_)
          · refine Dz.exit ?_
            refine Dz.reg ?_
            refine vsucc (by omega) ?_
            exact ⟨(), entG [0] ⟨m_val rfl, m_val rfl, m_val rfl, m_ptr rfl, m_val rfl, trivial⟩ ⟨⟨rfl, o_box rfl⟩, trivial⟩ rfl, hF⟩
          · refine Dz.skip ?_
            refine Dz.seq ?_
            refine Dz.reg ?_
            refine vck hF id (fun _ hF => ?_)
            refine Dz.row 3 (([] : List Bool) ++ a1).length (gl cBool (([] : List Bool) ++ a1)) rfl (by simp <;> omega) (EqG.app (by simp <;> omega) rfl EqG.nilr (EqG.refl _ _ _)) ?_
            refine Dz.seq ?_
            refine Dz.reg ?_
            refine vix hF (fun _ _ hF => ?_)
            refine ltX hF (fun r26 hr26 hF => ?_)
            have hlr26 : r26.length = (([] : List Bool) ++ a1).length := by rw [hr26]; simp <;> omega
            refine Dz.row 3 r26.length (gl cBool r26) rfl (by rw [hr26]; simp <;> omega) (by rw [hr26]; exact (EqG.set' rfl (EqG.refl _ _ _) ⟨LeU.refl _, trivial⟩)) ?_
            refine Dz.seq ?_
            refine Dz.ent (x := ([(0, .val false [.u (ul PanCall.c 12 t0_0 a0)]), (1, .val false [.u (ul cBool 1 t1_0 a1)]), (3, .val false [.u (ul cInt 1 false a3)]), (6, .ptr 0 0), (12, vint .i64 ((i13 : Nat) : Int)), (13, .ptr 1 0), (15, .val false [.row 2])], [.box 88 (HistState.L a2), .box 88 (HistState.L y25.1), .row 4 r26.length 1 (gl cBool r26)])) (entG [0, 1, 3] ⟨m_val rfl, m_val rfl, m_val rfl, m_ptr rfl, m_val rfl, m_ptr rfl, ⟨rfl, rfl, trivial⟩, trivial⟩ ⟨⟨rfl, o_box rfl⟩, ⟨rfl, o_box rfl⟩, ⟨rfl, o_row⟩, trivial⟩ rfl) ?_
            refine Dz.drw 3 [⟨[73,74,75,76,77,78,79,80], [], 3, 3⟩, ⟨[72,74,75,76,77,78,79,80], [], 3, 3⟩, ⟨[72,73,75,76,77,78,79,80], [1], 3, 3⟩, ⟨[72,73,74,76,78,79], [], 3, 4⟩, ⟨[72,73,74,75,78,79], [], 4, 4⟩, ⟨[72,73,74,78,79], [3], 4, 5⟩, ⟨[72,73,74,75,76,77], [], 5, 5⟩, ⟨[72,73,74,75,76,77], [], 5, 6⟩, ⟨[72,73,74], [4,5], 6, 7⟩, ⟨[], [2,6], 7, 7⟩, ⟨[], [], 7, 7⟩, ⟨[83], [], 7, 7⟩, ⟨[82,16], [], 7, 7⟩, ⟨[83], [], 7, 7⟩, ⟨[], [], 7, 7⟩] ⟨by kernel_rfl, by kernel_rfl, rfl⟩ ?_
            refine vck hF id (fun _ hF => ?_)
            refine vck hF id (fun _ hF => ?_)
            refine bdE hF (fun y27 hy27 hF => ?_)
            refine callLF [6] [] (hrec hy27) ⟨m_val rfl, ⟨rfl, ⟨rfl, rfl, LeU.refl _⟩, trivial⟩, m_val rfl, ⟨rfl, LeU.cut (by simp <;> omega) (EqG.app (by simp <;> omega) (by simp <;> omega) (EqG.app (by simp <;> omega) rfl EqG.nilr (EqG.refl _ _ _)) (EqG.lit (c := cInt) (sz := 1) (L := ([((i13 : Nat) : Int)] : List Int)) ⟨LeU.refl _, trivial⟩)), trivial⟩, trivial⟩ trivial rfl ⟨⟨⟨ntm_ul, trivial⟩, ⟨trivial, trivial⟩, trivial⟩, trivial⟩ ?_
            refine Dz.row 5 ([((i13 : Nat) : Int)] : List Int).length (gl cInt ([((i13 : Nat) : Int)] : List Int)) rfl (by simp <;> omega) (EqG.lit (c := cInt) (sz := 1) (L := ([((i13 : Nat) : Int)] : List Int)) ⟨LeU.refl _, trivial⟩) ?_
            refine Dz.seq ?_
            refine Dz.reg ?_
            refine Dz.ite rfl hF (fun _ hF => ?_) (fun _ hF => ?_)
            · refine Dz.seq ?_
              refine Dz.reg ?_
              refine Dz.ret ?_
              cases hF
              exact finG [] [] rfl rfl ⟨⟨rfl, mls_same rfl⟩, ⟨rfl, mls_same rfl⟩, trivial⟩ trivial rfl
            · refine Dz.skip ?_
              refine Dz.reg ?_
              refine vsucc (by omega) ?_
              exact ⟨(), entG [0] ⟨m_val rfl, m_val rfl, m_val rfl, m_ptr rfl, m_val rfl, trivial⟩ ⟨⟨rfl, o_box rfl⟩, trivial⟩ rfl, hF⟩
  · refine Dz.seq ?_
    refine Dz.seq ?_
    refine Dz.reg ?_
    intro hb10; replace hb10 : a0.length ≤ 140737488355328 := hb10
    refine Dz.tt (b := decide (((i1 : Nat) : Int) < ((a0.length : Nat) : Int))) rfl (decide_eq_true (by omega)) ?_
    refine Dz.skip ?_
    refine Dz.seq ?_
    refine Dz.blk ?_
    refine Dz.reg ?_
    refine vif hF (fun _ hF => ?_) (fun _ hF => ?_)
    · refine Dz.reg ?_
      refine vsucc (by omega) ?_
      exact ⟨true, entG [0] ⟨m_val rfl, m_val rfl, m_val rfl, m_ptr rfl, m_val rfl, m_val rfl, trivial⟩ ⟨⟨rfl, o_box rfl⟩, trivial⟩ rfl, hF⟩
    · refine vix hF (fun _ _ hF => ?_)
      refine vif hF (fun _ hF => ?_) (fun _ hF => ?_)
      · refine vge (n := ((i1 : Nat) : Int)) (hi := (a0.length : Int)) (by omega) (by omega) ?_
        refine Dz.reg ?_
        refine vsucc (by omega) ?_
        exact ⟨(decide ((0 : Int) < (a0.getD i1 default).End)), entG [0] ⟨m_val rfl, m_val rfl, m_val rfl, m_ptr rfl, m_val rfl, m_val rfl, trivial⟩ ⟨⟨rfl, o_box rfl⟩, trivial⟩ rfl, hF⟩
      · refine Dz.reg ?_
        refine vsucc (by omega) ?_
        exact ⟨false, entG [0] ⟨m_val rfl, m_val rfl, m_val rfl, m_ptr rfl, m_val rfl, m_val rfl, trivial⟩ ⟨⟨rfl, o_box rfl⟩, trivial⟩ rfl, hF⟩
def s_l63Search : Nat → (List PanCall) → (List Bool) → HistState → (List Int) → Option ((List Int) × Bool)
  | 0, _, _, _, _ => none
  | k + 1, a0, a1, a2, a3 => s_l63Search_b (s_l63Search k) a0 a1 a2 a3
theorem s_l63Search_c : ∀ {k : Nat} {t0_0 t1_0 : Bool} {a0 : (List PanCall)} {a1 : (List Bool)} {a2 : HistState} {a3 : (List Int)} {r : (List Int) × Bool} (hF : s_l63Search k a0 a1 a2 a3 = some r), Con Tryd.prog 46 [.val false [.u (ul PanCall.c 12 t0_0 a0)], .val false [.u (ul cBool 1 t1_0 a1)], .val true (HistState.L a2), .val false [.u (ul cInt 1 false a3)]] [] (.tup [(false, [.u (ul cInt 1 false r.1)]), (false, [.u (.bool r.2)])]) [] := by
  intro k
  induction k with
  | zero => intros; rename_i hF; cases hF
  | succ k ih => intros; rename_i hF; exact s_l63Search_bc (rec := s_l63Search k) ih hF
end Go.Proofs.PanK

/-! Printed by wip/tools/walk.py. -/
namespace Go.Proofs.PanK
open Go.Vs
set_option maxRecDepth 8000
def s_HistStart : Option (HistState) :=
  some ({ Next := 1, Servers := 3, Disks := [], Pieces := [] } : HistState)
theorem s_HistStart_c {r : HistState} (hF : s_HistStart = some r) : Con Tryd.prog 47 [] [] (.val true (HistState.L r)) [] := by
  refine Con.of_Dz tabOk Tryd.func47 rfl rfl rfl ?_
  delta s_HistStart at hF
  refine Dz.seq ?_
  refine Dz.reg ?_
  refine Dz.seq ?_
  refine Dz.reg ?_
  refine Dz.ret ?_
  cases hF
  exact finG [] [] rfl rfl (⟨rfl, LeU.refl _, LeU.refl _, ⟨_, _, _, rfl⟩, ⟨_, _, _, rfl⟩, trivial⟩) trivial rfl
end Go.Proofs.PanK

/-! Printed by wip/tools/walk.py. -/
namespace Go.Proofs.PanK
open Go.Vs
set_option maxRecDepth 8000
def s_HistOrder (a0 : (List PanCall)) : Option ((List Int) × Bool) :=
  (s_l61CallsOk a0 99999).bind (fun y1 => cond (!y1) (some (([] : List Int), false)) (ck (0 ≤ ((a0.length : Nat) : Int) ∧ ((a0.length : Nat) : Int) * 1 ≤ 140737488355328) ((s_HistStart).bind (fun y2 => (s_l63Search (a0.length + 1) a0 (List.replicate a0.length (false : Bool)) y2 ([] : List Int)).bind (fun y3 => some (y3.1, y3.2))))))
theorem s_HistOrder_c {t0_0 : Bool} {a0 : (List PanCall)} {r : (List Int) × Bool} (hF : s_HistOrder a0 = some r) : Con Tryd.prog 21 [.val false [.u (ul PanCall.c 12 t0_0 a0)]] [] (.tup [(false, [.u (ul cInt 1 false r.1)]), (false, [.u (.bool r.2)])]) [] := by
  refine Con.of_Dz tabOk Tryd.func21 rfl rfl rfl ?_
  delta s_HistOrder at hF
  refine Dz.seq ?_
  refine Dz.reg ?_
  refine Dz.seq ?_
  refine Dz.seq ?_
  refine Dz.reg ?_
  refine bdE hF (fun y1 hy1 hF => ?_)
  refine callG [] (s_l61CallsOk_c hy1) ⟨m_val rfl, m_val rfl, trivial⟩ trivial rfl ?_
  refine Dz.ite rfl hF (fun _ hF => ?_) (fun _ hF => ?_)
  · refine Dz.seq ?_
    refine Dz.reg ?_
    refine Dz.ret ?_
    cases hF
    exact finG [.frz 0] [] rfl rfl ⟨⟨rfl, ⟨LeU.cut (by simp <;> omega) EqG.nilr, trivial⟩⟩, ⟨rfl, mls_same rfl⟩, trivial⟩ trivial rfl
  · refine Dz.skip ?_
    refine Dz.seq ?_
    refine Dz.drw 0 [⟨[9,10,11,12,13], [], 0, 0⟩, ⟨[8,12,13], [], 0, 0⟩, ⟨[8,12,13], [], 0, 0⟩, ⟨[8,12,13], [], 0, 1⟩, ⟨[8,9,10,11,13], [], 1, 1⟩, ⟨[8,9,10,11,12], [], 1, 2⟩, ⟨[], [0,1], 2, 2⟩, ⟨[16], [], 2, 2⟩, ⟨[15], [], 2, 2⟩, ⟨[], [], 2, 2⟩, ⟨[], [], 2, 2⟩] ⟨by kernel_rfl, by kernel_rfl, rfl⟩ ?_
    refine vck hF (fun h => ⟨rfl, h⟩) (fun hk hF => ?_)
    refine bdE hF (fun y2 hy2 hF => ?_)
    refine callG [] (s_HistStart_c hy2) trivial trivial rfl ?_
    refine bdE hF (fun y3 hy3 hF => ?_)
    refine callLF [1] [] (s_l63Search_c hy3) ⟨m_val rfl, ⟨rfl, ⟨rfl, rfl, LeU.cut (by simp <;> omega) (EqG.rep' (c := cBool) (sz := 1) _ ⟨LeU.refl _, trivial⟩)⟩, trivial⟩, m_val rfl, ⟨rfl, LeU.cut (by simp <;> omega) EqG.nilr, trivial⟩, trivial⟩ trivial rfl ⟨⟨⟨ntm_ul, trivial⟩, ⟨trivial, trivial⟩, trivial⟩, trivial⟩ ?_
    refine Dz.ret ?_
    cases hF
    exact finG [] [] rfl rfl ⟨⟨rfl, mls_same rfl⟩, ⟨rfl, mls_same rfl⟩, trivial⟩ trivial rfl
end Go.Proofs.PanK

/-! Printed by wip/tools/walk.py. -/
namespace Go.Proofs.PanK
open Go.Vs
set_option maxRecDepth 8000
def s_HistOk (a0 : (List PanCall)) : Option (Bool) :=
  (s_HistOrder a0).bind (fun y1 => some y1.2)
theorem s_HistOk_c {t0_0 : Bool} {a0 : (List PanCall)} {r : Bool} (hF : s_HistOk a0 = some r) : Con Tryd.prog 17 [.val false [.u (ul PanCall.c 12 t0_0 a0)]] [] (vbool r) [] := by
  refine Con.of_Dz tabOk Tryd.func17 rfl rfl rfl ?_
  delta s_HistOk at hF
  refine Dz.seq ?_
  refine Dz.reg ?_
  refine Dz.seq ?_
  refine Dz.reg ?_
  refine bdE hF (fun y1 hy1 hF => ?_)
  refine callG [] (s_HistOrder_c hy1) ⟨m_val rfl, trivial⟩ trivial rfl ?_
  refine Dz.seq ?_
  refine Dz.reg ?_
  refine Dz.ret ?_
  cases hF
  exact finG [] [] rfl rfl (m_val rfl) trivial rfl
end Go.Proofs.PanK

/-! Printed by wip/tools/walk.py. -/
namespace Go.Proofs.PanK
open Go.Vs
set_option maxRecDepth 8000
def l_toPanCall (a0 : PanCall) : Option (PanCall) :=
  some a0
theorem l_toPanCall_c {a0 : PanCall} {r : PanCall} (hF : l_toPanCall a0 = some r) : Con Tryd.prog 43 [.val true (PanCall.L a0)] [] (.val true (PanCall.L r)) [] := by
  refine Con.of_Dz tabOk Tryd.func43 rfl rfl rfl ?_
  delta l_toPanCall at hF
  refine Dz.seq ?_
  refine Dz.reg ?_
  refine Dz.seq ?_
  refine Dz.reg ?_
  refine Dz.seq ?_
  refine Dz.reg ?_
  refine Dz.seq ?_
  refine Dz.reg ?_
  refine Dz.seq ?_
  refine Dz.reg ?_
  refine Dz.seq ?_
  refine Dz.reg ?_
  refine Dz.seq ?_
  refine Dz.reg ?_
  refine Dz.seq ?_
  refine Dz.reg ?_
  refine Dz.seq ?_
  refine Dz.ent (x := ([(1, .ptr 0 0), (2, .ptr 1 0), (3, .ptr 2 0)], [.box 80 (PanCall.L a0), .box 78 [.u (cI 0), .u (cI 0), .u (cI 0), .u (cI 0), .u (cI 0), .u (cI 0), .u (cI 0), .u (cI 0), .u (cI 0), .u (.bool false), .u (cI 0), .u (cI 0)], .box 78 [.u (cI a0.Client), .u (cI a0.Call), .u (cI a0.Op), .u (cI a0.Disk), .u (cI a0.Block), .u (cI a0.Epoch), .u (cI 0), .u (cI 0), .u (cI 0), .u (.bool false), .u (cI 0), .u (cI 0)]])) (entG [0, 1, 2] ⟨m_ptr rfl, m_ptr rfl, m_ptr rfl, trivial⟩ ⟨⟨rfl, o_box rfl⟩, ⟨rfl, o_box rfl⟩, ⟨rfl, o_box rfl⟩, trivial⟩ rfl) ?_
  refine Dz.reg ?_
  refine Dz.seq ?_
  refine Dz.reg ?_
  refine Dz.seq ?_
  refine Dz.reg ?_
  refine Dz.seq ?_
  refine Dz.reg ?_
  refine Dz.seq ?_
  refine Dz.reg ?_
  refine Dz.seq ?_
  refine Dz.reg ?_
  refine Dz.seq ?_
  refine Dz.reg ?_
  refine Dz.ret ?_
  cases hF
  exact finG [] [] rfl rfl (m_val rfl) trivial rfl
end Go.Proofs.PanK

/-! Printed by wip/tools/walk.py. -/
namespace Go.Proofs.PanK
open Go.Vs
set_option maxRecDepth 8000
def l_toPanCallS (a0 : (List PanCall)) : Option ((List PanCall)) :=
  ck (0 ≤ ((a0.length : Nat) : Int) ∧ ((a0.length : Nat) : Int) * 96 ≤ 140737488355328) (loopN (fun i2 (v13 : List PanCall) κ14 => lt (a0.getD i2 default) (fun x16 => (l_toPanCall x16).bind (fun y17 => ix v13 ((i2 : Nat) : Int) (fun _ => lt (v13.set i2 y17) (fun r18 => κ14 r18))))) (fun (v13 : List PanCall) => some v13) a0.length 0 (List.replicate a0.length (({ Client := 0, Call := 0, Op := 0, Disk := 0, Block := 0, Epoch := 0, Data := 0, Begin := 0, End := 0, Over := false, Code := 0, Value := 0 } : PanCall) : PanCall)))
theorem l_toPanCallS_c {t0_0 : Bool} {a0 : (List PanCall)} {r : (List PanCall)} (hF : l_toPanCallS a0 = some r) : Con Tryd.prog 18 [.val false [.u (ul PanCall.c 12 t0_0 a0)]] [] (.val false [.row 0]) [.row 78 r.length 12 (gl PanCall.c r)] := by
  refine Con.of_Dz tabOk Tryd.func18 rfl rfl rfl ?_
  delta l_toPanCallS at hF
  refine Dz.seq ?_
  refine Dz.reg ?_
  refine Dz.seq ?_
  refine Dz.reg ?_
  intro hb1; replace hb1 : a0.length ≤ 140737488355328 := hb1
  refine vck hF (fun h => ⟨rfl, h⟩) (fun hk hF => ?_)
  refine Dz.row 0 (List.replicate a0.length (({ Client := 0, Call := 0, Op := 0, Disk := 0, Block := 0, Epoch := 0, Data := 0, Begin := 0, End := 0, Over := false, Code := 0, Value := 0 } : PanCall) : PanCall)).length (gl PanCall.c (List.replicate a0.length (({ Client := 0, Call := 0, Op := 0, Disk := 0, Block := 0, Epoch := 0, Data := 0, Begin := 0, End := 0, Over := false, Code := 0, Value := 0 } : PanCall) : PanCall))) rfl (by simp <;> omega) (EqG.rep' (c := PanCall.c) (sz := 12) _ ⟨LeU.refl _, LeU.refl _, LeU.refl _, LeU.refl _, LeU.refl _, LeU.refl _, LeU.refl _, LeU.refl _, LeU.refl _, LeU.refl _, LeU.refl _, LeU.refl _, trivial⟩) ?_
  refine Dz.seq ?_
  refine Dz.seq ?_
  refine Dz.reg ?_
  refine Dz.blk ?_
  refine Dz.cnt hF (fun i2 v13 => ([(0, .val false [.u (ul PanCall.c 12 t0_0 a0)]), (3, .val false [.row 0]), (4, vint .i64 ((i2 : Nat) : Int))], [.row 78 v13.length 12 (gl PanCall.c v13)])) (entG [0] ⟨m_val rfl, ⟨rfl, rfl, trivial⟩, m_val rfl, trivial⟩ ⟨⟨rfl, o_row⟩, trivial⟩ rfl) (fun v13 hF => ?_) (fun i2 v13 κ14 hi0i2 hi1i2 hF => ?_)
  · refine Dz.seq ?_
    refine Dz.seq ?_
    refine Dz.reg ?_
    intro hb19; replace hb19 : a0.length ≤ 140737488355328 := hb19
    refine Dz.ff (b := decide (((0 + a0.length : Nat) : Int) < ((a0.length : Nat) : Int))) rfl (decide_eq_false (by omega)) ?_
    refine Dz.exit ?_
    refine Dz.seq ?_
    refine Dz.reg ?_
    refine Dz.ret ?_
    cases hF
    exact finG [] [0] rfl rfl (⟨rfl, rfl, trivial⟩) ⟨⟨rfl, o_row⟩, trivial⟩ rfl
  · refine Dz.seq ?_
    refine Dz.seq ?_
    refine Dz.reg ?_
    intro hb15; replace hb15 : a0.length ≤ 140737488355328 := hb15
    refine Dz.tt (b := decide (((i2 : Nat) : Int) < ((a0.length : Nat) : Int))) rfl (decide_eq_true (by omega)) ?_
    refine Dz.skip ?_
    refine Dz.seq ?_
    refine Dz.blk ?_
    refine Dz.reg ?_
    refine vge (n := ((i2 : Nat) : Int)) (hi := (a0.length : Int)) (by omega) (by omega) ?_
    have hF := ltE hF
    refine bdE hF (fun y17 hy17 hF => ?_)
    refine callG [] (l_toPanCall_c hy17) ⟨m_val rfl, trivial⟩ trivial rfl ?_
    refine vix hF (fun _ _ hF => ?_)
    refine ltX hF (fun r18 hr18 hF => ?_)
    have hlr18 : r18.length = v13.length := by rw [hr18]; simp <;> omega
    refine Dz.row 0 r18.length (gl PanCall.c r18) rfl (by rw [hr18]; simp <;> omega) (by rw [hr18]; exact (EqG.set' rfl (EqG.refl _ _ _) ⟨LeU.refl _, LeU.refl _, LeU.refl _, LeU.refl _, LeU.refl _, LeU.refl _, LeU.refl _, LeU.refl _, LeU.refl _, LeU.refl _, LeU.refl _, LeU.refl _, trivial⟩)) ?_
    refine Dz.reg ?_
    refine vsucc (by omega) ?_
    exact ⟨r18, entG [0] ⟨m_val rfl, ⟨rfl, rfl, trivial⟩, m_val rfl, trivial⟩ ⟨⟨rfl, o_row⟩, trivial⟩ rfl, hF⟩
end Go.Proofs.PanK

/-! Printed by wip/tools/walk.py. -/
namespace Go.Proofs.PanK
open Go.Vs
set_option maxRecDepth 8000
def i_in (a0 : Int) (a1 : Int) (a2 : Int) : Option (Bool) :=
  cond (decide (a1 ≤ a0)) (some (decide (a0 ≤ a2))) (some false)
theorem i_in_c {a0 : Int} {a1 : Int} {a2 : Int} {r : Bool} (hF : i_in a0 a1 a2 = some r) : Con Tryd.prog 55 [vint .i64 a0, vint .i64 a1, vint .i64 a2] [] (vbool r) [] := by
  refine Con.of_Dz tabOk Tryd.func55 rfl rfl rfl ?_
  delta i_in at hF
  refine Dz.seq ?_
  refine Dz.reg ?_
  refine Dz.seq ?_
  refine Dz.reg ?_
  refine vif hF (fun _ hF => ?_) (fun _ hF => ?_)
  · refine Dz.ret ?_
    cases hF
    exact finG [] [] rfl rfl (m_val rfl) trivial rfl
  · refine Dz.ret ?_
    cases hF
    exact finG [] [] rfl rfl (m_val rfl) trivial rfl
end Go.Proofs.PanK

/-! Printed by wip/tools/walk.py. -/
namespace Go.Proofs.PanK
open Go.Vs
set_option maxRecDepth 8000
def i_isClient (a0 : Int) : Option (Bool) :=
  (i_in a0 0 3).bind (fun y1 => some y1)
theorem i_isClient_c {a0 : Int} {r : Bool} (hF : i_isClient a0 = some r) : Con Tryd.prog 64 [vint .i64 a0] [] (vbool r) [] := by
  refine Con.of_Dz tabOk Tryd.func64 rfl rfl rfl ?_
  delta i_isClient at hF
  refine Dz.seq ?_
  refine Dz.reg ?_
  refine Dz.seq ?_
  refine Dz.reg ?_
  refine bdE hF (fun y1 hy1 hF => ?_)
  refine callG [] (i_in_c hy1) ⟨m_val rfl, m_val rfl, m_val rfl, trivial⟩ trivial rfl ?_
  refine Dz.ret ?_
  cases hF
  exact finG [] [] rfl rfl (m_val rfl) trivial rfl
end Go.Proofs.PanK

/-! Printed by wip/tools/walk.py. -/
namespace Go.Proofs.PanK
open Go.Vs
set_option maxRecDepth 8000
def i_callsOk (a0 : (List PanCall)) (a1 : Int) : Option (Bool) :=
  cond (decide ((10 : Int) < ((a0.length : Nat) : Int))) (some false) (loopN (fun i3 (v32 : Unit) κ33 => lt (a0.getD i3 default) (fun x34 => jn (fun (v36 : Bool) => cond v36 (some false) (jn (fun (v37 : Unit) => jn (fun (v38 : Unit) => ck (0 ≤ ((i3 : Nat) : Int) ∧ ((i3 : Nat) : Int) ≤ (a0.length : Int)) (loopN (fun i40 (v45 : Int) κ46 => ix (a0.take i3) ((i40 : Nat) : Int) (fun x47 => cond (!decide (x47.Client = x34.Client)) (κ46 v45) (cond (!x47.Over) (cond (decide (x47.End = 0)) (some false) (cond (decide (x34.Begin ≤ x47.End)) (some false) (κ46 (w64 (v45 + 1))))) (κ46 (w64 (v45 + 1)))))) (fun (v45 : Int) => cond (!decide (x34.Call = (w64 (v45 + 1)))) (some false) (κ33 ())) (((i3 : Nat) : Int).toNat) 0 0)) (fun j48 => cond (!decide (x34.End = 0)) ((i_in x34.End (w64 (x34.Begin + 1)) a1).bind (fun y49 => cond (!y49) (some false) (cond x34.Over (some false) ((i_in x34.Code 0 5).bind (fun y50 => cond (!y50) (some false) ((i_in x34.Value 0 99999).bind (fun y51 => cond (!y51) (some false) (j48 ())))))))) (j48 ()))) (fun j52 => cond (decide (x34.End = 0)) (cond (!decide (x34.Code = 0)) (some false) (cond (!decide (x34.Value = 0)) (some false) (j52 ()))) (j52 ())))) (fun j53 => (i_in x34.Begin 1 a1).bind (fun y54 => cond (!y54) (j53 true) (cond (decide ((0 : Int) < ((i3 : Nat) : Int))) (ix a0 (((i3 : Nat) : Int) - 1) (fun x55 => cond (decide (x34.Begin ≤ x55.Begin)) (j53 true) ((i_isClient x34.Client).bind (fun y56 => cond (!y56) (j53 true) ((i_in x34.Op 1 6).bind (fun y57 => cond (!y57) (j53 true) ((i_in x34.Disk 0 99999).bind (fun y58 => cond (!y58) (j53 true) ((i_in x34.Block 0 99999).bind (fun y59 => cond (!y59) (j53 true) ((i_in x34.Epoch 0 99999).bind (fun y60 => cond (!y60) (j53 true) ((i_in x34.Data 0 99999).bind (fun y61 => j53 (!y61))))))))))))))) ((i_isClient x34.Client).bind (fun y62 => cond (!y62) (j53 true) ((i_in x34.Op 1 6).bind (fun y63 => cond (!y63) (j53 true) ((i_in x34.Disk 0 99999).bind (fun y64 => cond (!y64) (j53 true) ((i_in x34.Block 0 99999).bind (fun y65 => cond (!y65) (j53 true) ((i_in x34.Epoch 0 99999).bind (fun y66 => cond (!y66) (j53 true) ((i_in x34.Data 0 99999).bind (fun y67 => j53 (!y67)))))))))))))))))) (fun (v32 : Unit) => some true) a0.length 0 ())
theorem i_callsOk_c {t0_0 : Bool} {a0 : (List PanCall)} {a1 : Int} {r : Bool} (hF : i_callsOk a0 a1 = some r) : Con Tryd.prog 48 [.val false [.u (ul PanCall.c 12 t0_0 a0)], vint .i64 a1] [] (vbool r) [] := by
  refine Con.of_Dz tabOk Tryd.func48 rfl rfl rfl ?_
  delta i_callsOk at hF
  refine Dz.seq ?_
  refine Dz.reg ?_
  refine Dz.seq ?_
  refine Dz.seq ?_
  refine Dz.reg ?_
  intro hb1; replace hb1 : a0.length ≤ 140737488355328 := hb1
  refine Dz.ite rfl hF (fun _ hF => ?_) (fun _ hF => ?_)
  · refine Dz.seq ?_
    refine Dz.reg ?_
    refine Dz.ret ?_
    cases hF
    exact finG [] [] rfl rfl (m_val rfl) trivial rfl
  · refine Dz.skip ?_
    refine Dz.seq ?_
    refine Dz.seq ?_
    refine Dz.reg ?_
    intro hb2; replace hb2 : a0.length ≤ 140737488355328 := hb2
    refine Dz.blk ?_
    refine Dz.cnt hF (fun i3 v32 => ([(0, .val false [.u (ul PanCall.c 12 t0_0 a0)]), (1, vint .i64 a1), (13, .val false [.u (ul PanCall.c 12 t0_0 a0)]), (14, vint .i64 ((a0.length : Nat) : Int)), (15, vint .i64 ((i3 : Nat) : Int))], [])) (entG [] ⟨m_val rfl, m_val rfl, m_val rfl, m_val rfl, m_val rfl, trivial⟩ trivial rfl) (fun v32 hF => ?_) (fun i3 v32 κ33 hi0i3 hi1i3 hF => ?_)
    · refine Dz.seq ?_
      refine Dz.reg ?_
      refine Dz.seq ?_
      refine Dz.ff (b := decide (((0 + a0.length : Nat) : Int) < ((a0.length : Nat) : Int))) rfl (decide_eq_false (by omega)) ?_
      refine Dz.exit ?_
      refine Dz.seq ?_
      refine Dz.reg ?_
      refine Dz.ret ?_
      cases hF
      exact finG [] [] rfl rfl (m_val rfl) trivial rfl
    · refine Dz.seq ?_
      refine Dz.reg ?_
      refine Dz.seq ?_
      refine Dz.tt (b := decide (((i3 : Nat) : Int) < ((a0.length : Nat) : Int))) rfl (decide_eq_true (by omega)) ?_
      refine Dz.skip ?_
      refine Dz.seq ?_
      refine Dz.blk ?_
      refine Dz.seq ?_
      refine Dz.reg ?_
      refine vge (n := ((i3 : Nat) : Int)) (hi := (a0.length : Int)) (by omega) (by omega) ?_
      have hF := ltE hF
      refine Dz.seq ?_
      refine Dz.jn hF (fun v36 => ([(0, .val false [.u (ul PanCall.c 12 t0_0 a0)]), (1, vint .i64 a1), (5, vint .i64 ((i3 : Nat) : Int)), (6, .ptr 0 0), (13, .val false [.u (ul PanCall.c 12 t0_0 a0)]), (14, vint .i64 ((a0.length : Nat) : Int)), (15, vint .i64 ((i3 : Nat) : Int)), (75, vbool v36)], [.box 78 (PanCall.L (a0.getD i3 default))])) (fun v36 hF => ?_) (fun hF => ?_)
      · refine Dz.ite rfl hF (fun _ hF => ?_) (fun _ hF => ?_)
        · refine Dz.seq ?_
          refine Dz.reg ?_
          refine Dz.ret ?_
          cases hF
          exact finG [] [] rfl rfl (m_val rfl) trivial rfl
        · refine Dz.skip ?_
          refine Dz.jn hF (fun v37 => ([(0, .val false [.u (ul PanCall.c 12 t0_0 a0)]), (1, vint .i64 a1), (5, vint .i64 ((i3 : Nat) : Int)), (6, .ptr 0 0), (13, .val false [.u (ul PanCall.c 12 t0_0 a0)]), (14, vint .i64 ((a0.length : Nat) : Int)), (15, vint .i64 ((i3 : Nat) : Int))], [.box 78 (PanCall.L (a0.getD i3 default))])) (fun v37 hF => ?_) (fun hF => ?_)
          · refine Dz.jn hF (fun v38 => ([(0, .val false [.u (ul PanCall.c 12 t0_0 a0)]), (1, vint .i64 a1), (5, vint .i64 ((i3 : Nat) : Int)), (6, .ptr 0 0), (13, .val false [.u (ul PanCall.c 12 t0_0 a0)]), (14, vint .i64 ((a0.length : Nat) : Int)), (15, vint .i64 ((i3 : Nat) : Int))], [.box 78 (PanCall.L (a0.getD i3 default))])) (fun v38 hF => ?_) (fun hF => ?_)
            · refine Dz.seq ?_
              refine Dz.reg ?_
              refine Dz.seq ?_
              refine Dz.seq ?_
              refine Dz.reg ?_
              refine vck hF id (fun _ hF => ?_)
              intro hb39; replace hb39 : ((i3 : Nat) : Int).toNat ≤ 140737488355328 := hb39
              refine Dz.slotLe 120 (ul PanCall.c 12 t0_0 (a0.take i3)) rfl (LeU.cut (by simp <;> omega) (EqG.take _)) ?_
              refine Dz.blk ?_
              refine Dz.cnt hF (fun i40 v45 => ([(0, .val false [.u (ul PanCall.c 12 t0_0 a0)]), (1, vint .i64 a1), (6, .ptr 0 0), (7, vint .i64 v45), (13, .val false [.u (ul PanCall.c 12 t0_0 a0)]), (14, vint .i64 ((a0.length : Nat) : Int)), (15, vint .i64 ((i3 : Nat) : Int)), (120, .val false [.u (ul PanCall.c 12 t0_0 (a0.take i3))]), (121, vint .i64 ((((i3 : Nat) : Int).toNat : Nat) : Int)), (122, vint .i64 ((i40 : Nat) : Int))], [.box 78 (PanCall.L (a0.getD i3 default))])) (entG [0] ⟨m_val rfl, m_val rfl, m_ptr rfl, m_val rfl, m_val rfl, m_val rfl, m_val rfl, m_val rfl, m_val rfl, m_val rfl, trivial⟩ ⟨⟨rfl, o_box rfl⟩, trivial⟩ rfl) (fun v45 hF => ?_) (fun i40 v45 κ46 hi0i40 hi1i40 hF => ?_)
              · refine Dz.seq ?_
                refine Dz.reg ?_
                refine Dz.seq ?_
                refine Dz.ff (b := decide (((0 + ((i3 : Nat) : Int).toNat : Nat) : Int) < ((((i3 : Nat) : Int).toNat : Nat) : Int))) rfl (decide_eq_false (by omega)) ?_
                refine Dz.exit ?_
                refine Dz.seq ?_
                refine Dz.reg ?_
                refine vw64 ?_
                refine Dz.ite rfl hF (fun _ hF => ?_) (fun _ hF => ?_)
                · refine Dz.seq ?_
                  refine Dz.reg ?_
                  refine Dz.ret ?_
                  cases hF
                  exact finG [] [] rfl rfl (m_val rfl) trivial rfl
                · refine Dz.skip ?_
                  refine Dz.reg ?_
                  refine vsucc (by omega) ?_
                  exact ⟨(), entG [] ⟨m_val rfl, m_val rfl, m_val rfl, m_val rfl, m_val rfl, trivial⟩ trivial rfl, hF⟩
              · refine Dz.seq ?_
                refine Dz.reg ?_
                refine Dz.seq ?_
                refine Dz.tt (b := decide (((i40 : Nat) : Int) < ((((i3 : Nat) : Int).toNat : Nat) : Int))) rfl (decide_eq_true (by omega)) ?_
                refine Dz.skip ?_
                refine Dz.seq ?_
                refine Dz.blk ?_
                refine Dz.seq ?_
                refine Dz.reg ?_
                refine vix hF (fun _ _ hF => ?_)
                refine Dz.seq ?_
                refine Dz.seq ?_
                refine Dz.reg ?_
                refine Dz.ite rfl hF (fun _ hF => ?_) (fun _ hF => ?_)
                · refine Dz.exit ?_
                  refine Dz.reg ?_
                  refine vsucc (by omega) ?_
                  exact ⟨v45, entG [0] ⟨m_val rfl, m_val rfl, m_ptr rfl, m_val rfl, m_val rfl, m_val rfl, m_val rfl, m_val rfl, m_val rfl, m_val rfl, trivial⟩ ⟨⟨rfl, o_box rfl⟩, trivial⟩ rfl, hF⟩
                · refine Dz.skip ?_
                  refine Dz.seq ?_
                  refine Dz.reg ?_
                  refine vw64 ?_
                  refine Dz.seq ?_
                  refine Dz.reg ?_
                  refine vif hF (fun _ hF => ?_) (fun _ hF => ?_)
                  · refine vif hF (fun _ hF => ?_) (fun _ hF => ?_)
                    · refine Dz.tt (b := true) rfl rfl ?_
                      refine Dz.seq ?_
                      refine Dz.reg ?_
                      refine Dz.ret ?_
                      cases hF
                      exact finG [] [] rfl rfl (m_val rfl) trivial rfl
                    · refine Dz.ite rfl hF (fun _ hF => ?_) (fun _ hF => ?_)
                      · refine Dz.seq ?_
                        refine Dz.reg ?_
                        refine Dz.ret ?_
                        cases hF
                        exact finG [] [] rfl rfl (m_val rfl) trivial rfl
                      · refine Dz.skip ?_
                        refine Dz.reg ?_
                        refine vsucc (by omega) ?_
                        exact ⟨(w64 (v45 + 1)), entG [0] ⟨m_val rfl, m_val rfl, m_ptr rfl, m_val rfl, m_val rfl, m_val rfl, m_val rfl, m_val rfl, m_val rfl, m_val rfl, trivial⟩ ⟨⟨rfl, o_box rfl⟩, trivial⟩ rfl, hF⟩
                  · refine Dz.ff (b := false) rfl rfl ?_
                    refine Dz.skip ?_
                    refine Dz.reg ?_
                    refine vsucc (by omega) ?_
                    exact ⟨(w64 (v45 + 1)), entG [0] ⟨m_val rfl, m_val rfl, m_ptr rfl, m_val rfl, m_val rfl, m_val rfl, m_val rfl, m_val rfl, m_val rfl, m_val rfl, trivial⟩ ⟨⟨rfl, o_box rfl⟩, trivial⟩ rfl, hF⟩
            · refine Dz.seq ?_
              refine Dz.reg ?_
              refine vif hF (fun _ hF => ?_) (fun _ hF => ?_)
              · refine vw64 ?_
                refine bdE hF (fun y49 hy49 hF => ?_)
                refine callG [] (i_in_c hy49) ⟨m_val rfl, m_val rfl, m_val rfl, trivial⟩ trivial rfl ?_
                refine vif hF (fun _ hF => ?_) (fun _ hF => ?_)
                · refine Dz.tt (b := true) rfl rfl ?_
                  refine Dz.seq ?_
                  refine Dz.reg ?_
                  refine Dz.ret ?_
                  cases hF
                  exact finG [] [] rfl rfl (m_val rfl) trivial rfl
                · refine vif hF (fun _ hF => ?_) (fun _ hF => ?_)
                  · refine Dz.tt (b := true) rfl rfl ?_
                    refine Dz.seq ?_
                    refine Dz.reg ?_
                    refine Dz.ret ?_
                    cases hF
                    exact finG [] [] rfl rfl (m_val rfl) trivial rfl
                  · refine bdE hF (fun y50 hy50 hF => ?_)
                    refine callG [] (i_in_c hy50) ⟨m_val rfl, m_val rfl, m_val rfl, trivial⟩ trivial rfl ?_
                    refine vif hF (fun _ hF => ?_) (fun _ hF => ?_)
                    · refine Dz.tt (b := true) rfl rfl ?_
                      refine Dz.seq ?_
                      refine Dz.reg ?_
                      refine Dz.ret ?_
                      cases hF
                      exact finG [] [] rfl rfl (m_val rfl) trivial rfl
                    · refine bdE hF (fun y51 hy51 hF => ?_)
                      refine callG [] (i_in_c hy51) ⟨m_val rfl, m_val rfl, m_val rfl, trivial⟩ trivial rfl ?_
                      refine Dz.ite rfl hF (fun _ hF => ?_) (fun _ hF => ?_)
                      · refine Dz.seq ?_
                        refine Dz.reg ?_
                        refine Dz.ret ?_
                        cases hF
                        exact finG [] [] rfl rfl (m_val rfl) trivial rfl
                      · refine Dz.skip ?_
                        exact ⟨(), entG [0] ⟨m_val rfl, m_val rfl, m_val rfl, m_ptr rfl, m_val rfl, m_val rfl, m_val rfl, trivial⟩ ⟨⟨rfl, o_box rfl⟩, trivial⟩ rfl, hF⟩
              · refine Dz.ff (b := false) rfl rfl ?_
                refine Dz.skip ?_
                exact ⟨(), entG [0] ⟨m_val rfl, m_val rfl, m_val rfl, m_ptr rfl, m_val rfl, m_val rfl, m_val rfl, trivial⟩ ⟨⟨rfl, o_box rfl⟩, trivial⟩ rfl, hF⟩
          · refine Dz.seq ?_
            refine Dz.reg ?_
            refine vif hF (fun _ hF => ?_) (fun _ hF => ?_)
            · refine vif hF (fun _ hF => ?_) (fun _ hF => ?_)
              · refine Dz.tt (b := true) rfl rfl ?_
                refine Dz.seq ?_
                refine Dz.reg ?_
                refine Dz.ret ?_
                cases hF
                exact finG [] [] rfl rfl (m_val rfl) trivial rfl
              · refine Dz.ite rfl hF (fun _ hF => ?_) (fun _ hF => ?_)
                · refine Dz.seq ?_
                  refine Dz.reg ?_
                  refine Dz.ret ?_
                  cases hF
                  exact finG [] [] rfl rfl (m_val rfl) trivial rfl
                · refine Dz.skip ?_
                  exact ⟨(), entG [0] ⟨m_val rfl, m_val rfl, m_val rfl, m_ptr rfl, m_val rfl, m_val rfl, m_val rfl, trivial⟩ ⟨⟨rfl, o_box rfl⟩, trivial⟩ rfl, hF⟩
            · refine Dz.ff (b := false) rfl rfl ?_
              refine Dz.skip ?_
              exact ⟨(), entG [0] ⟨m_val rfl, m_val rfl, m_val rfl, m_ptr rfl, m_val rfl, m_val rfl, m_val rfl, trivial⟩ ⟨⟨rfl, o_box rfl⟩, trivial⟩ rfl, hF⟩
      · refine Dz.ent (x := ([(0, .val false [.u (ul PanCall.c 12 t0_0 a0)]), (1, vint .i64 a1), (5, vint .i64 ((i3 : Nat) : Int)), (6, .ptr 0 0), (13, .val false [.u (ul PanCall.c 12 t0_0 a0)]), (14, vint .i64 ((a0.length : Nat) : Int)), (15, vint .i64 ((i3 : Nat) : Int))], [.box 78 (PanCall.L (a0.getD i3 default))])) (entG [0] ⟨m_val rfl, m_val rfl, m_val rfl, m_ptr rfl, m_val rfl, m_val rfl, m_val rfl, trivial⟩ ⟨⟨rfl, o_box rfl⟩, trivial⟩ rfl) ?_
        refine Dz.drw 1 [⟨[22], [], 1, 1⟩, ⟨[22], [0], 1, 1⟩, ⟨[20,21], [], 1, 1⟩, ⟨[], [], 1, 1⟩, ⟨[], [], 1, 1⟩, ⟨[], [], 1, 1⟩, ⟨[], [], 1, 1⟩, ⟨[], [], 1, 1⟩, ⟨[], [], 1, 1⟩, ⟨[30,31,35,36], [], 1, 1⟩, ⟨[29,35,36], [], 1, 1⟩, ⟨[29,35,36], [], 1, 1⟩, ⟨[35,36], [], 1, 1⟩, ⟨[35,36], [], 1, 1⟩, ⟨[35,36], [], 1, 1⟩, ⟨[29,30,31,32,33,34], [], 1, 1⟩, ⟨[29,30,31,32,33,34], [0], 1, 1⟩, ⟨[], [], 1, 1⟩, ⟨[], [], 1, 1⟩, ⟨[], [], 1, 1⟩, ⟨[], [], 1, 1⟩, ⟨[], [], 1, 1⟩, ⟨[], [0], 1, 1⟩, ⟨[], [], 1, 1⟩, ⟨[], [], 1, 1⟩, ⟨[], [], 1, 1⟩, ⟨[], [], 1, 1⟩, ⟨[], [], 1, 1⟩, ⟨[], [0], 1, 1⟩, ⟨[], [], 1, 1⟩, ⟨[], [], 1, 1⟩, ⟨[], [], 1, 1⟩, ⟨[], [], 1, 1⟩, ⟨[], [], 1, 1⟩, ⟨[], [0], 1, 1⟩, ⟨[], [], 1, 1⟩, ⟨[], [], 1, 1⟩, ⟨[], [], 1, 1⟩, ⟨[], [], 1, 1⟩, ⟨[], [], 1, 1⟩, ⟨[], [0], 1, 1⟩, ⟨[], [], 1, 1⟩, ⟨[], [], 1, 1⟩, ⟨[], [], 1, 1⟩, ⟨[], [], 1, 1⟩, ⟨[], [], 1, 1⟩, ⟨[], [0], 1, 1⟩, ⟨[], [], 1, 1⟩, ⟨[], [], 1, 1⟩, ⟨[], [], 1, 1⟩, ⟨[], [], 1, 1⟩, ⟨[], [], 1, 1⟩, ⟨[], [0], 1, 1⟩, ⟨[], [], 1, 1⟩, ⟨[], [], 1, 1⟩, ⟨[], [], 1, 1⟩] ⟨by kernel_rfl, by kernel_rfl, rfl⟩ ?_
        refine bdE hF (fun y54 hy54 hF => ?_)
        refine callG [] (i_in_c hy54) ⟨m_val rfl, m_val rfl, m_val rfl, trivial⟩ trivial rfl ?_
        refine vif hF (fun _ hF => ?_) (fun _ hF => ?_)
        · exact ⟨true, entG [0] ⟨m_val rfl, m_val rfl, m_val rfl, m_ptr rfl, m_val rfl, m_val rfl, m_val rfl, m_val rfl, trivial⟩ ⟨⟨rfl, o_box rfl⟩, trivial⟩ rfl, hF⟩
        · refine vif hF (fun _ hF => ?_) (fun _ hF => ?_)
          · refine ⟨(((i3 : Nat) : Int) - 1), wrap64 (by omega) (by omega), ?_⟩
            refine vix hF (fun _ _ hF => ?_)
            refine vif hF (fun _ hF => ?_) (fun _ hF => ?_)
            · exact ⟨true, entG [0] ⟨m_val rfl, m_val rfl, m_val rfl, m_ptr rfl, m_val rfl, m_val rfl, m_val rfl, m_val rfl, trivial⟩ ⟨⟨rfl, o_box rfl⟩, trivial⟩ rfl, hF⟩
            · refine bdE hF (fun y56 hy56 hF => ?_)
              refine callG [] (i_isClient_c hy56) ⟨m_val rfl, trivial⟩ trivial rfl ?_
              refine vif hF (fun _ hF => ?_) (fun _ hF => ?_)
              · exact ⟨true, entG [0] ⟨m_val rfl, m_val rfl, m_val rfl, m_ptr rfl, m_val rfl, m_val rfl, m_val rfl, m_val rfl, trivial⟩ ⟨⟨rfl, o_box rfl⟩, trivial⟩ rfl, hF⟩
              · refine bdE hF (fun y57 hy57 hF => ?_)
                refine callG [] (i_in_c hy57) ⟨m_val rfl, m_val rfl, m_val rfl, trivial⟩ trivial rfl ?_
                refine vif hF (fun _ hF => ?_) (fun _ hF => ?_)
                · exact ⟨true, entG [0] ⟨m_val rfl, m_val rfl, m_val rfl, m_ptr rfl, m_val rfl, m_val rfl, m_val rfl, m_val rfl, trivial⟩ ⟨⟨rfl, o_box rfl⟩, trivial⟩ rfl, hF⟩
                · refine bdE hF (fun y58 hy58 hF => ?_)
                  refine callG [] (i_in_c hy58) ⟨m_val rfl, m_val rfl, m_val rfl, trivial⟩ trivial rfl ?_
                  refine vif hF (fun _ hF => ?_) (fun _ hF => ?_)
                  · exact ⟨true, entG [0] ⟨m_val rfl, m_val rfl, m_val rfl, m_ptr rfl, m_val rfl, m_val rfl, m_val rfl, m_val rfl, trivial⟩ ⟨⟨rfl, o_box rfl⟩, trivial⟩ rfl, hF⟩
                  · refine bdE hF (fun y59 hy59 hF => ?_)
                    refine callG [] (i_in_c hy59) ⟨m_val rfl, m_val rfl, m_val rfl, trivial⟩ trivial rfl ?_
                    refine vif hF (fun _ hF => ?_) (fun _ hF => ?_)
                    · exact ⟨true, entG [0] ⟨m_val rfl, m_val rfl, m_val rfl, m_ptr rfl, m_val rfl, m_val rfl, m_val rfl, m_val rfl, trivial⟩ ⟨⟨rfl, o_box rfl⟩, trivial⟩ rfl, hF⟩
                    · refine bdE hF (fun y60 hy60 hF => ?_)
                      refine callG [] (i_in_c hy60) ⟨m_val rfl, m_val rfl, m_val rfl, trivial⟩ trivial rfl ?_
                      refine vif hF (fun _ hF => ?_) (fun _ hF => ?_)
                      · exact ⟨true, entG [0] ⟨m_val rfl, m_val rfl, m_val rfl, m_ptr rfl, m_val rfl, m_val rfl, m_val rfl, m_val rfl, trivial⟩ ⟨⟨rfl, o_box rfl⟩, trivial⟩ rfl, hF⟩
                      · refine bdE hF (fun y61 hy61 hF => ?_)
                        refine callG [] (i_in_c hy61) ⟨m_val rfl, m_val rfl, m_val rfl, trivial⟩ trivial rfl ?_
                        exact ⟨(!y61), entG [0] ⟨m_val rfl, m_val rfl, m_val rfl, m_ptr rfl, m_val rfl, m_val rfl, m_val rfl, m_val rfl, trivial⟩ ⟨⟨rfl, o_box rfl⟩, trivial⟩ rfl, hF⟩
          · refine bdE hF (fun y62 hy62 hF => ?_)
            refine callG [] (i_isClient_c hy62) ⟨m_val rfl, trivial⟩ trivial rfl ?_
            refine vif hF (fun _ hF => ?_) (fun _ hF => ?_)
            · exact ⟨true, entG [0] ⟨m_val rfl, m_val rfl, m_val rfl, m_ptr rfl, m_val rfl, m_val rfl, m_val rfl, m_val rfl, trivial⟩ ⟨⟨rfl, o_box rfl⟩, trivial⟩ rfl, hF⟩
            · refine bdE hF (fun y63 hy63 hF => ?_)
              refine callG [] (i_in_c hy63) ⟨m_val rfl, m_val rfl, m_val rfl, trivial⟩ trivial rfl ?_
              refine vif hF (fun _ hF => ?_) (fun _ hF => ?_)
              · exact ⟨true, entG [0] ⟨m_val rfl, m_val rfl, m_val rfl, m_ptr rfl, m_val rfl, m_val rfl, m_val rfl, m_val rfl, trivial⟩ ⟨⟨rfl, o_box rfl⟩, trivial⟩ rfl, hF⟩
              · refine bdE hF (fun y64 hy64 hF => ?_)
                refine callG [] (i_in_c hy64) ⟨m_val rfl, m_val rfl, m_val rfl, trivial⟩ trivial rfl ?_
                refine vif hF (fun _ hF => ?_) (fun _ hF => ?_)
                · exact ⟨true, entG [0] ⟨m_val rfl, m_val rfl, m_val rfl, m_ptr rfl, m_val rfl, m_val rfl, m_val rfl, m_val rfl, trivial⟩ ⟨⟨rfl, o_box rfl⟩, trivial⟩ rfl, hF⟩
                · refine bdE hF (fun y65 hy65 hF => ?_)
                  refine callG [] (i_in_c hy65) ⟨m_val rfl, m_val rfl, m_val rfl, trivial⟩ trivial rfl ?_
                  refine vif hF (fun _ hF => ?_) (fun _ hF => ?_)
                  · exact ⟨true, entG [0] ⟨m_val rfl, m_val rfl, m_val rfl, m_ptr rfl, m_val rfl, m_val rfl, m_val rfl, m_val rfl, trivial⟩ ⟨⟨rfl, o_box rfl⟩, trivial⟩ rfl, hF⟩
                  · refine bdE hF (fun y66 hy66 hF => ?_)
                    refine callG [] (i_in_c hy66) ⟨m_val rfl, m_val rfl, m_val rfl, trivial⟩ trivial rfl ?_
                    refine vif hF (fun _ hF => ?_) (fun _ hF => ?_)
                    · exact ⟨true, entG [0] ⟨m_val rfl, m_val rfl, m_val rfl, m_ptr rfl, m_val rfl, m_val rfl, m_val rfl, m_val rfl, trivial⟩ ⟨⟨rfl, o_box rfl⟩, trivial⟩ rfl, hF⟩
                    · refine bdE hF (fun y67 hy67 hF => ?_)
                      refine callG [] (i_in_c hy67) ⟨m_val rfl, m_val rfl, m_val rfl, trivial⟩ trivial rfl ?_
                      exact ⟨(!y67), entG [0] ⟨m_val rfl, m_val rfl, m_val rfl, m_ptr rfl, m_val rfl, m_val rfl, m_val rfl, m_val rfl, trivial⟩ ⟨⟨rfl, o_box rfl⟩, trivial⟩ rfl, hF⟩
end Go.Proofs.PanK

/-! Printed by wip/tools/walk.py. -/
namespace Go.Proofs.PanK
open Go.Vs
set_option maxRecDepth 8000
def i_copied_int (a0 : (List Int)) : Option ((List Int)) :=
  cond (decide (((a0.length : Nat) : Int) = 0)) (some ([] : List Int)) (ck (0 ≤ ((a0.length : Nat) : Int) ∧ ((a0.length : Nat) : Int) * 8 ≤ 140737488355328) (some (cpy (List.replicate a0.length (0 : Int)) a0)))
theorem i_copied_int_c {t0_0 : Bool} {a0 : (List Int)} {r : (List Int)} (hF : i_copied_int a0 = some r) : Con Tryd.prog 51 [.val false [.u (ul cInt 1 t0_0 a0)]] [] (.val false [.row 0]) [.row 3 r.length 1 (gl cInt r)] := by
  refine Con.of_Dz tabOk Tryd.func51 rfl rfl rfl ?_
  delta i_copied_int at hF
  refine Dz.seq ?_
  refine Dz.reg ?_
  refine Dz.seq ?_
  refine Dz.seq ?_
  refine Dz.reg ?_
  intro hb1; replace hb1 : a0.length ≤ 140737488355328 := hb1
  refine Dz.ite rfl hF (fun _ hF => ?_) (fun _ hF => ?_)
  · refine Dz.seq ?_
    refine Dz.reg ?_
    refine Dz.ret ?_
    cases hF
    exact finG [.slot 2 3 1] [0] rfl rfl (⟨rfl, rfl, trivial⟩) ⟨⟨rfl, o_rowE (by simp <;> omega) EqG.nilr⟩, trivial⟩ rfl
  · refine Dz.skip ?_
    refine Dz.seq ?_
    refine Dz.reg ?_
    intro hb2; replace hb2 : a0.length ≤ 140737488355328 := hb2
    refine vck hF (fun h => ⟨rfl, h⟩) (fun hk hF => ?_)
    refine Dz.row 0 (List.replicate a0.length (0 : Int)).length (gl cInt (List.replicate a0.length (0 : Int))) rfl (by simp <;> omega) (EqG.rep' (c := cInt) (sz := 1) _ ⟨LeU.refl _, trivial⟩) ?_
    refine Dz.seq ?_
    refine Dz.reg ?_
    refine Dz.row 0 (cpy (List.replicate a0.length (0 : Int)) a0).length (gl cInt (cpy (List.replicate a0.length (0 : Int)) a0)) rfl (by simp <;> omega) (EqG.cpy rfl rfl (EqG.refl _ _ _) (EqG.refl _ _ _)) ?_
    refine Dz.seq ?_
    refine Dz.reg ?_
    refine Dz.ret ?_
    cases hF
    exact finG [] [0] rfl rfl (⟨rfl, rfl, trivial⟩) ⟨⟨rfl, o_row⟩, trivial⟩ rfl
end Go.Proofs.PanK

/-! strconv.AppendInt at base 10: the row that is handed over is turned, or a new row is made; every other block stays. -/
namespace Go.Vs
open Go.Shelf Go.RowKit Go.Sort Go.Lib Go.Proofs

/-- Whose block a value behind an append has: the one it had, or a new one. -/
def Heir (w : World) (v v' : Value) : Prop := ∀ b, v'.ownBlock = some b → v.ownBlock = some b ∨ w.heap.size ≤ b
/-- All blocks but the value's own stand. -/
def Kp (w : World) (v : Value) (w' : World) : Prop := w.heap.size ≤ w'.heap.size ∧ ∀ k, k < w.heap.size → v.ownBlock ≠ some k → w'.heap[k]? = w.heap[k]?

theorem Heir.trans {w w1 : World} {v v1 v2 : Value} (h : Heir w v v1) (hs : w.heap.size ≤ w1.heap.size) (k : Heir w1 v1 v2) : Heir w v v2 := fun b hb => by
  rcases k b hb with h1 | h1
  · exact h b h1
  · exact .inr (by omega)
theorem Kp.trans {w w1 w2 : World} {v v1 : Value} (h : Kp w v w1) (hh : Heir w v v1) (k : Kp w1 v1 w2) : Kp w v w2 := by
  have h1 := h.1; have h2 := k.1
  refine ⟨Nat.le_trans h1 h2, fun b hb hn => ?_⟩
  rw [k.2 b (by omega) (fun e => by
    rcases hh b e with h3 | h3
    · exact hn h3
    · omega)]
  exact h.2 b hb hn
theorem Kp.grown {w w' : World} {v : Value} (h : w.grownBy w' v.ownBlock) : Kp w v w' := ⟨h.size, fun k hk hn => h.block k hk fun e => hn e.symm⟩

section
variable {P : Program}
/-- A string's bytes appended: whose block comes back. -/
theorem app_str_heir (w : World) (t u ty e : TypeId) (i : TypeInfo) (ht : P.underlying t = some (.slice e)) (hu : P.underlying u = some .string) (hi : P.info? e = some i) (hz : i.zero = some (.int .u8 0))
    (hsize : i.size = 1) (hby : i.bytes = 1) (base : Nat) (v : Value) (n : Nat) (xs : List Value) (hown : w.ownsRow base e 1 v n xs) (s : ByteArray)
    (h63 : n + s.size ≤ maxLen) (hbytes : n + s.size ≤ 140737488355328) {v' : Value} {w' : World} (hr : (Builtin.append_ #[t, u] ty #[v, .string s]).run P w = .ok v' w') : Heir w v v' := by
  have hsmall : n + s.size ≤ 9223372036854775807 := by simp only [maxLen] at h63; omega
  have hxl : xs.length = n := by simpa using hown.1
  rcases hown.2 with ⟨rfl, rfl⟩ | ⟨g, cap, cur, rfl, hbg, hg, hnc, hcm, hcs, htake⟩
  · by_cases hm : s.size = 0
    · have hf := run_firstCells_string (P := P) w 1 s
      rw [hm] at hf
      have : (Builtin.append_ #[t, u] ty #[.slice none 0 0, .string s]).run P w = .ok (.slice none 0 0) w := by
        simp [Builtin.append_, run_underlying ht, run_underlying hu, sizeOf, typeInfo, hi, hsize, Builtin.lenOf, hm, hf]
      rw [this] at hr
      cases hr
      intro b hb; cases hb
    · have hr2 := run_append_nil_string (P := P) w t u ty e i (.int .u8 0) ht hu hi hz s (by omega) (by omega) (by rw [hby]; omega)
      rw [hr2] at hr
      cases hr
      intro b hb
      simp [Value.ownBlock] at hb
      exact .inr (by omega)
  · by_cases hroom : n + s.size ≤ cap
    · have hcs' : cur.size = cap := by simpa using hcs
      have hr2 := run_append_room_string (P := P) w t u ty e i ht hu hi hsize g n cap cur hg s hroom (by omega)
      rw [hr2] at hr
      cases hr
      intro b hb
      exact .inl hb
    · have holds : ∀ j u, xs[j]? = some u → w.cell? ((⟨g, 0, none⟩ : Addr).add j) = some u := hown.cells (g := g) rfl
      have hr2 := run_append_grow_string (P := P) w t u ty e i (.int .u8 0) ht hu hi hz ⟨g, 0, none⟩ n cap xs (by rw [hsize]; simpa using hxl) holds s (by omega) (by omega) (by rw [hby]; exact growslice_fits (by omega) (by omega))
      rw [hr2] at hr
      cases hr
      intro b hb
      simp [Value.ownBlock] at hb
      exact .inr (by omega)

theorem wpl_app_str {w : World} {ops : Array Oper} {rest : List Oper} {o : Oper} {a : Act} {Q : Exit → Act → World → Prop} (hgd : o.guard = none) (sl x : Operand) (t u : TypeId)
    (ho : o.op = .call { callee := .builtin .append, args := #[sl, x], argTypes := #[t, u] })
    (base : Nat) (e : TypeId) (i : TypeInfo) (ht : P.underlying t = some (.slice e)) (hu : P.underlying u = some .string) (hi : P.info? e = some i) (hz : i.zero = some (.int .u8 0))
    (hsize : i.size = 1) (hby : i.bytes = 1)
    (v : Value) (n : Nat) (xs : List Value) (hs : a.eval sl = v) (hown : w.ownsRow base e 1 v n xs) (s : ByteArray) (hx : a.eval x = .string s)
    (h63 : n + s.size ≤ maxLen) (hbytes : n + s.size ≤ 140737488355328) (hbase : base ≤ w.heap.size)
    (h : ∀ v' w', w'.ownsRow base e 1 v' (n + s.size) (xs ++ strCells s) → w.grownBy w' v.ownBlock → Heir w v v' → wpList P ops Q rest (a.put o.dst v') w') : wpList P ops Q (o :: rest) a w := by
  refine wpList_plain hgd fun K hK => ?_
  obtain ⟨v', w', hr, h2, h3, _⟩ := run_append_own_string (P := P) w base t u o.type e i ht hu hi hz hsize hby v n xs hown s h63 hbytes hbase
  have h4 := app_str_heir w t u o.type e i ht hu hi hz hsize hby base v n xs hown s h63 hbytes hr
  unfold Oper.wp execOp
  simp only [ho, resolve, invoke, builtin, Sem.run_bind, Sem.run_pure, Result.andThen_ok, List.map_toArray, List.map_cons, List.map_nil, hs, hx, hr]
  exact hK _ _ (h v' w' h2 h3 h4)

theorem wpl_app {w : World} {ops : Array Oper} {rest : List Oper} {o : Oper} {a : Act} {Q : Exit → Act → World → Prop} (hgd : o.guard = none) (s x : Operand) (t : TypeId)
    (ho : o.op = .call { callee := .builtin .append, args := #[s, x], argTypes := #[t, t] })
    (base : Nat) (e : TypeId) (i : TypeInfo) (z : Value) (size bytes : Nat) (ht : P.underlying t = some (.slice e)) (hi : P.info? e = some i) (hz : i.zero = some z)
    (hsize : i.size = size) (hby : i.bytes = bytes) (hzs : z.cells.size = size) (hsz : 0 < size)
    (v : Value) (n : Nat) (xs : List Value) (hs : a.eval s = v) (hown : w.ownsRow base e size v n xs)
    (ad : Addr) (m c : Nat) (news : List Value) (hx : a.eval x = .slice (some ad) m c) (hl : news.length = m * size) (hnews : ∀ j u, news[j]? = some u → w.cell? (ad.add j) = some u) (h1 : ∀ u ∈ news, u.oneCell' = true)
    (h63 : n + m ≤ maxLen) (hbytes : (n + m) * bytes ≤ 140737488355328) (hbase : base ≤ w.heap.size)
    (h : ∀ v' w', w'.ownsRow base e size v' (n + m) (xs ++ news) → w.grownBy w' v.ownBlock → Heir w v v' → wpList P ops Q rest (a.put o.dst v') w') : wpList P ops Q (o :: rest) a w := by
  refine wpList_plain hgd fun K hK => ?_
  obtain ⟨v', w', hr, h2, h3, _, h5⟩ := run_append_own_at (P := P) w base t o.type e i z size bytes ht hi hz hsize hby hzs hsz v n xs hown ad m c news hl hnews h1 h63 hbytes hbase
  have h4 : Heir w v v' := fun b hb => by
    rcases h5 with h5 | h5
    · exact .inl (h5 ▸ hb)
    · rw [h5] at hb
      cases hb
      exact .inr (Nat.le_refl _)
  unfold Oper.wp execOp
  simp only [ho, resolve, invoke, builtin, Sem.run_bind, Sem.run_pure, Result.andThen_ok, List.map_toArray, List.map_cons, List.map_nil, hs, hx, hr]
  exact hK _ _ (h v' w' h2 h3 h4)

variable {ρ : Ren}
/-- What comes back of a number appended. -/
def App (ρ : Ren) (B n : Nat) (sv : Value) (xs : List Value) (w : World) (l : List UInt8) (e : Ending) (w' : World) : Prop :=
  ∃ v', e = .returned v' ∧ w'.ownsRow B (ρ.t 5) 1 v' (n + l.length) (xs ++ byteCells l) ∧ Below B w w' ∧ Kp w sv w' ∧ Heir w sv v'

set_option maxHeartbeats 6400000 in
set_option maxRecDepth 100000 in
theorem appU_small (L : LaysM.n288 P ρ) (B n u : Nat) (hu : u < 100) (sv : Value) (xs : List Value) (w : World) (hown : w.ownsRow B (ρ.t 5) 1 sv n xs) (hBw : B ≤ w.heap.size) (hlim : n + 20 ≤ 140737488355328) :
    Calls P (ρ.f 288) #[sv, .int .u64 u, .int .i64 10] w (App ρ B n sv xs w (decDigits u)) := by
  have mixed := L.mixed
  have t5 := L.t5; have a5 := L.a5; have z5 := L.z5; have v5 := L.v5
  have t37 := L.t37; have u37 := run_underlying L.t37; have a37 := L.a37; have z37 := L.z37; have v37 := L.v37
  have t53 := L.t53; have a53 := L.a53; have z53 := L.z53; have v53 := L.v53
  have t3 := L.t3; have a3 := L.a3; have z3 := L.z3; have v3 := L.v3
  have t4 := L.t4; have a4 := L.a4; have z4 := L.z4; have v4 := L.v4
  have t9 := L.t9; have a9 := L.a9; have z9 := L.z9; have v9 := L.v9
  have t171 := L.t171; have a171 := L.a171; have z171 := L.z171; have v171 := L.v171
  have t0 := L.t0; have a0 := L.a0; have z0 := L.z0; have v0 := L.v0
  have t173 := L.t173; have a173 := L.a173; have z173 := L.z173; have v173 := L.v173
  have e283 : ∀ args w, (callFunc (ρ.f 283) args).run P w = .ok (.enter (ρ.f 283) args) w := enters_of L.f283 (by kernel_rfl) rfl
  obtain ⟨i0, hi, hz0, hz1, hz2⟩ := info_parts L.i5
  have hlen : (decDigits u).length ≤ 20 := by
    rw [decDigits_length]
    by_cases h10 : u < 10
    · rw [nDigits_small h10]; omega
    · rw [nDigits_big h10, nDigits_small (show u / 10 < 10 by omega)]; omega
  have hsz : (⟨(decDigits u).toArray⟩ : ByteArray).size = (decDigits u).length := by simp [ByteArray.size]
  go_enter L.f288, Body.n288_ntmps ρ
  go_wp2_with (first
    | (go_at_fn (ρ.f 283); refine (Any.internal_strconv_small { L with } u hu _).mono ?_; rintro e w' ⟨rfl, rfl⟩)
    | (at_builtin; refine wpl_app_str rfl _ _ (ρ.t 37) (ρ.t 9) rfl B (ρ.t 5) i0 L.t37 L.t9 hi hz0 hz1 hz2 _ _ _ rfl hown ⟨(decDigits u).toArray⟩ rfl (by rw [hsz]; unfold maxLen; omega) (by rw [hsz]; omega) hBw ?_))
  intro v' w1 hown' hgrow hheir
  go_wp2
  go_ret
  refine ⟨v', rfl, ?_, (Below.refl B _).grown hgrow hBw (fun k hk => (hown.lt k hk).1), Kp.grown hgrow, hheir⟩
  first | exact hown' | (rw [hsz] at hown'; exact hown')

set_option maxHeartbeats 12800000 in
set_option maxRecDepth 100000 in
theorem appU_big (L : LaysM.n288 P ρ) (B n u : Nat) (hu : 100 ≤ u) (hu64 : u < 18446744073709551616) (sv : Value) (xs : List Value) (w : World) (hown : w.ownsRow B (ρ.t 5) 1 sv n xs) (hBw : B ≤ w.heap.size) (hlim : n + 20 ≤ 140737488355328)
    (htab : TabIs P w "internal/strconv.uint64pow10" .u64 pow10Tab) :
    Calls P (ρ.f 288) #[sv, .int .u64 u, .int .i64 10] w (App ρ B n sv xs w (decDigits u)) := by
  have mixed := L.mixed
  have t5 := L.t5; have a5 := L.a5; have z5 := L.z5; have v5 := L.v5
  have t37 := L.t37; have u37 := run_underlying L.t37; have a37 := L.a37; have z37 := L.z37; have v37 := L.v37
  have t53 := L.t53; have a53 := L.a53; have z53 := L.z53; have v53 := L.v53
  have t3 := L.t3; have a3 := L.a3; have z3 := L.z3; have v3 := L.v3
  have t4 := L.t4; have a4 := L.a4; have z4 := L.z4; have v4 := L.v4
  have t9 := L.t9; have a9 := L.a9; have z9 := L.z9; have v9 := L.v9
  have t171 := L.t171; have a171 := L.a171; have z171 := L.z171; have v171 := L.v171
  have t0 := L.t0; have a0 := L.a0; have z0 := L.z0; have v0 := L.v0
  have t173 := L.t173; have a173 := L.a173; have z173 := L.z173; have v173 := L.v173
  have e284 : ∀ args w, (callFunc (ρ.f 284) args).run P w = .ok (.enter (ρ.f 284) args) w := enters_of L.f284 (by kernel_rfl) rfl
  have e285 : ∀ args w, (callFunc (ρ.f 285) args).run P w = .ok (.enter (ρ.f 285) args) w := enters_of L.f285 (by kernel_rfl) rfl
  obtain ⟨i0, hi, hz0, hz1, hz2⟩ := info_parts L.i5
  have hu1 : 1 ≤ u := by omega
  have hnd20 : nDigits u ≤ 20 := by have := numDigits_eq u hu1 hu64; split at this <;> omega
  have hal : P.arrayLen (ρ.t 171) = 24 := by simp [Program.arrayLen, L.t171]
  have hsl : ∀ W, (Instr.sliceAt (ρ.t 171) (.pointer (some ⟨w.heap.size, 0, none⟩)) none (some (.int .i64 (nDigits u : Int))) none).run P W = .ok (.slice (some ⟨w.heap.size, 0, none⟩) (nDigits u) 24) W := fun W => by
    rw [run_sliceAt_array_h W (ρ.t 171) ⟨w.heap.size, 0, none⟩ (by simp [Program.arrayLen, Program.elem, L.t171]) .i64 (nDigits u : Int) (by omega) (by rw [hal]; omega)]
    go_simp
  have hH0 := holds_zero0 w (ρ.t 171) (nDigits u) (by omega)
  have hfmt := Any.internal_strconv_formatBase10 { L with } w.heap.size 0 24 u (Array.replicate (nDigits u) 0) (w.alloc (.cells zeros24 (ρ.t 171))) hH0 (by rw [Array.size_replicate]; exact lt_pow_nDigits u) hu64 (by rw [Array.size_replicate]; omega)
  rw [Array.size_replicate] at hfmt
  have HH0 := Lib.hid hH0
  have iu : (100 : Int) ≤ (u : Int) := by omega
  clear hH0 hal
  go_enter L.f288, Body.n288_ntmps ρ
  go_wp2_with (first
    | (go_at_fn (ρ.f 284); refine (Any.internal_strconv_numDigits { L with } u hu1 hu64 _ (tabIs_alloc htab _)).mono ?_; rintro e w' ⟨rfl, rfl⟩))
  go_at_fn (ρ.f 285)
  refine hfmt.mono ?_
  rintro e w' ⟨rfl, k, v', dk, rfl, hF⟩
  have hcells : ∀ j u', (byteCells (decDigits u))[j]? = some u' → ((putRow (fun (b : UInt8) => Value.int .u8 (b.toNat : Int)) (w.alloc (.cells zeros24 (ρ.t 171))) w.heap.size 0 dk).drewN k).cell? ((⟨w.heap.size, 0, none⟩ : Addr).add j) = some u' := by
    intro j u' hj
    have hjl : j < (decDigits u).length := by
      have h5 := (List.getElem?_eq_some_iff.1 hj).1
      rwa [byteCells_length] at h5
    have e5 : (byteCells (decDigits u))[j]? = some (Value.int .u8 ((decDigits u)[j].toNat : Int)) := by simp [byteCells, hjl]
    rw [e5] at hj
    cases hj
    rw [row_is_numeral hF j hjl, Lib.add_plain, World.cell?_drewN]
    exact cell?_putRow (fun (b : UInt8) => Value.int .u8 (b.toNat : Int)) _ w.heap.size 0 _ dk HH0.out (by rw [hF.size, Array.size_replicate]) j (by rw [hF.size]; rw [decDigits_length] at hjl; exact hjl)
  obtain ⟨os, eo⟩ := fin_at w (.cells zeros24 (ρ.t 171)) dk k 0
  have hown2 : ((putRow (fun (b : UInt8) => Value.int .u8 (b.toNat : Int)) (w.alloc (.cells zeros24 (ρ.t 171))) w.heap.size 0 dk).drewN k).ownsRow B (ρ.t 5) 1 sv n xs := by rw [eo]; exact ownsRow_grow hown k os
  have hnx2 : Below B w ((putRow (fun (b : UInt8) => Value.int .u8 (b.toNat : Int)) (w.alloc (.cells zeros24 (ρ.t 171))) w.heap.size 0 dk).drewN k) := by rw [eo]; exact below_grow B w hBw k os
  have hok2 : Below w.heap.size w ((putRow (fun (b : UInt8) => Value.int .u8 (b.toNat : Int)) (w.alloc (.cells zeros24 (ρ.t 171))) w.heap.size 0 dk).drewN k) := by rw [eo]; exact below_grow w.heap.size w (Nat.le_refl _) k os
  generalize (putRow (fun (b : UInt8) => Value.int .u8 (b.toNat : Int)) (w.alloc (.cells zeros24 (ρ.t 171))) w.heap.size 0 dk).drewN k = W2 at hcells hown2 hnx2 hok2 ⊢
  have hsz2 := hok2.size
  clear eo HH0 hfmt
  go_wp2_with (at_builtin; refine wpl_app rfl _ _ (ρ.t 37) rfl B (ρ.t 5) i0 (.int .u8 0) 1 1 L.t37 hi hz0 hz1 hz2 rfl (by decide) _ _ _ rfl hown2 ⟨w.heap.size, 0, none⟩ (nDigits u) 24 (byteCells (decDigits u)) rfl ?c0 hcells ?c2 ?c3 ?c4 ?c5 ?_)
  case c0 => rw [byteCells_length, decDigits_length, Nat.mul_one]
  case c2 => intro u' hu'; simp only [byteCells, List.mem_map] at hu'; obtain ⟨b, _, rfl⟩ := hu'; rfl
  case c3 => unfold maxLen; omega
  case c4 => omega
  case c5 => omega
  intro v2 w3 hown' hgrow hheir
  go_wp2
  go_ret
  refine ⟨v2, rfl, ?_, hnx2.grown hgrow (by omega) (fun k hk => (hown2.lt k hk).1), ?_, ?_⟩
  · rw [decDigits_length]
    exact hown'
  · refine Kp.trans (v1 := sv) ⟨hsz2, fun k hk _ => hok2.block k hk⟩ (fun b hb => .inl hb) (Kp.grown hgrow)
  · exact Heir.trans (v1 := sv) (fun b hb => .inl hb) hsz2 hheir

theorem appU (L : LaysM.n288 P ρ) (B n u : Nat) (hu64 : u < 18446744073709551616) (sv : Value) (xs : List Value) (w : World) (hown : w.ownsRow B (ρ.t 5) 1 sv n xs) (hBw : B ≤ w.heap.size) (hlim : n + 20 ≤ 140737488355328)
    (htab : TabIs P w "internal/strconv.uint64pow10" .u64 pow10Tab) :
    Calls P (ρ.f 288) #[sv, .int .u64 u, .int .i64 10] w (App ρ B n sv xs w (decDigits u)) := by
  by_cases h : u < 100
  · exact appU_small { L with } B n u h sv xs w hown hBw hlim
  · exact appU_big { L with } B n u (by omega) hu64 sv xs w hown hBw hlim htab

set_option maxHeartbeats 6400000 in
set_option maxRecDepth 100000 in
theorem appI_inner (L : LaysM.n249 P ρ) (B n : Nat) (i : Int) (h0 : -9223372036854775808 ≤ i) (h1 : i ≤ 9223372036854775807) (sv : Value) (xs : List Value) (w : World) (hown : w.ownsRow B (ρ.t 5) 1 sv n xs) (hBw : B ≤ w.heap.size) (hlim : n + 21 ≤ 140737488355328)
    (htab : TabBelow P B w "internal/strconv.uint64pow10" .u64 pow10Tab) :
    Calls P (ρ.f 249) #[sv, .int .i64 i, .int .i64 10] w (App ρ B n sv xs w (itoa i)) := by
  have mixed := L.mixed
  have t5 := L.t5; have a5 := L.a5; have z5 := L.z5; have v5 := L.v5
  have t37 := L.t37; have u37 := run_underlying L.t37; have a37 := L.a37; have z37 := L.z37; have v37 := L.v37
  have t2 := L.t2; have a2 := L.a2; have z2 := L.z2; have v2 := L.v2
  have t3 := L.t3; have a3 := L.a3; have z3 := L.z3; have v3 := L.v3
  have t53 := L.t53; have a53 := L.a53; have z53 := L.z53; have v53 := L.v53
  have t4 := L.t4; have a4 := L.a4; have z4 := L.z4; have v4 := L.v4
  have e288 : ∀ args w, (callFunc (ρ.f 288) args).run P w = .ok (.enter (ρ.f 288) args) w := enters_of L.f288 (by kernel_rfl) rfl
  obtain ⟨i0, hi, hz0, hz1, hz2⟩ := info_parts L.i5
  by_cases hneg : i < 0
  · obtain ⟨u, rfl⟩ : ∃ u : Nat, i = -(u : Int) := ⟨i.natAbs, by omega⟩
    have hu1 : 1 ≤ u := by omega
    have hu64 : u < 18446744073709551616 := by omega
    have hwr : IntKind.u64.wrap (-IntKind.u64.wrap (-(u : Int))) = (u : Int) := by rw [IntKind.wrap_u64, IntKind.wrap_u64]; omega
    rw [itoa_neg u hu1]
    go_enter L.f249, Body.n249_ntmps ρ
    go_wp2_with (at_builtin; refine wpl_app rfl _ _ (ρ.t 37) rfl B (ρ.t 5) i0 (.int .u8 0) 1 1 L.t37 hi hz0 hz1 hz2 rfl (by decide) _ _ _ rfl (hown.alloc _) ⟨w.heap.size, 0, none⟩ 1 1 [Value.int .u8 45] rfl rfl (by intro j u' hj; match j, hj with | 0, hj => simp at hj; subst hj; simp [Addr.add]) (by intro u' hu'; simp at hu'; subst hu'; rfl) (by unfold maxLen; omega) (by omega) (by simp; omega) ?_)
    intro v1 w1 hown1 hgrow hheir
    have hnx1 : Below B w w1 := ((Below.refl B w).alloc hBw _).grown hgrow (by simp; omega) (fun k hk => (hown.lt k hk).1)
    have hal : Below w.heap.size w (w.alloc (.cells #[.int .u8 45] (ρ.t 5))) := (Below.refl _ w).alloc (Nat.le_refl _) _
    have hkp1 : Kp w sv w1 := Kp.trans (v1 := sv) ⟨hal.size, fun k hk _ => hal.block k hk⟩ (fun b hb => .inl hb) (Kp.grown hgrow)
    have hh1 : Heir w sv v1 := Heir.trans (v1 := sv) (fun b hb => .inl hb) hal.size hheir
    have htab1 : TabIs P w1 "internal/strconv.uint64pow10" .u64 pow10Tab := htab w1 hnx1
    go_wp2_with (go_at_fn (ρ.f 288); refine (appU { L with } B (n + 1) u hu64 v1 _ w1 hown1 (by have := hnx1.size; omega) (by omega) htab1).mono ?_; rintro e w2 ⟨v2, rfl, hown2, hnx2, hkp2, hh2⟩)
    go_wp2
    go_ret
    refine ⟨v2, rfl, ?_, hnx1.trans hnx2, hkp1.trans hh1 hkp2, hh1.trans hkp1.1 hh2⟩
    have e1 : n + ((decDigits u).length + 1) = n + 1 + (decDigits u).length := by omega
    have e2 : xs ++ byteCells (45 :: decDigits u) = xs ++ [Value.int .u8 45] ++ byteCells (decDigits u) := by simp [byteCells]
    rw [List.length_cons, e1, e2]
    exact hown2
  · obtain ⟨u, rfl⟩ : ∃ u : Nat, i = u := ⟨i.toNat, by omega⟩
    have hu64 : u < 18446744073709551616 := by omega
    rw [itoa_nonneg]
    go_enter L.f249, Body.n249_ntmps ρ
    go_wp2_with (go_at_fn (ρ.f 288); refine (appU { L with } B n u hu64 sv xs w hown hBw (by omega) htab.here).mono ?_; rintro e w2 ⟨v2, rfl, hown2, hnx2, hok2⟩)
    go_wp2
    first | go_ret | go_ret2
    exact ⟨v2, rfl, hown2, hnx2, hok2⟩

set_option maxRecDepth 100000 in
theorem appI (L : LaysM.n176 P ρ) (B n : Nat) (i : Int) (h0 : -9223372036854775808 ≤ i) (h1 : i ≤ 9223372036854775807) (sv : Value) (xs : List Value) (w : World) (hown : w.ownsRow B (ρ.t 5) 1 sv n xs) (hBw : B ≤ w.heap.size) (hlim : n + 21 ≤ 140737488355328)
    (htab : TabBelow P B w "internal/strconv.uint64pow10" .u64 pow10Tab) :
    Calls P (ρ.f 176) #[sv, .int .i64 i, .int .i64 10] w (App ρ B n sv xs w (itoa i)) := by
  have mixed := L.mixed
  have t5 := L.t5; have a5 := L.a5; have z5 := L.z5; have v5 := L.v5
  have t37 := L.t37; have u37 := run_underlying L.t37; have a37 := L.a37; have z37 := L.z37; have v37 := L.v37
  have t2 := L.t2; have a2 := L.a2; have z2 := L.z2; have v2 := L.v2
  have t3 := L.t3; have a3 := L.a3; have z3 := L.z3; have v3 := L.v3
  have e249 : ∀ args w, (callFunc (ρ.f 249) args).run P w = .ok (.enter (ρ.f 249) args) w := enters_of L.f249 (by kernel_rfl) rfl
  go_enter L.f176, Body.n176_ntmps ρ
  go_wp2_with (go_at_fn (ρ.f 249); refine (appI_inner { L with } B n i h0 h1 sv xs w hown hBw hlim htab).mono ?_; rintro e w2 ⟨v2, rfl, hown2, hnx2, hok2⟩)
  go_wp2
  go_ret
  exact ⟨v2, rfl, hown2, hnx2, hok2⟩

/-- THE CONTRACT, where a table reads so below what the call owns. -/
def appNum (a0 : List Int) (a1 a2 : Int) : Option (List Int) :=
  ck (a2 = 10 ∧ (-9223372036854775808 ≤ a1 ∧ a1 ≤ 9223372036854775807) ∧ a0.length + 21 ≤ 140737488355328) (some (a0 ++ (itoa a1).map fun b => (b.toNat : Int)))

theorem appI_con [Glob P] (hgl : ∀ {B : Nat} {w : World}, Glob.ok P B w → TabBelow P B w "internal/strconv.uint64pow10" .u64 pow10Tab) (L : LaysM.n176 P ρ) {f e : Nat} (hf : ρ.f 176 = f) (he : ρ.t 5 = e)
    (hen : ∀ (vals : Array Value) (w : World), (callFunc f vals).run P w = .ok (.enter f vals) w) {a0 : List Int} {a1 a2 : Int} {r : List Int} (hF : appNum a0 a1 a2 = some r) :
    Con P f [.val false [.row 0], vint .i64 a1, vint .i64 a2] [.row e a0.length 1 (gl cInt_u8 a0)] (.val false [.row 1]) [.none, .row e r.length 1 (gl cInt_u8 r)] := by
  subst hf; subst he
  unfold appNum ck at hF
  split at hF
  case isFalse => cases hF
  rename_i hck
  obtain ⟨rfl, ⟨b1, b2⟩, b3⟩ := hck
  cases hF
  refine ⟨hen, fun w0 g0 vals hp hg => ?_⟩
  match vals, hp.args with
  | [], h => exact h.elim
  | [_], h => exact h.2.elim
  | [_, _], h => exact h.2.2.elim
  | _ :: _ :: _ :: _ :: _, h => exact h.2.2.2.elim
  | [v0, v1, v2], ⟨h1, h2, h3, _⟩ =>
    have k1 : RL w0 g0 (.row 0) v0 := RV.cell h1
    have k2 : v1 = .int .i64 a1 := RV.cell h2
    have k3 : v2 = .int .i64 10 := RV.cell h3
    subst k2; subst k3
    obtain ⟨hd, rfl, hone⟩ := k1
    obtain ⟨q1, q2, ⟨cs, hown, hcs⟩, hom⟩ := hp.objs 0 (by simp)
    obtain ⟨B, hB1, hB2, hB3⟩ := hg
    have hown' : w0.ownsRow B (ρ.t 5) 1 (g0.rv 0) a0.length cs := by
      refine ⟨hown.1, ?_⟩
      rcases hown.2 with hn | ⟨gb, cap, cur, e1, e2, rest⟩
      · exact .inl hn
      · exact .inr ⟨gb, cap, cur, e1, hB2 gb (by show g0.om gb ≠ none; rw [hom gb (by rw [e1]; rfl)]; exact fun e => by cases e), rest⟩
    refine (appI L B a0.length a1 b1 b2 (g0.rv 0) cs w0 hown' hB1 b3 (hgl hB3)).mono ?_
    rintro e w ⟨v', rfl, hown2, hbel, hkp, hheir⟩
    let g : Gh := { Fz := g0.Fz, Tz := g0.Tz, om := fun b => if v'.ownBlock = some b then some 1 else none, rv := fun r => if r = 0 then g0.rv 0 else v', df := fun r => r < 2 }
    have hnom : ∀ b, (∀ r, g0.om b ≠ some r) → b < w0.heap.size → v'.ownBlock ≠ some b := fun b hb hlt e => by
      rcases hheir b e with h4 | h4
      · exact hb 0 (hom b h4)
      · omega
    have hone' : v'.oneCell' = true := by
      rcases hown2.2 with ⟨e1, _⟩ | ⟨gb, cap, cur, e1, _⟩ <;> rw [e1] <;> rfl
    refine ⟨v', g, rfl, ?_⟩
    refine ⟨?_, ?_, fun r => ?_, by simp, fun b hb => ?_, rfl, fun b hb => ?_, fun b r hb => ?_, fun r hr => ?_, hbel.os, hbel.tape, hbel.output, hkp.1, fun k hk hn => ?_⟩
    · exact ⟨[v'], rfl, ⟨by show (1 : Nat) < 2; omega, rfl, hone'⟩, trivial⟩
    · intro r hr
      match r, hr with
      | 0, _ => exact trivial
      | 1, _ =>
        show RO w g 1 (.row (ρ.t 5) _ 1 _)
        have hlen : (a0 ++ (itoa a1).map fun b => (b.toNat : Int)).length = a0.length + (itoa a1).length := by simp
        refine ⟨by omega, ?_, ⟨cs ++ byteCells (itoa a1), ?_, fun i hi j hj => ?_⟩, fun b hb => ?_⟩
        · have : (itoa a1).length ≤ 21 := itoa_length_le a1 b1 b2
          rw [hlen]; unfold bound; omega
        · have h5 := hown2
          rw [hlen]
          refine ⟨h5.1, ?_⟩
          rcases h5.2 with hn | ⟨gb, cap, cur, e1, e2, rest⟩
          · exact .inl hn
          · exact .inr ⟨gb, cap, cur, e1, Nat.zero_le _, rest⟩
        · obtain rfl : j = 0 := by omega
          have hcl : cs.length = a0.length := by simpa using hown.1
          rw [Nat.mul_one, Nat.add_zero]
          show ∃ x, (cs ++ byteCells (itoa a1))[i]? = some x ∧ x = Value.int .u8 ((a0 ++ (itoa a1).map fun b => (b.toNat : Int)).getD i default)
          by_cases hlt : i < a0.length
          · obtain ⟨x, hx, hu⟩ := hcs i hlt 0 (by omega)
            rw [Nat.mul_one, Nat.add_zero] at hx
            refine ⟨x, by rw [List.getElem?_append_left (by omega)]; exact hx, ?_⟩
            have hu' : x = .int .u8 (a0.getD i default) := hu
            rw [hu', List.getD_eq_getElem?_getD, List.getD_eq_getElem?_getD, List.getElem?_append_left hlt]
          · rw [hlen] at hi
            have hi2 : i - a0.length < (itoa a1).length := by omega
            refine ⟨.int .u8 (((itoa a1)[i - a0.length]).toNat : Int), ?_, ?_⟩
            · rw [List.getElem?_append_right (by omega), hcl]
              simp [byteCells, hi2]
            · rw [List.getD_eq_getElem?_getD, List.getElem?_append_right (by omega)]
              simp [hi2]
        · show (if v'.ownBlock = some b then some 1 else none) = some 1
          have hb2 : v'.ownBlock = some b := hb
          rw [if_pos hb2]
    · show r < 2 ↔ r < 2
      exact Iff.rfl
    · have h4 := hp.fz b hb
      refine ⟨.inr (.inl hb), Nat.lt_of_lt_of_le h4.1 hkp.1, ?_⟩
      show (if v'.ownBlock = some b then some 1 else none) = none
      rw [if_neg (hnom b (fun r => by rw [h4.2]; exact fun e => by cases e) h4.1)]
    · have h4 := hp.tz b hb
      show (if v'.ownBlock = some b then some 1 else none) = none
      rw [if_neg (hnom b (fun r => by rw [h4.2]; exact fun e => by cases e) h4.1)]
    · have hb2 : v'.ownBlock = some b := by
        have h5 : (if v'.ownBlock = some b then some 1 else none) = some r := hb
        split at h5
        · assumption
        · cases h5
      refine ⟨?_, (hown2.lt b hb2).2⟩
      rcases hheir b hb2 with h4 | h4
      · exact .inr (by rw [hom b h4]; exact fun e => by cases e)
      · exact .inl h4
    · have hr0 : r = 0 := by simp at hr; omega
      subst hr0
      rfl
    · exact hkp.2 k hk fun e => by
        have := hom k e
        rw [hn] at this
        cases this
end
end Go.Vs

/-! strconv.AppendInt at this program: the laying is printed by the kit's tool. -/
namespace Go.Proofs
open Go.Shelf
def Tryd.laysM176_ren : Go.Shelf.Ren := ⟨fun | 176 => 75 | 249 => 90 | 288 => 108 | 283 => 95 | 284 => 96 | 285 => 97 | 286 => 98 | 129 => 114 | 317 => 113 | 318 => 115 | 319 => 116 | 320 => 117 | 337 => 123 | 338 => 124 | n => n, fun | 37 => 55 | 2 => 2 | 3 => 3 | 53 => 140 | 4 => 4 | 9 => 9 | 171 => 139 | 0 => 0 | 173 => 143 | 212 => 158 | 51 => 159 | 5 => 5 | 20 => 20 | 213 => 160 | 46 => 146 | 232 => 173 | 233 => 174 | n => n, fun | 17 => 1 | 18 => 4 | 19 => 5 | n => n⟩
theorem Tryd.laysM176 : Go.Proofs.LaysM.n176 Tryd.prog Tryd.laysM176_ren := {
  mixed := by kernel_rfl
  f129 := Tryd.func114.trans (congrArg some (by kernel_rfl))
  f176 := Tryd.func75.trans (congrArg some (by kernel_rfl))
  f249 := Tryd.func90.trans (congrArg some (by kernel_rfl))
  f283 := Tryd.func95.trans (congrArg some (by kernel_rfl))
  f284 := Tryd.func96.trans (congrArg some (by kernel_rfl))
  f285 := Tryd.func97.trans (congrArg some (by kernel_rfl))
  f286 := Tryd.func98.trans (congrArg some (by kernel_rfl))
  f288 := Tryd.func108.trans (congrArg some (by kernel_rfl))
  f317 := Tryd.func113.trans (congrArg some (by kernel_rfl))
  f318 := Tryd.func115.trans (congrArg some (by kernel_rfl))
  f319 := Tryd.func116.trans (congrArg some (by kernel_rfl))
  f320 := Tryd.func117.trans (congrArg some (by kernel_rfl))
  f337 := Tryd.func123.trans (congrArg some (by kernel_rfl))
  f338 := Tryd.func124.trans (congrArg some (by kernel_rfl))
  t0 := Tryd.underlying0
  a0 := Tryd.isAgg0
  z0 := Tryd.sizeOf0
  v0 := Tryd.zeroValue0
  t2 := Tryd.underlying2
  a2 := Tryd.isAgg2
  z2 := Tryd.sizeOf2
  v2 := Tryd.zeroValue2
  t3 := Tryd.underlying3
  a3 := Tryd.isAgg3
  z3 := Tryd.sizeOf3
  v3 := Tryd.zeroValue3
  t4 := Tryd.underlying4
  a4 := Tryd.isAgg4
  z4 := Tryd.sizeOf4
  v4 := Tryd.zeroValue4
  t5 := Tryd.underlying5
  a5 := Tryd.isAgg5
  z5 := Tryd.sizeOf5
  v5 := Tryd.zeroValue5
  t9 := Tryd.underlying9
  a9 := Tryd.isAgg9
  z9 := Tryd.sizeOf9
  v9 := Tryd.zeroValue9
  t20 := Tryd.underlying20
  a20 := Tryd.isAgg20
  z20 := Tryd.sizeOf20
  v20 := Tryd.zeroValue20
  t37 := Tryd.underlying55
  a37 := Tryd.isAgg55
  z37 := Tryd.sizeOf55
  v37 := Tryd.zeroValue55
  t46 := Tryd.underlying146
  a46 := Tryd.isAgg146
  z46 := Tryd.sizeOf146
  v46 := Tryd.zeroValue146
  t51 := Tryd.underlying159
  a51 := Tryd.isAgg159
  z51 := Tryd.sizeOf159
  v51 := Tryd.zeroValue159
  t53 := Tryd.underlying140
  a53 := Tryd.isAgg140
  z53 := Tryd.sizeOf140
  v53 := Tryd.zeroValue140
  t171 := Tryd.underlying139
  a171 := Tryd.isAgg139
  z171 := Tryd.sizeOf139
  v171 := Tryd.zeroValue139
  t173 := Tryd.underlying143
  a173 := Tryd.isAgg143
  z173 := Tryd.sizeOf143
  v173 := Tryd.zeroValue143
  t212 := Tryd.underlying158
  a212 := Tryd.isAgg158
  z212 := Tryd.sizeOf158
  v212 := Tryd.zeroValue158
  t213 := Tryd.underlying160
  a213 := Tryd.isAgg160
  z213 := Tryd.sizeOf160
  t232 := Tryd.underlying173
  a232 := Tryd.isAgg173
  z232 := Tryd.sizeOf173
  v232 := Tryd.zeroValue173
  t233 := Tryd.underlying174
  a233 := Tryd.isAgg174
  z233 := Tryd.sizeOf174
  v233 := Tryd.zeroValue174
  g17 := by kernel_rfl
  g18 := by kernel_rfl
  g19 := by kernel_rfl
  i0 := by kernel_rfl
  i2 := by kernel_rfl
  i3 := by kernel_rfl
  i4 := by kernel_rfl
  i5 := by kernel_rfl
  i9 := by kernel_rfl
  i20 := by kernel_rfl
  i37 := by kernel_rfl
  i46 := by kernel_rfl
  i51 := by kernel_rfl
  i53 := by kernel_rfl
  i171 := by kernel_rfl
  i173 := by kernel_rfl
  i212 := by kernel_rfl
  i232 := by kernel_rfl
  i233 := by kernel_rfl
  m17 := by kernel_rfl
  m18 := by kernel_rfl
  m19 := by kernel_rfl }
end Go.Proofs
namespace Go.Proofs.PanK
open Go.Vs
def g_appendInt (a0 : List Int) (a1 a2 : Int) : Option (List Int) := appNum a0 a1 a2
theorem g_appendInt_c {a0 : List Int} {a1 a2 : Int} {r : List Int} (hF : g_appendInt a0 a1 a2 = some r) :
    Con Tryd.prog 75 [.val false [.row 0], vint .i64 a1, vint .i64 a2] [.row 5 a0.length 1 (gl cInt_u8 a0)] (.val false [.row 1]) [.none, .row 5 r.length 1 (gl cInt_u8 r)] :=
  appI_con (fun h => h) Tryd.laysM176 rfl rfl (enters_of Tryd.func75 (by kernel_rfl) rfl) hF
end Go.Proofs.PanK

/-! Printed by wip/tools/walk.py. -/
namespace Go.Proofs.PanK
open Go.Vs
set_option maxRecDepth 8000
def i_histKey (a0 : (List Bool)) (a1 : HistState) : Option (ByteArray) :=
  loopN (fun i2 (v5 : List Int) κ6 => cond (a0.getD i2 default) (ck ((v5.length + 1) * 1 ≤ 140737488355328) (κ6 (v5 ++ ([49] : List Int)))) (ck ((v5.length + 1) * 1 ≤ 140737488355328) (κ6 (v5 ++ ([48] : List Int))))) (fun (v5 : List Int) => loopN (fun i9 (v14 : List Int) κ15 => lt (a1.Disks.getD i9 default) (fun x16 => ck ((v14.length + 3) * 8 ≤ 140737488355328) (κ15 (v14 ++ ([x16.Id, x16.Size, x16.Epoch] : List Int))))) (fun (v14 : List Int) => loopN (fun i18 (v23 : List Int) κ24 => lt (a1.Pieces.getD i18 default) (fun x25 => ck ((v23.length + 4) * 8 ≤ 140737488355328) (κ24 (v23 ++ ([x25.Disk, x25.Block, x25.Epoch, x25.Data] : List Int))))) (fun (v23 : List Int) => loopN (fun i27 (v32 : List Int) κ33 => ck ((v32.length + 1) * 1 ≤ 140737488355328) ((g_appendInt (v32 ++ ([32] : List Int)) (v23.getD i27 default) 10).bind (fun y34 => κ33 y34))) (fun (v32 : List Int) => some (strOfNums v32)) v23.length 0 v5) a1.Pieces.length 0 v14) a1.Disks.length 0 ([a1.Next, a1.Servers, ((a1.Disks.length : Nat) : Int)] : List Int)) a0.length 0 ([] : List Int)
theorem i_histKey_c {t0_0 t1_2 t1_3 : Bool} {a0 : (List Bool)} {a1 : HistState} {r : ByteArray} (hF : i_histKey a0 a1 = some r) : Con Tryd.prog 65 [.val false [.u (ul cBool 1 t0_0 a0)], .val true [.u (cI a1.Next), .u (cI a1.Servers), .u (ul MapDisk.c 7 t1_2 a1.Disks), .u (ul BlkPiece.c 4 t1_3 a1.Pieces)]] [] (vstr r) [] := by
  refine Con.of_Dz tabOk Tryd.func65 rfl rfl rfl ?_
  delta i_histKey at hF
  refine Dz.seq ?_
  refine Dz.reg ?_
  refine Dz.seq ?_
  refine Dz.reg ?_
  refine Dz.row 1 ([] : List Int).length (gl cInt_u8 ([] : List Int)) rfl (by simp <;> omega) EqG.nilr ?_
  refine Dz.seq ?_
  refine Dz.seq ?_
  refine Dz.reg ?_
  intro hb1; replace hb1 : a0.length ≤ 140737488355328 := hb1
  refine Dz.blk ?_
  refine Dz.cnt hF (fun i2 v5 => ([(3, .ptr 0 0), (5, .val false [.row 1]), (16, .val false [.u (ul cBool 1 t0_0 a0)]), (17, vint .i64 ((a0.length : Nat) : Int)), (18, vint .i64 ((i2 : Nat) : Int))], [.box 88 [.u (cI a1.Next), .u (cI a1.Servers), .u (ul MapDisk.c 7 t1_2 a1.Disks), .u (ul BlkPiece.c 4 t1_3 a1.Pieces)], .row 5 v5.length 1 (gl cInt_u8 v5)])) (entG [0, 1] ⟨m_ptr rfl, ⟨rfl, rfl, trivial⟩, m_val rfl, m_val rfl, m_val rfl, trivial⟩ ⟨⟨rfl, o_box rfl⟩, ⟨rfl, o_row⟩, trivial⟩ rfl) (fun v5 hF => ?_) (fun i2 v5 κ6 hi0i2 hi1i2 hF => ?_)
  · refine Dz.seq ?_
    refine Dz.reg ?_
    refine Dz.seq ?_
    refine Dz.ff (b := decide (((0 + a0.length : Nat) : Int) < ((a0.length : Nat) : Int))) rfl (decide_eq_false (by omega)) ?_
    refine Dz.exit ?_
    refine Dz.seq ?_
    refine Dz.reg ?_
    intro hb7; replace hb7 : a1.Disks.length ≤ 140737488355328 := hb7
    refine Dz.row 2 ([a1.Next, a1.Servers, ((a1.Disks.length : Nat) : Int)] : List Int).length (gl cInt ([a1.Next, a1.Servers, ((a1.Disks.length : Nat) : Int)] : List Int)) rfl (by simp <;> omega) (EqG.lit (c := cInt) (sz := 1) (L := ([a1.Next, a1.Servers, ((a1.Disks.length : Nat) : Int)] : List Int)) ⟨LeU.refl _, LeU.refl _, LeU.refl _, trivial⟩) ?_
    refine Dz.seq ?_
    refine Dz.seq ?_
    refine Dz.reg ?_
    intro hb8; replace hb8 : a1.Disks.length ≤ 140737488355328 := hb8
    refine Dz.blk ?_
    refine Dz.cnt hF (fun i9 v14 => ([(3, .ptr 0 0), (5, .val false [.row 1]), (8, .val false [.row 2]), (39, .val false [.u (ul MapDisk.c 7 t1_2 a1.Disks)]), (40, vint .i64 ((a1.Disks.length : Nat) : Int)), (41, vint .i64 ((i9 : Nat) : Int))], [.box 88 [.u (cI a1.Next), .u (cI a1.Servers), .u (ul MapDisk.c 7 t1_2 a1.Disks), .u (ul BlkPiece.c 4 t1_3 a1.Pieces)], .row 5 v5.length 1 (gl cInt_u8 v5), .row 3 v14.length 1 (gl cInt v14)])) (entG [0, 1, 2] ⟨m_ptr rfl, ⟨rfl, rfl, trivial⟩, ⟨rfl, rfl, trivial⟩, m_val rfl, m_val rfl, m_val rfl, trivial⟩ ⟨⟨rfl, o_box rfl⟩, ⟨rfl, o_row⟩, ⟨rfl, o_row⟩, trivial⟩ rfl) (fun v14 hF => ?_) (fun i9 v14 κ15 hi0i9 hi1i9 hF => ?_)
    · refine Dz.seq ?_
      refine Dz.reg ?_
      refine Dz.seq ?_
      refine Dz.ff (b := decide (((0 + a1.Disks.length : Nat) : Int) < ((a1.Disks.length : Nat) : Int))) rfl (decide_eq_false (by omega)) ?_
      refine Dz.exit ?_
      refine Dz.seq ?_
      refine Dz.seq ?_
      refine Dz.reg ?_
      intro hb17; replace hb17 : a1.Pieces.length ≤ 140737488355328 := hb17
      refine Dz.blk ?_
      refine Dz.cnt hF (fun i18 v23 => ([(5, .val false [.row 0]), (8, .val false [.row 1]), (56, .val false [.u (ul BlkPiece.c 4 t1_3 a1.Pieces)]), (57, vint .i64 ((a1.Pieces.length : Nat) : Int)), (58, vint .i64 ((i18 : Nat) : Int))], [.row 5 v5.length 1 (gl cInt_u8 v5), .row 3 v23.length 1 (gl cInt v23)])) (entG [1, 2] ⟨⟨rfl, rfl, trivial⟩, ⟨rfl, rfl, trivial⟩, m_val rfl, m_val rfl, m_val rfl, trivial⟩ ⟨⟨rfl, o_row⟩, ⟨rfl, o_row⟩, trivial⟩ rfl) (fun v23 hF => ?_) (fun i18 v23 κ24 hi0i18 hi1i18 hF => ?_)
      · refine Dz.seq ?_
        refine Dz.reg ?_
        refine Dz.seq ?_
        refine Dz.ff (b := decide (((0 + a1.Pieces.length : Nat) : Int) < ((a1.Pieces.length : Nat) : Int))) rfl (decide_eq_false (by omega)) ?_
        refine Dz.exit ?_
        refine Dz.seq ?_
        refine Dz.seq ?_
        refine Dz.reg ?_
        intro hb26; replace hb26 : v23.length ≤ 140737488355328 := hb26
        refine Dz.blk ?_
        refine Dz.cnt hF (fun i27 v32 => ([(5, .val false [.row 0]), (74, .val false [.row 1]), (75, vint .i64 ((v23.length : Nat) : Int)), (76, vint .i64 ((i27 : Nat) : Int))], [.row 5 v32.length 1 (gl cInt_u8 v32), .row 3 v23.length 1 (gl cInt v23)])) (entG [0, 1] ⟨⟨rfl, rfl, trivial⟩, ⟨rfl, rfl, trivial⟩, m_val rfl, m_val rfl, trivial⟩ ⟨⟨rfl, o_row⟩, ⟨rfl, o_row⟩, trivial⟩ rfl) (fun v32 hF => ?_) (fun i27 v32 κ33 hi0i27 hi1i27 hF => ?_)
        · refine Dz.seq ?_
          refine Dz.reg ?_
          refine Dz.seq ?_
          refine Dz.ff (b := decide (((0 + v23.length : Nat) : Int) < ((v23.length : Nat) : Int))) rfl (decide_eq_false (by omega)) ?_
          refine Dz.exit ?_
          refine Dz.seq ?_
          refine Dz.reg ?_
          refine ⟨rfl, v32, rfl, fun _ _ => rfl, ?_⟩
          refine Dz.ret ?_
          cases hF
          exact finG [] [] rfl rfl (m_val rfl) trivial rfl
        · refine Dz.seq ?_
          refine Dz.reg ?_
          refine Dz.seq ?_
          refine Dz.tt (b := decide (((i27 : Nat) : Int) < ((v23.length : Nat) : Int))) rfl (decide_eq_true (by omega)) ?_
          refine Dz.skip ?_
          refine Dz.seq ?_
          refine Dz.blk ?_
          refine Dz.seq ?_
          refine Dz.reg ?_
          refine vge (n := ((i27 : Nat) : Int)) (hi := (v23.length : Int)) (by omega) (by omega) ?_
          refine Dz.reg ?_
          refine vck hF id (fun _ hF => ?_)
          refine bdE hF (fun y34 hy34 hF => ?_)
          refine callG [3] (g_appendInt_c hy34) ⟨⟨rfl, rfl, trivial⟩, m_val rfl, m_val rfl, trivial⟩ ⟨⟨rfl, o_rowE (by simp <;> omega) (EqG.app rfl (by simp <;> omega) (EqG.refl _ _ _) (EqG.lit (c := cInt_u8) (sz := 1) (L := ([32] : List Int)) ⟨LeU.refl _, trivial⟩))⟩, trivial⟩ rfl ?_
          refine Dz.row 2 ([32] : List Int).length (gl cInt_u8 ([32] : List Int)) rfl (by simp <;> omega) (EqG.lit (c := cInt_u8) (sz := 1) (L := ([32] : List Int)) ⟨LeU.refl _, trivial⟩) ?_
          refine Dz.reg ?_
          refine vsucc (by omega) ?_
          exact ⟨y34, entG [4, 1] ⟨⟨rfl, rfl, trivial⟩, ⟨rfl, rfl, trivial⟩, m_val rfl, m_val rfl, trivial⟩ ⟨⟨rfl, o_row⟩, ⟨rfl, o_row⟩, trivial⟩ rfl, hF⟩
      · refine Dz.seq ?_
        refine Dz.reg ?_
        refine Dz.seq ?_
        refine Dz.tt (b := decide (((i18 : Nat) : Int) < ((a1.Pieces.length : Nat) : Int))) rfl (decide_eq_true (by omega)) ?_
        refine Dz.skip ?_
        refine Dz.seq ?_
        refine Dz.blk ?_
        refine Dz.seq ?_
        refine Dz.reg ?_
        refine vge (n := ((i18 : Nat) : Int)) (hi := (a1.Pieces.length : Int)) (by omega) (by omega) ?_
        have hF := ltE hF
        refine Dz.reg ?_
        refine vck hF id (fun _ hF => ?_)
        refine Dz.row 3 ([(a1.Pieces.getD i18 default).Disk, (a1.Pieces.getD i18 default).Block, (a1.Pieces.getD i18 default).Epoch, (a1.Pieces.getD i18 default).Data] : List Int).length (gl cInt ([(a1.Pieces.getD i18 default).Disk, (a1.Pieces.getD i18 default).Block, (a1.Pieces.getD i18 default).Epoch, (a1.Pieces.getD i18 default).Data] : List Int)) rfl (by simp <;> omega) (EqG.lit (c := cInt) (sz := 1) (L := ([(a1.Pieces.getD i18 default).Disk, (a1.Pieces.getD i18 default).Block, (a1.Pieces.getD i18 default).Epoch, (a1.Pieces.getD i18 default).Data] : List Int)) ⟨LeU.refl _, LeU.refl _, LeU.refl _, LeU.refl _, trivial⟩) ?_
        refine Dz.row 4 (v23 ++ ([(a1.Pieces.getD i18 default).Disk, (a1.Pieces.getD i18 default).Block, (a1.Pieces.getD i18 default).Epoch, (a1.Pieces.getD i18 default).Data] : List Int)).length (gl cInt (v23 ++ ([(a1.Pieces.getD i18 default).Disk, (a1.Pieces.getD i18 default).Block, (a1.Pieces.getD i18 default).Epoch, (a1.Pieces.getD i18 default).Data] : List Int))) rfl (by simp <;> omega) (EqG.app rfl (by simp <;> omega) (EqG.refl _ _ _) (EqG.lit (c := cInt) (sz := 1) (L := ([(a1.Pieces.getD i18 default).Disk, (a1.Pieces.getD i18 default).Block, (a1.Pieces.getD i18 default).Epoch, (a1.Pieces.getD i18 default).Data] : List Int)) ⟨LeU.refl _, LeU.refl _, LeU.refl _, LeU.refl _, trivial⟩)) ?_
        refine Dz.reg ?_
        refine vsucc (by omega) ?_
        exact ⟨(v23 ++ ([(a1.Pieces.getD i18 default).Disk, (a1.Pieces.getD i18 default).Block, (a1.Pieces.getD i18 default).Epoch, (a1.Pieces.getD i18 default).Data] : List Int)), entG [0, 4] ⟨⟨rfl, rfl, trivial⟩, ⟨rfl, rfl, trivial⟩, m_val rfl, m_val rfl, m_val rfl, trivial⟩ ⟨⟨rfl, o_row⟩, ⟨rfl, o_row⟩, trivial⟩ rfl, hF⟩
    · refine Dz.seq ?_
      refine Dz.reg ?_
      refine Dz.seq ?_
      refine Dz.tt (b := decide (((i9 : Nat) : Int) < ((a1.Disks.length : Nat) : Int))) rfl (decide_eq_true (by omega)) ?_
      refine Dz.skip ?_
      refine Dz.seq ?_
      refine Dz.blk ?_
      refine Dz.seq ?_
      refine Dz.reg ?_
      refine vge (n := ((i9 : Nat) : Int)) (hi := (a1.Disks.length : Int)) (by omega) (by omega) ?_
      have hF := ltE hF
      refine Dz.reg ?_
      refine vck hF id (fun _ hF => ?_)
      refine Dz.row 4 ([(a1.Disks.getD i9 default).Id, (a1.Disks.getD i9 default).Size, (a1.Disks.getD i9 default).Epoch] : List Int).length (gl cInt ([(a1.Disks.getD i9 default).Id, (a1.Disks.getD i9 default).Size, (a1.Disks.getD i9 default).Epoch] : List Int)) rfl (by simp <;> omega) (EqG.lit (c := cInt) (sz := 1) (L := ([(a1.Disks.getD i9 default).Id, (a1.Disks.getD i9 default).Size, (a1.Disks.getD i9 default).Epoch] : List Int)) ⟨LeU.refl _, LeU.refl _, LeU.refl _, trivial⟩) ?_
      refine Dz.row 5 (v14 ++ ([(a1.Disks.getD i9 default).Id, (a1.Disks.getD i9 default).Size, (a1.Disks.getD i9 default).Epoch] : List Int)).length (gl cInt (v14 ++ ([(a1.Disks.getD i9 default).Id, (a1.Disks.getD i9 default).Size, (a1.Disks.getD i9 default).Epoch] : List Int))) rfl (by simp <;> omega) (EqG.app rfl (by simp <;> omega) (EqG.refl _ _ _) (EqG.lit (c := cInt) (sz := 1) (L := ([(a1.Disks.getD i9 default).Id, (a1.Disks.getD i9 default).Size, (a1.Disks.getD i9 default).Epoch] : List Int)) ⟨LeU.refl _, LeU.refl _, LeU.refl _, trivial⟩)) ?_
      refine Dz.reg ?_
      refine vsucc (by omega) ?_
      exact ⟨(v14 ++ ([(a1.Disks.getD i9 default).Id, (a1.Disks.getD i9 default).Size, (a1.Disks.getD i9 default).Epoch] : List Int)), entG [0, 1, 5] ⟨m_ptr rfl, ⟨rfl, rfl, trivial⟩, ⟨rfl, rfl, trivial⟩, m_val rfl, m_val rfl, m_val rfl, trivial⟩ ⟨⟨rfl, o_box rfl⟩, ⟨rfl, o_row⟩, ⟨rfl, o_row⟩, trivial⟩ rfl, hF⟩
  · refine Dz.seq ?_
    refine Dz.reg ?_
    refine Dz.seq ?_
    refine Dz.tt (b := decide (((i2 : Nat) : Int) < ((a0.length : Nat) : Int))) rfl (decide_eq_true (by omega)) ?_
    refine Dz.skip ?_
    refine Dz.seq ?_
    refine Dz.blk ?_
    refine Dz.seq ?_
    refine Dz.reg ?_
    refine vge (n := ((i2 : Nat) : Int)) (hi := (a0.length : Int)) (by omega) (by omega) ?_
    refine Dz.seq ?_
    refine Dz.reg ?_
    refine Dz.ite rfl hF (fun _ hF => ?_) (fun _ hF => ?_)
    · refine Dz.reg ?_
      refine vck hF id (fun _ hF => ?_)
      refine Dz.row 2 ([49] : List Int).length (gl cInt_u8 ([49] : List Int)) rfl (by simp <;> omega) (EqG.lit (c := cInt_u8) (sz := 1) (L := ([49] : List Int)) ⟨LeU.refl _, trivial⟩) ?_
      refine Dz.row 3 (v5 ++ ([49] : List Int)).length (gl cInt_u8 (v5 ++ ([49] : List Int))) rfl (by simp <;> omega) (EqG.app rfl (by simp <;> omega) (EqG.refl _ _ _) (EqG.lit (c := cInt_u8) (sz := 1) (L := ([49] : List Int)) ⟨LeU.refl _, trivial⟩)) ?_
      refine Dz.reg ?_
      refine vsucc (by omega) ?_
      exact ⟨(v5 ++ ([49] : List Int)), entG [0, 3] ⟨m_ptr rfl, ⟨rfl, rfl, trivial⟩, m_val rfl, m_val rfl, m_val rfl, trivial⟩ ⟨⟨rfl, o_box rfl⟩, ⟨rfl, o_row⟩, trivial⟩ rfl, hF⟩
    · refine Dz.reg ?_
      refine vck hF id (fun _ hF => ?_)
      refine Dz.row 2 ([48] : List Int).length (gl cInt_u8 ([48] : List Int)) rfl (by simp <;> omega) (EqG.lit (c := cInt_u8) (sz := 1) (L := ([48] : List Int)) ⟨LeU.refl _, trivial⟩) ?_
      refine Dz.row 3 (v5 ++ ([48] : List Int)).length (gl cInt_u8 (v5 ++ ([48] : List Int))) rfl (by simp <;> omega) (EqG.app rfl (by simp <;> omega) (EqG.refl _ _ _) (EqG.lit (c := cInt_u8) (sz := 1) (L := ([48] : List Int)) ⟨LeU.refl _, trivial⟩)) ?_
      refine Dz.reg ?_
      refine vsucc (by omega) ?_
      exact ⟨(v5 ++ ([48] : List Int)), entG [0, 3] ⟨m_ptr rfl, ⟨rfl, rfl, trivial⟩, m_val rfl, m_val rfl, m_val rfl, trivial⟩ ⟨⟨rfl, o_box rfl⟩, ⟨rfl, o_row⟩, trivial⟩ rfl, hF⟩
end Go.Proofs.PanK

/-! Printed by wip/tools/walk.py. -/
namespace Go.Proofs.PanK
open Go.Vs
set_option maxRecDepth 8000
def i_search_next (a0 : search) (a1 : (List Bool)) (a2 : Int) : Option (Bool × search × List Bool) :=
  ix a1 a2 (fun _ => cond (a1.getD a2.toNat default) (some (false, a0, a1)) (loopN (fun i2 (v5 : Unit) κ6 => lt (a0.calls.getD i2 default) (fun x7 => cond (!decide (((i2 : Nat) : Int) = a2)) (ix a1 ((i2 : Nat) : Int) (fun _ => cond (!(a1.getD i2 default)) (cond (!decide (x7.End = 0)) (ix a0.calls a2 (fun x8 => cond (decide (x7.End < x8.Begin)) (some (false, a0, a1)) (κ6 ()))) (κ6 ())) (κ6 ()))) (κ6 ()))) (fun (v5 : Unit) => some (true, a0, a1)) a0.calls.length 0 ()))
theorem i_search_next_c {t0_0 : Bool} {a0 : search} {a1 : (List Bool)} {a2 : Int} {r : Bool × search × List Bool} (hF : i_search_next a0 a1 a2 = some r) : Con Tryd.prog 66 [.ptr 0 0, .val false [.row 2], vint .i64 a2] [.box 93 [.u (ul PanCall.c 12 t0_0 a0.calls), .row 1], .smap a0.tried, .row 4 a1.length 1 (gl cBool a1)] (vbool r.1) [.box 93 [.u (ul PanCall.c 12 t0_0 r.2.1.calls), .row 1], .smap r.2.1.tried, .row 4 r.2.2.length 1 (gl cBool r.2.2)] := by
  refine Con.of_Dz tabOk Tryd.func66 rfl rfl rfl ?_
  delta i_search_next at hF
  refine Dz.seq ?_
  refine Dz.reg ?_
  refine Dz.seq ?_
  refine Dz.seq ?_
  refine Dz.reg ?_
  refine vix hF (fun _ _ hF => ?_)
  refine Dz.ite rfl hF (fun _ hF => ?_) (fun _ hF => ?_)
  · refine Dz.seq ?_
    refine Dz.reg ?_
    refine Dz.ret ?_
    cases hF
    exact finG [] [0, 1, 2] rfl rfl (m_val rfl) ⟨⟨rfl, ⟨rfl, LeU.refl _, rfl, trivial⟩⟩, ⟨rfl, rfl⟩, ⟨rfl, o_row⟩, trivial⟩ rfl
  · refine Dz.skip ?_
    refine Dz.seq ?_
    refine Dz.seq ?_
    refine Dz.reg ?_
    intro hb1; replace hb1 : a0.calls.length ≤ 140737488355328 := hb1
    refine Dz.blk ?_
    refine Dz.cnt hF (fun i2 v5 => ([(0, .ptr 0 0), (1, .val false [.row 2]), (2, vint .i64 a2), (16, .val false [.u (ul PanCall.c 12 t0_0 a0.calls)]), (17, vint .i64 ((a0.calls.length : Nat) : Int)), (18, vint .i64 ((i2 : Nat) : Int))], [.box 93 [.u (ul PanCall.c 12 t0_0 a0.calls), .row 1], .smap a0.tried, .row 4 a1.length 1 (gl cBool a1)])) (entG [0, 1, 2] ⟨m_ptr rfl, ⟨rfl, rfl, trivial⟩, m_val rfl, m_val rfl, m_val rfl, m_val rfl, trivial⟩ ⟨⟨rfl, ⟨rfl, LeU.refl _, rfl, trivial⟩⟩, ⟨rfl, rfl⟩, ⟨rfl, o_row⟩, trivial⟩ rfl) (fun v5 hF => ?_) (fun i2 v5 κ6 hi0i2 hi1i2 hF => ?_)
    · refine Dz.seq ?_
      refine Dz.reg ?_
      refine Dz.seq ?_
      refine Dz.ff (b := decide (((0 + a0.calls.length : Nat) : Int) < ((a0.calls.length : Nat) : Int))) rfl (decide_eq_false (by omega)) ?_
      refine Dz.exit ?_
      refine Dz.seq ?_
      refine Dz.reg ?_
      refine Dz.ret ?_
      cases hF
      exact finG [] [0, 1, 2] rfl rfl (m_val rfl) ⟨⟨rfl, ⟨rfl, LeU.refl _, rfl, trivial⟩⟩, ⟨rfl, rfl⟩, ⟨rfl, o_row⟩, trivial⟩ rfl
    · refine Dz.seq ?_
      refine Dz.reg ?_
      refine Dz.seq ?_
      refine Dz.tt (b := decide (((i2 : Nat) : Int) < ((a0.calls.length : Nat) : Int))) rfl (decide_eq_true (by omega)) ?_
      refine Dz.skip ?_
      refine Dz.seq ?_
      refine Dz.blk ?_
      refine Dz.seq ?_
      refine Dz.reg ?_
      refine vge (n := ((i2 : Nat) : Int)) (hi := (a0.calls.length : Int)) (by omega) (by omega) ?_
      have hF := ltE hF
      refine Dz.seq ?_
      refine Dz.drw 4 [⟨[24], [], 4, 4⟩, ⟨[23], [], 4, 4⟩, ⟨[], [], 4, 4⟩, ⟨[], [], 4, 4⟩, ⟨[28], [], 4, 4⟩, ⟨[27], [], 4, 4⟩, ⟨[], [2], 4, 4⟩, ⟨[], [2], 4, 4⟩, ⟨[], [], 4, 4⟩, ⟨[], [], 4, 4⟩, ⟨[], [], 4, 4⟩, ⟨[], [], 4, 4⟩, ⟨[], [3], 4, 4⟩, ⟨[], [], 4, 4⟩, ⟨[], [], 4, 4⟩, ⟨[], [], 4, 4⟩, ⟨[41,42,43,44,45,46,47,48], [], 4, 4⟩, ⟨[41,42,43,44,45,46,47,48], [3], 4, 4⟩, ⟨[39,40,45], [], 4, 4⟩, ⟨[39,40,45], [], 4, 4⟩, ⟨[39,40,45], [], 4, 4⟩, ⟨[39,40,45], [0], 4, 4⟩, ⟨[39,40,41,42,43,44], [], 4, 4⟩, ⟨[39,40], [], 4, 4⟩, ⟨[39,40], [], 4, 4⟩, ⟨[39,40], [], 4, 4⟩, ⟨[], [], 4, 4⟩, ⟨[], [], 4, 4⟩] ⟨by kernel_rfl, by kernel_rfl, rfl⟩ ?_
      refine vif hF (fun _ hF => ?_) (fun _ hF => ?_)
      · refine vix hF (fun _ _ hF => ?_)
        refine vif hF (fun _ hF => ?_) (fun _ hF => ?_)
        · refine vif hF (fun _ hF => ?_) (fun _ hF => ?_)
          · refine vix hF (fun _ _ hF => ?_)
            refine Dz.ite rfl hF (fun _ hF => ?_) (fun _ hF => ?_)
            · refine Dz.seq ?_
              refine Dz.reg ?_
              refine Dz.ret ?_
              cases hF
              exact finG [] [0, 1, 2] rfl rfl (m_val rfl) ⟨⟨rfl, ⟨rfl, LeU.refl _, rfl, trivial⟩⟩, ⟨rfl, rfl⟩, ⟨rfl, o_row⟩, trivial⟩ rfl
            · refine Dz.skip ?_
              refine Dz.reg ?_
              refine vsucc (by omega) ?_
              exact ⟨(), entG [0, 1, 2] ⟨m_ptr rfl, ⟨rfl, rfl, trivial⟩, m_val rfl, m_val rfl, m_val rfl, m_val rfl, trivial⟩ ⟨⟨rfl, ⟨rfl, LeU.refl _, rfl, trivial⟩⟩, ⟨rfl, rfl⟩, ⟨rfl, o_row⟩, trivial⟩ rfl, hF⟩
          · refine Dz.ff (b := false) rfl rfl ?_
            refine Dz.skip ?_
            refine Dz.reg ?_
            refine vsucc (by omega) ?_
            exact ⟨(), entG [0, 1, 2] ⟨m_ptr rfl, ⟨rfl, rfl, trivial⟩, m_val rfl, m_val rfl, m_val rfl, m_val rfl, trivial⟩ ⟨⟨rfl, ⟨rfl, LeU.refl _, rfl, trivial⟩⟩, ⟨rfl, rfl⟩, ⟨rfl, o_row⟩, trivial⟩ rfl, hF⟩
        · refine Dz.ff (b := false) rfl rfl ?_
          refine Dz.skip ?_
          refine Dz.reg ?_
          refine vsucc (by omega) ?_
          exact ⟨(), entG [0, 1, 2] ⟨m_ptr rfl, ⟨rfl, rfl, trivial⟩, m_val rfl, m_val rfl, m_val rfl, m_val rfl, trivial⟩ ⟨⟨rfl, ⟨rfl, LeU.refl _, rfl, trivial⟩⟩, ⟨rfl, rfl⟩, ⟨rfl, o_row⟩, trivial⟩ rfl, hF⟩
      · refine Dz.ff (b := false) rfl rfl ?_
        refine Dz.skip ?_
        refine Dz.reg ?_
        refine vsucc (by omega) ?_
        exact ⟨(), entG [0, 1, 2] ⟨m_ptr rfl, ⟨rfl, rfl, trivial⟩, m_val rfl, m_val rfl, m_val rfl, m_val rfl, trivial⟩ ⟨⟨rfl, ⟨rfl, LeU.refl _, rfl, trivial⟩⟩, ⟨rfl, rfl⟩, ⟨rfl, o_row⟩, trivial⟩ rfl, hF⟩
end Go.Proofs.PanK

/-! Printed by wip/tools/walk.py. -/
namespace Go.Proofs.PanK
open Go.Vs
set_option maxRecDepth 8000
def i_diskAt (a0 : (List MapDisk)) (a1 : Int) : Option (Int) :=
  loopN (fun i2 (v4 : Unit) κ5 => lt (a0.getD i2 default) (fun x6 => cond (decide (x6.Id = a1)) (some ((i2 : Nat) : Int)) (κ5 ()))) (fun (v4 : Unit) => some (-1)) a0.length 0 ()
theorem i_diskAt_c {t0_0 : Bool} {a0 : (List MapDisk)} {a1 : Int} {r : Int} (hF : i_diskAt a0 a1 = some r) : Con Tryd.prog 91 [.val false [.u (ul MapDisk.c 7 t0_0 a0)], vint .i64 a1] [] (vint .i64 r) [] := by
  refine Con.of_Dz tabOk Tryd.func91 rfl rfl rfl ?_
  delta i_diskAt at hF
  refine Dz.seq ?_
  refine Dz.reg ?_
  refine Dz.seq ?_
  refine Dz.seq ?_
  refine Dz.reg ?_
  intro hb1; replace hb1 : a0.length ≤ 140737488355328 := hb1
  refine Dz.blk ?_
  refine Dz.cnt hF (fun i2 v4 => ([(1, vint .i64 a1), (7, .val false [.u (ul MapDisk.c 7 t0_0 a0)]), (8, vint .i64 ((a0.length : Nat) : Int)), (9, vint .i64 ((i2 : Nat) : Int))], [])) (entG [] ⟨m_val rfl, m_val rfl, m_val rfl, m_val rfl, trivial⟩ trivial rfl) (fun v4 hF => ?_) (fun i2 v4 κ5 hi0i2 hi1i2 hF => ?_)
  · refine Dz.seq ?_
    refine Dz.reg ?_
    refine Dz.seq ?_
    refine Dz.ff (b := decide (((0 + a0.length : Nat) : Int) < ((a0.length : Nat) : Int))) rfl (decide_eq_false (by omega)) ?_
    refine Dz.exit ?_
    refine Dz.seq ?_
    refine Dz.reg ?_
    refine Dz.ret ?_
    cases hF
    exact finG [] [] rfl rfl (m_val rfl) trivial rfl
  · refine Dz.seq ?_
    refine Dz.reg ?_
    refine Dz.seq ?_
    refine Dz.tt (b := decide (((i2 : Nat) : Int) < ((a0.length : Nat) : Int))) rfl (decide_eq_true (by omega)) ?_
    refine Dz.skip ?_
    refine Dz.seq ?_
    refine Dz.blk ?_
    refine Dz.seq ?_
    refine Dz.reg ?_
    refine vge (n := ((i2 : Nat) : Int)) (hi := (a0.length : Int)) (by omega) (by omega) ?_
    have hF := ltE hF
    refine Dz.seq ?_
    refine Dz.reg ?_
    refine Dz.ite rfl hF (fun _ hF => ?_) (fun _ hF => ?_)
    · refine Dz.seq ?_
      refine Dz.reg ?_
      refine Dz.ret ?_
      cases hF
      exact finG [] [] rfl rfl (m_val rfl) trivial rfl
    · refine Dz.skip ?_
      refine Dz.reg ?_
      refine vsucc (by omega) ?_
      exact ⟨(), entG [] ⟨m_val rfl, m_val rfl, m_val rfl, m_val rfl, trivial⟩ trivial rfl, hF⟩
end Go.Proofs.PanK

/-! Printed by wip/tools/walk.py. -/
namespace Go.Proofs.PanK
open Go.Vs
set_option maxRecDepth 8000
def i_judge (a0 : (List MapDisk)) (a1 : Int) (a2 : Int) (a3 : Int) (a4 : Bool) : Option (Int) :=
  (i_diskAt a0 a1).bind (fun y1 => cond (decide (y1 < 0)) (some 1) (ix a0 y1 (fun x2 => (i_in a2 0 (w64 (x2.Size - 1))).bind (fun y3 => cond (!y3) (some 2) (cond (!a4) (cond (!decide (a3 = 0)) (ix a0 y1 (fun x4 => (i_in a3 1 (w64 (x4.Epoch - 1))).bind (fun y5 => cond (!y5) (some 3) (some 0)))) (some 0)) (some 0))))))
theorem i_judge_c {t0_0 : Bool} {a0 : (List MapDisk)} {a1 : Int} {a2 : Int} {a3 : Int} {a4 : Bool} {r : Int} (hF : i_judge a0 a1 a2 a3 a4 = some r) : Con Tryd.prog 109 [.val false [.u (ul MapDisk.c 7 t0_0 a0)], vint .i64 a1, vint .i64 a2, vint .i64 a3, vbool a4] [] (vint .i64 r) [] := by
  refine Con.of_Dz tabOk Tryd.func109 rfl rfl rfl ?_
  delta i_judge at hF
  refine Dz.seq ?_
  refine Dz.reg ?_
  refine Dz.seq ?_
  refine Dz.reg ?_
  refine bdE hF (fun y1 hy1 hF => ?_)
  refine callG [] (i_diskAt_c hy1) ⟨m_val rfl, m_val rfl, trivial⟩ trivial rfl ?_
  refine Dz.seq ?_
  refine Dz.blk ?_
  refine Dz.seq ?_
  refine Dz.reg ?_
  refine Dz.ite rfl hF (fun _ hF => ?_) (fun _ hF => ?_)
  · refine Dz.seq ?_
    refine Dz.reg ?_
    refine Dz.ret ?_
    cases hF
    exact finG [] [] rfl rfl (m_val rfl) trivial rfl
  · refine Dz.seq ?_
    refine Dz.reg ?_
    refine vix hF (fun _ _ hF => ?_)
    refine vw64 ?_
    refine bdE hF (fun y3 hy3 hF => ?_)
    refine callG [] (i_in_c hy3) ⟨m_val rfl, m_val rfl, m_val rfl, trivial⟩ trivial rfl ?_
    refine Dz.ite rfl hF (fun _ hF => ?_) (fun _ hF => ?_)
    · refine Dz.seq ?_
      refine Dz.reg ?_
      refine Dz.ret ?_
      cases hF
      exact finG [] [] rfl rfl (m_val rfl) trivial rfl
    · refine Dz.seq ?_
      refine Dz.reg ?_
      refine vif hF (fun _ hF => ?_) (fun _ hF => ?_)
      · refine vif hF (fun _ hF => ?_) (fun _ hF => ?_)
        · refine vix hF (fun _ _ hF => ?_)
          refine vw64 ?_
          refine bdE hF (fun y5 hy5 hF => ?_)
          refine callG [] (i_in_c hy5) ⟨m_val rfl, m_val rfl, m_val rfl, trivial⟩ trivial rfl ?_
          refine Dz.ent (x := ([(28, vbool (!y5))], [])) (entG [] ⟨m_val rfl, trivial⟩ trivial rfl) ?_
          refine Dz.ite rfl hF (fun _ hF => ?_) (fun _ hF => ?_)
          · refine Dz.seq ?_
            refine Dz.reg ?_
            refine Dz.ret ?_
            cases hF
            exact finG [] [] rfl rfl (m_val rfl) trivial rfl
          · refine Dz.skip ?_
            refine Dz.seq ?_
            refine Dz.reg ?_
            refine Dz.ret ?_
            cases hF
            exact finG [] [] rfl rfl (m_val rfl) trivial rfl
        · refine Dz.ff (b := false) rfl rfl ?_
          refine Dz.skip ?_
          refine Dz.seq ?_
          refine Dz.reg ?_
          refine Dz.ret ?_
          cases hF
          exact finG [] [] rfl rfl (m_val rfl) trivial rfl
      · refine Dz.ff (b := false) rfl rfl ?_
        refine Dz.skip ?_
        refine Dz.seq ?_
        refine Dz.reg ?_
        refine Dz.ret ?_
        cases hF
        exact finG [] [] rfl rfl (m_val rfl) trivial rfl
end Go.Proofs.PanK

/-! Printed by wip/tools/walk.py. -/
namespace Go.Proofs.PanK
open Go.Vs
set_option maxRecDepth 8000
def i_copied_BlkPiece (a0 : (List BlkPiece)) : Option ((List BlkPiece)) :=
  cond (decide (((a0.length : Nat) : Int) = 0)) (some ([] : List BlkPiece)) (ck (0 ≤ ((a0.length : Nat) : Int) ∧ ((a0.length : Nat) : Int) * 32 ≤ 140737488355328) (some (cpy (List.replicate a0.length (({ Disk := 0, Block := 0, Epoch := 0, Data := 0 } : BlkPiece) : BlkPiece)) a0)))
theorem i_copied_BlkPiece_c {t0_0 : Bool} {a0 : (List BlkPiece)} {r : (List BlkPiece)} (hF : i_copied_BlkPiece a0 = some r) : Con Tryd.prog 94 [.val false [.u (ul BlkPiece.c 4 t0_0 a0)]] [] (.val false [.row 0]) [.row 123 r.length 4 (gl BlkPiece.c r)] := by
  refine Con.of_Dz tabOk Tryd.func94 rfl rfl rfl ?_
  delta i_copied_BlkPiece at hF
  refine Dz.seq ?_
  refine Dz.reg ?_
  refine Dz.seq ?_
  refine Dz.seq ?_
  refine Dz.reg ?_
  intro hb1; replace hb1 : a0.length ≤ 140737488355328 := hb1
  refine Dz.ite rfl hF (fun _ hF => ?_) (fun _ hF => ?_)
  · refine Dz.seq ?_
    refine Dz.reg ?_
    refine Dz.ret ?_
    cases hF
    exact finG [.slot 2 123 4] [0] rfl rfl (⟨rfl, rfl, trivial⟩) ⟨⟨rfl, o_rowE (by simp <;> omega) EqG.nilr⟩, trivial⟩ rfl
  · refine Dz.skip ?_
    refine Dz.seq ?_
    refine Dz.reg ?_
    intro hb2; replace hb2 : a0.length ≤ 140737488355328 := hb2
    refine vck hF (fun h => ⟨rfl, h⟩) (fun hk hF => ?_)
    refine Dz.row 0 (List.replicate a0.length (({ Disk := 0, Block := 0, Epoch := 0, Data := 0 } : BlkPiece) : BlkPiece)).length (gl BlkPiece.c (List.replicate a0.length (({ Disk := 0, Block := 0, Epoch := 0, Data := 0 } : BlkPiece) : BlkPiece))) rfl (by simp <;> omega) (EqG.rep' (c := BlkPiece.c) (sz := 4) _ ⟨LeU.refl _, LeU.refl _, LeU.refl _, LeU.refl _, trivial⟩) ?_
    refine Dz.seq ?_
    refine Dz.reg ?_
    refine Dz.row 0 (cpy (List.replicate a0.length (({ Disk := 0, Block := 0, Epoch := 0, Data := 0 } : BlkPiece) : BlkPiece)) a0).length (gl BlkPiece.c (cpy (List.replicate a0.length (({ Disk := 0, Block := 0, Epoch := 0, Data := 0 } : BlkPiece) : BlkPiece)) a0)) rfl (by simp <;> omega) (EqG.cpy rfl rfl (EqG.refl _ _ _) (EqG.refl _ _ _)) ?_
    refine Dz.seq ?_
    refine Dz.reg ?_
    refine Dz.ret ?_
    cases hF
    exact finG [] [0] rfl rfl (⟨rfl, rfl, trivial⟩) ⟨⟨rfl, o_row⟩, trivial⟩ rfl
end Go.Proofs.PanK

/-! Printed by wip/tools/walk.py. -/
namespace Go.Proofs.PanK
open Go.Vs
set_option maxRecDepth 8000
def i_pieceWay (a0 : BlkPiece) (a1 : BlkPiece) : Option (Int) :=
  loopN (fun i1 (v3 : Unit) κ4 => ix ([({ e0 := a0.Disk, e1 := a1.Disk } : Arr2), ({ e0 := a0.Block, e1 := a1.Block } : Arr2), ({ e0 := a0.Epoch, e1 := a1.Epoch } : Arr2)] : List Arr2) ((i1 : Nat) : Int) (fun _ => lt (([({ e0 := a0.Disk, e1 := a1.Disk } : Arr2), ({ e0 := a0.Block, e1 := a1.Block } : Arr2), ({ e0 := a0.Epoch, e1 := a1.Epoch } : Arr2)] : List Arr2).getD i1 default) (fun x5 => cond (decide (x5.e0 < x5.e1)) (some (-1)) (cond (decide (x5.e1 < x5.e0)) (some 1) (κ4 ()))))) (fun (v3 : Unit) => some 0) 3 0 ()
theorem i_pieceWay_c {a0 : BlkPiece} {a1 : BlkPiece} {r : Int} (hF : i_pieceWay a0 a1 = some r) : Con Tryd.prog 122 [.val true (BlkPiece.L a0), .val true (BlkPiece.L a1)] [] (vint .i64 r) [] := by
  refine Con.of_Dz tabOk Tryd.func122 rfl rfl rfl ?_
  delta i_pieceWay at hF
  refine Dz.seq ?_
  refine Dz.reg ?_
  refine Dz.seq ?_
  refine Dz.seq ?_
  refine Dz.reg ?_
  intro _
  refine Dz.row 2 ([({ e0 := a0.Disk, e1 := a1.Disk } : Arr2), ({ e0 := a0.Block, e1 := a1.Block } : Arr2), ({ e0 := a0.Epoch, e1 := a1.Epoch } : Arr2)] : List Arr2).length (gl Arr2.c ([({ e0 := a0.Disk, e1 := a1.Disk } : Arr2), ({ e0 := a0.Block, e1 := a1.Block } : Arr2), ({ e0 := a0.Epoch, e1 := a1.Epoch } : Arr2)] : List Arr2)) rfl (by simp <;> omega) (EqG.lit (c := Arr2.c) (sz := 2) (L := ([({ e0 := a0.Disk, e1 := a1.Disk } : Arr2), ({ e0 := a0.Block, e1 := a1.Block } : Arr2), ({ e0 := a0.Epoch, e1 := a1.Epoch } : Arr2)] : List Arr2)) ⟨LeU.refl _, LeU.refl _, LeU.refl _, LeU.refl _, LeU.refl _, LeU.refl _, trivial⟩) ?_
  refine Dz.blk ?_
  refine Dz.cnt hF (fun i1 v3 => ([(22, .val false [.row 0]), (23, vint .i64 3), (24, vint .i64 ((i1 : Nat) : Int))], [.row 171 (([({ e0 := a0.Disk, e1 := a1.Disk } : Arr2), ({ e0 := a0.Block, e1 := a1.Block } : Arr2), ({ e0 := a0.Epoch, e1 := a1.Epoch } : Arr2)] : List Arr2).length) 2 (gl Arr2.c ([({ e0 := a0.Disk, e1 := a1.Disk } : Arr2), ({ e0 := a0.Block, e1 := a1.Block } : Arr2), ({ e0 := a0.Epoch, e1 := a1.Epoch } : Arr2)] : List Arr2))])) (entG [2] ⟨⟨rfl, rfl, trivial⟩, m_val rfl, m_val rfl, trivial⟩ ⟨⟨rfl, o_row⟩, trivial⟩ rfl) (fun v3 hF => ?_) (fun i1 v3 κ4 hi0i1 hi1i1 hF => ?_)
  · refine Dz.seq ?_
    refine Dz.reg ?_
    refine Dz.seq ?_
    refine Dz.ff (b := decide (((0 + 3 : Nat) : Int) < 3)) rfl (decide_eq_false (by omega)) ?_
    refine Dz.exit ?_
    refine Dz.seq ?_
    refine Dz.reg ?_
    refine Dz.ret ?_
    cases hF
    exact finG [] [] rfl rfl (m_val rfl) trivial rfl
  · refine Dz.seq ?_
    refine Dz.reg ?_
    refine Dz.seq ?_
    refine Dz.tt (b := decide (((i1 : Nat) : Int) < 3)) rfl (decide_eq_true (by omega)) ?_
    refine Dz.skip ?_
    refine Dz.seq ?_
    refine Dz.blk ?_
    refine Dz.seq ?_
    refine Dz.reg ?_
    refine vix hF (fun _ _ hF => ?_)
    have hF := ltE hF
    refine Dz.seq ?_
    refine Dz.seq ?_
    refine Dz.reg ?_
    refine vge (by decide) (by decide) ?_
    refine vge (by decide) (by decide) ?_
    refine Dz.ite rfl hF (fun _ hF => ?_) (fun _ hF => ?_)
    · refine Dz.seq ?_
      refine Dz.reg ?_
      refine Dz.ret ?_
      cases hF
      exact finG [] [] rfl rfl (m_val rfl) trivial rfl
    · refine Dz.skip ?_
      refine Dz.seq ?_
      refine Dz.reg ?_
      refine vge (by decide) (by decide) ?_
      refine vge (by decide) (by decide) ?_
      refine Dz.ite rfl hF (fun _ hF => ?_) (fun _ hF => ?_)
      · refine Dz.seq ?_
        refine Dz.reg ?_
        refine Dz.ret ?_
        cases hF
        exact finG [] [] rfl rfl (m_val rfl) trivial rfl
      · refine Dz.skip ?_
        refine Dz.reg ?_
        refine vsucc (by omega) ?_
        exact ⟨(), entG [0] ⟨⟨rfl, rfl, trivial⟩, m_val rfl, m_val rfl, trivial⟩ ⟨⟨rfl, o_row⟩, trivial⟩ rfl, hF⟩
end Go.Proofs.PanK

/-! Printed by wip/tools/walk.py. -/
namespace Go.Proofs.PanK
open Go.Vs
set_option maxRecDepth 8000
def i_BlkOk (a0 : (List BlkPiece)) : Option (Bool) :=
  loopN (fun i2 (v10 : Unit) κ11 => lt (a0.getD i2 default) (fun x12 => (i_in x12.Disk 1 99999).bind (fun y13 => cond (!y13) (some false) ((i_in x12.Epoch 1 99999).bind (fun y14 => cond (!y14) (some false) ((i_in x12.Block 0 99999).bind (fun y15 => cond (!y15) (some false) ((i_in x12.Data 0 99999).bind (fun y16 => cond (!y16) (some false) (cond (decide ((0 : Int) < ((i2 : Nat) : Int))) (ix a0 (((i2 : Nat) : Int) - 1) (fun x17 => (i_pieceWay x17 x12).bind (fun y18 => cond (decide ((0 : Int) ≤ y18)) (some false) (κ11 ())))) (κ11 ()))))))))))) (fun (v10 : Unit) => some (decide (((a0.length : Nat) : Int) ≤ 60))) a0.length 0 ()
theorem i_BlkOk_c {t0_0 : Bool} {a0 : (List BlkPiece)} {r : Bool} (hF : i_BlkOk a0 = some r) : Con Tryd.prog 121 [.val false [.u (ul BlkPiece.c 4 t0_0 a0)]] [] (vbool r) [] := by
  refine Con.of_Dz tabOk Tryd.func121 rfl rfl rfl ?_
  delta i_BlkOk at hF
  refine Dz.seq ?_
  refine Dz.reg ?_
  refine Dz.seq ?_
  refine Dz.seq ?_
  refine Dz.reg ?_
  intro hb1; replace hb1 : a0.length ≤ 140737488355328 := hb1
  refine Dz.blk ?_
  refine Dz.cnt hF (fun i2 v10 => ([(0, .val false [.u (ul BlkPiece.c 4 t0_0 a0)]), (5, .val false [.u (ul BlkPiece.c 4 t0_0 a0)]), (6, vint .i64 ((a0.length : Nat) : Int)), (7, vint .i64 ((i2 : Nat) : Int))], [])) (entG [] ⟨m_val rfl, m_val rfl, m_val rfl, m_val rfl, trivial⟩ trivial rfl) (fun v10 hF => ?_) (fun i2 v10 κ11 hi0i2 hi1i2 hF => ?_)
  · refine Dz.seq ?_
    refine Dz.reg ?_
    refine Dz.seq ?_
    refine Dz.ff (b := decide (((0 + a0.length : Nat) : Int) < ((a0.length : Nat) : Int))) rfl (decide_eq_false (by omega)) ?_
    refine Dz.exit ?_
    refine Dz.seq ?_
    refine Dz.reg ?_
    intro hb19; replace hb19 : a0.length ≤ 140737488355328 := hb19
    refine Dz.ret ?_
    cases hF
    exact finG [] [] rfl rfl (m_val rfl) trivial rfl
  · refine Dz.seq ?_
    refine Dz.reg ?_
    refine Dz.seq ?_
    refine Dz.tt (b := decide (((i2 : Nat) : Int) < ((a0.length : Nat) : Int))) rfl (decide_eq_true (by omega)) ?_
    refine Dz.skip ?_
    refine Dz.seq ?_
    refine Dz.blk ?_
    refine Dz.seq ?_
    refine Dz.reg ?_
    refine vge (n := ((i2 : Nat) : Int)) (hi := (a0.length : Int)) (by omega) (by omega) ?_
    have hF := ltE hF
    refine Dz.seq ?_
    refine Dz.ent (x := ([(0, .val false [.u (ul BlkPiece.c 4 t0_0 a0)]), (3, vint .i64 ((i2 : Nat) : Int)), (4, .ptr 0 0), (5, .val false [.u (ul BlkPiece.c 4 t0_0 a0)]), (6, vint .i64 ((a0.length : Nat) : Int)), (7, vint .i64 ((i2 : Nat) : Int))], [.box 123 (BlkPiece.L (a0.getD i2 default))])) (entG [0] ⟨m_val rfl, m_val rfl, m_ptr rfl, m_val rfl, m_val rfl, m_val rfl, trivial⟩ ⟨⟨rfl, o_box rfl⟩, trivial⟩ rfl) ?_
    refine Dz.drw 1 [⟨[], [], 1, 1⟩, ⟨[], [0], 1, 1⟩, ⟨[], [], 1, 1⟩, ⟨[], [], 1, 1⟩, ⟨[], [], 1, 1⟩, ⟨[], [], 1, 1⟩, ⟨[], [0], 1, 1⟩, ⟨[], [], 1, 1⟩, ⟨[], [], 1, 1⟩, ⟨[], [], 1, 1⟩, ⟨[], [], 1, 1⟩, ⟨[], [], 1, 1⟩, ⟨[], [0], 1, 1⟩, ⟨[], [], 1, 1⟩, ⟨[], [], 1, 1⟩, ⟨[], [], 1, 1⟩, ⟨[], [], 1, 1⟩, ⟨[], [], 1, 1⟩, ⟨[], [0], 1, 1⟩, ⟨[], [], 1, 1⟩, ⟨[], [], 1, 1⟩, ⟨[], [], 1, 1⟩, ⟨[], [], 1, 1⟩, ⟨[], [], 1, 1⟩, ⟨[], [], 1, 1⟩, ⟨[], [], 1, 1⟩, ⟨[39,40,43], [], 1, 1⟩, ⟨[38,43], [], 1, 1⟩, ⟨[38,43], [], 1, 1⟩, ⟨[43], [], 1, 1⟩, ⟨[43], [], 1, 1⟩, ⟨[38,39,40,41,42], [0], 1, 1⟩, ⟨[], [], 1, 1⟩, ⟨[], [], 1, 1⟩, ⟨[], [], 1, 1⟩, ⟨[], [], 1, 1⟩] ⟨by kernel_rfl, by kernel_rfl, rfl⟩ ?_
    refine bdE hF (fun y13 hy13 hF => ?_)
    refine callG [] (i_in_c hy13) ⟨m_val rfl, m_val rfl, m_val rfl, trivial⟩ trivial rfl ?_
    refine vif hF (fun _ hF => ?_) (fun _ hF => ?_)
    · refine Dz.tt (b := true) rfl rfl ?_
      refine Dz.seq ?_
      refine Dz.reg ?_
      refine Dz.ret ?_
      cases hF
      exact finG [] [] rfl rfl (m_val rfl) trivial rfl
    · refine bdE hF (fun y14 hy14 hF => ?_)
      refine callG [] (i_in_c hy14) ⟨m_val rfl, m_val rfl, m_val rfl, trivial⟩ trivial rfl ?_
      refine vif hF (fun _ hF => ?_) (fun _ hF => ?_)
      · refine Dz.tt (b := true) rfl rfl ?_
        refine Dz.seq ?_
        refine Dz.reg ?_
        refine Dz.ret ?_
        cases hF
        exact finG [] [] rfl rfl (m_val rfl) trivial rfl
      · refine bdE hF (fun y15 hy15 hF => ?_)
        refine callG [] (i_in_c hy15) ⟨m_val rfl, m_val rfl, m_val rfl, trivial⟩ trivial rfl ?_
        refine vif hF (fun _ hF => ?_) (fun _ hF => ?_)
        · refine Dz.tt (b := true) rfl rfl ?_
          refine Dz.seq ?_
          refine Dz.reg ?_
          refine Dz.ret ?_
          cases hF
          exact finG [] [] rfl rfl (m_val rfl) trivial rfl
        · refine bdE hF (fun y16 hy16 hF => ?_)
          refine callG [] (i_in_c hy16) ⟨m_val rfl, m_val rfl, m_val rfl, trivial⟩ trivial rfl ?_
          refine vif hF (fun _ hF => ?_) (fun _ hF => ?_)
          · refine Dz.tt (b := true) rfl rfl ?_
            refine Dz.seq ?_
            refine Dz.reg ?_
            refine Dz.ret ?_
            cases hF
            exact finG [] [] rfl rfl (m_val rfl) trivial rfl
          · refine vif hF (fun _ hF => ?_) (fun _ hF => ?_)
            · refine ⟨(((i2 : Nat) : Int) - 1), wrap64 (by omega) (by omega), ?_⟩
              refine vix hF (fun _ _ hF => ?_)
              refine bdE hF (fun y18 hy18 hF => ?_)
              refine callG [] (i_pieceWay_c hy18) ⟨m_val rfl, m_val rfl, trivial⟩ trivial rfl ?_
              refine Dz.ent (x := ([(0, .val false [.u (ul BlkPiece.c 4 t0_0 a0)]), (5, .val false [.u (ul BlkPiece.c 4 t0_0 a0)]), (6, vint .i64 ((a0.length : Nat) : Int)), (7, vint .i64 ((i2 : Nat) : Int)), (17, .ptr 0 2), (18, vint .i64 ((a0.getD i2 default).Epoch)), (19, vbool y14), (20, vbool (!y14)), (23, .ptr 0 1), (24, vint .i64 ((a0.getD i2 default).Block)), (25, vbool y15), (26, vbool (!y15)), (29, .ptr 0 3), (30, vint .i64 ((a0.getD i2 default).Data)), (31, vbool y16), (32, vbool (!y16)), (35, vint .i64 ((i2 : Nat) : Int)), (36, vbool (decide ((0 : Int) < ((i2 : Nat) : Int)))), (37, vbool true), (38, .val false [.u (ul BlkPiece.c 4 t0_0 a0)]), (39, vint .i64 ((i2 : Nat) : Int)), (40, vint .i64 (((i2 : Nat) : Int) - 1)), (42, .val true (BlkPiece.L (a0.getD (((i2 : Nat) : Int) - 1).toNat default))), (43, .val true (BlkPiece.L (a0.getD i2 default))), (44, vint .i64 y18), (45, vbool (decide ((0 : Int) ≤ y18))), (46, vbool (decide ((0 : Int) ≤ y18))), (47, vbool (decide ((0 : Int) ≤ y18)))], [.box 123 (BlkPiece.L (a0.getD i2 default))])) (entG [0] ⟨m_val rfl, m_val rfl, m_val rfl, m_val rfl, m_ptr rfl, m_val rfl, m_val rfl, m_val rfl, m_ptr rfl, m_val rfl, m_val rfl, m_val rfl, m_ptr rfl, m_val rfl, m_val rfl, m_val rfl, m_val rfl, m_val rfl, m_val rfl, m_val rfl, m_val rfl, m_val rfl, m_val rfl, m_val rfl, m_val rfl, m_val rfl, m_val rfl, m_val rfl, trivial⟩ ⟨⟨rfl, o_box rfl⟩, trivial⟩ rfl) ?_
              refine Dz.ite rfl hF (fun _ hF => ?_) (fun _ hF => ?_)
              · refine Dz.seq ?_
                refine Dz.reg ?_
                refine Dz.ret ?_
                cases hF
                exact finG [] [] rfl rfl (m_val rfl) trivial rfl
              · refine Dz.skip ?_
                refine Dz.reg ?_
                refine vsucc (by omega) ?_
                exact ⟨(), entG [] ⟨m_val rfl, m_val rfl, m_val rfl, m_val rfl, trivial⟩ trivial rfl, hF⟩
            · refine Dz.ff (b := false) rfl rfl ?_
              refine Dz.skip ?_
              refine Dz.reg ?_
              refine vsucc (by omega) ?_
              exact ⟨(), entG [] ⟨m_val rfl, m_val rfl, m_val rfl, m_val rfl, trivial⟩ trivial rfl, hF⟩
end Go.Proofs.PanK

/-! Printed by wip/tools/walk.py. -/
namespace Go.Proofs.PanK
open Go.Vs
set_option maxRecDepth 8000
def i_BlkPut (a0 : (List BlkPiece)) (a1 : Int) (a2 : Int) (a3 : Int) (a4 : Int) : Option ((List BlkPiece) × Bool) :=
  (i_BlkOk a0).bind (fun y1 => cond (!y1) (some (([] : List BlkPiece), false)) (loopN (fun i3 (v16 : Bool × List BlkPiece) κ17 => lt (a0.getD i3 default) (fun x18 => (i_pieceWay ({ Disk := a1, Block := a2, Epoch := a3, Data := a4 } : BlkPiece) x18).bind (fun y19 => jn (fun (v22 : Bool × List BlkPiece) => cond (!decide (y19 = 0)) (ck ((v22.2.length + 1) * 32 ≤ 140737488355328) (κ17 (v22.1, (v22.2 ++ ([x18] : List BlkPiece))))) (κ17 (v22.1, v22.2))) (fun j23 => cond (decide (y19 ≤ 0)) (cond (!v16.1) (ck ((v16.2.length + 1) * 32 ≤ 140737488355328) (j23 (true, (v16.2 ++ ([({ Disk := a1, Block := a2, Epoch := a3, Data := a4 } : BlkPiece)] : List BlkPiece))))) (j23 (v16.1, v16.2))) (j23 (v16.1, v16.2)))))) (fun (v16 : Bool × List BlkPiece) => cond (!v16.1) (ck ((v16.2.length + 1) * 32 ≤ 140737488355328) ((i_BlkOk (v16.2 ++ ([({ Disk := a1, Block := a2, Epoch := a3, Data := a4 } : BlkPiece)] : List BlkPiece))).bind (fun y24 => cond (!y24) ((i_copied_BlkPiece a0).bind (fun y25 => some (y25, false))) ((i_copied_BlkPiece (v16.2 ++ ([({ Disk := a1, Block := a2, Epoch := a3, Data := a4 } : BlkPiece)] : List BlkPiece))).bind (fun y26 => some (y26, true)))))) ((i_BlkOk v16.2).bind (fun y27 => cond (!y27) ((i_copied_BlkPiece a0).bind (fun y28 => some (y28, false))) ((i_copied_BlkPiece v16.2).bind (fun y29 => some (y29, true)))))) a0.length 0 (false, ([] : List BlkPiece))))
theorem i_BlkPut_c {t0_0 : Bool} {a0 : (List BlkPiece)} {a1 : Int} {a2 : Int} {a3 : Int} {a4 : Int} {r : (List BlkPiece) × Bool} (hF : i_BlkPut a0 a1 a2 a3 a4 = some r) : Con Tryd.prog 110 [.val false [.u (ul BlkPiece.c 4 t0_0 a0)], vint .i64 a1, vint .i64 a2, vint .i64 a3, vint .i64 a4] [] (.tup [(false, [.row 0]), (false, [.u (.bool r.2)])]) [.row 123 r.1.length 4 (gl BlkPiece.c r.1)] := by
  refine Con.of_Dz tabOk Tryd.func110 rfl rfl rfl ?_
  delta i_BlkPut at hF
  refine Dz.seq ?_
  refine Dz.reg ?_
  refine Dz.seq ?_
  refine Dz.seq ?_
  refine Dz.reg ?_
  refine bdE hF (fun y1 hy1 hF => ?_)
  refine callG [] (i_BlkOk_c hy1) ⟨m_val rfl, trivial⟩ trivial rfl ?_
  refine Dz.ite rfl hF (fun _ hF => ?_) (fun _ hF => ?_)
  · refine Dz.seq ?_
    refine Dz.reg ?_
    refine Dz.ret ?_
    cases hF
    exact finG [.slot 10 123 4] [0] rfl rfl ⟨⟨rfl, ⟨rfl, trivial⟩⟩, ⟨rfl, mls_same rfl⟩, trivial⟩ ⟨⟨rfl, o_rowE (by simp <;> omega) EqG.nilr⟩, trivial⟩ rfl
  · refine Dz.skip ?_
    refine Dz.seq ?_
    refine Dz.reg ?_
    refine Dz.seq ?_
    refine Dz.reg ?_
    refine Dz.seq ?_
    refine Dz.reg ?_
    refine Dz.seq ?_
    refine Dz.seq ?_
    refine Dz.reg ?_
    intro hb2; replace hb2 : a0.length ≤ 140737488355328 := hb2
    refine Dz.blk ?_
    refine Dz.cnt hF (fun i3 v16 => ([(0, .val false [.u (ul BlkPiece.c 4 t0_0 a0)]), (12, .ptr 0 0), (13, .val false [.row 1]), (14, vbool v16.1), (26, .val false [.u (ul BlkPiece.c 4 t0_0 a0)]), (27, vint .i64 ((a0.length : Nat) : Int)), (28, vint .i64 ((i3 : Nat) : Int))], [.box 123 [.u (cI a1), .u (cI a2), .u (cI a3), .u (cI a4)], .row 123 v16.2.length 4 (gl BlkPiece.c v16.2)])) (entF [.slot 13 123 4] [0, 1] rfl ⟨m_val rfl, m_ptr rfl, ⟨rfl, rfl, trivial⟩, m_val rfl, m_val rfl, m_val rfl, m_val rfl, trivial⟩ ⟨⟨rfl, o_box rfl⟩, ⟨rfl, o_rowE (by simp <;> omega) EqG.nilr⟩, trivial⟩ rfl) (fun v16 hF => ?_) (fun i3 v16 κ17 hi0i3 hi1i3 hF => ?_)
    · refine Dz.seq ?_
      refine Dz.reg ?_
      refine Dz.seq ?_
      refine Dz.ff (b := decide (((0 + a0.length : Nat) : Int) < ((a0.length : Nat) : Int))) rfl (decide_eq_false (by omega)) ?_
      refine Dz.exit ?_
      refine Dz.seq ?_
      refine Dz.seq ?_
      refine Dz.reg ?_
      refine Dz.ite rfl hF (fun _ hF => ?_) (fun _ hF => ?_)
      · refine Dz.reg ?_
        refine vck hF id (fun _ hF => ?_)
        refine Dz.row 2 ([({ Disk := a1, Block := a2, Epoch := a3, Data := a4 } : BlkPiece)] : List BlkPiece).length (gl BlkPiece.c ([({ Disk := a1, Block := a2, Epoch := a3, Data := a4 } : BlkPiece)] : List BlkPiece)) rfl (by simp <;> omega) (EqG.lit (c := BlkPiece.c) (sz := 4) (L := ([({ Disk := a1, Block := a2, Epoch := a3, Data := a4 } : BlkPiece)] : List BlkPiece)) ⟨LeU.refl _, LeU.refl _, LeU.refl _, LeU.refl _, trivial⟩) ?_
        refine Dz.row 3 (v16.2 ++ ([({ Disk := a1, Block := a2, Epoch := a3, Data := a4 } : BlkPiece)] : List BlkPiece)).length (gl BlkPiece.c (v16.2 ++ ([({ Disk := a1, Block := a2, Epoch := a3, Data := a4 } : BlkPiece)] : List BlkPiece))) rfl (by simp <;> omega) (EqG.app rfl (by simp <;> omega) (EqG.refl _ _ _) (EqG.lit (c := BlkPiece.c) (sz := 4) (L := ([({ Disk := a1, Block := a2, Epoch := a3, Data := a4 } : BlkPiece)] : List BlkPiece)) ⟨LeU.refl _, LeU.refl _, LeU.refl _, LeU.refl _, trivial⟩)) ?_
        refine Dz.seq ?_
        refine Dz.seq ?_
        refine Dz.reg ?_
        refine bdE hF (fun y24 hy24 hF => ?_)
        refine callL [] (i_BlkOk_c hy24) ⟨⟨rfl, ⟨rfl, rfl, LeU.refl _⟩, trivial⟩, trivial⟩ trivial rfl ⟨⟨trivial, trivial⟩, trivial⟩ ?_
        refine Dz.ite rfl hF (fun _ hF => ?_) (fun _ hF => ?_)
        · refine Dz.seq ?_
          refine Dz.reg ?_
          refine bdE hF (fun y25 hy25 hF => ?_)
          refine callG [] (i_copied_BlkPiece_c hy25) ⟨m_val rfl, trivial⟩ trivial rfl ?_
          refine Dz.ret ?_
          cases hF
          exact finG [] [4] rfl rfl ⟨⟨rfl, ⟨rfl, trivial⟩⟩, ⟨rfl, mls_same rfl⟩, trivial⟩ ⟨⟨rfl, o_row⟩, trivial⟩ rfl
        · refine Dz.skip ?_
          refine Dz.seq ?_
          refine Dz.reg ?_
          refine bdE hF (fun y26 hy26 hF => ?_)
          refine callL [] (i_copied_BlkPiece_c hy26) ⟨⟨rfl, ⟨rfl, rfl, LeU.refl _⟩, trivial⟩, trivial⟩ trivial rfl ⟨⟨trivial, trivial⟩, ⟨ntm_gl, trivial⟩⟩ ?_
          refine Dz.ret ?_
          cases hF
          exact finG [] [4] rfl rfl ⟨⟨rfl, ⟨rfl, trivial⟩⟩, ⟨rfl, mls_same rfl⟩, trivial⟩ ⟨⟨rfl, o_row⟩, trivial⟩ rfl
      · refine Dz.skip ?_
        refine Dz.seq ?_
        refine Dz.seq ?_
        refine Dz.reg ?_
        refine bdE hF (fun y27 hy27 hF => ?_)
        refine callL [] (i_BlkOk_c hy27) ⟨⟨rfl, ⟨rfl, rfl, LeU.refl _⟩, trivial⟩, trivial⟩ trivial rfl ⟨⟨trivial, trivial⟩, trivial⟩ ?_
        refine Dz.ite rfl hF (fun _ hF => ?_) (fun _ hF => ?_)
        · refine Dz.seq ?_
          refine Dz.reg ?_
          refine bdE hF (fun y28 hy28 hF => ?_)
          refine callG [] (i_copied_BlkPiece_c hy28) ⟨m_val rfl, trivial⟩ trivial rfl ?_
          refine Dz.ret ?_
          cases hF
          exact finG [] [2] rfl rfl ⟨⟨rfl, ⟨rfl, trivial⟩⟩, ⟨rfl, mls_same rfl⟩, trivial⟩ ⟨⟨rfl, o_row⟩, trivial⟩ rfl
        · refine Dz.skip ?_
          refine Dz.seq ?_
          refine Dz.reg ?_
          refine bdE hF (fun y29 hy29 hF => ?_)
          refine callL [] (i_copied_BlkPiece_c hy29) ⟨⟨rfl, ⟨rfl, rfl, LeU.refl _⟩, trivial⟩, trivial⟩ trivial rfl ⟨⟨trivial, trivial⟩, ⟨ntm_gl, trivial⟩⟩ ?_
          refine Dz.ret ?_
          cases hF
          exact finG [] [2] rfl rfl ⟨⟨rfl, ⟨rfl, trivial⟩⟩, ⟨rfl, mls_same rfl⟩, trivial⟩ ⟨⟨rfl, o_row⟩, trivial⟩ rfl
    · refine Dz.seq ?_
      refine Dz.reg ?_
      refine Dz.seq ?_
      refine Dz.tt (b := decide (((i3 : Nat) : Int) < ((a0.length : Nat) : Int))) rfl (decide_eq_true (by omega)) ?_
      refine Dz.skip ?_
      refine Dz.seq ?_
      refine Dz.blk ?_
      refine Dz.seq ?_
      refine Dz.reg ?_
      refine vge (n := ((i3 : Nat) : Int)) (hi := (a0.length : Int)) (by omega) (by omega) ?_
      have hF := ltE hF
      refine Dz.seq ?_
      refine Dz.reg ?_
      refine bdE hF (fun y19 hy19 hF => ?_)
      refine callG [] (i_pieceWay_c hy19) ⟨m_val rfl, m_val rfl, trivial⟩ trivial rfl ?_
      refine Dz.jn hF (fun v22 => ([(0, .val false [.u (ul BlkPiece.c 4 t0_0 a0)]), (12, .ptr 0 0), (13, .val false [.row 1]), (14, vbool v22.1), (16, .ptr 2 0), (17, vint .i64 y19), (26, .val false [.u (ul BlkPiece.c 4 t0_0 a0)]), (27, vint .i64 ((a0.length : Nat) : Int)), (28, vint .i64 ((i3 : Nat) : Int))], [.box 123 [.u (cI a1), .u (cI a2), .u (cI a3), .u (cI a4)], .row 123 v22.2.length 4 (gl BlkPiece.c v22.2), .box 123 (BlkPiece.L (a0.getD i3 default))])) (fun v22 hF => ?_) (fun hF => ?_)
      · refine Dz.seq ?_
        refine Dz.reg ?_
        refine Dz.ite rfl hF (fun _ hF => ?_) (fun _ hF => ?_)
        · refine Dz.reg ?_
          refine vck hF id (fun _ hF => ?_)
          refine Dz.row 3 ([(a0.getD i3 default)] : List BlkPiece).length (gl BlkPiece.c ([(a0.getD i3 default)] : List BlkPiece)) rfl (by simp <;> omega) (EqG.lit (c := BlkPiece.c) (sz := 4) (L := ([(a0.getD i3 default)] : List BlkPiece)) ⟨LeU.refl _, LeU.refl _, LeU.refl _, LeU.refl _, trivial⟩) ?_
          refine Dz.row 4 (v22.2 ++ ([(a0.getD i3 default)] : List BlkPiece)).length (gl BlkPiece.c (v22.2 ++ ([(a0.getD i3 default)] : List BlkPiece))) rfl (by simp <;> omega) (EqG.app rfl (by simp <;> omega) (EqG.refl _ _ _) (EqG.lit (c := BlkPiece.c) (sz := 4) (L := ([(a0.getD i3 default)] : List BlkPiece)) ⟨LeU.refl _, LeU.refl _, LeU.refl _, LeU.refl _, trivial⟩)) ?_
          refine Dz.reg ?_
          refine vsucc (by omega) ?_
          exact ⟨(v22.1, (v22.2 ++ ([(a0.getD i3 default)] : List BlkPiece))), entG [0, 4] ⟨m_val rfl, m_ptr rfl, ⟨rfl, rfl, trivial⟩, m_val rfl, m_val rfl, m_val rfl, m_val rfl, trivial⟩ ⟨⟨rfl, o_box rfl⟩, ⟨rfl, o_row⟩, trivial⟩ rfl, hF⟩
        · refine Dz.skip ?_
          refine Dz.reg ?_
          refine vsucc (by omega) ?_
          exact ⟨(v22.1, v22.2), entG [0, 1] ⟨m_val rfl, m_ptr rfl, ⟨rfl, rfl, trivial⟩, m_val rfl, m_val rfl, m_val rfl, m_val rfl, trivial⟩ ⟨⟨rfl, o_box rfl⟩, ⟨rfl, o_row⟩, trivial⟩ rfl, hF⟩
      · refine Dz.seq ?_
        refine Dz.reg ?_
        refine vif hF (fun _ hF => ?_) (fun _ hF => ?_)
        · refine Dz.ite rfl hF (fun _ hF => ?_) (fun _ hF => ?_)
          · refine Dz.seq ?_
            refine Dz.reg ?_
            refine vck hF id (fun _ hF => ?_)
            refine Dz.row 3 ([({ Disk := a1, Block := a2, Epoch := a3, Data := a4 } : BlkPiece)] : List BlkPiece).length (gl BlkPiece.c ([({ Disk := a1, Block := a2, Epoch := a3, Data := a4 } : BlkPiece)] : List BlkPiece)) rfl (by simp <;> omega) (EqG.lit (c := BlkPiece.c) (sz := 4) (L := ([({ Disk := a1, Block := a2, Epoch := a3, Data := a4 } : BlkPiece)] : List BlkPiece)) ⟨LeU.refl _, LeU.refl _, LeU.refl _, LeU.refl _, trivial⟩) ?_
            refine Dz.row 4 (v16.2 ++ ([({ Disk := a1, Block := a2, Epoch := a3, Data := a4 } : BlkPiece)] : List BlkPiece)).length (gl BlkPiece.c (v16.2 ++ ([({ Disk := a1, Block := a2, Epoch := a3, Data := a4 } : BlkPiece)] : List BlkPiece))) rfl (by simp <;> omega) (EqG.app rfl (by simp <;> omega) (EqG.refl _ _ _) (EqG.lit (c := BlkPiece.c) (sz := 4) (L := ([({ Disk := a1, Block := a2, Epoch := a3, Data := a4 } : BlkPiece)] : List BlkPiece)) ⟨LeU.refl _, LeU.refl _, LeU.refl _, LeU.refl _, trivial⟩)) ?_
            refine Dz.reg ?_
            exact ⟨(true, (v16.2 ++ ([({ Disk := a1, Block := a2, Epoch := a3, Data := a4 } : BlkPiece)] : List BlkPiece))), entG [0, 4, 2] ⟨m_val rfl, m_ptr rfl, ⟨rfl, rfl, trivial⟩, m_val rfl, m_ptr rfl, m_val rfl, m_val rfl, m_val rfl, m_val rfl, trivial⟩ ⟨⟨rfl, o_box rfl⟩, ⟨rfl, o_row⟩, ⟨rfl, o_box rfl⟩, trivial⟩ rfl, hF⟩
          · refine Dz.skip ?_
            exact ⟨(v16.1, v16.2), entG [0, 1, 2] ⟨m_val rfl, m_ptr rfl, ⟨rfl, rfl, trivial⟩, m_val rfl, m_ptr rfl, m_val rfl, m_val rfl, m_val rfl, m_val rfl, trivial⟩ ⟨⟨rfl, o_box rfl⟩, ⟨rfl, o_row⟩, ⟨rfl, o_box rfl⟩, trivial⟩ rfl, hF⟩
        · refine Dz.ff (b := false) rfl rfl ?_
          refine Dz.skip ?_
          exact ⟨(v16.1, v16.2), entG [0, 1, 2] ⟨m_val rfl, m_ptr rfl, ⟨rfl, rfl, trivial⟩, m_val rfl, m_ptr rfl, m_val rfl, m_val rfl, m_val rfl, m_val rfl, trivial⟩ ⟨⟨rfl, o_box rfl⟩, ⟨rfl, o_row⟩, ⟨rfl, o_box rfl⟩, trivial⟩ rfl, hF⟩
end Go.Proofs.PanK

/-! Printed by wip/tools/walk.py. -/
namespace Go.Proofs.PanK
open Go.Vs
set_option maxRecDepth 8000
def i_BlkGet (a0 : (List BlkPiece)) (a1 : Int) (a2 : Int) (a3 : Int) : Option (Int) :=
  (i_BlkOk a0).bind (fun y1 => cond (!y1) (some 0) (loopN (fun i3 (v8 : Int) κ9 => lt (a0.getD i3 default) (fun x10 => cond (decide (x10.Disk = a1)) (cond (decide (x10.Block = a2)) (cond (decide (x10.Epoch ≤ a3)) (κ9 x10.Data) (κ9 v8)) (κ9 v8)) (κ9 v8))) (fun (v8 : Int) => some v8) a0.length 0 0))
theorem i_BlkGet_c {t0_0 : Bool} {a0 : (List BlkPiece)} {a1 : Int} {a2 : Int} {a3 : Int} {r : Int} (hF : i_BlkGet a0 a1 a2 a3 = some r) : Con Tryd.prog 111 [.val false [.u (ul BlkPiece.c 4 t0_0 a0)], vint .i64 a1, vint .i64 a2, vint .i64 a3] [] (vint .i64 r) [] := by
  refine Con.of_Dz tabOk Tryd.func111 rfl rfl rfl ?_
  delta i_BlkGet at hF
  refine Dz.seq ?_
  refine Dz.reg ?_
  refine Dz.seq ?_
  refine Dz.seq ?_
  refine Dz.reg ?_
  refine bdE hF (fun y1 hy1 hF => ?_)
  refine callG [] (i_BlkOk_c hy1) ⟨m_val rfl, trivial⟩ trivial rfl ?_
  refine Dz.ite rfl hF (fun _ hF => ?_) (fun _ hF => ?_)
  · refine Dz.seq ?_
    refine Dz.reg ?_
    refine Dz.ret ?_
    cases hF
    exact finG [] [] rfl rfl (m_val rfl) trivial rfl
  · refine Dz.skip ?_
    refine Dz.seq ?_
    refine Dz.reg ?_
    refine Dz.seq ?_
    refine Dz.seq ?_
    refine Dz.reg ?_
    intro hb2; replace hb2 : a0.length ≤ 140737488355328 := hb2
    refine Dz.blk ?_
    refine Dz.cnt hF (fun i3 v8 => ([(1, vint .i64 a1), (2, vint .i64 a2), (3, vint .i64 a3), (9, vint .i64 v8), (15, .val false [.u (ul BlkPiece.c 4 t0_0 a0)]), (16, vint .i64 ((a0.length : Nat) : Int)), (17, vint .i64 ((i3 : Nat) : Int))], [])) (entG [] ⟨m_val rfl, m_val rfl, m_val rfl, m_val rfl, m_val rfl, m_val rfl, m_val rfl, trivial⟩ trivial rfl) (fun v8 hF => ?_) (fun i3 v8 κ9 hi0i3 hi1i3 hF => ?_)
    · refine Dz.seq ?_
      refine Dz.reg ?_
      refine Dz.seq ?_
      refine Dz.ff (b := decide (((0 + a0.length : Nat) : Int) < ((a0.length : Nat) : Int))) rfl (decide_eq_false (by omega)) ?_
      refine Dz.exit ?_
      refine Dz.seq ?_
      refine Dz.reg ?_
      refine Dz.ret ?_
      cases hF
      exact finG [] [] rfl rfl (m_val rfl) trivial rfl
    · refine Dz.seq ?_
      refine Dz.reg ?_
      refine Dz.seq ?_
      refine Dz.tt (b := decide (((i3 : Nat) : Int) < ((a0.length : Nat) : Int))) rfl (decide_eq_true (by omega)) ?_
      refine Dz.skip ?_
      refine Dz.seq ?_
      refine Dz.blk ?_
      refine Dz.seq ?_
      refine Dz.reg ?_
      refine vge (n := ((i3 : Nat) : Int)) (hi := (a0.length : Int)) (by omega) (by omega) ?_
      have hF := ltE hF
      refine Dz.seq ?_
      refine Dz.reg ?_
      refine vif hF (fun _ hF => ?_) (fun _ hF => ?_)
      · refine vif hF (fun _ hF => ?_) (fun _ hF => ?_)
        · refine Dz.ite rfl hF (fun _ hF => ?_) (fun _ hF => ?_)
          · refine Dz.reg ?_
            refine Dz.reg ?_
            refine vsucc (by omega) ?_
            exact ⟨((a0.getD i3 default).Data), entG [] ⟨m_val rfl, m_val rfl, m_val rfl, m_val rfl, m_val rfl, m_val rfl, m_val rfl, trivial⟩ trivial rfl, hF⟩
          · refine Dz.skip ?_
            refine Dz.reg ?_
            refine vsucc (by omega) ?_
            exact ⟨v8, entG [] ⟨m_val rfl, m_val rfl, m_val rfl, m_val rfl, m_val rfl, m_val rfl, m_val rfl, trivial⟩ trivial rfl, hF⟩
        · refine Dz.ff (b := false) rfl rfl ?_
          refine Dz.skip ?_
          refine Dz.reg ?_
          refine vsucc (by omega) ?_
          exact ⟨v8, entG [] ⟨m_val rfl, m_val rfl, m_val rfl, m_val rfl, m_val rfl, m_val rfl, m_val rfl, trivial⟩ trivial rfl, hF⟩
      · refine Dz.ff (b := false) rfl rfl ?_
        refine Dz.skip ?_
        refine Dz.reg ?_
        refine vsucc (by omega) ?_
        exact ⟨v8, entG [] ⟨m_val rfl, m_val rfl, m_val rfl, m_val rfl, m_val rfl, m_val rfl, m_val rfl, trivial⟩ trivial rfl, hF⟩
end Go.Proofs.PanK

/-! Printed by wip/tools/walk.py. -/
namespace Go.Proofs.PanK
open Go.Vs
set_option maxRecDepth 8000
def i_histBlock (a0 : HistState) (a1 : PanCall) : Option (HistState × Int × Int) :=
  (i_judge a0.Disks a1.Disk a1.Block a1.Epoch (decide (a1.Op = 2))).bind (fun y1 => cond (!decide (y1 = 0)) (some (a0, y1, 0)) ((i_diskAt a0.Disks a1.Disk).bind (fun y2 => ix a0.Disks y2 (fun x3 => cond (decide (a1.Op = 2)) ((i_BlkPut a0.Pieces a1.Disk a1.Block x3.Epoch a1.Data).bind (fun y4 => some (({ Next := a0.Next, Servers := a0.Servers, Disks := a0.Disks, Pieces := y4.1 } : HistState), 0, 0))) (cond (!decide (a1.Epoch = 0)) ((i_BlkGet a0.Pieces a1.Disk a1.Block a1.Epoch).bind (fun y5 => some (a0, 0, y5))) ((i_BlkGet a0.Pieces a1.Disk a1.Block x3.Epoch).bind (fun y6 => some (a0, 0, y6))))))))
theorem i_histBlock_c {a0 : HistState} {a1 : PanCall} {r : HistState × Int × Int} (hF : i_histBlock a0 a1 = some r) : Con Tryd.prog 92 [.val true (HistState.L a0), .val true (PanCall.L a1)] [] (.tup [(true, (HistState.L r.1)), (false, [.u (cI r.2.1)]), (false, [.u (cI r.2.2)])]) [] := by
  refine Con.of_Dz tabOk Tryd.func92 rfl rfl rfl ?_
  delta i_histBlock at hF
  refine Dz.seq ?_
  refine Dz.reg ?_
  refine Dz.seq ?_
  refine Dz.seq ?_
  refine Dz.reg ?_
  refine bdE hF (fun y1 hy1 hF => ?_)
  refine callG [] (i_judge_c hy1) ⟨m_val rfl, m_val rfl, m_val rfl, m_val rfl, m_val rfl, trivial⟩ trivial rfl ?_
  refine Dz.seq ?_
  refine Dz.reg ?_
  refine Dz.ite rfl hF (fun _ hF => ?_) (fun _ hF => ?_)
  · refine Dz.seq ?_
    refine Dz.reg ?_
    refine Dz.ret ?_
    cases hF
    exact finG [] [] rfl rfl ⟨⟨rfl, mls_same rfl⟩, ⟨rfl, mls_same rfl⟩, ⟨rfl, mls_same rfl⟩, trivial⟩ trivial rfl
  · refine Dz.skip ?_
    refine Dz.seq ?_
    refine Dz.drw 3 [⟨[27,28,29,30,31], [], 3, 3⟩, ⟨[27,28,29,30,31], [0], 3, 3⟩, ⟨[25,26,29,30], [], 3, 3⟩, ⟨[25,26,29,30], [0], 3, 3⟩, ⟨[25,26,27,28], [], 3, 3⟩, ⟨[25,26,27,28], [1], 3, 3⟩, ⟨[25,26], [], 3, 3⟩, ⟨[], [], 3, 3⟩, ⟨[], [], 3, 3⟩, ⟨[], [], 3, 3⟩, ⟨[], [], 3, 3⟩] ⟨by kernel_rfl, by kernel_rfl, rfl⟩ ?_
    refine bdE hF (fun y2 hy2 hF => ?_)
    refine callG [] (i_diskAt_c hy2) ⟨m_val rfl, m_val rfl, trivial⟩ trivial rfl ?_
    refine vix hF (fun _ _ hF => ?_)
    refine Dz.seq ?_
    refine Dz.seq ?_
    refine Dz.reg ?_
    refine Dz.ite rfl hF (fun _ hF => ?_) (fun _ hF => ?_)
    · refine Dz.seq ?_
      refine Dz.ent (x := ([(2, .ptr 0 0), (3, .ptr 1 0), (4, .ptr 2 0), (8, vint .i64 ((a0.Disks.getD y2.toNat default).Epoch))], [.box 88 (HistState.L a0), .box 78 (PanCall.L a1), .box 88 [.u (cI 0), .u (cI 0), .nil, .nil]])) (entG [0, 1, 2] ⟨m_ptr rfl, m_ptr rfl, m_ptr rfl, m_val rfl, trivial⟩ ⟨⟨rfl, o_box rfl⟩, ⟨rfl, o_box rfl⟩, ⟨rfl, ⟨rfl, LeU.refl _, LeU.refl _, trivial, trivial, trivial⟩⟩, trivial⟩ rfl) ?_
      refine Dz.reg ?_
      refine bdE hF (fun y4 hy4 hF => ?_)
      refine callG [] (i_BlkPut_c hy4) ⟨m_val rfl, m_val rfl, m_val rfl, m_val rfl, m_val rfl, trivial⟩ trivial rfl ?_
      refine Dz.seq ?_
      refine Dz.reg ?_
      refine Dz.ret ?_
      cases hF
      exact finG [.frz 3] [] rfl rfl ⟨⟨rfl, ⟨LeU.refl _, LeU.refl _, LeU.refl _, LeU.refl _, trivial⟩⟩, ⟨rfl, mls_same rfl⟩, ⟨rfl, mls_same rfl⟩, trivial⟩ trivial rfl
    · refine Dz.skip ?_
      refine Dz.seq ?_
      refine Dz.seq ?_
      refine Dz.ent (x := ([(2, .ptr 0 0), (3, .ptr 1 0), (4, .ptr 2 0), (8, vint .i64 ((a0.Disks.getD y2.toNat default).Epoch))], [.box 88 (HistState.L a0), .box 78 (PanCall.L a1), .box 88 [.u (cI 0), .u (cI 0), .nil, .nil]])) (entG [0, 1, 2] ⟨m_ptr rfl, m_ptr rfl, m_ptr rfl, m_val rfl, trivial⟩ ⟨⟨rfl, o_box rfl⟩, ⟨rfl, o_box rfl⟩, ⟨rfl, ⟨rfl, LeU.refl _, LeU.refl _, trivial, trivial, trivial⟩⟩, trivial⟩ rfl) ?_
      refine Dz.reg ?_
      refine Dz.ite rfl hF (fun _ hF => ?_) (fun _ hF => ?_)
      · refine Dz.reg ?_
        refine Dz.seq ?_
        refine Dz.drw 3 [⟨[59,60,61,62,63,64,65,66], [0], 3, 3⟩, ⟨[58,61,62,63,64,65], [], 3, 3⟩, ⟨[58,61,62,63,64,65], [0], 3, 3⟩, ⟨[58,59,60,63,64,65], [], 3, 3⟩, ⟨[58,59,60,63,64,65], [1], 3, 3⟩, ⟨[58,59,60,61,62,65], [], 3, 3⟩, ⟨[58,59,60,61,62,65], [1], 3, 3⟩, ⟨[58,59,60,61,62,63,64], [], 3, 3⟩, ⟨[58], [], 3, 3⟩, ⟨[], [2], 3, 3⟩, ⟨[], [], 3, 3⟩, ⟨[], [], 3, 3⟩] ⟨by kernel_rfl, by kernel_rfl, rfl⟩ ?_
        refine bdE hF (fun y5 hy5 hF => ?_)
        refine callG [] (i_BlkGet_c hy5) ⟨m_val rfl, m_val rfl, m_val rfl, m_val rfl, trivial⟩ trivial rfl ?_
        refine Dz.ret ?_
        cases hF
        exact finG [] [] rfl rfl ⟨⟨rfl, mls_same rfl⟩, ⟨rfl, mls_same rfl⟩, ⟨rfl, mls_same rfl⟩, trivial⟩ trivial rfl
      · refine Dz.skip ?_
        refine Dz.seq ?_
        refine Dz.drw 3 [⟨[59,60,61,62,63,64,65,66], [0], 3, 3⟩, ⟨[58,61,62,63,64,65], [], 3, 3⟩, ⟨[58,61,62,63,64,65], [0], 3, 3⟩, ⟨[58,59,60,63,64,65], [], 3, 3⟩, ⟨[58,59,60,63,64,65], [1], 3, 3⟩, ⟨[58,59,60,61,62,65], [], 3, 3⟩, ⟨[58,59,60,61,62,65], [1], 3, 3⟩, ⟨[58,59,60,61,62,63,64], [], 3, 3⟩, ⟨[58], [], 3, 3⟩, ⟨[], [2], 3, 3⟩, ⟨[], [], 3, 3⟩, ⟨[], [], 3, 3⟩] ⟨by kernel_rfl, by kernel_rfl, rfl⟩ ?_
        refine bdE hF (fun y6 hy6 hF => ?_)
        refine callG [] (i_BlkGet_c hy6) ⟨m_val rfl, m_val rfl, m_val rfl, m_val rfl, trivial⟩ trivial rfl ?_
        refine Dz.ret ?_
        cases hF
        exact finG [] [] rfl rfl ⟨⟨rfl, mls_same rfl⟩, ⟨rfl, mls_same rfl⟩, ⟨rfl, mls_same rfl⟩, trivial⟩ trivial rfl
end Go.Proofs.PanK

/-! Printed by wip/tools/walk.py. -/
namespace Go.Proofs.PanK
open Go.Vs
set_option maxRecDepth 8000
def i_step (a0 : HistState) (a1 : PanCall) : Option (HistState × Int × Int) :=
  (i_diskAt a0.Disks a1.Disk).bind (fun y1 => cond (decide (a1.Op = 1)) ((i_histBlock a0 a1).bind (fun y2 => some (y2.1, y2.2.1, y2.2.2))) (cond (decide (a1.Op = 2)) ((i_histBlock a0 a1).bind (fun y3 => some (y3.1, y3.2.1, y3.2.2))) (cond (decide (a1.Op = 3)) ((i_in a1.Data 1 8).bind (fun y4 => cond (!y4) (some (a0, 4, 0)) (cond (decide ((4 : Int) < a0.Next)) (some (a0, 4, 0)) (ck ((a0.Disks.length + 1) * 72 ≤ 140737488355328) (some (({ Next := (w64 (a0.Next + 1)), Servers := a0.Servers, Disks := (a0.Disks ++ ([({ Id := a0.Next, Size := a1.Data, Epoch := 1, Frozen := 0, Client := 0, Call := 0, Acks := [] } : MapDisk)] : List MapDisk)), Pieces := a0.Pieces } : HistState), 0, (w64 ((w64 (a0.Next + 1)) - 1)))))))) (cond (decide (a1.Op = 6)) (cond (decide (a0.Servers = 5)) (some (a0, 4, 0)) (some (({ Next := a0.Next, Servers := (w64 (a0.Servers + 1)), Disks := a0.Disks, Pieces := a0.Pieces } : HistState), 0, (w64 (a0.Servers + 1))))) (cond (decide (y1 < 0)) (some (a0, 1, 0)) (cond (decide (a1.Op = 4)) (ix a0.Disks y1 (fun _ => cond (decide ((a0.Disks.getD y1.toNat default).Epoch = 99999)) (some (a0, 4, 0)) (ix a0.Disks y1 (fun _ => ix a0.Disks y1 (fun _ => lt (a0.Disks.set y1.toNat ({ Id := (a0.Disks.getD y1.toNat default).Id, Size := (a0.Disks.getD y1.toNat default).Size, Epoch := (w64 ((a0.Disks.getD y1.toNat default).Epoch + 1)), Frozen := (a0.Disks.getD y1.toNat default).Frozen, Client := (a0.Disks.getD y1.toNat default).Client, Call := (a0.Disks.getD y1.toNat default).Call, Acks := (a0.Disks.getD y1.toNat default).Acks } : MapDisk)) (fun r5 => some (({ Next := a0.Next, Servers := a0.Servers, Disks := r5, Pieces := a0.Pieces } : HistState), 0, (a0.Disks.getD y1.toNat default).Epoch))))))) (ck (0 ≤ y1 ∧ y1 ≤ ((a0.Disks.length : Nat) : Int)) (ck (0 ≤ (w64 (y1 + 1)) ∧ (w64 (y1 + 1)) ≤ ((a0.Disks.length : Nat) : Int)) (ck ((y1.toNat + (a0.Disks.length - (w64 (y1 + 1)).toNat)) * 72 ≤ 140737488355328) (some (({ Next := a0.Next, Servers := a0.Servers, Disks := (a0.Disks.take y1.toNat ++ a0.Disks.drop ((w64 (y1 + 1)).toNat)), Pieces := a0.Pieces } : HistState), 0, 0)))))))))))
theorem i_step_c {a0 : HistState} {a1 : PanCall} {r : HistState × Int × Int} (hF : i_step a0 a1 = some r) : Con Tryd.prog 76 [.val true [.u (cI a0.Next), .u (cI a0.Servers), .row 0, .u (ul BlkPiece.c 4 false a0.Pieces)], .val true (PanCall.L a1)] [.row 121 a0.Disks.length 7 (gl MapDisk.c a0.Disks)] (.tup [(true, (HistState.L r.1)), (false, [.u (cI r.2.1)]), (false, [.u (cI r.2.2)])]) [.none] := by
  refine Con.of_Dz tabOk Tryd.func76 rfl rfl rfl ?_
  delta i_step at hF
  refine Dz.seq ?_
  refine Dz.reg ?_
  refine Dz.seq ?_
  refine Dz.reg ?_
  refine bdE hF (fun y1 hy1 hF => ?_)
  refine callL [] (i_diskAt_c hy1) ⟨⟨rfl, ⟨rfl, rfl, LeU.refl _⟩, trivial⟩, m_val rfl, trivial⟩ trivial rfl ⟨⟨trivial, trivial⟩, trivial⟩ ?_
  refine Dz.seq ?_
  refine Dz.blk ?_
  refine Dz.seq ?_
  refine Dz.reg ?_
  refine vif hF (fun _ hF => ?_) (fun _ hF => ?_)
  · refine Dz.tt (b := true) rfl rfl ?_
    refine Dz.seq ?_
    refine Dz.reg ?_
    refine bdE hF (fun y2 hy2 hF => ?_)
    refine callF [0] [] (i_histBlock_c hy2) ⟨⟨rfl, LeU.refl _, LeU.refl _, LeU.refl _, LeU.refl _, trivial⟩, m_val rfl, trivial⟩ trivial rfl ?_
    refine Dz.ret ?_
    cases hF
    exact finG [] [0] rfl rfl ⟨⟨rfl, mls_same rfl⟩, ⟨rfl, mls_same rfl⟩, ⟨rfl, mls_same rfl⟩, trivial⟩ ⟨⟨rfl, trivial⟩, trivial⟩ rfl
  · refine Dz.ite rfl hF (fun _ hF => ?_) (fun _ hF => ?_)
    · refine Dz.seq ?_
      refine Dz.reg ?_
      refine bdE hF (fun y3 hy3 hF => ?_)
      refine callF [0] [] (i_histBlock_c hy3) ⟨⟨rfl, LeU.refl _, LeU.refl _, LeU.refl _, LeU.refl _, trivial⟩, m_val rfl, trivial⟩ trivial rfl ?_
      refine Dz.ret ?_
      cases hF
      exact finG [] [0] rfl rfl ⟨⟨rfl, mls_same rfl⟩, ⟨rfl, mls_same rfl⟩, ⟨rfl, mls_same rfl⟩, trivial⟩ ⟨⟨rfl, trivial⟩, trivial⟩ rfl
    · refine Dz.seq ?_
      refine Dz.reg ?_
      refine Dz.ite rfl hF (fun _ hF => ?_) (fun _ hF => ?_)
      · refine Dz.seq ?_
        refine Dz.seq ?_
        refine Dz.reg ?_
        refine bdE hF (fun y4 hy4 hF => ?_)
        refine callG [] (i_in_c hy4) ⟨m_val rfl, m_val rfl, m_val rfl, trivial⟩ trivial rfl ?_
        refine vif hF (fun _ hF => ?_) (fun _ hF => ?_)
        · refine Dz.tt (b := true) rfl rfl ?_
          refine Dz.seq ?_
          refine Dz.reg ?_
          refine Dz.ret ?_
          cases hF
          exact finG [.frz 0] [0] rfl rfl ⟨⟨rfl, ⟨LeU.refl _, LeU.refl _, LeU.refl _, LeU.refl _, trivial⟩⟩, ⟨rfl, mls_same rfl⟩, ⟨rfl, mls_same rfl⟩, trivial⟩ ⟨⟨rfl, trivial⟩, trivial⟩ rfl
        · refine Dz.ite rfl hF (fun _ hF => ?_) (fun _ hF => ?_)
          · refine Dz.seq ?_
            refine Dz.ent (x := ([(2, .ptr 1 0), (4, .ptr 2 0)], [.row 121 a0.Disks.length 7 (gl MapDisk.c a0.Disks), .box 88 [.u (cI a0.Next), .u (cI a0.Servers), .row 0, .u (ul BlkPiece.c 4 false a0.Pieces)], .box 88 [.u (cI 0), .u (cI 0), .nil, .nil]])) (entG [0, 1, 3] ⟨m_ptr rfl, m_ptr rfl, trivial⟩ ⟨⟨rfl, o_row⟩, ⟨rfl, ⟨rfl, LeU.refl _, LeU.refl _, rfl, LeU.refl _, trivial⟩⟩, ⟨rfl, ⟨rfl, LeU.refl _, LeU.refl _, trivial, trivial, trivial⟩⟩, trivial⟩ rfl) ?_
            refine Dz.reg ?_
            refine Dz.ret ?_
            cases hF
            exact finG [.frz 0] [0] rfl rfl ⟨⟨rfl, ⟨LeU.refl _, LeU.refl _, LeU.refl _, LeU.refl _, trivial⟩⟩, ⟨rfl, mls_same rfl⟩, ⟨rfl, mls_same rfl⟩, trivial⟩ ⟨⟨rfl, trivial⟩, trivial⟩ rfl
          · refine Dz.skip ?_
            refine Dz.seq ?_
            refine Dz.ent (x := ([(2, .ptr 1 0), (3, .ptr 2 0), (4, .ptr 3 0)], [.row 121 a0.Disks.length 7 (gl MapDisk.c a0.Disks), .box 88 [.u (cI a0.Next), .u (cI a0.Servers), .row 0, .u (ul BlkPiece.c 4 false a0.Pieces)], .box 78 (PanCall.L a1), .box 88 [.u (cI 0), .u (cI 0), .nil, .nil]])) (entG [0, 1, 2, 3] ⟨m_ptr rfl, m_ptr rfl, m_ptr rfl, trivial⟩ ⟨⟨rfl, o_row⟩, ⟨rfl, ⟨rfl, LeU.refl _, LeU.refl _, rfl, LeU.refl _, trivial⟩⟩, ⟨rfl, o_box rfl⟩, ⟨rfl, ⟨rfl, LeU.refl _, LeU.refl _, trivial, trivial, trivial⟩⟩, trivial⟩ rfl) ?_
            refine Dz.reg ?_
            refine vck hF id (fun _ hF => ?_)
            refine Dz.row 4 ([({ Id := a0.Next, Size := a1.Data, Epoch := 1, Frozen := 0, Client := 0, Call := 0, Acks := [] } : MapDisk)] : List MapDisk).length (gl MapDisk.c ([({ Id := a0.Next, Size := a1.Data, Epoch := 1, Frozen := 0, Client := 0, Call := 0, Acks := [] } : MapDisk)] : List MapDisk)) rfl (by simp <;> omega) (EqG.lit (c := MapDisk.c) (sz := 7) (L := ([({ Id := a0.Next, Size := a1.Data, Epoch := 1, Frozen := 0, Client := 0, Call := 0, Acks := [] } : MapDisk)] : List MapDisk)) ⟨LeU.refl _, LeU.refl _, LeU.refl _, LeU.refl _, LeU.refl _, LeU.refl _, LeU.nil, trivial⟩) ?_
            refine Dz.row 5 (a0.Disks ++ ([({ Id := a0.Next, Size := a1.Data, Epoch := 1, Frozen := 0, Client := 0, Call := 0, Acks := [] } : MapDisk)] : List MapDisk)).length (gl MapDisk.c (a0.Disks ++ ([({ Id := a0.Next, Size := a1.Data, Epoch := 1, Frozen := 0, Client := 0, Call := 0, Acks := [] } : MapDisk)] : List MapDisk))) rfl (by simp <;> omega) (EqG.app rfl (by simp <;> omega) (EqG.refl _ _ _) (EqG.lit (c := MapDisk.c) (sz := 7) (L := ([({ Id := a0.Next, Size := a1.Data, Epoch := 1, Frozen := 0, Client := 0, Call := 0, Acks := [] } : MapDisk)] : List MapDisk)) ⟨LeU.refl _, LeU.refl _, LeU.refl _, LeU.refl _, LeU.refl _, LeU.refl _, LeU.nil, trivial⟩)) ?_
            refine Dz.seq ?_
            refine Dz.reg ?_
            refine vw64 ?_
            refine Dz.seq ?_
            refine Dz.drw 6 [⟨[58,59,60], [1], 6, 6⟩, ⟨[57,5], [], 6, 6⟩, ⟨[57,5], [1], 6, 6⟩, ⟨[57,5], [], 6, 6⟩, ⟨[58,59,60], [3], 6, 6⟩, ⟨[58,59,60], [], 6, 6⟩, ⟨[], [], 6, 6⟩] ⟨by kernel_rfl, by kernel_rfl, rfl⟩ ?_
            refine vw64 ?_
            refine Dz.ret ?_
            cases hF
            exact finG [.frz 5] [0] rfl rfl ⟨⟨rfl, ⟨LeU.refl _, LeU.refl _, LeU.refl _, LeU.refl _, trivial⟩⟩, ⟨rfl, mls_same rfl⟩, ⟨rfl, mls_same rfl⟩, trivial⟩ ⟨⟨rfl, trivial⟩, trivial⟩ rfl
      · refine Dz.seq ?_
        refine Dz.reg ?_
        refine Dz.ite rfl hF (fun _ hF => ?_) (fun _ hF => ?_)
        · refine Dz.seq ?_
          refine Dz.seq ?_
          refine Dz.reg ?_
          refine Dz.ite rfl hF (fun _ hF => ?_) (fun _ hF => ?_)
          · refine Dz.seq ?_
            refine Dz.reg ?_
            refine Dz.ret ?_
            cases hF
            exact finG [.frz 0] [0] rfl rfl ⟨⟨rfl, ⟨LeU.refl _, LeU.refl _, LeU.refl _, LeU.refl _, trivial⟩⟩, ⟨rfl, mls_same rfl⟩, ⟨rfl, mls_same rfl⟩, trivial⟩ ⟨⟨rfl, trivial⟩, trivial⟩ rfl
          · refine Dz.skip ?_
            refine Dz.seq ?_
            refine Dz.reg ?_
            refine vw64 ?_
            refine Dz.seq ?_
            refine Dz.ent (x := ([(2, .ptr 1 0), (4, .ptr 2 0)], [.row 121 a0.Disks.length 7 (gl MapDisk.c a0.Disks), .box 88 [.u (cI a0.Next), .u (cI (w64 (a0.Servers + 1))), .row 0, .u (ul BlkPiece.c 4 false a0.Pieces)], .box 88 [.u (cI 0), .u (cI 0), .nil, .nil]])) (entG [0, 1, 3] ⟨m_ptr rfl, m_ptr rfl, trivial⟩ ⟨⟨rfl, o_row⟩, ⟨rfl, ⟨rfl, LeU.refl _, LeU.refl _, rfl, LeU.refl _, trivial⟩⟩, ⟨rfl, ⟨rfl, LeU.refl _, LeU.refl _, trivial, trivial, trivial⟩⟩, trivial⟩ rfl) ?_
            refine Dz.drw 3 [⟨[74,75], [1], 3, 3⟩, ⟨[73,5], [], 3, 3⟩, ⟨[73,5], [1], 3, 3⟩, ⟨[74,75], [2], 3, 3⟩, ⟨[74,75], [], 3, 3⟩, ⟨[], [], 3, 3⟩] ⟨by kernel_rfl, by kernel_rfl, rfl⟩ ?_
            refine Dz.ret ?_
            cases hF
            exact finG [.frz 0] [0] rfl rfl ⟨⟨rfl, ⟨LeU.refl _, LeU.refl _, LeU.refl _, LeU.refl _, trivial⟩⟩, ⟨rfl, mls_same rfl⟩, ⟨rfl, mls_same rfl⟩, trivial⟩ ⟨⟨rfl, trivial⟩, trivial⟩ rfl
        · refine Dz.seq ?_
          refine Dz.reg ?_
          refine Dz.ite rfl hF (fun _ hF => ?_) (fun _ hF => ?_)
          · refine Dz.seq ?_
            refine Dz.reg ?_
            refine Dz.ret ?_
            cases hF
            exact finG [.frz 0] [0] rfl rfl ⟨⟨rfl, ⟨LeU.refl _, LeU.refl _, LeU.refl _, LeU.refl _, trivial⟩⟩, ⟨rfl, mls_same rfl⟩, ⟨rfl, mls_same rfl⟩, trivial⟩ ⟨⟨rfl, trivial⟩, trivial⟩ rfl
          · refine Dz.seq ?_
            refine Dz.reg ?_
            refine Dz.ite rfl hF (fun _ hF => ?_) (fun _ hF => ?_)
            · refine Dz.seq ?_
              refine Dz.ent (x := ([(2, .ptr 1 0), (4, .ptr 2 0), (7, vint .i64 y1)], [.row 121 a0.Disks.length 7 (gl MapDisk.c a0.Disks), .box 88 [.u (cI a0.Next), .u (cI a0.Servers), .row 0, .u (ul BlkPiece.c 4 false a0.Pieces)], .box 88 [.u (cI 0), .u (cI 0), .nil, .nil]])) (entG [0, 1, 3] ⟨m_ptr rfl, m_ptr rfl, m_val rfl, trivial⟩ ⟨⟨rfl, o_row⟩, ⟨rfl, ⟨rfl, LeU.refl _, LeU.refl _, rfl, LeU.refl _, trivial⟩⟩, ⟨rfl, ⟨rfl, LeU.refl _, LeU.refl _, trivial, trivial, trivial⟩⟩, trivial⟩ rfl) ?_
              refine Dz.reg ?_
              refine vix hF (fun _ _ hF => ?_)
              refine Dz.seq ?_
              refine Dz.seq ?_
              refine Dz.reg ?_
              refine Dz.ite rfl hF (fun _ hF => ?_) (fun _ hF => ?_)
              · refine Dz.seq ?_
                refine Dz.reg ?_
                refine Dz.ret ?_
                cases hF
                exact finG [.frz 0] [0] rfl rfl ⟨⟨rfl, ⟨LeU.refl _, LeU.refl _, LeU.refl _, LeU.refl _, trivial⟩⟩, ⟨rfl, mls_same rfl⟩, ⟨rfl, mls_same rfl⟩, trivial⟩ ⟨⟨rfl, trivial⟩, trivial⟩ rfl
              · refine Dz.skip ?_
                refine Dz.seq ?_
                refine Dz.reg ?_
                refine vix hF (fun _ _ hF => ?_)
                refine vw64 ?_
                refine vix hF (fun _ _ hF => ?_)
                refine ltX hF (fun r5 hr5 hF => ?_)
                have hlr5 : r5.length = a0.Disks.length := by rw [hr5]; simp <;> omega
                refine Dz.row 0 r5.length (gl MapDisk.c r5) rfl (by rw [hr5]; simp <;> omega) (by rw [hr5]; exact (EqG.set' rfl (EqG.refl _ _ _) ⟨LeU.refl _, LeU.refl _, LeU.refl _, LeU.refl _, LeU.refl _, LeU.refl _, LeU.refl _, trivial⟩)) ?_
                refine Dz.seq ?_
                refine Dz.reg ?_
                refine Dz.ret ?_
                cases hF
                exact finG [.frz 0] [0] rfl rfl ⟨⟨rfl, ⟨LeU.refl _, LeU.refl _, LeU.refl _, LeU.refl _, trivial⟩⟩, ⟨rfl, mls_same rfl⟩, ⟨rfl, mls_same rfl⟩, trivial⟩ ⟨⟨rfl, trivial⟩, trivial⟩ rfl
            · refine Dz.skip ?_
              refine Dz.seq ?_
              refine Dz.ent (x := ([(2, .ptr 1 0), (4, .ptr 2 0), (7, vint .i64 y1)], [.row 121 a0.Disks.length 7 (gl MapDisk.c a0.Disks), .box 88 [.u (cI a0.Next), .u (cI a0.Servers), .row 0, .u (ul BlkPiece.c 4 false a0.Pieces)], .box 88 [.u (cI 0), .u (cI 0), .nil, .nil]])) (entG [0, 1, 3] ⟨m_ptr rfl, m_ptr rfl, m_val rfl, trivial⟩ ⟨⟨rfl, o_row⟩, ⟨rfl, ⟨rfl, LeU.refl _, LeU.refl _, rfl, LeU.refl _, trivial⟩⟩, ⟨rfl, ⟨rfl, LeU.refl _, LeU.refl _, trivial, trivial, trivial⟩⟩, trivial⟩ rfl) ?_
              refine Dz.drw 3 [⟨[106,108,109,110,111,112], [], 3, 3⟩, ⟨[106,108,109,110,111,112], [1], 3, 3⟩, ⟨[104,105,108,109,110,111,112], [], 3, 3⟩, ⟨[108,109,110,111,112], [0], 3, 3⟩, ⟨[104,105,106,107,110,111], [], 3, 3⟩, ⟨[104,105,106,107,110,111], [1], 3, 3⟩, ⟨[104,105,106,107,108,109], [], 3, 3⟩, ⟨[104,105,106,107,108,109], [], 3, 3⟩, ⟨[104,105,106,107], [0], 3, 3⟩, ⟨[], [0], 3, 4⟩, ⟨[], [], 4, 4⟩, ⟨[], [1], 4, 4⟩] ⟨by kernel_rfl, by kernel_rfl, rfl⟩ ?_
              refine vck hF id (fun _ hF => ?_)
              refine vw64 ?_
              refine vck hF id (fun _ hF => ?_)
              refine vck hF id (fun _ hF => ?_)
              refine Dz.row 3 (a0.Disks.take y1.toNat ++ a0.Disks.drop ((w64 (y1 + 1)).toNat)).length (gl MapDisk.c (a0.Disks.take y1.toNat ++ a0.Disks.drop ((w64 (y1 + 1)).toNat))) rfl (by simp <;> omega) (EqG.app (by simp <;> omega) (by simp <;> omega) (EqG.take _) (EqG.drop _)) ?_
              refine Dz.seq ?_
              refine Dz.reg ?_
              refine Dz.ret ?_
              cases hF
              exact finG [.frz 3] [0] rfl rfl ⟨⟨rfl, ⟨LeU.refl _, LeU.refl _, LeU.refl _, LeU.refl _, trivial⟩⟩, ⟨rfl, mls_same rfl⟩, ⟨rfl, mls_same rfl⟩, trivial⟩ ⟨⟨rfl, trivial⟩, trivial⟩ rfl
end Go.Proofs.PanK

/-! Printed by wip/tools/walk.py. -/
namespace Go.Proofs.PanK
open Go.Vs
set_option maxRecDepth 8000
def i_copied_MapDisk (a0 : (List MapDisk)) : Option ((List MapDisk)) :=
  cond (decide (((a0.length : Nat) : Int) = 0)) (some ([] : List MapDisk)) (ck (0 ≤ ((a0.length : Nat) : Int) ∧ ((a0.length : Nat) : Int) * 72 ≤ 140737488355328) (some (cpy (List.replicate a0.length (({ Id := 0, Size := 0, Epoch := 0, Frozen := 0, Client := 0, Call := 0, Acks := [] } : MapDisk) : MapDisk)) a0)))
theorem i_copied_MapDisk_c {t0_0 : Bool} {a0 : (List MapDisk)} {r : (List MapDisk)} (hF : i_copied_MapDisk a0 = some r) : Con Tryd.prog 112 [.val false [.u (ul MapDisk.c 7 t0_0 a0)]] [] (.val false [.row 0]) [.row 121 r.length 7 (gl MapDisk.c r)] := by
  refine Con.of_Dz tabOk Tryd.func112 rfl rfl rfl ?_
  delta i_copied_MapDisk at hF
  refine Dz.seq ?_
  refine Dz.reg ?_
  refine Dz.seq ?_
  refine Dz.seq ?_
  refine Dz.reg ?_
  intro hb1; replace hb1 : a0.length ≤ 140737488355328 := hb1
  refine Dz.ite rfl hF (fun _ hF => ?_) (fun _ hF => ?_)
  · refine Dz.seq ?_
    refine Dz.reg ?_
    refine Dz.ret ?_
    cases hF
    exact finG [.slot 2 121 7] [0] rfl rfl (⟨rfl, rfl, trivial⟩) ⟨⟨rfl, o_rowE (by simp <;> omega) EqG.nilr⟩, trivial⟩ rfl
  · refine Dz.skip ?_
    refine Dz.seq ?_
    refine Dz.reg ?_
    intro hb2; replace hb2 : a0.length ≤ 140737488355328 := hb2
    refine vck hF (fun h => ⟨rfl, h⟩) (fun hk hF => ?_)
    refine Dz.row 0 (List.replicate a0.length (({ Id := 0, Size := 0, Epoch := 0, Frozen := 0, Client := 0, Call := 0, Acks := [] } : MapDisk) : MapDisk)).length (gl MapDisk.c (List.replicate a0.length (({ Id := 0, Size := 0, Epoch := 0, Frozen := 0, Client := 0, Call := 0, Acks := [] } : MapDisk) : MapDisk))) rfl (by simp <;> omega) (EqG.rep' (c := MapDisk.c) (sz := 7) _ ⟨LeU.refl _, LeU.refl _, LeU.refl _, LeU.refl _, LeU.refl _, LeU.refl _, LeU.nil, trivial⟩) ?_
    refine Dz.seq ?_
    refine Dz.reg ?_
    refine Dz.row 0 (cpy (List.replicate a0.length (({ Id := 0, Size := 0, Epoch := 0, Frozen := 0, Client := 0, Call := 0, Acks := [] } : MapDisk) : MapDisk)) a0).length (gl MapDisk.c (cpy (List.replicate a0.length (({ Id := 0, Size := 0, Epoch := 0, Frozen := 0, Client := 0, Call := 0, Acks := [] } : MapDisk) : MapDisk)) a0)) rfl (by simp <;> omega) (EqG.cpy rfl rfl (EqG.refl _ _ _) (EqG.refl _ _ _)) ?_
    refine Dz.seq ?_
    refine Dz.reg ?_
    refine Dz.ret ?_
    cases hF
    exact finG [] [0] rfl rfl (⟨rfl, rfl, trivial⟩) ⟨⟨rfl, o_row⟩, trivial⟩ rfl
end Go.Proofs.PanK

/-! Printed by wip/tools/walk.py. -/
namespace Go.Proofs.PanK
open Go.Vs
set_option maxRecDepth 8000
def i_disksCopy (a0 : (List MapDisk)) : Option ((List MapDisk)) :=
  (i_copied_MapDisk a0).bind (fun y1 => loopN (fun i3 (v10 : List MapDisk) κ11 => ix v10 ((i3 : Nat) : Int) (fun _ => (i_copied_int ((v10.getD i3 default).Acks)).bind (fun y12 => ix v10 ((i3 : Nat) : Int) (fun _ => lt (v10.set i3 ({ Id := (v10.getD i3 default).Id, Size := (v10.getD i3 default).Size, Epoch := (v10.getD i3 default).Epoch, Frozen := (v10.getD i3 default).Frozen, Client := (v10.getD i3 default).Client, Call := (v10.getD i3 default).Call, Acks := y12 } : MapDisk)) (fun r13 => κ11 r13))))) (fun (v10 : List MapDisk) => some v10) y1.length 0 y1)
theorem i_disksCopy_c {t0_0 : Bool} {a0 : (List MapDisk)} {r : (List MapDisk)} (hF : i_disksCopy a0 = some r) : Con Tryd.prog 93 [.val false [.u (ul MapDisk.c 7 t0_0 a0)]] [] (.val false [.row 0]) [.row 121 r.length 7 (gl MapDisk.c r)] := by
  refine Con.of_Dz tabOk Tryd.func93 rfl rfl rfl ?_
  delta i_disksCopy at hF
  refine Dz.seq ?_
  refine Dz.reg ?_
  refine Dz.seq ?_
  refine Dz.reg ?_
  refine bdE hF (fun y1 hy1 hF => ?_)
  refine callG [] (i_copied_MapDisk_c hy1) ⟨m_val rfl, trivial⟩ trivial rfl ?_
  refine Dz.seq ?_
  refine Dz.seq ?_
  refine Dz.reg ?_
  intro hb2; replace hb2 : y1.length ≤ 140737488355328 := hb2
  refine Dz.blk ?_
  refine Dz.cnt hF (fun i3 v10 => ([(3, .val false [.row 0]), (8, vint .i64 ((y1.length : Nat) : Int)), (9, vint .i64 ((i3 : Nat) : Int))], [.row 121 v10.length 7 (gl MapDisk.c v10)])) (entG [0] ⟨⟨rfl, rfl, trivial⟩, m_val rfl, m_val rfl, trivial⟩ ⟨⟨rfl, o_row⟩, trivial⟩ rfl) (fun v10 hF => ?_) (fun i3 v10 κ11 hi0i3 hi1i3 hF => ?_)
  · refine Dz.seq ?_
    refine Dz.reg ?_
    refine Dz.seq ?_
    refine Dz.ff (b := decide (((0 + y1.length : Nat) : Int) < ((y1.length : Nat) : Int))) rfl (decide_eq_false (by omega)) ?_
    refine Dz.exit ?_
    refine Dz.seq ?_
    refine Dz.reg ?_
    refine Dz.ret ?_
    cases hF
    exact finG [] [0] rfl rfl (⟨rfl, rfl, trivial⟩) ⟨⟨rfl, o_row⟩, trivial⟩ rfl
  · refine Dz.seq ?_
    refine Dz.reg ?_
    refine Dz.seq ?_
    refine Dz.tt (b := decide (((i3 : Nat) : Int) < ((y1.length : Nat) : Int))) rfl (decide_eq_true (by omega)) ?_
    refine Dz.skip ?_
    refine Dz.seq ?_
    refine Dz.blk ?_
    refine Dz.seq ?_
    refine Dz.reg ?_
    refine Dz.reg ?_
    refine vix hF (fun _ _ hF => ?_)
    refine bdE hF (fun y12 hy12 hF => ?_)
    refine callG [] (i_copied_int_c hy12) ⟨m_val rfl, trivial⟩ trivial rfl ?_
    refine vix hF (fun _ _ hF => ?_)
    refine ltX hF (fun r13 hr13 hF => ?_)
    have hlr13 : r13.length = v10.length := by rw [hr13]; simp <;> omega
    refine Dz.row 0 r13.length (gl MapDisk.c r13) rfl (by rw [hr13]; simp <;> omega) (by rw [hr13]; exact (EqG.set' rfl (EqG.refl _ _ _) ⟨LeU.refl _, LeU.refl _, LeU.refl _, LeU.refl _, LeU.refl _, LeU.refl _, LeU.refl _, trivial⟩)) ?_
    refine Dz.reg ?_
    refine vsucc (by omega) ?_
    exact ⟨r13, entG [0] ⟨⟨rfl, rfl, trivial⟩, m_val rfl, m_val rfl, trivial⟩ ⟨⟨rfl, o_row⟩, trivial⟩ rfl, hF⟩
end Go.Proofs.PanK

/-! Printed by wip/tools/walk.py. -/
namespace Go.Proofs.PanK
open Go.Vs
set_option maxRecDepth 8000
def i_histCopy (a0 : HistState) : Option (HistState) :=
  (i_disksCopy a0.Disks).bind (fun y1 => (i_copied_BlkPiece a0.Pieces).bind (fun y2 => some ({ Next := a0.Next, Servers := a0.Servers, Disks := y1, Pieces := y2 } : HistState)))
theorem i_histCopy_c {t0_2 t0_3 : Bool} {a0 : HistState} {r : HistState} (hF : i_histCopy a0 = some r) : Con Tryd.prog 77 [.val true [.u (cI a0.Next), .u (cI a0.Servers), .u (ul MapDisk.c 7 t0_2 a0.Disks), .u (ul BlkPiece.c 4 t0_3 a0.Pieces)]] [] (.val true [.u (cI r.Next), .u (cI r.Servers), .row 0, .row 1]) [.row 121 r.Disks.length 7 (gl MapDisk.c r.Disks), .row 123 r.Pieces.length 4 (gl BlkPiece.c r.Pieces)] := by
  refine Con.of_Dz tabOk Tryd.func77 rfl rfl rfl ?_
  delta i_histCopy at hF
  refine Dz.seq ?_
  refine Dz.reg ?_
  refine Dz.seq ?_
  refine Dz.drw 2 [⟨[5,6,7,8,9,10,11,12], [], 2, 2⟩, ⟨[5,6,7,8,9,10,11,12], [0], 2, 2⟩, ⟨[3,4,7,8,9,10,11,12], [], 2, 2⟩, ⟨[3,4,7,8,9,10,11,12], [0], 2, 2⟩, ⟨[3,4,5,6,10,11], [], 2, 2⟩, ⟨[3,4,5,6,10,11], [0], 2, 2⟩, ⟨[3,4,5,6,10,11], [], 2, 3⟩, ⟨[3,4,5,6,7,8,9], [], 3, 3⟩, ⟨[3,4,5,6,7,8,9], [0], 3, 3⟩, ⟨[3,4,5,6], [], 3, 4⟩, ⟨[], [], 4, 4⟩, ⟨[], [1], 4, 4⟩] ⟨by kernel_rfl, by kernel_rfl, rfl⟩ ?_
  refine bdE hF (fun y1 hy1 hF => ?_)
  refine callG [] (i_disksCopy_c hy1) ⟨m_val rfl, trivial⟩ trivial rfl ?_
  refine bdE hF (fun y2 hy2 hF => ?_)
  refine callG [] (i_copied_BlkPiece_c hy2) ⟨m_val rfl, trivial⟩ trivial rfl ?_
  refine Dz.ret ?_
  cases hF
  exact finG [] [2, 3] rfl rfl (⟨rfl, LeU.refl _, LeU.refl _, rfl, rfl, trivial⟩) ⟨⟨rfl, o_row⟩, ⟨rfl, o_row⟩, trivial⟩ rfl
end Go.Proofs.PanK

/-! Printed by wip/tools/walk.py. -/
namespace Go.Proofs.PanK
open Go.Vs
set_option maxRecDepth 8000
def i_does (a0 : HistState) (a1 : PanCall) : Option (HistState × Bool) :=
  cond (decide (a1.Code = 5)) (cond (decide (a1.Op = 4)) (some (a0, decide (a1.Value = 0))) (cond (decide (a1.Op = 5)) (some (a0, decide (a1.Value = 0))) (some (a0, false)))) ((i_histCopy a0).bind (fun y1 => (i_step y1 a1).bind (fun y2 => cond (decide (a1.End = 0)) (some (y2.1, true)) (cond (decide (y2.2.1 = a1.Code)) (some (y2.1, decide (y2.2.2 = a1.Value))) (some (y2.1, false))))))
theorem i_does_c {a0 : HistState} {a1 : PanCall} {r : HistState × Bool} (hF : i_does a0 a1 = some r) : Con Tryd.prog 67 [.val true (HistState.L a0), .val true (PanCall.L a1)] [] (.tup [(true, (HistState.L r.1)), (false, [.u (.bool r.2)])]) [] := by
  refine Con.of_Dz tabOk Tryd.func67 rfl rfl rfl ?_
  delta i_does at hF
  refine Dz.seq ?_
  refine Dz.reg ?_
  refine Dz.seq ?_
  refine Dz.seq ?_
  refine Dz.reg ?_
  refine Dz.ite rfl hF (fun _ hF => ?_) (fun _ hF => ?_)
  · refine Dz.seq ?_
    refine Dz.drw 3 [⟨[13,14,15,16,17,18,19,20,21,22,23,24,25], [0], 3, 3⟩, ⟨[12], [], 3, 3⟩, ⟨[12], [1], 3, 3⟩, ⟨[12], [], 3, 3⟩, ⟨[12], [], 3, 3⟩, ⟨[12], [], 3, 3⟩, ⟨[12], [1], 3, 3⟩, ⟨[12], [], 3, 3⟩, ⟨[12], [], 3, 3⟩, ⟨[12], [], 3, 3⟩, ⟨[12], [], 3, 3⟩, ⟨[12], [1], 3, 3⟩, ⟨[12], [], 3, 3⟩, ⟨[12], [], 3, 3⟩, ⟨[22,23,24,25], [2], 3, 3⟩, ⟨[], [], 3, 3⟩] ⟨by kernel_rfl, by kernel_rfl, rfl⟩ ?_
    refine vif hF (fun _ hF => ?_) (fun _ hF => ?_)
    · refine Dz.ret ?_
      cases hF
      exact finG [] [] rfl rfl ⟨⟨rfl, mls_same rfl⟩, ⟨rfl, mls_same rfl⟩, trivial⟩ trivial rfl
    · refine vif hF (fun _ hF => ?_) (fun _ hF => ?_)
      · refine Dz.ret ?_
        cases hF
        exact finG [] [] rfl rfl ⟨⟨rfl, mls_same rfl⟩, ⟨rfl, mls_same rfl⟩, trivial⟩ trivial rfl
      · refine Dz.ret ?_
        cases hF
        exact finG [] [] rfl rfl ⟨⟨rfl, mls_same rfl⟩, ⟨rfl, mls_same rfl⟩, trivial⟩ trivial rfl
  · refine Dz.skip ?_
    refine Dz.seq ?_
    refine Dz.drw 3 [⟨[29,6], [0], 3, 3⟩, ⟨[29,6], [], 3, 5⟩, ⟨[27,28,6], [1], 5, 5⟩, ⟨[6], [3,4], 5, 5⟩, ⟨[6], [], 5, 5⟩, ⟨[32,33,6], [], 5, 5⟩, ⟨[31,33,6], [], 5, 5⟩, ⟨[31,32,6,7], [], 5, 5⟩, ⟨[27,28,29,30,26,31,32,33], [], 5, 6⟩, ⟨[32,33], [5], 6, 6⟩, ⟨[33], [], 6, 6⟩, ⟨[], [], 6, 6⟩] ⟨by kernel_rfl, by kernel_rfl, rfl⟩ ?_
    refine bdE hF (fun y1 hy1 hF => ?_)
    refine callG [] (i_histCopy_c hy1) ⟨m_val rfl, trivial⟩ trivial rfl ?_
    refine bdE hF (fun y2 hy2 hF => ?_)
    refine callF [4] [3] (i_step_c hy2) ⟨⟨rfl, LeU.refl _, LeU.refl _, rfl, LeU.refl _, trivial⟩, m_val rfl, trivial⟩ ⟨⟨rfl, o_row⟩, trivial⟩ rfl ?_
    refine Dz.seq ?_
    refine Dz.ent (x := ([(3, .ptr 0 0), (4, .ptr 1 0), (6, .ptr 2 0), (7, vint .i64 y2.2.1), (8, vint .i64 y2.2.2)], [.box 78 (PanCall.L a1), .box 88 [.u (cI 0), .u (cI 0), .nil, .nil], .box 88 (HistState.L y2.1)])) (entG [1, 2, 5] ⟨m_ptr rfl, m_ptr rfl, m_ptr rfl, m_val rfl, m_val rfl, trivial⟩ ⟨⟨rfl, o_box rfl⟩, ⟨rfl, ⟨rfl, LeU.refl _, LeU.refl _, trivial, trivial, trivial⟩⟩, ⟨rfl, o_box rfl⟩, trivial⟩ rfl) ?_
    refine Dz.drw 3 [⟨[35,36,37,38,39,40,41,42,43,44,45,46,47,48,49], [2], 3, 3⟩, ⟨[34], [], 3, 3⟩, ⟨[34], [0], 3, 3⟩, ⟨[34], [], 3, 3⟩, ⟨[34], [], 3, 3⟩, ⟨[34,40,41], [], 3, 3⟩, ⟨[34,39], [], 3, 3⟩, ⟨[34,39], [0], 3, 3⟩, ⟨[34], [], 3, 3⟩, ⟨[34], [], 3, 3⟩, ⟨[34,45,46], [], 3, 3⟩, ⟨[34,44], [], 3, 3⟩, ⟨[34,44], [0], 3, 3⟩, ⟨[34], [], 3, 3⟩, ⟨[34], [], 3, 3⟩, ⟨[34], [], 3, 3⟩, ⟨[44,45,46,47,48,49], [1], 3, 3⟩, ⟨[], [], 3, 3⟩] ⟨by kernel_rfl, by kernel_rfl, rfl⟩ ?_
    refine vif hF (fun _ hF => ?_) (fun _ hF => ?_)
    · refine Dz.ret ?_
      cases hF
      exact finG [] [] rfl rfl ⟨⟨rfl, mls_same rfl⟩, ⟨rfl, mls_same rfl⟩, trivial⟩ trivial rfl
    · refine vif hF (fun _ hF => ?_) (fun _ hF => ?_)
      · refine Dz.ret ?_
        cases hF
        exact finG [] [] rfl rfl ⟨⟨rfl, mls_same rfl⟩, ⟨rfl, mls_same rfl⟩, trivial⟩ trivial rfl
      · refine Dz.ret ?_
        cases hF
        exact finG [] [] rfl rfl ⟨⟨rfl, mls_same rfl⟩, ⟨rfl, mls_same rfl⟩, trivial⟩ trivial rfl
end Go.Proofs.PanK

/-! Printed by wip/tools/walk.py. -/
namespace Go.Proofs.PanK
open Go.Vs
set_option maxRecDepth 8000
def i_search_find_b (rec : search → HistState → (List Bool) → (List Int) → Option ((List Int) × Bool × search × List Bool)) (a0 : search) (a1 : HistState) (a2 : (List Bool)) (a3 : (List Int)) : Option ((List Int) × Bool × search × List Bool) :=
  loopN (fun i2 (v7 : Bool) κ8 => lt (a0.calls.getD i2 default) (fun x9 => cond v7 (κ8 true) (ix a2 ((i2 : Nat) : Int) (fun _ => cond (!(a2.getD i2 default)) (κ8 (!decide (x9.End = 0))) (κ8 false))))) (fun (v7 : Bool) => cond (!v7) (some (a3, true, a0, a2)) ((i_histKey a2 a1).bind (fun y10 => cond (findS a0.tried y10) (some ([], false, a0, a2)) (loopN (fun i12 (v31 : search × List Bool) κ32 => lt (a0.calls.getD i12 default) (fun x33 => (i_search_next v31.1 v31.2 ((i12 : Nat) : Int)).bind (fun y34 => cond (!y34.1) (κ32 (y34.2.1, y34.2.2)) ((i_does a1 x33).bind (fun y35 => cond (!y35.2) (κ32 (y34.2.1, y34.2.2)) (ix y34.2.2 ((i12 : Nat) : Int) (fun _ => lt (y34.2.2.set i12 true) (fun r36 => (i_copied_int a3).bind (fun y37 => ck ((y37.length + 1) * 8 ≤ 140737488355328) ((rec y34.2.1 y35.1 r36 (y37 ++ ([((i12 : Nat) : Int)] : List Int))).bind (fun y38 => ix y38.2.2.2 ((i12 : Nat) : Int) (fun _ => lt (y38.2.2.2.set i12 false) (fun r39 => cond y38.2.1 (some (y38.1, true, y38.2.2.1, r39)) (κ32 (y38.2.2.1, r39))))))))))))))) (fun (v31 : search × List Bool) => some ([], false, ({ calls := v31.1.calls, tried := (putS v31.1.tried y10 true) } : search), v31.2)) a0.calls.length 0 (a0, a2))))) a0.calls.length 0 false
theorem i_search_find_bc {rec : search → HistState → (List Bool) → (List Int) → Option ((List Int) × Bool × search × List Bool)} (hrec : ∀ {t0_0 : Bool} {a0 : search} {a1 : HistState} {a2 : (List Bool)} {a3 : (List Int)} {r : (List Int) × Bool × search × List Bool} (hF : rec a0 a1 a2 a3 = some r), Con Tryd.prog 49 [.ptr 0 0, .val true (HistState.L a1), .val false [.row 2], .val false [.u (ul cInt 1 false a3)]] [.box 93 [.u (ul PanCall.c 12 t0_0 a0.calls), .row 1], .smap a0.tried, .row 4 a2.length 1 (gl cBool a2)] (.tup [(false, [.u (ul cInt 1 false r.1)]), (false, [.u (.bool r.2.1)])]) [.box 93 [.u (ul PanCall.c 12 t0_0 r.2.2.1.calls), .row 1], .smap r.2.2.1.tried, .row 4 r.2.2.2.length 1 (gl cBool r.2.2.2)]) {t0_0 : Bool} {a0 : search} {a1 : HistState} {a2 : (List Bool)} {a3 : (List Int)} {r : (List Int) × Bool × search × List Bool} (hF : i_search_find_b rec a0 a1 a2 a3 = some r) : Con Tryd.prog 49 [.ptr 0 0, .val true (HistState.L a1), .val false [.row 2], .val false [.u (ul cInt 1 false a3)]] [.box 93 [.u (ul PanCall.c 12 t0_0 a0.calls), .row 1], .smap a0.tried, .row 4 a2.length 1 (gl cBool a2)] (.tup [(false, [.u (ul cInt 1 false r.1)]), (false, [.u (.bool r.2.1)])]) [.box 93 [.u (ul PanCall.c 12 t0_0 r.2.2.1.calls), .row 1], .smap r.2.2.1.tried, .row 4 r.2.2.2.length 1 (gl cBool r.2.2.2)] := by
  refine Con.of_Dz tabOk Tryd.func49 rfl rfl rfl ?_
  delta i_search_find_b at hF
  refine Dz.seq ?_
  refine Dz.reg ?_
  refine Dz.seq ?_
  refine Dz.reg ?_
  refine Dz.seq ?_
  refine Dz.seq ?_
  refine Dz.reg ?_
  intro hb1; replace hb1 : a0.calls.length ≤ 140737488355328 := hb1
  refine Dz.blk ?_
  refine Dz.cnt hF (fun i2 v7 => ([(0, .ptr 0 0), (2, .val false [.row 2]), (3, .val false [.u (ul cInt 1 false a3)]), (5, .ptr 3 0), (10, vbool v7), (23, .val false [.u (ul PanCall.c 12 t0_0 a0.calls)]), (24, vint .i64 ((a0.calls.length : Nat) : Int)), (25, vint .i64 ((i2 : Nat) : Int))], [.box 93 [.u (ul PanCall.c 12 t0_0 a0.calls), .row 1], .smap a0.tried, .row 4 a2.length 1 (gl cBool a2), .box 88 (HistState.L a1)])) (entG [0, 1, 2, 3] ⟨m_ptr rfl, ⟨rfl, rfl, trivial⟩, m_val rfl, m_ptr rfl, m_val rfl, m_val rfl, m_val rfl, m_val rfl, trivial⟩ ⟨⟨rfl, ⟨rfl, LeU.refl _, rfl, trivial⟩⟩, ⟨rfl, rfl⟩, ⟨rfl, o_row⟩, ⟨rfl, o_box rfl⟩, trivial⟩ rfl) (fun v7 hF => ?_) (fun i2 v7 κ8 hi0i2 hi1i2 hF => ?_)
  · refine Dz.seq ?_
    refine Dz.reg ?_
    refine Dz.seq ?_
    refine Dz.ff (b := decide (((0 + a0.calls.length : Nat) : Int) < ((a0.calls.length : Nat) : Int))) rfl (decide_eq_false (by omega)) ?_
    refine Dz.exit ?_
    refine Dz.seq ?_
    refine Dz.seq ?_
    refine Dz.reg ?_
    refine Dz.ite rfl hF (fun _ hF => ?_) (fun _ hF => ?_)
    · refine Dz.seq ?_
      refine Dz.reg ?_
      refine Dz.ret ?_
      cases hF
      exact finG [] [0, 1, 2] rfl rfl ⟨⟨rfl, mls_same rfl⟩, ⟨rfl, mls_same rfl⟩, trivial⟩ ⟨⟨rfl, ⟨rfl, LeU.refl _, rfl, trivial⟩⟩, ⟨rfl, rfl⟩, ⟨rfl, o_row⟩, trivial⟩ rfl
    · refine Dz.skip ?_
      refine Dz.seq ?_
      refine Dz.reg ?_
      refine bdE hF (fun y10 hy10 hF => ?_)
      refine callL [] (i_histKey_c hy10) ⟨⟨rfl, ⟨rfl, rfl, LeU.refl _⟩, trivial⟩, m_val rfl, trivial⟩ trivial rfl ⟨⟨trivial, trivial⟩, trivial⟩ ?_
      refine Dz.seq ?_
      refine Dz.seq ?_
      refine Dz.reg ?_
      refine Dz.ite rfl hF (fun _ hF => ?_) (fun _ hF => ?_)
      · refine Dz.seq ?_
        refine Dz.reg ?_
        refine Dz.ret ?_
        cases hF
        exact finG [] [0, 1, 2] rfl rfl ⟨⟨rfl, ⟨⟨_, _, _, rfl⟩, trivial⟩⟩, ⟨rfl, mls_same rfl⟩, trivial⟩ ⟨⟨rfl, ⟨rfl, LeU.refl _, rfl, trivial⟩⟩, ⟨rfl, rfl⟩, ⟨rfl, o_row⟩, trivial⟩ rfl
      · refine Dz.skip ?_
        refine Dz.seq ?_
        refine Dz.seq ?_
        refine Dz.reg ?_
        intro hb11; replace hb11 : a0.calls.length ≤ 140737488355328 := hb11
        refine Dz.blk ?_
        refine Dz.cnt hF (fun i12 v31 => ([(0, .ptr 0 0), (2, .val false [.row 2]), (3, .val false [.u (ul cInt 1 false a3)]), (5, .ptr 3 0), (13, vstr y10), (59, .val false [.u (ul PanCall.c 12 t0_0 a0.calls)]), (60, vint .i64 ((a0.calls.length : Nat) : Int)), (61, vint .i64 ((i12 : Nat) : Int))], [.box 93 [.u (ul PanCall.c 12 t0_0 v31.1.calls), .row 1], .smap v31.1.tried, .row 4 v31.2.length 1 (gl cBool v31.2), .box 88 (HistState.L a1)])) (entG [0, 1, 2, 3] ⟨m_ptr rfl, ⟨rfl, rfl, trivial⟩, m_val rfl, m_ptr rfl, m_val rfl, m_val rfl, m_val rfl, m_val rfl, trivial⟩ ⟨⟨rfl, ⟨rfl, LeU.refl _, rfl, trivial⟩⟩, ⟨rfl, rfl⟩, ⟨rfl, o_row⟩, ⟨rfl, o_box rfl⟩, trivial⟩ rfl) (fun v31 hF => ?_) (fun i12 v31 κ32 hi0i12 hi1i12 hF => ?_)
        · refine Dz.seq ?_
          refine Dz.reg ?_
          refine Dz.seq ?_
          refine Dz.ff (b := decide (((0 + a0.calls.length : Nat) : Int) < ((a0.calls.length : Nat) : Int))) rfl (decide_eq_false (by omega)) ?_
          refine Dz.exit ?_
          refine Dz.seq ?_
          refine Dz.reg ?_
          refine Dz.seq ?_
          refine Dz.reg ?_
          refine Dz.ret ?_
          cases hF
          exact finG [] [0, 1, 2] rfl rfl ⟨⟨rfl, ⟨⟨_, _, _, rfl⟩, trivial⟩⟩, ⟨rfl, mls_same rfl⟩, trivial⟩ ⟨⟨rfl, ⟨rfl, LeU.refl _, rfl, trivial⟩⟩, ⟨rfl, rfl⟩, ⟨rfl, o_row⟩, trivial⟩ rfl
        · refine Dz.seq ?_
          refine Dz.reg ?_
          refine Dz.seq ?_
          refine Dz.tt (b := decide (((i12 : Nat) : Int) < ((a0.calls.length : Nat) : Int))) rfl (decide_eq_true (by omega)) ?_
          refine Dz.skip ?_
          refine Dz.seq ?_
          refine Dz.blk ?_
          refine Dz.seq ?_
          refine Dz.reg ?_
          refine vge (n := ((i12 : Nat) : Int)) (hi := (a0.calls.length : Int)) (by omega) (by omega) ?_
          have hF := ltE hF
          refine Dz.seq ?_
          refine Dz.seq ?_
          refine Dz.reg ?_
          refine bdE hF (fun y34 hy34 hF => ?_)
          refine callG [0, 1, 2] (i_search_next_c hy34) ⟨m_ptr rfl, ⟨rfl, rfl, trivial⟩, m_val rfl, trivial⟩ ⟨⟨rfl, ⟨rfl, LeU.refl _, rfl, trivial⟩⟩, ⟨rfl, rfl⟩, ⟨rfl, o_row⟩, trivial⟩ rfl ?_
          refine Dz.ite rfl hF (fun _ hF => ?_) (fun _ hF => ?_)
          · refine Dz.exit ?_
            refine Dz.reg ?_
            refine vsucc (by omega) ?_
            exact ⟨(y34.2.1, y34.2.2), entG [0, 1, 2, 3] ⟨m_ptr rfl, ⟨rfl, rfl, trivial⟩, m_val rfl, m_ptr rfl, m_val rfl, m_val rfl, m_val rfl, m_val rfl, trivial⟩ ⟨⟨rfl, ⟨rfl, LeU.refl _, rfl, trivial⟩⟩, ⟨rfl, rfl⟩, ⟨rfl, o_row⟩, ⟨rfl, o_box rfl⟩, trivial⟩ rfl, hF⟩
          · refine Dz.skip ?_
            refine Dz.seq ?_
            refine Dz.reg ?_
            refine bdE hF (fun y35 hy35 hF => ?_)
            refine callG [] (i_does_c hy35) ⟨m_val rfl, m_val rfl, trivial⟩ trivial rfl ?_
            refine Dz.seq ?_
            refine Dz.seq ?_
            refine Dz.reg ?_
            refine Dz.ite rfl hF (fun _ hF => ?_) (fun _ hF => ?_)
            · refine Dz.exit ?_
              refine Dz.reg ?_
              refine vsucc (by omega) ?_
              exact ⟨(y34.2.1, y34.2.2), entG [0, 1, 2, 3] ⟨m_ptr rfl, ⟨rfl, rfl, trivial⟩, m_val rfl, m_ptr rfl, m_val rfl, m_val rfl, m_val rfl, m_val rfl, trivial⟩ ⟨⟨rfl, ⟨rfl, LeU.refl _, rfl, trivial⟩⟩, ⟨rfl, rfl⟩, ⟨rfl, o_row⟩, ⟨rfl, o_box rfl⟩, trivial⟩ rfl, hF⟩
            · refine Dz.skip ?_
              refine Dz.seq ?_
              refine Dz.reg ?_
              refine vix hF (fun _ _ hF => ?_)
              refine ltX hF (fun r36 hr36 hF => ?_)
              have hlr36 : r36.length = y34.2.2.length := by rw [hr36]; simp <;> omega
              refine Dz.row 2 r36.length (gl cBool r36) rfl (by rw [hr36]; simp <;> omega) (by rw [hr36]; exact (EqG.set' rfl (EqG.refl _ _ _) ⟨LeU.refl _, trivial⟩)) ?_
              refine Dz.seq ?_
              refine Dz.ent (x := ([(0, .ptr 0 0), (2, .val false [.row 2]), (3, .val false [.u (ul cInt 1 false a3)]), (5, .ptr 3 0), (13, vstr y10), (14, vint .i64 ((i12 : Nat) : Int)), (16, .ptr 4 0), (59, .val false [.u (ul PanCall.c 12 t0_0 a0.calls)]), (60, vint .i64 ((a0.calls.length : Nat) : Int)), (61, vint .i64 ((i12 : Nat) : Int))], [.box 93 [.u (ul PanCall.c 12 t0_0 y34.2.1.calls), .row 1], .smap y34.2.1.tried, .row 4 r36.length 1 (gl cBool r36), .box 88 (HistState.L a1), .box 88 (HistState.L y35.1)])) (entG [0, 1, 2, 3, 5] ⟨m_ptr rfl, ⟨rfl, rfl, trivial⟩, m_val rfl, m_ptr rfl, m_val rfl, m_val rfl, m_ptr rfl, m_val rfl, m_val rfl, m_val rfl, trivial⟩ ⟨⟨rfl, ⟨rfl, LeU.refl _, rfl, trivial⟩⟩, ⟨rfl, rfl⟩, ⟨rfl, o_row⟩, ⟨rfl, o_box rfl⟩, ⟨rfl, o_box rfl⟩, trivial⟩ rfl) ?_
              refine Dz.drw 5 [⟨[84,85,86,87,88,89,90], [], 5, 5⟩, ⟨[83,85,86,87,88,89,90], [4], 5, 5⟩, ⟨[83,84,86,87,88,89,90], [], 5, 5⟩, ⟨[83,84,85,88,89], [], 5, 5⟩, ⟨[83,84,85,88,89], [], 5, 6⟩, ⟨[83,84,85,86,87], [], 6, 6⟩, ⟨[83,84,85,86,87], [], 6, 7⟩, ⟨[83,84,85], [5,6], 7, 8⟩, ⟨[], [0,1,2,7], 8, 8⟩, ⟨[], [], 8, 8⟩, ⟨[93], [], 8, 8⟩, ⟨[92,18], [], 8, 8⟩, ⟨[93], [], 8, 8⟩, ⟨[], [], 8, 8⟩] ⟨by kernel_rfl, by kernel_rfl, rfl⟩ ?_
              refine bdE hF (fun y37 hy37 hF => ?_)
              refine callG [] (i_copied_int_c hy37) ⟨m_val rfl, trivial⟩ trivial rfl ?_
              refine vck hF id (fun _ hF => ?_)
              refine bdE hF (fun y38 hy38 hF => ?_)
              refine callF [7] [0, 1, 2] (hrec hy38) ⟨m_ptr rfl, m_val rfl, ⟨rfl, rfl, trivial⟩, ⟨rfl, LeU.cut (by simp <;> omega) (EqG.app rfl (by simp <;> omega) (EqG.refl _ _ _) (EqG.lit (c := cInt) (sz := 1) (L := ([((i12 : Nat) : Int)] : List Int)) ⟨LeU.refl _, trivial⟩)), trivial⟩, trivial⟩ ⟨⟨rfl, ⟨rfl, LeU.refl _, rfl, trivial⟩⟩, ⟨rfl, rfl⟩, ⟨rfl, o_row⟩, trivial⟩ rfl ?_
              refine Dz.row 6 ([((i12 : Nat) : Int)] : List Int).length (gl cInt ([((i12 : Nat) : Int)] : List Int)) rfl (by simp <;> omega) (EqG.lit (c := cInt) (sz := 1) (L := ([((i12 : Nat) : Int)] : List Int)) ⟨LeU.refl _, trivial⟩) ?_
              refine Dz.seq ?_
              refine Dz.reg ?_
              refine vix hF (fun _ _ hF => ?_)
              refine ltX hF (fun r39 hr39 hF => ?_)
              have hlr39 : r39.length = y38.2.2.2.length := by rw [hr39]; simp <;> omega
              refine Dz.row 2 r39.length (gl cBool r39) rfl (by rw [hr39]; simp <;> omega) (by rw [hr39]; exact (EqG.set' rfl (EqG.refl _ _ _) ⟨LeU.refl _, trivial⟩)) ?_
              refine Dz.seq ?_
              refine Dz.reg ?_
              refine Dz.ite rfl hF (fun _ hF => ?_) (fun _ hF => ?_)
              · refine Dz.seq ?_
                refine Dz.reg ?_
                refine Dz.ret ?_
                cases hF
                exact finG [] [0, 1, 2] rfl rfl ⟨⟨rfl, mls_same rfl⟩, ⟨rfl, mls_same rfl⟩, trivial⟩ ⟨⟨rfl, ⟨rfl, LeU.refl _, rfl, trivial⟩⟩, ⟨rfl, rfl⟩, ⟨rfl, o_row⟩, trivial⟩ rfl
              · refine Dz.skip ?_
                refine Dz.reg ?_
                refine vsucc (by omega) ?_
                exact ⟨(y38.2.2.1, r39), entG [0, 1, 2, 3] ⟨m_ptr rfl, ⟨rfl, rfl, trivial⟩, m_val rfl, m_ptr rfl, m_val rfl, m_val rfl, m_val rfl, m_val rfl, trivial⟩ ⟨⟨rfl, ⟨rfl, LeU.refl _, rfl, trivial⟩⟩, ⟨rfl, rfl⟩, ⟨rfl, o_row⟩, ⟨rfl, o_box rfl⟩, trivial⟩ rfl, hF⟩
  · refine Dz.seq ?_
    refine Dz.reg ?_
    refine Dz.seq ?_
    refine Dz.tt (b := decide (((i2 : Nat) : Int) < ((a0.calls.length : Nat) : Int))) rfl (decide_eq_true (by omega)) ?_
    refine Dz.skip ?_
    refine Dz.seq ?_
    refine Dz.blk ?_
    refine Dz.seq ?_
    refine Dz.reg ?_
    refine vge (n := ((i2 : Nat) : Int)) (hi := (a0.calls.length : Int)) (by omega) (by omega) ?_
    have hF := ltE hF
    refine Dz.reg ?_
    refine vif hF (fun _ hF => ?_) (fun _ hF => ?_)
    · refine Dz.reg ?_
      refine vsucc (by omega) ?_
      exact ⟨true, entG [0, 1, 2, 3] ⟨m_ptr rfl, ⟨rfl, rfl, trivial⟩, m_val rfl, m_ptr rfl, m_val rfl, m_val rfl, m_val rfl, m_val rfl, trivial⟩ ⟨⟨rfl, ⟨rfl, LeU.refl _, rfl, trivial⟩⟩, ⟨rfl, rfl⟩, ⟨rfl, o_row⟩, ⟨rfl, o_box rfl⟩, trivial⟩ rfl, hF⟩
    · refine vix hF (fun _ _ hF => ?_)
      refine vif hF (fun _ hF => ?_) (fun _ hF => ?_)
      · refine Dz.reg ?_
        refine vsucc (by omega) ?_
        exact ⟨(!decide ((a0.calls.getD i2 default).End = 0)), entG [0, 1, 2, 3] ⟨m_ptr rfl, ⟨rfl, rfl, trivial⟩, m_val rfl, m_ptr rfl, m_val rfl, m_val rfl, m_val rfl, m_val rfl, trivial⟩ ⟨⟨rfl, ⟨rfl, LeU.refl _, rfl, trivial⟩⟩, ⟨rfl, rfl⟩, ⟨rfl, o_row⟩, ⟨rfl, o_box rfl⟩, trivial⟩ rfl, hF⟩
      · refine Dz.reg ?_
        refine vsucc (by omega) ?_
        exact ⟨false, entG [0, 1, 2, 3] ⟨m_ptr rfl, ⟨rfl, rfl, trivial⟩, m_val rfl, m_ptr rfl, m_val rfl, m_val rfl, m_val rfl, m_val rfl, trivial⟩ ⟨⟨rfl, ⟨rfl, LeU.refl _, rfl, trivial⟩⟩, ⟨rfl, rfl⟩, ⟨rfl, o_row⟩, ⟨rfl, o_box rfl⟩, trivial⟩ rfl, hF⟩
def i_search_find : Nat → search → HistState → (List Bool) → (List Int) → Option ((List Int) × Bool × search × List Bool)
  | 0, _, _, _, _ => none
  | k + 1, a0, a1, a2, a3 => i_search_find_b (i_search_find k) a0 a1 a2 a3
theorem i_search_find_c : ∀ {k : Nat} {t0_0 : Bool} {a0 : search} {a1 : HistState} {a2 : (List Bool)} {a3 : (List Int)} {r : (List Int) × Bool × search × List Bool} (hF : i_search_find k a0 a1 a2 a3 = some r), Con Tryd.prog 49 [.ptr 0 0, .val true (HistState.L a1), .val false [.row 2], .val false [.u (ul cInt 1 false a3)]] [.box 93 [.u (ul PanCall.c 12 t0_0 a0.calls), .row 1], .smap a0.tried, .row 4 a2.length 1 (gl cBool a2)] (.tup [(false, [.u (ul cInt 1 false r.1)]), (false, [.u (.bool r.2.1)])]) [.box 93 [.u (ul PanCall.c 12 t0_0 r.2.2.1.calls), .row 1], .smap r.2.2.1.tried, .row 4 r.2.2.2.length 1 (gl cBool r.2.2.2)] := by
  intro k
  induction k with
  | zero => intros; rename_i hF; cases hF
  | succ k ih => intros; rename_i hF; exact i_search_find_bc (rec := i_search_find k) ih hF
end Go.Proofs.PanK
