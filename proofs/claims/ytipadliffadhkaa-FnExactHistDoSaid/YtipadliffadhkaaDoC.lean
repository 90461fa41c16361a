/- Words and walks for the proof. -/
import Derived.Test.YtipadliffadhkaaDoB
set_option linter.unusedVariables false
set_option linter.unusedSimpArgs false
/-! Printed by wip/tools/walk.py. -/
namespace Go.Proofs.PanH
open Go.Vs
set_option maxRecDepth 8000
def s_BlkPut (a0 : (List BlkPiece)) (a1 : Int) (a2 : Int) (a3 : Int) (a4 : Int) : Option ((List BlkPiece) × Bool) :=
  (s_BlkOk a0).bind (fun y1 => cond (!y1) (some (([] : List BlkPiece), false)) (loopN (fun i2 (v23 : Bool × List BlkPiece) κ24 => lt (a0.getD i2 default) (fun x26 => jn (fun (v28 : Bool) => jn (fun (v31 : Bool × List BlkPiece) => cond (!v28) (ck ((v31.2.length + 1) * 32 ≤ 140737488355328) (κ24 (v31.1, (v31.2 ++ ([x26] : List BlkPiece))))) (κ24 (v31.1, v31.2))) (fun j32 => cond (!v23.1) ((s_l3Before x26 a1 a2 a3).bind (fun y33 => cond (!y33) (ck ((v23.2.length + 1) * 32 ≤ 140737488355328) (j32 (true, (v23.2 ++ ([({ Disk := a1, Block := a2, Epoch := a3, Data := a4 } : BlkPiece)] : List BlkPiece))))) (j32 (v23.1, v23.2)))) (j32 (v23.1, v23.2)))) (fun j34 => cond (decide (x26.Disk = a1)) (cond (decide (x26.Block = a2)) (j34 (decide (x26.Epoch = a3))) (j34 false)) (j34 false)))) (fun (v23 : Bool × List BlkPiece) => cond (!v23.1) (ck ((v23.2.length + 1) * 32 ≤ 140737488355328) ((s_BlkOk (v23.2 ++ ([({ Disk := a1, Block := a2, Epoch := a3, Data := a4 } : BlkPiece)] : List BlkPiece))).bind (fun y36 => cond (!y36) (ck ((0 + a0.length) * 32 ≤ 140737488355328) (some ((([] : List BlkPiece) ++ a0), false))) (some ((v23.2 ++ ([({ Disk := a1, Block := a2, Epoch := a3, Data := a4 } : BlkPiece)] : List BlkPiece)), true))))) ((s_BlkOk v23.2).bind (fun y37 => cond (!y37) (ck ((0 + a0.length) * 32 ≤ 140737488355328) (some ((([] : List BlkPiece) ++ a0), false))) (some (v23.2, true))))) a0.length 0 (false, ([] : List BlkPiece))))
theorem s_BlkPut_c {t0_0 : Bool} {a0 : (List BlkPiece)} {a1 : Int} {a2 : Int} {a3 : Int} {a4 : Int} {r : (List BlkPiece) × Bool} (hF : s_BlkPut a0 a1 a2 a3 a4 = some r) : Con Try.prog 107 [.val false [.u (ul BlkPiece.c 4 t0_0 a0)], vint .i64 a1, vint .i64 a2, vint .i64 a3, vint .i64 a4] [] (.tup [(false, [.row 0]), (false, [.u (.bool r.2)])]) [.row 108 r.1.length 4 (gl BlkPiece.c r.1)] := by
  refine Con.of_Dz tabOk Try.func107 rfl rfl rfl ?_
  delta s_BlkPut at hF
  refine Dz.seq ?_
  refine Dz.reg ?_
  refine Dz.seq ?_
  refine Dz.reg ?_
  refine Dz.row 0 ([] : List BlkPiece).length (gl BlkPiece.c ([] : List BlkPiece)) rfl (by simp <;> omega) EqG.nilr ?_
  refine Dz.seq ?_
  refine Dz.reg ?_
  refine Dz.seq ?_
  refine Dz.reg ?_
  refine Dz.seq ?_
  refine Dz.seq ?_
  refine Dz.reg ?_
  refine bdE hF (fun y1 hy1 hF => ?_)
  refine callG [] (s_BlkOk_c hy1) ⟨m_val rfl, trivial⟩ trivial rfl ?_
  refine Dz.ite rfl hF (fun _ hF => ?_) (fun _ hF => ?_)
  · refine Dz.seq ?_
    refine Dz.reg ?_
    refine Dz.ret ?_
    cases hF
    exact finG [] [0] rfl rfl ⟨⟨rfl, ⟨rfl, trivial⟩⟩, ⟨rfl, mls_same rfl⟩, trivial⟩ ⟨⟨rfl, o_row⟩, trivial⟩ rfl
  · refine Dz.skip ?_
    refine Dz.seq ?_
    refine Dz.seq ?_
    refine Dz.reg ?_
    refine Dz.blk ?_
    refine Dz.cnt hF (fun i2 v23 => ([(0, .val false [.u (ul BlkPiece.c 4 t0_0 a0)]), (1, vint .i64 a1), (2, vint .i64 a2), (3, vint .i64 a3), (12, .val false [.row 0]), (13, .ptr 1 0), (14, vbool v23.1), (15, vint .i64 ((i2 : Nat) : Int))], [.row 108 v23.2.length 4 (gl BlkPiece.c v23.2), .box 108 [.u (cI a1), .u (cI a2), .u (cI a3), .u (cI a4)]])) (entG [0, 1] ⟨m_val rfl, m_val rfl, m_val rfl, m_val rfl, ⟨rfl, rfl, trivial⟩, m_ptr rfl, m_val rfl, m_val rfl, trivial⟩ ⟨⟨rfl, o_row⟩, ⟨rfl, o_box rfl⟩, trivial⟩ rfl) (fun v23 hF => ?_) (fun i2 v23 κ24 hi0i2 hi1i2 hF => ?_)
    · refine Dz.seq ?_
      refine Dz.seq ?_
      refine Dz.reg ?_
      intro hb35; replace hb35 : a0.length ≤ 140737488355328 := hb35
      refine Dz.ff (b := decide (((0 + a0.length : Nat) : Int) < ((a0.length : Nat) : Int))) rfl (decide_eq_false (by omega)) ?_
      refine Dz.exit ?_
      refine Dz.seq ?_
      refine Dz.seq ?_
      refine Dz.reg ?_
      refine Dz.ite rfl hF (fun _ hF => ?_) (fun _ hF => ?_)
      · refine Dz.reg ?_
        refine vck hF id (fun _ hF => ?_)
        refine Dz.row 2 ([({ Disk := a1, Block := a2, Epoch := a3, Data := a4 } : BlkPiece)] : List BlkPiece).length (gl BlkPiece.c ([({ Disk := a1, Block := a2, Epoch := a3, Data := a4 } : BlkPiece)] : List BlkPiece)) rfl (by simp <;> omega) (EqG.lit (c := BlkPiece.c) (sz := 4) (L := ([({ Disk := a1, Block := a2, Epoch := a3, Data := a4 } : BlkPiece)] : List BlkPiece)) ⟨LeU.refl _, LeU.refl _, LeU.refl _, LeU.refl _, trivial⟩) ?_
        refine Dz.row 3 (v23.2 ++ ([({ Disk := a1, Block := a2, Epoch := a3, Data := a4 } : BlkPiece)] : List BlkPiece)).length (gl BlkPiece.c (v23.2 ++ ([({ Disk := a1, Block := a2, Epoch := a3, Data := a4 } : BlkPiece)] : List BlkPiece))) rfl (by simp <;> omega) (EqG.app rfl (by simp <;> omega) (EqG.refl _ _ _) (EqG.lit (c := BlkPiece.c) (sz := 4) (L := ([({ Disk := a1, Block := a2, Epoch := a3, Data := a4 } : BlkPiece)] : List BlkPiece)) ⟨LeU.refl _, LeU.refl _, LeU.refl _, LeU.refl _, trivial⟩)) ?_
        refine Dz.seq ?_
        refine Dz.seq ?_
        refine Dz.reg ?_
        refine bdE hF (fun y36 hy36 hF => ?_)
        refine callL [] (s_BlkOk_c hy36) ⟨⟨rfl, ⟨rfl, rfl, LeU.refl _⟩, trivial⟩, trivial⟩ trivial rfl ⟨⟨trivial, trivial⟩, trivial⟩ ?_
        refine Dz.ite rfl hF (fun _ hF => ?_) (fun _ hF => ?_)
        · refine Dz.seq ?_
          refine Dz.reg ?_
          refine vck hF id (fun _ hF => ?_)
          refine Dz.ret ?_
          cases hF
          exact finG [] [5] rfl rfl ⟨⟨rfl, ⟨rfl, trivial⟩⟩, ⟨rfl, mls_same rfl⟩, trivial⟩ ⟨⟨rfl, o_rowE (by simp <;> omega) (EqG.app (by simp <;> omega) rfl EqG.nilr (EqG.refl _ _ _))⟩, trivial⟩ rfl
        · refine Dz.skip ?_
          refine Dz.seq ?_
          refine Dz.reg ?_
          refine Dz.ret ?_
          cases hF
          exact finG [] [3] rfl rfl ⟨⟨rfl, ⟨rfl, trivial⟩⟩, ⟨rfl, mls_same rfl⟩, trivial⟩ ⟨⟨rfl, o_row⟩, trivial⟩ rfl
      · refine Dz.skip ?_
        refine Dz.seq ?_
        refine Dz.seq ?_
        refine Dz.reg ?_
        refine bdE hF (fun y37 hy37 hF => ?_)
        refine callL [] (s_BlkOk_c hy37) ⟨⟨rfl, ⟨rfl, rfl, LeU.refl _⟩, trivial⟩, trivial⟩ trivial rfl ⟨⟨trivial, trivial⟩, trivial⟩ ?_
        refine Dz.ite rfl hF (fun _ hF => ?_) (fun _ hF => ?_)
        · refine Dz.seq ?_
          refine Dz.reg ?_
          refine vck hF id (fun _ hF => ?_)
          refine Dz.ret ?_
          cases hF
          exact finG [] [3] rfl rfl ⟨⟨rfl, ⟨rfl, trivial⟩⟩, ⟨rfl, mls_same rfl⟩, trivial⟩ ⟨⟨rfl, o_rowE (by simp <;> omega) (EqG.app (by simp <;> omega) rfl EqG.nilr (EqG.refl _ _ _))⟩, trivial⟩ rfl
        · refine Dz.skip ?_
          refine Dz.seq ?_
          refine Dz.reg ?_
          refine Dz.ret ?_
          cases hF
          exact finG [] [0] rfl rfl ⟨⟨rfl, ⟨rfl, trivial⟩⟩, ⟨rfl, mls_same rfl⟩, trivial⟩ ⟨⟨rfl, o_row⟩, trivial⟩ rfl
    · refine Dz.seq ?_
      refine Dz.seq ?_
      refine Dz.reg ?_
      intro hb25; replace hb25 : a0.length ≤ 140737488355328 := hb25
      refine Dz.tt (b := decide (((i2 : Nat) : Int) < ((a0.length : Nat) : Int))) rfl (decide_eq_true (by omega)) ?_
      refine Dz.skip ?_
      refine Dz.seq ?_
      refine Dz.blk ?_
      refine Dz.seq ?_
      refine Dz.reg ?_
      refine vge (n := ((i2 : Nat) : Int)) (hi := (a0.length : Int)) (by omega) (by omega) ?_
      have hF := ltE hF
      refine Dz.jn hF (fun v28 => ([(0, .val false [.u (ul BlkPiece.c 4 t0_0 a0)]), (1, vint .i64 a1), (2, vint .i64 a2), (3, vint .i64 a3), (12, .val false [.row 0]), (13, .ptr 1 0), (14, vbool v23.1), (15, vint .i64 ((i2 : Nat) : Int)), (16, .ptr 2 0), (17, vbool v28)], [.row 108 v23.2.length 4 (gl BlkPiece.c v23.2), .box 108 [.u (cI a1), .u (cI a2), .u (cI a3), .u (cI a4)], .box 108 (BlkPiece.L (a0.getD i2 default))])) (fun v28 hF => ?_) (fun hF => ?_)
      · refine Dz.jn hF (fun v31 => ([(0, .val false [.u (ul BlkPiece.c 4 t0_0 a0)]), (1, vint .i64 a1), (2, vint .i64 a2), (3, vint .i64 a3), (12, .val false [.row 0]), (13, .ptr 1 0), (14, vbool v31.1), (15, vint .i64 ((i2 : Nat) : Int)), (16, .ptr 2 0), (17, vbool v28)], [.row 108 v31.2.length 4 (gl BlkPiece.c v31.2), .box 108 [.u (cI a1), .u (cI a2), .u (cI a3), .u (cI a4)], .box 108 (BlkPiece.L (a0.getD i2 default))])) (fun v31 hF => ?_) (fun hF => ?_)
        · refine Dz.seq ?_
          refine Dz.reg ?_
          refine Dz.ite rfl hF (fun _ hF => ?_) (fun _ hF => ?_)
          · refine Dz.reg ?_
            refine vck hF id (fun _ hF => ?_)
            refine Dz.row 3 ([(a0.getD i2 default)] : List BlkPiece).length (gl BlkPiece.c ([(a0.getD i2 default)] : List BlkPiece)) rfl (by simp <;> omega) (EqG.lit (c := BlkPiece.c) (sz := 4) (L := ([(a0.getD i2 default)] : List BlkPiece)) ⟨LeU.refl _, LeU.refl _, LeU.refl _, LeU.refl _, trivial⟩) ?_
            refine Dz.row 4 (v31.2 ++ ([(a0.getD i2 default)] : List BlkPiece)).length (gl BlkPiece.c (v31.2 ++ ([(a0.getD i2 default)] : List BlkPiece))) rfl (by simp <;> omega) (EqG.app rfl (by simp <;> omega) (EqG.refl _ _ _) (EqG.lit (c := BlkPiece.c) (sz := 4) (L := ([(a0.getD i2 default)] : List BlkPiece)) ⟨LeU.refl _, LeU.refl _, LeU.refl _, LeU.refl _, trivial⟩)) ?_
            refine Dz.reg ?_
            refine vsucc (by omega) ?_
            exact ⟨(v31.1, (v31.2 ++ ([(a0.getD i2 default)] : List BlkPiece))), entG [4, 1] ⟨m_val rfl, m_val rfl, m_val rfl, m_val rfl, ⟨rfl, rfl, trivial⟩, m_ptr rfl, m_val rfl, m_val rfl, trivial⟩ ⟨⟨rfl, o_row⟩, ⟨rfl, o_box rfl⟩, trivial⟩ rfl, hF⟩
          · refine Dz.skip ?_
            refine Dz.reg ?_
            refine vsucc (by omega) ?_
            exact ⟨(v31.1, v31.2), entG [0, 1] ⟨m_val rfl, m_val rfl, m_val rfl, m_val rfl, ⟨rfl, rfl, trivial⟩, m_ptr rfl, m_val rfl, m_val rfl, trivial⟩ ⟨⟨rfl, o_row⟩, ⟨rfl, o_box rfl⟩, trivial⟩ rfl, hF⟩
        · refine Dz.seq ?_
          refine Dz.reg ?_
          refine vif hF (fun _ hF => ?_) (fun _ hF => ?_)
          · refine bdE hF (fun y33 hy33 hF => ?_)
            refine callG [] (s_l3Before_c hy33) ⟨m_val rfl, m_val rfl, m_val rfl, m_val rfl, trivial⟩ trivial rfl ?_
            refine Dz.ite rfl hF (fun _ hF => ?_) (fun _ hF => ?_)
            · refine Dz.seq ?_
              refine Dz.reg ?_
              refine vck hF id (fun _ hF => ?_)
              refine Dz.row 3 ([({ Disk := a1, Block := a2, Epoch := a3, Data := a4 } : BlkPiece)] : List BlkPiece).length (gl BlkPiece.c ([({ Disk := a1, Block := a2, Epoch := a3, Data := a4 } : BlkPiece)] : List BlkPiece)) rfl (by simp <;> omega) (EqG.lit (c := BlkPiece.c) (sz := 4) (L := ([({ Disk := a1, Block := a2, Epoch := a3, Data := a4 } : BlkPiece)] : List BlkPiece)) ⟨LeU.refl _, LeU.refl _, LeU.refl _, LeU.refl _, trivial⟩) ?_
              refine Dz.row 4 (v23.2 ++ ([({ Disk := a1, Block := a2, Epoch := a3, Data := a4 } : BlkPiece)] : List BlkPiece)).length (gl BlkPiece.c (v23.2 ++ ([({ Disk := a1, Block := a2, Epoch := a3, Data := a4 } : BlkPiece)] : List BlkPiece))) rfl (by simp <;> omega) (EqG.app rfl (by simp <;> omega) (EqG.refl _ _ _) (EqG.lit (c := BlkPiece.c) (sz := 4) (L := ([({ Disk := a1, Block := a2, Epoch := a3, Data := a4 } : BlkPiece)] : List BlkPiece)) ⟨LeU.refl _, LeU.refl _, LeU.refl _, LeU.refl _, trivial⟩)) ?_
              refine Dz.reg ?_
              exact ⟨(true, (v23.2 ++ ([({ Disk := a1, Block := a2, Epoch := a3, Data := a4 } : BlkPiece)] : List BlkPiece))), entG [4, 1, 2] ⟨m_val rfl, m_val rfl, m_val rfl, m_val rfl, ⟨rfl, rfl, trivial⟩, m_ptr rfl, m_val rfl, m_val rfl, m_ptr rfl, m_val rfl, trivial⟩ ⟨⟨rfl, o_row⟩, ⟨rfl, o_box rfl⟩, ⟨rfl, o_box rfl⟩, trivial⟩ rfl, hF⟩
            · refine Dz.skip ?_
              exact ⟨(v23.1, v23.2), entG [0, 1, 2] ⟨m_val rfl, m_val rfl, m_val rfl, m_val rfl, ⟨rfl, rfl, trivial⟩, m_ptr rfl, m_val rfl, m_val rfl, m_ptr rfl, m_val rfl, trivial⟩ ⟨⟨rfl, o_row⟩, ⟨rfl, o_box rfl⟩, ⟨rfl, o_box rfl⟩, trivial⟩ rfl, hF⟩
          · refine Dz.ff (b := false) rfl rfl ?_
            refine Dz.skip ?_
            exact ⟨(v23.1, v23.2), entG [0, 1, 2] ⟨m_val rfl, m_val rfl, m_val rfl, m_val rfl, ⟨rfl, rfl, trivial⟩, m_ptr rfl, m_val rfl, m_val rfl, m_ptr rfl, m_val rfl, trivial⟩ ⟨⟨rfl, o_row⟩, ⟨rfl, o_box rfl⟩, ⟨rfl, o_box rfl⟩, trivial⟩ rfl, hF⟩
      · refine Dz.reg ?_
        refine vif hF (fun _ hF => ?_) (fun _ hF => ?_)
        · refine vif hF (fun _ hF => ?_) (fun _ hF => ?_)
          · exact ⟨(decide ((a0.getD i2 default).Epoch = a3)), entG [0, 1, 2] ⟨m_val rfl, m_val rfl, m_val rfl, m_val rfl, ⟨rfl, rfl, trivial⟩, m_ptr rfl, m_val rfl, m_val rfl, m_ptr rfl, m_val rfl, trivial⟩ ⟨⟨rfl, o_row⟩, ⟨rfl, o_box rfl⟩, ⟨rfl, o_box rfl⟩, trivial⟩ rfl, hF⟩
          · exact ⟨false, entG [0, 1, 2] ⟨m_val rfl, m_val rfl, m_val rfl, m_val rfl, ⟨rfl, rfl, trivial⟩, m_ptr rfl, m_val rfl, m_val rfl, m_ptr rfl, m_val rfl, trivial⟩ ⟨⟨rfl, o_row⟩, ⟨rfl, o_box rfl⟩, ⟨rfl, o_box rfl⟩, trivial⟩ rfl, hF⟩
        · exact ⟨false, entG [0, 1, 2] ⟨m_val rfl, m_val rfl, m_val rfl, m_val rfl, ⟨rfl, rfl, trivial⟩, m_ptr rfl, m_val rfl, m_val rfl, m_ptr rfl, m_val rfl, trivial⟩ ⟨⟨rfl, o_row⟩, ⟨rfl, o_box rfl⟩, ⟨rfl, o_box rfl⟩, trivial⟩ rfl, hF⟩
end Go.Proofs.PanH

/-! Printed by wip/tools/walk.py. -/
namespace Go.Proofs.PanH
open Go.Vs
set_option maxRecDepth 8000
def s_BlkGet (a0 : (List BlkPiece)) (a1 : Int) (a2 : Int) (a3 : Int) : Option (Int) :=
  (s_BlkOk a0).bind (fun y1 => cond (!y1) (some 0) (loopN (fun i2 (v7 : Int) κ8 => cond (decide ((a0.getD i2 default).Disk = a1)) (cond (decide ((a0.getD i2 default).Block = a2)) (cond (decide ((a0.getD i2 default).Epoch ≤ a3)) (κ8 ((a0.getD i2 default).Data)) (κ8 v7)) (κ8 v7)) (κ8 v7)) (fun (v7 : Int) => some v7) a0.length 0 0))
theorem s_BlkGet_c {t0_0 : Bool} {a0 : (List BlkPiece)} {a1 : Int} {a2 : Int} {a3 : Int} {r : Int} (hF : s_BlkGet a0 a1 a2 a3 = some r) : Con Try.prog 108 [.val false [.u (ul BlkPiece.c 4 t0_0 a0)], vint .i64 a1, vint .i64 a2, vint .i64 a3] [] (vint .i64 r) [] := by
  refine Con.of_Dz tabOk Try.func108 rfl rfl rfl ?_
  delta s_BlkGet at hF
  refine Dz.seq ?_
  refine Dz.reg ?_
  refine Dz.seq ?_
  refine Dz.reg ?_
  refine Dz.seq ?_
  refine Dz.seq ?_
  refine Dz.reg ?_
  refine bdE hF (fun y1 hy1 hF => ?_)
  refine callG [] (s_BlkOk_c hy1) ⟨m_val rfl, trivial⟩ trivial rfl ?_
  refine Dz.ite rfl hF (fun _ hF => ?_) (fun _ hF => ?_)
  · refine Dz.seq ?_
    refine Dz.reg ?_
    refine Dz.ret ?_
    cases hF
    exact finG [] [] rfl rfl (m_val rfl) trivial rfl
  · refine Dz.skip ?_
    refine Dz.seq ?_
    refine Dz.seq ?_
    refine Dz.reg ?_
    refine Dz.blk ?_
    refine Dz.cnt hF (fun i2 v7 => ([(0, .val false [.u (ul BlkPiece.c 4 t0_0 a0)]), (1, vint .i64 a1), (2, vint .i64 a2), (3, vint .i64 a3), (9, vint .i64 v7), (10, vint .i64 ((i2 : Nat) : Int))], [])) (entG [] ⟨m_val rfl, m_val rfl, m_val rfl, m_val rfl, m_val rfl, m_val rfl, trivial⟩ trivial rfl) (fun v7 hF => ?_) (fun i2 v7 κ8 hi0i2 hi1i2 hF => ?_)
    · refine Dz.seq ?_
      refine Dz.seq ?_
      refine Dz.reg ?_
      intro hb10; replace hb10 : a0.length ≤ 140737488355328 := hb10
      refine Dz.ff (b := decide (((0 + a0.length : Nat) : Int) < ((a0.length : Nat) : Int))) rfl (decide_eq_false (by omega)) ?_
      refine Dz.exit ?_
      refine Dz.seq ?_
      refine Dz.reg ?_
      refine Dz.ret ?_
      cases hF
      exact finG [] [] rfl rfl (m_val rfl) trivial rfl
    · refine Dz.seq ?_
      refine Dz.seq ?_
      refine Dz.reg ?_
      intro hb9; replace hb9 : a0.length ≤ 140737488355328 := hb9
      refine Dz.tt (b := decide (((i2 : Nat) : Int) < ((a0.length : Nat) : Int))) rfl (decide_eq_true (by omega)) ?_
      refine Dz.skip ?_
      refine Dz.seq ?_
      refine Dz.blk ?_
      refine Dz.seq ?_
      refine Dz.reg ?_
      refine vge (n := ((i2 : Nat) : Int)) (hi := (a0.length : Int)) (by omega) (by omega) ?_
      refine vif hF (fun _ hF => ?_) (fun _ hF => ?_)
      · refine vge (n := ((i2 : Nat) : Int)) (hi := (a0.length : Int)) (by omega) (by omega) ?_
        refine vif hF (fun _ hF => ?_) (fun _ hF => ?_)
        · refine vge (n := ((i2 : Nat) : Int)) (hi := (a0.length : Int)) (by omega) (by omega) ?_
          refine Dz.ite rfl hF (fun _ hF => ?_) (fun _ hF => ?_)
          · refine Dz.reg ?_
            refine vge (n := ((i2 : Nat) : Int)) (hi := (a0.length : Int)) (by omega) (by omega) ?_
            refine Dz.reg ?_
            refine vsucc (by omega) ?_
            exact ⟨((a0.getD i2 default).Data), entG [] ⟨m_val rfl, m_val rfl, m_val rfl, m_val rfl, m_val rfl, m_val rfl, trivial⟩ trivial rfl, hF⟩
          · refine Dz.skip ?_
            refine Dz.reg ?_
            refine vsucc (by omega) ?_
            exact ⟨v7, entG [] ⟨m_val rfl, m_val rfl, m_val rfl, m_val rfl, m_val rfl, m_val rfl, trivial⟩ trivial rfl, hF⟩
        · refine Dz.ff (b := false) rfl rfl ?_
          refine Dz.skip ?_
          refine Dz.reg ?_
          refine vsucc (by omega) ?_
          exact ⟨v7, entG [] ⟨m_val rfl, m_val rfl, m_val rfl, m_val rfl, m_val rfl, m_val rfl, trivial⟩ trivial rfl, hF⟩
      · refine Dz.ff (b := false) rfl rfl ?_
        refine Dz.skip ?_
        refine Dz.reg ?_
        refine vsucc (by omega) ?_
        exact ⟨v7, entG [] ⟨m_val rfl, m_val rfl, m_val rfl, m_val rfl, m_val rfl, m_val rfl, trivial⟩ trivial rfl, hF⟩
end Go.Proofs.PanH

/-! Printed by wip/tools/walk.py. -/
namespace Go.Proofs.PanH
open Go.Vs
set_option maxRecDepth 8000
def s_HistStep (a0 : HistState) (a1 : PanCall) : Option (HistState × Int × Int) :=
  (s_HistStateOk a0).bind (fun y1 => cond (!y1) (some (({ Next := 0, Servers := 0, Disks := [], Pieces := [] } : HistState), 5, 0)) ((s_l6In a1.Op 1 6).bind (fun y2 => cond (!y2) (some (({ Next := 0, Servers := 0, Disks := [], Pieces := [] } : HistState), 5, 0)) ((s_l63Copy a0).bind (fun y3 => cond (decide ((2 : Int) < a1.Op)) ((s_l63Admin y3 a1).bind (fun y4 => some (y4.1, y4.2.1, y4.2.2))) ((s_l63Judge y3 a1).bind (fun y5 => cond (!decide (y5 = 0)) (some (y3, y5, 0)) ((s_l63Disk y3 a1.Disk).bind (fun y6 => ix y3.Disks y6 (fun _ => lt (y3.Disks.getD y6.toNat default) (fun x7 => cond (decide (a1.Op = 2)) ((s_BlkPut y3.Pieces a1.Disk a1.Block x7.Epoch a1.Data).bind (fun y8 => some (({ Next := y3.Next, Servers := y3.Servers, Disks := y3.Disks, Pieces := y8.1 } : HistState), 0, 0))) (cond (decide (a1.Epoch = 0)) ((s_BlkGet y3.Pieces a1.Disk a1.Block x7.Epoch).bind (fun y9 => some (y3, 0, y9))) ((s_BlkGet y3.Pieces a1.Disk a1.Block a1.Epoch).bind (fun y10 => some (y3, 0, y10)))))))))))))))
theorem s_HistStep_c {t0_2 t0_3 : Bool} {a0 : HistState} {a1 : PanCall} {r : HistState × Int × Int} (hF : s_HistStep a0 a1 = some r) : Con Try.prog 59 [.val true [.u (cI a0.Next), .u (cI a0.Servers), .u (ul MapDisk.c 7 t0_2 a0.Disks), .u (ul BlkPiece.c 4 t0_3 a0.Pieces)], .val true (PanCall.L a1)] [] (.tup [(true, (HistState.L r.1)), (false, [.u (cI r.2.1)]), (false, [.u (cI r.2.2)])]) [] := by
  refine Con.of_Dz tabOk Try.func59 rfl rfl rfl ?_
  delta s_HistStep at hF
  refine Dz.seq ?_
  refine Dz.reg ?_
  refine Dz.seq ?_
  refine Dz.seq ?_
  refine Dz.reg ?_
  refine bdE hF (fun y1 hy1 hF => ?_)
  refine callG [] (s_HistStateOk_c hy1) ⟨m_val rfl, trivial⟩ trivial rfl ?_
  refine vif hF (fun _ hF => ?_) (fun _ hF => ?_)
  · refine Dz.tt (b := true) rfl rfl ?_
    refine Dz.seq ?_
    refine Dz.reg ?_
    refine Dz.ret ?_
    cases hF
    exact finG [] [] rfl rfl ⟨⟨rfl, ⟨LeU.refl _, LeU.refl _, ⟨_, _, _, rfl⟩, ⟨_, _, _, rfl⟩, trivial⟩⟩, ⟨rfl, mls_same rfl⟩, ⟨rfl, mls_same rfl⟩, trivial⟩ trivial rfl
  · refine bdE hF (fun y2 hy2 hF => ?_)
    refine callG [] (s_l6In_c hy2) ⟨m_val rfl, m_val rfl, m_val rfl, trivial⟩ trivial rfl ?_
    refine Dz.ite rfl hF (fun _ hF => ?_) (fun _ hF => ?_)
    · refine Dz.seq ?_
      refine Dz.reg ?_
      refine Dz.ret ?_
      cases hF
      exact finG [] [] rfl rfl ⟨⟨rfl, ⟨LeU.refl _, LeU.refl _, ⟨_, _, _, rfl⟩, ⟨_, _, _, rfl⟩, trivial⟩⟩, ⟨rfl, mls_same rfl⟩, ⟨rfl, mls_same rfl⟩, trivial⟩ trivial rfl
    · refine Dz.skip ?_
      refine Dz.seq ?_
      refine Dz.reg ?_
      refine bdE hF (fun y3 hy3 hF => ?_)
      refine callG [] (s_l63Copy_c hy3) ⟨m_val rfl, trivial⟩ trivial rfl ?_
      refine Dz.seq ?_
      refine Dz.seq ?_
      refine Dz.reg ?_
      refine Dz.ite rfl hF (fun _ hF => ?_) (fun _ hF => ?_)
      · refine Dz.seq ?_
        refine Dz.reg ?_
        refine bdE hF (fun y4 hy4 hF => ?_)
        refine callF [4] [3] (s_l63Admin_c hy4) ⟨⟨rfl, LeU.refl _, LeU.refl _, rfl, LeU.refl _, trivial⟩, m_val rfl, trivial⟩ ⟨⟨rfl, o_row⟩, trivial⟩ rfl ?_
        refine Dz.ret ?_
        cases hF
        exact finG [] [] rfl rfl ⟨⟨rfl, mls_same rfl⟩, ⟨rfl, mls_same rfl⟩, ⟨rfl, mls_same rfl⟩, trivial⟩ trivial rfl
      · refine Dz.skip ?_
        refine Dz.seq ?_
        refine Dz.reg ?_
        refine bdE hF (fun y5 hy5 hF => ?_)
        refine callL [] (s_l63Judge_c hy5) ⟨⟨rfl, LeU.refl _, LeU.refl _, ⟨rfl, rfl, LeU.refl _⟩, ⟨rfl, rfl, LeU.refl _⟩, trivial⟩, m_val rfl, trivial⟩ trivial rfl ⟨⟨trivial, trivial⟩, trivial⟩ ?_
        refine Dz.seq ?_
        refine Dz.seq ?_
        refine Dz.reg ?_
        refine Dz.ite rfl hF (fun _ hF => ?_) (fun _ hF => ?_)
        · refine Dz.seq ?_
          refine Dz.ent (x := ([(2, .ptr 0 0), (4, .ptr 1 0), (7, vint .i64 y5)], [.box 57 [.u (cI y3.Next), .u (cI y3.Servers), .row 2, .row 3], .box 57 [.u (cI 0), .u (cI 0), .nil, .nil], .row 145 y3.Disks.length 7 (gl MapDisk.c y3.Disks), .row 108 y3.Pieces.length 4 (gl BlkPiece.c y3.Pieces)])) (entG [0, 2, 3, 4] ⟨m_ptr rfl, m_ptr rfl, m_val rfl, trivial⟩ ⟨⟨rfl, ⟨rfl, LeU.refl _, LeU.refl _, rfl, rfl, trivial⟩⟩, ⟨rfl, ⟨rfl, LeU.refl _, LeU.refl _, trivial, trivial, trivial⟩⟩, ⟨rfl, o_row⟩, ⟨rfl, o_row⟩, trivial⟩ rfl) ?_
          refine Dz.reg ?_
          refine Dz.ret ?_
          cases hF
          exact finG [.frz 2, .frz 3] [] rfl rfl ⟨⟨rfl, ⟨LeU.refl _, LeU.refl _, LeU.refl _, LeU.refl _, trivial⟩⟩, ⟨rfl, mls_same rfl⟩, ⟨rfl, mls_same rfl⟩, trivial⟩ trivial rfl
        · refine Dz.skip ?_
          refine Dz.seq ?_
          refine Dz.ent (x := ([(2, .ptr 0 0), (3, .ptr 1 0), (4, .ptr 2 0)], [.box 57 [.u (cI y3.Next), .u (cI y3.Servers), .row 3, .row 4], .box 64 (PanCall.L a1), .box 57 [.u (cI 0), .u (cI 0), .nil, .nil], .row 145 y3.Disks.length 7 (gl MapDisk.c y3.Disks), .row 108 y3.Pieces.length 4 (gl BlkPiece.c y3.Pieces)])) (entG [0, 1, 2, 3, 4] ⟨m_ptr rfl, m_ptr rfl, m_ptr rfl, trivial⟩ ⟨⟨rfl, ⟨rfl, LeU.refl _, LeU.refl _, rfl, rfl, trivial⟩⟩, ⟨rfl, o_box rfl⟩, ⟨rfl, ⟨rfl, LeU.refl _, LeU.refl _, trivial, trivial, trivial⟩⟩, ⟨rfl, o_row⟩, ⟨rfl, o_row⟩, trivial⟩ rfl) ?_
          refine Dz.drw 5 [⟨[42,43,44,45,8], [], 5, 5⟩, ⟨[42,43,44,45,8], [0], 5, 5⟩, ⟨[40,41,43,44,8], [0], 5, 5⟩, ⟨[40,41,42,8], [], 5, 5⟩, ⟨[40,41,42,8], [1], 5, 5⟩, ⟨[40,41,8], [3,4], 5, 5⟩, ⟨[8], [3], 5, 5⟩, ⟨[8], [3], 5, 5⟩, ⟨[40,41,42,43,44,45,46,47], [], 5, 6⟩, ⟨[], [5], 6, 6⟩] ⟨by kernel_rfl, by kernel_rfl, rfl⟩ ?_
          refine bdE hF (fun y6 hy6 hF => ?_)
          refine callL [] (s_l63Disk_c hy6) ⟨⟨rfl, LeU.refl _, LeU.refl _, ⟨rfl, rfl, LeU.refl _⟩, ⟨rfl, rfl, LeU.refl _⟩, trivial⟩, m_val rfl, trivial⟩ trivial rfl ⟨⟨trivial, trivial⟩, trivial⟩ ?_
          refine vix hF (fun _ _ hF => ?_)
          have hF := ltE hF
          refine Dz.seq ?_
          refine Dz.seq ?_
          refine Dz.reg ?_
          refine Dz.ite rfl hF (fun _ hF => ?_) (fun _ hF => ?_)
          · refine Dz.seq ?_
            refine Dz.reg ?_
            refine bdE hF (fun y8 hy8 hF => ?_)
            refine callL [] (s_BlkPut_c hy8) ⟨⟨rfl, ⟨rfl, rfl, LeU.refl _⟩, trivial⟩, m_val rfl, m_val rfl, m_val rfl, m_val rfl, trivial⟩ trivial rfl ⟨⟨⟨trivial, trivial⟩, ⟨trivial, trivial⟩, trivial⟩, ⟨ntm_gl, trivial⟩⟩ ?_
            refine Dz.seq ?_
            refine Dz.reg ?_
            refine Dz.seq ?_
            refine Dz.ent (x := ([(2, .ptr 0 0), (4, .ptr 1 0)], [.box 57 [.u (cI y3.Next), .u (cI y3.Servers), .row 2, .row 3], .box 57 [.u (cI 0), .u (cI 0), .nil, .nil], .row 145 y3.Disks.length 7 (gl MapDisk.c y3.Disks), .row 108 y8.1.length 4 (gl BlkPiece.c y8.1)])) (entG [0, 2, 3, 6] ⟨m_ptr rfl, m_ptr rfl, trivial⟩ ⟨⟨rfl, ⟨rfl, LeU.refl _, LeU.refl _, rfl, rfl, trivial⟩⟩, ⟨rfl, ⟨rfl, LeU.refl _, LeU.refl _, trivial, trivial, trivial⟩⟩, ⟨rfl, o_row⟩, ⟨rfl, o_row⟩, trivial⟩ rfl) ?_
            refine Dz.reg ?_
            refine Dz.ret ?_
            cases hF
            exact finG [.frz 2, .frz 3] [] rfl rfl ⟨⟨rfl, ⟨LeU.refl _, LeU.refl _, LeU.refl _, LeU.refl _, trivial⟩⟩, ⟨rfl, mls_same rfl⟩, ⟨rfl, mls_same rfl⟩, trivial⟩ trivial rfl
          · refine Dz.skip ?_
            refine Dz.seq ?_
            refine Dz.reg ?_
            refine Dz.seq ?_
            refine Dz.seq ?_
            refine Dz.reg ?_
            refine Dz.ite rfl hF (fun _ hF => ?_) (fun _ hF => ?_)
            · refine Dz.reg ?_
              refine Dz.seq ?_
              refine Dz.drw 6 [⟨[75,76,77,78,79,80,81,82], [0], 6, 6⟩, ⟨[74,77,78,79,80,81], [], 6, 6⟩, ⟨[74,77,78,79,80,81], [0], 6, 6⟩, ⟨[74,75,76,79,80,81], [], 6, 6⟩, ⟨[74,75,76,79,80,81], [1], 6, 6⟩, ⟨[74,75,76,77,78,81], [], 6, 6⟩, ⟨[74,75,76,77,78,81], [1], 6, 6⟩, ⟨[74,75,76,77,78,79,80], [], 6, 6⟩, ⟨[74], [4], 6, 6⟩, ⟨[], [2], 6, 6⟩, ⟨[], [], 6, 6⟩, ⟨[], [], 6, 6⟩] ⟨by kernel_rfl, by kernel_rfl, rfl⟩ ?_
              refine bdE hF (fun y9 hy9 hF => ?_)
              refine callL [] (s_BlkGet_c hy9) ⟨⟨rfl, ⟨rfl, rfl, LeU.refl _⟩, trivial⟩, m_val rfl, m_val rfl, m_val rfl, trivial⟩ trivial rfl ⟨⟨trivial, trivial⟩, trivial⟩ ?_
              refine Dz.ret ?_
              cases hF
              exact finG [.frz 3, .frz 4] [] rfl rfl ⟨⟨rfl, ⟨LeU.refl _, LeU.refl _, LeU.refl _, LeU.refl _, trivial⟩⟩, ⟨rfl, mls_same rfl⟩, ⟨rfl, mls_same rfl⟩, trivial⟩ trivial rfl
            · refine Dz.skip ?_
              refine Dz.seq ?_
              refine Dz.drw 6 [⟨[75,76,77,78,79,80,81,82], [0], 6, 6⟩, ⟨[74,77,78,79,80,81], [], 6, 6⟩, ⟨[74,77,78,79,80,81], [0], 6, 6⟩, ⟨[74,75,76,79,80,81], [], 6, 6⟩, ⟨[74,75,76,79,80,81], [1], 6, 6⟩, ⟨[74,75,76,77,78,81], [], 6, 6⟩, ⟨[74,75,76,77,78,81], [1], 6, 6⟩, ⟨[74,75,76,77,78,79,80], [], 6, 6⟩, ⟨[74], [4], 6, 6⟩, ⟨[], [2], 6, 6⟩, ⟨[], [], 6, 6⟩, ⟨[], [], 6, 6⟩] ⟨by kernel_rfl, by kernel_rfl, rfl⟩ ?_
              refine bdE hF (fun y10 hy10 hF => ?_)
              refine callL [] (s_BlkGet_c hy10) ⟨⟨rfl, ⟨rfl, rfl, LeU.refl _⟩, trivial⟩, m_val rfl, m_val rfl, m_val rfl, trivial⟩ trivial rfl ⟨⟨trivial, trivial⟩, trivial⟩ ?_
              refine Dz.ret ?_
              cases hF
              exact finG [.frz 3, .frz 4] [] rfl rfl ⟨⟨rfl, ⟨LeU.refl _, LeU.refl _, LeU.refl _, LeU.refl _, trivial⟩⟩, ⟨rfl, mls_same rfl⟩, ⟨rfl, mls_same rfl⟩, trivial⟩ trivial rfl
end Go.Proofs.PanH

/-! Printed by wip/tools/walk.py. -/
namespace Go.Proofs.PanH
open Go.Vs
set_option maxRecDepth 8000
def s_l63Fits (a0 : HistState) (a1 : PanCall) : Option (HistState × Bool) :=
  jn (fun (v1 : Unit) => (s_HistStep a0 a1).bind (fun y2 => cond (decide (a1.End = 0)) (some (y2.1, true)) (cond (decide (y2.2.1 = a1.Code)) (some (y2.1, decide (y2.2.2 = a1.Value))) (some (y2.1, false))))) (fun j3 => cond (decide ((0 : Int) < a1.End)) (cond (decide (a1.Code = 5)) (cond (decide (a1.Op = 4)) (some (a0, decide (a1.Value = 0))) (cond (decide (a1.Op = 5)) (some (a0, decide (a1.Value = 0))) (some (a0, false)))) (j3 ())) (j3 ()))
theorem s_l63Fits_c {a0 : HistState} {a1 : PanCall} {r : HistState × Bool} (hF : s_l63Fits a0 a1 = some r) : Con Try.prog 22 [.val true (HistState.L a0), .val true (PanCall.L a1)] [] (.tup [(true, (HistState.L r.1)), (false, [.u (.bool r.2)])]) [] := by
  refine Con.of_Dz tabOk Try.func22 rfl rfl rfl ?_
  delta s_l63Fits at hF
  refine Dz.seq ?_
  refine Dz.reg ?_
  refine Dz.jn hF (fun v1 => ([(2, .ptr 0 0), (3, .ptr 1 0), (4, .ptr 2 0)], [.box 57 (HistState.L a0), .box 64 (PanCall.L a1), .box 57 [.u (cI 0), .u (cI 0), .nil, .nil]])) (fun v1 hF => ?_) (fun hF => ?_)
  · refine Dz.seq ?_
    refine Dz.reg ?_
    refine bdE hF (fun y2 hy2 hF => ?_)
    refine callG [] (s_HistStep_c hy2) ⟨m_val rfl, m_val rfl, trivial⟩ trivial rfl ?_
    refine Dz.seq ?_
    refine Dz.drw 4 [⟨[39,40,41,42,43,44,45,46,47,48,49,50,51,52,53], [3], 4, 4⟩, ⟨[38], [], 4, 4⟩, ⟨[38], [1], 4, 4⟩, ⟨[38], [], 4, 4⟩, ⟨[38], [], 4, 4⟩, ⟨[38,44,45], [], 4, 4⟩, ⟨[38,43], [], 4, 4⟩, ⟨[38,43], [1], 4, 4⟩, ⟨[38], [], 4, 4⟩, ⟨[38], [], 4, 4⟩, ⟨[38,49,50], [], 4, 4⟩, ⟨[38,48], [], 4, 4⟩, ⟨[38,48], [1], 4, 4⟩, ⟨[38], [], 4, 4⟩, ⟨[38], [], 4, 4⟩, ⟨[38], [], 4, 4⟩, ⟨[48,49,50,51,52,53], [2], 4, 4⟩, ⟨[], [], 4, 4⟩] ⟨by kernel_rfl, by kernel_rfl, rfl⟩ ?_
    refine vif hF (fun _ hF => ?_) (fun _ hF => ?_)
    · refine Dz.ret ?_
      cases hF
      exact finG [] [] rfl rfl ⟨⟨rfl, mls_same rfl⟩, ⟨rfl, mls_same rfl⟩, trivial⟩ trivial rfl
    · refine vif hF (fun _ hF => ?_) (fun _ hF => ?_)
      · refine Dz.ret ?_
        cases hF
        exact finG [] [] rfl rfl ⟨⟨rfl, mls_same rfl⟩, ⟨rfl, mls_same rfl⟩, trivial⟩ trivial rfl
      · refine Dz.ret ?_
        cases hF
        exact finG [] [] rfl rfl ⟨⟨rfl, mls_same rfl⟩, ⟨rfl, mls_same rfl⟩, trivial⟩ trivial rfl
  · refine Dz.seq ?_
    refine Dz.reg ?_
    refine vif hF (fun _ hF => ?_) (fun _ hF => ?_)
    · refine Dz.ite rfl hF (fun _ hF => ?_) (fun _ hF => ?_)
      · refine Dz.seq ?_
        refine Dz.drw 3 [⟨[18,19,20,21,22,23,24,25,26,27,28,29,30], [0], 3, 3⟩, ⟨[17], [], 3, 3⟩, ⟨[17], [1], 3, 3⟩, ⟨[17], [], 3, 3⟩, ⟨[17], [], 3, 3⟩, ⟨[17], [], 3, 3⟩, ⟨[17], [1], 3, 3⟩, ⟨[17], [], 3, 3⟩, ⟨[17], [], 3, 3⟩, ⟨[17], [], 3, 3⟩, ⟨[17], [], 3, 3⟩, ⟨[17], [1], 3, 3⟩, ⟨[17], [], 3, 3⟩, ⟨[17], [], 3, 3⟩, ⟨[27,28,29,30], [2], 3, 3⟩, ⟨[], [], 3, 3⟩] ⟨by kernel_rfl, by kernel_rfl, rfl⟩ ?_
        refine vif hF (fun _ hF => ?_) (fun _ hF => ?_)
        · refine Dz.ret ?_
          cases hF
          exact finG [] [] rfl rfl ⟨⟨rfl, mls_same rfl⟩, ⟨rfl, mls_same rfl⟩, trivial⟩ trivial rfl
        · refine vif hF (fun _ hF => ?_) (fun _ hF => ?_)
          · refine Dz.ret ?_
            cases hF
            exact finG [] [] rfl rfl ⟨⟨rfl, mls_same rfl⟩, ⟨rfl, mls_same rfl⟩, trivial⟩ trivial rfl
          · refine Dz.ret ?_
            cases hF
            exact finG [] [] rfl rfl ⟨⟨rfl, mls_same rfl⟩, ⟨rfl, mls_same rfl⟩, trivial⟩ trivial rfl
      · refine Dz.skip ?_
        exact ⟨(), entG [0, 1, 2] ⟨m_ptr rfl, m_ptr rfl, m_ptr rfl, trivial⟩ ⟨⟨rfl, o_box rfl⟩, ⟨rfl, o_box rfl⟩, ⟨rfl, ⟨rfl, LeU.refl _, LeU.refl _, trivial, trivial, trivial⟩⟩, trivial⟩ rfl, hF⟩
    · refine Dz.ff (b := false) rfl rfl ?_
      refine Dz.skip ?_
      exact ⟨(), entG [0, 1, 2] ⟨m_ptr rfl, m_ptr rfl, m_ptr rfl, trivial⟩ ⟨⟨rfl, o_box rfl⟩, ⟨rfl, o_box rfl⟩, ⟨rfl, ⟨rfl, LeU.refl _, LeU.refl _, trivial, trivial, trivial⟩⟩, trivial⟩ rfl, hF⟩
end Go.Proofs.PanH

/-! Printed by wip/tools/walk.py. -/
namespace Go.Proofs.PanH
open Go.Vs
set_option maxRecDepth 8000
def s_HistDo (a0 : (List PanCall)) (a1 : (List Int)) : Option (Bool) :=
  (s_l61CallsOk a0 99999).bind (fun y1 => cond (!y1) (some false) (cond (decide (((a0.length : Nat) : Int) < ((a1.length : Nat) : Int))) (some false) (ck (0 ≤ ((a0.length : Nat) : Int) ∧ ((a0.length : Nat) : Int) * 1 ≤ 140737488355328) ((s_HistStart).bind (fun y5 => loopN (fun i6 (v23 : List Bool × HistState) κ24 => (s_l6In (a1.getD i6 default) 0 (((a0.length : Nat) : Int) - 1)).bind (fun y27 => cond (!y27) (some false) ((s_l63May a0 v23.1 (a1.getD i6 default)).bind (fun y28 => cond (!y28) (some false) (ix a0 (a1.getD i6 default) (fun x29 => (s_l63Fits v23.2 x29).bind (fun y30 => cond (!y30.2) (some false) (ix v23.1 (a1.getD i6 default) (fun _ => κ24 ((v23.1.set (a1.getD i6 default).toNat true), y30.1)))))))))) (fun (v23 : List Bool × HistState) => loopN (fun i32 (v34 : Unit) κ35 => ix v23.1 ((i32 : Nat) : Int) (fun _ => cond (!(v23.1.getD i32 default)) (cond (decide ((0 : Int) < (a0.getD i32 default).End)) (some false) (κ35 ())) (κ35 ()))) (fun (v34 : Unit) => some true) a0.length 0 ()) a1.length 0 ((List.replicate a0.length (false : Bool)), y5))))))
theorem s_HistDo_c {t0_0 t1_0 : Bool} {a0 : (List PanCall)} {a1 : (List Int)} {r : Bool} (hF : s_HistDo a0 a1 = some r) : Con Try.prog 6 [.val false [.u (ul PanCall.c 12 t0_0 a0)], .val false [.u (ul cInt 1 t1_0 a1)]] [] (vbool r) [] := by
  refine Con.of_Dz tabOk Try.func6 rfl rfl rfl ?_
  delta s_HistDo at hF
  refine Dz.seq ?_
  refine Dz.reg ?_
  refine Dz.seq ?_
  refine Dz.seq ?_
  refine Dz.reg ?_
  refine bdE hF (fun y1 hy1 hF => ?_)
  refine callG [] (s_l61CallsOk_c hy1) ⟨m_val rfl, m_val rfl, trivial⟩ trivial rfl ?_
  refine vif hF (fun _ hF => ?_) (fun _ hF => ?_)
  · refine Dz.tt (b := true) rfl rfl ?_
    refine Dz.seq ?_
    refine Dz.reg ?_
    refine Dz.ret ?_
    cases hF
    exact finG [] [] rfl rfl (m_val rfl) trivial rfl
  · intro hb2; replace hb2 : a1.length ≤ 140737488355328 := hb2
    intro hb3; replace hb3 : a0.length ≤ 140737488355328 := hb3
    refine Dz.ite rfl hF (fun _ hF => ?_) (fun _ hF => ?_)
    · refine Dz.seq ?_
      refine Dz.reg ?_
      refine Dz.ret ?_
      cases hF
      exact finG [] [] rfl rfl (m_val rfl) trivial rfl
    · refine Dz.skip ?_
      refine Dz.seq ?_
      refine Dz.reg ?_
      intro hb4; replace hb4 : a0.length ≤ 140737488355328 := hb4
      refine vck hF (fun h => ⟨rfl, h⟩) (fun hk hF => ?_)
      refine Dz.row 0 (List.replicate a0.length (false : Bool)).length (gl cBool (List.replicate a0.length (false : Bool))) rfl (by simp <;> omega) (EqG.rep' (c := cBool) (sz := 1) _ ⟨LeU.refl _, trivial⟩) ?_
      refine Dz.seq ?_
      refine Dz.reg ?_
      refine bdE hF (fun y5 hy5 hF => ?_)
      refine callG [] (s_HistStart_c hy5) trivial trivial rfl ?_
      refine Dz.seq ?_
      refine Dz.seq ?_
      refine Dz.reg ?_
      refine Dz.blk ?_
      refine Dz.cnt hF (fun i6 v23 => ([(0, .val false [.u (ul PanCall.c 12 t0_0 a0)]), (1, .val false [.u (ul cInt 1 t1_0 a1)]), (5, .val false [.row 0]), (6, .ptr 1 0), (7, vint .i64 ((i6 : Nat) : Int))], [.row 4 v23.1.length 1 (gl cBool v23.1), .box 57 (HistState.L v23.2)])) (entG [0, 1] ⟨m_val rfl, m_val rfl, ⟨rfl, rfl, trivial⟩, m_ptr rfl, m_val rfl, trivial⟩ ⟨⟨rfl, o_row⟩, ⟨rfl, o_box rfl⟩, trivial⟩ rfl) (fun v23 hF => ?_) (fun i6 v23 κ24 hi0i6 hi1i6 hF => ?_)
      · refine Dz.seq ?_
        refine Dz.seq ?_
        refine Dz.reg ?_
        intro hb31; replace hb31 : a1.length ≤ 140737488355328 := hb31
        refine Dz.ff (b := decide (((0 + a1.length : Nat) : Int) < ((a1.length : Nat) : Int))) rfl (decide_eq_false (by omega)) ?_
        refine Dz.exit ?_
        refine Dz.seq ?_
        refine Dz.seq ?_
        refine Dz.reg ?_
        refine Dz.blk ?_
        refine Dz.cnt hF (fun i32 v34 => ([(0, .val false [.u (ul PanCall.c 12 t0_0 a0)]), (5, .val false [.row 0]), (10, vint .i64 ((i32 : Nat) : Int))], [.row 4 v23.1.length 1 (gl cBool v23.1)])) (entG [0] ⟨m_val rfl, ⟨rfl, rfl, trivial⟩, m_val rfl, trivial⟩ ⟨⟨rfl, o_row⟩, trivial⟩ rfl) (fun v34 hF => ?_) (fun i32 v34 κ35 hi0i32 hi1i32 hF => ?_)
        · refine Dz.seq ?_
          refine Dz.seq ?_
          refine Dz.reg ?_
          intro hb37; replace hb37 : a0.length ≤ 140737488355328 := hb37
          refine Dz.ff (b := decide (((0 + a0.length : Nat) : Int) < ((a0.length : Nat) : Int))) rfl (decide_eq_false (by omega)) ?_
          refine Dz.exit ?_
          refine Dz.seq ?_
          refine Dz.reg ?_
          refine Dz.ret ?_
          cases hF
          exact finG [] [] rfl rfl (m_val rfl) trivial rfl
        · refine Dz.seq ?_
          refine Dz.seq ?_
          refine Dz.reg ?_
          intro hb36; replace hb36 : a0.length ≤ 140737488355328 := hb36
          refine Dz.tt (b := decide (((i32 : Nat) : Int) < ((a0.length : Nat) : Int))) rfl (decide_eq_true (by omega)) ?_
          refine Dz.skip ?_
          refine Dz.seq ?_
          refine Dz.blk ?_
          refine Dz.seq ?_
          refine Dz.reg ?_
          refine vix hF (fun _ _ hF => ?_)
          refine vif hF (fun _ hF => ?_) (fun _ hF => ?_)
          · refine vge (n := ((i32 : Nat) : Int)) (hi := (a0.length : Int)) (by omega) (by omega) ?_
            refine Dz.ite rfl hF (fun _ hF => ?_) (fun _ hF => ?_)
            · refine Dz.seq ?_
              refine Dz.reg ?_
              refine Dz.ret ?_
              cases hF
              exact finG [] [] rfl rfl (m_val rfl) trivial rfl
            · refine Dz.skip ?_
              refine Dz.reg ?_
              refine vsucc (by omega) ?_
              exact ⟨(), entG [0] ⟨m_val rfl, ⟨rfl, rfl, trivial⟩, m_val rfl, trivial⟩ ⟨⟨rfl, o_row⟩, trivial⟩ rfl, hF⟩
          · refine Dz.ff (b := false) rfl rfl ?_
            refine Dz.skip ?_
            refine Dz.reg ?_
            refine vsucc (by omega) ?_
            exact ⟨(), entG [0] ⟨m_val rfl, ⟨rfl, rfl, trivial⟩, m_val rfl, trivial⟩ ⟨⟨rfl, o_row⟩, trivial⟩ rfl, hF⟩
      · refine Dz.seq ?_
        refine Dz.seq ?_
        refine Dz.reg ?_
        intro hb25; replace hb25 : a1.length ≤ 140737488355328 := hb25
        refine Dz.tt (b := decide (((i6 : Nat) : Int) < ((a1.length : Nat) : Int))) rfl (decide_eq_true (by omega)) ?_
        refine Dz.skip ?_
        refine Dz.seq ?_
        refine Dz.blk ?_
        refine Dz.seq ?_
        refine Dz.seq ?_
        refine Dz.reg ?_
        refine vge (n := ((i6 : Nat) : Int)) (hi := (a1.length : Int)) (by omega) (by omega) ?_
        intro hb26; replace hb26 : a0.length ≤ 140737488355328 := hb26
        refine ⟨(((a0.length : Nat) : Int) - 1), wrap64 (by omega) (by omega), ?_⟩
        refine bdE hF (fun y27 hy27 hF => ?_)
        refine callG [] (s_l6In_c hy27) ⟨m_val rfl, m_val rfl, m_val rfl, trivial⟩ trivial rfl ?_
        refine vif hF (fun _ hF => ?_) (fun _ hF => ?_)
        · refine Dz.tt (b := true) rfl rfl ?_
          refine Dz.seq ?_
          refine Dz.reg ?_
          refine Dz.ret ?_
          cases hF
          exact finG [] [] rfl rfl (m_val rfl) trivial rfl
        · refine vge (n := ((i6 : Nat) : Int)) (hi := (a1.length : Int)) (by omega) (by omega) ?_
          refine bdE hF (fun y28 hy28 hF => ?_)
          refine callL [] (s_l63May_c hy28) ⟨m_val rfl, ⟨rfl, ⟨rfl, rfl, LeU.refl _⟩, trivial⟩, m_val rfl, trivial⟩ trivial rfl ⟨⟨trivial, trivial⟩, trivial⟩ ?_
          refine Dz.ite rfl hF (fun _ hF => ?_) (fun _ hF => ?_)
          · refine Dz.seq ?_
            refine Dz.reg ?_
            refine Dz.ret ?_
            cases hF
            exact finG [] [] rfl rfl (m_val rfl) trivial rfl
          · refine Dz.skip ?_
            refine Dz.seq ?_
            refine Dz.ent (x := ([(0, .val false [.u (ul PanCall.c 12 t0_0 a0)]), (1, .val false [.u (ul cInt 1 t1_0 a1)]), (5, .val false [.row 0]), (6, .ptr 1 0), (7, vint .i64 ((i6 : Nat) : Int)), (41, .val false [.u (ul PanCall.c 12 t0_0 a0)]), (42, .val false [.row 0]), (43, .val false [.u (ul cInt 1 t1_0 a1)]), (44, vint .i64 ((i6 : Nat) : Int)), (46, vint .i64 (a1.getD i6 default)), (47, vbool y28), (48, vbool (!y28))], [.row 4 v23.1.length 1 (gl cBool v23.1), .box 57 (HistState.L v23.2)])) (entG [0, 1] ⟨m_val rfl, m_val rfl, ⟨rfl, rfl, trivial⟩, m_ptr rfl, m_val rfl, m_val rfl, ⟨rfl, rfl, trivial⟩, m_val rfl, m_val rfl, m_val rfl, m_val rfl, m_val rfl, trivial⟩ ⟨⟨rfl, o_row⟩, ⟨rfl, o_box rfl⟩, trivial⟩ rfl) ?_
            refine Dz.drw 2 [⟨[52,53,54,55,56,57,58,8], [1], 2, 2⟩, ⟨[51,53,54,55,56,8], [], 2, 2⟩, ⟨[51,52,54,8], [], 2, 2⟩, ⟨[51,52,53,8], [], 2, 2⟩, ⟨[51,52,8], [], 2, 2⟩, ⟨[51,52,8], [], 2, 2⟩, ⟨[51,8], [], 2, 2⟩, ⟨[51,8], [], 2, 2⟩, ⟨[8], [], 2, 2⟩, ⟨[8], [], 2, 2⟩, ⟨[61,8], [], 2, 2⟩, ⟨[60,8], [], 2, 2⟩, ⟨[51,52,53,54,55,56,57,58,59,50,60,61], [], 2, 3⟩, ⟨[61], [2], 3, 3⟩, ⟨[], [], 3, 3⟩] ⟨by kernel_rfl, by kernel_rfl, rfl⟩ ?_
            refine vge (n := ((i6 : Nat) : Int)) (hi := (a1.length : Int)) (by omega) (by omega) ?_
            refine vix hF (fun _ _ hF => ?_)
            refine bdE hF (fun y30 hy30 hF => ?_)
            refine callG [] (s_l63Fits_c hy30) ⟨m_val rfl, m_val rfl, trivial⟩ trivial rfl ?_
            refine Dz.seq ?_
            refine Dz.seq ?_
            refine Dz.reg ?_
            refine Dz.ite rfl hF (fun _ hF => ?_) (fun _ hF => ?_)
            · refine Dz.seq ?_
              refine Dz.reg ?_
              refine Dz.ret ?_
              cases hF
              exact finG [] [] rfl rfl (m_val rfl) trivial rfl
            · refine Dz.skip ?_
              refine Dz.seq ?_
              refine Dz.reg ?_
              refine vge (n := ((i6 : Nat) : Int)) (hi := (a1.length : Int)) (by omega) (by omega) ?_
              refine vix hF (fun _ _ hF => ?_)
              refine Dz.row 0 (v23.1.set (a1.getD i6 default).toNat true).length (gl cBool (v23.1.set (a1.getD i6 default).toNat true)) rfl (by simp <;> omega) (EqG.set' rfl (EqG.refl _ _ _) ⟨LeU.refl _, trivial⟩) ?_
              refine Dz.reg ?_
              refine Dz.reg ?_
              refine vsucc (by omega) ?_
              exact ⟨((v23.1.set (a1.getD i6 default).toNat true), y30.1), entG [0, 1] ⟨m_val rfl, m_val rfl, ⟨rfl, rfl, trivial⟩, m_ptr rfl, m_val rfl, trivial⟩ ⟨⟨rfl, o_row⟩, ⟨rfl, o_box rfl⟩, trivial⟩ rfl, hF⟩
end Go.Proofs.PanH

/-! Printed by wip/tools/walk.py. -/
namespace Go.Proofs.PanH
open Go.Vs
set_option maxRecDepth 8000
def l_toPanCall (a0 : PanCall) : Option (PanCall) :=
  some a0
theorem l_toPanCall_c {a0 : PanCall} {r : PanCall} (hF : l_toPanCall a0 = some r) : Con Try.prog 23 [.val true (PanCall.L a0)] [] (.val true (PanCall.L r)) [] := by
  refine Con.of_Dz tabOk Try.func23 rfl rfl rfl ?_
  delta l_toPanCall at hF
  refine Dz.seq ?_
  refine Dz.reg ?_
  refine Dz.seq ?_
  refine Dz.reg ?_
  refine Dz.seq ?_
  refine Dz.reg ?_
  refine Dz.seq ?_
  refine Dz.reg ?_
  refine Dz.seq ?_
  refine Dz.reg ?_
  refine Dz.seq ?_
  refine Dz.reg ?_
  refine Dz.seq ?_
  refine Dz.reg ?_
  refine Dz.seq ?_
  refine Dz.reg ?_
  refine Dz.seq ?_
  refine Dz.ent (x := ([(1, .ptr 0 0), (2, .ptr 1 0), (3, .ptr 2 0)], [.box 66 (PanCall.L a0), .box 64 [.u (cI 0), .u (cI 0), .u (cI 0), .u (cI 0), .u (cI 0), .u (cI 0), .u (cI 0), .u (cI 0), .u (cI 0), .u (.bool false), .u (cI 0), .u (cI 0)], .box 64 [.u (cI a0.Client), .u (cI a0.Call), .u (cI a0.Op), .u (cI a0.Disk), .u (cI a0.Block), .u (cI a0.Epoch), .u (cI 0), .u (cI 0), .u (cI 0), .u (.bool false), .u (cI 0), .u (cI 0)]])) (entG [0, 1, 2] ⟨m_ptr rfl, m_ptr rfl, m_ptr rfl, trivial⟩ ⟨⟨rfl, o_box rfl⟩, ⟨rfl, o_box rfl⟩, ⟨rfl, o_box rfl⟩, trivial⟩ rfl) ?_
  refine Dz.reg ?_
  refine Dz.seq ?_
  refine Dz.reg ?_
  refine Dz.seq ?_
  refine Dz.reg ?_
  refine Dz.seq ?_
  refine Dz.reg ?_
  refine Dz.seq ?_
  refine Dz.reg ?_
  refine Dz.seq ?_
  refine Dz.reg ?_
  refine Dz.seq ?_
  refine Dz.reg ?_
  refine Dz.ret ?_
  cases hF
  exact finG [] [] rfl rfl (m_val rfl) trivial rfl
end Go.Proofs.PanH

/-! Printed by wip/tools/walk.py. -/
namespace Go.Proofs.PanH
open Go.Vs
set_option maxRecDepth 8000
def l_toPanCallS (a0 : (List PanCall)) : Option ((List PanCall)) :=
  ck (0 ≤ ((a0.length : Nat) : Int) ∧ ((a0.length : Nat) : Int) * 96 ≤ 140737488355328) (loopN (fun i2 (v11 : List PanCall) κ12 => lt (a0.getD i2 default) (fun x14 => (l_toPanCall x14).bind (fun y15 => ix v11 ((i2 : Nat) : Int) (fun _ => κ12 (v11.set i2 y15))))) (fun (v11 : List PanCall) => some v11) a0.length 0 (List.replicate a0.length (({ Client := 0, Call := 0, Op := 0, Disk := 0, Block := 0, Epoch := 0, Data := 0, Begin := 0, End := 0, Over := false, Code := 0, Value := 0 } : PanCall) : PanCall)))
theorem l_toPanCallS_c {t0_0 : Bool} {a0 : (List PanCall)} {r : (List PanCall)} (hF : l_toPanCallS a0 = some r) : Con Try.prog 7 [.val false [.u (ul PanCall.c 12 t0_0 a0)]] [] (.val false [.row 0]) [.row 64 r.length 12 (gl PanCall.c r)] := by
  refine Con.of_Dz tabOk Try.func7 rfl rfl rfl ?_
  delta l_toPanCallS at hF
  refine Dz.seq ?_
  refine Dz.reg ?_
  refine Dz.seq ?_
  refine Dz.reg ?_
  intro hb1; replace hb1 : a0.length ≤ 140737488355328 := hb1
  refine vck hF (fun h => ⟨rfl, h⟩) (fun hk hF => ?_)
  refine Dz.row 0 (List.replicate a0.length (({ Client := 0, Call := 0, Op := 0, Disk := 0, Block := 0, Epoch := 0, Data := 0, Begin := 0, End := 0, Over := false, Code := 0, Value := 0 } : PanCall) : PanCall)).length (gl PanCall.c (List.replicate a0.length (({ Client := 0, Call := 0, Op := 0, Disk := 0, Block := 0, Epoch := 0, Data := 0, Begin := 0, End := 0, Over := false, Code := 0, Value := 0 } : PanCall) : PanCall))) rfl (by simp <;> omega) (EqG.rep' (c := PanCall.c) (sz := 12) _ ⟨LeU.refl _, LeU.refl _, LeU.refl _, LeU.refl _, LeU.refl _, LeU.refl _, LeU.refl _, LeU.refl _, LeU.refl _, LeU.refl _, LeU.refl _, LeU.refl _, trivial⟩) ?_
  refine Dz.seq ?_
  refine Dz.seq ?_
  refine Dz.reg ?_
  refine Dz.blk ?_
  refine Dz.cnt hF (fun i2 v11 => ([(0, .val false [.u (ul PanCall.c 12 t0_0 a0)]), (3, .val false [.row 0]), (4, vint .i64 ((i2 : Nat) : Int))], [.row 64 v11.length 12 (gl PanCall.c v11)])) (entG [0] ⟨m_val rfl, ⟨rfl, rfl, trivial⟩, m_val rfl, trivial⟩ ⟨⟨rfl, o_row⟩, trivial⟩ rfl) (fun v11 hF => ?_) (fun i2 v11 κ12 hi0i2 hi1i2 hF => ?_)
  · refine Dz.seq ?_
    refine Dz.seq ?_
    refine Dz.reg ?_
    intro hb16; replace hb16 : a0.length ≤ 140737488355328 := hb16
    refine Dz.ff (b := decide (((0 + a0.length : Nat) : Int) < ((a0.length : Nat) : Int))) rfl (decide_eq_false (by omega)) ?_
    refine Dz.exit ?_
    refine Dz.seq ?_
    refine Dz.reg ?_
    refine Dz.ret ?_
    cases hF
    exact finG [] [0] rfl rfl (⟨rfl, rfl, trivial⟩) ⟨⟨rfl, o_row⟩, trivial⟩ rfl
  · refine Dz.seq ?_
    refine Dz.seq ?_
    refine Dz.reg ?_
    intro hb13; replace hb13 : a0.length ≤ 140737488355328 := hb13
    refine Dz.tt (b := decide (((i2 : Nat) : Int) < ((a0.length : Nat) : Int))) rfl (decide_eq_true (by omega)) ?_
    refine Dz.skip ?_
    refine Dz.seq ?_
    refine Dz.blk ?_
    refine Dz.reg ?_
    refine vge (n := ((i2 : Nat) : Int)) (hi := (a0.length : Int)) (by omega) (by omega) ?_
    have hF := ltE hF
    refine bdE hF (fun y15 hy15 hF => ?_)
    refine callG [] (l_toPanCall_c hy15) ⟨m_val rfl, trivial⟩ trivial rfl ?_
    refine vix hF (fun _ _ hF => ?_)
    refine Dz.row 0 (v11.set i2 y15).length (gl PanCall.c (v11.set i2 y15)) rfl (by simp <;> omega) (EqG.set' rfl (EqG.refl _ _ _) ⟨LeU.refl _, LeU.refl _, LeU.refl _, LeU.refl _, LeU.refl _, LeU.refl _, LeU.refl _, LeU.refl _, LeU.refl _, LeU.refl _, LeU.refl _, LeU.refl _, trivial⟩) ?_
    refine Dz.reg ?_
    refine vsucc (by omega) ?_
    exact ⟨(v11.set i2 y15), entG [0] ⟨m_val rfl, ⟨rfl, rfl, trivial⟩, m_val rfl, trivial⟩ ⟨⟨rfl, o_row⟩, trivial⟩ rfl, hF⟩
end Go.Proofs.PanH

/-! Printed by wip/tools/walk.py. -/
namespace Go.Proofs.PanH
open Go.Vs
set_option maxRecDepth 8000
def l_toIntS (a0 : (List Int)) : Option ((List Int)) :=
  ck (0 ≤ ((a0.length : Nat) : Int) ∧ ((a0.length : Nat) : Int) * 8 ≤ 140737488355328) (loopN (fun i2 (v7 : List Int) κ8 => ix v7 ((i2 : Nat) : Int) (fun _ => κ8 (v7.set i2 (a0.getD i2 default)))) (fun (v7 : List Int) => some v7) a0.length 0 (List.replicate a0.length (0 : Int)))
theorem l_toIntS_c {t0_0 : Bool} {a0 : (List Int)} {r : (List Int)} (hF : l_toIntS a0 = some r) : Con Try.prog 8 [.val false [.u (ul cInt 1 t0_0 a0)]] [] (.val false [.row 0]) [.row 3 r.length 1 (gl cInt r)] := by
  refine Con.of_Dz tabOk Try.func8 rfl rfl rfl ?_
  delta l_toIntS at hF
  refine Dz.seq ?_
  refine Dz.reg ?_
  refine Dz.seq ?_
  refine Dz.reg ?_
  intro hb1; replace hb1 : a0.length ≤ 140737488355328 := hb1
  refine vck hF (fun h => ⟨rfl, h⟩) (fun hk hF => ?_)
  refine Dz.row 0 (List.replicate a0.length (0 : Int)).length (gl cInt (List.replicate a0.length (0 : Int))) rfl (by simp <;> omega) (EqG.rep' (c := cInt) (sz := 1) _ ⟨LeU.refl _, trivial⟩) ?_
  refine Dz.seq ?_
  refine Dz.seq ?_
  refine Dz.reg ?_
  refine Dz.blk ?_
  refine Dz.cnt hF (fun i2 v7 => ([(0, .val false [.u (ul cInt 1 t0_0 a0)]), (3, .val false [.row 0]), (4, vint .i64 ((i2 : Nat) : Int))], [.row 3 v7.length 1 (gl cInt v7)])) (entG [0] ⟨m_val rfl, ⟨rfl, rfl, trivial⟩, m_val rfl, trivial⟩ ⟨⟨rfl, o_row⟩, trivial⟩ rfl) (fun v7 hF => ?_) (fun i2 v7 κ8 hi0i2 hi1i2 hF => ?_)
  · refine Dz.seq ?_
    refine Dz.seq ?_
    refine Dz.reg ?_
    intro hb10; replace hb10 : a0.length ≤ 140737488355328 := hb10
    refine Dz.ff (b := decide (((0 + a0.length : Nat) : Int) < ((a0.length : Nat) : Int))) rfl (decide_eq_false (by omega)) ?_
    refine Dz.exit ?_
    refine Dz.seq ?_
    refine Dz.reg ?_
    refine Dz.ret ?_
    cases hF
    exact finG [] [0] rfl rfl (⟨rfl, rfl, trivial⟩) ⟨⟨rfl, o_row⟩, trivial⟩ rfl
  · refine Dz.seq ?_
    refine Dz.seq ?_
    refine Dz.reg ?_
    intro hb9; replace hb9 : a0.length ≤ 140737488355328 := hb9
    refine Dz.tt (b := decide (((i2 : Nat) : Int) < ((a0.length : Nat) : Int))) rfl (decide_eq_true (by omega)) ?_
    refine Dz.skip ?_
    refine Dz.seq ?_
    refine Dz.blk ?_
    refine Dz.reg ?_
    refine vge (n := ((i2 : Nat) : Int)) (hi := (a0.length : Int)) (by omega) (by omega) ?_
    refine vix hF (fun _ _ hF => ?_)
    refine Dz.row 0 (v7.set i2 (a0.getD i2 default)).length (gl cInt (v7.set i2 (a0.getD i2 default))) rfl (by simp <;> omega) (EqG.set' rfl (EqG.refl _ _ _) ⟨LeU.refl _, trivial⟩) ?_
    refine Dz.reg ?_
    refine vsucc (by omega) ?_
    exact ⟨(v7.set i2 (a0.getD i2 default)), entG [0] ⟨m_val rfl, ⟨rfl, rfl, trivial⟩, m_val rfl, trivial⟩ ⟨⟨rfl, o_row⟩, trivial⟩ rfl, hF⟩
end Go.Proofs.PanH

/-! Printed by wip/tools/walk.py. -/
namespace Go.Proofs.PanH
open Go.Vs
set_option maxRecDepth 8000
def i_in (a0 : Int) (a1 : Int) (a2 : Int) : Option (Bool) :=
  cond (decide (a1 ≤ a0)) (some (decide (a0 ≤ a2))) (some false)
theorem i_in_c {a0 : Int} {a1 : Int} {a2 : Int} {r : Bool} (hF : i_in a0 a1 a2 = some r) : Con Try.prog 26 [vint .i64 a0, vint .i64 a1, vint .i64 a2] [] (vbool r) [] := by
  refine Con.of_Dz tabOk Try.func26 rfl rfl rfl ?_
  delta i_in at hF
  refine Dz.seq ?_
  refine Dz.reg ?_
  refine Dz.seq ?_
  refine Dz.reg ?_
  refine vif hF (fun _ hF => ?_) (fun _ hF => ?_)
  · refine Dz.ret ?_
    cases hF
    exact finG [] [] rfl rfl (m_val rfl) trivial rfl
  · refine Dz.ret ?_
    cases hF
    exact finG [] [] rfl rfl (m_val rfl) trivial rfl
end Go.Proofs.PanH

/-! Printed by wip/tools/walk.py. -/
namespace Go.Proofs.PanH
open Go.Vs
set_option maxRecDepth 8000
def i_isClient (a0 : Int) : Option (Bool) :=
  (i_in a0 0 3).bind (fun y1 => some y1)
theorem i_isClient_c {a0 : Int} {r : Bool} (hF : i_isClient a0 = some r) : Con Try.prog 60 [vint .i64 a0] [] (vbool r) [] := by
  refine Con.of_Dz tabOk Try.func60 rfl rfl rfl ?_
  delta i_isClient at hF
  refine Dz.seq ?_
  refine Dz.reg ?_
  refine Dz.seq ?_
  refine Dz.reg ?_
  refine bdE hF (fun y1 hy1 hF => ?_)
  refine callG [] (i_in_c hy1) ⟨m_val rfl, m_val rfl, m_val rfl, trivial⟩ trivial rfl ?_
  refine Dz.ret ?_
  cases hF
  exact finG [] [] rfl rfl (m_val rfl) trivial rfl
end Go.Proofs.PanH

/-! Printed by wip/tools/walk.py. -/
namespace Go.Proofs.PanH
open Go.Vs
set_option maxRecDepth 8000
def i_callsOk (a0 : (List PanCall)) (a1 : Int) : Option (Bool) :=
  cond (decide ((10 : Int) < ((a0.length : Nat) : Int))) (some false) (loopN (fun i3 (v38 : Unit) κ39 => lt (a0.getD i3 default) (fun x40 => jn (fun (v42 : Bool) => cond v42 (some false) (jn (fun (v43 : Unit) => jn (fun (v44 : Unit) => ck (0 ≤ ((i3 : Nat) : Int) ∧ ((i3 : Nat) : Int) ≤ (a0.length : Int)) (loopN (fun i46 (v51 : Int) κ52 => ix (a0.take i3) ((i46 : Nat) : Int) (fun x53 => cond (!decide (x53.Client = x40.Client)) (κ52 v51) (cond (!x53.Over) (cond (decide (x53.End = 0)) (some false) (cond (decide (x40.Begin ≤ x53.End)) (some false) (κ52 (w64 (v51 + 1))))) (κ52 (w64 (v51 + 1)))))) (fun (v51 : Int) => cond (!decide (x40.Call = (w64 (v51 + 1)))) (some false) (κ39 ())) (((i3 : Nat) : Int).toNat) 0 0)) (fun j54 => cond (!decide (x40.End = 0)) ((i_in x40.End (w64 (x40.Begin + 1)) a1).bind (fun y55 => cond (!y55) (some false) (cond x40.Over (some false) ((i_in x40.Code 0 5).bind (fun y56 => cond (!y56) (some false) ((i_in x40.Value 0 99999).bind (fun y57 => cond (!y57) (some false) (j54 ())))))))) (j54 ()))) (fun j58 => cond (decide (x40.End = 0)) (cond (!decide (x40.Code = 0)) (some false) (cond (!decide (x40.Value = 0)) (some false) (j58 ()))) (j58 ())))) (fun j59 => (i_in x40.Begin 1 a1).bind (fun y60 => cond (!y60) (j59 true) (cond (decide ((0 : Int) < ((i3 : Nat) : Int))) (ix a0 (((i3 : Nat) : Int) - 1) (fun x61 => cond (decide (x40.Begin ≤ x61.Begin)) (j59 true) ((i_isClient x40.Client).bind (fun y62 => cond (!y62) (j59 true) ((i_in x40.Op 1 6).bind (fun y63 => cond (!y63) (j59 true) ((i_in x40.Disk 0 99999).bind (fun y64 => cond (!y64) (j59 true) ((i_in x40.Block 0 99999).bind (fun y65 => cond (!y65) (j59 true) ((i_in x40.Epoch 0 99999).bind (fun y66 => cond (!y66) (j59 true) ((i_in x40.Data 0 99999).bind (fun y67 => j59 (!y67))))))))))))))) ((i_isClient x40.Client).bind (fun y68 => cond (!y68) (j59 true) ((i_in x40.Op 1 6).bind (fun y69 => cond (!y69) (j59 true) ((i_in x40.Disk 0 99999).bind (fun y70 => cond (!y70) (j59 true) ((i_in x40.Block 0 99999).bind (fun y71 => cond (!y71) (j59 true) ((i_in x40.Epoch 0 99999).bind (fun y72 => cond (!y72) (j59 true) ((i_in x40.Data 0 99999).bind (fun y73 => j59 (!y73)))))))))))))))))) (fun (v38 : Unit) => some true) a0.length 0 ())
theorem i_callsOk_c {t0_0 : Bool} {a0 : (List PanCall)} {a1 : Int} {r : Bool} (hF : i_callsOk a0 a1 = some r) : Con Try.prog 24 [.val false [.u (ul PanCall.c 12 t0_0 a0)], vint .i64 a1] [] (vbool r) [] := by
  refine Con.of_Dz tabOk Try.func24 rfl rfl rfl ?_
  delta i_callsOk at hF
  refine Dz.seq ?_
  refine Dz.reg ?_
  refine Dz.seq ?_
  refine Dz.seq ?_
  refine Dz.reg ?_
  intro hb1; replace hb1 : a0.length ≤ 140737488355328 := hb1
  refine Dz.ite rfl hF (fun _ hF => ?_) (fun _ hF => ?_)
  · refine Dz.seq ?_
    refine Dz.reg ?_
    refine Dz.ret ?_
    cases hF
    exact finG [] [] rfl rfl (m_val rfl) trivial rfl
  · refine Dz.skip ?_
    refine Dz.seq ?_
    refine Dz.seq ?_
    refine Dz.reg ?_
    intro hb2; replace hb2 : a0.length ≤ 140737488355328 := hb2
    refine Dz.blk ?_
    refine Dz.cnt hF (fun i3 v38 => ([(0, .val false [.u (ul PanCall.c 12 t0_0 a0)]), (1, vint .i64 a1), (13, .val false [.u (ul PanCall.c 12 t0_0 a0)]), (14, vint .i64 ((a0.length : Nat) : Int)), (15, vint .i64 ((i3 : Nat) : Int))], [])) (entG [] ⟨m_val rfl, m_val rfl, m_val rfl, m_val rfl, m_val rfl, trivial⟩ trivial rfl) (fun v38 hF => ?_) (fun i3 v38 κ39 hi0i3 hi1i3 hF => ?_)
    · refine Dz.seq ?_
      refine Dz.reg ?_
      refine Dz.seq ?_
      refine Dz.ff (b := decide (((0 + a0.length : Nat) : Int) < ((a0.length : Nat) : Int))) rfl (decide_eq_false (by omega)) ?_
      refine Dz.exit ?_
      refine Dz.seq ?_
      refine Dz.reg ?_
      refine Dz.ret ?_
      cases hF
      exact finG [] [] rfl rfl (m_val rfl) trivial rfl
    · refine Dz.seq ?_
      refine Dz.reg ?_
      refine Dz.seq ?_
      refine Dz.tt (b := decide (((i3 : Nat) : Int) < ((a0.length : Nat) : Int))) rfl (decide_eq_true (by omega)) ?_
      refine Dz.skip ?_
      refine Dz.seq ?_
      refine Dz.blk ?_
      refine Dz.seq ?_
      refine Dz.reg ?_
      refine vge (n := ((i3 : Nat) : Int)) (hi := (a0.length : Int)) (by omega) (by omega) ?_
      have hF := ltE hF
      refine Dz.seq ?_
      refine Dz.jn hF (fun v42 => ([(0, .val false [.u (ul PanCall.c 12 t0_0 a0)]), (1, vint .i64 a1), (5, vint .i64 ((i3 : Nat) : Int)), (6, .ptr 0 0), (13, .val false [.u (ul PanCall.c 12 t0_0 a0)]), (14, vint .i64 ((a0.length : Nat) : Int)), (15, vint .i64 ((i3 : Nat) : Int)), (75, vbool v42)], [.box 64 (PanCall.L (a0.getD i3 default))])) (fun v42 hF => ?_) (fun hF => ?_)
      · refine Dz.ite rfl hF (fun _ hF => ?_) (fun _ hF => ?_)
        · refine Dz.seq ?_
          refine Dz.reg ?_
          refine Dz.ret ?_
          cases hF
          exact finG [] [] rfl rfl (m_val rfl) trivial rfl
        · refine Dz.skip ?_
          refine Dz.jn hF (fun v43 => ([(0, .val false [.u (ul PanCall.c 12 t0_0 a0)]), (1, vint .i64 a1), (5, vint .i64 ((i3 : Nat) : Int)), (6, .ptr 0 0), (13, .val false [.u (ul PanCall.c 12 t0_0 a0)]), (14, vint .i64 ((a0.length : Nat) : Int)), (15, vint .i64 ((i3 : Nat) : Int))], [.box 64 (PanCall.L (a0.getD i3 default))])) (fun v43 hF => ?_) (fun hF => ?_)
          · refine Dz.jn hF (fun v44 => ([(0, .val false [.u (ul PanCall.c 12 t0_0 a0)]), (1, vint .i64 a1), (5, vint .i64 ((i3 : Nat) : Int)), (6, .ptr 0 0), (13, .val false [.u (ul PanCall.c 12 t0_0 a0)]), (14, vint .i64 ((a0.length : Nat) : Int)), (15, vint .i64 ((i3 : Nat) : Int))], [.box 64 (PanCall.L (a0.getD i3 default))])) (fun v44 hF => ?_) (fun hF => ?_)
            · refine Dz.seq ?_
              refine Dz.reg ?_
              refine Dz.seq ?_
              refine Dz.seq ?_
              refine Dz.reg ?_
              refine vck hF id (fun _ hF => ?_)
              intro hb45; replace hb45 : ((i3 : Nat) : Int).toNat ≤ 140737488355328 := hb45
              refine Dz.slotLe 120 (ul PanCall.c 12 t0_0 (a0.take i3)) rfl (LeU.cut (by simp <;> omega) (EqG.take _)) ?_
              refine Dz.blk ?_
              refine Dz.cnt hF (fun i46 v51 => ([(0, .val false [.u (ul PanCall.c 12 t0_0 a0)]), (1, vint .i64 a1), (6, .ptr 0 0), (7, vint .i64 v51), (13, .val false [.u (ul PanCall.c 12 t0_0 a0)]), (14, vint .i64 ((a0.length : Nat) : Int)), (15, vint .i64 ((i3 : Nat) : Int)), (120, .val false [.u (ul PanCall.c 12 t0_0 (a0.take i3))]), (121, vint .i64 ((((i3 : Nat) : Int).toNat : Nat) : Int)), (122, vint .i64 ((i46 : Nat) : Int))], [.box 64 (PanCall.L (a0.getD i3 default))])) (entG [0] ⟨m_val rfl, m_val rfl, m_ptr rfl, m_val rfl, m_val rfl, m_val rfl, m_val rfl, m_val rfl, m_val rfl, m_val rfl, trivial⟩ ⟨⟨rfl, o_box rfl⟩, trivial⟩ rfl) (fun v51 hF => ?_) (fun i46 v51 κ52 hi0i46 hi1i46 hF => ?_)
              · refine Dz.seq ?_
                refine Dz.reg ?_
                refine Dz.seq ?_
                refine Dz.ff (b := decide (((0 + ((i3 : Nat) : Int).toNat : Nat) : Int) < ((((i3 : Nat) : Int).toNat : Nat) : Int))) rfl (decide_eq_false (by omega)) ?_
                refine Dz.exit ?_
                refine Dz.seq ?_
                refine Dz.reg ?_
                refine vw64 ?_
                refine Dz.ite rfl hF (fun _ hF => ?_) (fun _ hF => ?_)
                · refine Dz.seq ?_
                  refine Dz.reg ?_
                  refine Dz.ret ?_
                  cases hF
                  exact finG [] [] rfl rfl (m_val rfl) trivial rfl
                · refine Dz.skip ?_
                  refine Dz.reg ?_
                  refine vsucc (by omega) ?_
                  exact ⟨(), entG [] ⟨m_val rfl, m_val rfl, m_val rfl, m_val rfl, m_val rfl, trivial⟩ trivial rfl, hF⟩
              · refine Dz.seq ?_
                refine Dz.reg ?_
                refine Dz.seq ?_
                refine Dz.tt (b := decide (((i46 : Nat) : Int) < ((((i3 : Nat) : Int).toNat : Nat) : Int))) rfl (decide_eq_true (by omega)) ?_
                refine Dz.skip ?_
                refine Dz.seq ?_
                refine Dz.blk ?_
                refine Dz.seq ?_
                refine Dz.reg ?_
                refine vix hF (fun _ _ hF => ?_)
                refine Dz.seq ?_
                refine Dz.seq ?_
                refine Dz.reg ?_
                refine Dz.ite rfl hF (fun _ hF => ?_) (fun _ hF => ?_)
                · refine Dz.exit ?_
                  refine Dz.reg ?_
                  refine vsucc (by omega) ?_
                  exact ⟨v51, entG [0] ⟨m_val rfl, m_val rfl, m_ptr rfl, m_val rfl, m_val rfl, m_val rfl, m_val rfl, m_val rfl, m_val rfl, m_val rfl, trivial⟩ ⟨⟨rfl, o_box rfl⟩, trivial⟩ rfl, hF⟩
                · refine Dz.skip ?_
                  refine Dz.seq ?_
                  refine Dz.reg ?_
                  refine vw64 ?_
                  refine Dz.seq ?_
                  refine Dz.reg ?_
                  refine vif hF (fun _ hF => ?_) (fun _ hF => ?_)
                  · refine vif hF (fun _ hF => ?_) (fun _ hF => ?_)
                    · refine Dz.tt (b := true) rfl rfl ?_
                      refine Dz.seq ?_
                      refine Dz.reg ?_
                      refine Dz.ret ?_
                      cases hF
                      exact finG [] [] rfl rfl (m_val rfl) trivial rfl
                    · refine Dz.ite rfl hF (fun _ hF => ?_) (fun _ hF => ?_)
                      · refine Dz.seq ?_
                        refine Dz.reg ?_
                        refine Dz.ret ?_
                        cases hF
                        exact finG [] [] rfl rfl (m_val rfl) trivial rfl
                      · refine Dz.skip ?_
                        refine Dz.reg ?_
                        refine vsucc (by omega) ?_
                        exact ⟨(w64 (v51 + 1)), entG [0] ⟨m_val rfl, m_val rfl, m_ptr rfl, m_val rfl, m_val rfl, m_val rfl, m_val rfl, m_val rfl, m_val rfl, m_val rfl, trivial⟩ ⟨⟨rfl, o_box rfl⟩, trivial⟩ rfl, hF⟩
                  · refine Dz.ff (b := false) rfl rfl ?_
                    refine Dz.skip ?_
                    refine Dz.reg ?_
                    refine vsucc (by omega) ?_
                    exact ⟨(w64 (v51 + 1)), entG [0] ⟨m_val rfl, m_val rfl, m_ptr rfl, m_val rfl, m_val rfl, m_val rfl, m_val rfl, m_val rfl, m_val rfl, m_val rfl, trivial⟩ ⟨⟨rfl, o_box rfl⟩, trivial⟩ rfl, hF⟩
            · refine Dz.seq ?_
              refine Dz.reg ?_
              refine vif hF (fun _ hF => ?_) (fun _ hF => ?_)
              · refine vw64 ?_
                refine bdE hF (fun y55 hy55 hF => ?_)
                refine callG [] (i_in_c hy55) ⟨m_val rfl, m_val rfl, m_val rfl, trivial⟩ trivial rfl ?_
                refine vif hF (fun _ hF => ?_) (fun _ hF => ?_)
                · refine Dz.tt (b := true) rfl rfl ?_
                  refine Dz.seq ?_
                  refine Dz.reg ?_
                  refine Dz.ret ?_
                  cases hF
                  exact finG [] [] rfl rfl (m_val rfl) trivial rfl
                · refine vif hF (fun _ hF => ?_) (fun _ hF => ?_)
                  · refine Dz.tt (b := true) rfl rfl ?_
                    refine Dz.seq ?_
                    refine Dz.reg ?_
                    refine Dz.ret ?_
                    cases hF
                    exact finG [] [] rfl rfl (m_val rfl) trivial rfl
                  · refine bdE hF (fun y56 hy56 hF => ?_)
                    refine callG [] (i_in_c hy56) ⟨m_val rfl, m_val rfl, m_val rfl, trivial⟩ trivial rfl ?_
                    refine vif hF (fun _ hF => ?_) (fun _ hF => ?_)
                    · refine Dz.tt (b := true) rfl rfl ?_
                      refine Dz.seq ?_
                      refine Dz.reg ?_
                      refine Dz.ret ?_
                      cases hF
                      exact finG [] [] rfl rfl (m_val rfl) trivial rfl
                    · refine bdE hF (fun y57 hy57 hF => ?_)
                      refine callG [] (i_in_c hy57) ⟨m_val rfl, m_val rfl, m_val rfl, trivial⟩ trivial rfl ?_
                      refine Dz.ite rfl hF (fun _ hF => ?_) (fun _ hF => ?_)
                      · refine Dz.seq ?_
                        refine Dz.reg ?_
                        refine Dz.ret ?_
                        cases hF
                        exact finG [] [] rfl rfl (m_val rfl) trivial rfl
                      · refine Dz.skip ?_
                        exact ⟨(), entG [0] ⟨m_val rfl, m_val rfl, m_val rfl, m_ptr rfl, m_val rfl, m_val rfl, m_val rfl, trivial⟩ ⟨⟨rfl, o_box rfl⟩, trivial⟩ rfl, hF⟩
              · refine Dz.ff (b := false) rfl rfl ?_
                refine Dz.skip ?_
                exact ⟨(), entG [0] ⟨m_val rfl, m_val rfl, m_val rfl, m_ptr rfl, m_val rfl, m_val rfl, m_val rfl, trivial⟩ ⟨⟨rfl, o_box rfl⟩, trivial⟩ rfl, hF⟩
          · refine Dz.seq ?_
            refine Dz.reg ?_
            refine vif hF (fun _ hF => ?_) (fun _ hF => ?_)
            · refine vif hF (fun _ hF => ?_) (fun _ hF => ?_)
              · refine Dz.tt (b := true) rfl rfl ?_
                refine Dz.seq ?_
                refine Dz.reg ?_
                refine Dz.ret ?_
                cases hF
                exact finG [] [] rfl rfl (m_val rfl) trivial rfl
              · refine Dz.ite rfl hF (fun _ hF => ?_) (fun _ hF => ?_)
                · refine Dz.seq ?_
                  refine Dz.reg ?_
                  refine Dz.ret ?_
                  cases hF
                  exact finG [] [] rfl rfl (m_val rfl) trivial rfl
                · refine Dz.skip ?_
                  exact ⟨(), entG [0] ⟨m_val rfl, m_val rfl, m_val rfl, m_ptr rfl, m_val rfl, m_val rfl, m_val rfl, trivial⟩ ⟨⟨rfl, o_box rfl⟩, trivial⟩ rfl, hF⟩
            · refine Dz.ff (b := false) rfl rfl ?_
              refine Dz.skip ?_
              exact ⟨(), entG [0] ⟨m_val rfl, m_val rfl, m_val rfl, m_ptr rfl, m_val rfl, m_val rfl, m_val rfl, trivial⟩ ⟨⟨rfl, o_box rfl⟩, trivial⟩ rfl, hF⟩
      · refine Dz.ent (x := ([(0, .val false [.u (ul PanCall.c 12 t0_0 a0)]), (1, vint .i64 a1), (5, vint .i64 ((i3 : Nat) : Int)), (6, .ptr 0 0), (13, .val false [.u (ul PanCall.c 12 t0_0 a0)]), (14, vint .i64 ((a0.length : Nat) : Int)), (15, vint .i64 ((i3 : Nat) : Int))], [.box 64 (PanCall.L (a0.getD i3 default))])) (entG [0] ⟨m_val rfl, m_val rfl, m_val rfl, m_ptr rfl, m_val rfl, m_val rfl, m_val rfl, trivial⟩ ⟨⟨rfl, o_box rfl⟩, trivial⟩ rfl) ?_
        refine Dz.drw 1 [⟨[22], [], 1, 1⟩, ⟨[22], [0], 1, 1⟩, ⟨[20,21], [], 1, 1⟩, ⟨[], [], 1, 1⟩, ⟨[], [], 1, 1⟩, ⟨[], [], 1, 1⟩, ⟨[], [], 1, 1⟩, ⟨[], [], 1, 1⟩, ⟨[], [], 1, 1⟩, ⟨[30,31,35,36], [], 1, 1⟩, ⟨[29,35,36], [], 1, 1⟩, ⟨[29,35,36], [], 1, 1⟩, ⟨[35,36], [], 1, 1⟩, ⟨[35,36], [], 1, 1⟩, ⟨[35,36], [], 1, 1⟩, ⟨[29,30,31,32,33,34], [], 1, 1⟩, ⟨[29,30,31,32,33,34], [0], 1, 1⟩, ⟨[], [], 1, 1⟩, ⟨[], [], 1, 1⟩, ⟨[], [], 1, 1⟩, ⟨[], [], 1, 1⟩, ⟨[], [], 1, 1⟩, ⟨[], [0], 1, 1⟩, ⟨[], [], 1, 1⟩, ⟨[], [], 1, 1⟩, ⟨[], [], 1, 1⟩, ⟨[], [], 1, 1⟩, ⟨[], [], 1, 1⟩, ⟨[], [0], 1, 1⟩, ⟨[], [], 1, 1⟩, ⟨[], [], 1, 1⟩, ⟨[], [], 1, 1⟩, ⟨[], [], 1, 1⟩, ⟨[], [], 1, 1⟩, ⟨[], [0], 1, 1⟩, ⟨[], [], 1, 1⟩, ⟨[], [], 1, 1⟩, ⟨[], [], 1, 1⟩, ⟨[], [], 1, 1⟩, ⟨[], [], 1, 1⟩, ⟨[], [0], 1, 1⟩, ⟨[], [], 1, 1⟩, ⟨[], [], 1, 1⟩, ⟨[], [], 1, 1⟩, ⟨[], [], 1, 1⟩, ⟨[], [], 1, 1⟩, ⟨[], [0], 1, 1⟩, ⟨[], [], 1, 1⟩, ⟨[], [], 1, 1⟩, ⟨[], [], 1, 1⟩, ⟨[], [], 1, 1⟩, ⟨[], [], 1, 1⟩, ⟨[], [0], 1, 1⟩, ⟨[], [], 1, 1⟩, ⟨[], [], 1, 1⟩, ⟨[], [], 1, 1⟩] ⟨by kernel_rfl, by kernel_rfl, rfl⟩ ?_
        refine bdE hF (fun y60 hy60 hF => ?_)
        refine callG [] (i_in_c hy60) ⟨m_val rfl, m_val rfl, m_val rfl, trivial⟩ trivial rfl ?_
        refine vif hF (fun _ hF => ?_) (fun _ hF => ?_)
        · exact ⟨true, entG [0] ⟨m_val rfl, m_val rfl, m_val rfl, m_ptr rfl, m_val rfl, m_val rfl, m_val rfl, m_val rfl, trivial⟩ ⟨⟨rfl, o_box rfl⟩, trivial⟩ rfl, hF⟩
        · refine vif hF (fun _ hF => ?_) (fun _ hF => ?_)
          · refine ⟨(((i3 : Nat) : Int) - 1), wrap64 (by omega) (by omega), ?_⟩
            refine vix hF (fun _ _ hF => ?_)
            refine vif hF (fun _ hF => ?_) (fun _ hF => ?_)
            · exact ⟨true, entG [0] ⟨m_val rfl, m_val rfl, m_val rfl, m_ptr rfl, m_val rfl, m_val rfl, m_val rfl, m_val rfl, trivial⟩ ⟨⟨rfl, o_box rfl⟩, trivial⟩ rfl, hF⟩
            · refine bdE hF (fun y62 hy62 hF => ?_)
              refine callG [] (i_isClient_c hy62) ⟨m_val rfl, trivial⟩ trivial rfl ?_
              refine vif hF (fun _ hF => ?_) (fun _ hF => ?_)
              · exact ⟨true, entG [0] ⟨m_val rfl, m_val rfl, m_val rfl, m_ptr rfl, m_val rfl, m_val rfl, m_val rfl, m_val rfl, trivial⟩ ⟨⟨rfl, o_box rfl⟩, trivial⟩ rfl, hF⟩
              · refine bdE hF (fun y63 hy63 hF => ?_)
                refine callG [] (i_in_c hy63) ⟨m_val rfl, m_val rfl, m_val rfl, trivial⟩ trivial rfl ?_
                refine vif hF (fun _ hF => ?_) (fun _ hF => ?_)
                · exact ⟨true, entG [0] ⟨m_val rfl, m_val rfl, m_val rfl, m_ptr rfl, m_val rfl, m_val rfl, m_val rfl, m_val rfl, trivial⟩ ⟨⟨rfl, o_box rfl⟩, trivial⟩ rfl, hF⟩
                · refine bdE hF (fun y64 hy64 hF => ?_)
                  refine callG [] (i_in_c hy64) ⟨m_val rfl, m_val rfl, m_val rfl, trivial⟩ trivial rfl ?_
                  refine vif hF (fun _ hF => ?_) (fun _ hF => ?_)
                  · exact ⟨true, entG [0] ⟨m_val rfl, m_val rfl, m_val rfl, m_ptr rfl, m_val rfl, m_val rfl, m_val rfl, m_val rfl, trivial⟩ ⟨⟨rfl, o_box rfl⟩, trivial⟩ rfl, hF⟩
                  · refine bdE hF (fun y65 hy65 hF => ?_)
                    refine callG [] (i_in_c hy65) ⟨m_val rfl, m_val rfl, m_val rfl, trivial⟩ trivial rfl ?_
                    refine vif hF (fun _ hF => ?_) (fun _ hF => ?_)
                    · exact ⟨true, entG [0] ⟨m_val rfl, m_val rfl, m_val rfl, m_ptr rfl, m_val rfl, m_val rfl, m_val rfl, m_val rfl, trivial⟩ ⟨⟨rfl, o_box rfl⟩, trivial⟩ rfl, hF⟩
                    · refine bdE hF (fun y66 hy66 hF => ?_)
                      refine callG [] (i_in_c hy66) ⟨m_val rfl, m_val rfl, m_val rfl, trivial⟩ trivial rfl ?_
                      refine vif hF (fun _ hF => ?_) (fun _ hF => ?_)
                      · exact ⟨true, entG [0] ⟨m_val rfl, m_val rfl, m_val rfl, m_ptr rfl, m_val rfl, m_val rfl, m_val rfl, m_val rfl, trivial⟩ ⟨⟨rfl, o_box rfl⟩, trivial⟩ rfl, hF⟩
                      · refine bdE hF (fun y67 hy67 hF => ?_)
                        refine callG [] (i_in_c hy67) ⟨m_val rfl, m_val rfl, m_val rfl, trivial⟩ trivial rfl ?_
                        exact ⟨(!y67), entG [0] ⟨m_val rfl, m_val rfl, m_val rfl, m_ptr rfl, m_val rfl, m_val rfl, m_val rfl, m_val rfl, trivial⟩ ⟨⟨rfl, o_box rfl⟩, trivial⟩ rfl, hF⟩
          · refine bdE hF (fun y68 hy68 hF => ?_)
            refine callG [] (i_isClient_c hy68) ⟨m_val rfl, trivial⟩ trivial rfl ?_
            refine vif hF (fun _ hF => ?_) (fun _ hF => ?_)
            · exact ⟨true, entG [0] ⟨m_val rfl, m_val rfl, m_val rfl, m_ptr rfl, m_val rfl, m_val rfl, m_val rfl, m_val rfl, trivial⟩ ⟨⟨rfl, o_box rfl⟩, trivial⟩ rfl, hF⟩
            · refine bdE hF (fun y69 hy69 hF => ?_)
              refine callG [] (i_in_c hy69) ⟨m_val rfl, m_val rfl, m_val rfl, trivial⟩ trivial rfl ?_
              refine vif hF (fun _ hF => ?_) (fun _ hF => ?_)
              · exact ⟨true, entG [0] ⟨m_val rfl, m_val rfl, m_val rfl, m_ptr rfl, m_val rfl, m_val rfl, m_val rfl, m_val rfl, trivial⟩ ⟨⟨rfl, o_box rfl⟩, trivial⟩ rfl, hF⟩
              · refine bdE hF (fun y70 hy70 hF => ?_)
                refine callG [] (i_in_c hy70) ⟨m_val rfl, m_val rfl, m_val rfl, trivial⟩ trivial rfl ?_
                refine vif hF (fun _ hF => ?_) (fun _ hF => ?_)
                · exact ⟨true, entG [0] ⟨m_val rfl, m_val rfl, m_val rfl, m_ptr rfl, m_val rfl, m_val rfl, m_val rfl, m_val rfl, trivial⟩ ⟨⟨rfl, o_box rfl⟩, trivial⟩ rfl, hF⟩
                · refine bdE hF (fun y71 hy71 hF => ?_)
                  refine callG [] (i_in_c hy71) ⟨m_val rfl, m_val rfl, m_val rfl, trivial⟩ trivial rfl ?_
                  refine vif hF (fun _ hF => ?_) (fun _ hF => ?_)
                  · exact ⟨true, entG [0] ⟨m_val rfl, m_val rfl, m_val rfl, m_ptr rfl, m_val rfl, m_val rfl, m_val rfl, m_val rfl, trivial⟩ ⟨⟨rfl, o_box rfl⟩, trivial⟩ rfl, hF⟩
                  · refine bdE hF (fun y72 hy72 hF => ?_)
                    refine callG [] (i_in_c hy72) ⟨m_val rfl, m_val rfl, m_val rfl, trivial⟩ trivial rfl ?_
                    refine vif hF (fun _ hF => ?_) (fun _ hF => ?_)
                    · exact ⟨true, entG [0] ⟨m_val rfl, m_val rfl, m_val rfl, m_ptr rfl, m_val rfl, m_val rfl, m_val rfl, m_val rfl, trivial⟩ ⟨⟨rfl, o_box rfl⟩, trivial⟩ rfl, hF⟩
                    · refine bdE hF (fun y73 hy73 hF => ?_)
                      refine callG [] (i_in_c hy73) ⟨m_val rfl, m_val rfl, m_val rfl, trivial⟩ trivial rfl ?_
                      exact ⟨(!y73), entG [0] ⟨m_val rfl, m_val rfl, m_val rfl, m_ptr rfl, m_val rfl, m_val rfl, m_val rfl, m_val rfl, trivial⟩ ⟨⟨rfl, o_box rfl⟩, trivial⟩ rfl, hF⟩
end Go.Proofs.PanH

/-! Printed by wip/tools/walk.py. -/
namespace Go.Proofs.PanH
open Go.Vs
set_option maxRecDepth 8000
def i_HistStart : Option (HistState) :=
  some ({ Next := 1, Servers := 3, Disks := [], Pieces := [] } : HistState)
theorem i_HistStart_c {r : HistState} (hF : i_HistStart = some r) : Con Try.prog 25 [] [] (.val true (HistState.L r)) [] := by
  refine Con.of_Dz tabOk Try.func25 rfl rfl rfl ?_
  delta i_HistStart at hF
  refine Dz.seq ?_
  refine Dz.reg ?_
  refine Dz.seq ?_
  refine Dz.reg ?_
  refine Dz.ret ?_
  cases hF
  exact finG [] [] rfl rfl (⟨rfl, LeU.refl _, LeU.refl _, ⟨_, _, _, rfl⟩, ⟨_, _, _, rfl⟩, trivial⟩) trivial rfl
end Go.Proofs.PanH

/-! Printed by wip/tools/walk.py. -/
namespace Go.Proofs.PanH
open Go.Vs
set_option maxRecDepth 8000
def i_diskAt (a0 : (List MapDisk)) (a1 : Int) : Option (Int) :=
  loopN (fun i2 (v4 : Unit) κ5 => lt (a0.getD i2 default) (fun x6 => cond (decide (x6.Id = a1)) (some ((i2 : Nat) : Int)) (κ5 ()))) (fun (v4 : Unit) => some (-1)) a0.length 0 ()
theorem i_diskAt_c {t0_0 : Bool} {a0 : (List MapDisk)} {a1 : Int} {r : Int} (hF : i_diskAt a0 a1 = some r) : Con Try.prog 109 [.val false [.u (ul MapDisk.c 7 t0_0 a0)], vint .i64 a1] [] (vint .i64 r) [] := by
  refine Con.of_Dz tabOk Try.func109 rfl rfl rfl ?_
  delta i_diskAt at hF
  refine Dz.seq ?_
  refine Dz.reg ?_
  refine Dz.seq ?_
  refine Dz.seq ?_
  refine Dz.reg ?_
  intro hb1; replace hb1 : a0.length ≤ 140737488355328 := hb1
  refine Dz.blk ?_
  refine Dz.cnt hF (fun i2 v4 => ([(1, vint .i64 a1), (7, .val false [.u (ul MapDisk.c 7 t0_0 a0)]), (8, vint .i64 ((a0.length : Nat) : Int)), (9, vint .i64 ((i2 : Nat) : Int))], [])) (entG [] ⟨m_val rfl, m_val rfl, m_val rfl, m_val rfl, trivial⟩ trivial rfl) (fun v4 hF => ?_) (fun i2 v4 κ5 hi0i2 hi1i2 hF => ?_)
  · refine Dz.seq ?_
    refine Dz.reg ?_
    refine Dz.seq ?_
    refine Dz.ff (b := decide (((0 + a0.length : Nat) : Int) < ((a0.length : Nat) : Int))) rfl (decide_eq_false (by omega)) ?_
    refine Dz.exit ?_
    refine Dz.seq ?_
    refine Dz.reg ?_
    refine Dz.ret ?_
    cases hF
    exact finG [] [] rfl rfl (m_val rfl) trivial rfl
  · refine Dz.seq ?_
    refine Dz.reg ?_
    refine Dz.seq ?_
    refine Dz.tt (b := decide (((i2 : Nat) : Int) < ((a0.length : Nat) : Int))) rfl (decide_eq_true (by omega)) ?_
    refine Dz.skip ?_
    refine Dz.seq ?_
    refine Dz.blk ?_
    refine Dz.seq ?_
    refine Dz.reg ?_
    refine vge (n := ((i2 : Nat) : Int)) (hi := (a0.length : Int)) (by omega) (by omega) ?_
    have hF := ltE hF
    refine Dz.seq ?_
    refine Dz.reg ?_
    refine Dz.ite rfl hF (fun _ hF => ?_) (fun _ hF => ?_)
    · refine Dz.seq ?_
      refine Dz.reg ?_
      refine Dz.ret ?_
      cases hF
      exact finG [] [] rfl rfl (m_val rfl) trivial rfl
    · refine Dz.skip ?_
      refine Dz.reg ?_
      refine vsucc (by omega) ?_
      exact ⟨(), entG [] ⟨m_val rfl, m_val rfl, m_val rfl, m_val rfl, trivial⟩ trivial rfl, hF⟩
end Go.Proofs.PanH

/-! Printed by wip/tools/walk.py. -/
namespace Go.Proofs.PanH
open Go.Vs
set_option maxRecDepth 8000
def i_judge (a0 : (List MapDisk)) (a1 : Int) (a2 : Int) (a3 : Int) (a4 : Bool) : Option (Int) :=
  (i_diskAt a0 a1).bind (fun y1 => cond (decide (y1 < 0)) (some 1) (ix a0 y1 (fun x2 => (i_in a2 0 (w64 (x2.Size - 1))).bind (fun y3 => cond (!y3) (some 2) (cond (!a4) (cond (!decide (a3 = 0)) (ix a0 y1 (fun x4 => (i_in a3 1 (w64 (x4.Epoch - 1))).bind (fun y5 => cond (!y5) (some 3) (some 0)))) (some 0)) (some 0))))))
theorem i_judge_c {t0_0 : Bool} {a0 : (List MapDisk)} {a1 : Int} {a2 : Int} {a3 : Int} {a4 : Bool} {r : Int} (hF : i_judge a0 a1 a2 a3 a4 = some r) : Con Try.prog 131 [.val false [.u (ul MapDisk.c 7 t0_0 a0)], vint .i64 a1, vint .i64 a2, vint .i64 a3, vbool a4] [] (vint .i64 r) [] := by
  refine Con.of_Dz tabOk Try.func131 rfl rfl rfl ?_
  delta i_judge at hF
  refine Dz.seq ?_
  refine Dz.reg ?_
  refine Dz.seq ?_
  refine Dz.reg ?_
  refine bdE hF (fun y1 hy1 hF => ?_)
  refine callG [] (i_diskAt_c hy1) ⟨m_val rfl, m_val rfl, trivial⟩ trivial rfl ?_
  refine Dz.seq ?_
  refine Dz.blk ?_
  refine Dz.seq ?_
  refine Dz.reg ?_
  refine Dz.ite rfl hF (fun _ hF => ?_) (fun _ hF => ?_)
  · refine Dz.seq ?_
    refine Dz.reg ?_
    refine Dz.ret ?_
    cases hF
    exact finG [] [] rfl rfl (m_val rfl) trivial rfl
  · refine Dz.seq ?_
    refine Dz.reg ?_
    refine vix hF (fun _ _ hF => ?_)
    refine vw64 ?_
    refine bdE hF (fun y3 hy3 hF => ?_)
    refine callG [] (i_in_c hy3) ⟨m_val rfl, m_val rfl, m_val rfl, trivial⟩ trivial rfl ?_
    refine Dz.ite rfl hF (fun _ hF => ?_) (fun _ hF => ?_)
    · refine Dz.seq ?_
      refine Dz.reg ?_
      refine Dz.ret ?_
      cases hF
      exact finG [] [] rfl rfl (m_val rfl) trivial rfl
    · refine Dz.seq ?_
      refine Dz.reg ?_
      refine vif hF (fun _ hF => ?_) (fun _ hF => ?_)
      · refine vif hF (fun _ hF => ?_) (fun _ hF => ?_)
        · refine vix hF (fun _ _ hF => ?_)
          refine vw64 ?_
          refine bdE hF (fun y5 hy5 hF => ?_)
          refine callG [] (i_in_c hy5) ⟨m_val rfl, m_val rfl, m_val rfl, trivial⟩ trivial rfl ?_
          refine Dz.ent (x := ([(28, vbool (!y5))], [])) (entG [] ⟨m_val rfl, trivial⟩ trivial rfl) ?_
          refine Dz.ite rfl hF (fun _ hF => ?_) (fun _ hF => ?_)
          · refine Dz.seq ?_
            refine Dz.reg ?_
            refine Dz.ret ?_
            cases hF
            exact finG [] [] rfl rfl (m_val rfl) trivial rfl
          · refine Dz.skip ?_
            refine Dz.seq ?_
            refine Dz.reg ?_
            refine Dz.ret ?_
            cases hF
            exact finG [] [] rfl rfl (m_val rfl) trivial rfl
        · refine Dz.ff (b := false) rfl rfl ?_
          refine Dz.skip ?_
          refine Dz.seq ?_
          refine Dz.reg ?_
          refine Dz.ret ?_
          cases hF
          exact finG [] [] rfl rfl (m_val rfl) trivial rfl
      · refine Dz.ff (b := false) rfl rfl ?_
        refine Dz.skip ?_
        refine Dz.seq ?_
        refine Dz.reg ?_
        refine Dz.ret ?_
        cases hF
        exact finG [] [] rfl rfl (m_val rfl) trivial rfl
end Go.Proofs.PanH

/-! Printed by wip/tools/walk.py. -/
namespace Go.Proofs.PanH
open Go.Vs
set_option maxRecDepth 8000
def i_copied_BlkPiece (a0 : (List BlkPiece)) : Option ((List BlkPiece)) :=
  cond (decide (((a0.length : Nat) : Int) = 0)) (some ([] : List BlkPiece)) (ck (0 ≤ ((a0.length : Nat) : Int) ∧ ((a0.length : Nat) : Int) * 32 ≤ 140737488355328) (some (cpy (List.replicate a0.length (({ Disk := 0, Block := 0, Epoch := 0, Data := 0 } : BlkPiece) : BlkPiece)) a0)))
theorem i_copied_BlkPiece_c {t0_0 : Bool} {a0 : (List BlkPiece)} {r : (List BlkPiece)} (hF : i_copied_BlkPiece a0 = some r) : Con Try.prog 69 [.val false [.u (ul BlkPiece.c 4 t0_0 a0)]] [] (.val false [.row 0]) [.row 108 r.length 4 (gl BlkPiece.c r)] := by
  refine Con.of_Dz tabOk Try.func69 rfl rfl rfl ?_
  delta i_copied_BlkPiece at hF
  refine Dz.seq ?_
  refine Dz.reg ?_
  refine Dz.seq ?_
  refine Dz.seq ?_
  refine Dz.reg ?_
  intro hb1; replace hb1 : a0.length ≤ 140737488355328 := hb1
  refine Dz.ite rfl hF (fun _ hF => ?_) (fun _ hF => ?_)
  · refine Dz.seq ?_
    refine Dz.reg ?_
    refine Dz.ret ?_
    cases hF
    exact finG [.slot 2 108 4] [0] rfl rfl (⟨rfl, rfl, trivial⟩) ⟨⟨rfl, o_rowE (by simp <;> omega) EqG.nilr⟩, trivial⟩ rfl
  · refine Dz.skip ?_
    refine Dz.seq ?_
    refine Dz.reg ?_
    intro hb2; replace hb2 : a0.length ≤ 140737488355328 := hb2
    refine vck hF (fun h => ⟨rfl, h⟩) (fun hk hF => ?_)
    refine Dz.row 0 (List.replicate a0.length (({ Disk := 0, Block := 0, Epoch := 0, Data := 0 } : BlkPiece) : BlkPiece)).length (gl BlkPiece.c (List.replicate a0.length (({ Disk := 0, Block := 0, Epoch := 0, Data := 0 } : BlkPiece) : BlkPiece))) rfl (by simp <;> omega) (EqG.rep' (c := BlkPiece.c) (sz := 4) _ ⟨LeU.refl _, LeU.refl _, LeU.refl _, LeU.refl _, trivial⟩) ?_
    refine Dz.seq ?_
    refine Dz.reg ?_
    refine Dz.row 0 (cpy (List.replicate a0.length (({ Disk := 0, Block := 0, Epoch := 0, Data := 0 } : BlkPiece) : BlkPiece)) a0).length (gl BlkPiece.c (cpy (List.replicate a0.length (({ Disk := 0, Block := 0, Epoch := 0, Data := 0 } : BlkPiece) : BlkPiece)) a0)) rfl (by simp <;> omega) (EqG.cpy rfl rfl (EqG.refl _ _ _) (EqG.refl _ _ _)) ?_
    refine Dz.seq ?_
    refine Dz.reg ?_
    refine Dz.ret ?_
    cases hF
    exact finG [] [0] rfl rfl (⟨rfl, rfl, trivial⟩) ⟨⟨rfl, o_row⟩, trivial⟩ rfl
end Go.Proofs.PanH

/-! Printed by wip/tools/walk.py. -/
namespace Go.Proofs.PanH
open Go.Vs
set_option maxRecDepth 8000
def i_pieceWay (a0 : BlkPiece) (a1 : BlkPiece) : Option (Int) :=
  loopN (fun i1 (v3 : Unit) κ4 => ix ([({ e0 := a0.Disk, e1 := a1.Disk } : Arr2), ({ e0 := a0.Block, e1 := a1.Block } : Arr2), ({ e0 := a0.Epoch, e1 := a1.Epoch } : Arr2)] : List Arr2) ((i1 : Nat) : Int) (fun _ => lt (([({ e0 := a0.Disk, e1 := a1.Disk } : Arr2), ({ e0 := a0.Block, e1 := a1.Block } : Arr2), ({ e0 := a0.Epoch, e1 := a1.Epoch } : Arr2)] : List Arr2).getD i1 default) (fun x5 => cond (decide (x5.e0 < x5.e1)) (some (-1)) (cond (decide (x5.e1 < x5.e0)) (some 1) (κ4 ()))))) (fun (v3 : Unit) => some 0) 3 0 ()
theorem i_pieceWay_c {a0 : BlkPiece} {a1 : BlkPiece} {r : Int} (hF : i_pieceWay a0 a1 = some r) : Con Try.prog 136 [.val true (BlkPiece.L a0), .val true (BlkPiece.L a1)] [] (vint .i64 r) [] := by
  refine Con.of_Dz tabOk Try.func136 rfl rfl rfl ?_
  delta i_pieceWay at hF
  refine Dz.seq ?_
  refine Dz.reg ?_
  refine Dz.seq ?_
  refine Dz.seq ?_
  refine Dz.reg ?_
  intro _
  refine Dz.row 2 ([({ e0 := a0.Disk, e1 := a1.Disk } : Arr2), ({ e0 := a0.Block, e1 := a1.Block } : Arr2), ({ e0 := a0.Epoch, e1 := a1.Epoch } : Arr2)] : List Arr2).length (gl Arr2.c ([({ e0 := a0.Disk, e1 := a1.Disk } : Arr2), ({ e0 := a0.Block, e1 := a1.Block } : Arr2), ({ e0 := a0.Epoch, e1 := a1.Epoch } : Arr2)] : List Arr2)) rfl (by simp <;> omega) (EqG.lit (c := Arr2.c) (sz := 2) (L := ([({ e0 := a0.Disk, e1 := a1.Disk } : Arr2), ({ e0 := a0.Block, e1 := a1.Block } : Arr2), ({ e0 := a0.Epoch, e1 := a1.Epoch } : Arr2)] : List Arr2)) ⟨LeU.refl _, LeU.refl _, LeU.refl _, LeU.refl _, LeU.refl _, LeU.refl _, trivial⟩) ?_
  refine Dz.blk ?_
  refine Dz.cnt hF (fun i1 v3 => ([(22, .val false [.row 0]), (23, vint .i64 3), (24, vint .i64 ((i1 : Nat) : Int))], [.row 174 (([({ e0 := a0.Disk, e1 := a1.Disk } : Arr2), ({ e0 := a0.Block, e1 := a1.Block } : Arr2), ({ e0 := a0.Epoch, e1 := a1.Epoch } : Arr2)] : List Arr2).length) 2 (gl Arr2.c ([({ e0 := a0.Disk, e1 := a1.Disk } : Arr2), ({ e0 := a0.Block, e1 := a1.Block } : Arr2), ({ e0 := a0.Epoch, e1 := a1.Epoch } : Arr2)] : List Arr2))])) (entG [2] ⟨⟨rfl, rfl, trivial⟩, m_val rfl, m_val rfl, trivial⟩ ⟨⟨rfl, o_row⟩, trivial⟩ rfl) (fun v3 hF => ?_) (fun i1 v3 κ4 hi0i1 hi1i1 hF => ?_)
  · refine Dz.seq ?_
    refine Dz.reg ?_
    refine Dz.seq ?_
    refine Dz.ff (b := decide (((0 + 3 : Nat) : Int) < 3)) rfl (decide_eq_false (by omega)) ?_
    refine Dz.exit ?_
    refine Dz.seq ?_
    refine Dz.reg ?_
    refine Dz.ret ?_
    cases hF
    exact finG [] [] rfl rfl (m_val rfl) trivial rfl
  · refine Dz.seq ?_
    refine Dz.reg ?_
    refine Dz.seq ?_
    refine Dz.tt (b := decide (((i1 : Nat) : Int) < 3)) rfl (decide_eq_true (by omega)) ?_
    refine Dz.skip ?_
    refine Dz.seq ?_
    refine Dz.blk ?_
    refine Dz.seq ?_
    refine Dz.reg ?_
    refine vix hF (fun _ _ hF => ?_)
    have hF := ltE hF
    refine Dz.seq ?_
    refine Dz.seq ?_
    refine Dz.reg ?_
    refine vge (by decide) (by decide) ?_
    refine vge (by decide) (by decide) ?_
    refine Dz.ite rfl hF (fun _ hF => ?_) (fun _ hF => ?_)
    · refine Dz.seq ?_
      refine Dz.reg ?_
      refine Dz.ret ?_
      cases hF
      exact finG [] [] rfl rfl (m_val rfl) trivial rfl
    · refine Dz.skip ?_
      refine Dz.seq ?_
      refine Dz.reg ?_
      refine vge (by decide) (by decide) ?_
      refine vge (by decide) (by decide) ?_
      refine Dz.ite rfl hF (fun _ hF => ?_) (fun _ hF => ?_)
      · refine Dz.seq ?_
        refine Dz.reg ?_
        refine Dz.ret ?_
        cases hF
        exact finG [] [] rfl rfl (m_val rfl) trivial rfl
      · refine Dz.skip ?_
        refine Dz.reg ?_
        refine vsucc (by omega) ?_
        exact ⟨(), entG [0] ⟨⟨rfl, rfl, trivial⟩, m_val rfl, m_val rfl, trivial⟩ ⟨⟨rfl, o_row⟩, trivial⟩ rfl, hF⟩
end Go.Proofs.PanH

/-! Printed by wip/tools/walk.py. -/
namespace Go.Proofs.PanH
open Go.Vs
set_option maxRecDepth 8000
def i_BlkOk (a0 : (List BlkPiece)) : Option (Bool) :=
  loopN (fun i2 (v10 : Unit) κ11 => lt (a0.getD i2 default) (fun x12 => (i_in x12.Disk 1 99999).bind (fun y13 => cond (!y13) (some false) ((i_in x12.Epoch 1 99999).bind (fun y14 => cond (!y14) (some false) ((i_in x12.Block 0 99999).bind (fun y15 => cond (!y15) (some false) ((i_in x12.Data 0 99999).bind (fun y16 => cond (!y16) (some false) (cond (decide ((0 : Int) < ((i2 : Nat) : Int))) (ix a0 (((i2 : Nat) : Int) - 1) (fun x17 => (i_pieceWay x17 x12).bind (fun y18 => cond (decide ((0 : Int) ≤ y18)) (some false) (κ11 ())))) (κ11 ()))))))))))) (fun (v10 : Unit) => some (decide (((a0.length : Nat) : Int) ≤ 60))) a0.length 0 ()
theorem i_BlkOk_c {t0_0 : Bool} {a0 : (List BlkPiece)} {r : Bool} (hF : i_BlkOk a0 = some r) : Con Try.prog 121 [.val false [.u (ul BlkPiece.c 4 t0_0 a0)]] [] (vbool r) [] := by
  refine Con.of_Dz tabOk Try.func121 rfl rfl rfl ?_
  delta i_BlkOk at hF
  refine Dz.seq ?_
  refine Dz.reg ?_
  refine Dz.seq ?_
  refine Dz.seq ?_
  refine Dz.reg ?_
  intro hb1; replace hb1 : a0.length ≤ 140737488355328 := hb1
  refine Dz.blk ?_
  refine Dz.cnt hF (fun i2 v10 => ([(0, .val false [.u (ul BlkPiece.c 4 t0_0 a0)]), (5, .val false [.u (ul BlkPiece.c 4 t0_0 a0)]), (6, vint .i64 ((a0.length : Nat) : Int)), (7, vint .i64 ((i2 : Nat) : Int))], [])) (entG [] ⟨m_val rfl, m_val rfl, m_val rfl, m_val rfl, trivial⟩ trivial rfl) (fun v10 hF => ?_) (fun i2 v10 κ11 hi0i2 hi1i2 hF => ?_)
  · refine Dz.seq ?_
    refine Dz.reg ?_
    refine Dz.seq ?_
    refine Dz.ff (b := decide (((0 + a0.length : Nat) : Int) < ((a0.length : Nat) : Int))) rfl (decide_eq_false (by omega)) ?_
    refine Dz.exit ?_
    refine Dz.seq ?_
    refine Dz.reg ?_
    intro hb19; replace hb19 : a0.length ≤ 140737488355328 := hb19
    refine Dz.ret ?_
    cases hF
    exact finG [] [] rfl rfl (m_val rfl) trivial rfl
  · refine Dz.seq ?_
    refine Dz.reg ?_
    refine Dz.seq ?_
    refine Dz.tt (b := decide (((i2 : Nat) : Int) < ((a0.length : Nat) : Int))) rfl (decide_eq_true (by omega)) ?_
    refine Dz.skip ?_
    refine Dz.seq ?_
    refine Dz.blk ?_
    refine Dz.seq ?_
    refine Dz.reg ?_
    refine vge (n := ((i2 : Nat) : Int)) (hi := (a0.length : Int)) (by omega) (by omega) ?_
    have hF := ltE hF
    refine Dz.seq ?_
    refine Dz.ent (x := ([(0, .val false [.u (ul BlkPiece.c 4 t0_0 a0)]), (3, vint .i64 ((i2 : Nat) : Int)), (4, .ptr 0 0), (5, .val false [.u (ul BlkPiece.c 4 t0_0 a0)]), (6, vint .i64 ((a0.length : Nat) : Int)), (7, vint .i64 ((i2 : Nat) : Int))], [.box 108 (BlkPiece.L (a0.getD i2 default))])) (entG [0] ⟨m_val rfl, m_val rfl, m_ptr rfl, m_val rfl, m_val rfl, m_val rfl, trivial⟩ ⟨⟨rfl, o_box rfl⟩, trivial⟩ rfl) ?_
    refine Dz.drw 1 [⟨[], [], 1, 1⟩, ⟨[], [0], 1, 1⟩, ⟨[], [], 1, 1⟩, ⟨[], [], 1, 1⟩, ⟨[], [], 1, 1⟩, ⟨[], [], 1, 1⟩, ⟨[], [0], 1, 1⟩, ⟨[], [], 1, 1⟩, ⟨[], [], 1, 1⟩, ⟨[], [], 1, 1⟩, ⟨[], [], 1, 1⟩, ⟨[], [], 1, 1⟩, ⟨[], [0], 1, 1⟩, ⟨[], [], 1, 1⟩, ⟨[], [], 1, 1⟩, ⟨[], [], 1, 1⟩, ⟨[], [], 1, 1⟩, ⟨[], [], 1, 1⟩, ⟨[], [0], 1, 1⟩, ⟨[], [], 1, 1⟩, ⟨[], [], 1, 1⟩, ⟨[], [], 1, 1⟩, ⟨[], [], 1, 1⟩, ⟨[], [], 1, 1⟩, ⟨[], [], 1, 1⟩, ⟨[], [], 1, 1⟩, ⟨[39,40,43], [], 1, 1⟩, ⟨[38,43], [], 1, 1⟩, ⟨[38,43], [], 1, 1⟩, ⟨[43], [], 1, 1⟩, ⟨[43], [], 1, 1⟩, ⟨[38,39,40,41,42], [0], 1, 1⟩, ⟨[], [], 1, 1⟩, ⟨[], [], 1, 1⟩, ⟨[], [], 1, 1⟩, ⟨[], [], 1, 1⟩] ⟨by kernel_rfl, by kernel_rfl, rfl⟩ ?_
    refine bdE hF (fun y13 hy13 hF => ?_)
    refine callG [] (i_in_c hy13) ⟨m_val rfl, m_val rfl, m_val rfl, trivial⟩ trivial rfl ?_
    refine vif hF (fun _ hF => ?_) (fun _ hF => ?_)
    · refine Dz.tt (b := true) rfl rfl ?_
      refine Dz.seq ?_
      refine Dz.reg ?_
      refine Dz.ret ?_
      cases hF
      exact finG [] [] rfl rfl (m_val rfl) trivial rfl
    · refine bdE hF (fun y14 hy14 hF => ?_)
      refine callG [] (i_in_c hy14) ⟨m_val rfl, m_val rfl, m_val rfl, trivial⟩ trivial rfl ?_
      refine vif hF (fun _ hF => ?_) (fun _ hF => ?_)
      · refine Dz.tt (b := true) rfl rfl ?_
        refine Dz.seq ?_
        refine Dz.reg ?_
        refine Dz.ret ?_
        cases hF
        exact finG [] [] rfl rfl (m_val rfl) trivial rfl
      · refine bdE hF (fun y15 hy15 hF => ?_)
        refine callG [] (i_in_c hy15) ⟨m_val rfl, m_val rfl, m_val rfl, trivial⟩ trivial rfl ?_
        refine vif hF (fun _ hF => ?_) (fun _ hF => ?_)
        · refine Dz.tt (b := true) rfl rfl ?_
          refine Dz.seq ?_
          refine Dz.reg ?_
          refine Dz.ret ?_
          cases hF
          exact finG [] [] rfl rfl (m_val rfl) trivial rfl
        · refine bdE hF (fun y16 hy16 hF => ?_)
          refine callG [] (i_in_c hy16) ⟨m_val rfl, m_val rfl, m_val rfl, trivial⟩ trivial rfl ?_
          refine vif hF (fun _ hF => ?_) (fun _ hF => ?_)
          · refine Dz.tt (b := true) rfl rfl ?_
            refine Dz.seq ?_
            refine Dz.reg ?_
            refine Dz.ret ?_
            cases hF
            exact finG [] [] rfl rfl (m_val rfl) trivial rfl
          · refine vif hF (fun _ hF => ?_) (fun _ hF => ?_)
            · refine ⟨(((i2 : Nat) : Int) - 1), wrap64 (by omega) (by omega), ?_⟩
              refine vix hF (fun _ _ hF => ?_)
              refine bdE hF (fun y18 hy18 hF => ?_)
              refine callG [] (i_pieceWay_c hy18) ⟨m_val rfl, m_val rfl, trivial⟩ trivial rfl ?_
              refine Dz.ent (x := ([(0, .val false [.u (ul BlkPiece.c 4 t0_0 a0)]), (5, .val false [.u (ul BlkPiece.c 4 t0_0 a0)]), (6, vint .i64 ((a0.length : Nat) : Int)), (7, vint .i64 ((i2 : Nat) : Int)), (17, .ptr 0 2), (18, vint .i64 ((a0.getD i2 default).Epoch)), (19, vbool y14), (20, vbool (!y14)), (23, .ptr 0 1), (24, vint .i64 ((a0.getD i2 default).Block)), (25, vbool y15), (26, vbool (!y15)), (29, .ptr 0 3), (30, vint .i64 ((a0.getD i2 default).Data)), (31, vbool y16), (32, vbool (!y16)), (35, vint .i64 ((i2 : Nat) : Int)), (36, vbool (decide ((0 : Int) < ((i2 : Nat) : Int)))), (37, vbool true), (38, .val false [.u (ul BlkPiece.c 4 t0_0 a0)]), (39, vint .i64 ((i2 : Nat) : Int)), (40, vint .i64 (((i2 : Nat) : Int) - 1)), (42, .val true (BlkPiece.L (a0.getD (((i2 : Nat) : Int) - 1).toNat default))), (43, .val true (BlkPiece.L (a0.getD i2 default))), (44, vint .i64 y18), (45, vbool (decide ((0 : Int) ≤ y18))), (46, vbool (decide ((0 : Int) ≤ y18))), (47, vbool (decide ((0 : Int) ≤ y18)))], [.box 108 (BlkPiece.L (a0.getD i2 default))])) (entG [0] ⟨m_val rfl, m_val rfl, m_val rfl, m_val rfl, m_ptr rfl, m_val rfl, m_val rfl, m_val rfl, m_ptr rfl, m_val rfl, m_val rfl, m_val rfl, m_ptr rfl, m_val rfl, m_val rfl, m_val rfl, m_val rfl, m_val rfl, m_val rfl, m_val rfl, m_val rfl, m_val rfl, m_val rfl, m_val rfl, m_val rfl, m_val rfl, m_val rfl, m_val rfl, trivial⟩ ⟨⟨rfl, o_box rfl⟩, trivial⟩ rfl) ?_
              refine Dz.ite rfl hF (fun _ hF => ?_) (fun _ hF => ?_)
              · refine Dz.seq ?_
                refine Dz.reg ?_
                refine Dz.ret ?_
                cases hF
                exact finG [] [] rfl rfl (m_val rfl) trivial rfl
              · refine Dz.skip ?_
                refine Dz.reg ?_
                refine vsucc (by omega) ?_
                exact ⟨(), entG [] ⟨m_val rfl, m_val rfl, m_val rfl, m_val rfl, trivial⟩ trivial rfl, hF⟩
            · refine Dz.ff (b := false) rfl rfl ?_
              refine Dz.skip ?_
              refine Dz.reg ?_
              refine vsucc (by omega) ?_
              exact ⟨(), entG [] ⟨m_val rfl, m_val rfl, m_val rfl, m_val rfl, trivial⟩ trivial rfl, hF⟩
end Go.Proofs.PanH

/-! Printed by wip/tools/walk.py. -/
namespace Go.Proofs.PanH
open Go.Vs
set_option maxRecDepth 8000
def i_BlkPut (a0 : (List BlkPiece)) (a1 : Int) (a2 : Int) (a3 : Int) (a4 : Int) : Option ((List BlkPiece) × Bool) :=
  (i_BlkOk a0).bind (fun y1 => cond (!y1) (some (([] : List BlkPiece), false)) (loopN (fun i3 (v18 : Bool × List BlkPiece) κ19 => lt (a0.getD i3 default) (fun x20 => (i_pieceWay ({ Disk := a1, Block := a2, Epoch := a3, Data := a4 } : BlkPiece) x20).bind (fun y21 => jn (fun (v24 : Bool × List BlkPiece) => cond (!decide (y21 = 0)) (ck ((v24.2.length + 1) * 32 ≤ 140737488355328) (κ19 (v24.1, (v24.2 ++ ([x20] : List BlkPiece))))) (κ19 (v24.1, v24.2))) (fun j25 => cond (decide (y21 ≤ 0)) (cond (!v18.1) (ck ((v18.2.length + 1) * 32 ≤ 140737488355328) (j25 (true, (v18.2 ++ ([({ Disk := a1, Block := a2, Epoch := a3, Data := a4 } : BlkPiece)] : List BlkPiece))))) (j25 (v18.1, v18.2))) (j25 (v18.1, v18.2)))))) (fun (v18 : Bool × List BlkPiece) => cond (!v18.1) (ck ((v18.2.length + 1) * 32 ≤ 140737488355328) ((i_BlkOk (v18.2 ++ ([({ Disk := a1, Block := a2, Epoch := a3, Data := a4 } : BlkPiece)] : List BlkPiece))).bind (fun y26 => cond (!y26) ((i_copied_BlkPiece a0).bind (fun y27 => some (y27, false))) ((i_copied_BlkPiece (v18.2 ++ ([({ Disk := a1, Block := a2, Epoch := a3, Data := a4 } : BlkPiece)] : List BlkPiece))).bind (fun y28 => some (y28, true)))))) ((i_BlkOk v18.2).bind (fun y29 => cond (!y29) ((i_copied_BlkPiece a0).bind (fun y30 => some (y30, false))) ((i_copied_BlkPiece v18.2).bind (fun y31 => some (y31, true)))))) a0.length 0 (false, ([] : List BlkPiece))))
theorem i_BlkPut_c {t0_0 : Bool} {a0 : (List BlkPiece)} {a1 : Int} {a2 : Int} {a3 : Int} {a4 : Int} {r : (List BlkPiece) × Bool} (hF : i_BlkPut a0 a1 a2 a3 a4 = some r) : Con Try.prog 132 [.val false [.u (ul BlkPiece.c 4 t0_0 a0)], vint .i64 a1, vint .i64 a2, vint .i64 a3, vint .i64 a4] [] (.tup [(false, [.row 0]), (false, [.u (.bool r.2)])]) [.row 108 r.1.length 4 (gl BlkPiece.c r.1)] := by
  refine Con.of_Dz tabOk Try.func132 rfl rfl rfl ?_
  delta i_BlkPut at hF
  refine Dz.seq ?_
  refine Dz.reg ?_
  refine Dz.seq ?_
  refine Dz.seq ?_
  refine Dz.reg ?_
  refine bdE hF (fun y1 hy1 hF => ?_)
  refine callG [] (i_BlkOk_c hy1) ⟨m_val rfl, trivial⟩ trivial rfl ?_
  refine Dz.ite rfl hF (fun _ hF => ?_) (fun _ hF => ?_)
  · refine Dz.seq ?_
    refine Dz.reg ?_
    refine Dz.ret ?_
    cases hF
    exact finG [.slot 10 108 4] [0] rfl rfl ⟨⟨rfl, ⟨rfl, trivial⟩⟩, ⟨rfl, mls_same rfl⟩, trivial⟩ ⟨⟨rfl, o_rowE (by simp <;> omega) EqG.nilr⟩, trivial⟩ rfl
  · refine Dz.skip ?_
    refine Dz.seq ?_
    refine Dz.reg ?_
    refine Dz.seq ?_
    refine Dz.reg ?_
    refine Dz.seq ?_
    refine Dz.reg ?_
    refine Dz.seq ?_
    refine Dz.seq ?_
    refine Dz.reg ?_
    intro hb2; replace hb2 : a0.length ≤ 140737488355328 := hb2
    refine Dz.blk ?_
    refine Dz.cnt hF (fun i3 v18 => ([(0, .val false [.u (ul BlkPiece.c 4 t0_0 a0)]), (12, .ptr 0 0), (13, .val false [.row 1]), (14, vbool v18.1), (26, .val false [.u (ul BlkPiece.c 4 t0_0 a0)]), (27, vint .i64 ((a0.length : Nat) : Int)), (28, vint .i64 ((i3 : Nat) : Int))], [.box 108 [.u (cI a1), .u (cI a2), .u (cI a3), .u (cI a4)], .row 108 v18.2.length 4 (gl BlkPiece.c v18.2)])) (entF [.slot 13 108 4] [0, 1] rfl ⟨m_val rfl, m_ptr rfl, ⟨rfl, rfl, trivial⟩, m_val rfl, m_val rfl, m_val rfl, m_val rfl, trivial⟩ ⟨⟨rfl, o_box rfl⟩, ⟨rfl, o_rowE (by simp <;> omega) EqG.nilr⟩, trivial⟩ rfl) (fun v18 hF => ?_) (fun i3 v18 κ19 hi0i3 hi1i3 hF => ?_)
    · refine Dz.seq ?_
      refine Dz.reg ?_
      refine Dz.seq ?_
      refine Dz.ff (b := decide (((0 + a0.length : Nat) : Int) < ((a0.length : Nat) : Int))) rfl (decide_eq_false (by omega)) ?_
      refine Dz.exit ?_
      refine Dz.seq ?_
      refine Dz.seq ?_
      refine Dz.reg ?_
      refine Dz.ite rfl hF (fun _ hF => ?_) (fun _ hF => ?_)
      · refine Dz.reg ?_
        refine vck hF id (fun _ hF => ?_)
        refine Dz.row 2 ([({ Disk := a1, Block := a2, Epoch := a3, Data := a4 } : BlkPiece)] : List BlkPiece).length (gl BlkPiece.c ([({ Disk := a1, Block := a2, Epoch := a3, Data := a4 } : BlkPiece)] : List BlkPiece)) rfl (by simp <;> omega) (EqG.lit (c := BlkPiece.c) (sz := 4) (L := ([({ Disk := a1, Block := a2, Epoch := a3, Data := a4 } : BlkPiece)] : List BlkPiece)) ⟨LeU.refl _, LeU.refl _, LeU.refl _, LeU.refl _, trivial⟩) ?_
        refine Dz.row 3 (v18.2 ++ ([({ Disk := a1, Block := a2, Epoch := a3, Data := a4 } : BlkPiece)] : List BlkPiece)).length (gl BlkPiece.c (v18.2 ++ ([({ Disk := a1, Block := a2, Epoch := a3, Data := a4 } : BlkPiece)] : List BlkPiece))) rfl (by simp <;> omega) (EqG.app rfl (by simp <;> omega) (EqG.refl _ _ _) (EqG.lit (c := BlkPiece.c) (sz := 4) (L := ([({ Disk := a1, Block := a2, Epoch := a3, Data := a4 } : BlkPiece)] : List BlkPiece)) ⟨LeU.refl _, LeU.refl _, LeU.refl _, LeU.refl _, trivial⟩)) ?_
        refine Dz.seq ?_
        refine Dz.seq ?_
        refine Dz.reg ?_
        refine bdE hF (fun y26 hy26 hF => ?_)
        refine callL [] (i_BlkOk_c hy26) ⟨⟨rfl, ⟨rfl, rfl, LeU.refl _⟩, trivial⟩, trivial⟩ trivial rfl ⟨⟨trivial, trivial⟩, trivial⟩ ?_
        refine Dz.ite rfl hF (fun _ hF => ?_) (fun _ hF => ?_)
        · refine Dz.seq ?_
          refine Dz.reg ?_
          refine bdE hF (fun y27 hy27 hF => ?_)
          refine callG [] (i_copied_BlkPiece_c hy27) ⟨m_val rfl, trivial⟩ trivial rfl ?_
          refine Dz.ret ?_
          cases hF
          exact finG [] [4] rfl rfl ⟨⟨rfl, ⟨rfl, trivial⟩⟩, ⟨rfl, mls_same rfl⟩, trivial⟩ ⟨⟨rfl, o_row⟩, trivial⟩ rfl
        · refine Dz.skip ?_
          refine Dz.seq ?_
          refine Dz.reg ?_
          refine bdE hF (fun y28 hy28 hF => ?_)
          refine callL [] (i_copied_BlkPiece_c hy28) ⟨⟨rfl, ⟨rfl, rfl, LeU.refl _⟩, trivial⟩, trivial⟩ trivial rfl ⟨⟨trivial, trivial⟩, ⟨ntm_gl, trivial⟩⟩ ?_
          refine Dz.ret ?_
          cases hF
          exact finG [] [4] rfl rfl ⟨⟨rfl, ⟨rfl, trivial⟩⟩, ⟨rfl, mls_same rfl⟩, trivial⟩ ⟨⟨rfl, o_row⟩, trivial⟩ rfl
      · refine Dz.skip ?_
        refine Dz.seq ?_
        refine Dz.seq ?_
        refine Dz.reg ?_
        refine bdE hF (fun y29 hy29 hF => ?_)
        refine callL [] (i_BlkOk_c hy29) ⟨⟨rfl, ⟨rfl, rfl, LeU.refl _⟩, trivial⟩, trivial⟩ trivial rfl ⟨⟨trivial, trivial⟩, trivial⟩ ?_
        refine Dz.ite rfl hF (fun _ hF => ?_) (fun _ hF => ?_)
        · refine Dz.seq ?_
          refine Dz.reg ?_
          refine bdE hF (fun y30 hy30 hF => ?_)
          refine callG [] (i_copied_BlkPiece_c hy30) ⟨m_val rfl, trivial⟩ trivial rfl ?_
          refine Dz.ret ?_
          cases hF
          exact finG [] [2] rfl rfl ⟨⟨rfl, ⟨rfl, trivial⟩⟩, ⟨rfl, mls_same rfl⟩, trivial⟩ ⟨⟨rfl, o_row⟩, trivial⟩ rfl
        · refine Dz.skip ?_
          refine Dz.seq ?_
          refine Dz.reg ?_
          refine bdE hF (fun y31 hy31 hF => ?_)
          refine callL [] (i_copied_BlkPiece_c hy31) ⟨⟨rfl, ⟨rfl, rfl, LeU.refl _⟩, trivial⟩, trivial⟩ trivial rfl ⟨⟨trivial, trivial⟩, ⟨ntm_gl, trivial⟩⟩ ?_
          refine Dz.ret ?_
          cases hF
          exact finG [] [2] rfl rfl ⟨⟨rfl, ⟨rfl, trivial⟩⟩, ⟨rfl, mls_same rfl⟩, trivial⟩ ⟨⟨rfl, o_row⟩, trivial⟩ rfl
    · refine Dz.seq ?_
      refine Dz.reg ?_
      refine Dz.seq ?_
      refine Dz.tt (b := decide (((i3 : Nat) : Int) < ((a0.length : Nat) : Int))) rfl (decide_eq_true (by omega)) ?_
      refine Dz.skip ?_
      refine Dz.seq ?_
      refine Dz.blk ?_
      refine Dz.seq ?_
      refine Dz.reg ?_
      refine vge (n := ((i3 : Nat) : Int)) (hi := (a0.length : Int)) (by omega) (by omega) ?_
      have hF := ltE hF
      refine Dz.seq ?_
      refine Dz.reg ?_
      refine bdE hF (fun y21 hy21 hF => ?_)
      refine callG [] (i_pieceWay_c hy21) ⟨m_val rfl, m_val rfl, trivial⟩ trivial rfl ?_
      refine Dz.jn hF (fun v24 => ([(0, .val false [.u (ul BlkPiece.c 4 t0_0 a0)]), (12, .ptr 0 0), (13, .val false [.row 1]), (14, vbool v24.1), (16, .ptr 2 0), (17, vint .i64 y21), (26, .val false [.u (ul BlkPiece.c 4 t0_0 a0)]), (27, vint .i64 ((a0.length : Nat) : Int)), (28, vint .i64 ((i3 : Nat) : Int))], [.box 108 [.u (cI a1), .u (cI a2), .u (cI a3), .u (cI a4)], .row 108 v24.2.length 4 (gl BlkPiece.c v24.2), .box 108 (BlkPiece.L (a0.getD i3 default))])) (fun v24 hF => ?_) (fun hF => ?_)
      · refine Dz.seq ?_
        refine Dz.reg ?_
        refine Dz.ite rfl hF (fun _ hF => ?_) (fun _ hF => ?_)
        · refine Dz.reg ?_
          refine vck hF id (fun _ hF => ?_)
          refine Dz.row 3 ([(a0.getD i3 default)] : List BlkPiece).length (gl BlkPiece.c ([(a0.getD i3 default)] : List BlkPiece)) rfl (by simp <;> omega) (EqG.lit (c := BlkPiece.c) (sz := 4) (L := ([(a0.getD i3 default)] : List BlkPiece)) ⟨LeU.refl _, LeU.refl _, LeU.refl _, LeU.refl _, trivial⟩) ?_
          refine Dz.row 4 (v24.2 ++ ([(a0.getD i3 default)] : List BlkPiece)).length (gl BlkPiece.c (v24.2 ++ ([(a0.getD i3 default)] : List BlkPiece))) rfl (by simp <;> omega) (EqG.app rfl (by simp <;> omega) (EqG.refl _ _ _) (EqG.lit (c := BlkPiece.c) (sz := 4) (L := ([(a0.getD i3 default)] : List BlkPiece)) ⟨LeU.refl _, LeU.refl _, LeU.refl _, LeU.refl _, trivial⟩)) ?_
          refine Dz.reg ?_
          refine vsucc (by omega) ?_
          exact ⟨(v24.1, (v24.2 ++ ([(a0.getD i3 default)] : List BlkPiece))), entG [0, 4] ⟨m_val rfl, m_ptr rfl, ⟨rfl, rfl, trivial⟩, m_val rfl, m_val rfl, m_val rfl, m_val rfl, trivial⟩ ⟨⟨rfl, o_box rfl⟩, ⟨rfl, o_row⟩, trivial⟩ rfl, hF⟩
        · refine Dz.skip ?_
          refine Dz.reg ?_
          refine vsucc (by omega) ?_
          exact ⟨(v24.1, v24.2), entG [0, 1] ⟨m_val rfl, m_ptr rfl, ⟨rfl, rfl, trivial⟩, m_val rfl, m_val rfl, m_val rfl, m_val rfl, trivial⟩ ⟨⟨rfl, o_box rfl⟩, ⟨rfl, o_row⟩, trivial⟩ rfl, hF⟩
      · refine Dz.seq ?_
        refine Dz.reg ?_
        refine vif hF (fun _ hF => ?_) (fun _ hF => ?_)
        · refine Dz.ite rfl hF (fun _ hF => ?_) (fun _ hF => ?_)
          · refine Dz.seq ?_
            refine Dz.reg ?_
            refine vck hF id (fun _ hF => ?_)
            refine Dz.row 3 ([({ Disk := a1, Block := a2, Epoch := a3, Data := a4 } : BlkPiece)] : List BlkPiece).length (gl BlkPiece.c ([({ Disk := a1, Block := a2, Epoch := a3, Data := a4 } : BlkPiece)] : List BlkPiece)) rfl (by simp <;> omega) (EqG.lit (c := BlkPiece.c) (sz := 4) (L := ([({ Disk := a1, Block := a2, Epoch := a3, Data := a4 } : BlkPiece)] : List BlkPiece)) ⟨LeU.refl _, LeU.refl _, LeU.refl _, LeU.refl _, trivial⟩) ?_
            refine Dz.row 4 (v18.2 ++ ([({ Disk := a1, Block := a2, Epoch := a3, Data := a4 } : BlkPiece)] : List BlkPiece)).length (gl BlkPiece.c (v18.2 ++ ([({ Disk := a1, Block := a2, Epoch := a3, Data := a4 } : BlkPiece)] : List BlkPiece))) rfl (by simp <;> omega) (EqG.app rfl (by simp <;> omega) (EqG.refl _ _ _) (EqG.lit (c := BlkPiece.c) (sz := 4) (L := ([({ Disk := a1, Block := a2, Epoch := a3, Data := a4 } : BlkPiece)] : List BlkPiece)) ⟨LeU.refl _, LeU.refl _, LeU.refl _, LeU.refl _, trivial⟩)) ?_
            refine Dz.reg ?_
            exact ⟨(true, (v18.2 ++ ([({ Disk := a1, Block := a2, Epoch := a3, Data := a4 } : BlkPiece)] : List BlkPiece))), entG [0, 4, 2] ⟨m_val rfl, m_ptr rfl, ⟨rfl, rfl, trivial⟩, m_val rfl, m_ptr rfl, m_val rfl, m_val rfl, m_val rfl, m_val rfl, trivial⟩ ⟨⟨rfl, o_box rfl⟩, ⟨rfl, o_row⟩, ⟨rfl, o_box rfl⟩, trivial⟩ rfl, hF⟩
          · refine Dz.skip ?_
            exact ⟨(v18.1, v18.2), entG [0, 1, 2] ⟨m_val rfl, m_ptr rfl, ⟨rfl, rfl, trivial⟩, m_val rfl, m_ptr rfl, m_val rfl, m_val rfl, m_val rfl, m_val rfl, trivial⟩ ⟨⟨rfl, o_box rfl⟩, ⟨rfl, o_row⟩, ⟨rfl, o_box rfl⟩, trivial⟩ rfl, hF⟩
        · refine Dz.ff (b := false) rfl rfl ?_
          refine Dz.skip ?_
          exact ⟨(v18.1, v18.2), entG [0, 1, 2] ⟨m_val rfl, m_ptr rfl, ⟨rfl, rfl, trivial⟩, m_val rfl, m_ptr rfl, m_val rfl, m_val rfl, m_val rfl, m_val rfl, trivial⟩ ⟨⟨rfl, o_box rfl⟩, ⟨rfl, o_row⟩, ⟨rfl, o_box rfl⟩, trivial⟩ rfl, hF⟩
end Go.Proofs.PanH

/-! Printed by wip/tools/walk.py. -/
namespace Go.Proofs.PanH
open Go.Vs
set_option maxRecDepth 8000
def i_BlkGet (a0 : (List BlkPiece)) (a1 : Int) (a2 : Int) (a3 : Int) : Option (Int) :=
  (i_BlkOk a0).bind (fun y1 => cond (!y1) (some 0) (loopN (fun i3 (v8 : Int) κ9 => lt (a0.getD i3 default) (fun x10 => cond (decide (x10.Disk = a1)) (cond (decide (x10.Block = a2)) (cond (decide (x10.Epoch ≤ a3)) (κ9 x10.Data) (κ9 v8)) (κ9 v8)) (κ9 v8))) (fun (v8 : Int) => some v8) a0.length 0 0))
theorem i_BlkGet_c {t0_0 : Bool} {a0 : (List BlkPiece)} {a1 : Int} {a2 : Int} {a3 : Int} {r : Int} (hF : i_BlkGet a0 a1 a2 a3 = some r) : Con Try.prog 133 [.val false [.u (ul BlkPiece.c 4 t0_0 a0)], vint .i64 a1, vint .i64 a2, vint .i64 a3] [] (vint .i64 r) [] := by
  refine Con.of_Dz tabOk Try.func133 rfl rfl rfl ?_
  delta i_BlkGet at hF
  refine Dz.seq ?_
  refine Dz.reg ?_
  refine Dz.seq ?_
  refine Dz.seq ?_
  refine Dz.reg ?_
  refine bdE hF (fun y1 hy1 hF => ?_)
  refine callG [] (i_BlkOk_c hy1) ⟨m_val rfl, trivial⟩ trivial rfl ?_
  refine Dz.ite rfl hF (fun _ hF => ?_) (fun _ hF => ?_)
  · refine Dz.seq ?_
    refine Dz.reg ?_
    refine Dz.ret ?_
    cases hF
    exact finG [] [] rfl rfl (m_val rfl) trivial rfl
  · refine Dz.skip ?_
    refine Dz.seq ?_
    refine Dz.reg ?_
    refine Dz.seq ?_
    refine Dz.seq ?_
    refine Dz.reg ?_
    intro hb2; replace hb2 : a0.length ≤ 140737488355328 := hb2
    refine Dz.blk ?_
    refine Dz.cnt hF (fun i3 v8 => ([(1, vint .i64 a1), (2, vint .i64 a2), (3, vint .i64 a3), (9, vint .i64 v8), (15, .val false [.u (ul BlkPiece.c 4 t0_0 a0)]), (16, vint .i64 ((a0.length : Nat) : Int)), (17, vint .i64 ((i3 : Nat) : Int))], [])) (entG [] ⟨m_val rfl, m_val rfl, m_val rfl, m_val rfl, m_val rfl, m_val rfl, m_val rfl, trivial⟩ trivial rfl) (fun v8 hF => ?_) (fun i3 v8 κ9 hi0i3 hi1i3 hF => ?_)
    · refine Dz.seq ?_
      refine Dz.reg ?_
      refine Dz.seq ?_
      refine Dz.ff (b := decide (((0 + a0.length : Nat) : Int) < ((a0.length : Nat) : Int))) rfl (decide_eq_false (by omega)) ?_
      refine Dz.exit ?_
      refine Dz.seq ?_
      refine Dz.reg ?_
      refine Dz.ret ?_
      cases hF
      exact finG [] [] rfl rfl (m_val rfl) trivial rfl
    · refine Dz.seq ?_
      refine Dz.reg ?_
      refine Dz.seq ?_
      refine Dz.tt (b := decide (((i3 : Nat) : Int) < ((a0.length : Nat) : Int))) rfl (decide_eq_true (by omega)) ?_
      refine Dz.skip ?_
      refine Dz.seq ?_
      refine Dz.blk ?_
      refine Dz.seq ?_
      refine Dz.reg ?_
      refine vge (n := ((i3 : Nat) : Int)) (hi := (a0.length : Int)) (by omega) (by omega) ?_
      have hF := ltE hF
      refine Dz.seq ?_
      refine Dz.reg ?_
      refine vif hF (fun _ hF => ?_) (fun _ hF => ?_)
      · refine vif hF (fun _ hF => ?_) (fun _ hF => ?_)
        · refine Dz.ite rfl hF (fun _ hF => ?_) (fun _ hF => ?_)
          · refine Dz.reg ?_
            refine Dz.reg ?_
            refine vsucc (by omega) ?_
            exact ⟨((a0.getD i3 default).Data), entG [] ⟨m_val rfl, m_val rfl, m_val rfl, m_val rfl, m_val rfl, m_val rfl, m_val rfl, trivial⟩ trivial rfl, hF⟩
          · refine Dz.skip ?_
            refine Dz.reg ?_
            refine vsucc (by omega) ?_
            exact ⟨v8, entG [] ⟨m_val rfl, m_val rfl, m_val rfl, m_val rfl, m_val rfl, m_val rfl, m_val rfl, trivial⟩ trivial rfl, hF⟩
        · refine Dz.ff (b := false) rfl rfl ?_
          refine Dz.skip ?_
          refine Dz.reg ?_
          refine vsucc (by omega) ?_
          exact ⟨v8, entG [] ⟨m_val rfl, m_val rfl, m_val rfl, m_val rfl, m_val rfl, m_val rfl, m_val rfl, trivial⟩ trivial rfl, hF⟩
      · refine Dz.ff (b := false) rfl rfl ?_
        refine Dz.skip ?_
        refine Dz.reg ?_
        refine vsucc (by omega) ?_
        exact ⟨v8, entG [] ⟨m_val rfl, m_val rfl, m_val rfl, m_val rfl, m_val rfl, m_val rfl, m_val rfl, trivial⟩ trivial rfl, hF⟩
end Go.Proofs.PanH

/-! Printed by wip/tools/walk.py. -/
namespace Go.Proofs.PanH
open Go.Vs
set_option maxRecDepth 8000
def i_histBlock (a0 : HistState) (a1 : PanCall) : Option (HistState × Int × Int) :=
  (i_judge a0.Disks a1.Disk a1.Block a1.Epoch (decide (a1.Op = 2))).bind (fun y1 => cond (!decide (y1 = 0)) (some (a0, y1, 0)) ((i_diskAt a0.Disks a1.Disk).bind (fun y2 => ix a0.Disks y2 (fun x3 => cond (decide (a1.Op = 2)) ((i_BlkPut a0.Pieces a1.Disk a1.Block x3.Epoch a1.Data).bind (fun y4 => some (({ Next := a0.Next, Servers := a0.Servers, Disks := a0.Disks, Pieces := y4.1 } : HistState), 0, 0))) (cond (!decide (a1.Epoch = 0)) ((i_BlkGet a0.Pieces a1.Disk a1.Block a1.Epoch).bind (fun y5 => some (a0, 0, y5))) ((i_BlkGet a0.Pieces a1.Disk a1.Block x3.Epoch).bind (fun y6 => some (a0, 0, y6))))))))
theorem i_histBlock_c {a0 : HistState} {a1 : PanCall} {r : HistState × Int × Int} (hF : i_histBlock a0 a1 = some r) : Con Try.prog 110 [.val true (HistState.L a0), .val true (PanCall.L a1)] [] (.tup [(true, (HistState.L r.1)), (false, [.u (cI r.2.1)]), (false, [.u (cI r.2.2)])]) [] := by
  refine Con.of_Dz tabOk Try.func110 rfl rfl rfl ?_
  delta i_histBlock at hF
  refine Dz.seq ?_
  refine Dz.reg ?_
  refine Dz.seq ?_
  refine Dz.seq ?_
  refine Dz.reg ?_
  refine bdE hF (fun y1 hy1 hF => ?_)
  refine callG [] (i_judge_c hy1) ⟨m_val rfl, m_val rfl, m_val rfl, m_val rfl, m_val rfl, trivial⟩ trivial rfl ?_
  refine Dz.seq ?_
  refine Dz.reg ?_
  refine Dz.ite rfl hF (fun _ hF => ?_) (fun _ hF => ?_)
  · refine Dz.seq ?_
    refine Dz.reg ?_
    refine Dz.ret ?_
    cases hF
    exact finG [] [] rfl rfl ⟨⟨rfl, mls_same rfl⟩, ⟨rfl, mls_same rfl⟩, ⟨rfl, mls_same rfl⟩, trivial⟩ trivial rfl
  · refine Dz.skip ?_
    refine Dz.seq ?_
    refine Dz.drw 3 [⟨[27,28,29,30,31], [], 3, 3⟩, ⟨[27,28,29,30,31], [0], 3, 3⟩, ⟨[25,26,29,30], [], 3, 3⟩, ⟨[25,26,29,30], [0], 3, 3⟩, ⟨[25,26,27,28], [], 3, 3⟩, ⟨[25,26,27,28], [1], 3, 3⟩, ⟨[25,26], [], 3, 3⟩, ⟨[], [], 3, 3⟩, ⟨[], [], 3, 3⟩, ⟨[], [], 3, 3⟩, ⟨[], [], 3, 3⟩] ⟨by kernel_rfl, by kernel_rfl, rfl⟩ ?_
    refine bdE hF (fun y2 hy2 hF => ?_)
    refine callG [] (i_diskAt_c hy2) ⟨m_val rfl, m_val rfl, trivial⟩ trivial rfl ?_
    refine vix hF (fun _ _ hF => ?_)
    refine Dz.seq ?_
    refine Dz.seq ?_
    refine Dz.reg ?_
    refine Dz.ite rfl hF (fun _ hF => ?_) (fun _ hF => ?_)
    · refine Dz.seq ?_
      refine Dz.ent (x := ([(2, .ptr 0 0), (3, .ptr 1 0), (4, .ptr 2 0), (8, vint .i64 ((a0.Disks.getD y2.toNat default).Epoch))], [.box 57 (HistState.L a0), .box 64 (PanCall.L a1), .box 57 [.u (cI 0), .u (cI 0), .nil, .nil]])) (entG [0, 1, 2] ⟨m_ptr rfl, m_ptr rfl, m_ptr rfl, m_val rfl, trivial⟩ ⟨⟨rfl, o_box rfl⟩, ⟨rfl, o_box rfl⟩, ⟨rfl, ⟨rfl, LeU.refl _, LeU.refl _, trivial, trivial, trivial⟩⟩, trivial⟩ rfl) ?_
      refine Dz.reg ?_
      refine bdE hF (fun y4 hy4 hF => ?_)
      refine callG [] (i_BlkPut_c hy4) ⟨m_val rfl, m_val rfl, m_val rfl, m_val rfl, m_val rfl, trivial⟩ trivial rfl ?_
      refine Dz.seq ?_
      refine Dz.reg ?_
      refine Dz.ret ?_
      cases hF
      exact finG [.frz 3] [] rfl rfl ⟨⟨rfl, ⟨LeU.refl _, LeU.refl _, LeU.refl _, LeU.refl _, trivial⟩⟩, ⟨rfl, mls_same rfl⟩, ⟨rfl, mls_same rfl⟩, trivial⟩ trivial rfl
    · refine Dz.skip ?_
      refine Dz.seq ?_
      refine Dz.seq ?_
      refine Dz.ent (x := ([(2, .ptr 0 0), (3, .ptr 1 0), (4, .ptr 2 0), (8, vint .i64 ((a0.Disks.getD y2.toNat default).Epoch))], [.box 57 (HistState.L a0), .box 64 (PanCall.L a1), .box 57 [.u (cI 0), .u (cI 0), .nil, .nil]])) (entG [0, 1, 2] ⟨m_ptr rfl, m_ptr rfl, m_ptr rfl, m_val rfl, trivial⟩ ⟨⟨rfl, o_box rfl⟩, ⟨rfl, o_box rfl⟩, ⟨rfl, ⟨rfl, LeU.refl _, LeU.refl _, trivial, trivial, trivial⟩⟩, trivial⟩ rfl) ?_
      refine Dz.reg ?_
      refine Dz.ite rfl hF (fun _ hF => ?_) (fun _ hF => ?_)
      · refine Dz.reg ?_
        refine Dz.seq ?_
        refine Dz.drw 3 [⟨[59,60,61,62,63,64,65,66], [0], 3, 3⟩, ⟨[58,61,62,63,64,65], [], 3, 3⟩, ⟨[58,61,62,63,64,65], [0], 3, 3⟩, ⟨[58,59,60,63,64,65], [], 3, 3⟩, ⟨[58,59,60,63,64,65], [1], 3, 3⟩, ⟨[58,59,60,61,62,65], [], 3, 3⟩, ⟨[58,59,60,61,62,65], [1], 3, 3⟩, ⟨[58,59,60,61,62,63,64], [], 3, 3⟩, ⟨[58], [], 3, 3⟩, ⟨[], [2], 3, 3⟩, ⟨[], [], 3, 3⟩, ⟨[], [], 3, 3⟩] ⟨by kernel_rfl, by kernel_rfl, rfl⟩ ?_
        refine bdE hF (fun y5 hy5 hF => ?_)
        refine callG [] (i_BlkGet_c hy5) ⟨m_val rfl, m_val rfl, m_val rfl, m_val rfl, trivial⟩ trivial rfl ?_
        refine Dz.ret ?_
        cases hF
        exact finG [] [] rfl rfl ⟨⟨rfl, mls_same rfl⟩, ⟨rfl, mls_same rfl⟩, ⟨rfl, mls_same rfl⟩, trivial⟩ trivial rfl
      · refine Dz.skip ?_
        refine Dz.seq ?_
        refine Dz.drw 3 [⟨[59,60,61,62,63,64,65,66], [0], 3, 3⟩, ⟨[58,61,62,63,64,65], [], 3, 3⟩, ⟨[58,61,62,63,64,65], [0], 3, 3⟩, ⟨[58,59,60,63,64,65], [], 3, 3⟩, ⟨[58,59,60,63,64,65], [1], 3, 3⟩, ⟨[58,59,60,61,62,65], [], 3, 3⟩, ⟨[58,59,60,61,62,65], [1], 3, 3⟩, ⟨[58,59,60,61,62,63,64], [], 3, 3⟩, ⟨[58], [], 3, 3⟩, ⟨[], [2], 3, 3⟩, ⟨[], [], 3, 3⟩, ⟨[], [], 3, 3⟩] ⟨by kernel_rfl, by kernel_rfl, rfl⟩ ?_
        refine bdE hF (fun y6 hy6 hF => ?_)
        refine callG [] (i_BlkGet_c hy6) ⟨m_val rfl, m_val rfl, m_val rfl, m_val rfl, trivial⟩ trivial rfl ?_
        refine Dz.ret ?_
        cases hF
        exact finG [] [] rfl rfl ⟨⟨rfl, mls_same rfl⟩, ⟨rfl, mls_same rfl⟩, ⟨rfl, mls_same rfl⟩, trivial⟩ trivial rfl
end Go.Proofs.PanH

/-! Printed by wip/tools/walk.py. -/
namespace Go.Proofs.PanH
open Go.Vs
set_option maxRecDepth 8000
def i_step (a0 : HistState) (a1 : PanCall) : Option (HistState × Int × Int) :=
  (i_diskAt a0.Disks a1.Disk).bind (fun y1 => cond (decide (a1.Op = 1)) ((i_histBlock a0 a1).bind (fun y2 => some (y2.1, y2.2.1, y2.2.2))) (cond (decide (a1.Op = 2)) ((i_histBlock a0 a1).bind (fun y3 => some (y3.1, y3.2.1, y3.2.2))) (cond (decide (a1.Op = 3)) ((i_in a1.Data 1 8).bind (fun y4 => cond (!y4) (some (a0, 4, 0)) (cond (decide ((4 : Int) < a0.Next)) (some (a0, 4, 0)) (ck ((a0.Disks.length + 1) * 72 ≤ 140737488355328) (some (({ Next := (w64 (a0.Next + 1)), Servers := a0.Servers, Disks := (a0.Disks ++ ([({ Id := a0.Next, Size := a1.Data, Epoch := 1, Frozen := 0, Client := 0, Call := 0, Acks := [] } : MapDisk)] : List MapDisk)), Pieces := a0.Pieces } : HistState), 0, (w64 ((w64 (a0.Next + 1)) - 1)))))))) (cond (decide (a1.Op = 6)) (cond (decide (a0.Servers = 5)) (some (a0, 4, 0)) (some (({ Next := a0.Next, Servers := (w64 (a0.Servers + 1)), Disks := a0.Disks, Pieces := a0.Pieces } : HistState), 0, (w64 (a0.Servers + 1))))) (cond (decide (y1 < 0)) (some (a0, 1, 0)) (cond (decide (a1.Op = 4)) (ix a0.Disks y1 (fun _ => cond (decide ((a0.Disks.getD y1.toNat default).Epoch = 99999)) (some (a0, 4, 0)) (ix a0.Disks y1 (fun _ => ix a0.Disks y1 (fun _ => some (({ Next := a0.Next, Servers := a0.Servers, Disks := (a0.Disks.set y1.toNat ({ Id := (a0.Disks.getD y1.toNat default).Id, Size := (a0.Disks.getD y1.toNat default).Size, Epoch := (w64 ((a0.Disks.getD y1.toNat default).Epoch + 1)), Frozen := (a0.Disks.getD y1.toNat default).Frozen, Client := (a0.Disks.getD y1.toNat default).Client, Call := (a0.Disks.getD y1.toNat default).Call, Acks := (a0.Disks.getD y1.toNat default).Acks } : MapDisk)), Pieces := a0.Pieces } : HistState), 0, (a0.Disks.getD y1.toNat default).Epoch)))))) (ck (0 ≤ y1 ∧ y1 ≤ ((a0.Disks.length : Nat) : Int)) (ck (0 ≤ (w64 (y1 + 1)) ∧ (w64 (y1 + 1)) ≤ ((a0.Disks.length : Nat) : Int)) (ck ((y1.toNat + (a0.Disks.length - (w64 (y1 + 1)).toNat)) * 72 ≤ 140737488355328) (some (({ Next := a0.Next, Servers := a0.Servers, Disks := (a0.Disks.take y1.toNat ++ a0.Disks.drop ((w64 (y1 + 1)).toNat)), Pieces := a0.Pieces } : HistState), 0, 0)))))))))))
theorem i_step_c {a0 : HistState} {a1 : PanCall} {r : HistState × Int × Int} (hF : i_step a0 a1 = some r) : Con Try.prog 61 [.val true [.u (cI a0.Next), .u (cI a0.Servers), .row 0, .u (ul BlkPiece.c 4 false a0.Pieces)], .val true (PanCall.L a1)] [.row 145 a0.Disks.length 7 (gl MapDisk.c a0.Disks)] (.tup [(true, (HistState.L r.1)), (false, [.u (cI r.2.1)]), (false, [.u (cI r.2.2)])]) [.none] := by
  refine Con.of_Dz tabOk Try.func61 rfl rfl rfl ?_
  delta i_step at hF
  refine Dz.seq ?_
  refine Dz.reg ?_
  refine Dz.seq ?_
  refine Dz.reg ?_
  refine bdE hF (fun y1 hy1 hF => ?_)
  refine callL [] (i_diskAt_c hy1) ⟨⟨rfl, ⟨rfl, rfl, LeU.refl _⟩, trivial⟩, m_val rfl, trivial⟩ trivial rfl ⟨⟨trivial, trivial⟩, trivial⟩ ?_
  refine Dz.seq ?_
  refine Dz.blk ?_
  refine Dz.seq ?_
  refine Dz.reg ?_
  refine vif hF (fun _ hF => ?_) (fun _ hF => ?_)
  · refine Dz.tt (b := true) rfl rfl ?_
    refine Dz.seq ?_
    refine Dz.reg ?_
    refine bdE hF (fun y2 hy2 hF => ?_)
    refine callF [0] [] (i_histBlock_c hy2) ⟨⟨rfl, LeU.refl _, LeU.refl _, LeU.refl _, LeU.refl _, trivial⟩, m_val rfl, trivial⟩ trivial rfl ?_
    refine Dz.ret ?_
    cases hF
    exact finG [] [0] rfl rfl ⟨⟨rfl, mls_same rfl⟩, ⟨rfl, mls_same rfl⟩, ⟨rfl, mls_same rfl⟩, trivial⟩ ⟨⟨rfl, trivial⟩, trivial⟩ rfl
  · refine Dz.ite rfl hF (fun _ hF => ?_) (fun _ hF => ?_)
    · refine Dz.seq ?_
      refine Dz.reg ?_
      refine bdE hF (fun y3 hy3 hF => ?_)
      refine callF [0] [] (i_histBlock_c hy3) ⟨⟨rfl, LeU.refl _, LeU.refl _, LeU.refl _, LeU.refl _, trivial⟩, m_val rfl, trivial⟩ trivial rfl ?_
      refine Dz.ret ?_
      cases hF
      exact finG [] [0] rfl rfl ⟨⟨rfl, mls_same rfl⟩, ⟨rfl, mls_same rfl⟩, ⟨rfl, mls_same rfl⟩, trivial⟩ ⟨⟨rfl, trivial⟩, trivial⟩ rfl
    · refine Dz.seq ?_
      refine Dz.reg ?_
      refine Dz.ite rfl hF (fun _ hF => ?_) (fun _ hF => ?_)
      · refine Dz.seq ?_
        refine Dz.seq ?_
        refine Dz.reg ?_
        refine bdE hF (fun y4 hy4 hF => ?_)
        refine callG [] (i_in_c hy4) ⟨m_val rfl, m_val rfl, m_val rfl, trivial⟩ trivial rfl ?_
        refine vif hF (fun _ hF => ?_) (fun _ hF => ?_)
        · refine Dz.tt (b := true) rfl rfl ?_
          refine Dz.seq ?_
          refine Dz.reg ?_
          refine Dz.ret ?_
          cases hF
          exact finG [.frz 0] [0] rfl rfl ⟨⟨rfl, ⟨LeU.refl _, LeU.refl _, LeU.refl _, LeU.refl _, trivial⟩⟩, ⟨rfl, mls_same rfl⟩, ⟨rfl, mls_same rfl⟩, trivial⟩ ⟨⟨rfl, trivial⟩, trivial⟩ rfl
        · refine Dz.ite rfl hF (fun _ hF => ?_) (fun _ hF => ?_)
          · refine Dz.seq ?_
            refine Dz.ent (x := ([(2, .ptr 1 0), (4, .ptr 2 0)], [.row 145 a0.Disks.length 7 (gl MapDisk.c a0.Disks), .box 57 [.u (cI a0.Next), .u (cI a0.Servers), .row 0, .u (ul BlkPiece.c 4 false a0.Pieces)], .box 57 [.u (cI 0), .u (cI 0), .nil, .nil]])) (entG [0, 1, 3] ⟨m_ptr rfl, m_ptr rfl, trivial⟩ ⟨⟨rfl, o_row⟩, ⟨rfl, ⟨rfl, LeU.refl _, LeU.refl _, rfl, LeU.refl _, trivial⟩⟩, ⟨rfl, ⟨rfl, LeU.refl _, LeU.refl _, trivial, trivial, trivial⟩⟩, trivial⟩ rfl) ?_
            refine Dz.reg ?_
            refine Dz.ret ?_
            cases hF
            exact finG [.frz 0] [0] rfl rfl ⟨⟨rfl, ⟨LeU.refl _, LeU.refl _, LeU.refl _, LeU.refl _, trivial⟩⟩, ⟨rfl, mls_same rfl⟩, ⟨rfl, mls_same rfl⟩, trivial⟩ ⟨⟨rfl, trivial⟩, trivial⟩ rfl
          · refine Dz.skip ?_
            refine Dz.seq ?_
            refine Dz.ent (x := ([(2, .ptr 1 0), (3, .ptr 2 0), (4, .ptr 3 0)], [.row 145 a0.Disks.length 7 (gl MapDisk.c a0.Disks), .box 57 [.u (cI a0.Next), .u (cI a0.Servers), .row 0, .u (ul BlkPiece.c 4 false a0.Pieces)], .box 64 (PanCall.L a1), .box 57 [.u (cI 0), .u (cI 0), .nil, .nil]])) (entG [0, 1, 2, 3] ⟨m_ptr rfl, m_ptr rfl, m_ptr rfl, trivial⟩ ⟨⟨rfl, o_row⟩, ⟨rfl, ⟨rfl, LeU.refl _, LeU.refl _, rfl, LeU.refl _, trivial⟩⟩, ⟨rfl, o_box rfl⟩, ⟨rfl, ⟨rfl, LeU.refl _, LeU.refl _, trivial, trivial, trivial⟩⟩, trivial⟩ rfl) ?_
            refine Dz.reg ?_
            refine vck hF id (fun _ hF => ?_)
            refine Dz.row 4 ([({ Id := a0.Next, Size := a1.Data, Epoch := 1, Frozen := 0, Client := 0, Call := 0, Acks := [] } : MapDisk)] : List MapDisk).length (gl MapDisk.c ([({ Id := a0.Next, Size := a1.Data, Epoch := 1, Frozen := 0, Client := 0, Call := 0, Acks := [] } : MapDisk)] : List MapDisk)) rfl (by simp <;> omega) (EqG.lit (c := MapDisk.c) (sz := 7) (L := ([({ Id := a0.Next, Size := a1.Data, Epoch := 1, Frozen := 0, Client := 0, Call := 0, Acks := [] } : MapDisk)] : List MapDisk)) ⟨LeU.refl _, LeU.refl _, LeU.refl _, LeU.refl _, LeU.refl _, LeU.refl _, LeU.nil, trivial⟩) ?_
            refine Dz.row 5 (a0.Disks ++ ([({ Id := a0.Next, Size := a1.Data, Epoch := 1, Frozen := 0, Client := 0, Call := 0, Acks := [] } : MapDisk)] : List MapDisk)).length (gl MapDisk.c (a0.Disks ++ ([({ Id := a0.Next, Size := a1.Data, Epoch := 1, Frozen := 0, Client := 0, Call := 0, Acks := [] } : MapDisk)] : List MapDisk))) rfl (by simp <;> omega) (EqG.app rfl (by simp <;> omega) (EqG.refl _ _ _) (EqG.lit (c := MapDisk.c) (sz := 7) (L := ([({ Id := a0.Next, Size := a1.Data, Epoch := 1, Frozen := 0, Client := 0, Call := 0, Acks := [] } : MapDisk)] : List MapDisk)) ⟨LeU.refl _, LeU.refl _, LeU.refl _, LeU.refl _, LeU.refl _, LeU.refl _, LeU.nil, trivial⟩)) ?_
            refine Dz.seq ?_
            refine Dz.reg ?_
            refine vw64 ?_
            refine Dz.seq ?_
            refine Dz.drw 6 [⟨[58,59,60], [1], 6, 6⟩, ⟨[57,5], [], 6, 6⟩, ⟨[57,5], [1], 6, 6⟩, ⟨[57,5], [], 6, 6⟩, ⟨[58,59,60], [3], 6, 6⟩, ⟨[58,59,60], [], 6, 6⟩, ⟨[], [], 6, 6⟩] ⟨by kernel_rfl, by kernel_rfl, rfl⟩ ?_
            refine vw64 ?_
            refine Dz.ret ?_
            cases hF
            exact finG [.frz 5] [0] rfl rfl ⟨⟨rfl, ⟨LeU.refl _, LeU.refl _, LeU.refl _, LeU.refl _, trivial⟩⟩, ⟨rfl, mls_same rfl⟩, ⟨rfl, mls_same rfl⟩, trivial⟩ ⟨⟨rfl, trivial⟩, trivial⟩ rfl
      · refine Dz.seq ?_
        refine Dz.reg ?_
        refine Dz.ite rfl hF (fun _ hF => ?_) (fun _ hF => ?_)
        · refine Dz.seq ?_
          refine Dz.seq ?_
          refine Dz.reg ?_
          refine Dz.ite rfl hF (fun _ hF => ?_) (fun _ hF => ?_)
          · refine Dz.seq ?_
            refine Dz.reg ?_
            refine Dz.ret ?_
            cases hF
            exact finG [.frz 0] [0] rfl rfl ⟨⟨rfl, ⟨LeU.refl _, LeU.refl _, LeU.refl _, LeU.refl _, trivial⟩⟩, ⟨rfl, mls_same rfl⟩, ⟨rfl, mls_same rfl⟩, trivial⟩ ⟨⟨rfl, trivial⟩, trivial⟩ rfl
          · refine Dz.skip ?_
            refine Dz.seq ?_
            refine Dz.reg ?_
            refine vw64 ?_
            refine Dz.seq ?_
            refine Dz.ent (x := ([(2, .ptr 1 0), (4, .ptr 2 0)], [.row 145 a0.Disks.length 7 (gl MapDisk.c a0.Disks), .box 57 [.u (cI a0.Next), .u (cI (w64 (a0.Servers + 1))), .row 0, .u (ul BlkPiece.c 4 false a0.Pieces)], .box 57 [.u (cI 0), .u (cI 0), .nil, .nil]])) (entG [0, 1, 3] ⟨m_ptr rfl, m_ptr rfl, trivial⟩ ⟨⟨rfl, o_row⟩, ⟨rfl, ⟨rfl, LeU.refl _, LeU.refl _, rfl, LeU.refl _, trivial⟩⟩, ⟨rfl, ⟨rfl, LeU.refl _, LeU.refl _, trivial, trivial, trivial⟩⟩, trivial⟩ rfl) ?_
            refine Dz.drw 3 [⟨[74,75], [1], 3, 3⟩, ⟨[73,5], [], 3, 3⟩, ⟨[73,5], [1], 3, 3⟩, ⟨[74,75], [2], 3, 3⟩, ⟨[74,75], [], 3, 3⟩, ⟨[], [], 3, 3⟩] ⟨by kernel_rfl, by kernel_rfl, rfl⟩ ?_
            refine Dz.ret ?_
            cases hF
            exact finG [.frz 0] [0] rfl rfl ⟨⟨rfl, ⟨LeU.refl _, LeU.refl _, LeU.refl _, LeU.refl _, trivial⟩⟩, ⟨rfl, mls_same rfl⟩, ⟨rfl, mls_same rfl⟩, trivial⟩ ⟨⟨rfl, trivial⟩, trivial⟩ rfl
        · refine Dz.seq ?_
          refine Dz.reg ?_
          refine Dz.ite rfl hF (fun _ hF => ?_) (fun _ hF => ?_)
          · refine Dz.seq ?_
            refine Dz.reg ?_
            refine Dz.ret ?_
            cases hF
            exact finG [.frz 0] [0] rfl rfl ⟨⟨rfl, ⟨LeU.refl _, LeU.refl _, LeU.refl _, LeU.refl _, trivial⟩⟩, ⟨rfl, mls_same rfl⟩, ⟨rfl, mls_same rfl⟩, trivial⟩ ⟨⟨rfl, trivial⟩, trivial⟩ rfl
          · refine Dz.seq ?_
            refine Dz.reg ?_
            refine Dz.ite rfl hF (fun _ hF => ?_) (fun _ hF => ?_)
            · refine Dz.seq ?_
              refine Dz.ent (x := ([(2, .ptr 1 0), (4, .ptr 2 0), (7, vint .i64 y1)], [.row 145 a0.Disks.length 7 (gl MapDisk.c a0.Disks), .box 57 [.u (cI a0.Next), .u (cI a0.Servers), .row 0, .u (ul BlkPiece.c 4 false a0.Pieces)], .box 57 [.u (cI 0), .u (cI 0), .nil, .nil]])) (entG [0, 1, 3] ⟨m_ptr rfl, m_ptr rfl, m_val rfl, trivial⟩ ⟨⟨rfl, o_row⟩, ⟨rfl, ⟨rfl, LeU.refl _, LeU.refl _, rfl, LeU.refl _, trivial⟩⟩, ⟨rfl, ⟨rfl, LeU.refl _, LeU.refl _, trivial, trivial, trivial⟩⟩, trivial⟩ rfl) ?_
              refine Dz.reg ?_
              refine vix hF (fun _ _ hF => ?_)
              refine Dz.seq ?_
              refine Dz.seq ?_
              refine Dz.reg ?_
              refine Dz.ite rfl hF (fun _ hF => ?_) (fun _ hF => ?_)
              · refine Dz.seq ?_
                refine Dz.reg ?_
                refine Dz.ret ?_
                cases hF
                exact finG [.frz 0] [0] rfl rfl ⟨⟨rfl, ⟨LeU.refl _, LeU.refl _, LeU.refl _, LeU.refl _, trivial⟩⟩, ⟨rfl, mls_same rfl⟩, ⟨rfl, mls_same rfl⟩, trivial⟩ ⟨⟨rfl, trivial⟩, trivial⟩ rfl
              · refine Dz.skip ?_
                refine Dz.seq ?_
                refine Dz.reg ?_
                refine vix hF (fun _ _ hF => ?_)
                refine vw64 ?_
                refine vix hF (fun _ _ hF => ?_)
                refine Dz.row 0 (a0.Disks.set y1.toNat ({ Id := (a0.Disks.getD y1.toNat default).Id, Size := (a0.Disks.getD y1.toNat default).Size, Epoch := (w64 ((a0.Disks.getD y1.toNat default).Epoch + 1)), Frozen := (a0.Disks.getD y1.toNat default).Frozen, Client := (a0.Disks.getD y1.toNat default).Client, Call := (a0.Disks.getD y1.toNat default).Call, Acks := (a0.Disks.getD y1.toNat default).Acks } : MapDisk)).length (gl MapDisk.c (a0.Disks.set y1.toNat ({ Id := (a0.Disks.getD y1.toNat default).Id, Size := (a0.Disks.getD y1.toNat default).Size, Epoch := (w64 ((a0.Disks.getD y1.toNat default).Epoch + 1)), Frozen := (a0.Disks.getD y1.toNat default).Frozen, Client := (a0.Disks.getD y1.toNat default).Client, Call := (a0.Disks.getD y1.toNat default).Call, Acks := (a0.Disks.getD y1.toNat default).Acks } : MapDisk))) rfl (by simp <;> omega) (EqG.set' rfl (EqG.refl _ _ _) ⟨LeU.refl _, LeU.refl _, LeU.refl _, LeU.refl _, LeU.refl _, LeU.refl _, LeU.refl _, trivial⟩) ?_
                refine Dz.seq ?_
                refine Dz.reg ?_
                refine Dz.ret ?_
                cases hF
                exact finG [.frz 0] [0] rfl rfl ⟨⟨rfl, ⟨LeU.refl _, LeU.refl _, LeU.refl _, LeU.refl _, trivial⟩⟩, ⟨rfl, mls_same rfl⟩, ⟨rfl, mls_same rfl⟩, trivial⟩ ⟨⟨rfl, trivial⟩, trivial⟩ rfl
            · refine Dz.skip ?_
              refine Dz.seq ?_
              refine Dz.ent (x := ([(2, .ptr 1 0), (4, .ptr 2 0), (7, vint .i64 y1)], [.row 145 a0.Disks.length 7 (gl MapDisk.c a0.Disks), .box 57 [.u (cI a0.Next), .u (cI a0.Servers), .row 0, .u (ul BlkPiece.c 4 false a0.Pieces)], .box 57 [.u (cI 0), .u (cI 0), .nil, .nil]])) (entG [0, 1, 3] ⟨m_ptr rfl, m_ptr rfl, m_val rfl, trivial⟩ ⟨⟨rfl, o_row⟩, ⟨rfl, ⟨rfl, LeU.refl _, LeU.refl _, rfl, LeU.refl _, trivial⟩⟩, ⟨rfl, ⟨rfl, LeU.refl _, LeU.refl _, trivial, trivial, trivial⟩⟩, trivial⟩ rfl) ?_
              refine Dz.drw 3 [⟨[106,108,109,110,111,112], [], 3, 3⟩, ⟨[106,108,109,110,111,112], [1], 3, 3⟩, ⟨[104,105,108,109,110,111,112], [], 3, 3⟩, ⟨[108,109,110,111,112], [0], 3, 3⟩, ⟨[104,105,106,107,110,111], [], 3, 3⟩, ⟨[104,105,106,107,110,111], [1], 3, 3⟩, ⟨[104,105,106,107,108,109], [], 3, 3⟩, ⟨[104,105,106,107,108,109], [], 3, 3⟩, ⟨[104,105,106,107], [0], 3, 3⟩, ⟨[], [0], 3, 4⟩, ⟨[], [], 4, 4⟩, ⟨[], [1], 4, 4⟩] ⟨by kernel_rfl, by kernel_rfl, rfl⟩ ?_
              refine vck hF id (fun _ hF => ?_)
              refine vw64 ?_
              refine vck hF id (fun _ hF => ?_)
              refine vck hF id (fun _ hF => ?_)
              refine Dz.row 3 (a0.Disks.take y1.toNat ++ a0.Disks.drop ((w64 (y1 + 1)).toNat)).length (gl MapDisk.c (a0.Disks.take y1.toNat ++ a0.Disks.drop ((w64 (y1 + 1)).toNat))) rfl (by simp <;> omega) (EqG.app (by simp <;> omega) (by simp <;> omega) (EqG.take _) (EqG.drop _)) ?_
              refine Dz.seq ?_
              refine Dz.reg ?_
              refine Dz.ret ?_
              cases hF
              exact finG [.frz 3] [0] rfl rfl ⟨⟨rfl, ⟨LeU.refl _, LeU.refl _, LeU.refl _, LeU.refl _, trivial⟩⟩, ⟨rfl, mls_same rfl⟩, ⟨rfl, mls_same rfl⟩, trivial⟩ ⟨⟨rfl, trivial⟩, trivial⟩ rfl
end Go.Proofs.PanH

/-! Printed by wip/tools/walk.py. -/
namespace Go.Proofs.PanH
open Go.Vs
set_option maxRecDepth 8000
def i_copied_int (a0 : (List Int)) : Option ((List Int)) :=
  cond (decide (((a0.length : Nat) : Int) = 0)) (some ([] : List Int)) (ck (0 ≤ ((a0.length : Nat) : Int) ∧ ((a0.length : Nat) : Int) * 8 ≤ 140737488355328) (some (cpy (List.replicate a0.length (0 : Int)) a0)))
theorem i_copied_int_c {t0_0 : Bool} {a0 : (List Int)} {r : (List Int)} (hF : i_copied_int a0 = some r) : Con Try.prog 80 [.val false [.u (ul cInt 1 t0_0 a0)]] [] (.val false [.row 0]) [.row 3 r.length 1 (gl cInt r)] := by
  refine Con.of_Dz tabOk Try.func80 rfl rfl rfl ?_
  delta i_copied_int at hF
  refine Dz.seq ?_
  refine Dz.reg ?_
  refine Dz.seq ?_
  refine Dz.seq ?_
  refine Dz.reg ?_
  intro hb1; replace hb1 : a0.length ≤ 140737488355328 := hb1
  refine Dz.ite rfl hF (fun _ hF => ?_) (fun _ hF => ?_)
  · refine Dz.seq ?_
    refine Dz.reg ?_
    refine Dz.ret ?_
    cases hF
    exact finG [.slot 2 3 1] [0] rfl rfl (⟨rfl, rfl, trivial⟩) ⟨⟨rfl, o_rowE (by simp <;> omega) EqG.nilr⟩, trivial⟩ rfl
  · refine Dz.skip ?_
    refine Dz.seq ?_
    refine Dz.reg ?_
    intro hb2; replace hb2 : a0.length ≤ 140737488355328 := hb2
    refine vck hF (fun h => ⟨rfl, h⟩) (fun hk hF => ?_)
    refine Dz.row 0 (List.replicate a0.length (0 : Int)).length (gl cInt (List.replicate a0.length (0 : Int))) rfl (by simp <;> omega) (EqG.rep' (c := cInt) (sz := 1) _ ⟨LeU.refl _, trivial⟩) ?_
    refine Dz.seq ?_
    refine Dz.reg ?_
    refine Dz.row 0 (cpy (List.replicate a0.length (0 : Int)) a0).length (gl cInt (cpy (List.replicate a0.length (0 : Int)) a0)) rfl (by simp <;> omega) (EqG.cpy rfl rfl (EqG.refl _ _ _) (EqG.refl _ _ _)) ?_
    refine Dz.seq ?_
    refine Dz.reg ?_
    refine Dz.ret ?_
    cases hF
    exact finG [] [0] rfl rfl (⟨rfl, rfl, trivial⟩) ⟨⟨rfl, o_row⟩, trivial⟩ rfl
end Go.Proofs.PanH

/-! Printed by wip/tools/walk.py. -/
namespace Go.Proofs.PanH
open Go.Vs
set_option maxRecDepth 8000
def i_copied_MapDisk (a0 : (List MapDisk)) : Option ((List MapDisk)) :=
  cond (decide (((a0.length : Nat) : Int) = 0)) (some ([] : List MapDisk)) (ck (0 ≤ ((a0.length : Nat) : Int) ∧ ((a0.length : Nat) : Int) * 72 ≤ 140737488355328) (some (cpy (List.replicate a0.length (({ Id := 0, Size := 0, Epoch := 0, Frozen := 0, Client := 0, Call := 0, Acks := [] } : MapDisk) : MapDisk)) a0)))
theorem i_copied_MapDisk_c {t0_0 : Bool} {a0 : (List MapDisk)} {r : (List MapDisk)} (hF : i_copied_MapDisk a0 = some r) : Con Try.prog 134 [.val false [.u (ul MapDisk.c 7 t0_0 a0)]] [] (.val false [.row 0]) [.row 145 r.length 7 (gl MapDisk.c r)] := by
  refine Con.of_Dz tabOk Try.func134 rfl rfl rfl ?_
  delta i_copied_MapDisk at hF
  refine Dz.seq ?_
  refine Dz.reg ?_
  refine Dz.seq ?_
  refine Dz.seq ?_
  refine Dz.reg ?_
  intro hb1; replace hb1 : a0.length ≤ 140737488355328 := hb1
  refine Dz.ite rfl hF (fun _ hF => ?_) (fun _ hF => ?_)
  · refine Dz.seq ?_
    refine Dz.reg ?_
    refine Dz.ret ?_
    cases hF
    exact finG [.slot 2 145 7] [0] rfl rfl (⟨rfl, rfl, trivial⟩) ⟨⟨rfl, o_rowE (by simp <;> omega) EqG.nilr⟩, trivial⟩ rfl
  · refine Dz.skip ?_
    refine Dz.seq ?_
    refine Dz.reg ?_
    intro hb2; replace hb2 : a0.length ≤ 140737488355328 := hb2
    refine vck hF (fun h => ⟨rfl, h⟩) (fun hk hF => ?_)
    refine Dz.row 0 (List.replicate a0.length (({ Id := 0, Size := 0, Epoch := 0, Frozen := 0, Client := 0, Call := 0, Acks := [] } : MapDisk) : MapDisk)).length (gl MapDisk.c (List.replicate a0.length (({ Id := 0, Size := 0, Epoch := 0, Frozen := 0, Client := 0, Call := 0, Acks := [] } : MapDisk) : MapDisk))) rfl (by simp <;> omega) (EqG.rep' (c := MapDisk.c) (sz := 7) _ ⟨LeU.refl _, LeU.refl _, LeU.refl _, LeU.refl _, LeU.refl _, LeU.refl _, LeU.nil, trivial⟩) ?_
    refine Dz.seq ?_
    refine Dz.reg ?_
    refine Dz.row 0 (cpy (List.replicate a0.length (({ Id := 0, Size := 0, Epoch := 0, Frozen := 0, Client := 0, Call := 0, Acks := [] } : MapDisk) : MapDisk)) a0).length (gl MapDisk.c (cpy (List.replicate a0.length (({ Id := 0, Size := 0, Epoch := 0, Frozen := 0, Client := 0, Call := 0, Acks := [] } : MapDisk) : MapDisk)) a0)) rfl (by simp <;> omega) (EqG.cpy rfl rfl (EqG.refl _ _ _) (EqG.refl _ _ _)) ?_
    refine Dz.seq ?_
    refine Dz.reg ?_
    refine Dz.ret ?_
    cases hF
    exact finG [] [0] rfl rfl (⟨rfl, rfl, trivial⟩) ⟨⟨rfl, o_row⟩, trivial⟩ rfl
end Go.Proofs.PanH

/-! Printed by wip/tools/walk.py. -/
namespace Go.Proofs.PanH
open Go.Vs
set_option maxRecDepth 8000
def i_disksCopy (a0 : (List MapDisk)) : Option ((List MapDisk)) :=
  (i_copied_MapDisk a0).bind (fun y1 => loopN (fun i3 (v8 : List MapDisk) κ9 => ix v8 ((i3 : Nat) : Int) (fun _ => (i_copied_int ((v8.getD i3 default).Acks)).bind (fun y10 => ix v8 ((i3 : Nat) : Int) (fun _ => κ9 (v8.set i3 ({ Id := (v8.getD i3 default).Id, Size := (v8.getD i3 default).Size, Epoch := (v8.getD i3 default).Epoch, Frozen := (v8.getD i3 default).Frozen, Client := (v8.getD i3 default).Client, Call := (v8.getD i3 default).Call, Acks := y10 } : MapDisk)))))) (fun (v8 : List MapDisk) => some v8) y1.length 0 y1)
theorem i_disksCopy_c {t0_0 : Bool} {a0 : (List MapDisk)} {r : (List MapDisk)} (hF : i_disksCopy a0 = some r) : Con Try.prog 111 [.val false [.u (ul MapDisk.c 7 t0_0 a0)]] [] (.val false [.row 0]) [.row 145 r.length 7 (gl MapDisk.c r)] := by
  refine Con.of_Dz tabOk Try.func111 rfl rfl rfl ?_
  delta i_disksCopy at hF
  refine Dz.seq ?_
  refine Dz.reg ?_
  refine Dz.seq ?_
  refine Dz.reg ?_
  refine bdE hF (fun y1 hy1 hF => ?_)
  refine callG [] (i_copied_MapDisk_c hy1) ⟨m_val rfl, trivial⟩ trivial rfl ?_
  refine Dz.seq ?_
  refine Dz.seq ?_
  refine Dz.reg ?_
  intro hb2; replace hb2 : y1.length ≤ 140737488355328 := hb2
  refine Dz.blk ?_
  refine Dz.cnt hF (fun i3 v8 => ([(3, .val false [.row 0]), (8, vint .i64 ((y1.length : Nat) : Int)), (9, vint .i64 ((i3 : Nat) : Int))], [.row 145 v8.length 7 (gl MapDisk.c v8)])) (entG [0] ⟨⟨rfl, rfl, trivial⟩, m_val rfl, m_val rfl, trivial⟩ ⟨⟨rfl, o_row⟩, trivial⟩ rfl) (fun v8 hF => ?_) (fun i3 v8 κ9 hi0i3 hi1i3 hF => ?_)
  · refine Dz.seq ?_
    refine Dz.reg ?_
    refine Dz.seq ?_
    refine Dz.ff (b := decide (((0 + y1.length : Nat) : Int) < ((y1.length : Nat) : Int))) rfl (decide_eq_false (by omega)) ?_
    refine Dz.exit ?_
    refine Dz.seq ?_
    refine Dz.reg ?_
    refine Dz.ret ?_
    cases hF
    exact finG [] [0] rfl rfl (⟨rfl, rfl, trivial⟩) ⟨⟨rfl, o_row⟩, trivial⟩ rfl
  · refine Dz.seq ?_
    refine Dz.reg ?_
    refine Dz.seq ?_
    refine Dz.tt (b := decide (((i3 : Nat) : Int) < ((y1.length : Nat) : Int))) rfl (decide_eq_true (by omega)) ?_
    refine Dz.skip ?_
    refine Dz.seq ?_
    refine Dz.blk ?_
    refine Dz.seq ?_
    refine Dz.reg ?_
    refine Dz.reg ?_
    refine vix hF (fun _ _ hF => ?_)
    refine bdE hF (fun y10 hy10 hF => ?_)
    refine callG [] (i_copied_int_c hy10) ⟨m_val rfl, trivial⟩ trivial rfl ?_
    refine vix hF (fun _ _ hF => ?_)
    refine Dz.row 0 (v8.set i3 ({ Id := (v8.getD i3 default).Id, Size := (v8.getD i3 default).Size, Epoch := (v8.getD i3 default).Epoch, Frozen := (v8.getD i3 default).Frozen, Client := (v8.getD i3 default).Client, Call := (v8.getD i3 default).Call, Acks := y10 } : MapDisk)).length (gl MapDisk.c (v8.set i3 ({ Id := (v8.getD i3 default).Id, Size := (v8.getD i3 default).Size, Epoch := (v8.getD i3 default).Epoch, Frozen := (v8.getD i3 default).Frozen, Client := (v8.getD i3 default).Client, Call := (v8.getD i3 default).Call, Acks := y10 } : MapDisk))) rfl (by simp <;> omega) (EqG.set' rfl (EqG.refl _ _ _) ⟨LeU.refl _, LeU.refl _, LeU.refl _, LeU.refl _, LeU.refl _, LeU.refl _, LeU.refl _, trivial⟩) ?_
    refine Dz.reg ?_
    refine vsucc (by omega) ?_
    exact ⟨(v8.set i3 ({ Id := (v8.getD i3 default).Id, Size := (v8.getD i3 default).Size, Epoch := (v8.getD i3 default).Epoch, Frozen := (v8.getD i3 default).Frozen, Client := (v8.getD i3 default).Client, Call := (v8.getD i3 default).Call, Acks := y10 } : MapDisk)), entG [0] ⟨⟨rfl, rfl, trivial⟩, m_val rfl, m_val rfl, trivial⟩ ⟨⟨rfl, o_row⟩, trivial⟩ rfl, hF⟩
end Go.Proofs.PanH

/-! Printed by wip/tools/walk.py. -/
namespace Go.Proofs.PanH
open Go.Vs
set_option maxRecDepth 8000
def i_histCopy (a0 : HistState) : Option (HistState) :=
  (i_disksCopy a0.Disks).bind (fun y1 => (i_copied_BlkPiece a0.Pieces).bind (fun y2 => some ({ Next := a0.Next, Servers := a0.Servers, Disks := y1, Pieces := y2 } : HistState)))
theorem i_histCopy_c {t0_2 t0_3 : Bool} {a0 : HistState} {r : HistState} (hF : i_histCopy a0 = some r) : Con Try.prog 62 [.val true [.u (cI a0.Next), .u (cI a0.Servers), .u (ul MapDisk.c 7 t0_2 a0.Disks), .u (ul BlkPiece.c 4 t0_3 a0.Pieces)]] [] (.val true [.u (cI r.Next), .u (cI r.Servers), .row 0, .row 1]) [.row 145 r.Disks.length 7 (gl MapDisk.c r.Disks), .row 108 r.Pieces.length 4 (gl BlkPiece.c r.Pieces)] := by
  refine Con.of_Dz tabOk Try.func62 rfl rfl rfl ?_
  delta i_histCopy at hF
  refine Dz.seq ?_
  refine Dz.reg ?_
  refine Dz.seq ?_
  refine Dz.drw 2 [⟨[5,6,7,8,9,10,11,12], [], 2, 2⟩, ⟨[5,6,7,8,9,10,11,12], [0], 2, 2⟩, ⟨[3,4,7,8,9,10,11,12], [], 2, 2⟩, ⟨[3,4,7,8,9,10,11,12], [0], 2, 2⟩, ⟨[3,4,5,6,10,11], [], 2, 2⟩, ⟨[3,4,5,6,10,11], [0], 2, 2⟩, ⟨[3,4,5,6,10,11], [], 2, 3⟩, ⟨[3,4,5,6,7,8,9], [], 3, 3⟩, ⟨[3,4,5,6,7,8,9], [0], 3, 3⟩, ⟨[3,4,5,6], [], 3, 4⟩, ⟨[], [], 4, 4⟩, ⟨[], [1], 4, 4⟩] ⟨by kernel_rfl, by kernel_rfl, rfl⟩ ?_
  refine bdE hF (fun y1 hy1 hF => ?_)
  refine callG [] (i_disksCopy_c hy1) ⟨m_val rfl, trivial⟩ trivial rfl ?_
  refine bdE hF (fun y2 hy2 hF => ?_)
  refine callG [] (i_copied_BlkPiece_c hy2) ⟨m_val rfl, trivial⟩ trivial rfl ?_
  refine Dz.ret ?_
  cases hF
  exact finG [] [2, 3] rfl rfl (⟨rfl, LeU.refl _, LeU.refl _, rfl, rfl, trivial⟩) ⟨⟨rfl, o_row⟩, ⟨rfl, o_row⟩, trivial⟩ rfl
end Go.Proofs.PanH

/-! Printed by wip/tools/walk.py. -/
namespace Go.Proofs.PanH
open Go.Vs
set_option maxRecDepth 8000
def i_does (a0 : HistState) (a1 : PanCall) : Option (HistState × Bool) :=
  cond (decide (a1.Code = 5)) (cond (decide (a1.Op = 4)) (some (a0, decide (a1.Value = 0))) (cond (decide (a1.Op = 5)) (some (a0, decide (a1.Value = 0))) (some (a0, false)))) ((i_histCopy a0).bind (fun y1 => (i_step y1 a1).bind (fun y2 => cond (decide (a1.End = 0)) (some (y2.1, true)) (cond (decide (y2.2.1 = a1.Code)) (some (y2.1, decide (y2.2.2 = a1.Value))) (some (y2.1, false))))))
theorem i_does_c {a0 : HistState} {a1 : PanCall} {r : HistState × Bool} (hF : i_does a0 a1 = some r) : Con Try.prog 27 [.val true (HistState.L a0), .val true (PanCall.L a1)] [] (.tup [(true, (HistState.L r.1)), (false, [.u (.bool r.2)])]) [] := by
  refine Con.of_Dz tabOk Try.func27 rfl rfl rfl ?_
  delta i_does at hF
  refine Dz.seq ?_
  refine Dz.reg ?_
  refine Dz.seq ?_
  refine Dz.seq ?_
  refine Dz.reg ?_
  refine Dz.ite rfl hF (fun _ hF => ?_) (fun _ hF => ?_)
  · refine Dz.seq ?_
    refine Dz.drw 3 [⟨[13,14,15,16,17,18,19,20,21,22,23,24,25], [0], 3, 3⟩, ⟨[12], [], 3, 3⟩, ⟨[12], [1], 3, 3⟩, ⟨[12], [], 3, 3⟩, ⟨[12], [], 3, 3⟩, ⟨[12], [], 3, 3⟩, ⟨[12], [1], 3, 3⟩, ⟨[12], [], 3, 3⟩, ⟨[12], [], 3, 3⟩, ⟨[12], [], 3, 3⟩, ⟨[12], [], 3, 3⟩, ⟨[12], [1], 3, 3⟩, ⟨[12], [], 3, 3⟩, ⟨[12], [], 3, 3⟩, ⟨[22,23,24,25], [2], 3, 3⟩, ⟨[], [], 3, 3⟩] ⟨by kernel_rfl, by kernel_rfl, rfl⟩ ?_
    refine vif hF (fun _ hF => ?_) (fun _ hF => ?_)
    · refine Dz.ret ?_
      cases hF
      exact finG [] [] rfl rfl ⟨⟨rfl, mls_same rfl⟩, ⟨rfl, mls_same rfl⟩, trivial⟩ trivial rfl
    · refine vif hF (fun _ hF => ?_) (fun _ hF => ?_)
      · refine Dz.ret ?_
        cases hF
        exact finG [] [] rfl rfl ⟨⟨rfl, mls_same rfl⟩, ⟨rfl, mls_same rfl⟩, trivial⟩ trivial rfl
      · refine Dz.ret ?_
        cases hF
        exact finG [] [] rfl rfl ⟨⟨rfl, mls_same rfl⟩, ⟨rfl, mls_same rfl⟩, trivial⟩ trivial rfl
  · refine Dz.skip ?_
    refine Dz.seq ?_
    refine Dz.drw 3 [⟨[29,6], [0], 3, 3⟩, ⟨[29,6], [], 3, 5⟩, ⟨[27,28,6], [1], 5, 5⟩, ⟨[6], [3,4], 5, 5⟩, ⟨[6], [], 5, 5⟩, ⟨[32,33,6], [], 5, 5⟩, ⟨[31,33,6], [], 5, 5⟩, ⟨[31,32,6,7], [], 5, 5⟩, ⟨[27,28,29,30,26,31,32,33], [], 5, 6⟩, ⟨[32,33], [5], 6, 6⟩, ⟨[33], [], 6, 6⟩, ⟨[], [], 6, 6⟩] ⟨by kernel_rfl, by kernel_rfl, rfl⟩ ?_
    refine bdE hF (fun y1 hy1 hF => ?_)
    refine callG [] (i_histCopy_c hy1) ⟨m_val rfl, trivial⟩ trivial rfl ?_
    refine bdE hF (fun y2 hy2 hF => ?_)
    refine callF [4] [3] (i_step_c hy2) ⟨⟨rfl, LeU.refl _, LeU.refl _, rfl, LeU.refl _, trivial⟩, m_val rfl, trivial⟩ ⟨⟨rfl, o_row⟩, trivial⟩ rfl ?_
    refine Dz.seq ?_
    refine Dz.ent (x := ([(3, .ptr 0 0), (4, .ptr 1 0), (6, .ptr 2 0), (7, vint .i64 y2.2.1), (8, vint .i64 y2.2.2)], [.box 64 (PanCall.L a1), .box 57 [.u (cI 0), .u (cI 0), .nil, .nil], .box 57 (HistState.L y2.1)])) (entG [1, 2, 5] ⟨m_ptr rfl, m_ptr rfl, m_ptr rfl, m_val rfl, m_val rfl, trivial⟩ ⟨⟨rfl, o_box rfl⟩, ⟨rfl, ⟨rfl, LeU.refl _, LeU.refl _, trivial, trivial, trivial⟩⟩, ⟨rfl, o_box rfl⟩, trivial⟩ rfl) ?_
    refine Dz.drw 3 [⟨[35,36,37,38,39,40,41,42,43,44,45,46,47,48,49], [2], 3, 3⟩, ⟨[34], [], 3, 3⟩, ⟨[34], [0], 3, 3⟩, ⟨[34], [], 3, 3⟩, ⟨[34], [], 3, 3⟩, ⟨[34,40,41], [], 3, 3⟩, ⟨[34,39], [], 3, 3⟩, ⟨[34,39], [0], 3, 3⟩, ⟨[34], [], 3, 3⟩, ⟨[34], [], 3, 3⟩, ⟨[34,45,46], [], 3, 3⟩, ⟨[34,44], [], 3, 3⟩, ⟨[34,44], [0], 3, 3⟩, ⟨[34], [], 3, 3⟩, ⟨[34], [], 3, 3⟩, ⟨[34], [], 3, 3⟩, ⟨[44,45,46,47,48,49], [1], 3, 3⟩, ⟨[], [], 3, 3⟩] ⟨by kernel_rfl, by kernel_rfl, rfl⟩ ?_
    refine vif hF (fun _ hF => ?_) (fun _ hF => ?_)
    · refine Dz.ret ?_
      cases hF
      exact finG [] [] rfl rfl ⟨⟨rfl, mls_same rfl⟩, ⟨rfl, mls_same rfl⟩, trivial⟩ trivial rfl
    · refine vif hF (fun _ hF => ?_) (fun _ hF => ?_)
      · refine Dz.ret ?_
        cases hF
        exact finG [] [] rfl rfl ⟨⟨rfl, mls_same rfl⟩, ⟨rfl, mls_same rfl⟩, trivial⟩ trivial rfl
      · refine Dz.ret ?_
        cases hF
        exact finG [] [] rfl rfl ⟨⟨rfl, mls_same rfl⟩, ⟨rfl, mls_same rfl⟩, trivial⟩ trivial rfl
end Go.Proofs.PanH

/-! Printed by wip/tools/walk.py. -/
namespace Go.Proofs.PanH
open Go.Vs
set_option maxRecDepth 8000
def i_HistDo (a0 : (List PanCall)) (a1 : (List Int)) : Option (Bool) :=
  (i_callsOk a0 99999).bind (fun y1 => cond (!y1) (some false) (ck (0 ≤ ((a0.length : Nat) : Int) ∧ ((a0.length : Nat) : Int) * 1 ≤ 140737488355328) ((i_HistStart).bind (fun y3 => loopN (fun i5 (v34 : List Bool × HistState) κ35 => (i_in (a1.getD i5 default) 0 (((a0.length : Nat) : Int) - 1)).bind (fun y37 => cond (!y37) (some false) (ix v34.1 (a1.getD i5 default) (fun _ => cond (v34.1.getD (a1.getD i5 default).toNat default) (some false) (loopN (fun i39 (v42 : Unit) κ43 => lt (a0.getD i39 default) (fun x44 => cond (!decide (((i39 : Nat) : Int) = (a1.getD i5 default))) (ix v34.1 ((i39 : Nat) : Int) (fun _ => cond (!(v34.1.getD i39 default)) (cond (!decide (x44.End = 0)) (ix a0 (a1.getD i5 default) (fun x45 => cond (decide (x44.End < x45.Begin)) (some false) (κ43 ()))) (κ43 ())) (κ43 ()))) (κ43 ()))) (fun (v42 : Unit) => ix a0 (a1.getD i5 default) (fun x46 => (i_does v34.2 x46).bind (fun y47 => cond (!y47.2) (some false) (ix v34.1 (a1.getD i5 default) (fun _ => κ35 ((v34.1.set (a1.getD i5 default).toNat true), y47.1)))))) a0.length 0 ()))))) (fun (v34 : List Bool × HistState) => loopN (fun i49 (v51 : Unit) κ52 => lt (a0.getD i49 default) (fun x53 => ix v34.1 ((i49 : Nat) : Int) (fun _ => cond (!(v34.1.getD i49 default)) (cond (!decide (x53.End = 0)) (some false) (κ52 ())) (κ52 ())))) (fun (v51 : Unit) => some true) a0.length 0 ()) a1.length 0 ((List.replicate a0.length (false : Bool)), y3)))))
theorem i_HistDo_c {t0_0 t1_0 : Bool} {a0 : (List PanCall)} {a1 : (List Int)} {r : Bool} (hF : i_HistDo a0 a1 = some r) : Con Try.prog 9 [.val false [.u (ul PanCall.c 12 t0_0 a0)], .val false [.u (ul cInt 1 t1_0 a1)]] [] (vbool r) [] := by
  refine Con.of_Dz tabOk Try.func9 rfl rfl rfl ?_
  delta i_HistDo at hF
  refine Dz.seq ?_
  refine Dz.reg ?_
  refine Dz.seq ?_
  refine Dz.seq ?_
  refine Dz.reg ?_
  refine bdE hF (fun y1 hy1 hF => ?_)
  refine callG [] (i_callsOk_c hy1) ⟨m_val rfl, m_val rfl, trivial⟩ trivial rfl ?_
  refine Dz.ite rfl hF (fun _ hF => ?_) (fun _ hF => ?_)
  · refine Dz.seq ?_
    refine Dz.reg ?_
    refine Dz.ret ?_
    cases hF
    exact finG [] [] rfl rfl (m_val rfl) trivial rfl
  · refine Dz.skip ?_
    refine Dz.seq ?_
    refine Dz.reg ?_
    refine Dz.seq ?_
    refine Dz.reg ?_
    intro hb2; replace hb2 : a0.length ≤ 140737488355328 := hb2
    refine vck hF (fun h => ⟨rfl, h⟩) (fun hk hF => ?_)
    refine Dz.row 1 (List.replicate a0.length (false : Bool)).length (gl cBool (List.replicate a0.length (false : Bool))) rfl (by simp <;> omega) (EqG.rep' (c := cBool) (sz := 1) _ ⟨LeU.refl _, trivial⟩) ?_
    refine Dz.seq ?_
    refine Dz.reg ?_
    refine bdE hF (fun y3 hy3 hF => ?_)
    refine callG [] (i_HistStart_c hy3) trivial trivial rfl ?_
    refine Dz.seq ?_
    refine Dz.seq ?_
    refine Dz.reg ?_
    intro hb4; replace hb4 : a1.length ≤ 140737488355328 := hb4
    refine Dz.blk ?_
    refine Dz.cnt hF (fun i5 v34 => ([(0, .val false [.u (ul PanCall.c 12 t0_0 a0)]), (5, .ptr 0 0), (6, .val false [.row 1]), (7, .ptr 2 0), (26, .val false [.u (ul cInt 1 t1_0 a1)]), (27, vint .i64 ((a1.length : Nat) : Int)), (28, vint .i64 ((i5 : Nat) : Int))], [.box 70 [.u (ul PanCall.c 12 t0_0 a0), .dead], .row 4 v34.1.length 1 (gl cBool v34.1), .box 57 (HistState.L v34.2)])) (entG [0, 1, 2] ⟨m_val rfl, m_ptr rfl, ⟨rfl, rfl, trivial⟩, m_ptr rfl, m_val rfl, m_val rfl, m_val rfl, trivial⟩ ⟨⟨rfl, ⟨rfl, LeU.refl _, trivial, trivial⟩⟩, ⟨rfl, o_row⟩, ⟨rfl, o_box rfl⟩, trivial⟩ rfl) (fun v34 hF => ?_) (fun i5 v34 κ35 hi0i5 hi1i5 hF => ?_)
    · refine Dz.seq ?_
      refine Dz.reg ?_
      refine Dz.seq ?_
      refine Dz.ff (b := decide (((0 + a1.length : Nat) : Int) < ((a1.length : Nat) : Int))) rfl (decide_eq_false (by omega)) ?_
      refine Dz.exit ?_
      refine Dz.seq ?_
      refine Dz.seq ?_
      refine Dz.reg ?_
      intro hb48; replace hb48 : a0.length ≤ 140737488355328 := hb48
      refine Dz.blk ?_
      refine Dz.cnt hF (fun i49 v51 => ([(6, .val false [.row 0]), (96, .val false [.u (ul PanCall.c 12 t0_0 a0)]), (97, vint .i64 ((a0.length : Nat) : Int)), (98, vint .i64 ((i49 : Nat) : Int))], [.row 4 v34.1.length 1 (gl cBool v34.1)])) (entG [1] ⟨⟨rfl, rfl, trivial⟩, m_val rfl, m_val rfl, m_val rfl, trivial⟩ ⟨⟨rfl, o_row⟩, trivial⟩ rfl) (fun v51 hF => ?_) (fun i49 v51 κ52 hi0i49 hi1i49 hF => ?_)
      · refine Dz.seq ?_
        refine Dz.reg ?_
        refine Dz.seq ?_
        refine Dz.ff (b := decide (((0 + a0.length : Nat) : Int) < ((a0.length : Nat) : Int))) rfl (decide_eq_false (by omega)) ?_
        refine Dz.exit ?_
        refine Dz.seq ?_
        refine Dz.reg ?_
        refine Dz.ret ?_
        cases hF
        exact finG [] [] rfl rfl (m_val rfl) trivial rfl
      · refine Dz.seq ?_
        refine Dz.reg ?_
        refine Dz.seq ?_
        refine Dz.tt (b := decide (((i49 : Nat) : Int) < ((a0.length : Nat) : Int))) rfl (decide_eq_true (by omega)) ?_
        refine Dz.skip ?_
        refine Dz.seq ?_
        refine Dz.blk ?_
        refine Dz.seq ?_
        refine Dz.reg ?_
        refine vge (n := ((i49 : Nat) : Int)) (hi := (a0.length : Int)) (by omega) (by omega) ?_
        have hF := ltE hF
        refine Dz.seq ?_
        refine Dz.reg ?_
        refine vix hF (fun _ _ hF => ?_)
        refine vif hF (fun _ hF => ?_) (fun _ hF => ?_)
        · refine Dz.ite rfl hF (fun _ hF => ?_) (fun _ hF => ?_)
          · refine Dz.seq ?_
            refine Dz.reg ?_
            refine Dz.ret ?_
            cases hF
            exact finG [] [] rfl rfl (m_val rfl) trivial rfl
          · refine Dz.skip ?_
            refine Dz.reg ?_
            refine vsucc (by omega) ?_
            exact ⟨(), entG [0] ⟨⟨rfl, rfl, trivial⟩, m_val rfl, m_val rfl, m_val rfl, trivial⟩ ⟨⟨rfl, o_row⟩, trivial⟩ rfl, hF⟩
        · refine Dz.ff (b := false) rfl rfl ?_
          refine Dz.skip ?_
          refine Dz.reg ?_
          refine vsucc (by omega) ?_
          exact ⟨(), entG [0] ⟨⟨rfl, rfl, trivial⟩, m_val rfl, m_val rfl, m_val rfl, trivial⟩ ⟨⟨rfl, o_row⟩, trivial⟩ rfl, hF⟩
    · refine Dz.seq ?_
      refine Dz.reg ?_
      refine Dz.seq ?_
      refine Dz.tt (b := decide (((i5 : Nat) : Int) < ((a1.length : Nat) : Int))) rfl (decide_eq_true (by omega)) ?_
      refine Dz.skip ?_
      refine Dz.seq ?_
      refine Dz.blk ?_
      refine Dz.seq ?_
      refine Dz.reg ?_
      refine vge (n := ((i5 : Nat) : Int)) (hi := (a1.length : Int)) (by omega) (by omega) ?_
      refine Dz.seq ?_
      refine Dz.seq ?_
      refine Dz.reg ?_
      intro hb36; replace hb36 : a0.length ≤ 140737488355328 := hb36
      refine ⟨(((a0.length : Nat) : Int) - 1), wrap64 (by omega) (by omega), ?_⟩
      refine bdE hF (fun y37 hy37 hF => ?_)
      refine callG [] (i_in_c hy37) ⟨m_val rfl, m_val rfl, m_val rfl, trivial⟩ trivial rfl ?_
      refine vif hF (fun _ hF => ?_) (fun _ hF => ?_)
      · refine Dz.tt (b := true) rfl rfl ?_
        refine Dz.seq ?_
        refine Dz.reg ?_
        refine Dz.ret ?_
        cases hF
        exact finG [] [] rfl rfl (m_val rfl) trivial rfl
      · refine vix hF (fun _ _ hF => ?_)
        refine Dz.ite rfl hF (fun _ hF => ?_) (fun _ hF => ?_)
        · refine Dz.seq ?_
          refine Dz.reg ?_
          refine Dz.ret ?_
          cases hF
          exact finG [] [] rfl rfl (m_val rfl) trivial rfl
        · refine Dz.skip ?_
          refine Dz.seq ?_
          refine Dz.seq ?_
          refine Dz.reg ?_
          intro hb38; replace hb38 : a0.length ≤ 140737488355328 := hb38
          refine Dz.blk ?_
          refine Dz.cnt hF (fun i39 v42 => ([(0, .val false [.u (ul PanCall.c 12 t0_0 a0)]), (5, .ptr 0 0), (6, .val false [.row 1]), (7, .ptr 2 0), (9, vint .i64 (a1.getD i5 default)), (26, .val false [.u (ul cInt 1 t1_0 a1)]), (27, vint .i64 ((a1.length : Nat) : Int)), (28, vint .i64 ((i5 : Nat) : Int)), (39, .val false [.row 1]), (40, vint .i64 (a1.getD i5 default)), (42, vbool (v34.1.getD (a1.getD i5 default).toNat default)), (44, .val false [.u (ul PanCall.c 12 t0_0 a0)]), (45, vint .i64 ((a0.length : Nat) : Int)), (46, vint .i64 ((i39 : Nat) : Int))], [.box 70 [.u (ul PanCall.c 12 t0_0 a0), .dead], .row 4 v34.1.length 1 (gl cBool v34.1), .box 57 (HistState.L v34.2)])) (entG [0, 1, 2] ⟨m_val rfl, m_ptr rfl, ⟨rfl, rfl, trivial⟩, m_ptr rfl, m_val rfl, m_val rfl, m_val rfl, m_val rfl, ⟨rfl, rfl, trivial⟩, m_val rfl, m_val rfl, m_val rfl, m_val rfl, m_val rfl, trivial⟩ ⟨⟨rfl, ⟨rfl, LeU.refl _, trivial, trivial⟩⟩, ⟨rfl, o_row⟩, ⟨rfl, o_box rfl⟩, trivial⟩ rfl) (fun v42 hF => ?_) (fun i39 v42 κ43 hi0i39 hi1i39 hF => ?_)
          · refine Dz.seq ?_
            refine Dz.reg ?_
            refine Dz.seq ?_
            refine Dz.ff (b := decide (((0 + a0.length : Nat) : Int) < ((a0.length : Nat) : Int))) rfl (decide_eq_false (by omega)) ?_
            refine Dz.exit ?_
            refine Dz.seq ?_
            refine Dz.drw 3 [⟨[82,83,84,85,12], [2], 3, 3⟩, ⟨[81,83,12], [], 3, 3⟩, ⟨[81,82,12], [], 3, 3⟩, ⟨[81,12], [], 3, 3⟩, ⟨[81,12], [], 3, 3⟩, ⟨[12], [], 3, 3⟩, ⟨[12], [], 3, 3⟩, ⟨[88,12], [], 3, 3⟩, ⟨[87,12], [], 3, 3⟩, ⟨[81,82,83,84,85,86,80,87,88], [], 3, 4⟩, ⟨[88], [3], 4, 4⟩, ⟨[], [], 4, 4⟩] ⟨by kernel_rfl, by kernel_rfl, rfl⟩ ?_
            refine vix hF (fun _ _ hF => ?_)
            refine bdE hF (fun y47 hy47 hF => ?_)
            refine callG [] (i_does_c hy47) ⟨m_val rfl, m_val rfl, trivial⟩ trivial rfl ?_
            refine Dz.seq ?_
            refine Dz.seq ?_
            refine Dz.reg ?_
            refine Dz.ite rfl hF (fun _ hF => ?_) (fun _ hF => ?_)
            · refine Dz.seq ?_
              refine Dz.reg ?_
              refine Dz.ret ?_
              cases hF
              exact finG [] [] rfl rfl (m_val rfl) trivial rfl
            · refine Dz.skip ?_
              refine Dz.seq ?_
              refine Dz.reg ?_
              refine vix hF (fun _ _ hF => ?_)
              refine Dz.row 1 (v34.1.set (a1.getD i5 default).toNat true).length (gl cBool (v34.1.set (a1.getD i5 default).toNat true)) rfl (by simp <;> omega) (EqG.set' rfl (EqG.refl _ _ _) ⟨LeU.refl _, trivial⟩) ?_
              refine Dz.reg ?_
              refine Dz.reg ?_
              refine vsucc (by omega) ?_
              exact ⟨((v34.1.set (a1.getD i5 default).toNat true), y47.1), entG [0, 1, 2] ⟨m_val rfl, m_ptr rfl, ⟨rfl, rfl, trivial⟩, m_ptr rfl, m_val rfl, m_val rfl, m_val rfl, trivial⟩ ⟨⟨rfl, ⟨rfl, LeU.refl _, trivial, trivial⟩⟩, ⟨rfl, o_row⟩, ⟨rfl, o_box rfl⟩, trivial⟩ rfl, hF⟩
          · refine Dz.seq ?_
            refine Dz.reg ?_
            refine Dz.seq ?_
            refine Dz.tt (b := decide (((i39 : Nat) : Int) < ((a0.length : Nat) : Int))) rfl (decide_eq_true (by omega)) ?_
            refine Dz.skip ?_
            refine Dz.seq ?_
            refine Dz.blk ?_
            refine Dz.seq ?_
            refine Dz.reg ?_
            refine vge (n := ((i39 : Nat) : Int)) (hi := (a0.length : Int)) (by omega) (by omega) ?_
            have hF := ltE hF
            refine Dz.seq ?_
            refine Dz.drw 4 [⟨[52], [], 4, 4⟩, ⟨[51], [], 4, 4⟩, ⟨[], [], 4, 4⟩, ⟨[], [], 4, 4⟩, ⟨[56], [], 4, 4⟩, ⟨[55], [], 4, 4⟩, ⟨[], [1], 4, 4⟩, ⟨[], [1], 4, 4⟩, ⟨[], [], 4, 4⟩, ⟨[], [], 4, 4⟩, ⟨[], [], 4, 4⟩, ⟨[], [], 4, 4⟩, ⟨[], [3], 4, 4⟩, ⟨[], [], 4, 4⟩, ⟨[], [], 4, 4⟩, ⟨[], [], 4, 4⟩, ⟨[69,70,71,72,73,74,75,76], [], 4, 4⟩, ⟨[69,70,71,72,73,74,75,76], [3], 4, 4⟩, ⟨[67,68,73], [], 4, 4⟩, ⟨[67,68,73], [], 4, 4⟩, ⟨[67,68,73], [], 4, 4⟩, ⟨[67,68,73], [0], 4, 4⟩, ⟨[67,68,69,70,71,72], [], 4, 4⟩, ⟨[67,68], [], 4, 4⟩, ⟨[67,68], [], 4, 4⟩, ⟨[67,68], [], 4, 4⟩, ⟨[], [], 4, 4⟩, ⟨[], [], 4, 4⟩] ⟨by kernel_rfl, by kernel_rfl, rfl⟩ ?_
            refine vif hF (fun _ hF => ?_) (fun _ hF => ?_)
            · refine vix hF (fun _ _ hF => ?_)
              refine vif hF (fun _ hF => ?_) (fun _ hF => ?_)
              · refine vif hF (fun _ hF => ?_) (fun _ hF => ?_)
                · refine vix hF (fun _ _ hF => ?_)
                  refine Dz.ite rfl hF (fun _ hF => ?_) (fun _ hF => ?_)
                  · refine Dz.seq ?_
                    refine Dz.reg ?_
                    refine Dz.ret ?_
                    cases hF
                    exact finG [] [] rfl rfl (m_val rfl) trivial rfl
                  · refine Dz.skip ?_
                    refine Dz.reg ?_
                    refine vsucc (by omega) ?_
                    exact ⟨(), entG [0, 1, 2] ⟨m_val rfl, m_ptr rfl, ⟨rfl, rfl, trivial⟩, m_ptr rfl, m_val rfl, m_val rfl, m_val rfl, m_val rfl, ⟨rfl, rfl, trivial⟩, m_val rfl, m_val rfl, m_val rfl, m_val rfl, m_val rfl, trivial⟩ ⟨⟨rfl, ⟨rfl, LeU.refl _, trivial, trivial⟩⟩, ⟨rfl, o_row⟩, ⟨rfl, o_box rfl⟩, trivial⟩ rfl, hF⟩
                · refine Dz.ff (b := false) rfl rfl ?_
                  refine Dz.skip ?_
                  refine Dz.reg ?_
                  refine vsucc (by omega) ?_
                  exact ⟨(), entG [0, 1, 2] ⟨m_val rfl, m_ptr rfl, ⟨rfl, rfl, trivial⟩, m_ptr rfl, m_val rfl, m_val rfl, m_val rfl, m_val rfl, ⟨rfl, rfl, trivial⟩, m_val rfl, m_val rfl, m_val rfl, m_val rfl, m_val rfl, trivial⟩ ⟨⟨rfl, ⟨rfl, LeU.refl _, trivial, trivial⟩⟩, ⟨rfl, o_row⟩, ⟨rfl, o_box rfl⟩, trivial⟩ rfl, hF⟩
              · refine Dz.ff (b := false) rfl rfl ?_
                refine Dz.skip ?_
                refine Dz.reg ?_
                refine vsucc (by omega) ?_
                exact ⟨(), entG [0, 1, 2] ⟨m_val rfl, m_ptr rfl, ⟨rfl, rfl, trivial⟩, m_ptr rfl, m_val rfl, m_val rfl, m_val rfl, m_val rfl, ⟨rfl, rfl, trivial⟩, m_val rfl, m_val rfl, m_val rfl, m_val rfl, m_val rfl, trivial⟩ ⟨⟨rfl, ⟨rfl, LeU.refl _, trivial, trivial⟩⟩, ⟨rfl, o_row⟩, ⟨rfl, o_box rfl⟩, trivial⟩ rfl, hF⟩
            · refine Dz.ff (b := false) rfl rfl ?_
              refine Dz.skip ?_
              refine Dz.reg ?_
              refine vsucc (by omega) ?_
              exact ⟨(), entG [0, 1, 2] ⟨m_val rfl, m_ptr rfl, ⟨rfl, rfl, trivial⟩, m_ptr rfl, m_val rfl, m_val rfl, m_val rfl, m_val rfl, ⟨rfl, rfl, trivial⟩, m_val rfl, m_val rfl, m_val rfl, m_val rfl, m_val rfl, trivial⟩ ⟨⟨rfl, ⟨rfl, LeU.refl _, trivial, trivial⟩⟩, ⟨rfl, o_row⟩, ⟨rfl, o_box rfl⟩, trivial⟩ rfl, hF⟩
end Go.Proofs.PanH

/-! Printed by wip/tools/walk.py. -/
namespace Go.Proofs.PanH
open Go.Vs
set_option maxRecDepth 8000
def l_eqPanCall (a0 : PanCall) (a1 : PanCall) : Option (Bool) :=
  cond (!decide (a0.Client = a1.Client)) (some false) (cond (!decide (a0.Call = a1.Call)) (some false) (cond (!decide (a0.Op = a1.Op)) (some false) (cond (!decide (a0.Disk = a1.Disk)) (some false) (cond (!decide (a0.Block = a1.Block)) (some false) (cond (!decide (a0.Epoch = a1.Epoch)) (some false) (cond (!decide (a0.Data = a1.Data)) (some false) (cond (!decide (a0.Begin = a1.Begin)) (some false) (cond (!decide (a0.End = a1.End)) (some false) (cond (!(a0.Over == a1.Over)) (some false) (cond (!decide (a0.Code = a1.Code)) (some false) (cond (!decide (a0.Value = a1.Value)) (some false) (some true))))))))))))
theorem l_eqPanCall_c {a0 : PanCall} {a1 : PanCall} {r : Bool} (hF : l_eqPanCall a0 a1 = some r) : Con Try.prog 28 [.val true (PanCall.L a0), .val true (PanCall.L a1)] [] (vbool r) [] := by
  refine Con.of_Dz tabOk Try.func28 rfl rfl rfl ?_
  delta l_eqPanCall at hF
  refine Dz.seq ?_
  refine Dz.reg ?_
  refine Dz.seq ?_
  refine Dz.seq ?_
  refine Dz.reg ?_
  refine Dz.ite rfl hF (fun _ hF => ?_) (fun _ hF => ?_)
  · refine Dz.seq ?_
    refine Dz.reg ?_
    refine Dz.ret ?_
    cases hF
    exact finG [] [] rfl rfl (m_val rfl) trivial rfl
  · refine Dz.skip ?_
    refine Dz.seq ?_
    refine Dz.seq ?_
    refine Dz.reg ?_
    refine Dz.ite rfl hF (fun _ hF => ?_) (fun _ hF => ?_)
    · refine Dz.seq ?_
      refine Dz.reg ?_
      refine Dz.ret ?_
      cases hF
      exact finG [] [] rfl rfl (m_val rfl) trivial rfl
    · refine Dz.skip ?_
      refine Dz.seq ?_
      refine Dz.seq ?_
      refine Dz.reg ?_
      refine Dz.ite rfl hF (fun _ hF => ?_) (fun _ hF => ?_)
      · refine Dz.seq ?_
        refine Dz.reg ?_
        refine Dz.ret ?_
        cases hF
        exact finG [] [] rfl rfl (m_val rfl) trivial rfl
      · refine Dz.skip ?_
        refine Dz.seq ?_
        refine Dz.seq ?_
        refine Dz.reg ?_
        refine Dz.ite rfl hF (fun _ hF => ?_) (fun _ hF => ?_)
        · refine Dz.seq ?_
          refine Dz.reg ?_
          refine Dz.ret ?_
          cases hF
          exact finG [] [] rfl rfl (m_val rfl) trivial rfl
        · refine Dz.skip ?_
          refine Dz.seq ?_
          refine Dz.seq ?_
          refine Dz.reg ?_
          refine Dz.ite rfl hF (fun _ hF => ?_) (fun _ hF => ?_)
          · refine Dz.seq ?_
            refine Dz.reg ?_
            refine Dz.ret ?_
            cases hF
            exact finG [] [] rfl rfl (m_val rfl) trivial rfl
          · refine Dz.skip ?_
            refine Dz.seq ?_
            refine Dz.seq ?_
            refine Dz.reg ?_
            refine Dz.ite rfl hF (fun _ hF => ?_) (fun _ hF => ?_)
            · refine Dz.seq ?_
              refine Dz.reg ?_
              refine Dz.ret ?_
              cases hF
              exact finG [] [] rfl rfl (m_val rfl) trivial rfl
            · refine Dz.skip ?_
              refine Dz.seq ?_
              refine Dz.seq ?_
              refine Dz.reg ?_
              refine Dz.ite rfl hF (fun _ hF => ?_) (fun _ hF => ?_)
              · refine Dz.seq ?_
                refine Dz.reg ?_
                refine Dz.ret ?_
                cases hF
                exact finG [] [] rfl rfl (m_val rfl) trivial rfl
              · refine Dz.skip ?_
                refine Dz.seq ?_
                refine Dz.seq ?_
                refine Dz.ent (x := ([(2, .ptr 0 0), (3, .ptr 1 0)], [.box 64 (PanCall.L a0), .box 64 (PanCall.L a1)])) (entG [0, 1] ⟨m_ptr rfl, m_ptr rfl, trivial⟩ ⟨⟨rfl, o_box rfl⟩, ⟨rfl, o_box rfl⟩, trivial⟩ rfl) ?_
                refine Dz.reg ?_
                refine Dz.ite rfl hF (fun _ hF => ?_) (fun _ hF => ?_)
                · refine Dz.seq ?_
                  refine Dz.reg ?_
                  refine Dz.ret ?_
                  cases hF
                  exact finG [] [] rfl rfl (m_val rfl) trivial rfl
                · refine Dz.skip ?_
                  refine Dz.seq ?_
                  refine Dz.seq ?_
                  refine Dz.reg ?_
                  refine Dz.ite rfl hF (fun _ hF => ?_) (fun _ hF => ?_)
                  · refine Dz.seq ?_
                    refine Dz.reg ?_
                    refine Dz.ret ?_
                    cases hF
                    exact finG [] [] rfl rfl (m_val rfl) trivial rfl
                  · refine Dz.skip ?_
                    refine Dz.seq ?_
                    refine Dz.seq ?_
                    refine Dz.reg ?_
                    refine Dz.ite rfl hF (fun _ hF => ?_) (fun _ hF => ?_)
                    · refine Dz.seq ?_
                      refine Dz.reg ?_
                      refine Dz.ret ?_
                      cases hF
                      exact finG [] [] rfl rfl (m_val rfl) trivial rfl
                    · refine Dz.skip ?_
                      refine Dz.seq ?_
                      refine Dz.seq ?_
                      refine Dz.reg ?_
                      refine Dz.ite rfl hF (fun _ hF => ?_) (fun _ hF => ?_)
                      · refine Dz.seq ?_
                        refine Dz.reg ?_
                        refine Dz.ret ?_
                        cases hF
                        exact finG [] [] rfl rfl (m_val rfl) trivial rfl
                      · refine Dz.skip ?_
                        refine Dz.seq ?_
                        refine Dz.seq ?_
                        refine Dz.reg ?_
                        refine Dz.ite rfl hF (fun _ hF => ?_) (fun _ hF => ?_)
                        · refine Dz.seq ?_
                          refine Dz.reg ?_
                          refine Dz.ret ?_
                          cases hF
                          exact finG [] [] rfl rfl (m_val rfl) trivial rfl
                        · refine Dz.skip ?_
                          refine Dz.seq ?_
                          refine Dz.reg ?_
                          refine Dz.ret ?_
                          cases hF
                          exact finG [] [] rfl rfl (m_val rfl) trivial rfl
end Go.Proofs.PanH

/-! Printed by wip/tools/walk.py. -/
namespace Go.Proofs.PanH
open Go.Vs
set_option maxRecDepth 8000
def l_eqPanCallS (a0 : (List PanCall)) (a1 : (List PanCall)) : Option (Bool) :=
  cond (!decide (((a0.length : Nat) : Int) = ((a1.length : Nat) : Int))) (some false) (loopN (fun i3 (v8 : Unit) κ9 => lt (a0.getD i3 default) (fun x11 => ix a1 ((i3 : Nat) : Int) (fun x12 => (l_eqPanCall x11 x12).bind (fun y13 => cond (!y13) (some false) (κ9 ()))))) (fun (v8 : Unit) => some true) a0.length 0 ())
theorem l_eqPanCallS_c {t0_0 t1_0 : Bool} {a0 : (List PanCall)} {a1 : (List PanCall)} {r : Bool} (hF : l_eqPanCallS a0 a1 = some r) : Con Try.prog 10 [.val false [.u (ul PanCall.c 12 t0_0 a0)], .val false [.u (ul PanCall.c 12 t1_0 a1)]] [] (vbool r) [] := by
  refine Con.of_Dz tabOk Try.func10 rfl rfl rfl ?_
  delta l_eqPanCallS at hF
  refine Dz.seq ?_
  refine Dz.reg ?_
  refine Dz.seq ?_
  refine Dz.seq ?_
  refine Dz.reg ?_
  intro hb1; replace hb1 : a0.length ≤ 140737488355328 := hb1
  intro hb2; replace hb2 : a1.length ≤ 140737488355328 := hb2
  refine Dz.ite rfl hF (fun _ hF => ?_) (fun _ hF => ?_)
  · refine Dz.seq ?_
    refine Dz.reg ?_
    refine Dz.ret ?_
    cases hF
    exact finG [] [] rfl rfl (m_val rfl) trivial rfl
  · refine Dz.skip ?_
    refine Dz.seq ?_
    refine Dz.seq ?_
    refine Dz.reg ?_
    refine Dz.blk ?_
    refine Dz.cnt hF (fun i3 v8 => ([(0, .val false [.u (ul PanCall.c 12 t0_0 a0)]), (1, .val false [.u (ul PanCall.c 12 t1_0 a1)]), (5, vint .i64 ((i3 : Nat) : Int))], [])) (entG [] ⟨m_val rfl, m_val rfl, m_val rfl, trivial⟩ trivial rfl) (fun v8 hF => ?_) (fun i3 v8 κ9 hi0i3 hi1i3 hF => ?_)
    · refine Dz.seq ?_
      refine Dz.seq ?_
      refine Dz.reg ?_
      intro hb14; replace hb14 : a0.length ≤ 140737488355328 := hb14
      refine Dz.ff (b := decide (((0 + a0.length : Nat) : Int) < ((a0.length : Nat) : Int))) rfl (decide_eq_false (by omega)) ?_
      refine Dz.exit ?_
      refine Dz.seq ?_
      refine Dz.reg ?_
      refine Dz.ret ?_
      cases hF
      exact finG [] [] rfl rfl (m_val rfl) trivial rfl
    · refine Dz.seq ?_
      refine Dz.seq ?_
      refine Dz.reg ?_
      intro hb10; replace hb10 : a0.length ≤ 140737488355328 := hb10
      refine Dz.tt (b := decide (((i3 : Nat) : Int) < ((a0.length : Nat) : Int))) rfl (decide_eq_true (by omega)) ?_
      refine Dz.skip ?_
      refine Dz.seq ?_
      refine Dz.blk ?_
      refine Dz.seq ?_
      refine Dz.drw 0 [⟨[18,21,22,23,24], [], 0, 0⟩, ⟨[17,21,22,23,24], [], 0, 0⟩, ⟨[21,22,23,24], [], 0, 0⟩, ⟨[21,22,23,24], [], 0, 0⟩, ⟨[17,18,19,20,22], [], 0, 0⟩, ⟨[17,18,19,20,21], [], 0, 0⟩, ⟨[17,18,19,20], [], 0, 0⟩, ⟨[17,18,19,20], [], 0, 0⟩, ⟨[], [], 0, 0⟩, ⟨[], [], 0, 0⟩] ⟨by kernel_rfl, by kernel_rfl, rfl⟩ ?_
      refine vge (n := ((i3 : Nat) : Int)) (hi := (a0.length : Int)) (by omega) (by omega) ?_
      have hF := ltE hF
      refine vix hF (fun _ _ hF => ?_)
      refine bdE hF (fun y13 hy13 hF => ?_)
      refine callG [] (l_eqPanCall_c hy13) ⟨m_val rfl, m_val rfl, trivial⟩ trivial rfl ?_
      refine Dz.ite rfl hF (fun _ hF => ?_) (fun _ hF => ?_)
      · refine Dz.seq ?_
        refine Dz.reg ?_
        refine Dz.ret ?_
        cases hF
        exact finG [] [] rfl rfl (m_val rfl) trivial rfl
      · refine Dz.skip ?_
        refine Dz.reg ?_
        refine vsucc (by omega) ?_
        exact ⟨(), entG [] ⟨m_val rfl, m_val rfl, m_val rfl, trivial⟩ trivial rfl, hF⟩
end Go.Proofs.PanH

/-! Printed by wip/tools/walk.py. -/
namespace Go.Proofs.PanH
open Go.Vs
set_option maxRecDepth 8000
def l_eqIntS (a0 : (List Int)) (a1 : (List Int)) : Option (Bool) :=
  cond (!decide (((a0.length : Nat) : Int) = ((a1.length : Nat) : Int))) (some false) (loopN (fun i3 (v6 : Unit) κ7 => ix a1 ((i3 : Nat) : Int) (fun x9 => cond (!decide ((a0.getD i3 default) = x9)) (some false) (κ7 ()))) (fun (v6 : Unit) => some true) a0.length 0 ())
theorem l_eqIntS_c {t0_0 t1_0 : Bool} {a0 : (List Int)} {a1 : (List Int)} {r : Bool} (hF : l_eqIntS a0 a1 = some r) : Con Try.prog 11 [.val false [.u (ul cInt 1 t0_0 a0)], .val false [.u (ul cInt 1 t1_0 a1)]] [] (vbool r) [] := by
  refine Con.of_Dz tabOk Try.func11 rfl rfl rfl ?_
  delta l_eqIntS at hF
  refine Dz.seq ?_
  refine Dz.reg ?_
  refine Dz.seq ?_
  refine Dz.seq ?_
  refine Dz.reg ?_
  intro hb1; replace hb1 : a0.length ≤ 140737488355328 := hb1
  intro hb2; replace hb2 : a1.length ≤ 140737488355328 := hb2
  refine Dz.ite rfl hF (fun _ hF => ?_) (fun _ hF => ?_)
  · refine Dz.seq ?_
    refine Dz.reg ?_
    refine Dz.ret ?_
    cases hF
    exact finG [] [] rfl rfl (m_val rfl) trivial rfl
  · refine Dz.skip ?_
    refine Dz.seq ?_
    refine Dz.seq ?_
    refine Dz.reg ?_
    refine Dz.blk ?_
    refine Dz.cnt hF (fun i3 v6 => ([(0, .val false [.u (ul cInt 1 t0_0 a0)]), (1, .val false [.u (ul cInt 1 t1_0 a1)]), (5, vint .i64 ((i3 : Nat) : Int))], [])) (entG [] ⟨m_val rfl, m_val rfl, m_val rfl, trivial⟩ trivial rfl) (fun v6 hF => ?_) (fun i3 v6 κ7 hi0i3 hi1i3 hF => ?_)
    · refine Dz.seq ?_
      refine Dz.seq ?_
      refine Dz.reg ?_
      intro hb10; replace hb10 : a0.length ≤ 140737488355328 := hb10
      refine Dz.ff (b := decide (((0 + a0.length : Nat) : Int) < ((a0.length : Nat) : Int))) rfl (decide_eq_false (by omega)) ?_
      refine Dz.exit ?_
      refine Dz.seq ?_
      refine Dz.reg ?_
      refine Dz.ret ?_
      cases hF
      exact finG [] [] rfl rfl (m_val rfl) trivial rfl
    · refine Dz.seq ?_
      refine Dz.seq ?_
      refine Dz.reg ?_
      intro hb8; replace hb8 : a0.length ≤ 140737488355328 := hb8
      refine Dz.tt (b := decide (((i3 : Nat) : Int) < ((a0.length : Nat) : Int))) rfl (decide_eq_true (by omega)) ?_
      refine Dz.skip ?_
      refine Dz.seq ?_
      refine Dz.blk ?_
      refine Dz.seq ?_
      refine Dz.drw 0 [⟨[18,21,22,23,24], [], 0, 0⟩, ⟨[17,21,22,23,24], [], 0, 0⟩, ⟨[21,22,23,24], [], 0, 0⟩, ⟨[21,22,23,24], [], 0, 0⟩, ⟨[17,18,19,20,22], [], 0, 0⟩, ⟨[17,18,19,20,21], [], 0, 0⟩, ⟨[17,18,19,20], [], 0, 0⟩, ⟨[17,18,19,20], [], 0, 0⟩, ⟨[], [], 0, 0⟩] ⟨by kernel_rfl, by kernel_rfl, rfl⟩ ?_
      refine vge (n := ((i3 : Nat) : Int)) (hi := (a0.length : Int)) (by omega) (by omega) ?_
      refine vix hF (fun _ _ hF => ?_)
      refine Dz.ite rfl hF (fun _ hF => ?_) (fun _ hF => ?_)
      · refine Dz.seq ?_
        refine Dz.reg ?_
        refine Dz.ret ?_
        cases hF
        exact finG [] [] rfl rfl (m_val rfl) trivial rfl
      · refine Dz.skip ?_
        refine Dz.reg ?_
        refine vsucc (by omega) ?_
        exact ⟨(), entG [] ⟨m_val rfl, m_val rfl, m_val rfl, trivial⟩ trivial rfl, hF⟩
end Go.Proofs.PanH

/-! Printed by wip/tools/walk.py. -/
namespace Go.Proofs.PanH
open Go.Vs
set_option maxRecDepth 8000
def l_FnExactHistDo (a0 : (List PanCall)) (a1 : (List Int)) : Option (Bool) :=
  cond (decide ((1048576 : Int) < ((a1.length : Nat) : Int))) (some true) ((l_szPanCallS a0 1048576).bind (fun y2 => cond (decide (y2 < 0)) (some true) ((l_toPanCallS a0).bind (fun y3 => (l_toIntS a1).bind (fun y4 => (s_HistDo y3 y4).bind (fun y5 => (l_toPanCallS a0).bind (fun y6 => (l_toIntS a1).bind (fun y7 => (i_HistDo y6 y7).bind (fun y8 => cond (!(y8 == y5)) (some false) ((l_toPanCallS a0).bind (fun y9 => (l_eqPanCallS y6 y9).bind (fun y10 => cond (!y10) (some false) ((l_toIntS a1).bind (fun y11 => (l_eqIntS y7 y11).bind (fun y12 => cond (!y12) (some false) (some true))))))))))))))))
theorem l_FnExactHistDo_c {t0_0 t1_0 : Bool} {a0 : (List PanCall)} {a1 : (List Int)} {r : Bool} (hF : l_FnExactHistDo a0 a1 = some r) : Con Try.prog 3 [.val false [.u (ul PanCall.c 12 t0_0 a0)], .val false [.u (ul cInt 1 t1_0 a1)]] [] (vbool r) [] := by
  refine Con.of_Dz tabOk Try.func3 rfl rfl rfl ?_
  delta l_FnExactHistDo at hF
  refine Dz.seq ?_
  refine Dz.reg ?_
  refine Dz.seq ?_
  refine Dz.seq ?_
  refine Dz.reg ?_
  intro hb1; replace hb1 : a1.length ≤ 140737488355328 := hb1
  refine Dz.ite rfl hF (fun _ hF => ?_) (fun _ hF => ?_)
  · refine Dz.seq ?_
    refine Dz.reg ?_
    refine Dz.ret ?_
    cases hF
    exact finG [] [] rfl rfl (m_val rfl) trivial rfl
  · refine Dz.skip ?_
    refine Dz.seq ?_
    refine Dz.reg ?_
    refine Dz.seq ?_
    refine Dz.reg ?_
    refine bdE hF (fun y2 hy2 hF => ?_)
    refine callG [] (l_szPanCallS_c hy2) ⟨m_val rfl, m_val rfl, trivial⟩ trivial rfl ?_
    refine Dz.seq ?_
    refine Dz.seq ?_
    refine Dz.reg ?_
    refine Dz.ite rfl hF (fun _ hF => ?_) (fun _ hF => ?_)
    · refine Dz.seq ?_
      refine Dz.reg ?_
      refine Dz.ret ?_
      cases hF
      exact finG [] [] rfl rfl (m_val rfl) trivial rfl
    · refine Dz.skip ?_
      refine Dz.seq ?_
      refine Dz.reg ?_
      refine bdE hF (fun y3 hy3 hF => ?_)
      refine callG [] (l_toPanCallS_c hy3) ⟨m_val rfl, trivial⟩ trivial rfl ?_
      refine bdE hF (fun y4 hy4 hF => ?_)
      refine callG [] (l_toIntS_c hy4) ⟨m_val rfl, trivial⟩ trivial rfl ?_
      refine bdE hF (fun y5 hy5 hF => ?_)
      refine callL [] (s_HistDo_c hy5) ⟨⟨rfl, ⟨rfl, rfl, LeU.refl _⟩, trivial⟩, ⟨rfl, ⟨rfl, rfl, LeU.refl _⟩, trivial⟩, trivial⟩ trivial rfl ⟨⟨trivial, trivial⟩, trivial⟩ ?_
      refine Dz.seq ?_
      refine Dz.reg ?_
      refine bdE hF (fun y6 hy6 hF => ?_)
      refine callG [] (l_toPanCallS_c hy6) ⟨m_val rfl, trivial⟩ trivial rfl ?_
      refine Dz.seq ?_
      refine Dz.reg ?_
      refine bdE hF (fun y7 hy7 hF => ?_)
      refine callG [] (l_toIntS_c hy7) ⟨m_val rfl, trivial⟩ trivial rfl ?_
      refine Dz.seq ?_
      refine Dz.reg ?_
      refine bdE hF (fun y8 hy8 hF => ?_)
      refine callL [] (i_HistDo_c hy8) ⟨⟨rfl, ⟨rfl, rfl, LeU.refl _⟩, trivial⟩, ⟨rfl, ⟨rfl, rfl, LeU.refl _⟩, trivial⟩, trivial⟩ trivial rfl ⟨⟨trivial, trivial⟩, trivial⟩ ?_
      refine Dz.seq ?_
      refine Dz.seq ?_
      refine Dz.ent (x := ([(0, .val false [.u (ul PanCall.c 12 t0_0 a0)]), (1, .val false [.u (ul cInt 1 t1_0 a1)]), (6, vbool y5), (7, .val false [.row 0]), (8, .val false [.row 1]), (9, vbool y8)], [.row 64 y6.length 12 (gl PanCall.c y6), .row 3 y7.length 1 (gl cInt y7)])) (entG [2, 3] ⟨m_val rfl, m_val rfl, m_val rfl, ⟨rfl, rfl, trivial⟩, ⟨rfl, rfl, trivial⟩, m_val rfl, trivial⟩ ⟨⟨rfl, o_row⟩, ⟨rfl, o_row⟩, trivial⟩ rfl) ?_
      refine Dz.reg ?_
      refine Dz.ite rfl hF (fun _ hF => ?_) (fun _ hF => ?_)
      · refine Dz.seq ?_
        refine Dz.reg ?_
        refine Dz.ret ?_
        cases hF
        exact finG [] [] rfl rfl (m_val rfl) trivial rfl
      · refine Dz.skip ?_
        refine Dz.seq ?_
        refine Dz.seq ?_
        refine Dz.reg ?_
        refine bdE hF (fun y9 hy9 hF => ?_)
        refine callG [] (l_toPanCallS_c hy9) ⟨m_val rfl, trivial⟩ trivial rfl ?_
        refine bdE hF (fun y10 hy10 hF => ?_)
        refine callL [] (l_eqPanCallS_c hy10) ⟨⟨rfl, ⟨rfl, rfl, LeU.refl _⟩, trivial⟩, ⟨rfl, ⟨rfl, rfl, LeU.refl _⟩, trivial⟩, trivial⟩ trivial rfl ⟨⟨trivial, trivial⟩, trivial⟩ ?_
        refine Dz.ite rfl hF (fun _ hF => ?_) (fun _ hF => ?_)
        · refine Dz.seq ?_
          refine Dz.reg ?_
          refine Dz.ret ?_
          cases hF
          exact finG [] [] rfl rfl (m_val rfl) trivial rfl
        · refine Dz.skip ?_
          refine Dz.seq ?_
          refine Dz.seq ?_
          refine Dz.reg ?_
          refine bdE hF (fun y11 hy11 hF => ?_)
          refine callG [] (l_toIntS_c hy11) ⟨m_val rfl, trivial⟩ trivial rfl ?_
          refine bdE hF (fun y12 hy12 hF => ?_)
          refine callL [] (l_eqIntS_c hy12) ⟨⟨rfl, ⟨rfl, rfl, LeU.refl _⟩, trivial⟩, ⟨rfl, ⟨rfl, rfl, LeU.refl _⟩, trivial⟩, trivial⟩ trivial rfl ⟨⟨trivial, trivial⟩, trivial⟩ ?_
          refine Dz.ite rfl hF (fun _ hF => ?_) (fun _ hF => ?_)
          · refine Dz.seq ?_
            refine Dz.reg ?_
            refine Dz.ret ?_
            cases hF
            exact finG [] [] rfl rfl (m_val rfl) trivial rfl
          · refine Dz.skip ?_
            refine Dz.seq ?_
            refine Dz.reg ?_
            refine Dz.ret ?_
            cases hF
            exact finG [] [] rfl rfl (m_val rfl) trivial rfl
end Go.Proofs.PanH

/-! Plain laws: words. -/
namespace Go.Proofs.PanH
open Go.Vs

section words
variable {α R : Type}
theorem lt_eq (a : α) (f : α → Option R) : lt a f = f a := rfl
theorem jn_eq (rest : α → Option R) (m : (α → Option R) → Option R) : jn rest m = m rest := rfl
theorem ck_pos {p : Prop} [Decidable p] {X : Option R} (h : p) : ck p X = X := if_pos h
theorem ix_pos [Inhabited α] {L : List α} {i : Int} {κ : α → Option R} (h : 0 ≤ i ∧ i < (L.length : Int)) : ix L i κ = κ (L.getD i.toNat default) := if_pos h
theorem ix_nat [Inhabited α] {L : List α} {i : Nat} {κ : α → Option R} (h : i < L.length) : ix L ((i : Nat) : Int) κ = κ (L.getD i default) := by
  rw [ix_pos (by omega)]; rfl
theorem w64_eq {n : Int} (h1 : -9223372036854775808 ≤ n) (h2 : n < 9223372036854775808) : w64 n = n := (wrap64 h1 h2).symm

theorem loopN_ok {body : Nat → Unit → (Unit → Option R) → Option R} {after : Unit → Option R} : ∀ (d i0 : Nat), (∀ i κ, i0 ≤ i → i < i0 + d → body i () κ = κ ()) → loopN body after d i0 () = after ()
  | 0, _, _ => rfl
  | d + 1, i0, hb => by
    show body i0 () (loopN body after d (i0 + 1)) = _
    rw [hb i0 _ (Nat.le_refl _) (by omega)]
    exact loopN_ok d (i0 + 1) fun i κ h1 h2 => hb i κ (by omega) (by omega)
/-- So for all. -/
def allN (p : Nat → Bool) : Nat → Nat → Bool
  | 0, _ => true
  | d + 1, i => p i && allN p d (i + 1)
theorem allN_iff (p : Nat → Bool) : ∀ (d i0 : Nat), allN p d i0 = true ↔ ∀ i, i0 ≤ i → i < i0 + d → p i = true
  | 0, i0 => ⟨fun _ i h1 h2 => by omega, fun _ => rfl⟩
  | d + 1, i0 => by
    simp only [allN, Bool.and_eq_true, allN_iff p d (i0 + 1)]
    constructor
    · rintro ⟨h1, h2⟩ i h3 h4
      rcases Nat.eq_or_lt_of_le h3 with h5 | h5
      · rw [← h5]; exact h1
      · exact h2 i h5 (by omega)
    · intro h
      exact ⟨h i0 (Nat.le_refl _) (by omega), fun i h3 h4 => h i (by omega) (by omega)⟩
theorem loopN_all {body : Nat → Unit → (Unit → Option R) → Option R} {after : Unit → Option R} {r0 : Option R} (p : Nat → Bool) : ∀ (d i0 : Nat),
    (∀ i κ, i0 ≤ i → i < i0 + d → body i () κ = cond (p i) (κ ()) r0) → loopN body after d i0 () = cond (allN p d i0) (after ()) r0
  | 0, i0, _ => rfl
  | d + 1, i0, hb => by
    show body i0 () (loopN body after d (i0 + 1)) = cond (p i0 && allN p d (i0 + 1)) _ _
    rw [hb i0 _ (Nat.le_refl _) (by omega), loopN_all p d (i0 + 1) (fun i κ h1 h2 => hb i κ (by omega) (by omega))]
    cases p i0 <;> rfl

/-- A loop that goes through, and carries something. -/
theorem loopN_inv {body : Nat → α → (α → Option R) → Option R} {after : α → Option R} (I : Nat → α → Prop) : ∀ (d i0 : Nat) (a : α), I i0 a → (∀ i a κ, i0 ≤ i → i < i0 + d → I i a → ∃ a', I (i + 1) a' ∧ body i a κ = κ a') →
    ∃ a', I (i0 + d) a' ∧ loopN body after d i0 a = after a'
  | 0, i0, a, h, _ => ⟨a, h, rfl⟩
  | d + 1, i0, a, h, hb => by
    obtain ⟨a', h1, h2⟩ := hb i0 a (loopN body after d (i0 + 1)) (Nat.le_refl _) (by omega) h
    obtain ⟨a2, h3, h4⟩ := loopN_inv I d (i0 + 1) a' h1 (fun i a κ h5 h6 h7 => hb i a κ (by omega) (by omega) h7)
    exact ⟨a2, by rw [show i0 + (d + 1) = i0 + 1 + d by omega]; exact h3, by show body i0 a (loopN body after d (i0 + 1)) = _; rw [h2, h4]⟩

/-- Two loops side by side. -/
theorem loopN_sim {α β : Type} {b1 : Nat → α → (α → Option R) → Option R} {a1 : α → Option R} {b2 : Nat → β → (β → Option R) → Option R} {a2 : β → Option R} (I : Nat → α → β → Prop) : ∀ (d i0 : Nat) (x : α) (y : β), I i0 x y →
    (∀ i x y κ1 κ2, i0 ≤ i → i < i0 + d → I i x y → (∀ x' y', I (i + 1) x' y' → κ1 x' = κ2 y') → b1 i x κ1 = b2 i y κ2) → (∀ x y, I (i0 + d) x y → a1 x = a2 y) → loopN b1 a1 d i0 x = loopN b2 a2 d i0 y
  | 0, i0, x, y, h, _, ha => ha x y h
  | d + 1, i0, x, y, h, hb, ha => by
    show b1 i0 x (loopN b1 a1 d (i0 + 1)) = b2 i0 y (loopN b2 a2 d (i0 + 1))
    refine hb i0 x y _ _ (Nat.le_refl _) (by omega) h fun x' y' h' => ?_
    exact loopN_sim I d (i0 + 1) x' y' h' (fun i x y κ1 κ2 h1 h2 h3 h4 => hb i x y κ1 κ2 (by omega) (by omega) h3 h4) (fun x y h5 => ha x y (by rw [show i0 + (d + 1) = i0 + 1 + d by omega]; exact h5))
end words

/-! ### Small functions -/
def inB (n lo hi : Int) : Bool := decide (lo ≤ n ∧ n ≤ hi)
theorem s_l6In_eq (a b c : Int) : s_l6In a b c = some (inB a b c) := by
  unfold s_l6In inB
  by_cases h : b ≤ a <;> simp [h]
theorem i_in_eq (a b c : Int) : i_in a b c = some (inB a b c) := by
  unfold i_in inB
  by_cases h : b ≤ a <;> simp [h]
theorem i_isClient_eq (a : Int) : i_isClient a = some (inB a 0 3) := by
  unfold i_isClient; rw [i_in_eq]; rfl

/-! ### Conversions -/
theorem set_take {α : Type} {L1 L2 : List α} {i : Nat} [Inhabited α] (hi : i < L2.length) (hl : L1.length = L2.length) (h : L1.take i = L2.take i) : (L1.set i (L2.getD i default)).take (i + 1) = L2.take (i + 1) := by
  apply List.ext_getElem?
  intro j
  have hj : (L1.take i)[j]? = (L2.take i)[j]? := by rw [h]
  rw [List.getElem?_take, List.getElem?_take] at hj ⊢
  by_cases h1 : j < i + 1
  · rw [if_pos h1, if_pos h1]
    by_cases h2 : j = i
    · subst h2
      rw [List.getElem?_set_self (by omega), List.getD_eq_getElem?_getD, List.getElem?_eq_getElem hi]; rfl
    · rw [List.getElem?_set_ne (fun e => h2 e.symm)]
      rw [if_pos (by omega), if_pos (by omega)] at hj
      exact hj
  · rw [if_neg h1, if_neg h1]

theorem l_toPanCall_eq (a : PanCall) : l_toPanCall a = some a := rfl
theorem l_toPanCallS_eq (L : List PanCall) (h : L.length * 96 ≤ 140737488355328) : l_toPanCallS L = some L := by
  unfold l_toPanCallS
  rw [ck_pos (by omega)]
  obtain ⟨a', ⟨h1, h2⟩, h3⟩ := loopN_inv (fun i (v : List PanCall) => v.length = L.length ∧ v.take i = L.take i) (body := fun i2 (v11 : List PanCall) κ12 => lt (L.getD i2 default) (fun x14 => (l_toPanCall x14).bind (fun y15 => ix v11 ((i2 : Nat) : Int) (fun _ => κ12 (v11.set i2 y15))))) (after := fun v => some v) L.length 0 _ ⟨List.length_replicate, rfl⟩
    (fun i a κ _ hi ⟨h1, h2⟩ => ⟨a.set i (L.getD i default), ⟨by simpa using h1, set_take (by omega) h1 h2⟩, by
      simp only [lt_eq, l_toPanCall_eq, Option.bind_some]
      rw [ix_nat (by omega)]⟩)
  rw [h3]
  rw [Nat.zero_add, List.take_of_length_le (by omega), List.take_of_length_le (by omega)] at h2
  rw [h2]
theorem l_toIntS_eq (L : List Int) (h : L.length * 8 ≤ 140737488355328) : l_toIntS L = some L := by
  unfold l_toIntS
  rw [ck_pos (by omega)]
  obtain ⟨a', ⟨h1, h2⟩, h3⟩ := loopN_inv (fun i (v : List Int) => v.length = L.length ∧ v.take i = L.take i) (body := fun i2 (v7 : List Int) κ8 => ix v7 ((i2 : Nat) : Int) (fun _ => κ8 (v7.set i2 (L.getD i2 default)))) (after := fun v => some v) L.length 0 _ ⟨List.length_replicate, rfl⟩
    (fun i a κ _ hi ⟨h1, h2⟩ => ⟨a.set i (L.getD i default), ⟨by simpa using h1, set_take (by omega) h1 h2⟩, by rw [ix_nat (by omega)]⟩)
  rw [h3]
  rw [Nat.zero_add, List.take_of_length_le (by omega), List.take_of_length_le (by omega)] at h2
  rw [h2]
theorem l_eqPanCall_eq (a : PanCall) : l_eqPanCall a a = some true := by simp [l_eqPanCall]
theorem l_eqPanCallS_eq (L : List PanCall) : l_eqPanCallS L L = some true := by
  unfold l_eqPanCallS
  simp only [decide_true, Bool.not_true, cond_false]
  rw [loopN_ok _ _ (fun i κ _ hi => by
    simp only [lt_eq]
    rw [ix_nat (by omega)]
    simp [l_eqPanCall_eq])]
theorem l_eqIntS_eq (L : List Int) : l_eqIntS L L = some true := by
  unfold l_eqIntS
  simp only [decide_true, Bool.not_true, cond_false]
  rw [loopN_ok _ _ (fun i κ _ hi => by
    rw [ix_nat (by omega)]
    simp)]
theorem l_szPanCallS_eq (L : List PanCall) (h : L.length ≤ 140737488355328) : l_szPanCallS L 1048576 = some (if L.length ≤ 1048576 then 1048576 - (L.length : Int) else -1) := by
  unfold l_szPanCallS
  rw [w64_eq (by omega) (by omega)]
  by_cases h1 : L.length ≤ 1048576
  · rw [if_pos h1, decide_eq_false (by omega)]; rfl
  · rw [if_neg h1, decide_eq_true (by omega)]; rfl
end Go.Proofs.PanH

/-! Plain laws: calls in form, pieces. -/
namespace Go.Proofs.PanH
open Go.Vs

/-- How many of some places. -/
def cntN (q : Nat → Bool) : Nat → Nat → Nat
  | 0, _ => 0
  | d + 1, i => cond (q i) 1 0 + cntN q d (i + 1)
theorem cntN_le (q : Nat → Bool) : ∀ d i, cntN q d i ≤ d
  | 0, _ => Nat.le_refl _
  | d + 1, i => by
    have := cntN_le q d (i + 1)
    simp only [cntN]
    cases q i <;> simp only [cond_true, cond_false] <;> omega
/-- A loop that counts, and may end early. -/
theorem loopN_cnt {R : Type} {body : Nat → Int → (Int → Option R) → Option R} {after : Int → Option R} {r0 : Option R} (p q : Nat → Bool) (n : Nat) (hn : n ≤ 1000000) : ∀ (d i0 : Nat) (v : Nat), i0 + d ≤ n → v ≤ i0 →
    (∀ i (v : Nat) κ, i0 ≤ i → i < i0 + d → v ≤ i → body i v κ = cond (p i) (κ ((v + cond (q i) 1 0 : Nat) : Int)) r0) → loopN body after d i0 v = cond (allN p d i0) (after ((v + cntN q d i0 : Nat) : Int)) r0
  | 0, i0, v, _, _, _ => rfl
  | d + 1, i0, v, h1, h2, hb => by
    show body i0 v (loopN body after d (i0 + 1)) = _
    rw [hb i0 v _ (Nat.le_refl _) (by omega) h2]
    have hle : v + cond (q i0) 1 0 ≤ i0 + 1 := by cases q i0 <;> simp only [cond_true, cond_false] <;> omega
    rw [loopN_cnt p q n hn d (i0 + 1) _ (by omega) hle (fun i v κ h3 h4 h5 => hb i v κ (by omega) (by omega) h5)]
    simp only [allN, cntN, Nat.add_assoc]
    cases p i0 <;> rfl

def nthC (L : List PanCall) (n : Nat) (cl : Int) : Nat := cntN (fun k => decide ((L.getD k default).Client = cl)) n 0
def endB (c : PanCall) : Bool := cond (decide (c.End = 0)) (decide (c.Code = 0) && decide (c.Value = 0)) (!c.Over && (inB c.End (c.Begin + 1) 99999 && (inB c.Code 0 5 && inB c.Value 0 99999)))
def selfB (c : PanCall) : Bool := inB c.Client 0 3 && (inB c.Op 1 6 && (inB c.Disk 0 99999 && (inB c.Block 0 99999 && (inB c.Epoch 0 99999 && (inB c.Data 0 99999 && (inB c.Begin 1 99999 && endB c))))))
def prevB (L : List PanCall) (i : Nat) : Bool := decide (0 < i → (L.getD (i - 1) default).Begin < (L.getD i default).Begin)
def callB (L : List PanCall) (i : Nat) : Bool := selfB (L.getD i default) && (decide ((L.getD i default).Call = (nthC L i (L.getD i default).Client : Int) + 1) && prevB L i)
def pastB (L : List PanCall) (i k : Nat) : Bool := !decide ((L.getD k default).Client = (L.getD i default).Client) || ((L.getD k default).Over || (!decide ((L.getD k default).End = 0) && decide ((L.getD k default).End < (L.getD i default).Begin)))
def callsB (L : List PanCall) : Bool := decide (L.length ≤ 10) && allN (fun i => callB L i && allN (pastB L i) i 0) L.length 0

theorem inB_of {n lo hi : Int} (h : inB n lo hi = true) : lo ≤ n ∧ n ≤ hi := of_decide_eq_true h

theorem s_l61Nth_eq (L : List PanCall) (n : Nat) (cl : Int) (h : n ≤ L.length) (hl : L.length ≤ 10) : s_l61Nth L n cl = some (nthC L n cl : Int) := by
  unfold s_l61Nth
  rw [ck_pos (by omega)]
  have := loopN_cnt (R := Int) (body := fun i1 (v6 : Int) κ7 => ix L ((i1 : Nat) : Int) (fun x8 => cond (decide (x8.Client = cl)) (κ7 (w64 (v6 + 1))) (κ7 v6))) (after := fun v => some v) (r0 := none) (fun _ => true) (fun k => decide ((L.getD k default).Client = cl)) n (by omega) n 0 0 (by omega) (Nat.le_refl _)
    (fun i v κ _ hi hv => by
      rw [ix_nat (by omega), w64_eq (by omega) (by omega)]
      show cond (decide ((L.getD i default).Client = cl)) _ _ = _
      cases decide ((L.getD i default).Client = cl) <;> simp)
  rw [show ((n : Int).toNat) = n from rfl]
  refine this.trans ?_
  rw [show allN (fun _ => true) n 0 = true from (allN_iff _ _ _).2 fun _ _ _ => rfl]
  simp [nthC]

theorem cond_and (a b : Bool) (X : Option Bool) : cond a (cond b X (some false)) (some false) = cond (a && b) X (some false) := by cases a <;> rfl
theorem cond_not {A : Type} (a : Bool) (X Y : A) : cond (!a) X Y = cond a Y X := by cases a <;> rfl
theorem cond_some (a : Bool) (b : Bool) : cond a (some b) (some false) = some (a && b) := by cases a <;> rfl

theorem s_l61CallOk_eq (L : List PanCall) (i : Nat) (hi : i < L.length) (hl : L.length ≤ 10) : s_l61CallOk L i 99999 = some (callB L i) := by
  unfold s_l61CallOk
  have hn := cntN_le (fun k => decide ((L.getD k default).Client = (L.getD i default).Client)) i 0
  rw [ix_nat hi]
  generalize hc : L.getD i default = c at *
  simp only [s_l6In_eq, Option.bind_some, jn_eq, cond_not]
  rw [s_l61Nth_eq L i c.Client (by omega) hl]
  simp only [Option.bind_some]
  have hnn : nthC L i c.Client ≤ i := hn
  rw [w64_eq (n := (nthC L i c.Client : Int) + 1) (by omega) (by omega)]
  unfold callB selfB
  rw [hc]
  cases h1 : inB c.Client 0 3 <;> simp only [cond_true, cond_false, Bool.true_and, Bool.false_and]
  cases h2 : decide (c.Call = (nthC L i c.Client : Int) + 1) <;> simp only [cond_true, cond_false, Bool.false_and, Bool.and_false, Bool.true_and]
  cases h3 : inB c.Op 1 6 <;> simp only [cond_true, cond_false, Bool.false_and, Bool.and_false, Bool.true_and]
  cases h4 : inB c.Disk 0 99999 <;> simp only [cond_true, cond_false, Bool.false_and, Bool.and_false, Bool.true_and]
  cases h5 : inB c.Block 0 99999 <;> simp only [cond_true, cond_false, Bool.false_and, Bool.and_false, Bool.true_and]
  cases h6 : inB c.Epoch 0 99999 <;> simp only [cond_true, cond_false, Bool.false_and, Bool.and_false, Bool.true_and]
  cases h7 : inB c.Data 0 99999 <;> simp only [cond_true, cond_false, Bool.false_and, Bool.and_false, Bool.true_and]
  cases h8 : inB c.Begin 1 99999 <;> simp only [cond_true, cond_false, Bool.false_and, Bool.and_false, Bool.true_and]
  have hb := inB_of h8
  rw [w64_eq (n := c.Begin + 1) (by omega) (by omega)]
  have hend : (cond (decide (c.End = 0)) (cond (decide (c.Code = 0)) (some (decide (c.Value = 0))) (some false)) (cond c.Over (some false) (cond (inB c.End (c.Begin + 1) 99999) (cond (inB c.Code 0 5) (some (inB c.Value 0 99999)) (some false)) (some false)))) = some (endB c) := by
    unfold endB
    cases decide (c.End = 0) <;> cases decide (c.Code = 0) <;> cases c.Over <;> cases inB c.End (c.Begin + 1) 99999 <;> cases inB c.Code 0 5 <;> rfl
  rw [hend]
  unfold prevB
  rw [hc]
  by_cases hp : 0 < i
  · have e : ((i : Int) - 1) = ((i - 1 : Nat) : Int) := by omega
    rw [decide_eq_true (show (0 : Int) < (i : Int) by omega), cond_true, w64_eq (by omega) (by omega), e, ix_nat (by omega)]
    show cond (decide (c.Begin ≤ (L.getD (i - 1) default).Begin)) _ _ = _
    by_cases hq : c.Begin ≤ (L.getD (i - 1) default).Begin
    · rw [decide_eq_true hq, decide_eq_false (fun hh => by have := hh hp; omega)]; simp
    · rw [decide_eq_false hq, decide_eq_true (fun _ => by omega)]; simp
  · rw [decide_eq_false (show ¬ (0 : Int) < (i : Int) by omega), decide_eq_true (fun h => absurd h hp)]; simp

theorem s_l61CallsOk_eq (L : List PanCall) : s_l61CallsOk L 99999 = some (callsB L) := by
  unfold s_l61CallsOk callsB
  by_cases hl : L.length ≤ 10
  · rw [decide_eq_false (by omega), cond_false, decide_eq_true hl, Bool.true_and]
    refine (loopN_all (r0 := some false) (fun i => callB L i && allN (pastB L i) i 0) L.length 0 (fun i κ _ hi => ?_)).trans (by cases allN _ _ _ <;> rfl)
    rw [s_l61CallOk_eq L i (by omega) hl]
    simp only [Option.bind_some, cond_not]
    rw [loopN_all (r0 := some false) (pastB L i) i 0 (fun k κ _ hk => by
      simp only [ix_nat (show k < L.length by omega)]
      unfold pastB
      have e : decide ((L.getD i default).Begin ≤ (L.getD k default).End) = !decide ((L.getD k default).End < (L.getD i default).Begin) := by
        by_cases h : (L.getD k default).End < (L.getD i default).Begin
        · rw [decide_eq_true h, decide_eq_false (by omega)]; rfl
        · rw [decide_eq_false h, decide_eq_true (by omega)]; rfl
      rw [e]
      cases decide ((L.getD k default).Client = (L.getD i default).Client) <;> cases (L.getD k default).Over <;> cases decide ((L.getD k default).End = 0) <;> cases decide ((L.getD k default).End < (L.getD i default).Begin) <;> rfl)]
    cases callB L i <;> rfl
  · rw [decide_eq_true (by omega), decide_eq_false hl]; rfl

theorem i_callsOk_eq (L : List PanCall) : i_callsOk L 99999 = some (callsB L) := by
  unfold i_callsOk callsB
  by_cases hl : L.length ≤ 10
  · rw [decide_eq_false (by omega), cond_false, decide_eq_true hl, Bool.true_and]
    refine (loopN_all (r0 := some false) (fun i => callB L i && allN (pastB L i) i 0) L.length 0 (fun i κ _ hi => ?_)).trans (by cases allN _ _ _ <;> rfl)
    have hn := cntN_le (fun k => decide ((L.getD k default).Client = (L.getD i default).Client)) i 0
    simp only [lt_eq, jn_eq, i_in_eq, i_isClient_eq, Option.bind_some, cond_not]
    rw [ck_pos (by omega)]
    have hloop : ∀ after : Int → Option Bool, loopN (fun i46 (v51 : Int) κ52 => ix (L.take i) ((i46 : Nat) : Int) (fun x53 => cond (decide (x53.Client = (L.getD i default).Client)) (cond x53.Over (κ52 (w64 (v51 + 1))) (cond (decide (x53.End = 0)) (some false) (cond (decide ((L.getD i default).Begin ≤ x53.End)) (some false) (κ52 (w64 (v51 + 1)))))) (κ52 v51))) after (((i : Nat) : Int).toNat) 0 0 =
        cond (allN (pastB L i) i 0) (after ((nthC L i (L.getD i default).Client : Nat) : Int)) (some false) := by
      intro after
      have := loopN_cnt (R := Bool) (body := fun i46 (v51 : Int) κ52 => ix (L.take i) ((i46 : Nat) : Int) (fun x53 => cond (decide (x53.Client = (L.getD i default).Client)) (cond x53.Over (κ52 (w64 (v51 + 1))) (cond (decide (x53.End = 0)) (some false) (cond (decide ((L.getD i default).Begin ≤ x53.End)) (some false) (κ52 (w64 (v51 + 1)))))) (κ52 v51))) (after := after) (r0 := some false) (pastB L i) (fun k => decide ((L.getD k default).Client = (L.getD i default).Client)) i (by omega) i 0 0 (by omega) (Nat.le_refl _)
        (fun k v κ _ hk hv => by
          rw [ix_nat (by rw [List.length_take]; omega), w64_eq (by omega) (by omega)]
          have ex : (L.take i).getD k default = L.getD k default := by
            rw [List.getD_eq_getElem?_getD, List.getD_eq_getElem?_getD, List.getElem?_take_of_lt (by omega)]
          rw [ex]
          unfold pastB
          have e : decide ((L.getD i default).Begin ≤ (L.getD k default).End) = !decide ((L.getD k default).End < (L.getD i default).Begin) := by
            by_cases h : (L.getD k default).End < (L.getD i default).Begin
            · rw [decide_eq_true h, decide_eq_false (by omega)]; rfl
            · rw [decide_eq_false h, decide_eq_true (by omega)]; rfl
          rw [e]
          cases decide ((L.getD k default).Client = (L.getD i default).Client) <;> cases (L.getD k default).Over <;> cases decide ((L.getD k default).End = 0) <;> cases decide ((L.getD k default).End < (L.getD i default).Begin) <;> simp)
      rw [show (((i : Nat) : Int).toNat) = i from rfl]
      refine this.trans ?_
      simp [nthC]
    rw [hloop]
    have hnn : nthC L i (L.getD i default).Client ≤ i := hn
    rw [w64_eq (n := (nthC L i (L.getD i default).Client : Int) + 1) (by omega) (by omega)]
    unfold callB selfB prevB
    generalize L.getD i default = c at *
    generalize allN (pastB L i) i 0 = past at *
    generalize (nthC L i c.Client : Int) = nth at *
    cases h8 : inB c.Begin 1 99999
    · simp
    · have hb := inB_of h8
      rw [w64_eq (n := c.Begin + 1) (by omega) (by omega)]
      simp only [cond_true]
      have key : ∀ (pv : Bool), (cond pv (cond (inB c.Client 0 3) (cond (inB c.Op 1 6) (cond (inB c.Disk 0 99999) (cond (inB c.Block 0 99999) (cond (inB c.Epoch 0 99999) (cond (inB c.Data 0 99999)
          (cond (decide (c.End = 0)) (cond (decide (c.Code = 0)) (cond (decide (c.Value = 0)) (cond (decide (c.End = 0)) (cond past (cond (decide (c.Call = nth + 1)) (κ ()) (some false)) (some false)) (cond (inB c.End (c.Begin + 1) 99999) (cond c.Over (some false) (cond (inB c.Code 0 5) (cond (inB c.Value 0 99999) (cond past (cond (decide (c.Call = nth + 1)) (κ ()) (some false)) (some false)) (some false)) (some false))) (some false))) (some false)) (some false))
            (cond (decide (c.End = 0)) (cond past (cond (decide (c.Call = nth + 1)) (κ ()) (some false)) (some false)) (cond (inB c.End (c.Begin + 1) 99999) (cond c.Over (some false) (cond (inB c.Code 0 5) (cond (inB c.Value 0 99999) (cond past (cond (decide (c.Call = nth + 1)) (κ ()) (some false)) (some false)) (some false)) (some false))) (some false))))
          (some false)) (some false)) (some false)) (some false)) (some false)) (some false)) (some false)) =
          cond ((inB c.Client 0 3 && (inB c.Op 1 6 && (inB c.Disk 0 99999 && (inB c.Block 0 99999 && (inB c.Epoch 0 99999 && (inB c.Data 0 99999 && (true && endB c))))))) && (decide (c.Call = nth + 1) && pv) && past) (κ ()) (some false) := by
        intro pv
        unfold endB
        generalize κ () = X
        cases pv
        · simp
        cases inB c.Client 0 3
        · simp
        cases inB c.Op 1 6
        · simp
        cases inB c.Disk 0 99999
        · simp
        cases inB c.Block 0 99999
        · simp
        cases inB c.Epoch 0 99999
        · simp
        cases inB c.Data 0 99999
        · simp
        cases decide (c.End = 0)
        · cases inB c.End (c.Begin + 1) 99999 <;> cases c.Over <;> cases inB c.Code 0 5 <;> cases inB c.Value 0 99999 <;> cases past <;> cases decide (c.Call = nth + 1) <;> rfl
        · cases decide (c.Code = 0) <;> cases decide (c.Value = 0) <;> cases past <;> cases decide (c.Call = nth + 1) <;> rfl
      by_cases hp : 0 < i
      · have e : ((i : Int) - 1) = ((i - 1 : Nat) : Int) := by omega
        rw [decide_eq_true (show (0 : Int) < (i : Int) by omega)]
        simp only [cond_true]
        rw [e, ix_nat (by omega)]
        by_cases hq : c.Begin ≤ (L.getD (i - 1) default).Begin
        · have hd : decide (0 < i → (L.getD (i - 1) default).Begin < c.Begin) = false := decide_eq_false (fun hh => by have := hh hp; omega)
          rw [decide_eq_true hq, hd]; simp
        · have hd : decide (0 < i → (L.getD (i - 1) default).Begin < c.Begin) = true := decide_eq_true (fun _ => by omega)
          rw [decide_eq_false hq, hd]
          simp only [cond_false]
          exact key true
      · have hd : decide (0 < i → (L.getD (i - 1) default).Begin < c.Begin) = true := decide_eq_true (fun h => absurd h hp)
        rw [decide_eq_false (show ¬ (0 : Int) < (i : Int) by omega), hd]
        simp only [cond_false]
        exact key true
  · rw [decide_eq_true (by omega), decide_eq_false hl]; rfl
end Go.Proofs.PanH

/-! Plain laws: pieces. -/
namespace Go.Proofs.PanH
open Go.Vs

/-- Ahead of another piece. -/
def ahead (a b : BlkPiece) : Bool := cond (decide (a.Disk = b.Disk)) (cond (decide (a.Block = b.Block)) (decide (a.Epoch < b.Epoch)) (decide (a.Block < b.Block))) (decide (a.Disk < b.Disk))
def keyEq (a b : BlkPiece) : Bool := decide (a.Disk = b.Disk) && (decide (a.Block = b.Block) && decide (a.Epoch = b.Epoch))
theorem s_l3Before_eq (a : BlkPiece) (d b e : Int) (x : Int) : s_l3Before a d b e = some (ahead a ⟨d, b, e, x⟩) := by
  unfold s_l3Before ahead
  cases decide (a.Disk = d) <;> cases decide (a.Block = b) <;> rfl
theorem s_l3Before_eq' (a b : BlkPiece) : s_l3Before a b.Disk b.Block b.Epoch = some (ahead a b) := s_l3Before_eq a _ _ _ 0

theorem i_pieceWay_eq (a b : BlkPiece) : i_pieceWay a b = some (cond (keyEq a b) 0 (cond (ahead a b) (-1) 1)) := by
  unfold i_pieceWay
  simp only [loopN]
  rw [ix_pos (by simp), ix_pos (by simp), ix_pos (by simp)]
  simp only [lt_eq]
  unfold keyEq ahead
  show cond (decide (a.Disk < b.Disk)) (some (-1)) (cond (decide (b.Disk < a.Disk)) (some 1) (cond (decide (a.Block < b.Block)) (some (-1)) (cond (decide (b.Block < a.Block)) (some 1) (cond (decide (a.Epoch < b.Epoch)) (some (-1)) (cond (decide (b.Epoch < a.Epoch)) (some 1) (some 0)))))) = _
  have tri : ∀ x y : Int, (x < y ∧ ¬ y < x ∧ ¬ x = y) ∨ (y < x ∧ ¬ x < y ∧ ¬ x = y) ∨ (x = y ∧ ¬ x < y ∧ ¬ y < x) := fun x y => by omega
  rcases tri a.Disk b.Disk with ⟨h1, h2, h3⟩ | ⟨h1, h2, h3⟩ | ⟨h1, h2, h3⟩ <;> simp only [h1, h2, h3, decide_true, decide_false, cond_true, cond_false, Bool.false_and, Bool.true_and] <;> try rfl
  all_goals
    simp only [Int.lt_irrefl, decide_false, cond_false, decide_true, cond_true, Bool.true_and]
    rcases tri a.Block b.Block with ⟨h4, h5, h6⟩ | ⟨h4, h5, h6⟩ | ⟨h4, h5, h6⟩ <;> simp only [h4, h5, h6, decide_true, decide_false, cond_true, cond_false, Bool.false_and, Bool.true_and] <;> try rfl
  all_goals
    simp only [Int.lt_irrefl, decide_false, cond_false, decide_true, cond_true, Bool.true_and]
    rcases tri a.Epoch b.Epoch with ⟨h7, h8, h9⟩ | ⟨h7, h8, h9⟩ | ⟨h7, h8, h9⟩ <;> simp only [h7, h8, h9, decide_true, decide_false, cond_true, cond_false] <;> try rfl
  all_goals simp only [Int.lt_irrefl, decide_false, cond_false]

def pieceB (x : BlkPiece) : Bool := inB x.Disk 1 99999 && (inB x.Block 0 99999 && (inB x.Epoch 1 99999 && inB x.Data 0 99999))
def pieceAt (L : List BlkPiece) (i : Nat) : Bool := pieceB (L.getD i default) && decide (0 < i → ahead (L.getD (i - 1) default) (L.getD i default) = true)
def blkB (L : List BlkPiece) : Bool := decide (L.length ≤ 60) && allN (pieceAt L) L.length 0

theorem keyEq_ahead {a b : BlkPiece} (h : keyEq a b = true) : ahead a b = false := by
  unfold keyEq at h
  simp only [Bool.and_eq_true, decide_eq_true_eq] at h
  unfold ahead
  rw [decide_eq_true h.1, decide_eq_true h.2.1, h.2.2]
  simp

theorem s_BlkOk_eq (L : List BlkPiece) : s_BlkOk L = some (blkB L) := by
  unfold s_BlkOk blkB
  by_cases hl : L.length ≤ 60
  · rw [decide_eq_false (by omega), decide_eq_true hl]
    refine (loopN_all (r0 := some false) (pieceAt L) L.length 0 (fun i κ _ hi => ?_)).trans (by cases allN _ _ _ <;> rfl)
    simp only [lt_eq, s_l6In_eq, Option.bind_some, cond_not, s_l3Before_eq']
    unfold pieceAt pieceB
    generalize hx : L.getD i default = x
    generalize κ () = X
    cases inB x.Disk 1 99999
    · rfl
    cases inB x.Block 0 99999
    · rfl
    cases inB x.Epoch 1 99999
    · rfl
    cases inB x.Data 0 99999
    · rfl
    simp only [cond_true, Bool.true_and]
    by_cases hp : 0 < i
    · have e : ((i : Int) - 1) = ((i - 1 : Nat) : Int) := by omega
      rw [decide_eq_true (show (0 : Int) < (i : Int) by omega), cond_true, e, ix_nat (by omega)]
      cases ha : ahead (L.getD (i - 1) default) x
      · rw [decide_eq_false (fun hh => by have := hh hp; cases this)]
      · rw [decide_eq_true (fun _ => rfl)]
    · rw [decide_eq_false (show ¬ (0 : Int) < (i : Int) by omega), decide_eq_true (fun h => absurd h hp)]; rfl
  · rw [decide_eq_true (by omega), decide_eq_false hl]; rfl

theorem i_BlkOk_eq (L : List BlkPiece) : i_BlkOk L = some (blkB L) := by
  unfold i_BlkOk blkB
  have hlen : decide (((L.length : Nat) : Int) ≤ 60) = decide (L.length ≤ 60) := by
    by_cases h : L.length ≤ 60
    · rw [decide_eq_true h, decide_eq_true (by omega)]
    · rw [decide_eq_false h, decide_eq_false (by omega)]
  rw [hlen]
  refine (loopN_all (r0 := some false) (pieceAt L) L.length 0 (fun i κ _ hi => ?_)).trans (by cases allN _ _ _ <;> cases decide (L.length ≤ 60) <;> rfl)
  simp only [lt_eq, i_in_eq, Option.bind_some, cond_not, i_pieceWay_eq]
  unfold pieceAt pieceB
  generalize hx : L.getD i default = x
  generalize κ () = X
  cases inB x.Disk 1 99999
  · rfl
  cases inB x.Epoch 1 99999
  · cases inB x.Block 0 99999 <;> rfl
  cases inB x.Block 0 99999
  · rfl
  cases inB x.Data 0 99999
  · rfl
  simp only [cond_true, Bool.true_and]
  by_cases hp : 0 < i
  · have e : ((i : Int) - 1) = ((i - 1 : Nat) : Int) := by omega
    rw [decide_eq_true (show (0 : Int) < (i : Int) by omega), cond_true, e, ix_nat (by omega)]
    cases hk : keyEq (L.getD (i - 1) default) x
    · cases ha : ahead (L.getD (i - 1) default) x
      · rw [decide_eq_false (p := 0 < i → _) (fun hh => by have := hh hp; cases this)]; rfl
      · rw [decide_eq_true (p := 0 < i → _) (fun _ => rfl)]; rfl
    · rw [decide_eq_false (p := 0 < i → _) (fun hh => by have := hh hp; rw [keyEq_ahead hk] at this; cases this)]; rfl
  · rw [decide_eq_false (show ¬ (0 : Int) < (i : Int) by omega), decide_eq_true (p := 0 < i → _) (fun h => absurd h hp)]; rfl

theorem cpy_rep {α : Type} (L : List α) (z : α) : cpy (List.replicate L.length z) L = L := by
  unfold cpy; simp
theorem copied_eq {α : Type} (L : List α) (z : α) {b : Int} (h : 0 ≤ ((L.length : Nat) : Int) ∧ ((L.length : Nat) : Int) * b ≤ 140737488355328) :
    cond (decide (((L.length : Nat) : Int) = 0)) (some ([] : List α)) (ck (0 ≤ ((L.length : Nat) : Int) ∧ ((L.length : Nat) : Int) * b ≤ 140737488355328) (some (cpy (List.replicate L.length z) L))) = some L := by
  rw [ck_pos h, cpy_rep]
  by_cases h0 : L = []
  · subst h0; rfl
  · rw [decide_eq_false (by have := List.length_pos_iff.2 h0; omega)]; rfl
theorem i_copied_BlkPiece_eq (L : List BlkPiece) (h : L.length ≤ 1000) : i_copied_BlkPiece L = some L := copied_eq L _ (by omega)
theorem i_copied_MapDisk_eq (L : List MapDisk) (h : L.length ≤ 1000) : i_copied_MapDisk L = some L := copied_eq L _ (by omega)
theorem i_copied_int_eq (L : List Int) (h : L.length ≤ 1000) : i_copied_int L = some L := copied_eq L _ (by omega)

theorem blkB_len {L : List BlkPiece} (h : blkB L = true) : L.length ≤ 60 := by
  unfold blkB at h
  rw [Bool.and_eq_true] at h
  exact of_decide_eq_true h.1

/-- A way of two pieces, out of the one that is ahead. -/
theorem way_facts (p x : BlkPiece) : keyEq p x = keyEq x p ∧ (keyEq p x = true → ahead x p = false) ∧ (keyEq p x = false → ahead p x = !ahead x p) := by
  unfold keyEq ahead
  grind

/-- BlkPut: both put alike; what is made is in form. -/
theorem blkPut_eq (L : List BlkPiece) (d b e x : Int) (hL : blkB L = true) : ∃ r, s_BlkPut L d b e x = some r ∧ i_BlkPut L d b e x = some r ∧ blkB r.1 = true := by
  have hlen := blkB_len hL
  have hinv : ∃ v : Bool × List BlkPiece, v.2.length ≤ 120 ∧
      (∀ after : Bool × List BlkPiece → Option (List BlkPiece × Bool), loopN (fun i2 (v23 : Bool × List BlkPiece) κ24 => lt (L.getD i2 default) (fun x26 => jn (fun (v28 : Bool) => jn (fun (v31 : Bool × List BlkPiece) => cond (!v28) (ck ((v31.2.length + 1) * 32 ≤ 140737488355328) (κ24 (v31.1, (v31.2 ++ ([x26] : List BlkPiece))))) (κ24 (v31.1, v31.2))) (fun j32 => cond (!v23.1) ((s_l3Before x26 d b e).bind (fun y33 => cond (!y33) (ck ((v23.2.length + 1) * 32 ≤ 140737488355328) (j32 (true, (v23.2 ++ ([({ Disk := d, Block := b, Epoch := e, Data := x } : BlkPiece)] : List BlkPiece))))) (j32 (v23.1, v23.2)))) (j32 (v23.1, v23.2)))) (fun j34 => cond (decide (x26.Disk = d)) (cond (decide (x26.Block = b)) (j34 (decide (x26.Epoch = e))) (j34 false)) (j34 false)))) after L.length 0 (false, ([] : List BlkPiece)) = after v) ∧
      (∀ after : Bool × List BlkPiece → Option (List BlkPiece × Bool), loopN (fun i3 (v18 : Bool × List BlkPiece) κ19 => lt (L.getD i3 default) (fun x20 => (i_pieceWay ({ Disk := d, Block := b, Epoch := e, Data := x } : BlkPiece) x20).bind (fun y21 => jn (fun (v24 : Bool × List BlkPiece) => cond (!decide (y21 = 0)) (ck ((v24.2.length + 1) * 32 ≤ 140737488355328) (κ19 (v24.1, (v24.2 ++ ([x20] : List BlkPiece))))) (κ19 (v24.1, v24.2))) (fun j25 => cond (decide (y21 ≤ 0)) (cond (!v18.1) (ck ((v18.2.length + 1) * 32 ≤ 140737488355328) (j25 (true, (v18.2 ++ ([({ Disk := d, Block := b, Epoch := e, Data := x } : BlkPiece)] : List BlkPiece))))) (j25 (v18.1, v18.2))) (j25 (v18.1, v18.2)))))) after L.length 0 (false, ([] : List BlkPiece)) = after v) := by
    let p : BlkPiece := ⟨d, b, e, x⟩
    let F : Nat → Bool × List BlkPiece → Bool × List BlkPiece := fun i v =>
      let y := L.getD i default
      let v1 : Bool × List BlkPiece := cond (!v.1 && !ahead y p) (true, v.2 ++ [p]) v
      cond (keyEq p y) v1 (v1.1, v1.2 ++ [y])
    have step : ∀ i (v : Bool × List BlkPiece), v.2.length ≤ 2 * i → (F i v).2.length ≤ 2 * (i + 1) := by
      intro i v hv
      show (cond (keyEq p (L.getD i default)) _ _ : Bool × List BlkPiece).2.length ≤ _
      cases keyEq p (L.getD i default) <;> cases (!v.1 && !ahead (L.getD i default) p) <;> simp <;> omega
    let v0 : Nat → Nat → Bool × List BlkPiece → Bool × List BlkPiece := fun d => Nat.rec (fun _ v => v) (fun _ ih i v => ih (i + 1) (F i v)) d
    have hv0 : ∀ d i v, v.2.length ≤ 2 * i → (v0 d i v).2.length ≤ 2 * (i + d) := by
      intro d
      induction d with
      | zero => intro i v hv; exact hv
      | succ d ih => intro i v hv; have := ih (i + 1) _ (step i v hv); show (v0 d (i + 1) (F i v)).2.length ≤ _; omega
    have gen : ∀ (body : Nat → Bool × List BlkPiece → (Bool × List BlkPiece → Option (List BlkPiece × Bool)) → Option (List BlkPiece × Bool)) (after : Bool × List BlkPiece → Option (List BlkPiece × Bool)),
        (∀ i v κ, i < L.length → v.2.length ≤ 2 * i → body i v κ = κ (F i v)) → ∀ d i v, i + d ≤ L.length → v.2.length ≤ 2 * i → loopN body after d i v = after (v0 d i v) := by
      intro body after hb d
      induction d with
      | zero => intro i v _ _; rfl
      | succ d ih =>
        intro i v hd hv
        show body i v (loopN body after d (i + 1)) = _
        rw [hb i v _ (by omega) hv, ih (i + 1) _ (by omega) (step i v hv)]
    refine ⟨v0 L.length 0 (false, []), by have := hv0 L.length 0 (false, []) (by simp); omega, fun after => ?_, fun after => ?_⟩
    · refine gen _ after (fun i v κ hi hv => ?_) _ _ _ (by omega) (by simp)
      simp only [lt_eq, jn_eq, cond_not]
      rw [s_l3Before_eq _ d b e x]
      simp only [Option.bind_some]
      show _ = κ (cond (keyEq p (L.getD i default)) (cond (!v.1 && !ahead (L.getD i default) p) (true, v.2 ++ [p]) v) ((cond (!v.1 && !ahead (L.getD i default) p) (true, v.2 ++ [p]) v).1, (cond (!v.1 && !ahead (L.getD i default) p) (true, v.2 ++ [p]) v).2 ++ [L.getD i default]))
      rw [(way_facts p (L.getD i default)).1]
      have hk : keyEq (L.getD i default) p = (decide ((L.getD i default).Disk = d) && (decide ((L.getD i default).Block = b) && decide ((L.getD i default).Epoch = e))) := rfl
      rw [hk]
      obtain ⟨v1, v2⟩ := v
      simp only at hv ⊢
      show _ = κ _
      change _ = κ (cond _ (cond (!v1 && !ahead (L.getD i default) (⟨d, b, e, x⟩ : BlkPiece)) (true, v2 ++ [(⟨d, b, e, x⟩ : BlkPiece)]) (v1, v2)) ((cond (!v1 && !ahead (L.getD i default) (⟨d, b, e, x⟩ : BlkPiece)) (true, v2 ++ [(⟨d, b, e, x⟩ : BlkPiece)]) (v1, v2)).1, (cond (!v1 && !ahead (L.getD i default) (⟨d, b, e, x⟩ : BlkPiece)) (true, v2 ++ [(⟨d, b, e, x⟩ : BlkPiece)]) (v1, v2)).2 ++ [L.getD i default]))
      cases decide ((L.getD i default).Disk = d) <;> cases decide ((L.getD i default).Block = b) <;> cases decide ((L.getD i default).Epoch = e) <;> cases v1 <;> cases ahead (L.getD i default) (⟨d, b, e, x⟩ : BlkPiece) <;>
        simp only [cond_true, cond_false, Bool.true_and, Bool.false_and, Bool.and_false, Bool.not_true, Bool.not_false, Bool.and_true] <;>
        first
          | rfl
          | (rw [ck_pos (by omega)]; done)
          | (rw [ck_pos (by omega), ck_pos (by first | omega | (simp; omega))])
    · refine gen _ after (fun i v κ hi hv => ?_) _ _ _ (by omega) (by simp)
      simp only [lt_eq, jn_eq, cond_not, i_pieceWay_eq, Option.bind_some]
      obtain ⟨w1, w2, w3⟩ := way_facts p (L.getD i default)
      obtain ⟨v1, v2⟩ := v
      simp only at hv ⊢
      change _ = κ (cond (keyEq (⟨d, b, e, x⟩ : BlkPiece) (L.getD i default)) (cond (!v1 && !ahead (L.getD i default) (⟨d, b, e, x⟩ : BlkPiece)) (true, v2 ++ [(⟨d, b, e, x⟩ : BlkPiece)]) (v1, v2)) ((cond (!v1 && !ahead (L.getD i default) (⟨d, b, e, x⟩ : BlkPiece)) (true, v2 ++ [(⟨d, b, e, x⟩ : BlkPiece)]) (v1, v2)).1, (cond (!v1 && !ahead (L.getD i default) (⟨d, b, e, x⟩ : BlkPiece)) (true, v2 ++ [(⟨d, b, e, x⟩ : BlkPiece)]) (v1, v2)).2 ++ [L.getD i default]))
      change keyEq (⟨d, b, e, x⟩ : BlkPiece) (L.getD i default) = true → _ at w2
      change keyEq (⟨d, b, e, x⟩ : BlkPiece) (L.getD i default) = false → _ at w3
      change _ → ahead (L.getD i default) (⟨d, b, e, x⟩ : BlkPiece) = false at w2
      change _ → ahead (⟨d, b, e, x⟩ : BlkPiece) (L.getD i default) = !ahead (L.getD i default) (⟨d, b, e, x⟩ : BlkPiece) at w3
      cases hk : keyEq (⟨d, b, e, x⟩ : BlkPiece) (L.getD i default)
      · rw [w3 hk]
        cases v1 <;> cases ahead (L.getD i default) (⟨d, b, e, x⟩ : BlkPiece) <;> simp <;>
          first
            | rfl
            | (rw [ck_pos (by omega)]; done)
            | (rw [ck_pos (by omega), ck_pos (by first | omega | (simp; omega))])
      · rw [w2 hk]
        cases v1 <;> simp <;>
          first
            | rfl
            | (rw [ck_pos (by omega)]; done)
            | (rw [ck_pos (by omega), ck_pos (by first | omega | (simp; omega))])
  obtain ⟨⟨v1, v2⟩, hv, hs, hi⟩ := hinv
  simp only at hv
  unfold s_BlkPut i_BlkPut
  rw [s_BlkOk_eq, i_BlkOk_eq, hL]
  simp only [Option.bind_some, Bool.not_true, cond_false]
  rw [hs, hi]
  simp only [cond_not]
  have fin : ∀ v : List BlkPiece, v.length ≤ 121 → ∃ r, (s_BlkOk v).bind (fun y => cond y (some (v, true)) (ck ((0 + L.length) * 32 ≤ 140737488355328) (some ((([] : List BlkPiece) ++ L), false)))) = some r ∧
      (i_BlkOk v).bind (fun y => cond y ((i_copied_BlkPiece v).bind (fun y => some (y, true))) ((i_copied_BlkPiece L).bind (fun y => some (y, false)))) = some r ∧ blkB r.1 = true := by
    intro v hv
    rw [s_BlkOk_eq, i_BlkOk_eq, i_copied_BlkPiece_eq v (by omega), i_copied_BlkPiece_eq L (by omega), ck_pos (by omega)]
    cases h : blkB v
    · exact ⟨(L, false), rfl, rfl, hL⟩
    · exact ⟨(v, true), rfl, rfl, h⟩
  cases v1
  · simp only [cond_false, ck_pos (show (v2.length + 1) * 32 ≤ 140737488355328 by omega)]
    refine fin _ ?_
    simp only [List.length_append, List.length_cons, List.length_nil]
    omega
  · simp only [cond_true]
    exact fin v2 (by omega)

theorem blkGet_eq (L : List BlkPiece) (d b e : Int) : s_BlkGet L d b e = i_BlkGet L d b e := by
  unfold s_BlkGet i_BlkGet
  rw [s_BlkOk_eq, i_BlkOk_eq]
  rfl
theorem blkGet_some (L : List BlkPiece) (d b e : Int) : ∃ r, i_BlkGet L d b e = some r := by
  unfold i_BlkGet
  rw [i_BlkOk_eq]
  cases blkB L
  · exact ⟨0, rfl⟩
  · simp only [Option.bind_some, Bool.not_true, cond_false]
    obtain ⟨a, _, h⟩ := loopN_inv (R := Int) (fun _ (_ : Int) => True) (body := fun i3 (v8 : Int) κ9 => lt (L.getD i3 default) (fun x10 => cond (decide (x10.Disk = d)) (cond (decide (x10.Block = b)) (cond (decide (x10.Epoch ≤ e)) (κ9 x10.Data) (κ9 v8)) (κ9 v8)) (κ9 v8))) (after := fun (v8 : Int) => some v8) L.length 0 0 trivial
      (fun i a κ _ _ _ => by
        simp only [lt_eq]
        cases decide ((L.getD i default).Disk = d)
        · exact ⟨a, trivial, rfl⟩
        cases decide ((L.getD i default).Block = b)
        · exact ⟨a, trivial, rfl⟩
        cases decide ((L.getD i default).Epoch ≤ e)
        · exact ⟨a, trivial, rfl⟩
        · exact ⟨_, trivial, rfl⟩)
    exact ⟨a, h⟩
end Go.Proofs.PanH
